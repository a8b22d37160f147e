/- Part. -/
import Derived.Test.YtnoobdijbpmjkaaGreatM4
set_option linter.unusedVariables false
set_option linter.unusedSimpArgs false
namespace Go.Proofs.YtnoobdijbpmjkaaGreat
open Go Go.Gx
theorem isSl_all {α : Type} {E : Enc α} {w : World} {v : Value} {l : List α} {x : α} (h : IsSl E w v (l ++ [x])) : IsSl E w (subS E.size v 0 (l.length + 1)) (l ++ [x]) := by
  have := h.sub (l := 0) (k := l.length + 1) (by omega) (by simp)
  rwa [List.take_of_length_le (by simp), List.drop_zero] at this
theorem getD_mark {α : Type} (l : List α) (x z : α) (i : Nat) (h : i = l.length) : (l ++ [x]).getD i z = x := by
  subst h
  simp [List.getD]
theorem marked_ok (y : CB) (l : CL) (d : Int) (w : World) (hm : ConfAt w (y.c d) (markL l)) : Calls Tryz.prog 19 #[eConf.val ((subC y l).c d)] w (RetV w (.bool true)) := by
  have hs := hm.sub
  have hm0 : IsSl iE w y.o1.v (l.ps ++ [(777 : Int)]) := hm.ps
  have hle0 := hm0.le
  rw [List.length_append, List.length_singleton] at hle0
  have hm1 : IsSl eRoute w y.o2.v (l.rs ++ [mkRo]) := hm.rs
  have hle1 := hm1.le
  rw [List.length_append, List.length_singleton] at hle1
  have hm2 : IsSl eRule w y.o3.v (l.us ++ [mkRu]) := hm.us
  have hle2 := hm2.le
  rw [List.length_append, List.length_singleton] at hle2
  have hm3 : IsSl eMeterConf w y.o4.v (l.ms ++ [mkMe]) := hm.ms
  have hle3 := hm3.le
  rw [List.length_append, List.length_singleton] at hle3
  have hm4 : IsSl eMirrorConf w y.o5.v (l.xs ++ [mkMi]) := hm.xs
  have hle4 := hm4.le
  rw [List.length_append, List.length_singleton] at hle4
  refine en0 80 Tryz.func19 ?_
  refine sg (cons (box (E := eConf) (.t rfl) (fun b1 => ?_)))
  refine co (Ev.assign (.c (v := .bool false) rfl)) ?_
  refine nP (seq (draw' (by kernel_rfl) ?_))
  refine tk 0 rfl (fA 0 (.t rfl)) ?_
  refine tk 1 rfl (Ev.ldv ty22 (.t rfl) SConf.l_ports) ?_
  refine tk 2 rfl (Ev.len Tryz.underlying22 (.t rfl) (fun w I => (hs.keep0 I.keeps).ps)) ?_
  refine tk 3 rfl (fA 1 (.t rfl)) ?_
  refine tk 4 rfl (Ev.ldv ty23 (.t rfl) SConf.l_routes) ?_
  refine tk 5 rfl (Ev.len Tryz.underlying23 (.t rfl) (fun w I => (hs.keep0 I.keeps).rs)) ?_
  refine tk 6 rfl (fA 2 (.t rfl)) ?_
  refine tk 7 rfl (Ev.ldv ty24 (.t rfl) SConf.l_rules) ?_
  refine tk 8 rfl (Ev.len Tryz.underlying24 (.t rfl) (fun w I => (hs.keep0 I.keeps).us)) ?_
  refine tk 9 rfl (fA 3 (.t rfl)) ?_
  refine tk 10 rfl (Ev.ldv ty25 (.t rfl) SConf.l_meters) ?_
  refine tk 11 rfl (Ev.len Tryz.underlying25 (.t rfl) (fun w I => (hs.keep0 I.keeps).ms)) ?_
  refine tk 12 rfl (fA 4 (.t rfl)) ?_
  refine tk 13 rfl (Ev.ldv ty26 (.t rfl) SConf.l_mirrors) ?_
  refine tk 14 rfl (Ev.len Tryz.underlying26 (.t rfl) (fun w I => (hs.keep0 I.keeps).xs)) ?_
  refine tk 15 rfl (Ev.assign (.t rfl)) ?_
  refine tk 16 rfl (Ev.assign (.t rfl)) ?_
  refine tk 17 rfl (Ev.assign (.t rfl)) ?_
  refine tk 18 rfl (Ev.assign (.t rfl)) ?_
  refine tk 19 rfl (Ev.assign (.t rfl)) ?_
  refine ovr (pN (sg (co (fA 0 (.t rfl)) ?_)))
  refine co (Ev.ldv ty22 (.t rfl) SConf.l_ports) ?_
  refine mv rfl (co (Ev.add_i (.t rfl) (.c (v := I 1) rfl) (fun _ => by omega)) ?_)
  refine co (Ev.sliceUpH (n := l.ps.length) (xs := l.ps ++ [(777 : Int)]) Tryz.underlying22 ty3 (.t rfl) (.t rfl) (fun w I => hm0.keep0 I.keeps) (fun _ => by simp only [List.length_append, List.length_cons, List.length_nil]; omega)) ?_
  refine mv rfl (co (Ev.indexAddr Tryz.underlying22 ty3 (.t rfl) (.t rfl) (fun w I => isSl_all (hm0.keep0 I.keeps)) (fun _ => by simp only [List.length_append, List.length_cons, List.length_nil]; omega)) ?_)
  refine co (Ev.to (v' := I 777) (Ev.loadS0 ty3 (.t rfl) (fun w I => isSl_all (hm0.keep0 I.keeps)) (fun _ => by simp only [List.length_append, List.length_cons, List.length_nil]; omega)) (congrArg I (getD_mark l.ps 777 _ _ (by omega)))) ?_
  refine co (Ev.to (v' := .bool true) (Ev.eql_i (.t rfl) (.c (v := I 777) rfl)) (rfl)) ?_
  refine mv rfl (cg rfl rfl (fA 1 (.t rfl)) ?_)
  refine cg rfl rfl (Ev.ldv ty23 (.g rfl id) SConf.l_routes) ?_
  refine cg rfl rfl (Ev.move (.t rfl)) ?_
  refine cg rfl rfl (Ev.add_i (.g rfl id) (.c (v := I 1) rfl) (fun _ => by first | omega | (rename_i hg; simp at hg; omega))) ?_
  refine cg rfl rfl (Ev.sliceUpH (n := l.rs.length) (xs := l.rs ++ [mkRo]) Tryz.underlying23 ty52 (.g rfl id) (.g rfl id) (fun w I => hm1.keep0 I.keeps) (fun _ => by simp only [List.length_append, List.length_cons, List.length_nil]; omega)) ?_
  refine cg rfl rfl (Ev.move (.t rfl)) ?_
  refine cg rfl rfl (Ev.indexAddr Tryz.underlying23 ty52 (.g rfl id) (.g rfl id) (fun w I => isSl_all (hm1.keep0 I.keeps)) (fun _ => by simp only [List.length_append, List.length_cons, List.length_nil]; omega)) ?_
  refine cg rfl rfl (Ev.fieldAddrS (o := 18) (i := (l.rs.length : Int)) (.g rfl id) (fun w I => isSl_all (hm1.keep0 I.keeps)) (fun _ => by simp only [List.length_append, List.length_cons, List.length_nil]; omega) (by kernel_rfl)) ?_
  refine cg rfl rfl (Ev.to (v' := I 777) (Ev.loadS ty3 SRoute.l_out rfl (.g rfl id) (fun w I => isSl_all (hm1.keep0 I.keeps)) (fun _ => by simp only [List.length_append, List.length_cons, List.length_nil]; omega)) (congrArg (fun z => I (SRoute.l_out.get z)) (getD_mark l.rs mkRo _ _ (by omega)))) ?_
  refine cg rfl rfl (Ev.to (v' := .bool true) (Ev.eql_i (.g rfl id) (.c (v := I 777) rfl)) (rfl)) ?_
  refine co (Ev.to (v' := .bool true) (Ev.pkA (.t rfl) rfl) (rfl)) ?_
  refine mv rfl (cg rfl rfl (fA 2 (.t rfl)) ?_)
  refine cg rfl rfl (Ev.ldv ty24 (.g rfl id) SConf.l_rules) ?_
  refine cg rfl rfl (Ev.move (.t rfl)) ?_
  refine cg rfl rfl (Ev.add_i (.g rfl id) (.c (v := I 1) rfl) (fun _ => by first | omega | (rename_i hg; simp at hg; omega))) ?_
  refine cg rfl rfl (Ev.sliceUpH (n := l.us.length) (xs := l.us ++ [mkRu]) Tryz.underlying24 ty76 (.g rfl id) (.g rfl id) (fun w I => hm2.keep0 I.keeps) (fun _ => by simp only [List.length_append, List.length_cons, List.length_nil]; omega)) ?_
  refine cg rfl rfl (Ev.move (.t rfl)) ?_
  refine cg rfl rfl (Ev.indexAddr Tryz.underlying24 ty76 (.g rfl id) (.g rfl id) (fun w I => isSl_all (hm2.keep0 I.keeps)) (fun _ => by simp only [List.length_append, List.length_cons, List.length_nil]; omega)) ?_
  refine cg rfl rfl (Ev.fieldAddrS (o := 46) (i := (l.us.length : Int)) (.g rfl id) (fun w I => isSl_all (hm2.keep0 I.keeps)) (fun _ => by simp only [List.length_append, List.length_cons, List.length_nil]; omega) (by kernel_rfl)) ?_
  refine cg rfl rfl (Ev.to (v' := I 777) (Ev.loadS ty3 SRule.l_out rfl (.g rfl id) (fun w I => isSl_all (hm2.keep0 I.keeps)) (fun _ => by simp only [List.length_append, List.length_cons, List.length_nil]; omega)) (congrArg (fun z => I (SRule.l_out.get z)) (getD_mark l.us mkRu _ _ (by omega)))) ?_
  refine cg rfl rfl (Ev.to (v' := .bool true) (Ev.eql_i (.g rfl id) (.c (v := I 777) rfl)) (rfl)) ?_
  refine co (Ev.to (v' := .bool true) (Ev.pkA (.t rfl) rfl) (rfl)) ?_
  refine mv rfl (cg rfl rfl (fA 3 (.t rfl)) ?_)
  refine cg rfl rfl (Ev.ldv ty25 (.g rfl id) SConf.l_meters) ?_
  refine cg rfl rfl (Ev.move (.t rfl)) ?_
  refine cg rfl rfl (Ev.add_i (.g rfl id) (.c (v := I 1) rfl) (fun _ => by first | omega | (rename_i hg; simp at hg; omega))) ?_
  refine cg rfl rfl (Ev.sliceUpH (n := l.ms.length) (xs := l.ms ++ [mkMe]) Tryz.underlying25 ty57 (.g rfl id) (.g rfl id) (fun w I => hm3.keep0 I.keeps) (fun _ => by simp only [List.length_append, List.length_cons, List.length_nil]; omega)) ?_
  refine cg rfl rfl (Ev.move (.t rfl)) ?_
  refine cg rfl rfl (Ev.indexAddr Tryz.underlying25 ty57 (.g rfl id) (.g rfl id) (fun w I => isSl_all (hm3.keep0 I.keeps)) (fun _ => by simp only [List.length_append, List.length_cons, List.length_nil]; omega)) ?_
  refine cg rfl rfl (Ev.fieldAddrS (o := 0) (i := (l.ms.length : Int)) (.g rfl id) (fun w I => isSl_all (hm3.keep0 I.keeps)) (fun _ => by simp only [List.length_append, List.length_cons, List.length_nil]; omega) (by kernel_rfl)) ?_
  refine cg rfl rfl (Ev.to (v' := .string ⟨#[55, 55, 55]⟩) (Ev.loadS ty9 SMeterConf.l_name rfl (.g rfl id) (fun w I => isSl_all (hm3.keep0 I.keeps)) (fun _ => by simp only [List.length_append, List.length_cons, List.length_nil]; omega)) (congrArg (fun z => Value.string (SMeterConf.l_name.get z)) (getD_mark l.ms mkMe _ _ (by omega)))) ?_
  refine cg rfl rfl (Ev.to (v' := .bool true) (Ev.eql_s (.g rfl id) (.c (v := (Go.Value.string (ByteArray.mk #[55, 55, 55]))) rfl)) (rfl)) ?_
  refine co (Ev.to (v' := .bool true) (Ev.pkA (.t rfl) rfl) (rfl)) ?_
  refine mv rfl (cg rfl rfl (fA 4 (.t rfl)) ?_)
  refine cg rfl rfl (Ev.ldv ty26 (.g rfl id) SConf.l_mirrors) ?_
  refine cg rfl rfl (Ev.move (.t rfl)) ?_
  refine cg rfl rfl (Ev.add_i (.g rfl id) (.c (v := I 1) rfl) (fun _ => by first | omega | (rename_i hg; simp at hg; omega))) ?_
  refine cg rfl rfl (Ev.sliceUpH (n := l.xs.length) (xs := l.xs ++ [mkMi]) Tryz.underlying26 ty59 (.g rfl id) (.g rfl id) (fun w I => hm4.keep0 I.keeps) (fun _ => by simp only [List.length_append, List.length_cons, List.length_nil]; omega)) ?_
  refine cg rfl rfl (Ev.move (.t rfl)) ?_
  refine cg rfl rfl (Ev.indexAddr Tryz.underlying26 ty59 (.g rfl id) (.g rfl id) (fun w I => isSl_all (hm4.keep0 I.keeps)) (fun _ => by simp only [List.length_append, List.length_cons, List.length_nil]; omega)) ?_
  refine cg rfl rfl (Ev.fieldAddrS (o := 1) (i := (l.xs.length : Int)) (.g rfl id) (fun w I => isSl_all (hm4.keep0 I.keeps)) (fun _ => by simp only [List.length_append, List.length_cons, List.length_nil]; omega) (by kernel_rfl)) ?_
  refine cg rfl rfl (Ev.to (v' := I 777) (Ev.loadS ty3 SMirrorConf.l_out rfl (.g rfl id) (fun w I => isSl_all (hm4.keep0 I.keeps)) (fun _ => by simp only [List.length_append, List.length_cons, List.length_nil]; omega)) (congrArg (fun z => I (SMirrorConf.l_out.get z)) (getD_mark l.xs mkMi _ _ (by omega)))) ?_
  refine cg rfl rfl (Ev.to (v' := .bool true) (Ev.eql_i (.g rfl id) (.c (v := I 777) rfl)) (rfl)) ?_
  refine co (Ev.to (v' := .bool true) (Ev.pkA (.t rfl) rfl) (rfl)) ?_
  refine asn rfl (nP (ret (done rfl (.tmp rfl .nil) (retE ?_))))
  rfl
abbrev OC (x : CB) (l : CL) : Res := Seps (OwnS x.o1.v iE l.ps 3) [OwnS x.o2.v eRoute l.rs 52, OwnS x.o3.v eRule l.us 76, OwnS x.o4.v eMeterConf l.ms 57, OwnS x.o5.v eMirrorConf l.xs 59]
theorem put_mem {α β : Type} {q : α → α → Bool} (k : α) (v : β) : ∀ (l : List (α × β)) (p : α × β), p ∈ putL q k v l → p.1 = k ∨ ∃ p' ∈ l, p'.1 = p.1
  | [], p, h => by
    unfold putL at h
    exact .inl (by rw [List.mem_singleton.1 h])
  | e :: l, p, h => by
    unfold putL at h
    split at h
    · rcases List.mem_cons.1 h with rfl | h
      · exact .inl rfl
      · exact .inr ⟨p, List.mem_cons_of_mem _ h, rfl⟩
    · rcases List.mem_cons.1 h with rfl | h
      · exact .inr ⟨p, List.mem_cons_self, rfl⟩
      · rcases put_mem k v l p h with h | ⟨p', h1, h2⟩
        · exact .inl h
        · exact .inr ⟨p', List.mem_cons_of_mem _ h1, h2⟩
def Uniq {α β : Type} (q : α → α → Bool) (l : List (α × β)) : Prop := l.Pairwise (fun a b => q a.1 b.1 = false)
theorem put_uniq {α β : Type} {q : α → α → Bool} (hi : ∀ x y, q x y = true ↔ x = y) (k : α) (v : β) : ∀ l : List (α × β), Uniq q l → Uniq q (putL q k v l)
  | [], _ => by
    unfold putL Uniq
    exact List.pairwise_singleton _ _
  | e :: l, h => by
    obtain ⟨h1, h2⟩ := List.pairwise_cons.1 h
    unfold putL
    split
    · rename_i hq
      have e2 := (hi _ _).1 hq
      exact List.pairwise_cons.2 ⟨fun b hb => by show q k b.1 = false; rw [e2]; exact h1 b hb, h2⟩
    · rename_i hq
      refine List.pairwise_cons.2 ⟨fun b hb => ?_, put_uniq hi k v l h2⟩
      rcases put_mem k v l b hb with h3 | ⟨p', h3, h4⟩
      · rw [h3, Bool.eq_false_iff]
        intro h5
        exact hq ((hi _ _).2 ((hi _ _).1 h5).symm)
      · rw [← h4]
        exact h1 p' h3
theorem find_uniq {α β : Type} {q : α → α → Bool} (hi : ∀ x y, q x y = true ↔ x = y) : ∀ (l : List (α × β)), Uniq q l → ∀ p ∈ l, findV q p.1 l = some p.2
  | [], _, p, hp => by cases hp
  | e :: l, h, p, hp => by
    obtain ⟨h1, h2⟩ := List.pairwise_cons.1 h
    rw [findV_cons]
    rcases List.mem_cons.1 hp with rfl | hp
    · rw [if_pos ((hi _ _).2 rfl)]
    · have hn : ¬ q p.1 e.1 = true := fun h3 => by
        have := h1 p hp
        rw [(hi _ _).2 ((hi _ _).1 h3).symm] at this
        cases this
      rw [if_neg hn]
      exact find_uniq hi l h2 p hp
theorem find_mem {α β : Type} {q : α → α → Bool} {k : α} {v : β} : ∀ (l : List (α × β)), findV q k l = some v → ∃ p ∈ l, p.2 = v
  | [], h => by cases h
  | e :: l, h => by
    rw [findV_cons] at h
    split at h
    · exact ⟨e, List.mem_cons_self, Option.some.inj h⟩
    · obtain ⟨p, h1, h2⟩ := find_mem l h
      exact ⟨p, List.mem_cons_of_mem _ h1, h2⟩
theorem inc_uniq {α : Type} {q : α → α → Bool} (hi : ∀ x y, q x y = true ↔ x = y) (d : Int) (l : List α) {m : List (α × Int)} (hm : Uniq q m) : ∀ n, Uniq q (incN q d l m n)
  | 0 => hm
  | n + 1 => by
    unfold incN
    split
    · exact inc_uniq hi d l hm n
    · exact put_uniq hi _ _ _ (inc_uniq hi d l hm n)
theorem alike_val {α : Type} {q : α → α → Bool} (hi : ∀ x y, q x y = true ↔ x = y) (l k : List α) (x : α) : (findV q x (alikeM q l k)).getD 0 = (l.countP (q x) : Int) - k.countP (q x) := by
  unfold alikeM
  rw [incN_val hi, incN_val hi, List.take_length, List.take_length]
  have e0 : (findV q x ([] : List (α × Int))).getD 0 = 0 := rfl
  rw [e0]
  omega
theorem alike_iff {α : Type} {q : α → α → Bool} (hi : ∀ x y, q x y = true ↔ x = y) (l k : List α) : alikeB q l k = true ↔ ∀ x, l.countP (q x) = k.countP (q x) := by
  have hu : Uniq q (alikeM q l k) := by
    unfold alikeM
    exact inc_uniq hi _ _ (inc_uniq hi _ _ List.Pairwise.nil _) _
  unfold alikeB
  rw [List.all_eq_true]
  constructor
  · intro h x
    have hv := alike_val hi l k x
    cases hf : findV q x (alikeM q l k) with
    | none => rw [hf] at hv; simp only [Option.getD_none] at hv; omega
    | some v =>
      obtain ⟨p, hp, e⟩ := find_mem _ hf
      have := of_decide_eq_true (h p hp)
      rw [hf] at hv
      simp only [Option.getD_some] at hv
      omega
  · intro h p hp
    have hv := alike_val hi l k p.1
    rw [find_uniq hi _ hu p hp, h p.1] at hv
    simp only [Option.getD_some] at hv
    exact decide_eq_true (by omega)
theorem perm_counts {α : Type} [DecidableEq α] : ∀ (l k : List α), l.length = k.length → (∀ x ∈ l, l.count x = k.count x) → l.Perm k
  | [], k, h, _ => by
    have : k = [] := List.length_eq_zero_iff.1 h.symm
    rw [this]
  | x :: l, k, h, hc => by
    have hx := hc x List.mem_cons_self
    rw [List.count_cons_self] at hx
    have hm : x ∈ k := List.count_pos_iff.1 (by omega)
    have hp := List.perm_cons_erase hm
    refine List.Perm.trans ?_ hp.symm
    refine List.Perm.cons x (perm_counts l (k.erase x) ?_ fun y hy => ?_)
    · rw [List.length_erase_of_mem hm]
      simp only [List.length_cons] at h
      omega
    · have h1 := hc y (List.mem_cons_of_mem _ hy)
      have h2 := hp.count_eq y
      rw [h1.symm, List.count_cons, List.count_cons] at h2
      omega
theorem count_q {α : Type} [DecidableEq α] {q : α → α → Bool} (hi : ∀ x y, q x y = true ↔ x = y) (l : List α) (x : α) : l.countP (q x) = l.count x := by
  unfold List.count
  refine List.countP_congr fun y _ => ?_
  rw [hi, beq_iff_eq]
  exact eq_comm
theorem alike_perm {α : Type} [DecidableEq α] {q : α → α → Bool} (hi : ∀ x y, q x y = true ↔ x = y) (l k : List α) : alikeB q l k = true ↔ l.Perm k := by
  rw [alike_iff hi, List.perm_iff_count]
  constructor
  · intro h x
    rw [← count_q hi, ← count_q hi]
    exact h x
  · intro h x
    rw [count_q hi, count_q hi]
    exact h x
def alikeR {α : Type} (q : α → α → Bool) (l k : List α) : Bool := decide (l.length = k.length) && l.all (fun x => decide (l.countP (q x) = k.countP (q x)))
theorem alikeR_eq {α : Type} [DecidableEq α] {q : α → α → Bool} (hi : ∀ x y, q x y = true ↔ x = y) (l k : List α) : alikeR q l k = alikeB q l k := by
  rw [Bool.eq_iff_iff, alike_perm hi]
  unfold alikeR
  rw [Bool.and_eq_true, decide_eq_true_iff, List.all_eq_true]
  constructor
  · rintro ⟨h1, h2⟩
    refine perm_counts l k h1 fun x hx => ?_
    have := of_decide_eq_true (h2 x hx)
    rwa [count_q hi, count_q hi] at this
  · intro h
    exact ⟨h.length_eq, fun x _ => decide_eq_true (h.countP_eq _)⟩
theorem rcopy_ok (c : SConf) (l : CL) (w : World) (hc : ConfAt w c l) (hs : l.Small) : Calls Tryz.prog 11 #[eConf.val c] w (RetN w (fun _ : CB => True) (fun x => eConf.val (x.c c.default)) (fun x => x.R l)) := by
  obtain ⟨hl0, hl1, hl2, hl3, hl4⟩ := hs
  refine en0 38 Tryz.func11 ?_
  refine sg (cons (box (E := eConf) (.t rfl) (fun b1 => ?_)))
  refine cons (alloc z28 (fun b2 => ?_))
  refine nP (sg (co (fA 5 (.t rfl)) ?_))
  refine co (Ev.ldx c.default ty3 (.t rfl) SConf.l_default) ?_
  refine co (Ev.buildS (fs := _) (places := [(0, 1), (1, 1), (2, 1), (3, 1), (4, 1), (5, 1)]) z28 rfl Tryz.underlying28 (by kernel_rfl) (.cons (.t rfl) .nil) (Fills.cons SConf.l_default rfl Fills.nil)) ?_
  refine cons (alloc z28 (fun b3 => ?_))
  refine cons (stv ty28 (Lens.id _) (.t rfl) (.t rfl) ?_)
  refine nP (seq (takeNil iE 3 ?_))
  refine region (co (fA 0 (.t rfl)) ?_)
  refine co (Ev.ldv ty22 (.t rfl) SConf.l_ports) ?_
  refine co (fA 0 (.t rfl)) ?_
  refine co (Ev.ldx c.ports ty22 (.t rfl) SConf.l_ports) ?_
  refine cons (app (E := iE) Tryz.underlying22 ty3 zb3 zs3 (.t rfl) (.t rfl) (fun v4 => ?_) (hsrc := (fun w I => (hc.keep0 I.keeps).ps)) (hby := ⟨by (show _ ≤ 9223372036854775807); simp only [List.length_nil]; omega, by simp only [List.length_nil]; omega⟩))
  refine co (fA 0 (.t rfl)) ?_
  refine cons (stv ty22 SConf.l_ports (.t rfl) (.t rfl) ?_)
  refine nP (seq (takeNil eRoute 52 ?_))
  refine region (co (fA 1 (.t rfl)) ?_)
  refine co (Ev.ldv ty23 (.t rfl) SConf.l_routes) ?_
  refine co (fA 1 (.t rfl)) ?_
  refine co (Ev.ldx c.routes ty23 (.t rfl) SConf.l_routes) ?_
  refine cons (app (E := eRoute) Tryz.underlying23 ty52 zb52 zs52 (.t rfl) (.t rfl) (fun v5 => ?_) (hsrc := (fun w I => (hc.keep0 I.keeps).rs)) (hby := ⟨by (show _ ≤ 9223372036854775807); simp only [List.length_nil]; omega, by simp only [List.length_nil]; omega⟩))
  refine co (fA 1 (.t rfl)) ?_
  refine cons (stv ty23 SConf.l_routes (.t rfl) (.t rfl) ?_)
  refine nP (seq (takeNil eRule 76 ?_))
  refine region (co (fA 2 (.t rfl)) ?_)
  refine co (Ev.ldv ty24 (.t rfl) SConf.l_rules) ?_
  refine co (fA 2 (.t rfl)) ?_
  refine co (Ev.ldx c.rules ty24 (.t rfl) SConf.l_rules) ?_
  refine cons (app (E := eRule) Tryz.underlying24 ty76 zb76 zs76 (.t rfl) (.t rfl) (fun v6 => ?_) (hsrc := (fun w I => (hc.keep0 I.keeps).us)) (hby := ⟨by (show _ ≤ 9223372036854775807); simp only [List.length_nil]; omega, by simp only [List.length_nil]; omega⟩))
  refine co (fA 2 (.t rfl)) ?_
  refine cons (stv ty24 SConf.l_rules (.t rfl) (.t rfl) ?_)
  refine nP (seq (takeNil eMeterConf 57 ?_))
  refine region (co (fA 3 (.t rfl)) ?_)
  refine co (Ev.ldv ty25 (.t rfl) SConf.l_meters) ?_
  refine co (fA 3 (.t rfl)) ?_
  refine co (Ev.ldx c.meters ty25 (.t rfl) SConf.l_meters) ?_
  refine cons (app (E := eMeterConf) Tryz.underlying25 ty57 zb57 zs57 (.t rfl) (.t rfl) (fun v7 => ?_) (hsrc := (fun w I => (hc.keep0 I.keeps).ms)) (hby := ⟨by (show _ ≤ 9223372036854775807); simp only [List.length_nil]; omega, by simp only [List.length_nil]; omega⟩))
  refine co (fA 3 (.t rfl)) ?_
  refine cons (stv ty25 SConf.l_meters (.t rfl) (.t rfl) ?_)
  refine nP (seq (takeNil eMirrorConf 59 ?_))
  refine region (co (fA 4 (.t rfl)) ?_)
  refine co (Ev.ldv ty26 (.t rfl) SConf.l_mirrors) ?_
  refine co (fA 4 (.t rfl)) ?_
  refine co (Ev.ldx c.mirrors ty26 (.t rfl) SConf.l_mirrors) ?_
  refine cons (app (E := eMirrorConf) Tryz.underlying26 ty59 zb59 zs59 (.t rfl) (.t rfl) (fun v8 => ?_) (hsrc := (fun w I => (hc.keep0 I.keeps).xs)) (hby := ⟨by (show _ ≤ 9223372036854775807); simp only [List.length_nil]; omega, by simp only [List.length_nil]; omega⟩))
  refine co (fA 4 (.t rfl)) ?_
  refine cons (stv ty26 SConf.l_mirrors (.t rfl) (.t rfl) ?_)
  refine nP (sg (co (Ev.ldv ty28 (.t rfl) (Lens.id _)) ?_))
  refine cons (stv ty28 (Lens.id _) (.t rfl) (.t rfl) ?_)
  refine nP (ret (done rfl (.cell rfl (fun w I => run_loadVar_pts ty28 (ptsVar (by repeat first | exact mH | apply mT | apply mA) (Lens.id _) w I)) .nil) (fun w I => ?_)))
  exact retNP (⟨v4, v5, v6, v7, v8⟩ : CB) trivial rfl (by repeat first | exact SubP.nil | refine SubP.cons (by repeat first | exact Rem.head | apply Rem.tail) ?_) w I
theorem samePorts_ok (u v : Value) (a b : List Int) (w : World) (ha : IsSl iE w u a) (hb : IsSl iE w v b) : Calls Tryz.prog 58 #[u, v] w (RetV w (.bool (decide (a = b)))) := by
  have hal := ha.le
  have hbl := hb.le
  refine en0 26 Tryz.func58 ?_
  refine sg (co (Ev.assign (.c (v := .bool false) rfl)) ?_)
  refine nP (seq (sg (mv rfl (co (Ev.len Tryz.underlying22 (.t rfl) (fun w I => ha.keep0 I.keeps)) ?_))))
  refine mv rfl (co (Ev.len Tryz.underlying22 (.t rfl) (fun w I => hb.keep0 I.keeps)) ?_)
  refine co (Ev.neq_i (.t rfl) (.t rfl)) ?_
  refine nP ?_
  first | refine condD rfl (fun hne => ?_) (fun hlen => ?_) | refine cond rfl (fun hne => ?_) (fun hlen => ?_)
  · try simp only [nb] at hne
    refine sg (co (Ev.assign (.c (v := .bool false) rfl)) ?_)
    refine nP (ret (pR (done rfl (.tmp rfl .nil) (retE ?_))))
    exact bF (fun e => by subst e; omega)
  · try simp only [nb] at hlen
    refine skip (pN (seq (sg (co (Ev.assign (.c (v := I 0) rfl)) ?_))))
    refine nP (block (lp (X := Int) (fun x : Int => (0 ≤ x ∧ x ≤ a.length) ∧ (a.take x.toNat = b.take x.toNat)) (fun x : Int => [(0, true, u), (1, true, v), (5, true, I x)]) (fun x : Int => []) (fun x : Int => (a.length - x).toNat) (0) ⟨?_, ?_⟩ (fun x hx => ?_)))
    · omega
    · rfl
    obtain ⟨i, rfl⟩ : ∃ y, y = x := ⟨x, rfl⟩
    obtain ⟨hi, ht⟩ : (0 ≤ i ∧ i ≤ a.length) ∧ (a.take i.toNat = b.take i.toNat) := hx
    show Sat _ _ [(0, true, u), (1, true, v), (5, true, I i)] []
    refine seq (sg (mv rfl (mv rfl (co (Ev.len Tryz.underlying22 (.t rfl) (fun w I => ha.keep0 I.keeps)) ?_))))
    refine co (Ev.lss_i (.t rfl) (.t rfl)) ?_
    refine nP ?_
    first | refine condD rfl (fun hlt => ?_) (fun hge => ?_) | refine cond rfl (fun hlt => ?_) (fun hge => ?_)
    · try simp only [nb] at hlt
      refine skip (pN (seq (block (seq (draw' (by kernel_rfl) ?_)))))
      refine tk 0 rfl (Ev.move (.t rfl)) ?_
      refine tk 1 rfl (Ev.move (.t rfl)) ?_
      refine tk 2 rfl (Ev.indexAddr Tryz.underlying22 ty3 (.t rfl) (.t rfl) (fun w I => ha.keep0 I.keeps) (fun _ => by omega)) ?_
      refine tk 3 rfl (Ev.loadS0 ty3 (.t rfl) (fun w I => ha.keep0 I.keeps) (fun _ => by omega)) ?_
      refine tk 4 rfl (Ev.move (.t rfl)) ?_
      refine tk 5 rfl (Ev.move (.t rfl)) ?_
      refine tk 6 rfl (Ev.indexAddr Tryz.underlying22 ty3 (.t rfl) (.t rfl) (fun w I => hb.keep0 I.keeps) (fun _ => by omega)) ?_
      refine tk 7 rfl (Ev.loadS0 ty3 (.t rfl) (fun w I => hb.keep0 I.keeps) (fun _ => by omega)) ?_
      refine tk 8 rfl (Ev.neq_i (.t rfl) (.t rfl)) ?_
      refine ovr (pN ?_)
      first | refine condD rfl (fun h2 => ?_) (fun h2 => ?_) | refine cond rfl (fun h2 => ?_) (fun h2 => ?_)
      · refine sg (co (Ev.assign (.c (v := .bool false) rfl)) ?_)
        refine nP (ret (bR (pR (pR (bR (pR (done rfl (.tmp rfl .nil) (retE ?_))))))))
        exact bF (fun e => by subst e; simp at h2)
      · refine skip (bN (pN (region (mv rfl (co (Ev.add_i (.t rfl) (.c (v := I 1) rfl) (fun _ => by omega)) ?_)))))
        refine asn rfl (nP (nx (X := Int) (i + 1) ⟨?_, ?_⟩ ?_))
        · try dsimp only
          omega
        · try dsimp only
          have h2c : a.getD i.toNat iE.zero = b.getD i.toNat iE.zero := by simpa using h2
          rw [take_snoc a i hi.1 (by omega) iE.zero, take_snoc b i hi.1 (by omega) iE.zero, ht, h2c]
        · try dsimp only
          omega
    · try simp only [nb] at hge
      refine exit (pX (pX (bX (pN (sg (co (Ev.assign (.c (v := .bool true) rfl)) ?_))))))
      refine nP (ret (done rfl (.tmp rfl .nil) (retE ?_)))
      exact bT (by
        have e : i.toNat = a.length := by omega
        rw [e, List.take_length, List.take_of_length_le (by omega)] at ht
        exact ht)
theorem sameRules_ok (u v : Value) (a b : List SRule) (w : World) (ha : IsSl eRule w u a) (hb : IsSl eRule w v b) : Calls Tryz.prog 59 #[u, v] w (RetV w (.bool (decide (a = b)))) := by
  have hal := ha.le
  have hbl := hb.le
  refine en0 26 Tryz.func59 ?_
  refine sg (co (Ev.assign (.c (v := .bool false) rfl)) ?_)
  refine nP (seq (sg (mv rfl (co (Ev.len Tryz.underlying24 (.t rfl) (fun w I => ha.keep0 I.keeps)) ?_))))
  refine mv rfl (co (Ev.len Tryz.underlying24 (.t rfl) (fun w I => hb.keep0 I.keeps)) ?_)
  refine co (Ev.neq_i (.t rfl) (.t rfl)) ?_
  refine nP ?_
  first | refine condD rfl (fun hne => ?_) (fun hlen => ?_) | refine cond rfl (fun hne => ?_) (fun hlen => ?_)
  · try simp only [nb] at hne
    refine sg (co (Ev.assign (.c (v := .bool false) rfl)) ?_)
    refine nP (ret (pR (done rfl (.tmp rfl .nil) (retE ?_))))
    exact bF (fun e => by subst e; omega)
  · try simp only [nb] at hlen
    refine skip (pN (seq (sg (co (Ev.assign (.c (v := I 0) rfl)) ?_))))
    refine nP (block (lp (X := Int) (fun x : Int => (0 ≤ x ∧ x ≤ a.length) ∧ (a.take x.toNat = b.take x.toNat)) (fun x : Int => [(0, true, u), (1, true, v), (5, true, I x)]) (fun x : Int => []) (fun x : Int => (a.length - x).toNat) (0) ⟨?_, ?_⟩ (fun x hx => ?_)))
    · omega
    · rfl
    obtain ⟨i, rfl⟩ : ∃ y, y = x := ⟨x, rfl⟩
    obtain ⟨hi, ht⟩ : (0 ≤ i ∧ i ≤ a.length) ∧ (a.take i.toNat = b.take i.toNat) := hx
    show Sat _ _ [(0, true, u), (1, true, v), (5, true, I i)] []
    refine seq (sg (mv rfl (mv rfl (co (Ev.len Tryz.underlying24 (.t rfl) (fun w I => ha.keep0 I.keeps)) ?_))))
    refine co (Ev.lss_i (.t rfl) (.t rfl)) ?_
    refine nP ?_
    first | refine condD rfl (fun hlt => ?_) (fun hge => ?_) | refine cond rfl (fun hlt => ?_) (fun hge => ?_)
    · try simp only [nb] at hlt
      refine skip (pN (seq (block (seq (draw' (by kernel_rfl) ?_)))))
      refine tk 0 rfl (Ev.move (.t rfl)) ?_
      refine tk 1 rfl (Ev.move (.t rfl)) ?_
      refine tk 2 rfl (Ev.indexAddr Tryz.underlying24 ty76 (.t rfl) (.t rfl) (fun w I => ha.keep0 I.keeps) (fun _ => by omega)) ?_
      refine tk 3 rfl (Ev.loadS0 ty76 (.t rfl) (fun w I => ha.keep0 I.keeps) (fun _ => by omega)) ?_
      refine tk 4 rfl (Ev.move (.t rfl)) ?_
      refine tk 5 rfl (Ev.move (.t rfl)) ?_
      refine tk 6 rfl (Ev.indexAddr Tryz.underlying24 ty76 (.t rfl) (.t rfl) (fun w I => hb.keep0 I.keeps) (fun _ => by omega)) ?_
      refine tk 7 rfl (Ev.loadS0 ty76 (.t rfl) (fun w I => hb.keep0 I.keeps) (fun _ => by omega)) ?_
      refine tk 8 rfl (Ev.neqS rfl eqok76 rfl (by kernel_rfl) (.t rfl) (.t rfl)) ?_
      refine ovr (pN ?_)
      first | refine condD rfl (fun h2 => ?_) (fun h2 => ?_) | refine cond rfl (fun h2 => ?_) (fun h2 => ?_)
      · refine sg (co (Ev.assign (.c (v := .bool false) rfl)) ?_)
        refine nP (ret (bR (pR (pR (bR (pR (done rfl (.tmp rfl .nil) (retE ?_))))))))
        exact bF (fun e => by subst e; simp at h2)
      · refine skip (bN (pN (region (mv rfl (co (Ev.add_i (.t rfl) (.c (v := I 1) rfl) (fun _ => by omega)) ?_)))))
        refine asn rfl (nP (nx (X := Int) (i + 1) ⟨?_, ?_⟩ ?_))
        · try dsimp only
          omega
        · try dsimp only
          have h2c : a.getD i.toNat eRule.zero = b.getD i.toNat eRule.zero := by simpa using h2
          rw [take_snoc a i hi.1 (by omega) eRule.zero, take_snoc b i hi.1 (by omega) eRule.zero, ht, h2c]
        · try dsimp only
          omega
    · try simp only [nb] at hge
      refine exit (pX (pX (bX (pN (sg (co (Ev.assign (.c (v := .bool true) rfl)) ?_))))))
      refine nP (ret (done rfl (.tmp rfl .nil) (retE ?_)))
      exact bT (by
        have e : i.toNat = a.length := by omega
        rw [e, List.take_length, List.take_of_length_le (by omega)] at ht
        exact ht)
theorem sameInts_ok (u v : Value) (a b : List Int) (w : World) (ha : IsSl iE w u a) (hb : IsSl iE w v b) : Calls Tryz.prog 31 #[u, v] w (RetV w (.bool (decide (a = b)))) := by
  have hal := ha.le
  have hbl := hb.le
  refine en0 26 Tryz.func31 ?_
  refine sg (co (Ev.assign (.c (v := .bool false) rfl)) ?_)
  refine nP (seq (sg (mv rfl (co (Ev.len Tryz.underlying22 (.t rfl) (fun w I => ha.keep0 I.keeps)) ?_))))
  refine mv rfl (co (Ev.len Tryz.underlying22 (.t rfl) (fun w I => hb.keep0 I.keeps)) ?_)
  refine co (Ev.neq_i (.t rfl) (.t rfl)) ?_
  refine nP ?_
  first | refine condD rfl (fun hne => ?_) (fun hlen => ?_) | refine cond rfl (fun hne => ?_) (fun hlen => ?_)
  · try simp only [nb] at hne
    refine sg (co (Ev.assign (.c (v := .bool false) rfl)) ?_)
    refine nP (ret (pR (done rfl (.tmp rfl .nil) (retE ?_))))
    exact bF (fun e => by subst e; omega)
  · try simp only [nb] at hlen
    refine skip (pN (seq (sg (co (Ev.assign (.c (v := I 0) rfl)) ?_))))
    refine nP (block (lp (X := Int) (fun x : Int => (0 ≤ x ∧ x ≤ a.length) ∧ (a.take x.toNat = b.take x.toNat)) (fun x : Int => [(0, true, u), (1, true, v), (5, true, I x)]) (fun x : Int => []) (fun x : Int => (a.length - x).toNat) (0) ⟨?_, ?_⟩ (fun x hx => ?_)))
    · omega
    · rfl
    obtain ⟨i, rfl⟩ : ∃ y, y = x := ⟨x, rfl⟩
    obtain ⟨hi, ht⟩ : (0 ≤ i ∧ i ≤ a.length) ∧ (a.take i.toNat = b.take i.toNat) := hx
    show Sat _ _ [(0, true, u), (1, true, v), (5, true, I i)] []
    refine seq (sg (mv rfl (mv rfl (co (Ev.len Tryz.underlying22 (.t rfl) (fun w I => ha.keep0 I.keeps)) ?_))))
    refine co (Ev.lss_i (.t rfl) (.t rfl)) ?_
    refine nP ?_
    first | refine condD rfl (fun hlt => ?_) (fun hge => ?_) | refine cond rfl (fun hlt => ?_) (fun hge => ?_)
    · try simp only [nb] at hlt
      refine skip (pN (seq (block (seq (draw' (by kernel_rfl) ?_)))))
      refine tk 0 rfl (Ev.move (.t rfl)) ?_
      refine tk 1 rfl (Ev.move (.t rfl)) ?_
      refine tk 2 rfl (Ev.indexAddr Tryz.underlying22 ty3 (.t rfl) (.t rfl) (fun w I => ha.keep0 I.keeps) (fun _ => by omega)) ?_
      refine tk 3 rfl (Ev.loadS0 ty3 (.t rfl) (fun w I => ha.keep0 I.keeps) (fun _ => by omega)) ?_
      refine tk 4 rfl (Ev.move (.t rfl)) ?_
      refine tk 5 rfl (Ev.move (.t rfl)) ?_
      refine tk 6 rfl (Ev.indexAddr Tryz.underlying22 ty3 (.t rfl) (.t rfl) (fun w I => hb.keep0 I.keeps) (fun _ => by omega)) ?_
      refine tk 7 rfl (Ev.loadS0 ty3 (.t rfl) (fun w I => hb.keep0 I.keeps) (fun _ => by omega)) ?_
      refine tk 8 rfl (Ev.neq_i (.t rfl) (.t rfl)) ?_
      refine ovr (pN ?_)
      first | refine condD rfl (fun h2 => ?_) (fun h2 => ?_) | refine cond rfl (fun h2 => ?_) (fun h2 => ?_)
      · refine sg (co (Ev.assign (.c (v := .bool false) rfl)) ?_)
        refine nP (ret (bR (pR (pR (bR (pR (done rfl (.tmp rfl .nil) (retE ?_))))))))
        exact bF (fun e => by subst e; simp at h2)
      · refine skip (bN (pN (region (mv rfl (co (Ev.add_i (.t rfl) (.c (v := I 1) rfl) (fun _ => by omega)) ?_)))))
        refine asn rfl (nP (nx (X := Int) (i + 1) ⟨?_, ?_⟩ ?_))
        · try dsimp only
          omega
        · try dsimp only
          have h2c : a.getD i.toNat iE.zero = b.getD i.toNat iE.zero := by simpa using h2
          rw [take_snoc a i hi.1 (by omega) iE.zero, take_snoc b i hi.1 (by omega) iE.zero, ht, h2c]
        · try dsimp only
          omega
    · try simp only [nb] at hge
      refine exit (pX (pX (bX (pN (sg (co (Ev.assign (.c (v := .bool true) rfl)) ?_))))))
      refine nP (ret (done rfl (.tmp rfl .nil) (retE ?_)))
      exact bT (by
        have e : i.toNat = a.length := by omega
        rw [e, List.take_length, List.take_of_length_le (by omega)] at ht
        exact ht)
theorem rroutes_n (u : Value) (a : List SRoute) (y : SRoute) (w : World) (ha : IsSl eRoute w u a) : Calls Tryz.prog 60 #[u, eRoute.val y] w (RetV w (I (a.countP (SRoute.eqb y) : Nat))) := by
  have hal := ha.le
  refine en0 22 Tryz.func60 ?_
  refine sg (cons (box (E := eRoute) (.t rfl) (fun b1 => ?_)))
  refine co (Ev.assign (.c (v := I 0) rfl)) ?_
  refine nP (sg (co (Ev.assign (.c (v := I 0) rfl)) ?_))
  refine nP (seq (sg (co (Ev.assign (.c (v := I 0) rfl)) ?_)))
  refine nP (block (lp (X := Int × Nat) (fun x : Int × Nat => (0 ≤ x.1 ∧ x.1 ≤ a.length) ∧ (x.2 = (a.take x.1.toNat).countP (SRoute.eqb y))) (fun x : Int × Nat => [(0, true, u), (3, true, .pointer (some ⟨b1, 0, none⟩)), (5, true, I (x.2 : Nat)), (6, true, I x.1)]) (fun x : Int × Nat => [Var b1 eRoute y 52]) (fun x : Int × Nat => (a.length - x.1).toNat) (0, 0) ⟨?_, ?_⟩ (fun x hx => ?_)))
  · omega
  · rfl
  obtain ⟨i, n⟩ := x
  obtain ⟨hi, hn⟩ : (0 ≤ i ∧ i ≤ a.length) ∧ (n = (a.take i.toNat).countP (SRoute.eqb y)) := hx
  show Sat _ _ [(0, true, u), (3, true, .pointer (some ⟨b1, 0, none⟩)), (5, true, I (n : Nat)), (6, true, I i)] [Var b1 eRoute y 52]
  have hnl : n ≤ i.toNat := by rw [hn]; exact Nat.le_trans List.countP_le_length (by simp; omega)
  refine seq (sg (mv rfl (mv rfl (co (Ev.len Tryz.underlying23 (.t rfl) (fun w I => ha.keep0 I.keeps)) ?_))))
  refine co (Ev.lss_i (.t rfl) (.t rfl)) ?_
  refine nP ?_
  first | refine condD rfl (fun h0 => ?_) (fun h0 => ?_) | refine cond rfl (fun h0 => ?_) (fun h0 => ?_)
  · try simp only [nb] at h0
    refine skip (pN (seq (block (seq (draw' (by kernel_rfl) ?_)))))
    refine tk 0 rfl (Ev.move (.t rfl)) ?_
    refine tk 1 rfl (Ev.move (.t rfl)) ?_
    refine tk 2 rfl (Ev.indexAddr Tryz.underlying23 ty52 (.t rfl) (.t rfl) (fun w I => ha.keep0 I.keeps) (fun _ => by omega)) ?_
    refine tk 3 rfl (Ev.loadS0 ty52 (.t rfl) (fun w I => ha.keep0 I.keeps) (fun _ => by omega)) ?_
    refine tk 4 rfl (Ev.ldx y ty52 (.t rfl) (Lens.id _)) ?_
    refine tk 5 rfl (Ev.eqlS rfl eqok52 rfl (by kernel_rfl) (.t rfl) (.t rfl)) ?_
    refine ovr (pN ?_)
    first | refine condD rfl (fun h1 => ?_) (fun h1 => ?_) | refine cond rfl (fun h1 => ?_) (fun h1 => ?_)
    · have hst : n + 1 = (a.take (i + 1).toNat).countP (SRoute.eqb y) := by
        rw [take_snoc a i hi.1 (by omega) eRoute.zero, List.countP_append, ← hn]
        have e : a.getD i.toNat eRoute.zero = y := (SRoute.eqb_iff _ _).1 (by simpa using h1)
        rw [e, List.countP_singleton, (SRoute.eqb_iff _ _).2 rfl]
        rfl
      refine region (mv rfl (co (Ev.to (v' := I ((n + 1 : Nat) : Int)) (Ev.add_i (.t rfl) (.c (v := I 1) rfl) (fun _ => by omega)) (congrArg I (by omega))) ?_))
      refine asn rfl (nil (bN (pN (region (mv rfl (co (Ev.add_i (.t rfl) (.c (v := I 1) rfl) (fun _ => by omega)) ?_))))))
      refine asn rfl (nP (nx (X := Int × Nat) (i + 1, _) ⟨?_, ?_⟩ ?_))
      · try dsimp only
        omega
      · try dsimp only
        exact hst
      · try dsimp only
        omega
    · have hst : n = (a.take (i + 1).toNat).countP (SRoute.eqb y) := by
        rw [take_snoc a i hi.1 (by omega) eRoute.zero, List.countP_append, ← hn]
        have e : ¬ SRoute.eqb y (a.getD i.toNat eRoute.zero) = true := fun h => by
          have h2 := (SRoute.eqb_iff _ _).1 h
          rw [← h2] at h1
          simp [SRoute.eqb_self] at h1
        rw [List.countP_singleton, if_neg e]
        rfl
      refine skip (bN (pN (region (mv rfl (co (Ev.add_i (.t rfl) (.c (v := I 1) rfl) (fun _ => by omega)) ?_)))))
      refine asn rfl (nP (nx (X := Int × Nat) (i + 1, _) ⟨?_, ?_⟩ ?_))
      · try dsimp only
        omega
      · try dsimp only
        exact hst
      · try dsimp only
        omega
  · try simp only [nb] at h0
    refine exit (pX (pX (bX (pN (sg (mv rfl (asn rfl (nP (ret (done rfl (.tmp rfl .nil) (retE ?_)))))))))))
    have e : a.take i.toNat = a := List.take_of_length_le (by omega)
    rw [e] at hn
    rw [hn]; rfl
theorem rmeters_n (u : Value) (a : List SMeterConf) (y : SMeterConf) (w : World) (ha : IsSl eMeterConf w u a) : Calls Tryz.prog 61 #[u, eMeterConf.val y] w (RetV w (I (a.countP (SMeterConf.eqb y) : Nat))) := by
  have hal := ha.le
  refine en0 22 Tryz.func61 ?_
  refine sg (cons (box (E := eMeterConf) (.t rfl) (fun b1 => ?_)))
  refine co (Ev.assign (.c (v := I 0) rfl)) ?_
  refine nP (sg (co (Ev.assign (.c (v := I 0) rfl)) ?_))
  refine nP (seq (sg (co (Ev.assign (.c (v := I 0) rfl)) ?_)))
  refine nP (block (lp (X := Int × Nat) (fun x : Int × Nat => (0 ≤ x.1 ∧ x.1 ≤ a.length) ∧ (x.2 = (a.take x.1.toNat).countP (SMeterConf.eqb y))) (fun x : Int × Nat => [(0, true, u), (3, true, .pointer (some ⟨b1, 0, none⟩)), (5, true, I (x.2 : Nat)), (6, true, I x.1)]) (fun x : Int × Nat => [Var b1 eMeterConf y 57]) (fun x : Int × Nat => (a.length - x.1).toNat) (0, 0) ⟨?_, ?_⟩ (fun x hx => ?_)))
  · omega
  · rfl
  obtain ⟨i, n⟩ := x
  obtain ⟨hi, hn⟩ : (0 ≤ i ∧ i ≤ a.length) ∧ (n = (a.take i.toNat).countP (SMeterConf.eqb y)) := hx
  show Sat _ _ [(0, true, u), (3, true, .pointer (some ⟨b1, 0, none⟩)), (5, true, I (n : Nat)), (6, true, I i)] [Var b1 eMeterConf y 57]
  have hnl : n ≤ i.toNat := by rw [hn]; exact Nat.le_trans List.countP_le_length (by simp; omega)
  refine seq (sg (mv rfl (mv rfl (co (Ev.len Tryz.underlying25 (.t rfl) (fun w I => ha.keep0 I.keeps)) ?_))))
  refine co (Ev.lss_i (.t rfl) (.t rfl)) ?_
  refine nP ?_
  first | refine condD rfl (fun h0 => ?_) (fun h0 => ?_) | refine cond rfl (fun h0 => ?_) (fun h0 => ?_)
  · try simp only [nb] at h0
    refine skip (pN (seq (block (seq (draw' (by kernel_rfl) ?_)))))
    refine tk 0 rfl (Ev.move (.t rfl)) ?_
    refine tk 1 rfl (Ev.move (.t rfl)) ?_
    refine tk 2 rfl (Ev.indexAddr Tryz.underlying25 ty57 (.t rfl) (.t rfl) (fun w I => ha.keep0 I.keeps) (fun _ => by omega)) ?_
    refine tk 3 rfl (Ev.loadS0 ty57 (.t rfl) (fun w I => ha.keep0 I.keeps) (fun _ => by omega)) ?_
    refine tk 4 rfl (Ev.ldx y ty57 (.t rfl) (Lens.id _)) ?_
    refine tk 5 rfl (Ev.eqlS rfl eqok57 rfl (by kernel_rfl) (.t rfl) (.t rfl)) ?_
    refine ovr (pN ?_)
    first | refine condD rfl (fun h1 => ?_) (fun h1 => ?_) | refine cond rfl (fun h1 => ?_) (fun h1 => ?_)
    · have hst : n + 1 = (a.take (i + 1).toNat).countP (SMeterConf.eqb y) := by
        rw [take_snoc a i hi.1 (by omega) eMeterConf.zero, List.countP_append, ← hn]
        have e : a.getD i.toNat eMeterConf.zero = y := (SMeterConf.eqb_iff _ _).1 (by simpa using h1)
        rw [e, List.countP_singleton, (SMeterConf.eqb_iff _ _).2 rfl]
        rfl
      refine region (mv rfl (co (Ev.to (v' := I ((n + 1 : Nat) : Int)) (Ev.add_i (.t rfl) (.c (v := I 1) rfl) (fun _ => by omega)) (congrArg I (by omega))) ?_))
      refine asn rfl (nil (bN (pN (region (mv rfl (co (Ev.add_i (.t rfl) (.c (v := I 1) rfl) (fun _ => by omega)) ?_))))))
      refine asn rfl (nP (nx (X := Int × Nat) (i + 1, _) ⟨?_, ?_⟩ ?_))
      · try dsimp only
        omega
      · try dsimp only
        exact hst
      · try dsimp only
        omega
    · have hst : n = (a.take (i + 1).toNat).countP (SMeterConf.eqb y) := by
        rw [take_snoc a i hi.1 (by omega) eMeterConf.zero, List.countP_append, ← hn]
        have e : ¬ SMeterConf.eqb y (a.getD i.toNat eMeterConf.zero) = true := fun h => by
          have h2 := (SMeterConf.eqb_iff _ _).1 h
          rw [← h2] at h1
          simp [SMeterConf.eqb_self] at h1
        rw [List.countP_singleton, if_neg e]
        rfl
      refine skip (bN (pN (region (mv rfl (co (Ev.add_i (.t rfl) (.c (v := I 1) rfl) (fun _ => by omega)) ?_)))))
      refine asn rfl (nP (nx (X := Int × Nat) (i + 1, _) ⟨?_, ?_⟩ ?_))
      · try dsimp only
        omega
      · try dsimp only
        exact hst
      · try dsimp only
        omega
  · try simp only [nb] at h0
    refine exit (pX (pX (bX (pN (sg (mv rfl (asn rfl (nP (ret (done rfl (.tmp rfl .nil) (retE ?_)))))))))))
    have e : a.take i.toNat = a := List.take_of_length_le (by omega)
    rw [e] at hn
    rw [hn]; rfl
theorem rmirrors_n (u : Value) (a : List SMirrorConf) (y : SMirrorConf) (w : World) (ha : IsSl eMirrorConf w u a) : Calls Tryz.prog 62 #[u, eMirrorConf.val y] w (RetV w (I (a.countP (SMirrorConf.eqb y) : Nat))) := by
  have hal := ha.le
  refine en0 22 Tryz.func62 ?_
  refine sg (cons (box (E := eMirrorConf) (.t rfl) (fun b1 => ?_)))
  refine co (Ev.assign (.c (v := I 0) rfl)) ?_
  refine nP (sg (co (Ev.assign (.c (v := I 0) rfl)) ?_))
  refine nP (seq (sg (co (Ev.assign (.c (v := I 0) rfl)) ?_)))
  refine nP (block (lp (X := Int × Nat) (fun x : Int × Nat => (0 ≤ x.1 ∧ x.1 ≤ a.length) ∧ (x.2 = (a.take x.1.toNat).countP (SMirrorConf.eqb y))) (fun x : Int × Nat => [(0, true, u), (3, true, .pointer (some ⟨b1, 0, none⟩)), (5, true, I (x.2 : Nat)), (6, true, I x.1)]) (fun x : Int × Nat => [Var b1 eMirrorConf y 59]) (fun x : Int × Nat => (a.length - x.1).toNat) (0, 0) ⟨?_, ?_⟩ (fun x hx => ?_)))
  · omega
  · rfl
  obtain ⟨i, n⟩ := x
  obtain ⟨hi, hn⟩ : (0 ≤ i ∧ i ≤ a.length) ∧ (n = (a.take i.toNat).countP (SMirrorConf.eqb y)) := hx
  show Sat _ _ [(0, true, u), (3, true, .pointer (some ⟨b1, 0, none⟩)), (5, true, I (n : Nat)), (6, true, I i)] [Var b1 eMirrorConf y 59]
  have hnl : n ≤ i.toNat := by rw [hn]; exact Nat.le_trans List.countP_le_length (by simp; omega)
  refine seq (sg (mv rfl (mv rfl (co (Ev.len Tryz.underlying26 (.t rfl) (fun w I => ha.keep0 I.keeps)) ?_))))
  refine co (Ev.lss_i (.t rfl) (.t rfl)) ?_
  refine nP ?_
  first | refine condD rfl (fun h0 => ?_) (fun h0 => ?_) | refine cond rfl (fun h0 => ?_) (fun h0 => ?_)
  · try simp only [nb] at h0
    refine skip (pN (seq (block (seq (draw' (by kernel_rfl) ?_)))))
    refine tk 0 rfl (Ev.move (.t rfl)) ?_
    refine tk 1 rfl (Ev.move (.t rfl)) ?_
    refine tk 2 rfl (Ev.indexAddr Tryz.underlying26 ty59 (.t rfl) (.t rfl) (fun w I => ha.keep0 I.keeps) (fun _ => by omega)) ?_
    refine tk 3 rfl (Ev.loadS0 ty59 (.t rfl) (fun w I => ha.keep0 I.keeps) (fun _ => by omega)) ?_
    refine tk 4 rfl (Ev.ldx y ty59 (.t rfl) (Lens.id _)) ?_
    refine tk 5 rfl (Ev.eqlS rfl eqok59 rfl (by kernel_rfl) (.t rfl) (.t rfl)) ?_
    refine ovr (pN ?_)
    first | refine condD rfl (fun h1 => ?_) (fun h1 => ?_) | refine cond rfl (fun h1 => ?_) (fun h1 => ?_)
    · have hst : n + 1 = (a.take (i + 1).toNat).countP (SMirrorConf.eqb y) := by
        rw [take_snoc a i hi.1 (by omega) eMirrorConf.zero, List.countP_append, ← hn]
        have e : a.getD i.toNat eMirrorConf.zero = y := (SMirrorConf.eqb_iff _ _).1 (by simpa using h1)
        rw [e, List.countP_singleton, (SMirrorConf.eqb_iff _ _).2 rfl]
        rfl
      refine region (mv rfl (co (Ev.to (v' := I ((n + 1 : Nat) : Int)) (Ev.add_i (.t rfl) (.c (v := I 1) rfl) (fun _ => by omega)) (congrArg I (by omega))) ?_))
      refine asn rfl (nil (bN (pN (region (mv rfl (co (Ev.add_i (.t rfl) (.c (v := I 1) rfl) (fun _ => by omega)) ?_))))))
      refine asn rfl (nP (nx (X := Int × Nat) (i + 1, _) ⟨?_, ?_⟩ ?_))
      · try dsimp only
        omega
      · try dsimp only
        exact hst
      · try dsimp only
        omega
    · have hst : n = (a.take (i + 1).toNat).countP (SMirrorConf.eqb y) := by
        rw [take_snoc a i hi.1 (by omega) eMirrorConf.zero, List.countP_append, ← hn]
        have e : ¬ SMirrorConf.eqb y (a.getD i.toNat eMirrorConf.zero) = true := fun h => by
          have h2 := (SMirrorConf.eqb_iff _ _).1 h
          rw [← h2] at h1
          simp [SMirrorConf.eqb_self] at h1
        rw [List.countP_singleton, if_neg e]
        rfl
      refine skip (bN (pN (region (mv rfl (co (Ev.add_i (.t rfl) (.c (v := I 1) rfl) (fun _ => by omega)) ?_)))))
      refine asn rfl (nP (nx (X := Int × Nat) (i + 1, _) ⟨?_, ?_⟩ ?_))
      · try dsimp only
        omega
      · try dsimp only
        exact hst
      · try dsimp only
        omega
  · try simp only [nb] at h0
    refine exit (pX (pX (bX (pN (sg (mv rfl (asn rfl (nP (ret (done rfl (.tmp rfl .nil) (retE ?_)))))))))))
    have e : a.take i.toNat = a := List.take_of_length_le (by omega)
    rw [e] at hn
    rw [hn]; rfl
def hdrB (a b : CL) (d e : Int) : Bool := decide (d = e ∧ a.ps = b.ps ∧ a.us = b.us ∧ a.rs.length = b.rs.length ∧ a.ms.length = b.ms.length ∧ a.xs.length = b.xs.length)
def cntB {α : Type} (q : α → α → Bool) (l k : List α) : Bool := l.all (fun x => decide (l.countP (q x) = k.countP (q x)))
theorem sameB_R (a b : CL) (d e : Int) : sameB a b d e = (hdrB a b d e && (cntB SRoute.eqb a.rs b.rs && (cntB SMeterConf.eqb a.ms b.ms && cntB SMirrorConf.eqb a.xs b.xs))) := by
  unfold sameB
  rw [← alikeR_eq SRoute.eqb_iff, ← alikeR_eq SMeterConf.eqb_iff, ← alikeR_eq SMirrorConf.eqb_iff]
  unfold alikeR hdrB
  simp only [Bool.decide_and]
  show _ = (_ && (cntB _ _ _ && (cntB _ _ _ && cntB _ _ _)))
  unfold cntB
  ac_rfl
theorem cntB_no {α : Type} {q : α → α → Bool} {l k : List α} (z : α) (i : Nat) (h : i < l.length) (hn : ¬ l.countP (q (l.getD i z)) = k.countP (q (l.getD i z))) : cntB q l k = false := by
  unfold cntB
  exact List.all_eq_false.2 ⟨l.getD i z, getD_in _ _ _ h, by simpa using hn⟩
theorem cntB_yes {α : Type} {q : α → α → Bool} {l k : List α} (z : α) (h : ∀ j, j < l.length → l.countP (q (l.getD j z)) = k.countP (q (l.getD j z))) : cntB q l k = true := by
  unfold cntB
  rw [List.all_eq_true]
  intro x hx
  obtain ⟨j, hj, rfl⟩ := List.mem_iff_getElem.1 hx
  have := h j hj
  simpa [List.getD, hj] using this
def exactB (a b : CL) (d e : Int) : Bool := decide (d = e ∧ a.ps = b.ps ∧ a.us = b.us ∧ a.rs = b.rs ∧ a.ms = b.ms ∧ a.xs = b.xs)
theorem exactB_self (a : CL) (d : Int) : exactB a a d d = true := decide_eq_true ⟨rfl, rfl, rfl, rfl, rfl, rfl⟩
theorem sameB_perm (a b : CL) (d e : Int) : sameB a b d e = true ↔ d = e ∧ a.ps = b.ps ∧ a.us = b.us ∧ a.rs.Perm b.rs ∧ a.ms.Perm b.ms ∧ a.xs.Perm b.xs := by
  unfold sameB
  simp only [Bool.and_eq_true, decide_eq_true_iff, alike_perm SRoute.eqb_iff, alike_perm SMeterConf.eqb_iff, alike_perm SMirrorConf.eqb_iff]
theorem eq_getD {α : Type} {l k : List α} (z : α) (h : l.length = k.length) (hq : ∀ j, j < l.length → l.getD j z = k.getD j z) : l = k := by
  refine List.ext_getElem h fun j h1 h2 => ?_
  have := hq j h1
  simpa [List.getD, h1, h2] using this
theorem en58 : Gx.Enters Tryz.prog 58 := Gx.Enters.mk' (by kernel_rfl)
theorem en59 : Gx.Enters Tryz.prog 59 := Gx.Enters.mk' (by kernel_rfl)
theorem en60 : Gx.Enters Tryz.prog 60 := Gx.Enters.mk' (by kernel_rfl)
theorem en61 : Gx.Enters Tryz.prog 61 := Gx.Enters.mk' (by kernel_rfl)
theorem en62 : Gx.Enters Tryz.prog 62 := Gx.Enters.mk' (by kernel_rfl)
theorem rsame_ok (a b : SConf) (l k : CL) (w : World) (ha : ConfAt w a l) (hb : ConfAt w b k) : Calls Tryz.prog 22 #[eConf.val a, eConf.val b] w (RetV w (.bool (sameB l k a.default b.default))) := by
  have hla0 := ha.ps.le
  have hlb0 := hb.ps.le
  have hla1 := ha.rs.le
  have hlb1 := hb.rs.le
  have hla2 := ha.us.le
  have hlb2 := hb.us.le
  have hla3 := ha.ms.le
  have hlb3 := hb.ms.le
  have hla4 := ha.xs.le
  have hlb4 := hb.xs.le
  refine en0 128 Tryz.func22 ?_
  refine sg (cons (box (E := eConf) (.t rfl) (fun b1 => ?_)))
  refine cons (box (E := eConf) (.t rfl) (fun b2 => ?_))
  refine co (Ev.assign (.c (v := .bool false) rfl)) ?_
  refine nP (seq (sg (co (fA 5 (.t rfl)) ?_)))
  refine co (Ev.ldx a.default ty3 (.t rfl) SConf.l_default) ?_
  refine co (fA 5 (.t rfl)) ?_
  refine co (Ev.ldx b.default ty3 (.t rfl) SConf.l_default) ?_
  refine co (Ev.neq_i (.t rfl) (.t rfl)) ?_
  refine mv rfl (cg rfl rfl (fA 0 (.t rfl)) ?_)
  refine cg rfl rfl (Ev.ldx a.ports ty22 (.g rfl id) SConf.l_ports) ?_
  refine cg rfl rfl (fA 0 (.t rfl)) ?_
  refine cg rfl rfl (Ev.ldx b.ports ty22 (.g rfl id) SConf.l_ports) ?_
  refine cons (callg rfl rfl en58 (.cons (.g rfl id) (.cons (.g rfl id) .nil)) (fun hg w I => samePorts_ok _ _ _ _ w ((ha.keep0 I.keeps).ps) ((hb.keep0 I.keeps).ps)) ?_)
  refine cg rfl rfl (Ev.not (.g rfl id)) ?_
  refine co (Ev.pkO (.t rfl) rfl) ?_
  refine mv rfl (cg rfl rfl (fA 2 (.t rfl)) ?_)
  refine cg rfl rfl (Ev.ldx a.rules ty24 (.g rfl id) SConf.l_rules) ?_
  refine cg rfl rfl (fA 2 (.t rfl)) ?_
  refine cg rfl rfl (Ev.ldx b.rules ty24 (.g rfl id) SConf.l_rules) ?_
  refine cons (callg rfl rfl en59 (.cons (.g rfl id) (.cons (.g rfl id) .nil)) (fun hg w I => sameRules_ok _ _ _ _ w ((ha.keep0 I.keeps).us) ((hb.keep0 I.keeps).us)) ?_)
  refine cg rfl rfl (Ev.not (.g rfl id)) ?_
  refine co (Ev.pkO (.t rfl) rfl) ?_
  refine mv rfl (cg rfl rfl (fA 1 (.t rfl)) ?_)
  refine cg rfl rfl (Ev.ldx a.routes ty23 (.g rfl id) SConf.l_routes) ?_
  refine cg rfl rfl (Ev.len Tryz.underlying23 (.g rfl id) (fun w I => (ha.keep0 I.keeps).rs)) ?_
  refine cg rfl rfl (fA 1 (.t rfl)) ?_
  refine cg rfl rfl (Ev.ldx b.routes ty23 (.g rfl id) SConf.l_routes) ?_
  refine cg rfl rfl (Ev.len Tryz.underlying23 (.g rfl id) (fun w I => (hb.keep0 I.keeps).rs)) ?_
  refine cg rfl rfl (Ev.neq_i (.g rfl id) (.g rfl id)) ?_
  refine co (Ev.pkO (.t rfl) rfl) ?_
  refine mv rfl (cg rfl rfl (fA 3 (.t rfl)) ?_)
  refine cg rfl rfl (Ev.ldx a.meters ty25 (.g rfl id) SConf.l_meters) ?_
  refine cg rfl rfl (Ev.len Tryz.underlying25 (.g rfl id) (fun w I => (ha.keep0 I.keeps).ms)) ?_
  refine cg rfl rfl (fA 3 (.t rfl)) ?_
  refine cg rfl rfl (Ev.ldx b.meters ty25 (.g rfl id) SConf.l_meters) ?_
  refine cg rfl rfl (Ev.len Tryz.underlying25 (.g rfl id) (fun w I => (hb.keep0 I.keeps).ms)) ?_
  refine cg rfl rfl (Ev.neq_i (.g rfl id) (.g rfl id)) ?_
  refine co (Ev.pkO (.t rfl) rfl) ?_
  refine mv rfl (cg rfl rfl (fA 4 (.t rfl)) ?_)
  refine cg rfl rfl (Ev.ldx a.mirrors ty26 (.g rfl id) SConf.l_mirrors) ?_
  refine cg rfl rfl (Ev.len Tryz.underlying26 (.g rfl id) (fun w I => (ha.keep0 I.keeps).xs)) ?_
  refine cg rfl rfl (fA 4 (.t rfl)) ?_
  refine cg rfl rfl (Ev.ldx b.mirrors ty26 (.g rfl id) SConf.l_mirrors) ?_
  refine cg rfl rfl (Ev.len Tryz.underlying26 (.g rfl id) (fun w I => (hb.keep0 I.keeps).xs)) ?_
  refine cg rfl rfl (Ev.neq_i (.g rfl id) (.g rfl id)) ?_
  refine co (Ev.pkO (.t rfl) rfl) ?_
  refine nP ?_
  first | refine condD rfl (fun h0 => ?_) (fun h0 => ?_) | refine cond rfl (fun h0 => ?_) (fun h0 => ?_)
  · refine sg (co (Ev.assign (.c (v := .bool false) rfl)) ?_)
    refine nP (ret (pR (done rfl (.tmp rfl .nil) (retE ?_))))
    have hh : hdrB l k a.default b.default = false := by
      rw [Bool.eq_false_iff]
      intro h
      obtain ⟨e1, e2, e3, e4, e5, e6⟩ := of_decide_eq_true h
      simp [e1, e2, e3, e4, e5, e6] at h0
    rw [sameB_R, hh]; rfl
  · have hhd : hdrB l k a.default b.default = true := by
      simp at h0
      exact decide_eq_true ⟨h0.1.1.1.1.1, h0.1.1.1.1.2, h0.1.1.1.2, by omega, by omega, by omega⟩
    refine skip (pN (seq (sg (co (Ev.assign (.c (v := I 0) rfl)) ?_))))
    refine nP (block (lp (X := Int) (fun x : Int => (0 ≤ x ∧ x ≤ l.rs.length) ∧ (∀ j : Nat, j < x → l.rs.countP (SRoute.eqb (l.rs.getD j eRoute.zero)) = k.rs.countP (SRoute.eqb (l.rs.getD j eRoute.zero)))) (fun x : Int => [(2, true, .pointer (some ⟨b1, 0, none⟩)), (3, true, .pointer (some ⟨b2, 0, none⟩)), (5, true, I x)]) (fun x : Int => [Var b2 eConf b 28, Var b1 eConf a 28]) (fun x : Int => (l.rs.length - x).toNat) (0) ⟨?_, ?_⟩ (fun x hx => ?_)))
    · omega
    · intro j h; omega
    obtain ⟨i0, rfl⟩ : ∃ y, y = x := ⟨x, rfl⟩
    obtain ⟨hi0, hq0⟩ : (0 ≤ i0 ∧ i0 ≤ l.rs.length) ∧ (∀ j : Nat, j < i0 → l.rs.countP (SRoute.eqb (l.rs.getD j eRoute.zero)) = k.rs.countP (SRoute.eqb (l.rs.getD j eRoute.zero))) := hx
    show Sat _ _ [(2, true, .pointer (some ⟨b1, 0, none⟩)), (3, true, .pointer (some ⟨b2, 0, none⟩)), (5, true, I i0)] [Var b2 eConf b 28, Var b1 eConf a 28]
    refine seq (sg (mv rfl (co (fA 1 (.t rfl)) ?_)))
    refine co (Ev.ldx a.routes ty23 (.t rfl) SConf.l_routes) ?_
    refine co (Ev.len Tryz.underlying23 (.t rfl) (fun w I => (ha.keep0 I.keeps).rs)) ?_
    refine co (Ev.lss_i (.t rfl) (.t rfl)) ?_
    refine nP ?_
    first | refine condD rfl (fun h1 => ?_) (fun h1 => ?_) | refine cond rfl (fun h1 => ?_) (fun h1 => ?_)
    · try simp only [nb] at h1
      refine skip (pN (seq (block (seq (draw' (by kernel_rfl) ?_)))))
      refine tk 0 rfl (fA 1 (.t rfl)) ?_
      refine tk 1 rfl (Ev.ldx a.routes ty23 (.t rfl) SConf.l_routes) ?_
      refine tk 2 rfl (fA 1 (.t rfl)) ?_
      refine tk 3 rfl (Ev.ldx a.routes ty23 (.t rfl) SConf.l_routes) ?_
      refine tk 4 rfl (Ev.move (.t rfl)) ?_
      refine tk 5 rfl (Ev.indexAddr Tryz.underlying23 ty52 (.t rfl) (.t rfl) (fun w I => (ha.keep0 I.keeps).rs) (fun _ => by omega)) ?_
      refine tk 6 rfl (Ev.loadS0 ty52 (.t rfl) (fun w I => (ha.keep0 I.keeps).rs) (fun _ => by omega)) ?_
      refine tk 8 rfl (fA 1 (.t rfl)) ?_
      refine tk 9 rfl (Ev.ldx b.routes ty23 (.t rfl) SConf.l_routes) ?_
      refine tk 10 rfl (fA 1 (.t rfl)) ?_
      refine tk 11 rfl (Ev.ldx a.routes ty23 (.t rfl) SConf.l_routes) ?_
      refine tk 12 rfl (Ev.move (.t rfl)) ?_
      refine tk 13 rfl (Ev.indexAddr Tryz.underlying23 ty52 (.t rfl) (.t rfl) (fun w I => (ha.keep0 I.keeps).rs) (fun _ => by omega)) ?_
      refine tk 14 rfl (Ev.loadS0 ty52 (.t rfl) (fun w I => (ha.keep0 I.keeps).rs) (fun _ => by omega)) ?_
      refine al1 7 rfl ((callv en60 (.cons (.t rfl) (.cons (.t rfl) .nil)) (fun w I => rroutes_n _ _ _ w ((ha.keep0 I.keeps).rs)) ?_))
      refine hdn (al1 15 rfl ((callv en60 (.cons (.t rfl) (.cons (.t rfl) .nil)) (fun w I => rroutes_n _ _ _ w ((hb.keep0 I.keeps).rs)) ?_)))
      refine hdn (tk 16 rfl (Ev.neq_i (.t rfl) (.t rfl)) ?_)
      refine ovr (pN ?_)
      first | refine condD rfl (fun h2 => ?_) (fun h2 => ?_) | refine cond rfl (fun h2 => ?_) (fun h2 => ?_)
      · replace h2 : ¬ l.rs.countP (SRoute.eqb (l.rs.getD i0.toNat eRoute.zero)) = k.rs.countP (SRoute.eqb (l.rs.getD i0.toNat eRoute.zero)) := by omega
        refine sg (co (Ev.assign (.c (v := .bool false) rfl)) ?_)
        refine nP (ret (bR (pR (pR (bR (pR (done rfl (.tmp rfl .nil) (retE ?_))))))))
        have hh : cntB SRoute.eqb l.rs k.rs = false := cntB_no eRoute.zero i0.toNat (by omega) h2
        rw [sameB_R, hh]; simp [tupV]
      · replace h2 : l.rs.countP (SRoute.eqb (l.rs.getD i0.toNat eRoute.zero)) = k.rs.countP (SRoute.eqb (l.rs.getD i0.toNat eRoute.zero)) := by omega
        refine skip (bN (pN (region (mv rfl (co (Ev.add_i (.t rfl) (.c (v := I 1) rfl) (fun _ => by omega)) ?_)))))
        refine asn rfl (nP (nx (X := Int) (i0 + 1) ⟨?_, ?_⟩ ?_))
        · try dsimp only
          omega
        · try dsimp only
          intro j h
          by_cases e : (j : Int) < i0
          · exact hq0 j e
          · obtain rfl : j = i0.toNat := by omega
            exact h2
        · try dsimp only
          omega
    · try simp only [nb] at h1
      refine exit (pX (pX (bX (pN (seq (sg (co (Ev.assign (.c (v := I 0) rfl)) ?_)))))))
      refine nP (block (lp (X := Int) (fun x : Int => (0 ≤ x ∧ x ≤ l.ms.length) ∧ (∀ j : Nat, j < x → l.ms.countP (SMeterConf.eqb (l.ms.getD j eMeterConf.zero)) = k.ms.countP (SMeterConf.eqb (l.ms.getD j eMeterConf.zero)))) (fun x : Int => [(2, true, .pointer (some ⟨b1, 0, none⟩)), (3, true, .pointer (some ⟨b2, 0, none⟩)), (6, true, I x)]) (fun x : Int => [Var b2 eConf b 28, Var b1 eConf a 28]) (fun x : Int => (l.ms.length - x).toNat) (0) ⟨?_, ?_⟩ (fun x hx => ?_)))
      · omega
      · intro j h; omega
      obtain ⟨i1, rfl⟩ : ∃ y, y = x := ⟨x, rfl⟩
      obtain ⟨hi1, hq1⟩ : (0 ≤ i1 ∧ i1 ≤ l.ms.length) ∧ (∀ j : Nat, j < i1 → l.ms.countP (SMeterConf.eqb (l.ms.getD j eMeterConf.zero)) = k.ms.countP (SMeterConf.eqb (l.ms.getD j eMeterConf.zero))) := hx
      show Sat _ _ [(2, true, .pointer (some ⟨b1, 0, none⟩)), (3, true, .pointer (some ⟨b2, 0, none⟩)), (6, true, I i1)] [Var b2 eConf b 28, Var b1 eConf a 28]
      refine seq (sg (mv rfl (co (fA 3 (.t rfl)) ?_)))
      refine co (Ev.ldx a.meters ty25 (.t rfl) SConf.l_meters) ?_
      refine co (Ev.len Tryz.underlying25 (.t rfl) (fun w I => (ha.keep0 I.keeps).ms)) ?_
      refine co (Ev.lss_i (.t rfl) (.t rfl)) ?_
      refine nP ?_
      first | refine condD rfl (fun h3 => ?_) (fun h3 => ?_) | refine cond rfl (fun h3 => ?_) (fun h3 => ?_)
      · try simp only [nb] at h3
        refine skip (pN (seq (block (seq (draw' (by kernel_rfl) ?_)))))
        refine tk 0 rfl (fA 3 (.t rfl)) ?_
        refine tk 1 rfl (Ev.ldx a.meters ty25 (.t rfl) SConf.l_meters) ?_
        refine tk 2 rfl (fA 3 (.t rfl)) ?_
        refine tk 3 rfl (Ev.ldx a.meters ty25 (.t rfl) SConf.l_meters) ?_
        refine tk 4 rfl (Ev.move (.t rfl)) ?_
        refine tk 5 rfl (Ev.indexAddr Tryz.underlying25 ty57 (.t rfl) (.t rfl) (fun w I => (ha.keep0 I.keeps).ms) (fun _ => by omega)) ?_
        refine tk 6 rfl (Ev.loadS0 ty57 (.t rfl) (fun w I => (ha.keep0 I.keeps).ms) (fun _ => by omega)) ?_
        refine tk 8 rfl (fA 3 (.t rfl)) ?_
        refine tk 9 rfl (Ev.ldx b.meters ty25 (.t rfl) SConf.l_meters) ?_
        refine tk 10 rfl (fA 3 (.t rfl)) ?_
        refine tk 11 rfl (Ev.ldx a.meters ty25 (.t rfl) SConf.l_meters) ?_
        refine tk 12 rfl (Ev.move (.t rfl)) ?_
        refine tk 13 rfl (Ev.indexAddr Tryz.underlying25 ty57 (.t rfl) (.t rfl) (fun w I => (ha.keep0 I.keeps).ms) (fun _ => by omega)) ?_
        refine tk 14 rfl (Ev.loadS0 ty57 (.t rfl) (fun w I => (ha.keep0 I.keeps).ms) (fun _ => by omega)) ?_
        refine al1 7 rfl ((callv en61 (.cons (.t rfl) (.cons (.t rfl) .nil)) (fun w I => rmeters_n _ _ _ w ((ha.keep0 I.keeps).ms)) ?_))
        refine hdn (al1 15 rfl ((callv en61 (.cons (.t rfl) (.cons (.t rfl) .nil)) (fun w I => rmeters_n _ _ _ w ((hb.keep0 I.keeps).ms)) ?_)))
        refine hdn (tk 16 rfl (Ev.neq_i (.t rfl) (.t rfl)) ?_)
        refine ovr (pN ?_)
        first | refine condD rfl (fun h4 => ?_) (fun h4 => ?_) | refine cond rfl (fun h4 => ?_) (fun h4 => ?_)
        · replace h4 : ¬ l.ms.countP (SMeterConf.eqb (l.ms.getD i1.toNat eMeterConf.zero)) = k.ms.countP (SMeterConf.eqb (l.ms.getD i1.toNat eMeterConf.zero)) := by omega
          refine sg (co (Ev.assign (.c (v := .bool false) rfl)) ?_)
          refine nP (ret (bR (pR (pR (bR (pR (done rfl (.tmp rfl .nil) (retE ?_))))))))
          have hh : cntB SMeterConf.eqb l.ms k.ms = false := cntB_no eMeterConf.zero i1.toNat (by omega) h4
          rw [sameB_R, hh]; simp [tupV]
        · replace h4 : l.ms.countP (SMeterConf.eqb (l.ms.getD i1.toNat eMeterConf.zero)) = k.ms.countP (SMeterConf.eqb (l.ms.getD i1.toNat eMeterConf.zero)) := by omega
          refine skip (bN (pN (region (mv rfl (co (Ev.add_i (.t rfl) (.c (v := I 1) rfl) (fun _ => by omega)) ?_)))))
          refine asn rfl (nP (nx (X := Int) (i1 + 1) ⟨?_, ?_⟩ ?_))
          · try dsimp only
            omega
          · try dsimp only
            intro j h
            by_cases e : (j : Int) < i1
            · exact hq1 j e
            · obtain rfl : j = i1.toNat := by omega
              exact h4
          · try dsimp only
            omega
      · try simp only [nb] at h3
        refine exit (pX (pX (bX (pN (seq (sg (co (Ev.assign (.c (v := I 0) rfl)) ?_)))))))
        refine nP (block (lp (X := Int) (fun x : Int => (0 ≤ x ∧ x ≤ l.xs.length) ∧ (∀ j : Nat, j < x → l.xs.countP (SMirrorConf.eqb (l.xs.getD j eMirrorConf.zero)) = k.xs.countP (SMirrorConf.eqb (l.xs.getD j eMirrorConf.zero)))) (fun x : Int => [(2, true, .pointer (some ⟨b1, 0, none⟩)), (3, true, .pointer (some ⟨b2, 0, none⟩)), (7, true, I x)]) (fun x : Int => [Var b2 eConf b 28, Var b1 eConf a 28]) (fun x : Int => (l.xs.length - x).toNat) (0) ⟨?_, ?_⟩ (fun x hx => ?_)))
        · omega
        · intro j h; omega
        obtain ⟨i2, rfl⟩ : ∃ y, y = x := ⟨x, rfl⟩
        obtain ⟨hi2, hq2⟩ : (0 ≤ i2 ∧ i2 ≤ l.xs.length) ∧ (∀ j : Nat, j < i2 → l.xs.countP (SMirrorConf.eqb (l.xs.getD j eMirrorConf.zero)) = k.xs.countP (SMirrorConf.eqb (l.xs.getD j eMirrorConf.zero))) := hx
        show Sat _ _ [(2, true, .pointer (some ⟨b1, 0, none⟩)), (3, true, .pointer (some ⟨b2, 0, none⟩)), (7, true, I i2)] [Var b2 eConf b 28, Var b1 eConf a 28]
        refine seq (sg (mv rfl (co (fA 4 (.t rfl)) ?_)))
        refine co (Ev.ldx a.mirrors ty26 (.t rfl) SConf.l_mirrors) ?_
        refine co (Ev.len Tryz.underlying26 (.t rfl) (fun w I => (ha.keep0 I.keeps).xs)) ?_
        refine co (Ev.lss_i (.t rfl) (.t rfl)) ?_
        refine nP ?_
        first | refine condD rfl (fun h5 => ?_) (fun h5 => ?_) | refine cond rfl (fun h5 => ?_) (fun h5 => ?_)
        · try simp only [nb] at h5
          refine skip (pN (seq (block (seq (draw' (by kernel_rfl) ?_)))))
          refine tk 0 rfl (fA 4 (.t rfl)) ?_
          refine tk 1 rfl (Ev.ldx a.mirrors ty26 (.t rfl) SConf.l_mirrors) ?_
          refine tk 2 rfl (fA 4 (.t rfl)) ?_
          refine tk 3 rfl (Ev.ldx a.mirrors ty26 (.t rfl) SConf.l_mirrors) ?_
          refine tk 4 rfl (Ev.move (.t rfl)) ?_
          refine tk 5 rfl (Ev.indexAddr Tryz.underlying26 ty59 (.t rfl) (.t rfl) (fun w I => (ha.keep0 I.keeps).xs) (fun _ => by omega)) ?_
          refine tk 6 rfl (Ev.loadS0 ty59 (.t rfl) (fun w I => (ha.keep0 I.keeps).xs) (fun _ => by omega)) ?_
          refine tk 8 rfl (fA 4 (.t rfl)) ?_
          refine tk 9 rfl (Ev.ldx b.mirrors ty26 (.t rfl) SConf.l_mirrors) ?_
          refine tk 10 rfl (fA 4 (.t rfl)) ?_
          refine tk 11 rfl (Ev.ldx a.mirrors ty26 (.t rfl) SConf.l_mirrors) ?_
          refine tk 12 rfl (Ev.move (.t rfl)) ?_
          refine tk 13 rfl (Ev.indexAddr Tryz.underlying26 ty59 (.t rfl) (.t rfl) (fun w I => (ha.keep0 I.keeps).xs) (fun _ => by omega)) ?_
          refine tk 14 rfl (Ev.loadS0 ty59 (.t rfl) (fun w I => (ha.keep0 I.keeps).xs) (fun _ => by omega)) ?_
          refine al1 7 rfl ((callv en62 (.cons (.t rfl) (.cons (.t rfl) .nil)) (fun w I => rmirrors_n _ _ _ w ((ha.keep0 I.keeps).xs)) ?_))
          refine hdn (al1 15 rfl ((callv en62 (.cons (.t rfl) (.cons (.t rfl) .nil)) (fun w I => rmirrors_n _ _ _ w ((hb.keep0 I.keeps).xs)) ?_)))
          refine hdn (tk 16 rfl (Ev.neq_i (.t rfl) (.t rfl)) ?_)
          refine ovr (pN ?_)
          first | refine condD rfl (fun h6 => ?_) (fun h6 => ?_) | refine cond rfl (fun h6 => ?_) (fun h6 => ?_)
          · replace h6 : ¬ l.xs.countP (SMirrorConf.eqb (l.xs.getD i2.toNat eMirrorConf.zero)) = k.xs.countP (SMirrorConf.eqb (l.xs.getD i2.toNat eMirrorConf.zero)) := by omega
            refine sg (co (Ev.assign (.c (v := .bool false) rfl)) ?_)
            refine nP (ret (bR (pR (pR (bR (pR (done rfl (.tmp rfl .nil) (retE ?_))))))))
            have hh : cntB SMirrorConf.eqb l.xs k.xs = false := cntB_no eMirrorConf.zero i2.toNat (by omega) h6
            rw [sameB_R, hh]; simp [tupV]
          · replace h6 : l.xs.countP (SMirrorConf.eqb (l.xs.getD i2.toNat eMirrorConf.zero)) = k.xs.countP (SMirrorConf.eqb (l.xs.getD i2.toNat eMirrorConf.zero)) := by omega
            refine skip (bN (pN (region (mv rfl (co (Ev.add_i (.t rfl) (.c (v := I 1) rfl) (fun _ => by omega)) ?_)))))
            refine asn rfl (nP (nx (X := Int) (i2 + 1) ⟨?_, ?_⟩ ?_))
            · try dsimp only
              omega
            · try dsimp only
              intro j h
              by_cases e : (j : Int) < i2
              · exact hq2 j e
              · obtain rfl : j = i2.toNat := by omega
                exact h6
            · try dsimp only
              omega
        · try simp only [nb] at h5
          refine exit (pX (pX (bX (pN (sg (co (Ev.assign (.c (v := .bool true) rfl)) ?_))))))
          refine nP (ret (done rfl (.tmp rfl .nil) (retE ?_)))
          rw [sameB_R, hhd, cntB_yes eRoute.zero (fun j hj => hq0 j (by omega)), cntB_yes eMeterConf.zero (fun j hj => hq1 j (by omega)), cntB_yes eMirrorConf.zero (fun j hj => hq2 j (by omega))]; rfl
theorem en22 : Gx.Enters Tryz.prog 22 := Gx.Enters.mk' (by kernel_rfl)
theorem rexact_ok (a b : SConf) (l k : CL) (w : World) (ha : ConfAt w a l) (hb : ConfAt w b k) : Calls Tryz.prog 17 #[eConf.val a, eConf.val b] w (RetV w (.bool (exactB l k a.default b.default))) := by
  have hla0 := ha.ps.le
  have hlb0 := hb.ps.le
  have hla1 := ha.rs.le
  have hlb1 := hb.rs.le
  have hla2 := ha.us.le
  have hlb2 := hb.us.le
  have hla3 := ha.ms.le
  have hlb3 := hb.ms.le
  have hla4 := ha.xs.le
  have hlb4 := hb.xs.le
  refine en0 66 Tryz.func17 ?_
  refine sg (cons (box (E := eConf) (.t rfl) (fun b1 => ?_)))
  refine cons (box (E := eConf) (.t rfl) (fun b2 => ?_))
  refine co (Ev.assign (.c (v := .bool false) rfl)) ?_
  refine nP (seq (sg (co (Ev.ldx a ty28 (.t rfl) (Lens.id _)) ?_)))
  refine co (Ev.ldx b ty28 (.t rfl) (Lens.id _)) ?_
  refine cons (callv en22 (.cons (.t rfl) (.cons (.t rfl) .nil)) (fun w I => rsame_ok a b l k w (ha.keep0 I.keeps) (hb.keep0 I.keeps)) ?_)
  refine co (Ev.not (.t rfl)) ?_
  refine nP ?_
  first | refine condD rfl (fun h0 => ?_) (fun h0 => ?_) | refine cond rfl (fun h0 => ?_) (fun h0 => ?_)
  · refine sg (co (Ev.assign (.c (v := .bool false) rfl)) ?_)
    refine nP (ret (pR (done rfl (.tmp rfl .nil) (retE ?_))))
    have hh : exactB l k a.default b.default = false := by
      rw [Bool.eq_false_iff]
      intro h
      obtain ⟨e1, e2, e3, e4, e5, e6⟩ := of_decide_eq_true h
      have hp := (sameB_perm l k a.default b.default).2 ⟨e1, e2, e3, by rw [e4], by rw [e5], by rw [e6]⟩
      simp [hp] at h0
    rw [hh]; rfl
  · have hsm := (sameB_perm l k a.default b.default).1 (by simpa using h0)
    have hn4 := hsm.2.2.2.1.length_eq
    have hn5 := hsm.2.2.2.2.1.length_eq
    have hn6 := hsm.2.2.2.2.2.length_eq
    refine skip (pN (seq (sg (co (Ev.assign (.c (v := I 0) rfl)) ?_))))
    refine nP (block (lp (X := Int) (fun x : Int => (0 ≤ x ∧ x ≤ l.rs.length) ∧ (∀ j : Nat, j < x → l.rs.getD j eRoute.zero = k.rs.getD j eRoute.zero)) (fun x : Int => [(2, true, .pointer (some ⟨b1, 0, none⟩)), (3, true, .pointer (some ⟨b2, 0, none⟩)), (5, true, I x)]) (fun x : Int => [Var b2 eConf b 28, Var b1 eConf a 28]) (fun x : Int => (l.rs.length - x).toNat) (0) ⟨?_, ?_⟩ (fun x hx => ?_)))
    · omega
    · intro j h; omega
    obtain ⟨i0, rfl⟩ : ∃ y, y = x := ⟨x, rfl⟩
    obtain ⟨hi0, hq0⟩ : (0 ≤ i0 ∧ i0 ≤ l.rs.length) ∧ (∀ j : Nat, j < i0 → l.rs.getD j eRoute.zero = k.rs.getD j eRoute.zero) := hx
    show Sat _ _ [(2, true, .pointer (some ⟨b1, 0, none⟩)), (3, true, .pointer (some ⟨b2, 0, none⟩)), (5, true, I i0)] [Var b2 eConf b 28, Var b1 eConf a 28]
    refine seq (sg (mv rfl (co (fA 1 (.t rfl)) ?_)))
    refine co (Ev.ldx a.routes ty23 (.t rfl) SConf.l_routes) ?_
    refine co (Ev.len Tryz.underlying23 (.t rfl) (fun w I => (ha.keep0 I.keeps).rs)) ?_
    refine co (Ev.lss_i (.t rfl) (.t rfl)) ?_
    refine nP ?_
    first | refine condD rfl (fun h1 => ?_) (fun h1 => ?_) | refine cond rfl (fun h1 => ?_) (fun h1 => ?_)
    · try simp only [nb] at h1
      refine skip (pN (seq (block (seq (draw' (by kernel_rfl) ?_)))))
      refine tk 0 rfl (fA 1 (.t rfl)) ?_
      refine tk 1 rfl (Ev.ldx a.routes ty23 (.t rfl) SConf.l_routes) ?_
      refine tk 2 rfl (Ev.move (.t rfl)) ?_
      refine tk 3 rfl (Ev.indexAddr Tryz.underlying23 ty52 (.t rfl) (.t rfl) (fun w I => (ha.keep0 I.keeps).rs) (fun _ => by omega)) ?_
      refine tk 4 rfl (Ev.loadS0 ty52 (.t rfl) (fun w I => (ha.keep0 I.keeps).rs) (fun _ => by omega)) ?_
      refine tk 5 rfl (fA 1 (.t rfl)) ?_
      refine tk 6 rfl (Ev.ldx b.routes ty23 (.t rfl) SConf.l_routes) ?_
      refine tk 7 rfl (Ev.move (.t rfl)) ?_
      refine tk 8 rfl (Ev.indexAddr Tryz.underlying23 ty52 (.t rfl) (.t rfl) (fun w I => (hb.keep0 I.keeps).rs) (fun _ => by omega)) ?_
      refine tk 9 rfl (Ev.loadS0 ty52 (.t rfl) (fun w I => (hb.keep0 I.keeps).rs) (fun _ => by omega)) ?_
      refine tk 10 rfl (Ev.neqS rfl eqok52 rfl (by kernel_rfl) (.t rfl) (.t rfl)) ?_
      refine ovr (pN ?_)
      first | refine condD rfl (fun h2 => ?_) (fun h2 => ?_) | refine cond rfl (fun h2 => ?_) (fun h2 => ?_)
      · refine sg (co (Ev.assign (.c (v := .bool false) rfl)) ?_)
        refine nP (ret (bR (pR (pR (bR (pR (done rfl (.tmp rfl .nil) (retE ?_))))))))
        have hh : exactB l k a.default b.default = false := by
          rw [Bool.eq_false_iff]
          intro h
          obtain ⟨e1, e2, e3, e4, e5, e6⟩ := of_decide_eq_true h
          rw [e4] at h2
          simp at h2
        rw [hh]; rfl
      · refine skip (bN (pN (region (mv rfl (co (Ev.add_i (.t rfl) (.c (v := I 1) rfl) (fun _ => by omega)) ?_)))))
        refine asn rfl (nP (nx (X := Int) (i0 + 1) ⟨?_, ?_⟩ ?_))
        · try dsimp only
          omega
        · try dsimp only
          intro j h
          by_cases e : (j : Int) < i0
          · exact hq0 j e
          · obtain rfl : j = i0.toNat := by omega
            simpa using h2
        · try dsimp only
          omega
    · try simp only [nb] at h1
      refine exit (pX (pX (bX (pN (seq (sg (co (Ev.assign (.c (v := I 0) rfl)) ?_)))))))
      refine nP (block (lp (X := Int) (fun x : Int => (0 ≤ x ∧ x ≤ l.ms.length) ∧ (∀ j : Nat, j < x → l.ms.getD j eMeterConf.zero = k.ms.getD j eMeterConf.zero)) (fun x : Int => [(2, true, .pointer (some ⟨b1, 0, none⟩)), (3, true, .pointer (some ⟨b2, 0, none⟩)), (6, true, I x)]) (fun x : Int => [Var b2 eConf b 28, Var b1 eConf a 28]) (fun x : Int => (l.ms.length - x).toNat) (0) ⟨?_, ?_⟩ (fun x hx => ?_)))
      · omega
      · intro j h; omega
      obtain ⟨i1, rfl⟩ : ∃ y, y = x := ⟨x, rfl⟩
      obtain ⟨hi1, hq1⟩ : (0 ≤ i1 ∧ i1 ≤ l.ms.length) ∧ (∀ j : Nat, j < i1 → l.ms.getD j eMeterConf.zero = k.ms.getD j eMeterConf.zero) := hx
      show Sat _ _ [(2, true, .pointer (some ⟨b1, 0, none⟩)), (3, true, .pointer (some ⟨b2, 0, none⟩)), (6, true, I i1)] [Var b2 eConf b 28, Var b1 eConf a 28]
      refine seq (sg (mv rfl (co (fA 3 (.t rfl)) ?_)))
      refine co (Ev.ldx a.meters ty25 (.t rfl) SConf.l_meters) ?_
      refine co (Ev.len Tryz.underlying25 (.t rfl) (fun w I => (ha.keep0 I.keeps).ms)) ?_
      refine co (Ev.lss_i (.t rfl) (.t rfl)) ?_
      refine nP ?_
      first | refine condD rfl (fun h3 => ?_) (fun h3 => ?_) | refine cond rfl (fun h3 => ?_) (fun h3 => ?_)
      · try simp only [nb] at h3
        refine skip (pN (seq (block (seq (draw' (by kernel_rfl) ?_)))))
        refine tk 0 rfl (fA 3 (.t rfl)) ?_
        refine tk 1 rfl (Ev.ldx a.meters ty25 (.t rfl) SConf.l_meters) ?_
        refine tk 2 rfl (Ev.move (.t rfl)) ?_
        refine tk 3 rfl (Ev.indexAddr Tryz.underlying25 ty57 (.t rfl) (.t rfl) (fun w I => (ha.keep0 I.keeps).ms) (fun _ => by omega)) ?_
        refine tk 4 rfl (Ev.loadS0 ty57 (.t rfl) (fun w I => (ha.keep0 I.keeps).ms) (fun _ => by omega)) ?_
        refine tk 5 rfl (fA 3 (.t rfl)) ?_
        refine tk 6 rfl (Ev.ldx b.meters ty25 (.t rfl) SConf.l_meters) ?_
        refine tk 7 rfl (Ev.move (.t rfl)) ?_
        refine tk 8 rfl (Ev.indexAddr Tryz.underlying25 ty57 (.t rfl) (.t rfl) (fun w I => (hb.keep0 I.keeps).ms) (fun _ => by omega)) ?_
        refine tk 9 rfl (Ev.loadS0 ty57 (.t rfl) (fun w I => (hb.keep0 I.keeps).ms) (fun _ => by omega)) ?_
        refine tk 10 rfl (Ev.neqS rfl eqok57 rfl (by kernel_rfl) (.t rfl) (.t rfl)) ?_
        refine ovr (pN ?_)
        first | refine condD rfl (fun h4 => ?_) (fun h4 => ?_) | refine cond rfl (fun h4 => ?_) (fun h4 => ?_)
        · refine sg (co (Ev.assign (.c (v := .bool false) rfl)) ?_)
          refine nP (ret (bR (pR (pR (bR (pR (done rfl (.tmp rfl .nil) (retE ?_))))))))
          have hh : exactB l k a.default b.default = false := by
            rw [Bool.eq_false_iff]
            intro h
            obtain ⟨e1, e2, e3, e4, e5, e6⟩ := of_decide_eq_true h
            rw [e5] at h4
            simp at h4
          rw [hh]; rfl
        · refine skip (bN (pN (region (mv rfl (co (Ev.add_i (.t rfl) (.c (v := I 1) rfl) (fun _ => by omega)) ?_)))))
          refine asn rfl (nP (nx (X := Int) (i1 + 1) ⟨?_, ?_⟩ ?_))
          · try dsimp only
            omega
          · try dsimp only
            intro j h
            by_cases e : (j : Int) < i1
            · exact hq1 j e
            · obtain rfl : j = i1.toNat := by omega
              simpa using h4
          · try dsimp only
            omega
      · try simp only [nb] at h3
        refine exit (pX (pX (bX (pN (seq (sg (co (Ev.assign (.c (v := I 0) rfl)) ?_)))))))
        refine nP (block (lp (X := Int) (fun x : Int => (0 ≤ x ∧ x ≤ l.xs.length) ∧ (∀ j : Nat, j < x → l.xs.getD j eMirrorConf.zero = k.xs.getD j eMirrorConf.zero)) (fun x : Int => [(2, true, .pointer (some ⟨b1, 0, none⟩)), (3, true, .pointer (some ⟨b2, 0, none⟩)), (7, true, I x)]) (fun x : Int => [Var b2 eConf b 28, Var b1 eConf a 28]) (fun x : Int => (l.xs.length - x).toNat) (0) ⟨?_, ?_⟩ (fun x hx => ?_)))
        · omega
        · intro j h; omega
        obtain ⟨i2, rfl⟩ : ∃ y, y = x := ⟨x, rfl⟩
        obtain ⟨hi2, hq2⟩ : (0 ≤ i2 ∧ i2 ≤ l.xs.length) ∧ (∀ j : Nat, j < i2 → l.xs.getD j eMirrorConf.zero = k.xs.getD j eMirrorConf.zero) := hx
        show Sat _ _ [(2, true, .pointer (some ⟨b1, 0, none⟩)), (3, true, .pointer (some ⟨b2, 0, none⟩)), (7, true, I i2)] [Var b2 eConf b 28, Var b1 eConf a 28]
        refine seq (sg (mv rfl (co (fA 4 (.t rfl)) ?_)))
        refine co (Ev.ldx a.mirrors ty26 (.t rfl) SConf.l_mirrors) ?_
        refine co (Ev.len Tryz.underlying26 (.t rfl) (fun w I => (ha.keep0 I.keeps).xs)) ?_
        refine co (Ev.lss_i (.t rfl) (.t rfl)) ?_
        refine nP ?_
        first | refine condD rfl (fun h5 => ?_) (fun h5 => ?_) | refine cond rfl (fun h5 => ?_) (fun h5 => ?_)
        · try simp only [nb] at h5
          refine skip (pN (seq (block (seq (draw' (by kernel_rfl) ?_)))))
          refine tk 0 rfl (fA 4 (.t rfl)) ?_
          refine tk 1 rfl (Ev.ldx a.mirrors ty26 (.t rfl) SConf.l_mirrors) ?_
          refine tk 2 rfl (Ev.move (.t rfl)) ?_
          refine tk 3 rfl (Ev.indexAddr Tryz.underlying26 ty59 (.t rfl) (.t rfl) (fun w I => (ha.keep0 I.keeps).xs) (fun _ => by omega)) ?_
          refine tk 4 rfl (Ev.loadS0 ty59 (.t rfl) (fun w I => (ha.keep0 I.keeps).xs) (fun _ => by omega)) ?_
          refine tk 5 rfl (fA 4 (.t rfl)) ?_
          refine tk 6 rfl (Ev.ldx b.mirrors ty26 (.t rfl) SConf.l_mirrors) ?_
          refine tk 7 rfl (Ev.move (.t rfl)) ?_
          refine tk 8 rfl (Ev.indexAddr Tryz.underlying26 ty59 (.t rfl) (.t rfl) (fun w I => (hb.keep0 I.keeps).xs) (fun _ => by omega)) ?_
          refine tk 9 rfl (Ev.loadS0 ty59 (.t rfl) (fun w I => (hb.keep0 I.keeps).xs) (fun _ => by omega)) ?_
          refine tk 10 rfl (Ev.neqS rfl eqok59 rfl (by kernel_rfl) (.t rfl) (.t rfl)) ?_
          refine ovr (pN ?_)
          first | refine condD rfl (fun h6 => ?_) (fun h6 => ?_) | refine cond rfl (fun h6 => ?_) (fun h6 => ?_)
          · refine sg (co (Ev.assign (.c (v := .bool false) rfl)) ?_)
            refine nP (ret (bR (pR (pR (bR (pR (done rfl (.tmp rfl .nil) (retE ?_))))))))
            have hh : exactB l k a.default b.default = false := by
              rw [Bool.eq_false_iff]
              intro h
              obtain ⟨e1, e2, e3, e4, e5, e6⟩ := of_decide_eq_true h
              rw [e6] at h6
              simp at h6
            rw [hh]; rfl
          · refine skip (bN (pN (region (mv rfl (co (Ev.add_i (.t rfl) (.c (v := I 1) rfl) (fun _ => by omega)) ?_)))))
            refine asn rfl (nP (nx (X := Int) (i2 + 1) ⟨?_, ?_⟩ ?_))
            · try dsimp only
              omega
            · try dsimp only
              intro j h
              by_cases e : (j : Int) < i2
              · exact hq2 j e
              · obtain rfl : j = i2.toNat := by omega
                simpa using h6
            · try dsimp only
              omega
        · try simp only [nb] at h5
          refine exit (pX (pX (bX (pN (sg (co (Ev.assign (.c (v := .bool true) rfl)) ?_))))))
          refine nP (ret (done rfl (.tmp rfl .nil) (retE ?_)))
          have hh : exactB l k a.default b.default = true := decide_eq_true ⟨hsm.1, hsm.2.1, hsm.2.2.1, eq_getD eRoute.zero (by omega) (fun j hj => hq0 j (by omega)), eq_getD eMeterConf.zero (by omega) (fun j hj => hq1 j (by omega)), eq_getD eMirrorConf.zero (by omega) (fun j hj => hq2 j (by omega))⟩
          rw [hh]; rfl
theorem mo5 {K : Ctx} {L : List Res} {x : CB} {l : CL} {d : Int} (w : World) (I : WInv K L w) (h0 : OwnS x.o1.v iE (markL l).ps 3 ∈ L := by repeat first | exact mH | apply mT | apply mA) (h1 : OwnS x.o2.v eRoute (markL l).rs 52 ∈ L := by repeat first | exact mH | apply mT | apply mA) (h2 : OwnS x.o3.v eRule (markL l).us 76 ∈ L := by repeat first | exact mH | apply mT | apply mA) (h3 : OwnS x.o4.v eMeterConf (markL l).ms 57 ∈ L := by repeat first | exact mH | apply mT | apply mA) (h4 : OwnS x.o5.v eMirrorConf (markL l).xs 59 ∈ L := by repeat first | exact mH | apply mT | apply mA) : ConfAt w ((subC x l).c d) l := (co5 (d := d) w I h0 h1 h2 h3 h4).sub
theorem CL.Small.n {l : CL} (h : l.Small) : l.n ≤ 4611686018427387904 := by
  obtain ⟨h1, h2, h3, h4, h5⟩ := h
  unfold CL.n
  omega
theorem takeC_small (l : CL) {n : Nat} (h : n ≤ 2000) : (takeC l n).Small := by
  obtain ⟨h1, h2, h3, h4, h5⟩ := takeC_len l n
  exact ⟨by omega, by omega, by omega, by omega, by omega⟩
theorem takeC_names {l : CL} (h : l.Names) (n : Nat) : (takeC l n).Names := ⟨fun x hx => h.us x (List.mem_of_mem_take hx), fun x hx => h.ms x (List.mem_of_mem_take hx), fun x hx => h.xs x (List.mem_of_mem_take hx)⟩
theorem en10 : Gx.Enters Tryz.prog 10 := Gx.Enters.mk' (by kernel_rfl)
theorem en11 : Gx.Enters Tryz.prog 11 := Gx.Enters.mk' (by kernel_rfl)
theorem en13 : Gx.Enters Tryz.prog 13 := Gx.Enters.mk' (by kernel_rfl)
theorem en17 : Gx.Enters Tryz.prog 17 := Gx.Enters.mk' (by kernel_rfl)
theorem en19 : Gx.Enters Tryz.prog 19 := Gx.Enters.mk' (by kernel_rfl)
theorem en20 : Gx.Enters Tryz.prog 20 := Gx.Enters.mk' (by kernel_rfl)
theorem none_idx {α κ : Type} {q : κ → κ → Bool} (hi : ∀ x y, q x y = true ↔ x = y) (f : α → κ) (l : List α) (k : κ) : (findV q k (firstN q f l l.length)).isNone = decide (idxF (fun x => q (f x) k) l < 0) := by
  have h := find_idx hi f l k
  rw [Bool.eq_iff_iff, decide_eq_true_iff, Option.isNone_iff_eq_none, ← Option.not_isSome_iff_eq_none, h]
  simp
structure CL.Few (l : CL) : Prop where
  ps : l.ps.length ≤ 2000
  rs : l.rs.length ≤ 2000
  us : l.us.length ≤ 2000
  ms : l.ms.length ≤ 2000
  xs : l.xs.length ≤ 2000
theorem rmay_ok (c : SConf) (l : CL) (w : World) (hc : ConfAt w c l) (hn : l.Names) (hz : l.n ≤ 4611686018427387904) : Calls Tryz.prog 89 #[eConf.val c] w (RetV w (.bool (mayB l c.default))) := by
  refine en0 7 Tryz.func89 ?_
  refine sg (cons (box (E := eConf) (.t rfl) (fun b1 => ?_)))
  refine co (Ev.assign (.c (v := .bool false) rfl)) ?_
  refine nP (sg (co (Ev.ldx c ty28 (.t rfl) (Lens.id _)) ?_))
  refine cons (callo en13 (.cons (.t rfl) .nil) (fun w I => rcheck_conf c l w (hc.keep0 I.keeps) hn hz) (fun v2 => ?_))
  refine co (Ev.len Tryz.underlying31 (.t rfl) (by first | exact isSl_own (by repeat first | exact mH | apply mT | apply mA) | exact fun w I => IsSl.keep0 (by assumption) I.keeps)) ?_
  refine co (Ev.eql_i (.t rfl) (.c (v := I 0) rfl)) ?_
  refine asn rfl (nP (ret (done rfl (.tmp rfl .nil) (retE ?_))))
  unfold mayB
  refine congrArg Value.bool ?_
  rw [Bool.eq_iff_iff, decide_eq_true_iff, decide_eq_true_iff, ← List.length_eq_zero_iff]
  omega
theorem en89 : Gx.Enters Tryz.prog 89 := Gx.Enters.mk' (by kernel_rfl)
def ChSame (c d : SChange) : Prop := c.kind = d.kind ∧ c.port = d.port ∧ c.route = d.route ∧ c.meter = d.meter ∧ c.mirror = d.mirror ∧ c.default = d.default
theorem ChSame.refl (c : SChange) : ChSame c c := ⟨rfl, rfl, rfl, rfl, rfl, rfl⟩
structure ChsSame (cs ds : List SChange) (rl rm : List (List SRule)) : Prop where
  n : cs.length = ds.length
  ch : ∀ i, i < cs.length → ChSame (cs.getD i eChange.zero) (ds.getD i eChange.zero)
  r : ∀ i, i < cs.length → rl.getD i [] = rm.getD i []
def OptR (b : Bool) (r : Res) : Res := bif b then r else Emp
def rlC (cs : List SChange) (us : List SRule) : List (List SRule) := cs.map (fun c => if c.kind = 9 then us else [])
theorem rlC_get (cs : List SChange) (us : List SRule) (i : Nat) (h : i < cs.length) : (rlC cs us).getD i [] = if (cs.getD i eChange.zero).kind = 9 then us else [] := by
  unfold rlC
  simp [List.getD, h]
def ChK (rv : OV) (c : SChange) : Prop := (c.kind = 9 ∧ c.rules = rv) ∨ (c.kind ≠ 9 ∧ c.rules = nilSl)
theorem chPort_k (k : Int) (h : k ≠ 9) (x : Int) : (chPort k x).kind ≠ 9 ∧ (chPort k x).rules = nilSl := ⟨h, rfl⟩
theorem chRoute_k (k : Int) (h : k ≠ 9) (x : SRoute) : (chRoute k x).kind ≠ 9 ∧ (chRoute k x).rules = nilSl := ⟨h, rfl⟩
theorem chMeter_k (k : Int) (h : k ≠ 9) (x : SMeterConf) : (chMeter k x).kind ≠ 9 ∧ (chMeter k x).rules = nilSl := ⟨h, rfl⟩
theorem chMirror_k (k : Int) (h : k ≠ 9) (x : SMirrorConf) : (chMirror k x).kind ≠ 9 ∧ (chMirror k x).rules = nilSl := ⟨h, rfl⟩
def is9 (c : SChange) : Bool := decide (c.kind = 9)
def setR (rv : OV) (c : SChange) : SChange := if c.kind = 9 then { c with rules := rv } else c
def runC : List (SChange × List SRule) → CD → Option CD
  | [], s => some s
  | p :: l, s => if changeB s.l p.1 = true then runC l ⟨changeL s.l p.1 p.2, changeD s.d p.1⟩ else none
theorem runC_append : ∀ (l k : List (SChange × List SRule)) (s : CD), runC (l ++ k) s = (runC l s).bind (runC k)
  | [], k, s => rfl
  | p :: l, k, s => by
    show (if changeB s.l p.1 = true then runC (l ++ k) ⟨changeL s.l p.1 p.2, changeD s.d p.1⟩ else none) = Option.bind (if changeB s.l p.1 = true then runC l ⟨changeL s.l p.1 p.2, changeD s.d p.1⟩ else none) (runC k)
    split
    · exact runC_append l k _
    · rfl
def prC (us : List SRule) (c : SChange) : SChange × List SRule := (c, if c.kind = 9 then us else [])
theorem goN_run (s : CD) (cs : List SChange) (us : List SRule) : ∀ n, n ≤ cs.length → goN s cs (rlC cs us) n = runC ((cs.take n).map (prC us)) s
  | 0, _ => rfl
  | n + 1, h => by
    have hlt : n < cs.length := by omega
    have ih := goN_run s cs us n (by omega)
    have e : cs[n] = cs.getD n eChange.zero := by simp [List.getD, hlt]
    rw [List.take_succ_eq_append_getElem hlt, List.map_append, runC_append, ← ih, goN, rlC_get cs us n hlt, e]
    cases goN s cs (rlC cs us) n with
    | none => rfl
    | some t => rfl
theorem goN_all (s : CD) (cs : List SChange) (us : List SRule) : goN s cs (rlC cs us) cs.length = runC (cs.map (prC us)) s := by
  rw [goN_run s cs us _ (Nat.le_refl _), List.take_length]
theorem idx_split {α : Type} {p : α → Bool} : ∀ {l : List α}, 0 ≤ idxF p l → ∃ A y B, l = A ++ y :: B ∧ p y = true ∧ (∀ a ∈ A, p a = false) ∧ idxF p l = A.length := by
  intro l h
  unfold idxF at h
  cases e : l.findIdx? p with
  | none => rw [e] at h; simp only at h; omega
  | some i =>
    obtain ⟨h1, h2, h3⟩ := List.findIdx?_eq_some_iff_getElem.1 e
    refine ⟨l.take i, l[i], l.drop (i + 1), ?_, h2, fun a ha => ?_, ?_⟩
    · rw [← List.drop_eq_getElem_cons h1, List.take_append_drop]
    · obtain ⟨j, hj, rfl⟩ := List.mem_iff_getElem.1 ha
      have hj2 : j < i := by simp at hj; omega
      have := h3 j hj2
      simpa using this
    · unfold idxF
      rw [e, List.length_take]
      simp only
      omega
theorem idx_none' {α : Type} {p : α → Bool} {l : List α} (h : ∀ y ∈ l, p y = false) : idxF p l = -1 := by
  unfold idxF
  rw [List.findIdx?_eq_none_iff.2 h]
theorem idx_nn {α : Type} {p : α → Bool} {l : List α} {y : α} (hy : y ∈ l) (hp : p y = true) : 0 ≤ idxF p l := by
  rcases Int.lt_or_le (idxF p l) 0 with h | h
  · rw [idxF_neg h y hy] at hp
    cases hp
  · exact h
abbrev KeyE {κ : Type} (e : κ → κ → Bool) : Prop := ∀ a b, e a b = true ↔ a = b
theorem set_key {α κ : Type} {e : κ → κ → Bool} (he : KeyE e) {f : α → κ} {l : List α} (hu : (l.map f).Nodup) (x : α) : ((setL l (idxF (fun z => e (f z) (f x)) l) x).map f).Nodup ∧ ∀ y, y ∈ setL l (idxF (fun z => e (f z) (f x)) l) x ↔ y = x ∨ (y ∈ l ∧ f y ≠ f x) := by
  rcases Int.lt_or_le (idxF (fun z => e (f z) (f x)) l) 0 with h | h
  · have hn := idxF_neg h
    have hne : ∀ y ∈ l, f y ≠ f x := fun y hy hk => by
      have := hn y hy
      rw [(he _ _).2 hk] at this
      cases this
    unfold setL
    rw [if_pos h]
    refine ⟨?_, fun y => ?_⟩
    · rw [List.map_append, List.nodup_append]
      refine ⟨hu, by simp, fun a ha b hb => ?_⟩
      obtain ⟨y, hy, rfl⟩ := List.mem_map.1 ha
      simp only [List.map_cons, List.map_nil, List.mem_singleton] at hb
      rw [hb]
      exact hne y hy
    · rw [List.mem_append, List.mem_singleton]
      constructor
      · rintro (h1 | h1)
        · exact .inr ⟨h1, hne y h1⟩
        · exact .inl h1
      · rintro (h1 | h1)
        · exact .inr h1
        · exact .inl h1.1
  · obtain ⟨A, z, B, e1, e2, e3, e4⟩ := idx_split h
    have hz : f z = f x := (he _ _).1 e2
    unfold setL
    rw [if_neg (by omega), e4]
    subst e1
    rw [Int.toNat_natCast, List.set_append_right _ _ (Nat.le_refl _), Nat.sub_self, List.set_cons_zero]
    rw [List.map_append, List.map_cons, hz] at hu
    refine ⟨by rw [List.map_append, List.map_cons]; exact hu, fun y => ?_⟩
    rw [List.nodup_append, List.nodup_cons] at hu
    obtain ⟨u1, ⟨u2, u3⟩, u4⟩ := hu
    simp only [List.mem_append, List.mem_cons]
    constructor
    · rintro (h1 | h1 | h1)
      · exact .inr ⟨.inl h1, u4 _ (List.mem_map_of_mem h1) _ List.mem_cons_self⟩
      · exact .inl h1
      · exact .inr ⟨.inr (.inr h1), fun h2 => u2 (by rw [← h2]; exact List.mem_map_of_mem h1)⟩
    · rintro (h1 | ⟨h1 | h1 | h1, h2⟩)
      · exact .inr (.inl h1)
      · exact .inl h1
      · rw [h1] at h2; exact absurd hz h2
      · exact .inr (.inr h1)
theorem cut_key {α κ : Type} {e : κ → κ → Bool} (he : KeyE e) {f : α → κ} {l : List α} (hu : (l.map f).Nodup) {k : κ} (hk : k ∈ l.map f) : ¬ idxF (fun z => e (f z) k) l < 0 ∧ ((cutI l (idxF (fun z => e (f z) k) l)).map f).Nodup ∧ (cutI l (idxF (fun z => e (f z) k) l)).Sublist l ∧ ∀ y, y ∈ cutI l (idxF (fun z => e (f z) k) l) ↔ y ∈ l ∧ f y ≠ k := by
  obtain ⟨x, hx, rfl⟩ := List.mem_map.1 hk
  have h : 0 ≤ idxF (fun z => e (f z) (f x)) l := idx_nn hx ((he _ _).2 rfl)
  refine ⟨by omega, ?_⟩
  have hs := cutI_sub l (idxF (fun z => e (f z) (f x)) l)
  refine ⟨(hu.sublist (hs.map f)), hs, fun y => ?_⟩
  obtain ⟨A, z, B, e1, e2, e3, e4⟩ := idx_split h
  have hz : f z = f x := (he _ _).1 e2
  unfold cutI cutL
  rw [if_neg (by omega), e4]
  subst e1
  have t1 : (A ++ z :: B).take ((A.length : Int)).toNat = A := by rw [Int.toNat_natCast]; exact List.take_left
  have t2 : (A ++ z :: B).drop ((A.length : Int) + 1).toNat = B := by
    have : ((A.length : Int) + 1).toNat = A.length + 1 := by omega
    rw [this, ← List.drop_drop, List.drop_left]
    rfl
  rw [t1, t2]
  rw [List.map_append, List.map_cons, hz, List.nodup_append, List.nodup_cons] at hu
  obtain ⟨u1, ⟨u2, u3⟩, u4⟩ := hu
  simp only [List.mem_append, List.mem_cons]
  constructor
  · rintro (h1 | h1)
    · exact ⟨.inl h1, u4 _ (List.mem_map_of_mem h1) _ List.mem_cons_self⟩
    · exact ⟨.inr (.inr h1), fun h2 => u2 (by rw [← h2]; exact List.mem_map_of_mem h1)⟩
  · rintro ⟨h1 | h1 | h1, h2⟩
    · exact .inl h1
    · rw [h1] at h2; exact absurd hz h2
    · exact .inr h1
theorem run_sets {α κ : Type} {e : κ → κ → Bool} (he : KeyE e) {f : α → κ} (get : CL → List α) (put : CL → List α → CL) (mk : α → SChange) (hg : ∀ l a, get (put l a) = a) (hp : ∀ l a b, put (put l a) b = put l b)
    (hB : ∀ l x, changeB l (mk x) = true) (hL : ∀ l x, changeL l (mk x) [] = put l (setL (get l) (idxF (fun z => e (f z) (f x)) (get l)) x)) (hD : ∀ d x, changeD d (mk x) = d) :
    ∀ (xs : List α) (l : CL) (d : Int), put l (get l) = l → ((get l).map f).Nodup → (xs.map f).Nodup → ∃ a, runC (xs.map (fun x => (mk x, []))) ⟨l, d⟩ = some ⟨put l a, d⟩ ∧ (a.map f).Nodup ∧ ∀ y, y ∈ a ↔ y ∈ xs ∨ (y ∈ get l ∧ f y ∉ xs.map f)
  | [], l, d, h0, hu, _ => ⟨get l, by rw [h0]; rfl, hu, fun y => by simp⟩
  | x :: xs, l, d, h0, hu, hx => by
    obtain ⟨h1, h2⟩ := set_key he hu x
    rw [List.map_cons, List.nodup_cons] at hx
    obtain ⟨a, a1, a2, a3⟩ := run_sets he get put mk hg hp hB hL hD xs (put l (setL (get l) (idxF (fun z => e (f z) (f x)) (get l)) x)) d (by rw [hg, hp]) (by rw [hg]; exact h1) hx.2
    refine ⟨a, ?_, a2, fun y => ?_⟩
    · rw [hp] at a1
      rw [List.map_cons]
      show (if changeB l (mk x) = true then runC _ ⟨changeL l (mk x) [], changeD d (mk x)⟩ else none) = _
      rw [if_pos (hB l x), hL, hD]
      exact a1
    · rw [a3, hg, h2]
      simp only [List.map_cons, List.mem_cons, not_or]
      constructor
      · rintro (h | ⟨h | ⟨h, h3⟩, h4⟩)
        · exact .inl (.inr h)
        · exact .inl (.inl h)
        · exact .inr ⟨h, h3, h4⟩
      · rintro ((h | h) | ⟨h, h3, h4⟩)
        · exact .inr ⟨.inl h, by rw [h]; exact hx.1⟩
        · exact .inl h
        · exact .inr ⟨.inr ⟨h, h3⟩, h4⟩
theorem run_cuts {α κ : Type} {e : κ → κ → Bool} (he : KeyE e) {f : α → κ} (get : CL → List α) (put : CL → List α → CL) (mk : α → SChange) (hg : ∀ l a, get (put l a) = a) (hp : ∀ l a b, put (put l a) b = put l b)
    (hB : ∀ l x, changeB l (mk x) = decide (¬ idxF (fun z => e (f z) (f x)) (get l) < 0)) (hL : ∀ l x, changeL l (mk x) [] = put l (cutI (get l) (idxF (fun z => e (f z) (f x)) (get l)))) (hD : ∀ d x, changeD d (mk x) = d) :
    ∀ (xs : List α) (l : CL) (d : Int), put l (get l) = l → ((get l).map f).Nodup → (xs.map f).Nodup → (∀ x ∈ xs, f x ∈ (get l).map f) → ∃ a, runC (xs.map (fun x => (mk x, []))) ⟨l, d⟩ = some ⟨put l a, d⟩ ∧ (a.map f).Nodup ∧ a.Sublist (get l) ∧ ∀ y, y ∈ a ↔ y ∈ get l ∧ f y ∉ xs.map f
  | [], l, d, h0, hu, _, _ => ⟨get l, by rw [h0]; rfl, hu, List.Sublist.refl _, fun y => by simp⟩
  | x :: xs, l, d, h0, hu, hx, hm => by
    obtain ⟨h0', h1, hs, h2⟩ := cut_key he hu (hm x List.mem_cons_self)
    rw [List.map_cons, List.nodup_cons] at hx
    obtain ⟨a, a1, a2, asb, a3⟩ := run_cuts he get put mk hg hp hB hL hD xs (put l (cutI (get l) (idxF (fun z => e (f z) (f x)) (get l)))) d (by rw [hg, hp]) (by rw [hg]; exact h1) hx.2 (fun y hy => by
      rw [hg]
      obtain ⟨z, hz, e1⟩ := List.mem_map.1 (hm y (List.mem_cons_of_mem _ hy))
      rw [← e1]
      refine List.mem_map_of_mem ((h2 z).2 ⟨hz, ?_⟩)
      rw [e1]
      exact fun e2 => hx.1 (by rw [← e2]; exact List.mem_map_of_mem hy))
    refine ⟨a, ?_, a2, ?_, fun y => ?_⟩
    · rw [hp] at a1
      rw [List.map_cons]
      show (if changeB l (mk x) = true then runC _ ⟨changeL l (mk x) [], changeD d (mk x)⟩ else none) = _
      rw [if_pos (by rw [hB]; exact decide_eq_true h0'), hL, hD]
      exact a1
    · rw [hg] at asb
      exact asb.trans hs
    · rw [a3, hg, h2]
      simp only [List.map_cons, List.mem_cons, not_or]
      constructor
      · rintro ⟨⟨h, h3⟩, h4⟩
        exact ⟨h, h3, h4⟩
      · rintro ⟨h, h3, h4⟩
        exact ⟨⟨h, h3⟩, h4⟩
theorem add_bad {l : CL} {x : Int} (h : x ∉ l.ps) (h2 : 0 ≤ x ∧ x ≤ 255) : addBad l (chPort 1 x) = false := by
  have hi : iP l (chPort 1 x) = -1 := idx_none' fun y hy => by
    show decide (x = y) = false
    exact decide_eq_false fun e => h (e ▸ hy)
  unfold addBad
  rw [hi, Bool.or_eq_false_iff, Bool.or_eq_false_iff]
  exact ⟨⟨rfl, decide_eq_false (by show ¬ x < 0; omega)⟩, decide_eq_false (by show ¬ 255 < x; omega)⟩
theorem insL_mem (l : List Int) (i a y : Int) : y ∈ insL l i a ↔ y = a ∨ y ∈ l := by
  unfold insL
  have h : y ∈ l ↔ y ∈ l.take i.toNat ∨ y ∈ l.drop i.toNat := by
    rw [← List.mem_append, List.take_append_drop]
  rw [List.mem_append, List.mem_append, List.mem_singleton, h]
  constructor
  · rintro ((h | h) | h)
    · exact .inr (.inl h)
    · exact .inl h
    · exact .inr (.inr h)
  · rintro (h | h | h)
    · exact .inl (.inr h)
    · exact .inl (.inl h)
    · exact .inr h
theorem run_adds : ∀ (xs : List Int) (l : CL) (d : Int), l.ps.Pairwise (· < ·) → xs.Nodup → (∀ x ∈ xs, x ∉ l.ps ∧ 0 ≤ x ∧ x ≤ 255) → ∃ a, runC (xs.map (fun x => (chPort 1 x, []))) ⟨l, d⟩ = some ⟨{ l with ps := a }, d⟩ ∧ a.Pairwise (· < ·) ∧ ∀ y, y ∈ a ↔ y ∈ xs ∨ y ∈ l.ps
  | [], l, d, hs, _, _ => ⟨l.ps, rfl, hs, fun y => by simp⟩
  | x :: xs, l, d, hs, hx, hm => by
    rw [List.nodup_cons] at hx
    obtain ⟨m1, m2⟩ := hm x List.mem_cons_self
    have hb := add_bad m1 m2
    have hL : changeL l (chPort 1 x) [] = { l with ps := insL l.ps (lowB l.ps x) x } := by
      unfold changeL
      rw [show (chPort 1 x).kind = 1 from rfl, if_pos rfl, hb]
      rfl
    have hup : (insL l.ps (lowB l.ps x) x).Pairwise (· < ·) := low_ins hs (fun y hy e => m1 (e ▸ hy))
    obtain ⟨a, a1, a2, a3⟩ := run_adds xs { l with ps := insL l.ps (lowB l.ps x) x } d hup hx.2 (fun y hy => ⟨fun h => by
      rcases (insL_mem _ _ _ _).1 h with h | h
      · exact hx.1 (h ▸ hy)
      · exact (hm y (List.mem_cons_of_mem _ hy)).1 h, (hm y (List.mem_cons_of_mem _ hy)).2⟩)
    refine ⟨a, ?_, a2, fun y => ?_⟩
    · rw [List.map_cons]
      show (if changeB l (chPort 1 x) = true then runC _ ⟨changeL l (chPort 1 x) [], changeD d (chPort 1 x)⟩ else none) = _
      have hB : changeB l (chPort 1 x) = true := by
        unfold changeB
        rw [show (chPort 1 x).kind = 1 from rfl, if_pos rfl, hb]
        rfl
      rw [if_pos hB, hL]
      exact a1
    · rw [a3]
      show y ∈ xs ∨ y ∈ insL l.ps (lowB l.ps x) x ↔ _
      rw [insL_mem, List.mem_cons]
      constructor
      · rintro (h | h | h)
        · exact .inl (.inr h)
        · exact .inl (.inl h)
        · exact .inr h
      · rintro ((h | h) | h)
        · exact .inr (.inl h)
        · exact .inl h
        · exact .inr (.inr h)
theorem none_mem {α κ : Type} {q : κ → κ → Bool} (hi : KeyE q) (f : α → κ) (l : List α) (k : κ) : (findV q k (firstN q f l l.length)).isNone = true ↔ k ∉ l.map f := by
  rw [find_all hi, Option.isNone_iff_eq_none, Option.map_eq_none_iff, List.findIdx?_eq_none_iff]
  constructor
  · intro h hm
    obtain ⟨x, hx, rfl⟩ := List.mem_map.1 hm
    have := h x hx
    rw [(hi _ _).2 rfl] at this
    cases this
  · intro h x hx
    rw [Bool.eq_false_iff]
    intro hq
    exact h (List.mem_map.2 ⟨x, hx, (hi _ _).1 hq⟩)
theorem mem_gone {α κ : Type} {q : κ → κ → Bool} (hi : KeyE q) {β : Type} (g : β → κ) (f : α → κ) (l : List α) (xs : List β) (y : β) : y ∈ xs.filter (fun x => (findV q (g x) (firstN q f l l.length)).isNone) ↔ y ∈ xs ∧ g y ∉ l.map f := by
  rw [List.mem_filter, none_mem hi]
theorem idxF_le {α : Type} {p : α → Bool} {l : List α} {i : Nat} (h : i < l.length) (hp : p l[i] = true) : 0 ≤ idxF p l ∧ idxF p l ≤ i := by
  unfold idxF
  cases e : l.findIdx? p with
  | none =>
    have := List.findIdx?_eq_none_iff.1 e l[i] (List.getElem_mem h)
    rw [hp] at this
    cases this
  | some m =>
    obtain ⟨h1, h2, h3⟩ := List.findIdx?_eq_some_iff_getElem.1 e
    simp only
    rcases Nat.lt_or_ge i m with h4 | h4
    · exact absurd hp (h3 i h4)
    · omega
theorem nodup_inj {α κ : Type} {f : α → κ} {l : List α} (h : (l.map f).Nodup) {x y : α} (hx : x ∈ l) (hy : y ∈ l) (e : f x = f y) : x = y := by
  obtain ⟨i, hi, rfl⟩ := List.mem_iff_getElem.1 hx
  obtain ⟨j, hj, rfl⟩ := List.mem_iff_getElem.1 hy
  have hp := List.pairwise_iff_getElem.1 h
  rcases Nat.lt_trichotomy i j with h1 | h1 | h1
  · exact absurd (by rw [List.getElem_map, List.getElem_map]; exact e) (hp i j (by simpa using hi) (by simpa using hj) h1)
  · subst h1; rfl
  · exact absurd (by rw [List.getElem_map, List.getElem_map]; exact e.symm) (hp j i (by simpa using hj) (by simpa using hi) h1)
theorem nodup_first {α κ : Type} {q : κ → κ → Bool} (hi : KeyE q) {f : α → κ} {l : List α} (z : α) (h : ∀ i, i < l.length → ¬ (findV q (f (l.getD i z)) (firstN q f l l.length)).getD 0 < (i : Int)) : (l.map f).Nodup := by
  refine List.pairwise_iff_getElem.2 fun i j h1 h2 hij e => ?_
  have h1' : i < l.length := by simpa using h1
  have h2' : j < l.length := by simpa using h2
  have hj := h j h2'
  rw [find_at hi f l z j h2'] at hj
  have e2 : l.getD j z = l[j] := by simp [List.getD, h2']
  rw [e2] at hj
  have := (idxF_le (p := fun x => q (f x) (f l[j])) h1' ((hi _ _).2 (by simpa using e))).2
  omega
theorem first_nodup {α κ : Type} {q : κ → κ → Bool} (hi : KeyE q) {f : α → κ} {l : List α} (z : α) (h : (l.map f).Nodup) (i : Nat) (hlt : i < l.length) : ¬ (findV q (f (l.getD i z)) (firstN q f l l.length)).getD 0 < (i : Int) := by
  rw [find_at hi f l z i hlt]
  have e2 : l.getD i z = l[i] := by simp [List.getD, hlt]
  rw [e2]
  obtain ⟨A, y, B, e3, e4, e5, e6⟩ := idx_split (idxF_le (p := fun x => q (f x) (f l[i])) hlt ((hi _ _).2 rfl)).1
  rw [e6]
  intro hl
  have hA : A.length < l.length := by rw [e3]; simp
  have hy : l[A.length] = y := by
    have : ∀ (k : List α) (hk : A.length < k.length), k = A ++ y :: B → k[A.length] = y := fun k hk e => by subst e; simp
    exact this l hA e3
  have hp := List.pairwise_iff_getElem.1 h A.length i (by simpa using hA) (by simpa using hlt) (by omega)
  apply hp
  simp only [List.getElem_map, hy]
  exact (hi _ _).1 e4
theorem ports_in {l : CL} {d : Int} (h : l.Good d) : ∀ x ∈ l.ps, 0 ≤ x ∧ x ≤ 255 := by
  intro x hx
  obtain ⟨i, hi, rfl⟩ := List.mem_iff_getElem.1 hx
  have h1 := h.ps i hi
  have e : l.ps.getD i iE.zero = l.ps[i] := by simp [List.getD, hi]
  rw [e] at h1
  unfold portE at h1
  split at h1
  · cases h1
  · omega
theorem routeE_z {l : CL} {r : SRoute} {i : Int} : routeE l r i = 0 ↔ checkP r.to_ = 0 ∧ portB l r.out = true ∧ ¬ (findV SPrefix.eqb r.to_ (routesM l)).getD 0 < i := by
  unfold routeE
  split
  · rename_i h; simp [h]
  · split
    · rename_i h; simp [h]
    · split
      · rename_i h; simp [h]
      · rename_i h1 h2 h3
        simp only [ne_eq, Decidable.not_not] at h1
        simp [h1, h3]
        simpa using h2
theorem meterE_z {l : CL} {r : SMeterConf} {i : Int} : meterE l r i = 0 ↔ nameB r.name = true ∧ ckB r.bucket = 0 ∧ ¬ (findV eqs r.name (metersM l)).getD 0 < i := by
  unfold meterE
  split
  · rename_i h; simp [h]
  · split
    · rename_i h1 h2
      constructor
      · intro h
        cases h
      · intro hh
        rcases h2 with h | h
        · exact absurd h hh.2.2
        · exact absurd hh.2.1 h
    · rename_i h1 h2
      simp only [not_or, ne_eq, Decidable.not_not] at h2
      exact ⟨fun _ => ⟨by simpa using h1, h2.2, h2.1⟩, fun _ => rfl⟩
theorem mirrorE_z {l : CL} {r : SMirrorConf} {i : Int} : mirrorE l r i = 0 ↔ nameB r.name = true ∧ portB l r.out = true ∧ roomB r.room = true ∧ ¬ (findV eqs r.name (mirrorsM l)).getD 0 < i := by
  unfold mirrorE
  split
  · rename_i h; simp [h]
  · split
    · rename_i h; simp [h]
    · split
      · rename_i h; simp [h]
      · split
        · rename_i h; simp [h]
        · rename_i h1 h2 h3 h4
          exact ⟨fun _ => ⟨by simpa using h1, by simpa using h3, by simpa using h4, h2⟩, fun _ => rfl⟩
theorem good_rs {l : CL} {d : Int} (h : l.Good d) : (l.rs.map (·.to_)).Nodup := nodup_first SPrefix.eqb_iff eRoute.zero fun i hi => (routeE_z.1 (h.rs i hi)).2.2
theorem good_ms {l : CL} {d : Int} (h : l.Good d) : (l.ms.map (·.name)).Nodup := nodup_first eqs_iff eMeterConf.zero fun i hi => (meterE_z.1 (h.ms i hi)).2.2
theorem good_xs {l : CL} {d : Int} (h : l.Good d) : (l.xs.map (·.name)).Nodup := nodup_first eqs_iff eMirrorConf.zero fun i hi => (mirrorE_z.1 (h.xs i hi)).2.2.2
theorem getD_of {α : Type} (l : List α) (z : α) {P : α → Nat → Prop} (h : ∀ i, i < l.length → P (l.getD i z) i) : ∀ x ∈ l, ∃ i, i < l.length ∧ P x i := fun x hx => by
  obtain ⟨i, hi, rfl⟩ := List.mem_iff_getElem.1 hx
  have := h i hi
  have e : l.getD i z = l[i] := by simp [List.getD, hi]
  rw [e] at this
  exact ⟨i, hi, this⟩
theorem inM_iff {α : Type} (f : α → ByteArray) (l : List α) (s : ByteArray) : inM (firstN eqs f l l.length) s = true ↔ s ∈ l.map f := by
  unfold inM
  have h := none_mem eqs_iff f l s
  cases hf : findV eqs s (firstN eqs f l l.length) with
  | none => rw [hf] at h; simpa using h
  | some v => rw [hf] at h; simpa using h
theorem inM_perm {α : Type} (f : α → ByteArray) {l k : List α} (h : l.Perm k) (s : ByteArray) : inM (firstN eqs f l l.length) s = inM (firstN eqs f k k.length) s := by
  rw [Bool.eq_iff_iff, inM_iff, inM_iff]
  exact (h.map f).mem_iff
theorem good_of {k t : CL} {d : Int} (hk : k.Good d) (hps : t.ps = k.ps) (hus : t.us = k.us) (hrs : t.rs.Perm k.rs) (hms : t.ms.Perm k.ms) (hxs : t.xs.Perm k.xs) : t.Good d := by
  have hpb : ∀ p, portB t p = portB k p := fun p => by
    unfold portB portsM
    rw [hps]
  refine ⟨by rw [hps]; exact hk.ps, fun i hi => ?_, fun i hi => ?_, fun i hi => ?_, fun i hi => ?_, hk.d⟩
  · obtain ⟨j, hj, hz⟩ := getD_of k.rs eRoute.zero (P := fun x i => routeE k x i = 0) hk.rs _ (hrs.mem_iff.1 (getD_in t.rs i eRoute.zero hi))
    obtain ⟨z1, z2, _⟩ := routeE_z.1 hz
    exact routeE_z.2 ⟨z1, by rw [hpb]; exact z2, first_nodup SPrefix.eqb_iff eRoute.zero ((hrs.map _).nodup_iff.2 (good_rs hk)) i hi⟩
  · have hus' : rulesM t = rulesM k := by unfold rulesM; rw [hus]
    have e : ∀ x q, ruleE t x q = ruleE k x q := fun x q => by
      unfold ruleE ruleO
      rw [hus', hpb]
      have h1 : inM (metersM t) x.meter = inM (metersM k) x.meter := inM_perm _ hms _
      have h2 : inM (mirrorsM t) x.mirror = inM (mirrorsM k) x.mirror := inM_perm _ hxs _
      rw [h1, h2]
    rw [e, hus]
    exact hk.us i (by rw [← hus]; exact hi)
  · obtain ⟨j, hj, hz⟩ := getD_of k.ms eMeterConf.zero (P := fun x i => meterE k x i = 0) hk.ms _ (hms.mem_iff.1 (getD_in t.ms i eMeterConf.zero hi))
    obtain ⟨z1, z2, _⟩ := meterE_z.1 hz
    exact meterE_z.2 ⟨z1, z2, first_nodup eqs_iff eMeterConf.zero ((hms.map _).nodup_iff.2 (good_ms hk)) i hi⟩
  · obtain ⟨j, hj, hz⟩ := getD_of k.xs eMirrorConf.zero (P := fun x i => mirrorE k x i = 0) hk.xs _ (hxs.mem_iff.1 (getD_in t.xs i eMirrorConf.zero hi))
    obtain ⟨z1, z2, z3, _⟩ := mirrorE_z.1 hz
    exact mirrorE_z.2 ⟨z1, by rw [hpb]; exact z2, z3, first_nodup eqs_iff eMirrorConf.zero ((hxs.map _).nodup_iff.2 (good_xs hk)) i hi⟩
theorem faultsUp_z {e : Nat → Int} {d : Int} : ∀ {n : Nat}, (∀ i, i < n → e i = 0) → faultsUp e d n = []
  | 0, _ => rfl
  | n + 1, h => by
    unfold faultsUp
    rw [faultsUp_z (fun i hi => h i (by omega)), if_pos (h n (by omega))]
    rfl
theorem listG_z {e : Nat → Int} {d : Int} {n most : Nat} (hn : n ≤ most) (h : ∀ i, i < n → e i = 0) : listG e d n most = [] := by
  unfold listG
  rw [faultsUp_z (fun i hi => h i (by omega)), if_neg (by omega)]
  rfl
theorem good_may {l : CL} {d : Int} (h : l.Good d) (hl : l.ps.length ≤ 256 ∧ l.rs.length ≤ 1024 ∧ l.us.length ≤ 256 ∧ l.ms.length ≤ 64 ∧ l.xs.length ≤ 16) : mayB l d = true := by
  unfold mayB checkF thingsF
  refine decide_eq_true ?_
  rw [listG_z hl.1 h.ps, listG_z hl.2.1 h.rs, listG_z hl.2.2.1 h.us, listG_z hl.2.2.2.1 h.ms, listG_z hl.2.2.2.2 h.xs, h.d]
  rfl
theorem key_merge {α κ : Type} {f : α → κ} {L K S a2 a8 F2 F8 : List α} (hL : (L.map f).Nodup) (hK : (K.map f).Nodup) (hS : ∀ y, y ∈ S ↔ y ∈ L) (h2 : ∀ y, y ∈ F2 ↔ y ∈ K ∧ y ∉ L) (h8 : ∀ y, y ∈ F8 ↔ y ∈ L ∧ f y ∉ K.map f)
    (ha2 : ∀ y, y ∈ a2 ↔ y ∈ F2 ∨ (y ∈ S ∧ f y ∉ F2.map f)) (ha8 : ∀ y, y ∈ a8 ↔ y ∈ a2 ∧ f y ∉ F8.map f) : ∀ y, y ∈ a8 ↔ y ∈ K := by
  intro y
  rw [ha8, ha2]
  constructor
  · rintro ⟨h | ⟨h, h3⟩, h4⟩
    · exact ((h2 y).1 h).1
    · have hyL := (hS y).1 h
      have hk : f y ∈ K.map f := Classical.byContradiction fun hn => h4 (List.mem_map_of_mem ((h8 y).2 ⟨hyL, hn⟩))
      obtain ⟨z, hz, e⟩ := List.mem_map.1 hk
      have hzL : z ∈ L := Classical.byContradiction fun hn => h3 (by rw [← e]; exact List.mem_map_of_mem ((h2 z).2 ⟨hz, hn⟩))
      rw [← nodup_inj hL hzL hyL e]
      exact hz
  · intro hy
    refine ⟨?_, fun hm => ?_⟩
    · by_cases hyL : y ∈ L
      · refine .inr ⟨(hS y).2 hyL, fun hm => ?_⟩
        obtain ⟨z, hz, e⟩ := List.mem_map.1 hm
        obtain ⟨hz1, hz2⟩ := (h2 z).1 hz
        rw [nodup_inj hK hz1 hy e] at hz2
        exact hz2 hyL
      · exact .inl ((h2 y).2 ⟨hy, hyL⟩)
    · obtain ⟨z, hz, e⟩ := List.mem_map.1 hm
      exact ((h8 z).1 hz).2 (by rw [e]; exact List.mem_map_of_mem hy)
theorem nodup_of {α κ : Type} {f : α → κ} {l : List α} (h : (l.map f).Nodup) : l.Nodup := by
  refine List.pairwise_iff_getElem.2 fun i j h1 h2 hij e => ?_
  have := List.pairwise_iff_getElem.1 h i j (by simpa using h1) (by simpa using h2) hij
  exact this (by simp [e])
theorem perm_of {α κ : Type} [DecidableEq α] {f : α → κ} {l k : List α} (hl : (l.map f).Nodup) (hk : (k.map f).Nodup) (h : ∀ y, y ∈ l ↔ y ∈ k) : l.Perm k :=
  (List.perm_ext_iff_of_nodup (nodup_of hl) (nodup_of hk)).2 h
theorem up_nodup {l : List Int} (h : l.Pairwise (· < ·)) : l.Nodup := h.imp fun {a b} hab => by omega
theorem up_eq : ∀ {l k : List Int}, l.Pairwise (· < ·) → k.Pairwise (· < ·) → (∀ y, y ∈ l ↔ y ∈ k) → l = k
  | [], [], _, _, _ => rfl
  | [], y :: k, _, _, h => absurd ((h y).2 List.mem_cons_self) List.not_mem_nil
  | x :: l, [], _, _, h => absurd ((h x).1 List.mem_cons_self) List.not_mem_nil
  | x :: l, y :: k, hl, hk, h => by
    obtain ⟨l1, l2⟩ := List.pairwise_cons.1 hl
    obtain ⟨k1, k2⟩ := List.pairwise_cons.1 hk
    have e : x = y := by
      have hx := (h x).1 List.mem_cons_self
      have hy := (h y).2 List.mem_cons_self
      rcases List.mem_cons.1 hx with e | hx
      · exact e
      · rcases List.mem_cons.1 hy with e | hy
        · exact e.symm
        · have := k1 x hx
          have := l1 y hy
          omega
    subst e
    congr 1
    refine up_eq l2 k2 fun z => ?_
    constructor
    · intro hz
      rcases List.mem_cons.1 ((h z).1 (List.mem_cons_of_mem _ hz)) with e | hz2
      · have := l1 z hz; omega
      · exact hz2
    · intro hz
      rcases List.mem_cons.1 ((h z).2 (List.mem_cons_of_mem _ hz)) with e | hz2
      · have := k1 z hz; omega
      · exact hz2
theorem gone_pr {α κ : Type} {q : κ → κ → Bool} {f : α → κ} {m : List (κ × Int)} {mk : α → SChange} {xs : List α} (us : List SRule) (hk : ∀ x, (mk x).kind ≠ 9) : (goneL q f m mk xs).map (prC us) = (xs.filter (fun x => (findV q (f x) m).isNone)).map (fun x => (mk x, [])) := by
  unfold goneL
  rw [List.map_map]
  refine List.map_congr_left fun x _ => ?_
  show prC us (mk x) = _
  unfold prC
  rw [if_neg (hk x)]
theorem run_step {X A : List (SChange × List SRule)} {s t u : CD} (h1 : runC X s = some t) (h2 : runC A t = some u) : runC (X ++ A) s = some u := by
  rw [runC_append, h1]
  exact h2
theorem run_rules {l k : CL} (rv : OV) (x : CL) (d : Int) (hx : x.us = l.us) : runC ((if l.us = k.us then [] else [chRules rv]).map (prC k.us)) ⟨x, d⟩ = some ⟨{ x with us := k.us }, d⟩ := by
  by_cases h : l.us = k.us
  · rw [if_pos h]
    show some (⟨x, d⟩ : CD) = _
    have e : { x with us := k.us } = x := by
      rw [← h, ← hx]
    rw [e]
  · rw [if_neg h]
    rfl
theorem run_default (x : CL) (da db : Int) (us : List SRule) : runC ((if da = db then [] else [chDefault db]).map (prC us)) ⟨x, da⟩ = some ⟨x, db⟩ := by
  by_cases h : da = db
  · rw [if_pos h, h]
    rfl
  · rw [if_neg h]
    rfl
theorem decK {κ : Type} [DecidableEq κ] : KeyE (fun a b : κ => decide (a = b)) := fun a b => decide_eq_true_iff
theorem decK' {κ : Type} [DecidableEq κ] : KeyE (fun a b : κ => decide (b = a)) := fun a b => by
  rw [decide_eq_true_iff]
  exact eq_comm
theorem filter_nodup {α κ : Type} {f : α → κ} {l : List α} (p : α → Bool) (h : (l.map f).Nodup) : ((l.filter p).map f).Nodup := h.sublist (List.filter_sublist.map f)
theorem names_in {α κ : Type} {f : α → κ} {L K S a2 F2 F8 : List α} (hS : ∀ y, y ∈ S ↔ y ∈ L) (h2 : ∀ y, y ∈ F2 ↔ y ∈ K ∧ y ∉ L) (h8 : ∀ y, y ∈ F8 ↔ y ∈ L ∧ f y ∉ K.map f)
    (ha2 : ∀ y, y ∈ a2 ↔ y ∈ F2 ∨ (y ∈ S ∧ f y ∉ F2.map f)) : ∀ x ∈ F8, f x ∈ a2.map f := fun x hx => by
  obtain ⟨h3, h4⟩ := (h8 x).1 hx
  refine List.mem_map_of_mem ((ha2 x).2 (.inr ⟨(hS x).2 h3, fun hm => ?_⟩))
  obtain ⟨z, hz, e⟩ := List.mem_map.1 hm
  exact h4 (by rw [← e]; exact List.mem_map_of_mem ((h2 z).1 hz).1)
theorem map_id_fun {α : Type} (l : List α) : l.map (fun a => a) = l := List.map_id l
theorem setM (l : CL) (x : SMeterConf) : changeL l (chMeter 5 x) [] = { l with ms := setL l.ms (idxF (fun z => decide (z.name = x.name)) l.ms) x } := rfl
theorem setX (l : CL) (x : SMirrorConf) : changeL l (chMirror 7 x) [] = { l with xs := setL l.xs (idxF (fun z => decide (z.name = x.name)) l.xs) x } := rfl
theorem setRt (l : CL) (x : SRoute) : changeL l (chRoute 3 x) [] = { l with rs := setL l.rs (idxF (fun z => SPrefix.eqb z.to_ x.to_) l.rs) x } := rfl
theorem cutRt (l : CL) (x : SRoute) : changeL l (chRoute 4 (onlyR x)) [] = { l with rs := cutI l.rs (idxF (fun z => SPrefix.eqb z.to_ x.to_) l.rs) } := rfl
theorem cutM (l : CL) (x : SMeterConf) : changeL l (chMeter 6 (onlyM x)) [] = { l with ms := cutI l.ms (idxF (fun z => decide (z.name = x.name)) l.ms) } := rfl
theorem cutX (l : CL) (x : SMirrorConf) : changeL l (chMirror 8 (onlyX x)) [] = { l with xs := cutI l.xs (idxF (fun z => decide (z.name = x.name)) l.xs) } := rfl
theorem cutPt (l : CL) (x : Int) : changeL l (chPort 2 x) [] = { l with ps := cutI l.ps (idxF (fun z => decide (x = z)) l.ps) } := rfl
theorem there {l k s : CL} {da db : Int} (rv : OV) (hl : mayB l da = true) (hk : mayB k db = true) (hsl : sameB s l da da = true) (hs : mayB s da = true) :
    ∃ t : CL, goN ⟨s, da⟩ (diffs l k da db rv) (rlC (diffs l k da db rv) k.us) (diffs l k da db rv).length = some ⟨t, db⟩ ∧ sameB t k db db = true ∧ mayB t db = true := by
  obtain ⟨_, s1, s2, s3, s4, s5⟩ := (sameB_perm s l da da).1 hsl
  have gl := may_good hl
  have gk := may_good hk
  have gs := may_good hs
  have upl := ports_up gl.ps
  have upk := ports_up gk.ps
  have ups := ports_up gs.ps
  have nlm := good_ms gl
  have nkm := good_ms gk
  have nsm := good_ms gs
  have nlx := good_xs gl
  have nkx := good_xs gk
  have nsx := good_xs gs
  have nlr := good_rs gl
  have nkr := good_rs gk
  have nsr := good_rs gs
  -- what is gone through
  have f1 : ∀ y, y ∈ k.ps.filter (fun x => (findV eqd ((fun a => a) x) (portsM l)).isNone) ↔ y ∈ k.ps ∧ y ∉ l.ps := fun y => by
    have := mem_gone eqd_iff (fun a : Int => a) (fun a => a) l.ps k.ps y
    rwa [map_id_fun] at this
  have f2 : ∀ y, y ∈ k.ms.filter (fun x => (findV SMeterConf.eqb ((fun a => a) x) (firstN SMeterConf.eqb (fun a => a) l.ms l.ms.length)).isNone) ↔ y ∈ k.ms ∧ y ∉ l.ms := fun y => by
    have := mem_gone SMeterConf.eqb_iff (fun a : SMeterConf => a) (fun a => a) l.ms k.ms y
    rwa [map_id_fun] at this
  have f3 : ∀ y, y ∈ k.xs.filter (fun x => (findV SMirrorConf.eqb ((fun a => a) x) (firstN SMirrorConf.eqb (fun a => a) l.xs l.xs.length)).isNone) ↔ y ∈ k.xs ∧ y ∉ l.xs := fun y => by
    have := mem_gone SMirrorConf.eqb_iff (fun a : SMirrorConf => a) (fun a => a) l.xs k.xs y
    rwa [map_id_fun] at this
  have f4 : ∀ y, y ∈ k.rs.filter (fun x => (findV SRoute.eqb ((fun a => a) x) (firstN SRoute.eqb (fun a => a) l.rs l.rs.length)).isNone) ↔ y ∈ k.rs ∧ y ∉ l.rs := fun y => by
    have := mem_gone SRoute.eqb_iff (fun a : SRoute => a) (fun a => a) l.rs k.rs y
    rwa [map_id_fun] at this
  have f7 : ∀ y, y ∈ l.rs.filter (fun x => (findV SPrefix.eqb ((fun a : SRoute => a.to_) x) (routesM k)).isNone) ↔ y ∈ l.rs ∧ y.to_ ∉ k.rs.map (fun r => r.to_) := fun y =>
    mem_gone SPrefix.eqb_iff (fun a : SRoute => a.to_) (fun r : SRoute => r.to_) k.rs l.rs y
  have f8 : ∀ y, y ∈ l.ms.filter (fun x => (findV eqs ((fun a : SMeterConf => a.name) x) (metersM k)).isNone) ↔ y ∈ l.ms ∧ y.name ∉ k.ms.map (fun r => r.name) := fun y =>
    mem_gone eqs_iff (fun a : SMeterConf => a.name) (fun r : SMeterConf => r.name) k.ms l.ms y
  have f9 : ∀ y, y ∈ l.xs.filter (fun x => (findV eqs ((fun a : SMirrorConf => a.name) x) (mirrorsM k)).isNone) ↔ y ∈ l.xs ∧ y.name ∉ k.xs.map (fun r => r.name) := fun y =>
    mem_gone eqs_iff (fun a : SMirrorConf => a.name) (fun r : SMirrorConf => r.name) k.xs l.xs y
  have f10 : ∀ y, y ∈ l.ps.filter (fun x => (findV eqd ((fun a => a) x) (portsM k)).isNone) ↔ y ∈ l.ps ∧ y ∉ k.ps := fun y => by
    have := mem_gone eqd_iff (fun a : Int => a) (fun a => a) k.ps l.ps y
    rwa [map_id_fun] at this
  -- step by step
  obtain ⟨a1, r1, u1, m1⟩ := run_adds _ s da ups ((up_nodup upk).sublist List.filter_sublist) (fun x hx => ⟨by rw [s1]; exact ((f1 x).1 hx).2, ports_in gk x ((f1 x).1 hx).1⟩)
  obtain ⟨a2, r2, u2, m2⟩ := run_sets decK (f := fun a : SMeterConf => a.name) CL.ms (fun l a => { l with ms := a }) (chMeter 5) (fun _ _ => rfl) (fun _ _ _ => rfl) (fun _ _ => rfl) setM (fun _ _ => rfl) _ { s with ps := a1 } da rfl nsm (filter_nodup _ nkm)
  obtain ⟨a3, r3, u3, m3⟩ := run_sets decK (f := fun a : SMirrorConf => a.name) CL.xs (fun l a => { l with xs := a }) (chMirror 7) (fun _ _ => rfl) (fun _ _ _ => rfl) (fun _ _ => rfl) setX (fun _ _ => rfl) _ { s with ps := a1, ms := a2 } da rfl nsx (filter_nodup _ nkx)
  obtain ⟨a4, r4, u4, m4⟩ := run_sets SPrefix.eqb_iff (f := fun a : SRoute => a.to_) CL.rs (fun l a => { l with rs := a }) (chRoute 3) (fun _ _ => rfl) (fun _ _ _ => rfl) (fun _ _ => rfl) setRt (fun _ _ => rfl) _ { s with ps := a1, ms := a2, xs := a3 } da rfl nsr (filter_nodup _ nkr)
  have r5 := run_rules (l := l) (k := k) rv { s with ps := a1, ms := a2, xs := a3, rs := a4 } da s2
  have r6 := run_default { s with ps := a1, ms := a2, xs := a3, rs := a4, us := k.us } da db k.us
  obtain ⟨a7, r7, u7, _, m7⟩ := run_cuts SPrefix.eqb_iff (f := fun a : SRoute => a.to_) CL.rs (fun l a => { l with rs := a }) (fun x => chRoute 4 (onlyR x)) (fun _ _ => rfl) (fun _ _ _ => rfl) (fun _ _ => rfl) cutRt (fun _ _ => rfl) _ { s with ps := a1, ms := a2, xs := a3, rs := a4, us := k.us } db rfl u4 (filter_nodup _ nlr)
    (names_in (fun y => s3.mem_iff) f4 f7 m4)
  obtain ⟨a8, r8, u8, _, m8⟩ := run_cuts decK (f := fun a : SMeterConf => a.name) CL.ms (fun l a => { l with ms := a }) (fun x => chMeter 6 (onlyM x)) (fun _ _ => rfl) (fun _ _ _ => rfl) (fun _ _ => rfl) cutM (fun _ _ => rfl) _ { s with ps := a1, ms := a2, xs := a3, rs := a7, us := k.us } db rfl u2 (filter_nodup _ nlm)
    (names_in (fun y => s4.mem_iff) f2 f8 m2)
  obtain ⟨a9, r9, u9, _, m9⟩ := run_cuts decK (f := fun a : SMirrorConf => a.name) CL.xs (fun l a => { l with xs := a }) (fun x => chMirror 8 (onlyX x)) (fun _ _ => rfl) (fun _ _ _ => rfl) (fun _ _ => rfl) cutX (fun _ _ => rfl) _ { s with ps := a1, ms := a8, xs := a3, rs := a7, us := k.us } db rfl u3 (filter_nodup _ nlx)
    (names_in (fun y => s5.mem_iff) f3 f9 m3)
  obtain ⟨a10, r10, u10, b10, m10⟩ := run_cuts decK' (f := fun a : Int => a) CL.ps (fun l a => { l with ps := a }) (fun x => chPort 2 x) (fun _ _ => rfl) (fun _ _ _ => rfl) (fun _ _ => rfl) cutPt (fun _ _ => rfl) _ { s with ps := a1, ms := a8, xs := a9, rs := a7, us := k.us } db rfl (by rw [map_id_fun]; exact up_nodup u1) (by rw [map_id_fun]; exact (up_nodup upl).sublist (List.filter_sublist (p := fun x => (findV eqd ((fun a => a) x) (portsM k)).isNone)))
    (fun x hx => by
      rw [map_id_fun]
      exact (m1 x).2 (.inr (by rw [s1]; exact ((f10 x).1 hx).1)))
  have R : runC ((diffs l k da db rv).map (prC k.us)) ⟨s, da⟩ = some ⟨{ s with ps := a10, ms := a8, xs := a9, rs := a7, us := k.us }, db⟩ := by
    unfold diffs
    simp only [List.map_append, List.map_nil]
    rw [gone_pr k.us (fun x => (chPort_k 1 (by decide) x).1), gone_pr k.us (fun x => (chMeter_k 5 (by decide) x).1), gone_pr k.us (fun x => (chMirror_k 7 (by decide) x).1), gone_pr k.us (fun x => (chRoute_k 3 (by decide) x).1), gone_pr k.us (fun x => (chRoute_k 4 (by decide) (onlyR x)).1), gone_pr k.us (fun x => (chMeter_k 6 (by decide) (onlyM x)).1), gone_pr k.us (fun x => (chMirror_k 8 (by decide) (onlyX x)).1), gone_pr k.us (fun x => (chPort_k 2 (by decide) x).1)]
    exact run_step (run_step (run_step (run_step (run_step (run_step (run_step (run_step (run_step (run_step rfl r1) r2) r3) r4) r5) r6) r7) r8) r9) r10
  have hps : a10 = k.ps := up_eq (u1.sublist b10) upk fun y => by
    rw [m10, map_id_fun]
    show y ∈ a1 ∧ _ ↔ _
    rw [m1, s1]
    constructor
    · rintro ⟨h | h, h2⟩
      · exact ((f1 y).1 h).1
      · exact Classical.byContradiction fun hn => h2 ((f10 y).2 ⟨h, hn⟩)
    · intro h
      refine ⟨?_, fun h2 => ((f10 y).1 h2).2 h⟩
      by_cases hy : y ∈ l.ps
      · exact .inr hy
      · exact .inl ((f1 y).2 ⟨h, hy⟩)
  have hrs : a7.Perm k.rs := perm_of u7 nkr (key_merge nlr nkr (fun y => s3.mem_iff) f4 f7 m4 m7)
  have hms : a8.Perm k.ms := perm_of u8 nkm (key_merge nlm nkm (fun y => s4.mem_iff) f2 f8 m2 m8)
  have hxs : a9.Perm k.xs := perm_of u9 nkx (key_merge nlx nkx (fun y => s5.mem_iff) f3 f9 m3 m9)
  refine ⟨{ s with ps := a10, ms := a8, xs := a9, rs := a7, us := k.us }, by rw [goN_all]; exact R, (sameB_perm _ _ _ _).2 ⟨rfl, hps, rfl, hrs, hms, hxs⟩, ?_⟩
  obtain ⟨q1, q2, q3, q4, q5⟩ := may_lens hk
  exact good_may (good_of gk hps rfl hrs hms hxs) ⟨by show a10.length ≤ _; rw [hps]; exact q1, by show a7.length ≤ _; rw [hrs.length_eq]; exact q2, q3, by show a8.length ≤ _; rw [hms.length_eq]; exact q4, by show a9.length ≤ _; rw [hxs.length_eq]; exact q5⟩
def NmOK (c : SChange) : Prop := c.meter.name.size ≤ 9223372036854775807 ∧ c.mirror.name.size ≤ 9223372036854775807
def ChgJ (c : SConf) (l l2 : CL) (d : Int) (y : SConf × List Res) : Prop := y.1.default = d ∧ ∀ w, ConfAt w c l → (∀ r ∈ y.2, r.A w) → ConfAt w y.1 l2
def ApJ (r : CD) (y : SConf × List Res) : Prop := y.1.default = r.d ∧ ∀ w, (∀ q ∈ y.2, q.A w) → ConfAt w y.1 r.l
theorem ChSame.eq {c d : SChange} (h : ChSame c d) : d = { c with rules := d.rules } := by
  obtain ⟨h1, h2, h3, h4, h5, h6⟩ := h
  cases c
  cases d
  simp only at h1 h2 h3 h4 h5 h6
  subst h1 h2 h3 h4 h5 h6
  rfl
theorem ChSame.symm {c d : SChange} (h : ChSame c d) : ChSame d c := ⟨h.1.symm, h.2.1.symm, h.2.2.1.symm, h.2.2.2.1.symm, h.2.2.2.2.1.symm, h.2.2.2.2.2.symm⟩
theorem ChSame.trans {c d e : SChange} (h : ChSame c d) (k : ChSame d e) : ChSame c e := ⟨h.1.trans k.1, h.2.1.trans k.2.1, h.2.2.1.trans k.2.2.1, h.2.2.2.1.trans k.2.2.2.1, h.2.2.2.2.1.trans k.2.2.2.2.1, h.2.2.2.2.2.trans k.2.2.2.2.2⟩
theorem getD_snoc_lt {α : Type} (l : List α) (x z : α) (j : Nat) (h : j < l.length) : (l ++ [x]).getD j z = l.getD j z := by simp [List.getD, List.getElem?_append, h]
theorem getD_snoc_eq {α : Type} (l : List α) (x z : α) (j : Nat) (h : j = l.length) : (l ++ [x]).getD j z = x := by subst h; simp [List.getD]
structure CpyJ (cs gs : List SChange) (i : Int) : Prop where
  n : (gs.length : Int) = i
  ch : ∀ j : Nat, j < i → ChSame (cs.getD j eChange.zero) (gs.getD j eChange.zero)
theorem CpyJ.step {cs gs : List SChange} {i : Int} (h : CpyJ cs gs i) (hi : 0 ≤ i) (v : OV) : CpyJ cs (gs ++ [SChange.l_rules.set (cs.getD i.toNat eChange.zero) v]) (i + 1) := by
  obtain ⟨h1, h2⟩ := h
  refine ⟨by simp only [List.length_append, List.length_singleton]; omega, fun j hj => ?_⟩
  by_cases e : (j : Int) < i
  · rw [getD_snoc_lt _ _ _ _ (by omega)]
    exact h2 j e
  · rw [getD_snoc_eq _ _ _ _ (by omega)]
    have : j = i.toNat := by omega
    subst this
    exact ⟨rfl, rfl, rfl, rfl, rfl, rfl⟩
def RlAt (w : World) (gs : List SChange) (rls : List (List SRule)) (i : Int) : Prop := ∀ j : Nat, j < i → IsSl eRule w (gs.getD j eChange.zero).rules.v (rls.getD j [])
theorem RlAt.step {w : World} {gs : List SChange} {rls : List (List SRule)} {i : Int} (h : RlAt w gs rls i) (hn : (gs.length : Int) = i) (c : SChange) (v : OV) (hv : IsSl eRule w v.v (rls.getD i.toNat [])) : RlAt w (gs ++ [SChange.l_rules.set c v]) rls (i + 1) := fun j hj => by
  by_cases e : (j : Int) < i
  · rw [getD_snoc_lt _ _ _ _ (by omega)]
    exact h j e
  · rw [getD_snoc_eq _ _ _ _ (by omega)]
    have : j = i.toNat := by omega
    subst this
    exact hv
theorem Rem.app {r : Res} {L M : List Res} (k : List Res) (h : Rem L r M) : Rem (k ++ L) r (k ++ M) := by
  obtain ⟨A, C, rfl, rfl⟩ := h
  exact ⟨k ++ A, C, by simp, by simp⟩
structure SAnon15 where
  is_ : Bool
  v6 : Bool
def SAnon15.to : (Bool × Bool) → SAnon15 := fun x => ⟨x.1, x.2⟩
def SAnon15.of : SAnon15 → (Bool × Bool) := fun x => (x.is_, x.v6)
def eAnon15 : Enc SAnon15 := isoE (prodE bE bE) SAnon15.to SAnon15.of
def SAnon15.l_is_ : Lens eAnon15 bE 0 := lIso _ SAnon15.to SAnon15.of (fun _ => rfl) (lFst bE bE)
@[simp] theorem SAnon15.get_is_ (x : SAnon15) : SAnon15.l_is_.get x = x.is_ := rfl
@[simp] theorem SAnon15.set_is_ (x : SAnon15) (y : Bool) : SAnon15.l_is_.set x y = { x with is_ := y } := rfl
def SAnon15.l_v6 : Lens eAnon15 bE 1 := lIso _ SAnon15.to SAnon15.of (fun _ => rfl) (Lens.comp (lSnd bE bE) (Lens.id bE))
@[simp] theorem SAnon15.get_v6 (x : SAnon15) : SAnon15.l_v6.get x = x.v6 := rfl
@[simp] theorem SAnon15.set_v6 (x : SAnon15) (y : Bool) : SAnon15.l_v6.set x y = { x with v6 := y } := rfl
@[simp] theorem zSpan_from : eSpan.zero.from_ = 0 := rfl
@[simp] theorem zSpan_to : eSpan.zero.to_ = 0 := rfl
def kst (k : Nat) (is v6 : Bool) : Nat := bif is then (bif v6 then k &&& 2 else k &&& 1) else k
def kI (m : SMatch) : Nat := kst (kst 3 (asksB m 2) m.src.addr.v6) (asksB m 4) m.dst.addr.v6
theorem kst_le {k : Nat} (h : k ≤ 3) (a b : Bool) : kst k a b ≤ 3 := by
  have h : k = 0 ∨ k = 1 ∨ k = 2 ∨ k = 3 := by omega
  rcases h with rfl | rfl | rfl | rfl <;> cases a <;> cases b <;> decide
def everyB (s : SSpan) (is : Bool) (top : UInt16) : SSpan := bif is then s else { s with to_ := top }
def spannedB (m n : SMatch) (w : UInt8) (a b : SSpan) (top : UInt16) : Bool := !asksB m w || (decide (a.from_ ≤ (everyB b (asksB n w) top).from_) && decide ((everyB b (asksB n w) top).to_ ≤ a.to_))
def prefixedB (m n : SMatch) (w : UInt8) (a b : SPrefix) : Bool := bif !asksB m w then true else bif asksB n w then coversP a b else (decide (a.bits = 0) && decide ((kI n : Int) = (bif a.addr.v6 then 2 else 1)))
def spansR (one : Bool) (a : SSpan) (other : Bool) (b : SSpan) (top : UInt16) : Bool := !one || (decide (a.from_ ≤ (bif other then b else ⟨0, top⟩).from_) && decide ((bif other then b else ⟨0, top⟩).to_ ≤ a.to_))
def prefixesR (one : Bool) (a : SPrefix) (other : Bool) (b : SPrefix) (v6 : Bool) : Bool := !one || (decide (a.bits ≤ (bif other then b else ⟨⟨v6, Vector.replicate 16 0⟩, 0⟩).bits) && hasP a (bif other then b else ⟨⟨v6, Vector.replicate 16 0⟩, 0⟩).addr)
def k4R (m : SMatch) : Bool := bif asksB m 4 then !m.dst.addr.v6 else bif asksB m 2 then !m.src.addr.v6 else true
def k6R (m : SMatch) : Bool := bif asksB m 4 then m.dst.addr.v6 else bif asksB m 2 then m.src.addr.v6 else true
theorem z232 : (Tryz.prog.info? 232).bind (·.zero) = some (eAnon15.val eAnon15.zero) := by kernel_rfl
theorem ty232 : TyOK Tryz.prog 232 eAnon15 := TyOK.mk' (by kernel_rfl) (by kernel_rfl)
theorem kinds_ok (m : SMatch) (w : World) : Calls Tryz.prog 193 #[eMatch.val m] w (RetV w (I ((kI m : Nat) : Int))) := by
  refine en0 40 Tryz.func193 ?_
  refine sg (cons (box (E := eMatch) (.t rfl) (fun b1 => ?_)))
  refine co (Ev.assign (.c (v := I 0) rfl)) ?_
  refine nP (sg (co (Ev.assign (.c (v := I 3) rfl)) ?_))
  refine nP (seq (seq (draw' (by kernel_rfl) ?_)))
  refine tk 0 rfl (Ev.ldx m ty74 (.t rfl) (Lens.id _)) ?_
  refine tk 2 rfl (fA 3 (.t rfl)) ?_
  refine tk 3 rfl (fA 0 (.t rfl)) ?_
  refine tk 4 rfl (fA 0 (.t rfl)) ?_
  refine tk 5 rfl (Ev.ldx m.src.addr.v6 ty4 (.t rfl) (Lens.comp (Lens.comp SMatch.l_src SPrefix.l_addr) SAddr.l_v6)) ?_
  refine tk 7 rfl (Ev.ldx m ty74 (.t rfl) (Lens.id _)) ?_
  refine tk 9 rfl (fA 21 (.t rfl)) ?_
  refine tk 10 rfl (fA 0 (.t rfl)) ?_
  refine tk 11 rfl (fA 0 (.t rfl)) ?_
  refine tk 12 rfl (Ev.ldx m.dst.addr.v6 ty4 (.t rfl) (Lens.comp (Lens.comp SMatch.l_dst SPrefix.l_addr) SAddr.l_v6)) ?_
  refine tk 16 rfl (Ev.move (.c (v := I 0) rfl)) ?_
  refine al1 1 rfl ((callv en153 (.cons (.t rfl) (.cons (.c (v := U8 2) rfl) .nil)) (fun w I => asks_ok _ _ w) ?_))
  refine hdn (tk 6 rfl (Ev.buildS (fs := _) (places := [(0, 1), (1, 1)]) z232 rfl Tryz.underlying232 (by kernel_rfl) (.cons (.t rfl) (.cons (.t rfl) .nil)) (Fills.cons SAnon15.l_is_ rfl (Fills.cons SAnon15.l_v6 rfl Fills.nil))) ?_)
  refine al1 8 rfl ((callv en153 (.cons (.t rfl) (.cons (.c (v := U8 4) rfl) .nil)) (fun w I => asks_ok _ _ w) ?_))
  refine hdn (tk 13 rfl (Ev.buildS (fs := _) (places := [(0, 1), (1, 1)]) z232 rfl Tryz.underlying232 (by kernel_rfl) (.cons (.t rfl) (.cons (.t rfl) .nil)) (Fills.cons SAnon15.l_is_ rfl (Fills.cons SAnon15.l_v6 rfl Fills.nil))) ?_)
  refine al1 14 rfl ((buildSlice (E := eAnon15) Tryz.underlying233 ty232 z232 (.cons (.t rfl) (.cons (.t rfl) .nil)) rfl rfl (fun v2 => ?_)))
  refine hdn (al1 15 rfl ((opv (Ev.len Tryz.underlying233 (.t rfl) (by first | exact isSl_own (by repeat first | exact mH | apply mT | apply mA) | exact fun w I => IsSl.keep0 (by assumption) I.keeps)) ?_)))
  refine hdn (ovr (pN (block (lp (X := Int × Nat) (fun x : Int × Nat => (0 ≤ x.1 ∧ x.1 ≤ 2) ∧ (x.2 ≤ 3) ∧ (x.2 = ([(⟨asksB m 2, m.src.addr.v6⟩ : SAnon15), ⟨asksB m 4, m.dst.addr.v6⟩].take x.1.toNat).foldl (fun q z => kst q z.is_ z.v6) 3)) (fun x : Int × Nat => [(3, true, I ((x.2 : Nat) : Int)), (20, true, v2.v), (21, true, I 2), (22, true, I x.1)]) (fun x : Int × Nat => [OwnS v2.v eAnon15 [(⟨asksB m 2, m.src.addr.v6⟩ : SAnon15), ⟨asksB m 4, m.dst.addr.v6⟩] 232]) (fun x : Int × Nat => (2 - x.1).toNat) (0, 3) ⟨?_, ?_, ?_⟩ (fun x hx => ?_)))))
  · omega
  · omega
  · rfl
  obtain ⟨i, k⟩ := x
  obtain ⟨hi, hk, hkk⟩ : (0 ≤ i ∧ i ≤ 2) ∧ (k ≤ 3) ∧ (k = ([(⟨asksB m 2, m.src.addr.v6⟩ : SAnon15), ⟨asksB m 4, m.dst.addr.v6⟩].take i.toNat).foldl (fun q z => kst q z.is_ z.v6) 3) := hx
  show Sat _ _ [(3, true, I ((k : Nat) : Int)), (20, true, v2.v), (21, true, I 2), (22, true, I i)] [OwnS v2.v eAnon15 [(⟨asksB m 2, m.src.addr.v6⟩ : SAnon15), ⟨asksB m 4, m.dst.addr.v6⟩] 232]
  refine sg (co (Ev.lss_i (.t rfl) (.t rfl)) ?_)
  refine nP (seq ?_)
  first | refine condD rfl (fun hlt => ?_) (fun hge => ?_) | refine cond rfl (fun hlt => ?_) (fun hge => ?_)
  · try simp only [nb] at hlt
    refine skip (pN (seq (block (sg (co (Ev.indexAddr Tryz.underlying233 ty232 (.t rfl) (.t rfl) (by first | exact isSl_own (by repeat first | exact mH | apply mT | apply mA) | exact fun w I => IsSl.keep0 (by assumption) I.keeps) (fun _ => by simp; omega)) ?_)))))
    refine co (Ev.loadS0 ty232 (.t rfl) (by first | exact isSl_own (by repeat first | exact mH | apply mT | apply mA) | exact fun w I => IsSl.keep0 (by assumption) I.keeps) (fun _ => by simp; omega)) ?_
    refine cons (alloc z232 (fun b3 => ?_))
    refine cons (stv ty232 (Lens.id _) (.t rfl) (.t rfl) ?_)
    refine nP (sg (co (fA 0 (.t rfl)) ?_))
    refine co (Ev.ldv ty4 (.t rfl) SAnon15.l_is_) ?_
    refine mv rfl (cg rfl rfl (fA 1 (.t rfl)) ?_)
    refine cg rfl rfl (Ev.ldv ty4 (.g rfl id) SAnon15.l_v6) ?_
    refine co (Ev.pkA (.t rfl) rfl) ?_
    refine nP ?_
    first | refine condD rfl (fun h1 => ?_) (fun h1 => ?_) | refine cond rfl (fun h1 => ?_) (fun h1 => ?_)
    · have hk2 : k &&& 2 = kst k ([(⟨asksB m 2, m.src.addr.v6⟩ : SAnon15), ⟨asksB m 4, m.dst.addr.v6⟩].getD i.toNat eAnon15.zero).is_ ([(⟨asksB m 2, m.src.addr.v6⟩ : SAnon15), ⟨asksB m 4, m.dst.addr.v6⟩].getD i.toNat eAnon15.zero).v6 := by unfold kst; simp_all
      refine region (mv rfl (co (Ev.bits_i (m := k) (n := 2) (r := k &&& 2) (.inl rfl) (.t rfl) (.c rfl) (fun _ => by omega) (fun _ => by decide) rfl) ?_))
      refine asn rfl (nil (bN (pN (region (co (Ev.add_i (.t rfl) (.c (v := I 1) rfl) (fun _ => by omega)) ?_)))))
      refine mv rfl (nP (nx (X := Int × Nat) (i + 1, _) ⟨?_, ?_, ?_⟩ ?_))
      · try dsimp only
        omega
      · try dsimp only
        rw [hk2]; exact kst_le hk _ _
      · try dsimp only
        rw [take_snoc _ i hi.1 (by simp; omega) eAnon15.zero, List.foldl_append, ← hkk]; exact hk2
      · try dsimp only
        omega
    · refine sg (co (fA 0 (.t rfl)) ?_)
      refine co (Ev.ldv ty4 (.t rfl) SAnon15.l_is_) ?_
      refine nP ?_
      first | refine condD rfl (fun h2 => ?_) (fun h2 => ?_) | refine cond rfl (fun h2 => ?_) (fun h2 => ?_)
      · have hk2 : k &&& 1 = kst k ([(⟨asksB m 2, m.src.addr.v6⟩ : SAnon15), ⟨asksB m 4, m.dst.addr.v6⟩].getD i.toNat eAnon15.zero).is_ ([(⟨asksB m 2, m.src.addr.v6⟩ : SAnon15), ⟨asksB m 4, m.dst.addr.v6⟩].getD i.toNat eAnon15.zero).v6 := by unfold kst; simp_all
        refine region (mv rfl (co (Ev.bits_i (m := k) (n := 1) (r := k &&& 1) (.inl rfl) (.t rfl) (.c rfl) (fun _ => by omega) (fun _ => by decide) rfl) ?_))
        refine asn rfl (nil (bN (pN (region (co (Ev.add_i (.t rfl) (.c (v := I 1) rfl) (fun _ => by omega)) ?_)))))
        refine mv rfl (nP (nx (X := Int × Nat) (i + 1, _) ⟨?_, ?_, ?_⟩ ?_))
        · try dsimp only
          omega
        · try dsimp only
          rw [hk2]; exact kst_le hk _ _
        · try dsimp only
          rw [take_snoc _ i hi.1 (by simp; omega) eAnon15.zero, List.foldl_append, ← hkk]; exact hk2
        · try dsimp only
          omega
      · have hk2 : k = kst k ([(⟨asksB m 2, m.src.addr.v6⟩ : SAnon15), ⟨asksB m 4, m.dst.addr.v6⟩].getD i.toNat eAnon15.zero).is_ ([(⟨asksB m 2, m.src.addr.v6⟩ : SAnon15), ⟨asksB m 4, m.dst.addr.v6⟩].getD i.toNat eAnon15.zero).v6 := by unfold kst; simp_all
        refine skip (bN (pN (region (co (Ev.add_i (.t rfl) (.c (v := I 1) rfl) (fun _ => by omega)) ?_))))
        refine mv rfl (nP (nx (X := Int × Nat) (i + 1, _) ⟨?_, ?_, ?_⟩ ?_))
        · try dsimp only
          omega
        · try dsimp only
          rw [hk2]; exact kst_le hk _ _
        · try dsimp only
          rw [take_snoc _ i hi.1 (by simp; omega) eAnon15.zero, List.foldl_append, ← hkk]; exact hk2
        · try dsimp only
          omega
  · try simp only [nb] at hge
    refine exit (pX (pX (bX (pN (sg (mv rfl (asn rfl (nP (ret (done rfl (.tmp rfl .nil) (retE ?_)))))))))))
    have e : i.toNat = 2 := by omega
    rw [hkk, e]; rfl
theorem every_ok (s : SSpan) (is : Bool) (top : UInt16) (w : World) : Calls Tryz.prog 191 #[eSpan.val s, .bool is, U16 top] w (RetV w (eSpan.val (everyB s is top))) := by
  refine en0 12 Tryz.func191 ?_
  refine sg (cons (box (E := eSpan) (.t rfl) (fun b1 => ?_)))
  refine cons (alloc z72 (fun b2 => ?_))
  refine nP (seq (sg (mv rfl (co (Ev.not (.t rfl)) ?_))))
  refine nP ?_
  first | refine condD rfl (fun h0 => ?_) (fun h0 => ?_) | refine cond rfl (fun h0 => ?_) (fun h0 => ?_)
  · try simp only [nb] at h0
    refine region (mv rfl (co (fA 1 (.t rfl)) ?_))
    refine cons (stv ty70 SSpan.l_to_ (.t rfl) (.t rfl) ?_)
    refine nP (sg (co (Ev.ldv ty72 (.t rfl) (Lens.id _)) ?_))
    refine cons (stv ty72 (Lens.id _) (.t rfl) (.t rfl) ?_)
    refine nP (ret (done rfl (.cell rfl (fun w I => run_loadVar_pts ty72 (ptsVar (by repeat first | exact mH | apply mT | apply mA) (Lens.id _) w I)) .nil) (retE ?_)))
    unfold everyB
    cases is <;> first | rfl | simp_all
  · try simp only [nb] at h0
    refine skip (pN (sg (co (Ev.ldv ty72 (.t rfl) (Lens.id _)) ?_)))
    refine cons (stv ty72 (Lens.id _) (.t rfl) (.t rfl) ?_)
    refine nP (ret (done rfl (.cell rfl (fun w I => run_loadVar_pts ty72 (ptsVar (by repeat first | exact mH | apply mT | apply mA) (Lens.id _) w I)) .nil) (retE ?_)))
    unfold everyB
    cases is <;> first | rfl | simp_all
theorem en191 : Gx.Enters Tryz.prog 191 := Gx.Enters.mk' (by kernel_rfl)
theorem spanned_ok (m n : SMatch) (q : UInt8) (a b : SSpan) (top : UInt16) (w : World) : Calls Tryz.prog 176 #[eMatch.val m, eMatch.val n, U8 q, eSpan.val a, eSpan.val b, U16 top] w (RetV w (.bool (spannedB m n q a b top))) := by
  refine en0 37 Tryz.func176 ?_
  refine sg (cons (box (E := eMatch) (.t rfl) (fun b1 => ?_)))
  refine cons (box (E := eMatch) (.t rfl) (fun b2 => ?_))
  refine cons (box (E := eSpan) (.t rfl) (fun b3 => ?_))
  refine cons (box (E := eSpan) (.t rfl) (fun b4 => ?_))
  refine co (Ev.assign (.c (v := .bool false) rfl)) ?_
  refine nP (seq (drawS 10 rfl (by repeat first | exact Rem.head | apply Rem.tail) (by kernel_rfl) ?_))
  refine tk 1 rfl (Ev.ldx n ty74 (.t rfl) (Lens.id _)) ?_
  refine tk 2 rfl (Ev.move (.t rfl)) ?_
  refine tk 4 rfl (Ev.move (.t rfl)) ?_
  refine all [0, 3] (by kernel_rfl) (by decide) (.cons rfl ?_ (.cons rfl ?_ .nil))
  · refine (opv (Ev.ldv ty72 (.t rfl) (Lens.id _)) ?_)
    refine hdn (al1 3 rfl ((callv en153 (.cons (.t rfl) (.cons (.t rfl) .nil)) (fun w I => asks_ok _ _ w) ?_)))
    refine hdn (al1 5 rfl ((callv en191 (.cons (.t rfl) (.cons (.t rfl) (.cons (.t rfl) .nil))) (fun w I => every_ok _ _ _ w) ?_)))
    refine hdn (al1 6 rfl ((stv ty72 (Lens.id _) (.t rfl) (.t rfl) ?_)))
    refine hdn (ovr (pN (sg (co (Ev.ldx m ty74 (.t rfl) (Lens.id _)) ?_))))
    refine mv rfl (cons (callv en153 (.cons (.t rfl) (.cons (.t rfl) .nil)) (fun w I => asks_ok _ _ w) ?_))
    refine co (Ev.not (.t rfl)) ?_
    refine mv rfl (cg rfl rfl (fA 0 (.t rfl)) ?_)
    refine cg rfl rfl (Ev.ldx a.from_ ty70 (.g rfl id) SSpan.l_from_) ?_
    refine cg rfl rfl (fA 0 (.t rfl)) ?_
    refine cg rfl rfl (Ev.ldv ty70 (.g rfl id) SSpan.l_from_) ?_
    refine cg rfl rfl (Ev.leq_u16 (.g rfl id) (.g rfl id)) ?_
    refine cg rfl rfl (Ev.move (.g rfl id)) ?_
    refine cg rfl rfl (fA 1 (.t rfl)) ?_
    refine cg rfl rfl (Ev.ldv ty70 (.g rfl id) SSpan.l_to_) ?_
    refine cg rfl rfl (fA 1 (.t rfl)) ?_
    refine cg rfl rfl (Ev.ldx a.to_ ty70 (.g rfl id) SSpan.l_to_) ?_
    refine cg rfl rfl (Ev.leq_u16 (.g rfl id) (.g rfl id)) ?_
    refine cg rfl rfl (Ev.pkA (.g rfl id) rfl) ?_
    refine co (Ev.pkO (.t rfl) rfl) ?_
    refine asn rfl (nP (ret (done rfl (.tmp rfl .nil) (retE ?_))))
    rfl
  · refine (callv en153 (.cons (.t rfl) (.cons (.t rfl) .nil)) (fun w I => asks_ok _ _ w) ?_)
    refine hdn (al1 0 rfl ((opv (Ev.ldv ty72 (.t rfl) (Lens.id _)) ?_)))
    refine hdn (al1 5 rfl ((callv en191 (.cons (.t rfl) (.cons (.t rfl) (.cons (.t rfl) .nil))) (fun w I => every_ok _ _ _ w) ?_)))
    refine hdn (al1 6 rfl ((stv ty72 (Lens.id _) (.t rfl) (.t rfl) ?_)))
    refine hdn (ovr (pN (sg (co (Ev.ldx m ty74 (.t rfl) (Lens.id _)) ?_))))
    refine mv rfl (cons (callv en153 (.cons (.t rfl) (.cons (.t rfl) .nil)) (fun w I => asks_ok _ _ w) ?_))
    refine co (Ev.not (.t rfl)) ?_
    refine mv rfl (cg rfl rfl (fA 0 (.t rfl)) ?_)
    refine cg rfl rfl (Ev.ldx a.from_ ty70 (.g rfl id) SSpan.l_from_) ?_
    refine cg rfl rfl (fA 0 (.t rfl)) ?_
    refine cg rfl rfl (Ev.ldv ty70 (.g rfl id) SSpan.l_from_) ?_
    refine cg rfl rfl (Ev.leq_u16 (.g rfl id) (.g rfl id)) ?_
    refine cg rfl rfl (Ev.move (.g rfl id)) ?_
    refine cg rfl rfl (fA 1 (.t rfl)) ?_
    refine cg rfl rfl (Ev.ldv ty70 (.g rfl id) SSpan.l_to_) ?_
    refine cg rfl rfl (fA 1 (.t rfl)) ?_
    refine cg rfl rfl (Ev.ldx a.to_ ty70 (.g rfl id) SSpan.l_to_) ?_
    refine cg rfl rfl (Ev.leq_u16 (.g rfl id) (.g rfl id)) ?_
    refine cg rfl rfl (Ev.pkA (.g rfl id) rfl) ?_
    refine co (Ev.pkO (.t rfl) rfl) ?_
    refine asn rfl (nP (ret (done rfl (.tmp rfl .nil) (retE ?_))))
    rfl
theorem en192 : Gx.Enters Tryz.prog 192 := Gx.Enters.mk' (by kernel_rfl)
theorem en193 : Gx.Enters Tryz.prog 193 := Gx.Enters.mk' (by kernel_rfl)
theorem prefixed_ok (m n : SMatch) (q : UInt8) (a b : SPrefix) (w : World) : Calls Tryz.prog 177 #[eMatch.val m, eMatch.val n, U8 q, ePrefix.val a, ePrefix.val b] w (RetV w (.bool (prefixedB m n q a b))) := by
  refine en0 36 Tryz.func177 ?_
  refine sg (cons (box (E := eMatch) (.t rfl) (fun b1 => ?_)))
  refine cons (box (E := eMatch) (.t rfl) (fun b2 => ?_))
  refine cons (box (E := ePrefix) (.t rfl) (fun b3 => ?_))
  refine cons (box (E := ePrefix) (.t rfl) (fun b4 => ?_))
  refine co (Ev.assign (.c (v := .bool false) rfl)) ?_
  refine nP (seq (block (sg (co (Ev.ldx m ty74 (.t rfl) (Lens.id _)) ?_))))
  refine mv rfl (cons (callv en153 (.cons (.t rfl) (.cons (.t rfl) .nil)) (fun w I => asks_ok _ _ w) ?_))
  refine co (Ev.not (.t rfl)) ?_
  refine asn rfl (nP ?_)
  first | refine condD rfl (fun h0 => ?_) (fun h0 => ?_) | refine cond rfl (fun h0 => ?_) (fun h0 => ?_)
  · try simp only [nb] at h0
    refine sg (co (Ev.assign (.c (v := .bool true) rfl)) ?_)
    refine nP (ret (bR (pR (done rfl (.tmp rfl .nil) (retE ?_)))))
    simp_all [prefixedB, asksB, tupV]
  · try simp only [nb] at h0
    refine sg (co (Ev.ldx n ty74 (.t rfl) (Lens.id _)) ?_)
    refine mv rfl (cons (callv en153 (.cons (.t rfl) (.cons (.t rfl) .nil)) (fun w I => asks_ok _ _ w) ?_))
    refine asn rfl (nP ?_)
    first | refine condD rfl (fun h1 => ?_) (fun h1 => ?_) | refine cond rfl (fun h1 => ?_) (fun h1 => ?_)
    · try simp only [nb] at h1
      refine sg (co (Ev.ldx a ty50 (.t rfl) (Lens.id _)) ?_)
      refine co (Ev.ldx b ty50 (.t rfl) (Lens.id _)) ?_
      refine cons (callv en192 (.cons (.t rfl) (.cons (.t rfl) .nil)) (fun w I => coversP_ok _ _ w) ?_)
      refine asn rfl (nP (ret (bR (pR (done rfl (.tmp rfl .nil) (retE ?_))))))
      simp_all [prefixedB, asksB, tupV]
    · try simp only [nb] at h1
      refine skip (bN (pN (sg (co (Ev.assign (.c (v := I 1) rfl)) ?_))))
      refine nP (seq (sg (co (fA 0 (.t rfl)) ?_)))
      refine co (fA 0 (.t rfl)) ?_
      refine co (Ev.ldx a.addr.v6 ty4 (.t rfl) (Lens.comp SPrefix.l_addr SAddr.l_v6)) ?_
      refine nP ?_
      first | refine condD rfl (fun h2 => ?_) (fun h2 => ?_) | refine cond rfl (fun h2 => ?_) (fun h2 => ?_)
      · try simp only [nb] at h2
        refine region (co (Ev.assign (.c (v := I 2) rfl)) ?_)
        refine nP (sg (co (fA 17 (.t rfl)) ?_))
        refine co (Ev.ldx a.bits ty3 (.t rfl) SPrefix.l_bits) ?_
        refine co (Ev.eql_i (.t rfl) (.c (v := I 0) rfl)) ?_
        refine mv rfl (cg rfl rfl (Ev.ldx n ty74 (.t rfl) (Lens.id _)) ?_)
        refine cons (callg rfl rfl en193 (.cons (.g rfl id) .nil) (fun hg w I => kinds_ok _ w) ?_)
        refine cg rfl rfl (Ev.move (.t rfl)) ?_
        refine cg rfl rfl (Ev.eql_i (.g rfl id) (.g rfl id)) ?_
        refine co (Ev.pkA (.t rfl) rfl) ?_
        refine asn rfl (nP (ret (done rfl (.tmp rfl .nil) (retE ?_))))
        simp_all [prefixedB, asksB, tupV]
      · try simp only [nb] at h2
        refine skip (pN (sg (co (fA 17 (.t rfl)) ?_)))
        refine co (Ev.ldx a.bits ty3 (.t rfl) SPrefix.l_bits) ?_
        refine co (Ev.eql_i (.t rfl) (.c (v := I 0) rfl)) ?_
        refine mv rfl (cg rfl rfl (Ev.ldx n ty74 (.t rfl) (Lens.id _)) ?_)
        refine cons (callg rfl rfl en193 (.cons (.g rfl id) .nil) (fun hg w I => kinds_ok _ w) ?_)
        refine cg rfl rfl (Ev.move (.t rfl)) ?_
        refine cg rfl rfl (Ev.eql_i (.g rfl id) (.g rfl id)) ?_
        refine co (Ev.pkA (.t rfl) rfl) ?_
        refine asn rfl (nP (ret (done rfl (.tmp rfl .nil) (retE ?_))))
        simp_all [prefixedB, asksB, tupV]
theorem rspans_ok (one : Bool) (a : SSpan) (other : Bool) (b : SSpan) (top : UInt16) (w : World) : Calls Tryz.prog 178 #[.bool one, eSpan.val a, .bool other, eSpan.val b, U16 top] w (RetV w (.bool (spansR one a other b top))) := by
  refine en0 29 Tryz.func178 ?_
  refine sg (cons (box (E := eSpan) (.t rfl) (fun b1 => ?_)))
  refine cons (box (E := eSpan) (.t rfl) (fun b2 => ?_))
  refine co (Ev.assign (.c (v := .bool false) rfl)) ?_
  refine nP (seq (sg (mv rfl (co (Ev.not (.t rfl)) ?_))))
  refine nP ?_
  first | refine condD rfl (fun h0 => ?_) (fun h0 => ?_) | refine cond rfl (fun h0 => ?_) (fun h0 => ?_)
  · try simp only [nb] at h0
    refine sg (co (Ev.assign (.c (v := .bool true) rfl)) ?_)
    refine nP (ret (pR (done rfl (.tmp rfl .nil) (retE ?_))))
    cases one <;> cases other <;> simp_all [spansR, tupV] <;> rfl
  · try simp only [nb] at h0
    refine skip (pN (seq (sg (mv rfl (co (Ev.not (.t rfl)) ?_)))))
    refine nP ?_
    first | refine condD rfl (fun h1 => ?_) (fun h1 => ?_) | refine cond rfl (fun h1 => ?_) (fun h1 => ?_)
    · try simp only [nb] at h1
      refine region (mv rfl (co (Ev.buildS (fs := _) (places := [(0, 1), (1, 1)]) z72 rfl Tryz.underlying72 (by kernel_rfl) (.cons (.t rfl) .nil) (Fills.cons SSpan.l_to_ rfl Fills.nil)) ?_))
      refine cons (stv ty72 (Lens.id _) (.t rfl) (.t rfl) ?_)
      refine nP (sg (co (fA 0 (.t rfl)) ?_))
      refine co (Ev.ldx a.from_ ty70 (.t rfl) SSpan.l_from_) ?_
      refine co (fA 0 (.t rfl)) ?_
      refine co (Ev.ldv ty70 (.t rfl) SSpan.l_from_) ?_
      refine co (Ev.leq_u16 (.t rfl) (.t rfl)) ?_
      refine mv rfl (cg rfl rfl (fA 1 (.t rfl)) ?_)
      refine cg rfl rfl (Ev.ldv ty70 (.g rfl id) SSpan.l_to_) ?_
      refine cg rfl rfl (fA 1 (.t rfl)) ?_
      refine cg rfl rfl (Ev.ldx a.to_ ty70 (.g rfl id) SSpan.l_to_) ?_
      refine cg rfl rfl (Ev.leq_u16 (.g rfl id) (.g rfl id)) ?_
      refine co (Ev.pkA (.t rfl) rfl) ?_
      refine asn rfl (nP (ret (done rfl (.tmp rfl .nil) (retE ?_))))
      cases one <;> cases other <;> simp_all [spansR, tupV] <;> rfl
    · try simp only [nb] at h1
      refine skip (pN (sg (co (fA 0 (.t rfl)) ?_)))
      refine co (Ev.ldx a.from_ ty70 (.t rfl) SSpan.l_from_) ?_
      refine co (fA 0 (.t rfl)) ?_
      refine co (Ev.ldv ty70 (.t rfl) SSpan.l_from_) ?_
      refine co (Ev.leq_u16 (.t rfl) (.t rfl)) ?_
      refine mv rfl (cg rfl rfl (fA 1 (.t rfl)) ?_)
      refine cg rfl rfl (Ev.ldv ty70 (.g rfl id) SSpan.l_to_) ?_
      refine cg rfl rfl (fA 1 (.t rfl)) ?_
      refine cg rfl rfl (Ev.ldx a.to_ ty70 (.g rfl id) SSpan.l_to_) ?_
      refine cg rfl rfl (Ev.leq_u16 (.g rfl id) (.g rfl id)) ?_
      refine co (Ev.pkA (.t rfl) rfl) ?_
      refine asn rfl (nP (ret (done rfl (.tmp rfl .nil) (retE ?_))))
      cases one <;> cases other <;> simp_all [spansR, tupV] <;> rfl
theorem en194 : Gx.Enters Tryz.prog 194 := Gx.Enters.mk' (by kernel_rfl)
theorem rprefixes_ok (one : Bool) (a : SPrefix) (other : Bool) (b : SPrefix) (v : Bool) (w : World) : Calls Tryz.prog 181 #[.bool one, ePrefix.val a, .bool other, ePrefix.val b, .bool v] w (RetV w (.bool (prefixesR one a other b v))) := by
  refine en0 29 Tryz.func181 ?_
  refine sg (cons (box (E := ePrefix) (.t rfl) (fun b1 => ?_)))
  refine cons (box (E := ePrefix) (.t rfl) (fun b2 => ?_))
  refine co (Ev.assign (.c (v := .bool false) rfl)) ?_
  refine nP (seq (sg (mv rfl (co (Ev.not (.t rfl)) ?_))))
  refine nP ?_
  first | refine condD rfl (fun h0 => ?_) (fun h0 => ?_) | refine cond rfl (fun h0 => ?_) (fun h0 => ?_)
  · try simp only [nb] at h0
    refine sg (co (Ev.assign (.c (v := .bool true) rfl)) ?_)
    refine nP (ret (pR (done rfl (.tmp rfl .nil) (retE ?_))))
    cases one <;> cases other <;> simp_all [prefixesR, tupV] <;> rfl
  · try simp only [nb] at h0
    refine skip (pN (seq (sg (mv rfl (co (Ev.not (.t rfl)) ?_)))))
    refine nP ?_
    first | refine condD rfl (fun h1 => ?_) (fun h1 => ?_) | refine cond rfl (fun h1 => ?_) (fun h1 => ?_)
    · try simp only [nb] at h1
      refine region (mv rfl (co (Ev.buildS (fs := _) (places := [(0, 1), (1, 16)]) z48 rfl Tryz.underlying48 (by kernel_rfl) (.cons (.t rfl) .nil) (Fills.cons SAddr.l_v6 rfl Fills.nil)) ?_))
      refine co (Ev.buildS (fs := _) (places := [(0, 17), (17, 1)]) z50 rfl Tryz.underlying50 (by kernel_rfl) (.cons (.t rfl) .nil) (Fills.cons SPrefix.l_addr rfl Fills.nil)) ?_
      refine cons (stv ty50 (Lens.id _) (.t rfl) (.t rfl) ?_)
      refine nP (sg (co (fA 17 (.t rfl)) ?_))
      refine co (Ev.ldv ty3 (.t rfl) SPrefix.l_bits) ?_
      refine co (fA 17 (.t rfl)) ?_
      refine co (Ev.ldx a.bits ty3 (.t rfl) SPrefix.l_bits) ?_
      refine co (Ev.geq_i (.t rfl) (.t rfl)) ?_
      refine mv rfl (cg rfl rfl (Ev.ldx a ty50 (.t rfl) (Lens.id _)) ?_)
      refine cg rfl rfl (fA 0 (.t rfl)) ?_
      refine cg rfl rfl (Ev.ldv ty48 (.g rfl id) SPrefix.l_addr) ?_
      refine cons (callg rfl rfl en194 (.cons (.g rfl id) (.cons (.g rfl id) .nil)) (fun hg w I => rhas_ok _ _ w) ?_)
      refine co (Ev.pkA (.t rfl) rfl) ?_
      refine asn rfl (nP (ret (done rfl (.tmp rfl .nil) (retE ?_))))
      cases one <;> cases other <;> simp_all [prefixesR, tupV] <;> rfl
    · try simp only [nb] at h1
      refine skip (pN (sg (co (fA 17 (.t rfl)) ?_)))
      refine co (Ev.ldv ty3 (.t rfl) SPrefix.l_bits) ?_
      refine co (fA 17 (.t rfl)) ?_
      refine co (Ev.ldx a.bits ty3 (.t rfl) SPrefix.l_bits) ?_
      refine co (Ev.geq_i (.t rfl) (.t rfl)) ?_
      refine mv rfl (cg rfl rfl (Ev.ldx a ty50 (.t rfl) (Lens.id _)) ?_)
      refine cg rfl rfl (fA 0 (.t rfl)) ?_
      refine cg rfl rfl (Ev.ldv ty48 (.g rfl id) SPrefix.l_addr) ?_
      refine cons (callg rfl rfl en194 (.cons (.g rfl id) (.cons (.g rfl id) .nil)) (fun hg w I => rhas_ok _ _ w) ?_)
      refine co (Ev.pkA (.t rfl) rfl) ?_
      refine asn rfl (nP (ret (done rfl (.tmp rfl .nil) (retE ?_))))
      cases one <;> cases other <;> simp_all [prefixesR, tupV] <;> rfl
theorem rkinds_ok (m : SMatch) (w : World) : Calls Tryz.prog 180 #[eMatch.val m] w (RetV w (.tuple #[.bool (k4R m), .bool (k6R m)])) := by
  refine en0 30 Tryz.func180 ?_
  refine sg (cons (box (E := eMatch) (.t rfl) (fun b1 => ?_)))
  refine co (Ev.assign (.c (v := .bool false) rfl)) ?_
  refine co (Ev.assign (.c (v := .bool false) rfl)) ?_
  refine nP (sg (co (Ev.assign (.c (v := .bool true) rfl)) ?_))
  refine co (Ev.assign (.c (v := .bool true) rfl)) ?_
  refine nP (seq (sg (co (Ev.ldx m ty74 (.t rfl) (Lens.id _)) ?_)))
  refine cons (callv en179 (.cons (.t rfl) (.cons (.c (v := U8 2) rfl) .nil)) (fun w I => rasks_ok _ _ w (by decide)) ?_)
  refine nP ?_
  first | refine condD rfl (fun h0 => ?_) (fun h0 => ?_) | refine cond rfl (fun h0 => ?_) (fun h0 => ?_)
  · try simp only [nb] at h0
    refine draw' (by kernel_rfl) ?_
    refine tk 0 rfl (fA 3 (.t rfl)) ?_
    refine tk 1 rfl (fA 0 (.t rfl)) ?_
    refine tk 2 rfl (fA 0 (.t rfl)) ?_
    refine tk 3 rfl (Ev.ldx m.src.addr.v6 ty4 (.t rfl) (Lens.comp (Lens.comp SMatch.l_src SPrefix.l_addr) SAddr.l_v6)) ?_
    refine tk 4 rfl (Ev.not (.t rfl)) ?_
    refine tk 5 rfl (fA 3 (.t rfl)) ?_
    refine tk 6 rfl (fA 0 (.t rfl)) ?_
    refine tk 7 rfl (fA 0 (.t rfl)) ?_
    refine tk 8 rfl (Ev.ldx m.src.addr.v6 ty4 (.t rfl) (Lens.comp (Lens.comp SMatch.l_src SPrefix.l_addr) SAddr.l_v6)) ?_
    refine tk 9 rfl (Ev.assign (.t rfl)) ?_
    refine tk 10 rfl (Ev.assign (.t rfl)) ?_
    refine ovr (pN (seq (sg (co (Ev.ldx m ty74 (.t rfl) (Lens.id _)) ?_))))
    refine cons (callv en179 (.cons (.t rfl) (.cons (.c (v := U8 4) rfl) .nil)) (fun w I => rasks_ok _ _ w (by decide)) ?_)
    refine nP ?_
    first | refine condD rfl (fun h1 => ?_) (fun h1 => ?_) | refine cond rfl (fun h1 => ?_) (fun h1 => ?_)
    · try simp only [nb] at h1
      refine draw' (by kernel_rfl) ?_
      refine tk 0 rfl (fA 21 (.t rfl)) ?_
      refine tk 1 rfl (fA 0 (.t rfl)) ?_
      refine tk 2 rfl (fA 0 (.t rfl)) ?_
      refine tk 3 rfl (Ev.ldx m.dst.addr.v6 ty4 (.t rfl) (Lens.comp (Lens.comp SMatch.l_dst SPrefix.l_addr) SAddr.l_v6)) ?_
      refine tk 4 rfl (Ev.not (.t rfl)) ?_
      refine tk 5 rfl (fA 21 (.t rfl)) ?_
      refine tk 6 rfl (fA 0 (.t rfl)) ?_
      refine tk 7 rfl (fA 0 (.t rfl)) ?_
      refine tk 8 rfl (Ev.ldx m.dst.addr.v6 ty4 (.t rfl) (Lens.comp (Lens.comp SMatch.l_dst SPrefix.l_addr) SAddr.l_v6)) ?_
      refine tk 9 rfl (Ev.assign (.t rfl)) ?_
      refine tk 10 rfl (Ev.assign (.t rfl)) ?_
      refine ovr (pN (sg (mv rfl (mv rfl (asn rfl (asn rfl (nP (ret (done rfl (.tmp rfl (.tmp rfl .nil)) (retE ?_))))))))))
      simp_all [k4R, k6R, asksB, tupV] <;> rfl
    · try simp only [nb] at h1
      refine skip (pN (sg (mv rfl (mv rfl (asn rfl (asn rfl (nP (ret (done rfl (.tmp rfl (.tmp rfl .nil)) (retE ?_))))))))))
      simp_all [k4R, k6R, asksB, tupV] <;> rfl
  · try simp only [nb] at h0
    refine skip (pN (seq (sg (co (Ev.ldx m ty74 (.t rfl) (Lens.id _)) ?_))))
    refine cons (callv en179 (.cons (.t rfl) (.cons (.c (v := U8 4) rfl) .nil)) (fun w I => rasks_ok _ _ w (by decide)) ?_)
    refine nP ?_
    first | refine condD rfl (fun h1 => ?_) (fun h1 => ?_) | refine cond rfl (fun h1 => ?_) (fun h1 => ?_)
    · try simp only [nb] at h1
      refine draw' (by kernel_rfl) ?_
      refine tk 0 rfl (fA 21 (.t rfl)) ?_
      refine tk 1 rfl (fA 0 (.t rfl)) ?_
      refine tk 2 rfl (fA 0 (.t rfl)) ?_
      refine tk 3 rfl (Ev.ldx m.dst.addr.v6 ty4 (.t rfl) (Lens.comp (Lens.comp SMatch.l_dst SPrefix.l_addr) SAddr.l_v6)) ?_
      refine tk 4 rfl (Ev.not (.t rfl)) ?_
      refine tk 5 rfl (fA 21 (.t rfl)) ?_
      refine tk 6 rfl (fA 0 (.t rfl)) ?_
      refine tk 7 rfl (fA 0 (.t rfl)) ?_
      refine tk 8 rfl (Ev.ldx m.dst.addr.v6 ty4 (.t rfl) (Lens.comp (Lens.comp SMatch.l_dst SPrefix.l_addr) SAddr.l_v6)) ?_
      refine tk 9 rfl (Ev.assign (.t rfl)) ?_
      refine tk 10 rfl (Ev.assign (.t rfl)) ?_
      refine ovr (pN (sg (mv rfl (mv rfl (asn rfl (asn rfl (nP (ret (done rfl (.tmp rfl (.tmp rfl .nil)) (retE ?_))))))))))
      simp_all [k4R, k6R, asksB, tupV] <;> rfl
    · try simp only [nb] at h1
      refine skip (pN (sg (mv rfl (mv rfl (asn rfl (asn rfl (nP (ret (done rfl (.tmp rfl (.tmp rfl .nil)) (retE ?_))))))))))
      simp_all [k4R, k6R, asksB, tupV] <;> rfl
def unlikeB (a b : SSpan) : Bool := decide (a.to_ < b.from_) || decide (b.to_ < a.from_)
def coversM (m n : SMatch) : Bool := (okM m && okM n) && (!(asksB m 8 && (!asksB n 8 || decide (¬ m.proto = n.proto))) && (spannedB m n 1 m.in_ n.in_ 255 && prefixedB m n 2 m.src n.src && prefixedB m n 4 m.dst n.dst && spannedB m n 16 m.srcPort n.srcPort 65535 && spannedB m n 32 m.dstPort n.dstPort 65535))
def pfx (m n : SMatch) (v : Bool) : Bool := prefixesR (asksB m 2) m.src (asksB n 2) n.src v && prefixesR (asksB m 4) m.dst (asksB n 4) n.dst v
def coversR (m n : SMatch) : Bool := (okM m && okM n) && (spansR (asksB m 1) m.in_ (asksB n 1) n.in_ 255 && ((!k4R n || pfx m n false) && (!k6R n || pfx m n true)) && !(asksB m 8 && (!asksB n 8 || decide (¬ m.proto = n.proto))) && (spansR (asksB m 16) m.srcPort (asksB n 16) n.srcPort 65535 && spansR (asksB m 32) m.dstPort (asksB n 32) n.dstPort 65535))
def both2 (m n : SMatch) (w : UInt8) : Bool := decide (¬ (m.asks &&& n.asks) &&& w = 0)
def apartM (m n : SMatch) : Bool := (okM m && okM n) && (decide (((kI m &&& kI n : Nat) : Int) = 0) || (both2 m n 8 && decide (¬ m.proto = n.proto)) || (both2 m n 1 && unlikeB m.in_ n.in_) || (both2 m n 16 && unlikeB m.srcPort n.srcPort) || (both2 m n 32 && unlikeB m.dstPort n.dstPort) || (both2 m n 2 && !coversP m.src n.src && !coversP n.src m.src) || (both2 m n 4 && !coversP m.dst n.dst && !coversP n.dst m.dst))
def meetB (p q : SPrefix) : Bool := hasP p q.addr || hasP q p.addr
def apartR (m n : SMatch) : Bool := (okM m && okM n) && ((asksB m 1 && asksB n 1 && unlikeB m.in_ n.in_) || !((k4R m && k4R n) || (k6R m && k6R n)) || (asksB m 8 && asksB n 8 && decide (¬ m.proto = n.proto)) || (asksB m 2 && asksB n 2 && !meetB m.src n.src) || (asksB m 4 && asksB n 4 && !meetB m.dst n.dst) || (asksB m 16 && asksB n 16 && unlikeB m.srcPort n.srcPort) || (asksB m 32 && asksB n 32 && unlikeB m.dstPort n.dstPort))
theorem en176 : Gx.Enters Tryz.prog 176 := Gx.Enters.mk' (by kernel_rfl)
theorem en177 : Gx.Enters Tryz.prog 177 := Gx.Enters.mk' (by kernel_rfl)
theorem covers_ok (m n : SMatch) (w : World) : Calls Tryz.prog 149 #[eMatch.val m, eMatch.val n] w (RetV w (.bool (coversM m n))) := by
  refine en0 70 Tryz.func149 ?_
  refine sg (cons (box (E := eMatch) (.t rfl) (fun b1 => ?_)))
  refine cons (box (E := eMatch) (.t rfl) (fun b2 => ?_))
  refine co (Ev.assign (.c (v := .bool false) rfl)) ?_
  refine nP (seq (sg (co (Ev.ldx m ty74 (.t rfl) (Lens.id _)) ?_)))
  refine cons (callv en117 (.cons (.t rfl) .nil) (fun w I => check_ok _ w) ?_)
  refine co (Ev.to (v' := .bool (!okM m)) (Ev.neq_i (.t rfl) (.c (v := I 0) rfl)) (congrArg Value.bool (by rw [← ckM_zero]; simp))) ?_
  refine mv rfl (cg rfl rfl (Ev.ldx n ty74 (.t rfl) (Lens.id _)) ?_)
  refine cons (callg rfl rfl en117 (.cons (.g rfl id) .nil) (fun hg w I => check_ok _ w) ?_)
  refine cg rfl rfl (Ev.to (v' := .bool (!okM n)) (Ev.neq_i (.g rfl id) (.c (v := I 0) rfl)) (congrArg Value.bool (by rw [← ckM_zero]; simp))) ?_
  refine co (Ev.pkO (.t rfl) rfl) ?_
  refine nP ?_
  first | refine condD rfl (fun h0 => ?_) (fun h0 => ?_) | refine cond rfl (fun h0 => ?_) (fun h0 => ?_)
  · refine sg (co (Ev.assign (.c (v := .bool false) rfl)) ?_)
    refine nP (ret (pR (done rfl (.tmp rfl .nil) (retE ?_))))
    refine bX2 ?_
    unfold coversM
    have h0c : (okM m && okM n) = false := by cases ha : okM m <;> cases hb : okM n <;> simp_all
    rw [h0c]; rfl
  · refine skip (pN (seq (sg (co (Ev.ldx m ty74 (.t rfl) (Lens.id _)) ?_))))
    refine cons (callv en153 (.cons (.t rfl) (.cons (.c (v := U8 8) rfl) .nil)) (fun w I => asks_ok _ _ w) ?_)
    refine mv rfl (cg rfl rfl (Ev.ldx n ty74 (.t rfl) (Lens.id _)) ?_)
    refine cons (callg rfl rfl en153 (.cons (.g rfl id) (.cons (.c (v := U8 8) rfl) .nil)) (fun hg w I => asks_ok _ _ w) ?_)
    refine cg rfl rfl (Ev.not (.g rfl id)) ?_
    refine cg rfl rfl (Ev.move (.g rfl id)) ?_
    refine cg rfl rfl (fA 39 (.t rfl)) ?_
    refine cg rfl rfl (Ev.ldx m.proto ty5 (.g rfl id) SMatch.l_proto) ?_
    refine cg rfl rfl (fA 39 (.t rfl)) ?_
    refine cg rfl rfl (Ev.ldx n.proto ty5 (.g rfl id) SMatch.l_proto) ?_
    refine cg rfl rfl (Ev.neq_u8 (.g rfl id) (.g rfl id)) ?_
    refine cg rfl rfl (Ev.pkO (.g rfl id) rfl) ?_
    refine co (Ev.pkA (.t rfl) rfl) ?_
    refine nP ?_
    first | refine condD rfl (fun h1 => ?_) (fun h1 => ?_) | refine cond rfl (fun h1 => ?_) (fun h1 => ?_)
    · refine sg (co (Ev.assign (.c (v := .bool false) rfl)) ?_)
      refine nP (ret (pR (done rfl (.tmp rfl .nil) (retE ?_))))
      refine bX2 ?_
      unfold coversM
      rw [h1]; simp
    · refine skip (pN (sg (co (Ev.ldx m ty74 (.t rfl) (Lens.id _)) ?_)))
      refine co (Ev.ldx n ty74 (.t rfl) (Lens.id _)) ?_
      refine co (fA 1 (.t rfl)) ?_
      refine co (Ev.ldx m.in_ ty72 (.t rfl) SMatch.l_in_) ?_
      refine co (fA 1 (.t rfl)) ?_
      refine co (Ev.ldx n.in_ ty72 (.t rfl) SMatch.l_in_) ?_
      refine cons (callv en176 (.cons (.t rfl) (.cons (.t rfl) (.cons (.c (v := U8 1) rfl) (.cons (.t rfl) (.cons (.t rfl) (.cons (.c (v := U16 255) rfl) .nil)))))) (fun w I => spanned_ok _ _ _ _ _ _ w) ?_)
      refine mv rfl (cg rfl rfl (Ev.ldx m ty74 (.t rfl) (Lens.id _)) ?_)
      refine cg rfl rfl (Ev.ldx n ty74 (.t rfl) (Lens.id _)) ?_
      refine cg rfl rfl (fA 3 (.t rfl)) ?_
      refine cg rfl rfl (Ev.ldx m.src ty50 (.g rfl id) SMatch.l_src) ?_
      refine cg rfl rfl (fA 3 (.t rfl)) ?_
      refine cg rfl rfl (Ev.ldx n.src ty50 (.g rfl id) SMatch.l_src) ?_
      refine cons (callg rfl rfl en177 (.cons (.g rfl id) (.cons (.g rfl id) (.cons (.c (v := U8 2) rfl) (.cons (.g rfl id) (.cons (.g rfl id) .nil))))) (fun hg w I => prefixed_ok _ _ _ _ _ w) ?_)
      refine co (Ev.pkA (.t rfl) rfl) ?_
      refine mv rfl (cg rfl rfl (Ev.ldx m ty74 (.t rfl) (Lens.id _)) ?_)
      refine cg rfl rfl (Ev.ldx n ty74 (.t rfl) (Lens.id _)) ?_
      refine cg rfl rfl (fA 21 (.t rfl)) ?_
      refine cg rfl rfl (Ev.ldx m.dst ty50 (.g rfl id) SMatch.l_dst) ?_
      refine cg rfl rfl (fA 21 (.t rfl)) ?_
      refine cg rfl rfl (Ev.ldx n.dst ty50 (.g rfl id) SMatch.l_dst) ?_
      refine cons (callg rfl rfl en177 (.cons (.g rfl id) (.cons (.g rfl id) (.cons (.c (v := U8 4) rfl) (.cons (.g rfl id) (.cons (.g rfl id) .nil))))) (fun hg w I => prefixed_ok _ _ _ _ _ w) ?_)
      refine co (Ev.pkA (.t rfl) rfl) ?_
      refine mv rfl (cg rfl rfl (Ev.ldx m ty74 (.t rfl) (Lens.id _)) ?_)
      refine cg rfl rfl (Ev.ldx n ty74 (.t rfl) (Lens.id _)) ?_
      refine cg rfl rfl (fA 40 (.t rfl)) ?_
      refine cg rfl rfl (Ev.ldx m.srcPort ty72 (.g rfl id) SMatch.l_srcPort) ?_
      refine cg rfl rfl (fA 40 (.t rfl)) ?_
      refine cg rfl rfl (Ev.ldx n.srcPort ty72 (.g rfl id) SMatch.l_srcPort) ?_
      refine cons (callg rfl rfl en176 (.cons (.g rfl id) (.cons (.g rfl id) (.cons (.c (v := U8 16) rfl) (.cons (.g rfl id) (.cons (.g rfl id) (.cons (.c (v := U16 65535) rfl) .nil)))))) (fun hg w I => spanned_ok _ _ _ _ _ _ w) ?_)
      refine co (Ev.pkA (.t rfl) rfl) ?_
      refine mv rfl (cg rfl rfl (Ev.ldx m ty74 (.t rfl) (Lens.id _)) ?_)
      refine cg rfl rfl (Ev.ldx n ty74 (.t rfl) (Lens.id _)) ?_
      refine cg rfl rfl (fA 42 (.t rfl)) ?_
      refine cg rfl rfl (Ev.ldx m.dstPort ty72 (.g rfl id) SMatch.l_dstPort) ?_
      refine cg rfl rfl (fA 42 (.t rfl)) ?_
      refine cg rfl rfl (Ev.ldx n.dstPort ty72 (.g rfl id) SMatch.l_dstPort) ?_
      refine cons (callg rfl rfl en176 (.cons (.g rfl id) (.cons (.g rfl id) (.cons (.c (v := U8 32) rfl) (.cons (.g rfl id) (.cons (.g rfl id) (.cons (.c (v := U16 65535) rfl) .nil)))))) (fun hg w I => spanned_ok _ _ _ _ _ _ w) ?_)
      refine co (Ev.pkA (.t rfl) rfl) ?_
      refine asn rfl (nP (ret (done rfl (.tmp rfl .nil) (retE ?_))))
      refine bX2 ?_
      unfold coversM
      have h0c : (okM m && okM n) = true := by simpa using h0
      rw [h0c, h1]; simp [Bool.and_assoc]
theorem en178 : Gx.Enters Tryz.prog 178 := Gx.Enters.mk' (by kernel_rfl)
theorem en180 : Gx.Enters Tryz.prog 180 := Gx.Enters.mk' (by kernel_rfl)
theorem en181 : Gx.Enters Tryz.prog 181 := Gx.Enters.mk' (by kernel_rfl)
theorem rcovers_ok (m n : SMatch) (w : World) : Calls Tryz.prog 150 #[eMatch.val m, eMatch.val n] w (RetV w (.bool (coversR m n))) := by
  refine en0 109 Tryz.func150 ?_
  refine sg (cons (box (E := eMatch) (.t rfl) (fun b1 => ?_)))
  refine cons (box (E := eMatch) (.t rfl) (fun b2 => ?_))
  refine co (Ev.assign (.c (v := .bool false) rfl)) ?_
  refine nP (seq (sg (co (Ev.ldx m ty74 (.t rfl) (Lens.id _)) ?_)))
  refine cons (callv en157 (.cons (.t rfl) .nil) (fun w I => rcheck_ok _ w) ?_)
  refine co (Ev.not (.t rfl)) ?_
  refine mv rfl (cg rfl rfl (Ev.ldx n ty74 (.t rfl) (Lens.id _)) ?_)
  refine cons (callg rfl rfl en157 (.cons (.g rfl id) .nil) (fun hg w I => rcheck_ok _ w) ?_)
  refine cg rfl rfl (Ev.not (.g rfl id)) ?_
  refine co (Ev.pkO (.t rfl) rfl) ?_
  refine nP ?_
  first | refine condD rfl (fun h0 => ?_) (fun h0 => ?_) | refine cond rfl (fun h0 => ?_) (fun h0 => ?_)
  · refine sg (co (Ev.assign (.c (v := .bool false) rfl)) ?_)
    refine nP (ret (pR (done rfl (.tmp rfl .nil) (retE ?_))))
    refine bX2 ?_
    unfold coversR
    have h0c : (okM m && okM n) = false := by cases ha : okM m <;> cases hb : okM n <;> simp_all
    rw [h0c]; rfl
  · refine skip (pN (seq (seq (draw' (by kernel_rfl) ?_))))
    refine tk 0 rfl (Ev.ldx m ty74 (.t rfl) (Lens.id _)) ?_
    refine tk 2 rfl (fA 1 (.t rfl)) ?_
    refine tk 3 rfl (Ev.ldx m.in_ ty72 (.t rfl) SMatch.l_in_) ?_
    refine tk 4 rfl (Ev.ldx n ty74 (.t rfl) (Lens.id _)) ?_
    refine tk 6 rfl (fA 1 (.t rfl)) ?_
    refine tk 7 rfl (Ev.ldx n.in_ ty72 (.t rfl) SMatch.l_in_) ?_
    refine al1 1 rfl ((callv en179 (.cons (.t rfl) (.cons (.c (v := U8 1) rfl) .nil)) (fun w I => rasks_ok _ _ w (by decide)) ?_))
    refine hdn (al1 5 rfl ((callv en179 (.cons (.t rfl) (.cons (.c (v := U8 1) rfl) .nil)) (fun w I => rasks_ok _ _ w (by decide)) ?_)))
    refine hdn (al1 8 rfl ((callv en178 (.cons (.t rfl) (.cons (.t rfl) (.cons (.t rfl) (.cons (.t rfl) (.cons (.c (v := U16 255) rfl) .nil))))) (fun w I => rspans_ok _ _ _ _ _ w) ?_)))
    refine hdn (tk 9 rfl (Ev.not (.t rfl)) ?_)
    refine ovr (pN ?_)
    first | refine condD rfl (fun h1 => ?_) (fun h1 => ?_) | refine cond rfl (fun h1 => ?_) (fun h1 => ?_)
    · refine sg (co (Ev.assign (.c (v := .bool false) rfl)) ?_)
      refine nP (ret (pR (done rfl (.tmp rfl .nil) (retE ?_))))
      refine bX2 ?_
      unfold coversR
      have h1c : spansR (asksB m 1) m.in_ (asksB n 1) n.in_ 255 = false := by simpa using h1
      rw [h1c]; simp
    · refine skip (pN (sg (co (Ev.ldx n ty74 (.t rfl) (Lens.id _)) ?_)))
      refine cons (callv en180 (.cons (.t rfl) .nil) (fun w I => rkinds_ok _ w) ?_)
      refine mv rfl (co (Ev.extract (.t rfl) rfl) (co (Ev.extract (.t rfl) rfl) (asn rfl (asn rfl (nP (seq (sg (co (Ev.assign (.c (v := I 0) rfl)) ?_))))))))
      refine nP (block (lp (X := Int) (fun x : Int => (0 ≤ x ∧ x ≤ 2) ∧ (1 ≤ x → (!k4R n || pfx m n false) = true) ∧ (2 ≤ x → (!k6R n || pfx m n true) = true)) (fun x : Int => [(2, true, .pointer (some ⟨b1, 0, none⟩)), (3, true, .pointer (some ⟨b2, 0, none⟩)), (5, true, .bool (k4R n)), (6, true, .bool (k6R n)), (7, true, I x)]) (fun x : Int => [Var b2 eMatch n 74, Var b1 eMatch m 74]) (fun x : Int => (2 - x).toNat) (0) ⟨?_, ?_, ?_⟩ (fun x hx => ?_)))
      · omega
      · intro h; omega
      · intro h; omega
      obtain ⟨i, rfl⟩ : ∃ y, y = x := ⟨x, rfl⟩
      obtain ⟨hi, hp0, hp1⟩ : (0 ≤ i ∧ i ≤ 2) ∧ (1 ≤ i → (!k4R n || pfx m n false) = true) ∧ (2 ≤ i → (!k6R n || pfx m n true) = true) := hx
      show Sat _ _ [(2, true, .pointer (some ⟨b1, 0, none⟩)), (3, true, .pointer (some ⟨b2, 0, none⟩)), (5, true, .bool (k4R n)), (6, true, .bool (k6R n)), (7, true, I i)] [Var b2 eMatch n 74, Var b1 eMatch m 74]
      refine seq (sg (mv rfl (co (Ev.lss_i (.t rfl) (.c (v := I 2) rfl)) ?_)))
      refine nP ?_
      first | refine condD rfl (fun hlt => ?_) (fun hge => ?_) | refine cond rfl (fun hlt => ?_) (fun hge => ?_)
      · try simp only [nb] at hlt
        refine skip (pN (seq (block (sg (mv rfl (co (Ev.eql_i (.t rfl) (.c (v := I 1) rfl)) ?_))))))
        refine asn rfl (nP (seq (sg (mv rfl (mv rfl (cg rfl rfl (Ev.move (.t rfl)) ?_))))))
        refine cg rfl rfl (Ev.not (.g rfl id)) ?_
        refine co (Ev.pkA (.t rfl) rfl) ?_
        refine mv rfl (cg rfl rfl (Ev.move (.t rfl)) ?_)
        refine cg rfl rfl (Ev.not (.g rfl id)) ?_
        refine cg rfl rfl (Ev.move (.g rfl id)) ?_
        refine cg rfl rfl (Ev.move (.t rfl)) ?_
        refine cg rfl rfl (Ev.not (.g rfl id)) ?_
        refine cg rfl rfl (Ev.pkA (.g rfl id) rfl) ?_
        refine co (Ev.pkO (.t rfl) rfl) ?_
        refine nP ?_
        first | refine condD rfl (fun h3 => ?_) (fun h3 => ?_) | refine cond rfl (fun h3 => ?_) (fun h3 => ?_)
        · refine exit (pX (bX (pN (region (mv rfl (co (Ev.add_i (.t rfl) (.c (v := I 1) rfl) (fun _ => by omega)) ?_))))))
          refine asn rfl (nP (nx (X := Int) (i + 1) ⟨?_, ?_, ?_⟩ ?_))
          · try dsimp only
            omega
          · try dsimp only
            intro h
            by_cases e : i = 0
            · subst e; simp_all [pfx]
            · exact hp0 (by omega)
          · try dsimp only
            intro h
            by_cases e : i = 1
            · subst e; simp_all [pfx]
            · exact absurd h (by omega)
          · try dsimp only
            omega
        · refine skip (pN (seq (draw' (by kernel_rfl) ?_)))
          refine tk 0 rfl (Ev.ldx m ty74 (.t rfl) (Lens.id _)) ?_
          refine tk 2 rfl (fA 3 (.t rfl)) ?_
          refine tk 3 rfl (Ev.ldx m.src ty50 (.t rfl) SMatch.l_src) ?_
          refine tk 4 rfl (Ev.ldx n ty74 (.t rfl) (Lens.id _)) ?_
          refine tk 6 rfl (fA 3 (.t rfl)) ?_
          refine tk 7 rfl (Ev.ldx n.src ty50 (.t rfl) SMatch.l_src) ?_
          refine tk 8 rfl (Ev.move (.t rfl)) ?_
          refine al1 1 rfl ((callv en179 (.cons (.t rfl) (.cons (.c (v := U8 2) rfl) .nil)) (fun w I => rasks_ok _ _ w (by decide)) ?_))
          refine hdn (al1 5 rfl ((callv en179 (.cons (.t rfl) (.cons (.c (v := U8 2) rfl) .nil)) (fun w I => rasks_ok _ _ w (by decide)) ?_)))
          refine hdn (al1 9 rfl ((callv en181 (.cons (.t rfl) (.cons (.t rfl) (.cons (.t rfl) (.cons (.t rfl) (.cons (.t rfl) .nil))))) (fun w I => rprefixes_ok _ _ _ _ _ w) ?_)))
          refine hdn (tk 10 rfl (Ev.not (.t rfl)) ?_)
          refine tk 11 rfl (Ev.move (.t rfl)) ?_
          refine tkg 12 rfl rfl rfl (Ev.ldx m ty74 (.t rfl) (Lens.id _)) ?_
          refine tkg 14 rfl rfl rfl (fA 21 (.t rfl)) ?_
          refine tkg 15 rfl rfl rfl (Ev.ldx m.dst ty50 (.g rfl id) SMatch.l_dst) ?_
          refine tkg 16 rfl rfl rfl (Ev.ldx n ty74 (.t rfl) (Lens.id _)) ?_
          refine tkg 18 rfl rfl rfl (fA 21 (.t rfl)) ?_
          refine tkg 19 rfl rfl rfl (Ev.ldx n.dst ty50 (.g rfl id) SMatch.l_dst) ?_
          refine tkg 20 rfl rfl rfl (Ev.move (.t rfl)) ?_
          refine al1 13 rfl ((callg rfl rfl en179 (.cons (.g rfl id) (.cons (.c (v := U8 4) rfl) .nil)) (fun hg w I => rasks_ok _ _ w (by decide)) ?_))
          refine hdn (al1 17 rfl ((callg rfl rfl en179 (.cons (.g rfl id) (.cons (.c (v := U8 4) rfl) .nil)) (fun hg w I => rasks_ok _ _ w (by decide)) ?_)))
          refine hdn (al1 21 rfl ((callg rfl rfl en181 (.cons (.g rfl id) (.cons (.g rfl id) (.cons (.g rfl id) (.cons (.g rfl id) (.cons (.g rfl id) .nil))))) (fun hg w I => rprefixes_ok _ _ _ _ _ w) ?_)))
          refine hdn (tkg 22 rfl rfl rfl (Ev.not (.g rfl id)) ?_)
          refine tk 23 rfl (Ev.pkO (.t rfl) rfl) ?_
          refine ovr (pN ?_)
          first | refine condD rfl (fun h4 => ?_) (fun h4 => ?_) | refine cond rfl (fun h4 => ?_) (fun h4 => ?_)
          · refine sg (co (Ev.assign (.c (v := .bool false) rfl)) ?_)
            refine nP (ret (bR (pR (pR (bR (pR (done rfl (.tmp rfl .nil) (retE ?_))))))))
            refine bX2 ?_
            have hi2 : i = 0 ∨ i = 1 := by omega
            rcases hi2 with rfl | rfl
            · have hq : (!k4R n || pfx m n false) = false := by
                have h4b := h4
                simp at h4b
                rw [Bool.or_eq_false_iff]
                refine ⟨by simp_all, ?_⟩
                unfold pfx
                rcases h4b with h | h <;> rw [h] <;> simp
              unfold coversR; rw [hq]; simp
            · have hq : (!k6R n || pfx m n true) = false := by
                have h4b := h4
                simp at h4b
                rw [Bool.or_eq_false_iff]
                refine ⟨by simp_all, ?_⟩
                unfold pfx
                rcases h4b with h | h <;> rw [h] <;> simp
              unfold coversR; rw [hq]; simp
          · refine skip (bN (pN (region (mv rfl (co (Ev.add_i (.t rfl) (.c (v := I 1) rfl) (fun _ => by omega)) ?_)))))
            refine asn rfl (nP (nx (X := Int) (i + 1) ⟨?_, ?_, ?_⟩ ?_))
            · try dsimp only
              omega
            · try dsimp only
              intro h
              by_cases e : i = 0
              · subst e; simp_all [pfx]
              · exact hp0 (by omega)
            · try dsimp only
              intro h
              by_cases e : i = 1
              · subst e; simp_all [pfx]
              · exact absurd h (by omega)
            · try dsimp only
              omega
      · try simp only [nb] at hge
        refine exit (pX (pX (bX (pN (seq (sg (co (Ev.ldx m ty74 (.t rfl) (Lens.id _)) ?_)))))))
        refine cons (callv en179 (.cons (.t rfl) (.cons (.c (v := U8 8) rfl) .nil)) (fun w I => rasks_ok _ _ w (by decide)) ?_)
        refine mv rfl (cg rfl rfl (Ev.ldx n ty74 (.t rfl) (Lens.id _)) ?_)
        refine cons (callg rfl rfl en179 (.cons (.g rfl id) (.cons (.c (v := U8 8) rfl) .nil)) (fun hg w I => rasks_ok _ _ w (by decide)) ?_)
        refine cg rfl rfl (Ev.not (.g rfl id)) ?_
        refine cg rfl rfl (Ev.move (.g rfl id)) ?_
        refine cg rfl rfl (fA 39 (.t rfl)) ?_
        refine cg rfl rfl (Ev.ldx m.proto ty5 (.g rfl id) SMatch.l_proto) ?_
        refine cg rfl rfl (fA 39 (.t rfl)) ?_
        refine cg rfl rfl (Ev.ldx n.proto ty5 (.g rfl id) SMatch.l_proto) ?_
        refine cg rfl rfl (Ev.neq_u8 (.g rfl id) (.g rfl id)) ?_
        refine cg rfl rfl (Ev.pkO (.g rfl id) rfl) ?_
        refine co (Ev.pkA (.t rfl) rfl) ?_
        refine nP ?_
        first | refine condD rfl (fun h5 => ?_) (fun h5 => ?_) | refine cond rfl (fun h5 => ?_) (fun h5 => ?_)
        · refine sg (co (Ev.assign (.c (v := .bool false) rfl)) ?_)
          refine nP (ret (pR (done rfl (.tmp rfl .nil) (retE ?_))))
          refine bX2 ?_
          unfold coversR
          rw [h5]; simp
        · refine skip (pN (seq (draw' (by kernel_rfl) ?_)))
          refine tk 0 rfl (Ev.ldx m ty74 (.t rfl) (Lens.id _)) ?_
          refine tk 2 rfl (fA 40 (.t rfl)) ?_
          refine tk 3 rfl (Ev.ldx m.srcPort ty72 (.t rfl) SMatch.l_srcPort) ?_
          refine tk 4 rfl (Ev.ldx n ty74 (.t rfl) (Lens.id _)) ?_
          refine tk 6 rfl (fA 40 (.t rfl)) ?_
          refine tk 7 rfl (Ev.ldx n.srcPort ty72 (.t rfl) SMatch.l_srcPort) ?_
          refine al1 1 rfl ((callv en179 (.cons (.t rfl) (.cons (.c (v := U8 16) rfl) .nil)) (fun w I => rasks_ok _ _ w (by decide)) ?_))
          refine hdn (al1 5 rfl ((callv en179 (.cons (.t rfl) (.cons (.c (v := U8 16) rfl) .nil)) (fun w I => rasks_ok _ _ w (by decide)) ?_)))
          refine hdn (al1 8 rfl ((callv en178 (.cons (.t rfl) (.cons (.t rfl) (.cons (.t rfl) (.cons (.t rfl) (.cons (.c (v := U16 65535) rfl) .nil))))) (fun w I => rspans_ok _ _ _ _ _ w) ?_)))
          refine hdn (tk 9 rfl (Ev.move (.t rfl)) ?_)
          refine tkg 10 rfl rfl rfl (Ev.ldx m ty74 (.t rfl) (Lens.id _)) ?_
          refine tkg 12 rfl rfl rfl (fA 42 (.t rfl)) ?_
          refine tkg 13 rfl rfl rfl (Ev.ldx m.dstPort ty72 (.g rfl id) SMatch.l_dstPort) ?_
          refine tkg 14 rfl rfl rfl (Ev.ldx n ty74 (.t rfl) (Lens.id _)) ?_
          refine tkg 16 rfl rfl rfl (fA 42 (.t rfl)) ?_
          refine tkg 17 rfl rfl rfl (Ev.ldx n.dstPort ty72 (.g rfl id) SMatch.l_dstPort) ?_
          refine al1 11 rfl ((callg rfl rfl en179 (.cons (.g rfl id) (.cons (.c (v := U8 32) rfl) .nil)) (fun hg w I => rasks_ok _ _ w (by decide)) ?_))
          refine hdn (al1 15 rfl ((callg rfl rfl en179 (.cons (.g rfl id) (.cons (.c (v := U8 32) rfl) .nil)) (fun hg w I => rasks_ok _ _ w (by decide)) ?_)))
          refine hdn (al1 18 rfl ((callg rfl rfl en178 (.cons (.g rfl id) (.cons (.g rfl id) (.cons (.g rfl id) (.cons (.g rfl id) (.cons (.c (v := U16 65535) rfl) .nil))))) (fun hg w I => rspans_ok _ _ _ _ _ w) ?_)))
          refine hdn (tk 19 rfl (Ev.pkA (.t rfl) rfl) ?_)
          refine tk 20 rfl (Ev.assign (.t rfl)) ?_
          refine ovr (pN (ret (done rfl (.tmp rfl .nil) (retE ?_))))
          refine bX2 ?_
          have h0c : (okM m && okM n) = true := by simpa using h0
          have h1c : spansR (asksB m 1) m.in_ (asksB n 1) n.in_ 255 = true := by simpa using h1
          unfold coversR
          rw [h0c, h1c, hp0 (by omega), hp1 (by omega), h5]; simp
structure Ok (m : SMatch) : Prop where
  in_ : asksB m 1 = false → m.in_ = eSpan.zero
  src : asksB m 2 = false → m.src = ePrefix.zero
  dst : asksB m 4 = false → m.dst = ePrefix.zero
  proto : asksB m 8 = false → m.proto = 0
  srcPort : asksB m 16 = false → m.srcPort = eSpan.zero
  dstPort : asksB m 32 = false → m.dstPort = eSpan.zero
  csrc : asksB m 2 = true → checkP m.src = 0
  cdst : asksB m 4 = true → checkP m.dst = 0
  same : asksB m 2 = true → asksB m 4 = true → m.src.addr.v6 = m.dst.addr.v6
theorem Ok.of {m : SMatch} (h : okM m = true) : Ok m := by
  unfold okM bad0 bad2 at h
  simp at h
  obtain ⟨⟨⟨h0, _⟩, h2⟩, _⟩ := h
  have r : ∀ {x : Bool} {p : Prop}, (x = true ∨ p) → x = false → p := fun h e => h.resolve_left (by rw [e]; simp)
  have q : ∀ {x : Bool} {p : Prop}, (x = false ∨ p) → x = true → p := fun h e => h.resolve_left (by rw [e]; simp)
  exact ⟨r h0.1.1.1.1.1.2, r h0.1.1.1.1.2, r h0.1.1.1.2, r h0.1.1.2, r h0.1.2, r h0.2, q h2.1.1, q h2.1.2, fun e1 e2 => by simpa [e1, e2] using h2.2⟩
theorem spanned_eq (m n : SMatch) (w : UInt8) (a b : SSpan) (top : UInt16) (h : asksB n w = false → b = eSpan.zero) : spannedB m n w a b top = spansR (asksB m w) a (asksB n w) b top := by
  unfold spannedB spansR everyB
  cases hn : asksB n w with
  | true => rfl
  | false =>
    rw [h hn]
    rfl
theorem kI_eq {n : SMatch} (h : Ok n) : kI n = (bif k4R n then 1 else 0) + (bif k6R n then 2 else 0) ∧ (k4R n || k6R n) = true := by
  have hs := h.same
  unfold kI k4R k6R kst
  cases h2 : asksB n 2 <;> cases h4 : asksB n 4 <;> cases h5 : n.src.addr.v6 <;> cases h6 : n.dst.addr.v6 <;> simp_all
theorem zeroA (v : Bool) : checkA ⟨v, Vector.replicate 16 0⟩ = 0 := (checkA_zero _).2 (fun i h0 h1 => by
  have hw := wd_le ⟨v, Vector.replicate 16 0⟩
  unfold bitU
  have e : (Vector.replicate 16 (0 : UInt8)).toList.getD (i / 8).toNat 0 = 0 := by
    rw [vec_getD _ _ (by omega)]
    simp
  rw [e]
  apply UInt8.toNat_inj.1
  rw [UInt8.toNat_and, toNat_shr8]
  simp)
theorem hasP_zero (a : SPrefix) (v : Bool) (hc : checkP a = 0) (h0 : a.bits = 0) : hasP a ⟨v, Vector.replicate 16 0⟩ = decide (v = a.addr.v6) := by
  rw [Bool.eq_iff_iff, hasP_iff, decide_eq_true_iff]
  exact ⟨fun h => h.2.2.1, fun h => ⟨hc, zeroA v, h, fun i h1 h2 => by omega⟩⟩
theorem prefixed_eq (m n : SMatch) (w : UInt8) (a b : SPrefix) (hn : Ok n) (ha : asksB m w = true → checkP a = 0) (hb : asksB n w = true → checkP b = 0) :
    prefixedB m n w a b = ((!k4R n || prefixesR (asksB m w) a (asksB n w) b false) && (!k6R n || prefixesR (asksB m w) a (asksB n w) b true)) := by
  obtain ⟨hk, hne⟩ := kI_eq hn
  unfold prefixedB prefixesR
  cases hm : asksB m w with
  | false => simp
  | true =>
    cases hw : asksB n w with
    | true =>
      have := hb hw
      unfold coversP
      rw [this]
      cases h4 : k4R n <;> cases h6 : k6R n <;> simp_all
    | false =>
      have hc := ha hm
      have hp := ((checkP_zero a).1 hc).1
      by_cases h0 : a.bits = 0
      · simp only [cond_false, cond_true, Bool.not_true, Bool.false_or, hasP_zero a _ hc h0, h0]
        rw [hk]
        cases h4 : k4R n <;> cases h6 : k6R n <;> cases h5 : a.addr.v6 <;> simp_all
      · have h1 : ¬ a.bits ≤ 0 := by omega
        simp only [cond_false, cond_true, Bool.not_true, Bool.false_or, h0, h1, decide_false, Bool.false_and]
        cases h4 : k4R n <;> cases h6 : k6R n <;> simp_all
theorem covers_eq (m n : SMatch) : coversM m n = coversR m n := by
  unfold coversM coversR
  cases hm : okM m with
  | false => rfl
  | true =>
    cases hn : okM n with
    | false => rfl
    | true =>
      have om := Ok.of hm
      have on := Ok.of hn
      rw [spanned_eq m n 1 _ _ _ on.in_, spanned_eq m n 16 _ _ _ on.srcPort, spanned_eq m n 32 _ _ _ on.dstPort, prefixed_eq m n 2 _ _ on om.csrc on.csrc, prefixed_eq m n 4 _ _ on om.cdst on.cdst]
      unfold pfx
      generalize prefixesR (asksB m 2) m.src (asksB n 2) n.src false = p1
      generalize prefixesR (asksB m 2) m.src (asksB n 2) n.src true = p2
      generalize prefixesR (asksB m 4) m.dst (asksB n 4) n.dst false = p3
      generalize prefixesR (asksB m 4) m.dst (asksB n 4) n.dst true = p4
      generalize spansR (asksB m 1) m.in_ (asksB n 1) n.in_ 255 = s1
      generalize spansR (asksB m 16) m.srcPort (asksB n 16) n.srcPort 65535 = s2
      generalize spansR (asksB m 32) m.dstPort (asksB n 32) n.dstPort 65535 = s3
      generalize (asksB m 8 && (!asksB n 8 || decide ¬m.proto = n.proto)) = q
      cases k4R n <;> cases k6R n <;> cases s1 <;> cases q <;> cases p1 <;> cases p2 <;> simp [Bool.and_assoc]
def qM (k : Nat) (m : SMatch) (n : Int) (h : SHeader) : Bool := match k with
  | 0 => withinB m.in_ n
  | 1 => decide (h.proto = m.proto)
  | 2 => hasP m.src h.src
  | 3 => hasP m.dst h.dst
  | 4 => withinB m.srcPort h.srcPort.toNat
  | _ => withinB m.dstPort h.dstPort.toNat
def fM (k : Nat) : Nat := ([168, 170, 171, 173, 174, 175] : List Nat).getD k 0
def ksA (c : Bool) (k : Nat) (l : List Nat) : List Nat := bif c then l ++ [k] else l
def ks (m : SMatch) : List Nat := ksA (asksB m 32) 5 (ksA (asksB m 16) 4 (ksA (asksB m 4) 3 (ksA (asksB m 2) 2 (ksA (asksB m 8) 1 (ksA (asksB m 1) 0 [])))))
def closL (p : Nat) (l : List Nat) : List OV := l.map fun k => clo (fM k) [.pointer (some ⟨p, 0, none⟩)]
def clos (m : SMatch) (p : Nat) : List OV := closL p (ks m)
def metB (m : SMatch) (n : Int) (h : SHeader) : Bool := (ks m).all fun k => qM k m n h
def meetsB (m : SMatch) (n : Int) (h : SHeader) : Bool := okM m && metB m n h
theorem ty249 : TyOK Tryz.prog 249 (ovE nilFn) := TyOK.mk' (by kernel_rfl) (by kernel_rfl)
theorem z249 : (Tryz.prog.info? 249).bind (·.zero) = some ((ovE nilFn).val (ovE nilFn).zero) := by kernel_rfl
theorem zb249 : (Tryz.prog.info? 249).map (fun i => (i.zero, i.bytes)) = some (some ((ovE nilFn).val (ovE nilFn).zero), 8) := by kernel_rfl
theorem zs249 : ((ovE nilFn).val (ovE nilFn).zero).cells.size = (ovE nilFn).size := by rw [Enc.cells_val, List.size_toArray, Enc.len]
theorem compiled_ok (m : SMatch) (w : World) : Calls Tryz.prog 148 #[eMatch.val m] w (RetN w (fun _ : OV × Nat => True) (fun x => x.1.v) (fun x => [OwnS x.1.v (ovE nilFn) (clos m x.2) 249, Var x.2 eMatch m 74])) := by
  refine en0 41 Tryz.func148 ?_
  refine sg (cons (box (E := eMatch) (.t rfl) (fun b1 => ?_)))
  refine co (Ev.assign (.c (v := (Go.Value.slice none 0 0)) rfl)) ?_
  refine nP (sg (co (Ev.assign (.c (v := (Go.Value.slice none 0 0)) rfl)) ?_))
  refine takeNil (ovE nilFn) 249 ?_
  refine nP (cut (X := OV × (List Nat)) (fun x : OV × (List Nat) => (x.2 = ksA (asksB m 1) 0 []) ∧ (x.2.length ≤ 1)) (fun x : OV × (List Nat) => [(1, true, .pointer (some ⟨b1, 0, none⟩)), (3, true, x.1.v)]) (fun x : OV × (List Nat) => [OwnS x.1.v (ovE nilFn) (closL b1 x.2) 249, Var b1 eMatch m 74]) ?_ (fun x hx => ?_))
  · refine sg (co (Ev.ldx m ty74 (.t rfl) (Lens.id _)) ?_)
    refine cons (callv en153 (.cons (.t rfl) (.cons (.c (v := U8 1) rfl) .nil)) (fun w I => asks_ok _ _ w) ?_)
    refine nP ?_
    first | refine condD rfl (fun h0 => ?_) (fun h0 => ?_) | refine cond rfl (fun h0 => ?_) (fun h0 => ?_)
    · refine region (mv rfl (co (Ev.makeFunc (f := 168) (.cons (.t rfl) .nil)) ?_))
      refine cons (buildSlice (E := (ovE nilFn)) Tryz.underlying192 ty249 z249 (.cons (.t rfl) .nil) rfl rfl (fun v2 => ?_))
      refine cons (app (E := (ovE nilFn)) Tryz.underlying192 ty249 zb249 zs249 (.t rfl) (.t rfl) (fun v3 => ?_) (hby := ⟨by first | ((show _ ≤ 9223372036854775807); simp; done) | ((show _ ≤ 9223372036854775807); simp [closL]; omega), by first | (simp; done) | (simp [closL]; omega)⟩))
      refine asn rfl (nP (mt (X := OV × (List Nat)) (_, [] ++ [0]) ⟨?_, ?_⟩ (hL := (by first | exact List.Sublist.refl _ | (simp only [closL, List.map_append, List.map_cons, List.map_nil]; repeat first | exact List.Sublist.refl _ | apply List.Sublist.cons_cons | apply List.Sublist.cons)))))
      · try dsimp only
        unfold ksA; simp_all [asksB]
      · try dsimp only
        first | omega | (simp; omega) | simp
    · refine skip (pN (mt (X := OV × (List Nat)) (nilSl, []) ⟨?_, ?_⟩ (hL := (by first | exact List.Sublist.refl _ | (simp only [closL, List.map_append, List.map_cons, List.map_nil]; repeat first | exact List.Sublist.refl _ | apply List.Sublist.cons_cons | apply List.Sublist.cons)))))
      · try dsimp only
        unfold ksA; simp_all [asksB]
      · try dsimp only
        first | omega | (simp; omega) | simp
  obtain ⟨o1, l1⟩ := x
  obtain ⟨hl1, hn1⟩ : (l1 = ksA (asksB m 1) 0 []) ∧ (l1.length ≤ 1) := hx
  show Sat _ _ [(1, true, .pointer (some ⟨b1, 0, none⟩)), (3, true, o1.v)] [OwnS o1.v (ovE nilFn) (closL b1 l1) 249, Var b1 eMatch m 74]
  refine cut (X := OV × (List Nat)) (fun x : OV × (List Nat) => (x.2 = ksA (asksB m 8) 1 l1) ∧ (x.2.length ≤ 2)) (fun x : OV × (List Nat) => [(1, true, .pointer (some ⟨b1, 0, none⟩)), (3, true, x.1.v)]) (fun x : OV × (List Nat) => [OwnS x.1.v (ovE nilFn) (closL b1 x.2) 249, Var b1 eMatch m 74]) ?_ (fun x hx => ?_)
  · refine sg (co (Ev.ldx m ty74 (.t rfl) (Lens.id _)) ?_)
    refine cons (callv en153 (.cons (.t rfl) (.cons (.c (v := U8 8) rfl) .nil)) (fun w I => asks_ok _ _ w) ?_)
    refine nP ?_
    first | refine condD rfl (fun h1 => ?_) (fun h1 => ?_) | refine cond rfl (fun h1 => ?_) (fun h1 => ?_)
    · refine region (mv rfl (co (Ev.makeFunc (f := 170) (.cons (.t rfl) .nil)) ?_))
      refine cons (buildSlice (E := (ovE nilFn)) Tryz.underlying192 ty249 z249 (.cons (.t rfl) .nil) rfl rfl (fun v4 => ?_))
      refine cons (app (E := (ovE nilFn)) Tryz.underlying192 ty249 zb249 zs249 (.t rfl) (.t rfl) (fun v5 => ?_) (hby := ⟨by first | ((show _ ≤ 9223372036854775807); simp; done) | ((show _ ≤ 9223372036854775807); simp [closL]; omega), by first | (simp; done) | (simp [closL]; omega)⟩))
      refine asn rfl (nP (mt (X := OV × (List Nat)) (_, l1 ++ [1]) ⟨?_, ?_⟩ (hL := (by first | exact List.Sublist.refl _ | (simp only [closL, List.map_append, List.map_cons, List.map_nil]; repeat first | exact List.Sublist.refl _ | apply List.Sublist.cons_cons | apply List.Sublist.cons)))))
      · try dsimp only
        unfold ksA; simp_all [asksB]
      · try dsimp only
        first | omega | (simp; omega) | simp
    · refine skip (pN (mt (X := OV × (List Nat)) (o1, l1) ⟨?_, ?_⟩ (hL := (by first | exact List.Sublist.refl _ | (simp only [closL, List.map_append, List.map_cons, List.map_nil]; repeat first | exact List.Sublist.refl _ | apply List.Sublist.cons_cons | apply List.Sublist.cons)))))
      · try dsimp only
        unfold ksA; simp_all [asksB]
      · try dsimp only
        first | omega | (simp; omega) | simp
  obtain ⟨o2, l2⟩ := x
  obtain ⟨hl2, hn2⟩ : (l2 = ksA (asksB m 8) 1 l1) ∧ (l2.length ≤ 2) := hx
  show Sat _ _ [(1, true, .pointer (some ⟨b1, 0, none⟩)), (3, true, o2.v)] [OwnS o2.v (ovE nilFn) (closL b1 l2) 249, Var b1 eMatch m 74]
  refine cut (X := OV × (List Nat)) (fun x : OV × (List Nat) => (x.2 = ksA (asksB m 2) 2 l2) ∧ (x.2.length ≤ 3)) (fun x : OV × (List Nat) => [(1, true, .pointer (some ⟨b1, 0, none⟩)), (3, true, x.1.v)]) (fun x : OV × (List Nat) => [OwnS x.1.v (ovE nilFn) (closL b1 x.2) 249, Var b1 eMatch m 74]) ?_ (fun x hx => ?_)
  · refine sg (co (Ev.ldx m ty74 (.t rfl) (Lens.id _)) ?_)
    refine cons (callv en153 (.cons (.t rfl) (.cons (.c (v := U8 2) rfl) .nil)) (fun w I => asks_ok _ _ w) ?_)
    refine nP ?_
    first | refine condD rfl (fun h2 => ?_) (fun h2 => ?_) | refine cond rfl (fun h2 => ?_) (fun h2 => ?_)
    · refine region (mv rfl (co (Ev.makeFunc (f := 171) (.cons (.t rfl) .nil)) ?_))
      refine cons (buildSlice (E := (ovE nilFn)) Tryz.underlying192 ty249 z249 (.cons (.t rfl) .nil) rfl rfl (fun v6 => ?_))
      refine cons (app (E := (ovE nilFn)) Tryz.underlying192 ty249 zb249 zs249 (.t rfl) (.t rfl) (fun v7 => ?_) (hby := ⟨by first | ((show _ ≤ 9223372036854775807); simp; done) | ((show _ ≤ 9223372036854775807); simp [closL]; omega), by first | (simp; done) | (simp [closL]; omega)⟩))
      refine asn rfl (nP (mt (X := OV × (List Nat)) (_, l2 ++ [2]) ⟨?_, ?_⟩ (hL := (by first | exact List.Sublist.refl _ | (simp only [closL, List.map_append, List.map_cons, List.map_nil]; repeat first | exact List.Sublist.refl _ | apply List.Sublist.cons_cons | apply List.Sublist.cons)))))
      · try dsimp only
        unfold ksA; simp_all [asksB]
      · try dsimp only
        first | omega | (simp; omega) | simp
    · refine skip (pN (mt (X := OV × (List Nat)) (o2, l2) ⟨?_, ?_⟩ (hL := (by first | exact List.Sublist.refl _ | (simp only [closL, List.map_append, List.map_cons, List.map_nil]; repeat first | exact List.Sublist.refl _ | apply List.Sublist.cons_cons | apply List.Sublist.cons)))))
      · try dsimp only
        unfold ksA; simp_all [asksB]
      · try dsimp only
        first | omega | (simp; omega) | simp
  obtain ⟨o3, l3⟩ := x
  obtain ⟨hl3, hn3⟩ : (l3 = ksA (asksB m 2) 2 l2) ∧ (l3.length ≤ 3) := hx
  show Sat _ _ [(1, true, .pointer (some ⟨b1, 0, none⟩)), (3, true, o3.v)] [OwnS o3.v (ovE nilFn) (closL b1 l3) 249, Var b1 eMatch m 74]
  refine cut (X := OV × (List Nat)) (fun x : OV × (List Nat) => (x.2 = ksA (asksB m 4) 3 l3) ∧ (x.2.length ≤ 4)) (fun x : OV × (List Nat) => [(1, true, .pointer (some ⟨b1, 0, none⟩)), (3, true, x.1.v)]) (fun x : OV × (List Nat) => [OwnS x.1.v (ovE nilFn) (closL b1 x.2) 249, Var b1 eMatch m 74]) ?_ (fun x hx => ?_)
  · refine sg (co (Ev.ldx m ty74 (.t rfl) (Lens.id _)) ?_)
    refine cons (callv en153 (.cons (.t rfl) (.cons (.c (v := U8 4) rfl) .nil)) (fun w I => asks_ok _ _ w) ?_)
    refine nP ?_
    first | refine condD rfl (fun h3 => ?_) (fun h3 => ?_) | refine cond rfl (fun h3 => ?_) (fun h3 => ?_)
    · refine region (mv rfl (co (Ev.makeFunc (f := 173) (.cons (.t rfl) .nil)) ?_))
      refine cons (buildSlice (E := (ovE nilFn)) Tryz.underlying192 ty249 z249 (.cons (.t rfl) .nil) rfl rfl (fun v8 => ?_))
      refine cons (app (E := (ovE nilFn)) Tryz.underlying192 ty249 zb249 zs249 (.t rfl) (.t rfl) (fun v9 => ?_) (hby := ⟨by first | ((show _ ≤ 9223372036854775807); simp; done) | ((show _ ≤ 9223372036854775807); simp [closL]; omega), by first | (simp; done) | (simp [closL]; omega)⟩))
      refine asn rfl (nP (mt (X := OV × (List Nat)) (_, l3 ++ [3]) ⟨?_, ?_⟩ (hL := (by first | exact List.Sublist.refl _ | (simp only [closL, List.map_append, List.map_cons, List.map_nil]; repeat first | exact List.Sublist.refl _ | apply List.Sublist.cons_cons | apply List.Sublist.cons)))))
      · try dsimp only
        unfold ksA; simp_all [asksB]
      · try dsimp only
        first | omega | (simp; omega) | simp
    · refine skip (pN (mt (X := OV × (List Nat)) (o3, l3) ⟨?_, ?_⟩ (hL := (by first | exact List.Sublist.refl _ | (simp only [closL, List.map_append, List.map_cons, List.map_nil]; repeat first | exact List.Sublist.refl _ | apply List.Sublist.cons_cons | apply List.Sublist.cons)))))
      · try dsimp only
        unfold ksA; simp_all [asksB]
      · try dsimp only
        first | omega | (simp; omega) | simp
  obtain ⟨o4, l4⟩ := x
  obtain ⟨hl4, hn4⟩ : (l4 = ksA (asksB m 4) 3 l3) ∧ (l4.length ≤ 4) := hx
  show Sat _ _ [(1, true, .pointer (some ⟨b1, 0, none⟩)), (3, true, o4.v)] [OwnS o4.v (ovE nilFn) (closL b1 l4) 249, Var b1 eMatch m 74]
  refine cut (X := OV × (List Nat)) (fun x : OV × (List Nat) => (x.2 = ksA (asksB m 16) 4 l4) ∧ (x.2.length ≤ 5)) (fun x : OV × (List Nat) => [(1, true, .pointer (some ⟨b1, 0, none⟩)), (3, true, x.1.v)]) (fun x : OV × (List Nat) => [OwnS x.1.v (ovE nilFn) (closL b1 x.2) 249, Var b1 eMatch m 74]) ?_ (fun x hx => ?_)
  · refine sg (co (Ev.ldx m ty74 (.t rfl) (Lens.id _)) ?_)
    refine cons (callv en153 (.cons (.t rfl) (.cons (.c (v := U8 16) rfl) .nil)) (fun w I => asks_ok _ _ w) ?_)
    refine nP ?_
    first | refine condD rfl (fun h4 => ?_) (fun h4 => ?_) | refine cond rfl (fun h4 => ?_) (fun h4 => ?_)
    · refine region (mv rfl (co (Ev.makeFunc (f := 174) (.cons (.t rfl) .nil)) ?_))
      refine cons (buildSlice (E := (ovE nilFn)) Tryz.underlying192 ty249 z249 (.cons (.t rfl) .nil) rfl rfl (fun v10 => ?_))
      refine cons (app (E := (ovE nilFn)) Tryz.underlying192 ty249 zb249 zs249 (.t rfl) (.t rfl) (fun v11 => ?_) (hby := ⟨by first | ((show _ ≤ 9223372036854775807); simp; done) | ((show _ ≤ 9223372036854775807); simp [closL]; omega), by first | (simp; done) | (simp [closL]; omega)⟩))
      refine asn rfl (nP (mt (X := OV × (List Nat)) (_, l4 ++ [4]) ⟨?_, ?_⟩ (hL := (by first | exact List.Sublist.refl _ | (simp only [closL, List.map_append, List.map_cons, List.map_nil]; repeat first | exact List.Sublist.refl _ | apply List.Sublist.cons_cons | apply List.Sublist.cons)))))
      · try dsimp only
        unfold ksA; simp_all [asksB]
      · try dsimp only
        first | omega | (simp; omega) | simp
    · refine skip (pN (mt (X := OV × (List Nat)) (o4, l4) ⟨?_, ?_⟩ (hL := (by first | exact List.Sublist.refl _ | (simp only [closL, List.map_append, List.map_cons, List.map_nil]; repeat first | exact List.Sublist.refl _ | apply List.Sublist.cons_cons | apply List.Sublist.cons)))))
      · try dsimp only
        unfold ksA; simp_all [asksB]
      · try dsimp only
        first | omega | (simp; omega) | simp
  obtain ⟨o5, l5⟩ := x
  obtain ⟨hl5, hn5⟩ : (l5 = ksA (asksB m 16) 4 l4) ∧ (l5.length ≤ 5) := hx
  show Sat _ _ [(1, true, .pointer (some ⟨b1, 0, none⟩)), (3, true, o5.v)] [OwnS o5.v (ovE nilFn) (closL b1 l5) 249, Var b1 eMatch m 74]
  refine cut (X := OV × (List Nat)) (fun x : OV × (List Nat) => (x.2 = ksA (asksB m 32) 5 l5) ∧ (x.2.length ≤ 6)) (fun x : OV × (List Nat) => [(1, true, .pointer (some ⟨b1, 0, none⟩)), (3, true, x.1.v)]) (fun x : OV × (List Nat) => [OwnS x.1.v (ovE nilFn) (closL b1 x.2) 249, Var b1 eMatch m 74]) ?_ (fun x hx => ?_)
  · refine sg (co (Ev.ldx m ty74 (.t rfl) (Lens.id _)) ?_)
    refine cons (callv en153 (.cons (.t rfl) (.cons (.c (v := U8 32) rfl) .nil)) (fun w I => asks_ok _ _ w) ?_)
    refine nP ?_
    first | refine condD rfl (fun h5 => ?_) (fun h5 => ?_) | refine cond rfl (fun h5 => ?_) (fun h5 => ?_)
    · refine region (mv rfl (co (Ev.makeFunc (f := 175) (.cons (.t rfl) .nil)) ?_))
      refine cons (buildSlice (E := (ovE nilFn)) Tryz.underlying192 ty249 z249 (.cons (.t rfl) .nil) rfl rfl (fun v12 => ?_))
      refine cons (app (E := (ovE nilFn)) Tryz.underlying192 ty249 zb249 zs249 (.t rfl) (.t rfl) (fun v13 => ?_) (hby := ⟨by first | ((show _ ≤ 9223372036854775807); simp; done) | ((show _ ≤ 9223372036854775807); simp [closL]; omega), by first | (simp; done) | (simp [closL]; omega)⟩))
      refine asn rfl (nP (mt (X := OV × (List Nat)) (_, l5 ++ [5]) ⟨?_, ?_⟩ (hL := (by first | exact List.Sublist.refl _ | (simp only [closL, List.map_append, List.map_cons, List.map_nil]; repeat first | exact List.Sublist.refl _ | apply List.Sublist.cons_cons | apply List.Sublist.cons)))))
      · try dsimp only
        unfold ksA; simp_all [asksB]
      · try dsimp only
        first | omega | (simp; omega) | simp
    · refine skip (pN (mt (X := OV × (List Nat)) (o5, l5) ⟨?_, ?_⟩ (hL := (by first | exact List.Sublist.refl _ | (simp only [closL, List.map_append, List.map_cons, List.map_nil]; repeat first | exact List.Sublist.refl _ | apply List.Sublist.cons_cons | apply List.Sublist.cons)))))
      · try dsimp only
        unfold ksA; simp_all [asksB]
      · try dsimp only
        first | omega | (simp; omega) | simp
  obtain ⟨o6, l6⟩ := x
  obtain ⟨hl6, hn6⟩ : (l6 = ksA (asksB m 32) 5 l5) ∧ (l6.length ≤ 6) := hx
  show Sat _ _ [(1, true, .pointer (some ⟨b1, 0, none⟩)), (3, true, o6.v)] [OwnS o6.v (ovE nilFn) (closL b1 l6) 249, Var b1 eMatch m 74]
  refine sg (mv rfl (asn rfl (nP (ret (done rfl (.tmp rfl .nil) (fun w I => ?_))))))
  exact retN (o6, b1) trivial rfl (by unfold clos ks; rw [← hl1, ← hl2, ← hl3, ← hl4, ← hl5, ← hl6]; exact List.Sublist.refl _) w I
theorem getD_mem {α : Type} (l : List α) (i : Nat) (d : α) (h : i < l.length) : l.getD i d ∈ l := by simp [List.getD, h]
structure SRuleRules where
  matches_ : OV
  asked : OV
def SRuleRules.to : (OV × OV) → SRuleRules := fun x => ⟨x.1, x.2⟩
def SRuleRules.of : SRuleRules → (OV × OV) := fun x => (x.matches_, x.asked)
def eRuleRules : Enc SRuleRules := isoE (prodE (ovE nilSl) (ovE nilSl)) SRuleRules.to SRuleRules.of
def SRuleRules.l_matches_ : Lens eRuleRules (ovE nilSl) 0 := lIso _ SRuleRules.to SRuleRules.of (fun _ => rfl) (lFst (ovE nilSl) (ovE nilSl))
@[simp] theorem SRuleRules.get_matches_ (x : SRuleRules) : SRuleRules.l_matches_.get x = x.matches_ := rfl
@[simp] theorem SRuleRules.set_matches_ (x : SRuleRules) (y : OV) : SRuleRules.l_matches_.set x y = { x with matches_ := y } := rfl
def SRuleRules.l_asked : Lens eRuleRules (ovE nilSl) 1 := lIso _ SRuleRules.to SRuleRules.of (fun _ => rfl) (Lens.comp (lSnd (ovE nilSl) (ovE nilSl)) (Lens.id (ovE nilSl)))
@[simp] theorem SRuleRules.get_asked (x : SRuleRules) : SRuleRules.l_asked.get x = x.asked := rfl
@[simp] theorem SRuleRules.set_asked (x : SRuleRules) (y : OV) : SRuleRules.l_asked.set x y = { x with asked := y } := rfl
def RulesAt (w : World) (b : Nat) (l : List SMatch) : Prop := ∃ (mo ao : OV) (os : List OV) (bs : Nat → Nat), PtsTo eRuleRules w b 0 ⟨mo, ao⟩ ∧ IsSl eMatch w mo.v l ∧ IsSl (ovE nilSl) w ao.v os ∧ os.length = l.length ∧ ∀ k, k < l.length → IsSl (ovE nilFn) w (os.getD k nilSl).v (clos (l.getD k eMatch.zero) (bs k)) ∧ PtsTo eMatch w (bs k) 0 (l.getD k eMatch.zero)
theorem RulesAt.keep {w w' : World} {b : Nat} {l : List SMatch} (h : RulesAt w b l) (k : Keeps Nope w w') : RulesAt w' b l := by
  obtain ⟨mo, ao, os, bs, h1, h2, h3, h4, h5⟩ := h
  exact ⟨mo, ao, os, bs, h1.keep k, h2.keep0 k, h3.keep0 k, h4, fun j hj => ⟨(h5 j hj).1.keep0 k, (h5 j hj).2.keep k⟩⟩
def compE (l : List SMatch) : Int := bif decide (256 < l.length) then 4 else bif l.all okM then 0 else 190
def ptrO (l : List SMatch) (b : Nat) : Option Addr := bif decide (compE l = 0) then some ⟨b, 0, none⟩ else none
def ptrC (l : List SMatch) (b : Nat) : Value := .pointer (ptrO l b)
theorem ptrO_ok {l : List SMatch} (b : Nat) (h : compE l = 0) : ptrO l b = some ⟨b, 0, none⟩ := by
  unfold ptrO
  simp [h]
def CompJ (l : List SMatch) (x : Nat × List Res) : Prop := compE l = 0 → ∀ w, (∀ r ∈ x.2, r.A w) → RulesAt w x.1 l
def compV (l : List SMatch) (x : Nat × List Res) : Value := .tuple #[ptrC l x.1, I (compE l)]
theorem all_snoc (l : List SMatch) (i : Int) (h0 : 0 ≤ i) (h1 : i < l.length) (ha : (l.take i.toNat).all okM = true) (hi : okM (l.getD i.toNat eMatch.zero) = true) : (l.take (i + 1).toNat).all okM = true := by
  rw [take_snoc l i h0 h1 eMatch.zero, List.all_append, ha]
  simpa using hi
theorem not_all (l : List SMatch) (i : Nat) (h1 : i < l.length) (hi : okM (l.getD i eMatch.zero) = false) : l.all okM = false := by
  rw [Bool.eq_false_iff]
  intro h
  have := List.all_eq_true.1 h _ (getD_mem l i eMatch.zero h1)
  rw [hi] at this
  cases this
theorem z191 : (Tryz.prog.info? 191).bind (·.zero) = some (eRuleRules.val eRuleRules.zero) := by kernel_rfl
theorem ty143 : TyOK Tryz.prog 143 (ovE nilSl) := TyOK.mk' (by kernel_rfl) (by kernel_rfl)
theorem zb74 : (Tryz.prog.info? 74).map (fun i => (i.zero, i.bytes)) = some (some (eMatch.val eMatch.zero), 88) := by kernel_rfl
theorem zs74 : (eMatch.val eMatch.zero).cells.size = eMatch.size := by rw [Enc.cells_val, List.size_toArray, Enc.len]
theorem ty189 : TyOK Tryz.prog 189 (ovE nilSl) := TyOK.mk' (by kernel_rfl) (by kernel_rfl)
theorem en148 : Gx.Enters Tryz.prog 148 := Gx.Enters.mk' (by kernel_rfl)
theorem ty192 : TyOK Tryz.prog 192 (ovE nilSl) := TyOK.mk' (by kernel_rfl) (by kernel_rfl)
theorem z192 : (Tryz.prog.info? 192).bind (·.zero) = some ((ovE nilSl).val (ovE nilSl).zero) := by kernel_rfl
theorem zb192 : (Tryz.prog.info? 192).map (fun i => (i.zero, i.bytes)) = some (some ((ovE nilSl).val (ovE nilSl).zero), 24) := by kernel_rfl
theorem zs192 : ((ovE nilSl).val (ovE nilSl).zero).cells.size = (ovE nilSl).size := by rw [Enc.cells_val, List.size_toArray, Enc.len]
theorem compile_ok (u : Value) (l : List SMatch) (w : World) (hl : IsSl eMatch w u l) : Calls Tryz.prog 94 #[u] w (RetN w (CompJ l) (compV l) (fun x => x.2)) := by
  have hle := hl.le
  refine en0 47 Tryz.func94 ?_
  refine sg (co (Ev.assign (.c (v := (Go.Value.pointer none)) rfl)) ?_)
  refine co (Ev.assign (.c (v := I 0) rfl)) ?_
  refine nP (seq (sg (mv rfl (co (Ev.len Tryz.underlying143 (.t rfl) (by first | exact isSl_own (by repeat first | exact mH | apply mT | apply mA) | exact fun w I => IsSl.keep0 (by assumption) I.keeps)) ?_))))
  refine co (Ev.gtr_i (.t rfl) (.c (v := I 256) rfl)) ?_
  refine nP ?_
  first | refine condD rfl (fun hbig => ?_) (fun hsmall => ?_) | refine cond rfl (fun hbig => ?_) (fun hsmall => ?_)
  · try simp only [nb] at hbig
    refine sg (co (Ev.assign (.c (v := (Go.Value.pointer none)) rfl)) ?_)
    refine co (Ev.assign (.c (v := I 4) rfl)) ?_
    refine nP (ret (pR (done rfl (.tmp rfl (.tmp rfl .nil)) (fun w I => ?_))))
    have hc : compE l = 4 := by unfold compE; rw [decide_eq_true (by omega)]; rfl
    exact retN (0, []) (fun h => by rw [hc] at h; cases h) (by unfold compV ptrC ptrO; rw [hc]; rfl) (List.nil_sublist _) w I
  · try simp only [nb] at hsmall
    refine skip (pN (sg (co (Ev.buildS (fs := _) (places := [(0, 1), (1, 1)]) z191 rfl Tryz.underlying191 (by kernel_rfl) .nil Fills.nil) ?_)))
    refine cons (box (E := eRuleRules) (.t rfl) (fun b1 => ?_))
    refine asn rfl (nP (seq (sg (mv rfl (co (Ev.len Tryz.underlying143 (.t rfl) (by first | exact isSl_own (by repeat first | exact mH | apply mT | apply mA) | exact fun w I => IsSl.keep0 (by assumption) I.keeps)) ?_)))))
    refine co (Ev.move (.c (v := I 0) rfl)) ?_
    refine nP (block (takeNil (ovE nilSl) 192 ?_))
    refine takeNil eMatch 74 ?_
    refine lp (X := Int × OV × OV × (List OV) × (List Res) × (Nat → Nat)) (fun x : Int × OV × OV × (List OV) × (List Res) × (Nat → Nat) => (0 ≤ x.1 ∧ x.1 ≤ l.length) ∧ ((x.2.2.2.1.length : Int) = x.1) ∧ ((l.take x.1.toNat).all okM = true) ∧ (∀ w1 : World, (∀ r ∈ x.2.2.2.2.1, r.A w1) → ∀ q : Nat, (q : Int) < x.1 → IsSl (ovE nilFn) w1 (x.2.2.2.1.getD q nilSl).v (clos (l.getD q eMatch.zero) (x.2.2.2.2.2 q)) ∧ PtsTo eMatch w1 (x.2.2.2.2.2 q) 0 (l.getD q eMatch.zero))) (fun x : Int × OV × OV × (List OV) × (List Res) × (Nat → Nat) => [(4, true, .pointer (some ⟨b1, 0, none⟩)), (13, true, u), (14, true, I l.length), (15, true, I x.1)]) (fun x : Int × OV × OV × (List OV) × (List Res) × (Nat → Nat) => (x.2.2.2.2.1 ++ [OwnS x.2.1.v eMatch (l.take x.1.toNat) 74, OwnS x.2.2.1.v (ovE nilSl) x.2.2.2.1 192, Var b1 eRuleRules ⟨x.2.1, x.2.2.1⟩ 191])) (fun x : Int × OV × OV × (List OV) × (List Res) × (Nat → Nat) => (l.length - x.1).toNat) (0, nilSl, nilSl, [], [], fun _ => 0) ⟨?_, ?_, ?_, ?_⟩ (fun x hx => ?_)
    · omega
    · rfl
    · rfl
    · intro w1 _ q hq; exact absurd hq (by show ¬ (q : Int) < 0; omega)
    obtain ⟨i, mo, ao, os, Rs, bs⟩ := x
    obtain ⟨hi, hos, hok, hR⟩ : (0 ≤ i ∧ i ≤ l.length) ∧ ((os.length : Int) = i) ∧ ((l.take i.toNat).all okM = true) ∧ (∀ w1 : World, (∀ r ∈ Rs, r.A w1) → ∀ q : Nat, (q : Int) < i → IsSl (ovE nilFn) w1 (os.getD q nilSl).v (clos (l.getD q eMatch.zero) (bs q)) ∧ PtsTo eMatch w1 (bs q) 0 (l.getD q eMatch.zero)) := hx
    show Sat _ _ [(4, true, .pointer (some ⟨b1, 0, none⟩)), (13, true, u), (14, true, I l.length), (15, true, I i)] (Rs ++ [OwnS mo.v eMatch (l.take i.toNat) 74, OwnS ao.v (ovE nilSl) os 192, Var b1 eRuleRules ⟨mo, ao⟩ 191])
    refine sg (co (Ev.lss_i (.t rfl) (.t rfl)) ?_)
    refine nP (seq ?_)
    first | refine condD rfl (fun hlt => ?_) (fun hge => ?_) | refine cond rfl (fun hlt => ?_) (fun hge => ?_)
    · try simp only [nb] at hlt
      refine skip (pN (seq (block (sg (co (Ev.indexAddr Tryz.underlying143 ty74 (.t rfl) (.t rfl) (by first | exact isSl_own (by repeat first | exact mH | apply mT | apply mA) | exact fun w I => IsSl.keep0 (by assumption) I.keeps) (fun _ => by omega)) ?_)))))
      refine co (Ev.loadS0 ty74 (.t rfl) (by first | exact isSl_own (by repeat first | exact mH | apply mT | apply mA) | exact fun w I => IsSl.keep0 (by assumption) I.keeps) (fun _ => by omega)) ?_
      refine cons (alloc z74 (fun b2 => ?_))
      refine cons (stv ty74 (Lens.id _) (.t rfl) (.t rfl) ?_)
      refine nP (seq (sg (co (Ev.ldv ty74 (.t rfl) (Lens.id _)) ?_)))
      refine cons (callv en117 (.cons (.t rfl) .nil) (fun w I => check_ok _ w) ?_)
      refine asn rfl (nP (sg (mv rfl (co (Ev.neq_i (.t rfl) (.c (v := I 0) rfl)) ?_))))
      refine nP ?_
      first | refine condD rfl (fun h2 => ?_) (fun h2 => ?_) | refine cond rfl (fun h2 => ?_) (fun h2 => ?_)
      · have hbad : okM (l.getD i.toNat eMatch.zero) = false := by
          have h3 : decide (ckM (l.getD i.toNat eMatch.zero) = 0) = false := by simpa using h2
          rwa [ckM_zero] at h3
        refine sg (mv rfl (co (Ev.assign (.c (v := (Go.Value.pointer none)) rfl)) ?_))
        refine asn rfl (nP (ret (pR (bR (pR (pR (bR (pR (done rfl (.tmp rfl (.tmp rfl .nil)) (fun w I => ?_))))))))))
        have hc : compE l = 190 := by unfold compE; rw [decide_eq_false (by omega), not_all l i.toNat (by omega) hbad]; rfl
        exact retN (0, []) (fun h => by rw [hc] at h; cases h) (by unfold compV ptrC ptrO; rw [hc]; show tupV [.pointer none, Go.Gx.I (ckM (l.getD i.toNat eMatch.zero))] = _; unfold ckM; rw [hbad]; rfl) (List.nil_sublist _) w I
      · have hokm : okM (l.getD i.toNat eMatch.zero) = true := by
          have h3 : decide (ckM (l.getD i.toNat eMatch.zero) = 0) = true := by simpa using h2
          rwa [ckM_zero] at h3
        refine skip (pN (seq (draw [Var b2 eMatch (l.getD i.toNat eMatch.zero) 74] (by kernel_rfl) ?_)))
        refine tk 0 rfl (Ev.move (.t rfl)) ?_
        refine tk 1 rfl (Ev.move (.t rfl)) ?_
        refine tk 2 rfl (Ev.nilCheck (.t rfl)) ?_
        refine tk 3 rfl (fA 0 (.t rfl)) ?_
        refine tk 5 rfl (Ev.ldv ty74 (.t rfl) (Lens.id _)) ?_
        refine all [4, 6] (by kernel_rfl) (by decide) (.cons rfl ?_ (.cons rfl ?_ .nil))
        · refine (opv (Ev.ldv ty143 (.t rfl) SRuleRules.l_matches_) ?_)
          refine hdn (al1 6 rfl ((buildSlice (E := eMatch) Tryz.underlying143 ty74 z74 (.cons (.t rfl) .nil) rfl rfl (fun v3 => ?_))))
          refine hdn (al1 7 rfl ((app (E := eMatch) Tryz.underlying143 ty74 zb74 zs74 (.t rfl) (.t rfl) (fun v4 => ?_) (hby := ⟨by (show _ ≤ 9223372036854775807); first | omega | (simp; done) | (simp; omega), by first | omega | (simp; done) | (simp; omega)⟩))))
          refine hdn (tk 8 rfl (Ev.nilCheck (.t rfl)) ?_)
          refine tk 9 rfl (fA 0 (.t rfl)) ?_
          refine al1 10 rfl ((stv ty143 SRuleRules.l_matches_ (.t rfl) (.t rfl) ?_))
          refine hdn (ovr (pN (draw [Var b2 eMatch (l.getD i.toNat eMatch.zero) 74] (by kernel_rfl) ?_)))
          refine tk 0 rfl (Ev.move (.t rfl)) ?_
          refine tk 1 rfl (Ev.move (.t rfl)) ?_
          refine tk 2 rfl (Ev.nilCheck (.t rfl)) ?_
          refine tk 3 rfl (fA 1 (.t rfl)) ?_
          refine tk 5 rfl (Ev.ldv ty74 (.t rfl) (Lens.id _)) ?_
          refine all [4, 6] (by kernel_rfl) (by decide) (.cons rfl ?_ (.cons rfl ?_ .nil))
          · refine (opv (Ev.ldv ty189 (.t rfl) SRuleRules.l_asked) ?_)
            refine hdn (al1 6 rfl ((calln (X := OV × Nat) (fun _ => True) (fun x => x.1.v) (fun x => [OwnS x.1.v (ovE nilFn) (clos (l.getD i.toNat eMatch.zero) x.2) 249, Var x.2 eMatch (l.getD i.toNat eMatch.zero) 74]) en148 (.cons (.t rfl) .nil) (fun w I => compiled_ok _ w) (fun x1 _ => ?_))))
            refine hdn (al1 7 rfl ((buildSlice (E := (ovE nilSl)) Tryz.underlying189 ty192 z192 (.cons (.t rfl) .nil) rfl rfl (fun v5 => ?_))))
            refine hdn (al1 8 rfl ((app (E := (ovE nilSl)) Tryz.underlying189 ty192 zb192 zs192 (.t rfl) (.t rfl) (fun v6 => ?_) (hby := ⟨by (show _ ≤ 9223372036854775807); first | omega | (simp; done) | (simp; omega), by first | omega | (simp; done) | (simp; omega)⟩))))
            refine hdn (tk 9 rfl (Ev.nilCheck (.t rfl)) ?_)
            refine tk 10 rfl (fA 1 (.t rfl)) ?_
            refine al1 11 rfl ((stv ty189 SRuleRules.l_asked (.t rfl) (.t rfl) ?_))
            refine hdn (ovr (bN (pN (region (co (Ev.add_i (.t rfl) (.c (v := I 1) rfl) (fun _ => by omega)) ?_)))))
            refine mv rfl (nP (nx (X := Int × OV × OV × (List OV) × (List Res) × (Nat → Nat)) (i + 1, _, _, os ++ [x1.1], OwnS x1.1.v (ovE nilFn) (clos (l.getD i.toNat eMatch.zero) x1.2) 249 :: Var x1.2 eMatch (l.getD i.toNat eMatch.zero) 74 :: Rs, fun q => if q = i.toNat then x1.2 else bs q) ⟨?_, ?_, ?_, ?_⟩ ?_ (hL := (by dsimp only; rw [take_snoc l i hi.1 (by omega) eMatch.zero]; repeat first | exact List.Sublist.refl _ | apply List.Sublist.cons_cons | apply List.Sublist.cons))))
            · try dsimp only
              omega
            · try dsimp only
              simp; omega
            · try dsimp only
              exact all_snoc l i hi.1 (by omega) hok hokm
            · try dsimp only
              intro w1 hw q hq
              by_cases e : q = i.toNat
              · subst e
                have e1 : (os ++ [x1.1]).getD i.toNat nilSl = x1.1 := by
                  have : os.length = i.toNat := by omega
                  simp [List.getD, ← this]
                rw [if_pos rfl]
                show IsSl _ _ ((os ++ [x1.1]).getD i.toNat nilSl).v _ ∧ _
                rw [e1]
                exact ⟨IsSl.of_own (hw _ List.mem_cons_self), pts_of_block (hw _ (List.mem_cons_of_mem _ List.mem_cons_self))⟩
              · have e1 : (os ++ [x1.1]).getD q nilSl = os.getD q nilSl := by
                  have : q < os.length := by omega
                  simp [List.getD, List.getElem?_append, this]
                rw [if_neg e]
                show IsSl _ _ ((os ++ [x1.1]).getD q nilSl).v _ ∧ _
                rw [e1]
                exact hR w1 (fun r hr => hw r (List.mem_cons_of_mem _ (List.mem_cons_of_mem _ hr))) q (by omega)
            · try dsimp only
              omega
          · refine (calln (X := OV × Nat) (fun _ => True) (fun x => x.1.v) (fun x => [OwnS x.1.v (ovE nilFn) (clos (l.getD i.toNat eMatch.zero) x.2) 249, Var x.2 eMatch (l.getD i.toNat eMatch.zero) 74]) en148 (.cons (.t rfl) .nil) (fun w I => compiled_ok _ w) (fun x1 _ => ?_))
            refine hdn (all [4, 7] (by kernel_rfl) (by decide) (.cons rfl ?_ (.cons rfl ?_ .nil)))
            · refine (opv (Ev.ldv ty189 (.t rfl) SRuleRules.l_asked) ?_)
              refine hdn (al1 7 rfl ((buildSlice (E := (ovE nilSl)) Tryz.underlying189 ty192 z192 (.cons (.t rfl) .nil) rfl rfl (fun v7 => ?_))))
              refine hdn (al1 8 rfl ((app (E := (ovE nilSl)) Tryz.underlying189 ty192 zb192 zs192 (.t rfl) (.t rfl) (fun v8 => ?_) (hby := ⟨by (show _ ≤ 9223372036854775807); first | omega | (simp; done) | (simp; omega), by first | omega | (simp; done) | (simp; omega)⟩))))
              refine hdn (tk 9 rfl (Ev.nilCheck (.t rfl)) ?_)
              refine tk 10 rfl (fA 1 (.t rfl)) ?_
              refine al1 11 rfl ((stv ty189 SRuleRules.l_asked (.t rfl) (.t rfl) ?_))
              refine hdn (ovr (bN (pN (region (co (Ev.add_i (.t rfl) (.c (v := I 1) rfl) (fun _ => by omega)) ?_)))))
              refine mv rfl (nP (nx (X := Int × OV × OV × (List OV) × (List Res) × (Nat → Nat)) (i + 1, _, _, os ++ [x1.1], OwnS x1.1.v (ovE nilFn) (clos (l.getD i.toNat eMatch.zero) x1.2) 249 :: Var x1.2 eMatch (l.getD i.toNat eMatch.zero) 74 :: Rs, fun q => if q = i.toNat then x1.2 else bs q) ⟨?_, ?_, ?_, ?_⟩ ?_ (hL := (by dsimp only; rw [take_snoc l i hi.1 (by omega) eMatch.zero]; repeat first | exact List.Sublist.refl _ | apply List.Sublist.cons_cons | apply List.Sublist.cons))))
              · try dsimp only
                omega
              · try dsimp only
                simp; omega
              · try dsimp only
                exact all_snoc l i hi.1 (by omega) hok hokm
              · try dsimp only
                intro w1 hw q hq
                by_cases e : q = i.toNat
                · subst e
                  have e1 : (os ++ [x1.1]).getD i.toNat nilSl = x1.1 := by
                    have : os.length = i.toNat := by omega
                    simp [List.getD, ← this]
                  rw [if_pos rfl]
                  show IsSl _ _ ((os ++ [x1.1]).getD i.toNat nilSl).v _ ∧ _
                  rw [e1]
                  exact ⟨IsSl.of_own (hw _ List.mem_cons_self), pts_of_block (hw _ (List.mem_cons_of_mem _ List.mem_cons_self))⟩
                · have e1 : (os ++ [x1.1]).getD q nilSl = os.getD q nilSl := by
                    have : q < os.length := by omega
                    simp [List.getD, List.getElem?_append, this]
                  rw [if_neg e]
                  show IsSl _ _ ((os ++ [x1.1]).getD q nilSl).v _ ∧ _
                  rw [e1]
                  exact hR w1 (fun r hr => hw r (List.mem_cons_of_mem _ (List.mem_cons_of_mem _ hr))) q (by omega)
              · try dsimp only
                omega
            · refine (buildSlice (E := (ovE nilSl)) Tryz.underlying189 ty192 z192 (.cons (.t rfl) .nil) rfl rfl (fun v9 => ?_))
              refine hdn (al1 4 rfl ((opv (Ev.ldv ty189 (.t rfl) SRuleRules.l_asked) ?_)))
              refine hdn (al1 8 rfl ((app (E := (ovE nilSl)) Tryz.underlying189 ty192 zb192 zs192 (.t rfl) (.t rfl) (fun v10 => ?_) (hby := ⟨by (show _ ≤ 9223372036854775807); first | omega | (simp; done) | (simp; omega), by first | omega | (simp; done) | (simp; omega)⟩))))
              refine hdn (tk 9 rfl (Ev.nilCheck (.t rfl)) ?_)
              refine tk 10 rfl (fA 1 (.t rfl)) ?_
              refine al1 11 rfl ((stv ty189 SRuleRules.l_asked (.t rfl) (.t rfl) ?_))
              refine hdn (ovr (bN (pN (region (co (Ev.add_i (.t rfl) (.c (v := I 1) rfl) (fun _ => by omega)) ?_)))))
              refine mv rfl (nP (nx (X := Int × OV × OV × (List OV) × (List Res) × (Nat → Nat)) (i + 1, _, _, os ++ [x1.1], OwnS x1.1.v (ovE nilFn) (clos (l.getD i.toNat eMatch.zero) x1.2) 249 :: Var x1.2 eMatch (l.getD i.toNat eMatch.zero) 74 :: Rs, fun q => if q = i.toNat then x1.2 else bs q) ⟨?_, ?_, ?_, ?_⟩ ?_ (hL := (by dsimp only; rw [take_snoc l i hi.1 (by omega) eMatch.zero]; repeat first | exact List.Sublist.refl _ | apply List.Sublist.cons_cons | apply List.Sublist.cons))))
              · try dsimp only
                omega
              · try dsimp only
                simp; omega
              · try dsimp only
                exact all_snoc l i hi.1 (by omega) hok hokm
              · try dsimp only
                intro w1 hw q hq
                by_cases e : q = i.toNat
                · subst e
                  have e1 : (os ++ [x1.1]).getD i.toNat nilSl = x1.1 := by
                    have : os.length = i.toNat := by omega
                    simp [List.getD, ← this]
                  rw [if_pos rfl]
                  show IsSl _ _ ((os ++ [x1.1]).getD i.toNat nilSl).v _ ∧ _
                  rw [e1]
                  exact ⟨IsSl.of_own (hw _ List.mem_cons_self), pts_of_block (hw _ (List.mem_cons_of_mem _ List.mem_cons_self))⟩
                · have e1 : (os ++ [x1.1]).getD q nilSl = os.getD q nilSl := by
                    have : q < os.length := by omega
                    simp [List.getD, List.getElem?_append, this]
                  rw [if_neg e]
                  show IsSl _ _ ((os ++ [x1.1]).getD q nilSl).v _ ∧ _
                  rw [e1]
                  exact hR w1 (fun r hr => hw r (List.mem_cons_of_mem _ (List.mem_cons_of_mem _ hr))) q (by omega)
              · try dsimp only
                omega
        · refine (buildSlice (E := eMatch) Tryz.underlying143 ty74 z74 (.cons (.t rfl) .nil) rfl rfl (fun v11 => ?_))
          refine hdn (al1 4 rfl ((opv (Ev.ldv ty143 (.t rfl) SRuleRules.l_matches_) ?_)))
          refine hdn (al1 7 rfl ((app (E := eMatch) Tryz.underlying143 ty74 zb74 zs74 (.t rfl) (.t rfl) (fun v12 => ?_) (hby := ⟨by (show _ ≤ 9223372036854775807); first | omega | (simp; done) | (simp; omega), by first | omega | (simp; done) | (simp; omega)⟩))))
          refine hdn (tk 8 rfl (Ev.nilCheck (.t rfl)) ?_)
          refine tk 9 rfl (fA 0 (.t rfl)) ?_
          refine al1 10 rfl ((stv ty143 SRuleRules.l_matches_ (.t rfl) (.t rfl) ?_))
          refine hdn (ovr (pN (draw [Var b2 eMatch (l.getD i.toNat eMatch.zero) 74] (by kernel_rfl) ?_)))
          refine tk 0 rfl (Ev.move (.t rfl)) ?_
          refine tk 1 rfl (Ev.move (.t rfl)) ?_
          refine tk 2 rfl (Ev.nilCheck (.t rfl)) ?_
          refine tk 3 rfl (fA 1 (.t rfl)) ?_
          refine tk 5 rfl (Ev.ldv ty74 (.t rfl) (Lens.id _)) ?_
          refine all [4, 6] (by kernel_rfl) (by decide) (.cons rfl ?_ (.cons rfl ?_ .nil))
          · refine (opv (Ev.ldv ty189 (.t rfl) SRuleRules.l_asked) ?_)
            refine hdn (al1 6 rfl ((calln (X := OV × Nat) (fun _ => True) (fun x => x.1.v) (fun x => [OwnS x.1.v (ovE nilFn) (clos (l.getD i.toNat eMatch.zero) x.2) 249, Var x.2 eMatch (l.getD i.toNat eMatch.zero) 74]) en148 (.cons (.t rfl) .nil) (fun w I => compiled_ok _ w) (fun x1 _ => ?_))))
            refine hdn (al1 7 rfl ((buildSlice (E := (ovE nilSl)) Tryz.underlying189 ty192 z192 (.cons (.t rfl) .nil) rfl rfl (fun v13 => ?_))))
            refine hdn (al1 8 rfl ((app (E := (ovE nilSl)) Tryz.underlying189 ty192 zb192 zs192 (.t rfl) (.t rfl) (fun v14 => ?_) (hby := ⟨by (show _ ≤ 9223372036854775807); first | omega | (simp; done) | (simp; omega), by first | omega | (simp; done) | (simp; omega)⟩))))
            refine hdn (tk 9 rfl (Ev.nilCheck (.t rfl)) ?_)
            refine tk 10 rfl (fA 1 (.t rfl)) ?_
            refine al1 11 rfl ((stv ty189 SRuleRules.l_asked (.t rfl) (.t rfl) ?_))
            refine hdn (ovr (bN (pN (region (co (Ev.add_i (.t rfl) (.c (v := I 1) rfl) (fun _ => by omega)) ?_)))))
            refine mv rfl (nP (nx (X := Int × OV × OV × (List OV) × (List Res) × (Nat → Nat)) (i + 1, _, _, os ++ [x1.1], OwnS x1.1.v (ovE nilFn) (clos (l.getD i.toNat eMatch.zero) x1.2) 249 :: Var x1.2 eMatch (l.getD i.toNat eMatch.zero) 74 :: Rs, fun q => if q = i.toNat then x1.2 else bs q) ⟨?_, ?_, ?_, ?_⟩ ?_ (hL := (by dsimp only; rw [take_snoc l i hi.1 (by omega) eMatch.zero]; repeat first | exact List.Sublist.refl _ | apply List.Sublist.cons_cons | apply List.Sublist.cons))))
            · try dsimp only
              omega
            · try dsimp only
              simp; omega
            · try dsimp only
              exact all_snoc l i hi.1 (by omega) hok hokm
            · try dsimp only
              intro w1 hw q hq
              by_cases e : q = i.toNat
              · subst e
                have e1 : (os ++ [x1.1]).getD i.toNat nilSl = x1.1 := by
                  have : os.length = i.toNat := by omega
                  simp [List.getD, ← this]
                rw [if_pos rfl]
                show IsSl _ _ ((os ++ [x1.1]).getD i.toNat nilSl).v _ ∧ _
                rw [e1]
                exact ⟨IsSl.of_own (hw _ List.mem_cons_self), pts_of_block (hw _ (List.mem_cons_of_mem _ List.mem_cons_self))⟩
              · have e1 : (os ++ [x1.1]).getD q nilSl = os.getD q nilSl := by
                  have : q < os.length := by omega
                  simp [List.getD, List.getElem?_append, this]
                rw [if_neg e]
                show IsSl _ _ ((os ++ [x1.1]).getD q nilSl).v _ ∧ _
                rw [e1]
                exact hR w1 (fun r hr => hw r (List.mem_cons_of_mem _ (List.mem_cons_of_mem _ hr))) q (by omega)
            · try dsimp only
              omega
          · refine (calln (X := OV × Nat) (fun _ => True) (fun x => x.1.v) (fun x => [OwnS x.1.v (ovE nilFn) (clos (l.getD i.toNat eMatch.zero) x.2) 249, Var x.2 eMatch (l.getD i.toNat eMatch.zero) 74]) en148 (.cons (.t rfl) .nil) (fun w I => compiled_ok _ w) (fun x1 _ => ?_))
            refine hdn (all [4, 7] (by kernel_rfl) (by decide) (.cons rfl ?_ (.cons rfl ?_ .nil)))
            · refine (opv (Ev.ldv ty189 (.t rfl) SRuleRules.l_asked) ?_)
              refine hdn (al1 7 rfl ((buildSlice (E := (ovE nilSl)) Tryz.underlying189 ty192 z192 (.cons (.t rfl) .nil) rfl rfl (fun v15 => ?_))))
              refine hdn (al1 8 rfl ((app (E := (ovE nilSl)) Tryz.underlying189 ty192 zb192 zs192 (.t rfl) (.t rfl) (fun v16 => ?_) (hby := ⟨by (show _ ≤ 9223372036854775807); first | omega | (simp; done) | (simp; omega), by first | omega | (simp; done) | (simp; omega)⟩))))
              refine hdn (tk 9 rfl (Ev.nilCheck (.t rfl)) ?_)
              refine tk 10 rfl (fA 1 (.t rfl)) ?_
              refine al1 11 rfl ((stv ty189 SRuleRules.l_asked (.t rfl) (.t rfl) ?_))
              refine hdn (ovr (bN (pN (region (co (Ev.add_i (.t rfl) (.c (v := I 1) rfl) (fun _ => by omega)) ?_)))))
              refine mv rfl (nP (nx (X := Int × OV × OV × (List OV) × (List Res) × (Nat → Nat)) (i + 1, _, _, os ++ [x1.1], OwnS x1.1.v (ovE nilFn) (clos (l.getD i.toNat eMatch.zero) x1.2) 249 :: Var x1.2 eMatch (l.getD i.toNat eMatch.zero) 74 :: Rs, fun q => if q = i.toNat then x1.2 else bs q) ⟨?_, ?_, ?_, ?_⟩ ?_ (hL := (by dsimp only; rw [take_snoc l i hi.1 (by omega) eMatch.zero]; repeat first | exact List.Sublist.refl _ | apply List.Sublist.cons_cons | apply List.Sublist.cons))))
              · try dsimp only
                omega
              · try dsimp only
                simp; omega
              · try dsimp only
                exact all_snoc l i hi.1 (by omega) hok hokm
              · try dsimp only
                intro w1 hw q hq
                by_cases e : q = i.toNat
                · subst e
                  have e1 : (os ++ [x1.1]).getD i.toNat nilSl = x1.1 := by
                    have : os.length = i.toNat := by omega
                    simp [List.getD, ← this]
                  rw [if_pos rfl]
                  show IsSl _ _ ((os ++ [x1.1]).getD i.toNat nilSl).v _ ∧ _
                  rw [e1]
                  exact ⟨IsSl.of_own (hw _ List.mem_cons_self), pts_of_block (hw _ (List.mem_cons_of_mem _ List.mem_cons_self))⟩
                · have e1 : (os ++ [x1.1]).getD q nilSl = os.getD q nilSl := by
                    have : q < os.length := by omega
                    simp [List.getD, List.getElem?_append, this]
                  rw [if_neg e]
                  show IsSl _ _ ((os ++ [x1.1]).getD q nilSl).v _ ∧ _
                  rw [e1]
                  exact hR w1 (fun r hr => hw r (List.mem_cons_of_mem _ (List.mem_cons_of_mem _ hr))) q (by omega)
              · try dsimp only
                omega
            · refine (buildSlice (E := (ovE nilSl)) Tryz.underlying189 ty192 z192 (.cons (.t rfl) .nil) rfl rfl (fun v17 => ?_))
              refine hdn (al1 4 rfl ((opv (Ev.ldv ty189 (.t rfl) SRuleRules.l_asked) ?_)))
              refine hdn (al1 8 rfl ((app (E := (ovE nilSl)) Tryz.underlying189 ty192 zb192 zs192 (.t rfl) (.t rfl) (fun v18 => ?_) (hby := ⟨by (show _ ≤ 9223372036854775807); first | omega | (simp; done) | (simp; omega), by first | omega | (simp; done) | (simp; omega)⟩))))
              refine hdn (tk 9 rfl (Ev.nilCheck (.t rfl)) ?_)
              refine tk 10 rfl (fA 1 (.t rfl)) ?_
              refine al1 11 rfl ((stv ty189 SRuleRules.l_asked (.t rfl) (.t rfl) ?_))
              refine hdn (ovr (bN (pN (region (co (Ev.add_i (.t rfl) (.c (v := I 1) rfl) (fun _ => by omega)) ?_)))))
              refine mv rfl (nP (nx (X := Int × OV × OV × (List OV) × (List Res) × (Nat → Nat)) (i + 1, _, _, os ++ [x1.1], OwnS x1.1.v (ovE nilFn) (clos (l.getD i.toNat eMatch.zero) x1.2) 249 :: Var x1.2 eMatch (l.getD i.toNat eMatch.zero) 74 :: Rs, fun q => if q = i.toNat then x1.2 else bs q) ⟨?_, ?_, ?_, ?_⟩ ?_ (hL := (by dsimp only; rw [take_snoc l i hi.1 (by omega) eMatch.zero]; repeat first | exact List.Sublist.refl _ | apply List.Sublist.cons_cons | apply List.Sublist.cons))))
              · try dsimp only
                omega
              · try dsimp only
                simp; omega
              · try dsimp only
                exact all_snoc l i hi.1 (by omega) hok hokm
              · try dsimp only
                intro w1 hw q hq
                by_cases e : q = i.toNat
                · subst e
                  have e1 : (os ++ [x1.1]).getD i.toNat nilSl = x1.1 := by
                    have : os.length = i.toNat := by omega
                    simp [List.getD, ← this]
                  rw [if_pos rfl]
                  show IsSl _ _ ((os ++ [x1.1]).getD i.toNat nilSl).v _ ∧ _
                  rw [e1]
                  exact ⟨IsSl.of_own (hw _ List.mem_cons_self), pts_of_block (hw _ (List.mem_cons_of_mem _ List.mem_cons_self))⟩
                · have e1 : (os ++ [x1.1]).getD q nilSl = os.getD q nilSl := by
                    have : q < os.length := by omega
                    simp [List.getD, List.getElem?_append, this]
                  rw [if_neg e]
                  show IsSl _ _ ((os ++ [x1.1]).getD q nilSl).v _ ∧ _
                  rw [e1]
                  exact hR w1 (fun r hr => hw r (List.mem_cons_of_mem _ (List.mem_cons_of_mem _ hr))) q (by omega)
              · try dsimp only
                omega
    · try simp only [nb] at hge
      refine exit (pX (pX (bX (pN (sg (mv rfl (asn rfl (co (Ev.assign (.c (v := I 0) rfl)) ?_))))))))
      refine nP (ret (done rfl (.tmp rfl (.tmp rfl .nil)) (fun w I => ?_)))
      have et : l.take i.toNat = l := List.take_of_length_le (by omega)
      rw [et] at hok I
      have hc : compE l = 0 := by unfold compE; rw [decide_eq_false (by omega), hok]; rfl
      refine retN (b1, Rs ++ [OwnS mo.v eMatch l 74, OwnS ao.v (ovE nilSl) os 192, Var b1 eRuleRules ⟨mo, ao⟩ 191]) (fun _ w1 hw => ?_) (by unfold compV ptrC ptrO; rw [hc]; rfl) (List.Sublist.refl _) w I
      refine ⟨mo, ao, os, bs, pts_of_block (hw _ (List.mem_append_right _ (List.mem_cons_of_mem _ (List.mem_cons_of_mem _ List.mem_cons_self)))), IsSl.of_own (hw _ (List.mem_append_right _ List.mem_cons_self)), IsSl.of_own (hw _ (List.mem_append_right _ (List.mem_cons_of_mem _ List.mem_cons_self))), by omega, fun q hq => hR w1 (fun r hr => hw r (List.mem_append_left _ hr)) q (by omega)⟩
def firstF (q : SMatch → Bool) : List SMatch → Int → Int
  | [], _ => -1
  | m :: l, k => bif q m then k else firstF q l (k + 1)
theorem getD_take' {α : Type} (l : List α) (m i : Nat) (d : α) (h : i < m) : (l.take m).getD i d = l.getD i d := by simp [List.getD, List.getElem?_take, h]
def deadAt (l : List SMatch) (k : Nat) : Bool := (l.take k).any fun m => coversM m (l.getD k eMatch.zero)
def deadT (l : List SMatch) (n : Nat) : List Int := ((List.range n).filter (deadAt l)).map fun k : Nat => (k : Int)
def deadB (l : List SMatch) : List Int := deadT l l.length
theorem deadT_step (l : List SMatch) (n : Nat) : deadT l (n + 1) = bif deadAt l n then deadT l n ++ [(n : Int)] else deadT l n := by
  unfold deadT
  rw [List.range_succ, List.filter_append]
  cases h : deadAt l n <;> simp [h]
theorem deadT_len (l : List SMatch) (n : Nat) : (deadT l n).length ≤ n := by
  unfold deadT
  rw [List.length_map]
  exact Nat.le_trans (List.length_filter_le _ _) (by simp)
theorem deadAt_yes (l : List SMatch) (i j : Nat) (hi : i < l.length) (hj : j < i) (h : coversM (l.getD j eMatch.zero) (l.getD i eMatch.zero) = true) : deadAt l i = true := by
  unfold deadAt
  rw [List.any_eq_true]
  refine ⟨l.getD j eMatch.zero, ?_, h⟩
  have e := getD_take' l i j eMatch.zero hj
  rw [← e]
  exact getD_mem _ _ _ (by simp; omega)
theorem deadAt_no (l : List SMatch) (i : Nat) (hi : i ≤ l.length) (h : ∀ q : Nat, (q : Int) < i → coversM (l.getD q eMatch.zero) (l.getD i eMatch.zero) = false) : deadAt l i = false := by
  rw [Bool.eq_false_iff]
  intro ht
  unfold deadAt at ht
  obtain ⟨m, hm, hc⟩ := List.any_eq_true.1 ht
  obtain ⟨q, hq, rfl⟩ := List.mem_iff_getElem.1 hm
  have hq2 : q < i := by simp at hq; omega
  have e : (l.take i)[q] = l.getD q eMatch.zero := by
    have : q < l.length := by omega
    simp [List.getD, this]
  rw [e, h q (by omega)] at hc
  cases hc
theorem en149 : Gx.Enters Tryz.prog 149 := Gx.Enters.mk' (by kernel_rfl)
theorem dead_ok (b : Nat) (l : List SMatch) (w : World) (hR : RulesAt w b l) (hll : l.length ≤ 256) : Calls Tryz.prog 102 #[.pointer (some ⟨b, 0, none⟩)] w (RetO w iE (deadB l) 3) := by
  obtain ⟨mo, ao, os, bs, hr, hmo, hao, hol, hcl⟩ := hR
  have hml := hmo.le
  have hal := hao.le
  refine en0 41 Tryz.func102 ?_
  refine sg (co (Ev.assign (.c (v := (Go.Value.slice none 0 0)) rfl)) ?_)
  refine nP (seq (sg (mv rfl (co (Ev.eql_p Tryz.underlying144 (.t rfl) (.c rfl)) ?_))))
  refine nP (condF rfl (rfl) ?_)
  refine skip (pN (sg (co (Ev.assign (.c (v := (Go.Value.slice none 0 0)) rfl)) ?_)))
  refine takeNil iE 3 ?_
  refine nP (seq (sg (mv rfl (co (Ev.nilCheck (.t rfl)) ?_))))
  refine co (fA 0 (.t rfl)) ?_
  refine co (Ev.load ty143 (.t rfl) (ptsL (fun w I => hr.keep I.keeps) SRuleRules.l_matches_)) ?_
  refine co (Ev.len Tryz.underlying143 (.t rfl) (fun w I => hmo.keep0 I.keeps)) ?_
  refine co (Ev.move (.c (v := I 0) rfl)) ?_
  refine nP (block (lp (X := Int × OV × (List Int)) (fun x : Int × OV × (List Int) => (0 ≤ x.1 ∧ x.1 ≤ l.length) ∧ (x.2.2 = deadT l x.1.toNat)) (fun x : Int × OV × (List Int) => [(0, true, .pointer (some ⟨b, 0, none⟩)), (3, true, x.2.1.v), (13, true, mo.v), (14, true, I l.length), (15, true, I x.1)]) (fun x : Int × OV × (List Int) => [OwnS x.2.1.v iE x.2.2 3]) (fun x : Int × OV × (List Int) => (l.length - x.1).toNat) (0, nilSl, []) ⟨?_, ?_⟩ (fun x hx => ?_)))
  · omega
  · rfl
  obtain ⟨i, o, ds⟩ := x
  obtain ⟨hi, hd⟩ : (0 ≤ i ∧ i ≤ l.length) ∧ (ds = deadT l i.toNat) := hx
  show Sat _ _ [(0, true, .pointer (some ⟨b, 0, none⟩)), (3, true, o.v), (13, true, mo.v), (14, true, I l.length), (15, true, I i)] [OwnS o.v iE ds 3]
  have hdl := deadT_len l i.toNat
  rw [← hd] at hdl
  refine sg (co (Ev.lss_i (.t rfl) (.t rfl)) ?_)
  refine nP (seq ?_)
  first | refine condD rfl (fun hlt => ?_) (fun hge => ?_) | refine cond rfl (fun hlt => ?_) (fun hge => ?_)
  · try simp only [nb] at hlt
    refine skip (pN (seq (block (sg (mv rfl (co (Ev.indexAddr Tryz.underlying143 ty74 (.t rfl) (.t rfl) (fun w I => hmo.keep0 I.keeps) (fun _ => by omega)) ?_))))))
    refine co (Ev.loadS0 ty74 (.t rfl) (fun w I => hmo.keep0 I.keeps) (fun _ => by omega)) ?_
    refine cons (alloc z74 (fun b1 => ?_))
    refine asn rfl (cons (stv ty74 (Lens.id _) (.t rfl) (.t rfl) ?_))
    refine nP (sg (mv rfl (co (Ev.nilCheck (.t rfl)) ?_)))
    refine co (fA 0 (.t rfl)) ?_
    refine co (Ev.load ty143 (.t rfl) (ptsL (fun w I => hr.keep I.keeps) SRuleRules.l_matches_)) ?_
    have hsub : IsSl eMatch w (subS eMatch.size mo.v 0 i.toNat) (l.take i.toNat) := by
      have := hmo.sub (l := 0) (k := i.toNat) (by omega) (by omega)
      simpa using this
    have htl : (l.take i.toNat).length = i.toNat := by simp; omega
    refine mv rfl (co (Ev.sliceH Tryz.underlying143 ty74 (.t rfl) (.t rfl) (fun w I => hmo.keep0 I.keeps) (fun _ => by omega)) ?_)
    refine co (Ev.len Tryz.underlying143 (.t rfl) (fun w I => IsSl.sub (w := w) (hmo.keep0 I.keeps) (by omega) (by omega))) ?_
    refine co (Ev.move (.c (v := I 0) rfl)) ?_
    refine nP (block (lp (X := Int) (fun x : Int => (0 ≤ x ∧ x ≤ i) ∧ (∀ q : Nat, (q : Int) < x → coversM (l.getD q eMatch.zero) (l.getD i.toNat eMatch.zero) = false)) (fun x : Int => [(0, true, .pointer (some ⟨b, 0, none⟩)), (3, true, o.v), (4, true, I i), (5, true, .pointer (some ⟨b1, 0, none⟩)), (13, true, mo.v), (14, true, I l.length), (15, true, I i), (25, true, subS eMatch.size mo.v 0 i.toNat), (26, true, I (l.take i.toNat).length), (27, true, I x)]) (fun x : Int => [Var b1 eMatch (l.getD i.toNat eMatch.zero) 74, OwnS o.v iE ds 3]) (fun x : Int => (i - x).toNat) (0) ⟨?_, ?_⟩ (fun x hx => ?_)))
    · omega
    · intro q hq; omega
    obtain ⟨j, rfl⟩ : ∃ y, y = x := ⟨x, rfl⟩
    obtain ⟨hj, hn⟩ : (0 ≤ j ∧ j ≤ i) ∧ (∀ q : Nat, (q : Int) < j → coversM (l.getD q eMatch.zero) (l.getD i.toNat eMatch.zero) = false) := hx
    show Sat _ _ [(0, true, .pointer (some ⟨b, 0, none⟩)), (3, true, o.v), (4, true, I i), (5, true, .pointer (some ⟨b1, 0, none⟩)), (13, true, mo.v), (14, true, I l.length), (15, true, I i), (25, true, subS eMatch.size mo.v 0 i.toNat), (26, true, I (l.take i.toNat).length), (27, true, I j)] [Var b1 eMatch (l.getD i.toNat eMatch.zero) 74, OwnS o.v iE ds 3]
    refine sg (co (Ev.lss_i (.t rfl) (.t rfl)) ?_)
    refine nP (seq ?_)
    first | refine condD rfl (fun hlt2 => ?_) (fun hge2 => ?_) | refine cond rfl (fun hlt2 => ?_) (fun hge2 => ?_)
    · try simp only [nb] at hlt2
      refine skip (pN (seq (block (sg (co (Ev.indexAddr Tryz.underlying143 ty74 (.t rfl) (.t rfl) (fun w I => hsub.keep0 I.keeps) (fun _ => by omega)) ?_)))))
      refine co (Ev.loadS0 ty74 (.t rfl) (fun w I => hsub.keep0 I.keeps) (fun _ => by omega)) ?_
      refine cons (alloc z74 (fun b2 => ?_))
      refine cons (stv ty74 (Lens.id _) (.t rfl) (.t rfl) ?_)
      refine nP (sg (co (Ev.ldv ty74 (.t rfl) (Lens.id _)) ?_))
      refine co (Ev.ldv ty74 (.t rfl) (Lens.id _)) ?_
      refine cons (callv en149 (.cons (.t rfl) (.cons (.t rfl) .nil)) (fun w I => covers_ok _ _ w) ?_)
      refine nP ?_
      first | refine condD rfl (fun h3 => ?_) (fun h3 => ?_) | refine cond rfl (fun h3 => ?_) (fun h3 => ?_)
      · have hst : deadT l (i + 1).toNat = deadT l i.toNat ++ [i] := by
          have e : (i + 1).toNat = i.toNat + 1 := by omega
          have e2 : (i.toNat : Int) = i := by omega
          have h3b := h3
          rw [show (l.take i.toNat).getD j.toNat eMatch.zero = l.getD j.toNat eMatch.zero from getD_take' l i.toNat j.toNat _ (by omega)] at h3b
          rw [e, deadT_step, deadAt_yes l i.toNat j.toNat (by omega) (by omega) h3b, e2]; rfl
        refine sg (mv rfl (mv rfl (cons (buildSlice (E := iE) Tryz.underlying22 ty3 z3 (.cons (.t rfl) .nil) rfl rfl (fun v3 => ?_)))))
        refine cons (app (E := iE) Tryz.underlying22 ty3 zb3 zs3 (.t rfl) (.t rfl) (fun v4 => ?_) (hby := ⟨by (show _ ≤ 9223372036854775807); first | omega | (simp; done) | (simp; omega), by first | omega | (simp; done) | (simp; omega)⟩))
        refine asn rfl (nP (exit (bO rfl (pX (pX (bX (bN (pN (region (co (Ev.add_i (.t rfl) (.c (v := I 1) rfl) (fun _ => by omega)) ?_))))))))))
        refine mv rfl (nP (nx (X := Int × OV × (List Int)) (i + 1, _, _) ⟨?_, ?_⟩ ?_))
        · try dsimp only
          omega
        · try dsimp only
          rw [hst, ← hd]
        · try dsimp only
          omega
      · have h3b : coversM (l.getD j.toNat eMatch.zero) (l.getD i.toNat eMatch.zero) = false := by
          have e := getD_take' l i.toNat j.toNat eMatch.zero (by omega)
          rw [← e]; simpa using h3
        refine skip (bN (pN (region (co (Ev.add_i (.t rfl) (.c (v := I 1) rfl) (fun _ => by omega)) ?_))))
        refine mv rfl (nP (nx (X := Int) (j + 1) ⟨?_, ?_⟩ ?_))
        · try dsimp only
          omega
        · try dsimp only
          intro q hq
          by_cases e : q = j.toNat
          · rw [e]; exact h3b
          · exact hn q (by omega)
        · try dsimp only
          omega
    · try simp only [nb] at hge2
      have hst : deadT l (i + 1).toNat = deadT l i.toNat := by
        have e : (i + 1).toNat = i.toNat + 1 := by omega
        rw [e, deadT_step, deadAt_no l i.toNat (by omega) (fun q hq => hn q (by omega))]; rfl
      refine exit (pX (pX (bX (bN (pN (region (co (Ev.add_i (.t rfl) (.c (v := I 1) rfl) (fun _ => by omega)) ?_)))))))
      refine mv rfl (nP (nx (X := Int × OV × (List Int)) (i + 1, _, _) ⟨?_, ?_⟩ ?_))
      · try dsimp only
        omega
      · try dsimp only
        rw [hst, ← hd]
      · try dsimp only
        omega
  · try simp only [nb] at hge
    refine exit (pX (pX (bX (pN (sg (mv rfl (asn rfl (nP (ret (done rfl (.tmp rfl .nil) (retOE (by repeat first | exact mH | apply mT | apply mA) ?_)))))))))))
    rw [hd]
    unfold deadB
    have e : i.toNat = l.length := by omega
    rw [e]
def lW : List SMatch := [{ eMatch.zero with asks := 2, src := { addr := { v6 := false, b := (Vector.replicate 16 0).set 0 10 }, bits := 8 } }, { eMatch.zero with asks := 1, in_ := ⟨3, 4⟩ }]
def whereT (p : Nat → Bool) (n : Nat) : List Int := ((List.range n).filter p).map fun k : Nat => (k : Int)
theorem whereT_step (p : Nat → Bool) (n : Nat) : whereT p (n + 1) = bif p n then whereT p n ++ [(n : Int)] else whereT p n := by
  unfold whereT
  rw [List.range_succ, List.filter_append]
  cases h : p n <;> simp [h]
theorem whereT_len (p : Nat → Bool) (n : Nat) : (whereT p n).length ≤ n := by
  unfold whereT
  rw [List.length_map]
  exact Nat.le_trans (List.length_filter_le _ _) (by simp)
theorem whereT_yes {p : Nat → Bool} {i : Int} (hi : 0 ≤ i) (h : p i.toNat = true) : whereT p (i + 1).toNat = whereT p i.toNat ++ [i] := by
  have e : (i + 1).toNat = i.toNat + 1 := by omega
  have e2 : (i.toNat : Int) = i := by omega
  rw [e, whereT_step, h, e2]
  rfl
theorem whereT_no {p : Nat → Bool} {i : Int} (hi : 0 ≤ i) (h : p i.toNat = false) : whereT p (i + 1).toNat = whereT p i.toNat := by
  have e : (i + 1).toNat = i.toNat + 1 := by omega
  rw [e, whereT_step, h]
  rfl
theorem unnamed_57 (f b : Nat) (kf : SMeterConf → ByteArray) (m : List (ByteArray × Int)) (u : Value) (xs : List SMeterConf) (w : World) (hen : Gx.Enters Tryz.prog f) (hl : IsSl eMeterConf w u xs) (hm : MapAt w b sE iE m) (hk : FnAt Tryz.prog f [] Nope w eMeterConf sE (fun _ => True) kf) (hxl : xs.length ≤ 1000000) : Calls Tryz.prog 95 #[u, (clo f []).v, .map (some b)] w (RetO w iE (whereT (fun k => (findV eqs (kf (xs.getD k eMeterConf.zero)) m).isNone) xs.length) 3) := by
  have hle := hl.le
  refine en0 35 Tryz.func95 ?_
  refine sg (co (Ev.assign (.c (v := (Go.Value.slice none 0 0)) rfl)) ?_)
  refine nP (sg (co (Ev.assign (.c (v := (Go.Value.slice none 0 0)) rfl)) ?_))
  refine takeNil iE 3 ?_
  refine nP (seq (sg (mv rfl (co (Ev.len Tryz.underlying25 (.t rfl) (fun w I => hl.keep0 I.keeps)) ?_))))
  refine co (Ev.move (.c (v := I 0) rfl)) ?_
  refine nP (block (lp (X := Int × OV × (List Int)) (fun x : Int × OV × (List Int) => (0 ≤ x.1 ∧ x.1 ≤ xs.length) ∧ (x.2.2 = whereT (fun k => (findV eqs (kf (xs.getD k eMeterConf.zero)) m).isNone) x.1.toNat)) (fun x : Int × OV × (List Int) => [(1, true, (clo f []).v), (2, true, .map (some b)), (7, true, x.2.1.v), (12, true, u), (13, true, I xs.length), (14, true, I x.1)]) (fun x : Int × OV × (List Int) => [OwnS x.2.1.v iE x.2.2 3]) (fun x : Int × OV × (List Int) => ((xs.length : Int) - x.1).toNat) (0, nilSl, []) ⟨?_, ?_⟩ (fun x hx => ?_)))
  · omega
  · rfl
  obtain ⟨i, o, ds⟩ := x
  obtain ⟨hi, hd⟩ : (0 ≤ i ∧ i ≤ xs.length) ∧ (ds = whereT (fun k => (findV eqs (kf (xs.getD k eMeterConf.zero)) m).isNone) i.toNat) := hx
  show Sat _ _ [(1, true, (clo f []).v), (2, true, .map (some b)), (7, true, o.v), (12, true, u), (13, true, I xs.length), (14, true, I i)] [OwnS o.v iE ds 3]
  have hdl := whereT_len (fun k => (findV eqs (kf (xs.getD k eMeterConf.zero)) m).isNone) i.toNat
  rw [← hd] at hdl
  refine sg (co (Ev.lss_i (.t rfl) (.t rfl)) ?_)
  refine nP (seq ?_)
  first | refine condD rfl (fun h0 => ?_) (fun h0 => ?_) | refine cond rfl (fun h0 => ?_) (fun h0 => ?_)
  · try simp only [nb] at h0
    refine skip (pN (seq (block (sg (mv rfl (co (Ev.indexAddr Tryz.underlying25 ty57 (.t rfl) (.t rfl) (fun w I => hl.keep0 I.keeps) (fun _ => by omega)) ?_))))))
    refine co (Ev.loadS0 ty57 (.t rfl) (fun w I => hl.keep0 I.keeps) (fun _ => by omega)) ?_
    refine cons (alloc z57 (fun b1 => ?_))
    refine asn rfl (cons (stv ty57 (Lens.id _) (.t rfl) (.t rfl) ?_))
    refine nP (sg (mv rfl (mv rfl (co (Ev.ldv ty57 (.t rfl) (Lens.id _)) ?_))))
    refine cons (callcv (.t rfl) hen (.cons (.t rfl) .nil) (fun w I => hk.call trivial w I) ?_)
    refine co (Ev.lookupT Tryz.underlying82 Tryz.underlying9 key9 z3 (.t rfl) (.t rfl) (fun _ => (fun w I => hm.keep0 I.keeps))) ?_
    refine mv rfl (co (Ev.extract (.t rfl) rfl) (co (Ev.extract (.t rfl) rfl) (asn rfl (asn rfl (nP (sg (mv rfl (co (Ev.not (.t rfl)) ?_))))))))
    refine nP ?_
    first | refine condD rfl (fun h1 => ?_) (fun h1 => ?_) | refine cond rfl (fun h1 => ?_) (fun h1 => ?_)
    · try simp only [nb] at h1
      have hst := whereT_yes (p := (fun k => (findV eqs (kf (xs.getD k eMeterConf.zero)) m).isNone)) hi.1 (by simpa using h1)
      refine region (mv rfl (mv rfl (cons (buildSlice (E := iE) Tryz.underlying22 ty3 z3 (.cons (.t rfl) .nil) rfl rfl (fun v2 => ?_)))))
      refine cons (app (E := iE) Tryz.underlying22 ty3 zb3 zs3 (.t rfl) (.t rfl) (fun v3 => ?_) (hby := ⟨by (show _ ≤ 9223372036854775807); first | omega | (simp; done) | (simp; omega), by first | omega | (simp; done) | (simp; omega)⟩))
      refine asn rfl (nil (bN (pN (region (co (Ev.add_i (.t rfl) (.c (v := I 1) rfl) (fun _ => by omega)) ?_)))))
      refine mv rfl (nP (nx (X := Int × OV × (List Int)) (i + 1, _, _) ⟨?_, ?_⟩ ?_))
      · try dsimp only
        omega
      · try dsimp only
        rw [hst, ← hd]
      · try dsimp only
        omega
    · try simp only [nb] at h1
      have hst := whereT_no (p := (fun k => (findV eqs (kf (xs.getD k eMeterConf.zero)) m).isNone)) hi.1 (by simpa using h1)
      refine skip (bN (pN (region (co (Ev.add_i (.t rfl) (.c (v := I 1) rfl) (fun _ => by omega)) ?_))))
      refine mv rfl (nP (nx (X := Int × OV × (List Int)) (i + 1, _, _) ⟨?_, ?_⟩ ?_))
      · try dsimp only
        omega
      · try dsimp only
        rw [hst, ← hd]
      · try dsimp only
        omega
  · try simp only [nb] at h0
    refine exit (pX (pX (bX (pN (sg (mv rfl (asn rfl (nP (ret (done rfl (.tmp rfl .nil) (retOE (by repeat first | exact mH | apply mT | apply mA) ?_)))))))))))
    rw [hd]
    have e : i.toNat = xs.length := by omega
    rw [e]
theorem unnamed_59 (f b : Nat) (kf : SMirrorConf → ByteArray) (m : List (ByteArray × Int)) (u : Value) (xs : List SMirrorConf) (w : World) (hen : Gx.Enters Tryz.prog f) (hl : IsSl eMirrorConf w u xs) (hm : MapAt w b sE iE m) (hk : FnAt Tryz.prog f [] Nope w eMirrorConf sE (fun _ => True) kf) (hxl : xs.length ≤ 1000000) : Calls Tryz.prog 99 #[u, (clo f []).v, .map (some b)] w (RetO w iE (whereT (fun k => (findV eqs (kf (xs.getD k eMirrorConf.zero)) m).isNone) xs.length) 3) := by
  have hle := hl.le
  refine en0 35 Tryz.func99 ?_
  refine sg (co (Ev.assign (.c (v := (Go.Value.slice none 0 0)) rfl)) ?_)
  refine nP (sg (co (Ev.assign (.c (v := (Go.Value.slice none 0 0)) rfl)) ?_))
  refine takeNil iE 3 ?_
  refine nP (seq (sg (mv rfl (co (Ev.len Tryz.underlying26 (.t rfl) (fun w I => hl.keep0 I.keeps)) ?_))))
  refine co (Ev.move (.c (v := I 0) rfl)) ?_
  refine nP (block (lp (X := Int × OV × (List Int)) (fun x : Int × OV × (List Int) => (0 ≤ x.1 ∧ x.1 ≤ xs.length) ∧ (x.2.2 = whereT (fun k => (findV eqs (kf (xs.getD k eMirrorConf.zero)) m).isNone) x.1.toNat)) (fun x : Int × OV × (List Int) => [(1, true, (clo f []).v), (2, true, .map (some b)), (7, true, x.2.1.v), (12, true, u), (13, true, I xs.length), (14, true, I x.1)]) (fun x : Int × OV × (List Int) => [OwnS x.2.1.v iE x.2.2 3]) (fun x : Int × OV × (List Int) => ((xs.length : Int) - x.1).toNat) (0, nilSl, []) ⟨?_, ?_⟩ (fun x hx => ?_)))
  · omega
  · rfl
  obtain ⟨i, o, ds⟩ := x
  obtain ⟨hi, hd⟩ : (0 ≤ i ∧ i ≤ xs.length) ∧ (ds = whereT (fun k => (findV eqs (kf (xs.getD k eMirrorConf.zero)) m).isNone) i.toNat) := hx
  show Sat _ _ [(1, true, (clo f []).v), (2, true, .map (some b)), (7, true, o.v), (12, true, u), (13, true, I xs.length), (14, true, I i)] [OwnS o.v iE ds 3]
  have hdl := whereT_len (fun k => (findV eqs (kf (xs.getD k eMirrorConf.zero)) m).isNone) i.toNat
  rw [← hd] at hdl
  refine sg (co (Ev.lss_i (.t rfl) (.t rfl)) ?_)
  refine nP (seq ?_)
  first | refine condD rfl (fun h0 => ?_) (fun h0 => ?_) | refine cond rfl (fun h0 => ?_) (fun h0 => ?_)
  · try simp only [nb] at h0
    refine skip (pN (seq (block (sg (mv rfl (co (Ev.indexAddr Tryz.underlying26 ty59 (.t rfl) (.t rfl) (fun w I => hl.keep0 I.keeps) (fun _ => by omega)) ?_))))))
    refine co (Ev.loadS0 ty59 (.t rfl) (fun w I => hl.keep0 I.keeps) (fun _ => by omega)) ?_
    refine cons (alloc z59 (fun b1 => ?_))
    refine asn rfl (cons (stv ty59 (Lens.id _) (.t rfl) (.t rfl) ?_))
    refine nP (sg (mv rfl (mv rfl (co (Ev.ldv ty59 (.t rfl) (Lens.id _)) ?_))))
    refine cons (callcv (.t rfl) hen (.cons (.t rfl) .nil) (fun w I => hk.call trivial w I) ?_)
    refine co (Ev.lookupT Tryz.underlying82 Tryz.underlying9 key9 z3 (.t rfl) (.t rfl) (fun _ => (fun w I => hm.keep0 I.keeps))) ?_
    refine mv rfl (co (Ev.extract (.t rfl) rfl) (co (Ev.extract (.t rfl) rfl) (asn rfl (asn rfl (nP (sg (mv rfl (co (Ev.not (.t rfl)) ?_))))))))
    refine nP ?_
    first | refine condD rfl (fun h1 => ?_) (fun h1 => ?_) | refine cond rfl (fun h1 => ?_) (fun h1 => ?_)
    · try simp only [nb] at h1
      have hst := whereT_yes (p := (fun k => (findV eqs (kf (xs.getD k eMirrorConf.zero)) m).isNone)) hi.1 (by simpa using h1)
      refine region (mv rfl (mv rfl (cons (buildSlice (E := iE) Tryz.underlying22 ty3 z3 (.cons (.t rfl) .nil) rfl rfl (fun v2 => ?_)))))
      refine cons (app (E := iE) Tryz.underlying22 ty3 zb3 zs3 (.t rfl) (.t rfl) (fun v3 => ?_) (hby := ⟨by (show _ ≤ 9223372036854775807); first | omega | (simp; done) | (simp; omega), by first | omega | (simp; done) | (simp; omega)⟩))
      refine asn rfl (nil (bN (pN (region (co (Ev.add_i (.t rfl) (.c (v := I 1) rfl) (fun _ => by omega)) ?_)))))
      refine mv rfl (nP (nx (X := Int × OV × (List Int)) (i + 1, _, _) ⟨?_, ?_⟩ ?_))
      · try dsimp only
        omega
      · try dsimp only
        rw [hst, ← hd]
      · try dsimp only
        omega
    · try simp only [nb] at h1
      have hst := whereT_no (p := (fun k => (findV eqs (kf (xs.getD k eMirrorConf.zero)) m).isNone)) hi.1 (by simpa using h1)
      refine skip (bN (pN (region (co (Ev.add_i (.t rfl) (.c (v := I 1) rfl) (fun _ => by omega)) ?_))))
      refine mv rfl (nP (nx (X := Int × OV × (List Int)) (i + 1, _, _) ⟨?_, ?_⟩ ?_))
      · try dsimp only
        omega
      · try dsimp only
        rw [hst, ← hd]
      · try dsimp only
        omega
  · try simp only [nb] at h0
    refine exit (pX (pX (bX (pN (sg (mv rfl (asn rfl (nP (ret (done rfl (.tmp rfl .nil) (retOE (by repeat first | exact mH | apply mT | apply mA) ?_)))))))))))
    rw [hd]
    have e : i.toNat = xs.length := by omega
    rw [e]
theorem en150 : Gx.Enters Tryz.prog 150 := Gx.Enters.mk' (by kernel_rfl)
theorem rdead_ok (u : Value) (l : List SMatch) (w : World) (hl : IsSl eMatch w u l) (hll : l.length ≤ 256) : Calls Tryz.prog 103 #[u] w (RetO w iE (deadB l) 3) := by
  have hle := hl.le
  refine en0 36 Tryz.func103 ?_
  refine sg (co (Ev.assign (.c (v := (Go.Value.slice none 0 0)) rfl)) ?_)
  refine nP (sg (co (Ev.assign (.c (v := (Go.Value.slice none 0 0)) rfl)) ?_))
  refine takeNil iE 3 ?_
  refine nP (seq (sg (co (Ev.assign (.c (v := I 0) rfl)) ?_)))
  refine nP (block (lp (X := Int × OV × (List Int)) (fun x : Int × OV × (List Int) => (0 ≤ x.1 ∧ x.1 ≤ l.length) ∧ (x.2.2 = deadT l x.1.toNat)) (fun x : Int × OV × (List Int) => [(0, true, u), (3, true, x.2.1.v), (4, true, I x.1)]) (fun x : Int × OV × (List Int) => [OwnS x.2.1.v iE x.2.2 3]) (fun x : Int × OV × (List Int) => (l.length - x.1).toNat) (0, nilSl, []) ⟨?_, ?_⟩ (fun x hx => ?_)))
  · omega
  · rfl
  obtain ⟨i, o, ds⟩ := x
  obtain ⟨hi, hd⟩ : (0 ≤ i ∧ i ≤ l.length) ∧ (ds = deadT l i.toNat) := hx
  show Sat _ _ [(0, true, u), (3, true, o.v), (4, true, I i)] [OwnS o.v iE ds 3]
  have hdl := deadT_len l i.toNat
  rw [← hd] at hdl
  refine seq (sg (mv rfl (mv rfl (co (Ev.len Tryz.underlying143 (.t rfl) (by first | exact isSl_own (by repeat first | exact mH | apply mT | apply mA) | exact fun w I => IsSl.keep0 (by assumption) I.keeps)) ?_))))
  refine co (Ev.lss_i (.t rfl) (.t rfl)) ?_
  refine nP ?_
  first | refine condD rfl (fun hlt => ?_) (fun hge => ?_) | refine cond rfl (fun hlt => ?_) (fun hge => ?_)
  · try simp only [nb] at hlt
    refine skip (pN (seq (block (sg (co (Ev.assign (.c (v := .bool false) rfl)) ?_)))))
    refine nP (seq (sg (co (Ev.assign (.c (v := I 0) rfl)) ?_)))
    refine nP (block (lp (X := Int × Bool) (fun x : Int × Bool => (0 ≤ x.1 ∧ x.1 ≤ i) ∧ (x.2 = (l.take x.1.toNat).any (fun m => coversM m (l.getD i.toNat eMatch.zero)))) (fun x : Int × Bool => [(0, true, u), (3, true, o.v), (4, true, I i), (5, true, .bool x.2), (6, true, I x.1)]) (fun x : Int × Bool => [OwnS o.v iE ds 3]) (fun x : Int × Bool => (i - x.1).toNat) (0, false) ⟨?_, ?_⟩ (fun x hx => ?_)))
    · omega
    · rfl
    obtain ⟨j, d⟩ := x
    obtain ⟨hj, hdd⟩ : (0 ≤ j ∧ j ≤ i) ∧ (d = (l.take j.toNat).any (fun m => coversM m (l.getD i.toNat eMatch.zero))) := hx
    show Sat _ _ [(0, true, u), (3, true, o.v), (4, true, I i), (5, true, .bool d), (6, true, I j)] [OwnS o.v iE ds 3]
    refine seq (sg (mv rfl (mv rfl (co (Ev.lss_i (.t rfl) (.t rfl)) ?_))))
    refine nP ?_
    first | refine condD rfl (fun hlt2 => ?_) (fun hge2 => ?_) | refine cond rfl (fun hlt2 => ?_) (fun hge2 => ?_)
    · try simp only [nb] at hlt2
      refine skip (pN (seq (block (draw' (by kernel_rfl) ?_))))
      refine tk 0 rfl (Ev.move (.t rfl)) ?_
      refine tk 1 rfl (Ev.move (.t rfl)) ?_
      refine tkg 2 rfl rfl rfl (Ev.move (.t rfl)) ?_
      refine tkg 3 rfl rfl rfl (Ev.move (.t rfl)) ?_
      refine tkg 4 rfl rfl rfl (Ev.indexAddr Tryz.underlying143 ty74 (.g rfl id) (.g rfl id) (by first | exact isSl_own (by repeat first | exact mH | apply mT | apply mA) | exact fun w I => IsSl.keep0 (by assumption) I.keeps) (fun _ => by first | omega | (rename_i hg; simp at hg; omega))) ?_
      refine tkg 5 rfl rfl rfl (Ev.loadS0 ty74 (.g rfl id) (by first | exact isSl_own (by repeat first | exact mH | apply mT | apply mA) | exact fun w I => IsSl.keep0 (by assumption) I.keeps) (fun _ => by first | omega | (rename_i hg; simp at hg; omega))) ?_
      refine tkg 6 rfl rfl rfl (Ev.move (.t rfl)) ?_
      refine tkg 7 rfl rfl rfl (Ev.move (.t rfl)) ?_
      refine tkg 8 rfl rfl rfl (Ev.indexAddr Tryz.underlying143 ty74 (.g rfl id) (.g rfl id) (by first | exact isSl_own (by repeat first | exact mH | apply mT | apply mA) | exact fun w I => IsSl.keep0 (by assumption) I.keeps) (fun _ => by first | omega | (rename_i hg; simp at hg; omega))) ?_
      refine tkg 9 rfl rfl rfl (Ev.loadS0 ty74 (.g rfl id) (by first | exact isSl_own (by repeat first | exact mH | apply mT | apply mA) | exact fun w I => IsSl.keep0 (by assumption) I.keeps) (fun _ => by first | omega | (rename_i hg; simp at hg; omega))) ?_
      refine al1 10 rfl ((callg rfl rfl en150 (.cons (.g rfl id) (.cons (.g rfl id) .nil)) (fun hg w I => rcovers_ok _ _ w) ?_))
      refine hdn (tk 11 rfl (Ev.pkO (.t rfl) rfl) ?_)
      refine tk 12 rfl (Ev.assign (.t rfl)) ?_
      refine ovr (bN (pN (region (mv rfl (co (Ev.add_i (.t rfl) (.c (v := I 1) rfl) (fun _ => by omega)) ?_)))))
      refine asn rfl (nP (nx (X := Int × Bool) (j + 1, _) ⟨?_, ?_⟩ ?_))
      · try dsimp only
        omega
      · try dsimp only
        rw [take_snoc l j hj.1 (by omega) eMatch.zero, List.any_append, ← hdd, ← covers_eq]
        cases d <;> simp
      · try dsimp only
        omega
    · try simp only [nb] at hge2
      have hda : d = deadAt l i.toNat := by
        have e : j.toNat = i.toNat := by omega
        rw [hdd, e]; rfl
      have hsT := deadT_step l i.toNat
      have ei : (i + 1).toNat = i.toNat + 1 := by omega
      have ei2 : (i.toNat : Int) = i := by omega
      refine exit (pX (pX (bX (pN (sg (mv rfl (nP ?_)))))))
      first | refine condD rfl (fun h2 => ?_) (fun h2 => ?_) | refine cond rfl (fun h2 => ?_) (fun h2 => ?_)
      · have hst : deadT l (i + 1).toNat = deadT l i.toNat ++ [i] := by
          rw [ei, hsT, ← hda, h2, ei2]; rfl
        refine region (mv rfl (mv rfl (cons (buildSlice (E := iE) Tryz.underlying22 ty3 z3 (.cons (.t rfl) .nil) rfl rfl (fun v1 => ?_)))))
        refine cons (app (E := iE) Tryz.underlying22 ty3 zb3 zs3 (.t rfl) (.t rfl) (fun v2 => ?_) (hby := ⟨by (show _ ≤ 9223372036854775807); first | omega | (simp; done) | (simp; omega), by first | omega | (simp; done) | (simp; omega)⟩))
        refine asn rfl (nil (bN (pN (region (mv rfl (co (Ev.add_i (.t rfl) (.c (v := I 1) rfl) (fun _ => by omega)) ?_))))))
        refine asn rfl (nP (nx (X := Int × OV × (List Int)) (i + 1, _, _) ⟨?_, ?_⟩ ?_))
        · try dsimp only
          omega
        · try dsimp only
          rw [hst, ← hd]
        · try dsimp only
          omega
      · have hst : deadT l (i + 1).toNat = deadT l i.toNat := by
          rw [ei, hsT, ← hda, h2]; rfl
        refine skip (bN (pN (region (mv rfl (co (Ev.add_i (.t rfl) (.c (v := I 1) rfl) (fun _ => by omega)) ?_)))))
        refine asn rfl (nP (nx (X := Int × OV × (List Int)) (i + 1, _, _) ⟨?_, ?_⟩ ?_))
        · try dsimp only
          omega
        · try dsimp only
          rw [hst, ← hd]
        · try dsimp only
          omega
  · try simp only [nb] at hge
    refine exit (pX (pX (bX (pN (sg (mv rfl (asn rfl (nP (ret (done rfl (.tmp rfl .nil) (retOE (by repeat first | exact mH | apply mT | apply mA) ?_)))))))))))
    rw [hd]
    unfold deadB
    have e : i.toNat = l.length := by omega
    rw [e]
theorem skey1 (a : SMeterConf) (w : World) : Calls Tryz.prog 96 #[eMeterConf.val a] w (RetV w (sE.val (a.name))) := by
  refine en0 5 Tryz.func96 ?_
  refine sg (cons (box (E := eMeterConf) (.t rfl) (fun b1 => ?_)))
  refine co (Ev.assign (.c (v := (Go.Value.string (ByteArray.mk #[]))) rfl)) ?_
  refine nP (sg (co (fA 0 (.t rfl)) ?_))
  refine co (Ev.ldx a.name ty9 (.t rfl) SMeterConf.l_name) ?_
  refine asn rfl (nP (ret (done rfl (.tmp rfl .nil) (retE ?_))))
  rfl
theorem skey1_at (M : Nat → Prop) (w : World) : FnAt Tryz.prog 96 [] M w eMeterConf sE (fun _ => True) (fun a => a.name) := fun a w _ _ => skey1 a w
theorem skey2 (a : SRule) (w : World) : Calls Tryz.prog 98 #[eRule.val a] w (RetV w (sE.val (a.meter))) := by
  refine en0 5 Tryz.func98 ?_
  refine sg (cons (box (E := eRule) (.t rfl) (fun b1 => ?_)))
  refine co (Ev.assign (.c (v := (Go.Value.string (ByteArray.mk #[]))) rfl)) ?_
  refine nP (sg (co (fA 47 (.t rfl)) ?_))
  refine co (Ev.ldx a.meter ty9 (.t rfl) SRule.l_meter) ?_
  refine asn rfl (nP (ret (done rfl (.tmp rfl .nil) (retE ?_))))
  rfl
theorem skey2_at (M : Nat → Prop) (w : World) : FnAt Tryz.prog 98 [] M w eRule sE (fun _ => True) (fun a => a.meter) := fun a w _ _ => skey2 a w
theorem skey3 (a : SMirrorConf) (w : World) : Calls Tryz.prog 100 #[eMirrorConf.val a] w (RetV w (sE.val (a.name))) := by
  refine en0 5 Tryz.func100 ?_
  refine sg (cons (box (E := eMirrorConf) (.t rfl) (fun b1 => ?_)))
  refine co (Ev.assign (.c (v := (Go.Value.string (ByteArray.mk #[]))) rfl)) ?_
  refine nP (sg (co (fA 0 (.t rfl)) ?_))
  refine co (Ev.ldx a.name ty9 (.t rfl) SMirrorConf.l_name) ?_
  refine asn rfl (nP (ret (done rfl (.tmp rfl .nil) (retE ?_))))
  rfl
theorem skey3_at (M : Nat → Prop) (w : World) : FnAt Tryz.prog 100 [] M w eMirrorConf sE (fun _ => True) (fun a => a.name) := fun a w _ _ => skey3 a w
theorem skey4 (a : SRule) (w : World) : Calls Tryz.prog 101 #[eRule.val a] w (RetV w (sE.val (a.mirror))) := by
  refine en0 5 Tryz.func101 ?_
  refine sg (cons (box (E := eRule) (.t rfl) (fun b1 => ?_)))
  refine co (Ev.assign (.c (v := (Go.Value.string (ByteArray.mk #[]))) rfl)) ?_
  refine nP (sg (co (fA 48 (.t rfl)) ?_))
  refine co (Ev.ldx a.mirror ty9 (.t rfl) SRule.l_mirror) ?_
  refine asn rfl (nP (ret (done rfl (.tmp rfl .nil) (retE ?_))))
  rfl
theorem skey4_at (M : Nat → Prop) (w : World) : FnAt Tryz.prog 101 [] M w eRule sE (fun _ => True) (fun a => a.mirror) := fun a w _ _ => skey4 a w
theorem rule_okM {l : CL} {r : SRule} {i : Int} (h : ruleE l r i = 0) : okM r.match_ = true := by
  unfold ruleE at h
  split at h
  · cases h
  split at h
  · cases h
  split at h
  · cases h
  · rename_i h3
    simpa using h3
def mtL (l : CL) : List SMatch := l.us.map fun r => r.match_
theorem may_comp {l : CL} {d : Int} (h : mayB l d = true) : compE (mtL l) = 0 := by
  have hl := may_lens h
  have hg := (may_good h).us
  have h1 : (mtL l).length = l.us.length := by simp [mtL]
  have h2 : (mtL l).all okM = true := List.all_eq_true.2 fun m hm => by
    obtain ⟨r, hr, rfl⟩ := List.mem_map.1 hm
    obtain ⟨i, hi, rfl⟩ := List.mem_iff_getElem.1 hr
    have := rule_okM (hg i hi)
    simpa [List.getD, hi] using this
  unfold compE
  rw [decide_eq_false (by omega), h2]
  rfl
def spareA (l : CL) : List Int := whereT (fun k => (findV eqs (l.ms.getD k eMeterConf.zero).name (firstN eqs (fun a => a.meter) l.us l.us.length)).isNone) l.ms.length
def spareB (l : CL) : List Int := whereT (fun k => (findV eqs (l.xs.getD k eMirrorConf.zero).name (firstN eqs (fun a => a.mirror) l.us l.us.length)).isNone) l.xs.length
def spE (l : CL) (d : Int) : Int := bif mayB l d then 0 else 210
def spL (l : CL) (d : Int) (x : List Int) : List Int := bif mayB l d then x else []
end Go.Proofs.YtnoobdijbpmjkaaGreat
