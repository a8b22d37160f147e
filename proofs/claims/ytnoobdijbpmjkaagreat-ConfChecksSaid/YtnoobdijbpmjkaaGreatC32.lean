/- conf -/
import Derived.Test.YtnoobdijbpmjkaaGreatC31
set_option linter.unusedVariables false
set_option linter.unusedSimpArgs false
namespace Go.Proofs.YtnoobdijbpmjkaaGreat
open Go Go.Gx

theorem put_mem {α β : Type} {q : α → α → Bool} (k : α) (v : β) : ∀ (l : List (α × β)) (p : α × β), p ∈ putL q k v l → p.1 = k ∨ ∃ p' ∈ l, p'.1 = p.1
  | [], p, h => by
    unfold putL at h
    exact .inl (by rw [List.mem_singleton.1 h])
  | e :: l, p, h => by
    unfold putL at h
    split at h
    · rcases List.mem_cons.1 h with rfl | h
      · exact .inl rfl
      · exact .inr ⟨p, List.mem_cons_of_mem _ h, rfl⟩
    · rcases List.mem_cons.1 h with rfl | h
      · exact .inr ⟨p, List.mem_cons_self, rfl⟩
      · rcases put_mem k v l p h with h | ⟨p', h1, h2⟩
        · exact .inl h
        · exact .inr ⟨p', List.mem_cons_of_mem _ h1, h2⟩
/-- No key stands twice. -/
def Uniq {α β : Type} (q : α → α → Bool) (l : List (α × β)) : Prop := l.Pairwise (fun a b => q a.1 b.1 = false)
theorem put_uniq {α β : Type} {q : α → α → Bool} (hi : ∀ x y, q x y = true ↔ x = y) (k : α) (v : β) : ∀ l : List (α × β), Uniq q l → Uniq q (putL q k v l)
  | [], _ => by
    unfold putL Uniq
    exact List.pairwise_singleton _ _
  | e :: l, h => by
    obtain ⟨h1, h2⟩ := List.pairwise_cons.1 h
    unfold putL
    split
    · rename_i hq
      have e2 := (hi _ _).1 hq
      exact List.pairwise_cons.2 ⟨fun b hb => by show q k b.1 = false; rw [e2]; exact h1 b hb, h2⟩
    · rename_i hq
      refine List.pairwise_cons.2 ⟨fun b hb => ?_, put_uniq hi k v l h2⟩
      rcases put_mem k v l b hb with h3 | ⟨p', h3, h4⟩
      · rw [h3, Bool.eq_false_iff]
        intro h5
        exact hq ((hi _ _).2 ((hi _ _).1 h5).symm)
      · rw [← h4]
        exact h1 p' h3
theorem find_uniq {α β : Type} {q : α → α → Bool} (hi : ∀ x y, q x y = true ↔ x = y) : ∀ (l : List (α × β)), Uniq q l → ∀ p ∈ l, findV q p.1 l = some p.2
  | [], _, p, hp => by cases hp
  | e :: l, h, p, hp => by
    obtain ⟨h1, h2⟩ := List.pairwise_cons.1 h
    rw [findV_cons]
    rcases List.mem_cons.1 hp with rfl | hp
    · rw [if_pos ((hi _ _).2 rfl)]
    · have hn : ¬ q p.1 e.1 = true := fun h3 => by
        have := h1 p hp
        rw [(hi _ _).2 ((hi _ _).1 h3).symm] at this
        cases this
      rw [if_neg hn]
      exact find_uniq hi l h2 p hp
theorem find_mem {α β : Type} {q : α → α → Bool} {k : α} {v : β} : ∀ (l : List (α × β)), findV q k l = some v → ∃ p ∈ l, p.2 = v
  | [], h => by cases h
  | e :: l, h => by
    rw [findV_cons] at h
    split at h
    · exact ⟨e, List.mem_cons_self, Option.some.inj h⟩
    · obtain ⟨p, h1, h2⟩ := find_mem l h
      exact ⟨p, List.mem_cons_of_mem _ h1, h2⟩
theorem inc_uniq {α : Type} {q : α → α → Bool} (hi : ∀ x y, q x y = true ↔ x = y) (d : Int) (l : List α) {m : List (α × Int)} (hm : Uniq q m) : ∀ n, Uniq q (incN q d l m n)
  | 0 => hm
  | n + 1 => by
    unfold incN
    split
    · exact inc_uniq hi d l hm n
    · exact put_uniq hi _ _ _ (inc_uniq hi d l hm n)
theorem alike_val {α : Type} {q : α → α → Bool} (hi : ∀ x y, q x y = true ↔ x = y) (l k : List α) (x : α) : (findV q x (alikeM q l k)).getD 0 = (l.countP (q x) : Int) - k.countP (q x) := by
  unfold alikeM
  rw [incN_val hi, incN_val hi, List.take_length, List.take_length]
  have e0 : (findV q x ([] : List (α × Int))).getD 0 = 0 := rfl
  rw [e0]
  omega
theorem alike_iff {α : Type} {q : α → α → Bool} (hi : ∀ x y, q x y = true ↔ x = y) (l k : List α) : alikeB q l k = true ↔ ∀ x, l.countP (q x) = k.countP (q x) := by
  have hu : Uniq q (alikeM q l k) := by
    unfold alikeM
    exact inc_uniq hi _ _ (inc_uniq hi _ _ List.Pairwise.nil _) _
  unfold alikeB
  rw [List.all_eq_true]
  constructor
  · intro h x
    have hv := alike_val hi l k x
    cases hf : findV q x (alikeM q l k) with
    | none => rw [hf] at hv; simp only [Option.getD_none] at hv; omega
    | some v =>
      obtain ⟨p, hp, e⟩ := find_mem _ hf
      have := of_decide_eq_true (h p hp)
      rw [hf] at hv
      simp only [Option.getD_some] at hv
      omega
  · intro h p hp
    have hv := alike_val hi l k p.1
    rw [find_uniq hi _ hu p hp, h p.1] at hv
    simp only [Option.getD_some] at hv
    exact decide_eq_true (by omega)
theorem perm_counts {α : Type} [DecidableEq α] : ∀ (l k : List α), l.length = k.length → (∀ x ∈ l, l.count x = k.count x) → l.Perm k
  | [], k, h, _ => by
    have : k = [] := List.length_eq_zero_iff.1 h.symm
    rw [this]
  | x :: l, k, h, hc => by
    have hx := hc x List.mem_cons_self
    rw [List.count_cons_self] at hx
    have hm : x ∈ k := List.count_pos_iff.1 (by omega)
    have hp := List.perm_cons_erase hm
    refine List.Perm.trans ?_ hp.symm
    refine List.Perm.cons x (perm_counts l (k.erase x) ?_ fun y hy => ?_)
    · rw [List.length_erase_of_mem hm]
      simp only [List.length_cons] at h
      omega
    · have h1 := hc y (List.mem_cons_of_mem _ hy)
      have h2 := hp.count_eq y
      rw [h1.symm, List.count_cons, List.count_cons] at h2
      omega
theorem count_q {α : Type} [DecidableEq α] {q : α → α → Bool} (hi : ∀ x y, q x y = true ↔ x = y) (l : List α) (x : α) : l.countP (q x) = l.count x := by
  unfold List.count
  refine List.countP_congr fun y _ => ?_
  rw [hi, beq_iff_eq]
  exact eq_comm
theorem alike_perm {α : Type} [DecidableEq α] {q : α → α → Bool} (hi : ∀ x y, q x y = true ↔ x = y) (l k : List α) : alikeB q l k = true ↔ l.Perm k := by
  rw [alike_iff hi, List.perm_iff_count]
  constructor
  · intro h x
    rw [← count_q hi, ← count_q hi]
    exact h x
  · intro h x
    rw [count_q hi, count_q hi]
    exact h x
/-- How the reference tells it. -/
def alikeR {α : Type} (q : α → α → Bool) (l k : List α) : Bool := decide (l.length = k.length) && l.all (fun x => decide (l.countP (q x) = k.countP (q x)))
theorem alikeR_eq {α : Type} [DecidableEq α] {q : α → α → Bool} (hi : ∀ x y, q x y = true ↔ x = y) (l k : List α) : alikeR q l k = alikeB q l k := by
  rw [Bool.eq_iff_iff, alike_perm hi]
  unfold alikeR
  rw [Bool.and_eq_true, decide_eq_true_iff, List.all_eq_true]
  constructor
  · rintro ⟨h1, h2⟩
    refine perm_counts l k h1 fun x hx => ?_
    have := of_decide_eq_true (h2 x hx)
    rwa [count_q hi, count_q hi] at this
  · intro h
    exact ⟨h.length_eq, fun x _ => decide_eq_true (h.countP_eq _)⟩

theorem rcopy_ok (c : SConf) (l : CL) (w : World) (hc : ConfAt w c l) (hs : l.Small) : Calls Tryz.prog 11 #[eConf.val c] w (RetN w (fun _ : CB => True) (fun x => eConf.val (x.c c.default)) (fun x => x.R l)) := by
  obtain ⟨hl0, hl1, hl2, hl3, hl4⟩ := hs
  refine enter0 38 Tryz.func11 rfl rfl (Nat.le_of_ble_eq_true rfl) ?_
  refine seq (region (cons (box (E := eConf) (.t rfl) (fun b1 => ?_))))
  refine cons (alloc z28 (fun b2 => ?_))
  refine nil (pN (seq (region (cons (opv (Ev.fieldAddr (o := 5) (.t rfl) (by kernel_rfl)) ?_)))))
  refine cons (opv (Ev.load (xv := c.default) ty3 (.t rfl) (ptsVar (by repeat first | exact mH | apply mT | apply mA) SConf.l_default)) ?_)
  refine cons (opv (Ev.buildS (fs := _) (places := [(0, 1), (1, 1), (2, 1), (3, 1), (4, 1), (5, 1)]) z28 rfl Tryz.underlying28 (by kernel_rfl) (.cons (.t rfl) .nil) (Fills.cons SConf.l_default rfl Fills.nil)) ?_)
  refine cons (alloc z28 (fun b3 => ?_))
  refine cons (stv ty28 (Lens.id _) (.t rfl) (.t rfl) ?_)
  refine nil (pN (seq (takeNil iE 3 ?_)))
  refine region (cons (opv (Ev.fieldAddr (o := 0) (.t rfl) (by kernel_rfl)) ?_))
  refine cons (opv (Ev.ldv ty22 (.t rfl) SConf.l_ports) ?_)
  refine cons (opv (Ev.fieldAddr (o := 0) (.t rfl) (by kernel_rfl)) ?_)
  refine cons (opv (Ev.load (xv := c.ports) ty22 (.t rfl) (ptsVar (by repeat first | exact mH | apply mT | apply mA) SConf.l_ports)) ?_)
  refine cons (append (E := iE) Tryz.underlying22 ty3 rfl zb3 zs3 (.t rfl) (.t rfl) (fun _ => by repeat first | exact Upd.head | apply Upd.tail | apply Upd.right) (fun w I => (hc.keep0 I.keeps).ps) (⟨by (show _ ≤ 9223372036854775807); simp only [List.length_nil]; omega, by simp only [List.length_nil]; omega⟩) (fun v4 => ?_))
  refine cons (opv (Ev.fieldAddr (o := 0) (.t rfl) (by kernel_rfl)) ?_)
  refine cons (stv ty22 SConf.l_ports (.t rfl) (.t rfl) ?_)
  refine nil (pN (seq (takeNil eRoute 52 ?_)))
  refine region (cons (opv (Ev.fieldAddr (o := 1) (.t rfl) (by kernel_rfl)) ?_))
  refine cons (opv (Ev.ldv ty23 (.t rfl) SConf.l_routes) ?_)
  refine cons (opv (Ev.fieldAddr (o := 1) (.t rfl) (by kernel_rfl)) ?_)
  refine cons (opv (Ev.load (xv := c.routes) ty23 (.t rfl) (ptsVar (by repeat first | exact mH | apply mT | apply mA) SConf.l_routes)) ?_)
  refine cons (append (E := eRoute) Tryz.underlying23 ty52 rfl zb52 zs52 (.t rfl) (.t rfl) (fun _ => by repeat first | exact Upd.head | apply Upd.tail | apply Upd.right) (fun w I => (hc.keep0 I.keeps).rs) (⟨by (show _ ≤ 9223372036854775807); simp only [List.length_nil]; omega, by simp only [List.length_nil]; omega⟩) (fun v5 => ?_))
  refine cons (opv (Ev.fieldAddr (o := 1) (.t rfl) (by kernel_rfl)) ?_)
  refine cons (stv ty23 SConf.l_routes (.t rfl) (.t rfl) ?_)
  refine nil (pN (seq (takeNil eRule 76 ?_)))
  refine region (cons (opv (Ev.fieldAddr (o := 2) (.t rfl) (by kernel_rfl)) ?_))
  refine cons (opv (Ev.ldv ty24 (.t rfl) SConf.l_rules) ?_)
  refine cons (opv (Ev.fieldAddr (o := 2) (.t rfl) (by kernel_rfl)) ?_)
  refine cons (opv (Ev.load (xv := c.rules) ty24 (.t rfl) (ptsVar (by repeat first | exact mH | apply mT | apply mA) SConf.l_rules)) ?_)
  refine cons (append (E := eRule) Tryz.underlying24 ty76 rfl zb76 zs76 (.t rfl) (.t rfl) (fun _ => by repeat first | exact Upd.head | apply Upd.tail | apply Upd.right) (fun w I => (hc.keep0 I.keeps).us) (⟨by (show _ ≤ 9223372036854775807); simp only [List.length_nil]; omega, by simp only [List.length_nil]; omega⟩) (fun v6 => ?_))
  refine cons (opv (Ev.fieldAddr (o := 2) (.t rfl) (by kernel_rfl)) ?_)
  refine cons (stv ty24 SConf.l_rules (.t rfl) (.t rfl) ?_)
  refine nil (pN (seq (takeNil eMeterConf 57 ?_)))
  refine region (cons (opv (Ev.fieldAddr (o := 3) (.t rfl) (by kernel_rfl)) ?_))
  refine cons (opv (Ev.ldv ty25 (.t rfl) SConf.l_meters) ?_)
  refine cons (opv (Ev.fieldAddr (o := 3) (.t rfl) (by kernel_rfl)) ?_)
  refine cons (opv (Ev.load (xv := c.meters) ty25 (.t rfl) (ptsVar (by repeat first | exact mH | apply mT | apply mA) SConf.l_meters)) ?_)
  refine cons (append (E := eMeterConf) Tryz.underlying25 ty57 rfl zb57 zs57 (.t rfl) (.t rfl) (fun _ => by repeat first | exact Upd.head | apply Upd.tail | apply Upd.right) (fun w I => (hc.keep0 I.keeps).ms) (⟨by (show _ ≤ 9223372036854775807); simp only [List.length_nil]; omega, by simp only [List.length_nil]; omega⟩) (fun v7 => ?_))
  refine cons (opv (Ev.fieldAddr (o := 3) (.t rfl) (by kernel_rfl)) ?_)
  refine cons (stv ty25 SConf.l_meters (.t rfl) (.t rfl) ?_)
  refine nil (pN (seq (takeNil eMirrorConf 59 ?_)))
  refine region (cons (opv (Ev.fieldAddr (o := 4) (.t rfl) (by kernel_rfl)) ?_))
  refine cons (opv (Ev.ldv ty26 (.t rfl) SConf.l_mirrors) ?_)
  refine cons (opv (Ev.fieldAddr (o := 4) (.t rfl) (by kernel_rfl)) ?_)
  refine cons (opv (Ev.load (xv := c.mirrors) ty26 (.t rfl) (ptsVar (by repeat first | exact mH | apply mT | apply mA) SConf.l_mirrors)) ?_)
  refine cons (append (E := eMirrorConf) Tryz.underlying26 ty59 rfl zb59 zs59 (.t rfl) (.t rfl) (fun _ => by repeat first | exact Upd.head | apply Upd.tail | apply Upd.right) (fun w I => (hc.keep0 I.keeps).xs) (⟨by (show _ ≤ 9223372036854775807); simp only [List.length_nil]; omega, by simp only [List.length_nil]; omega⟩) (fun v8 => ?_))
  refine cons (opv (Ev.fieldAddr (o := 4) (.t rfl) (by kernel_rfl)) ?_)
  refine cons (stv ty26 SConf.l_mirrors (.t rfl) (.t rfl) ?_)
  refine nil (pN (seq (region (cons (opv (Ev.ldv ty28 (.t rfl) (Lens.id _)) ?_)))))
  refine cons (stv ty28 (Lens.id _) (.t rfl) (.t rfl) ?_)
  refine nil (pN (ret (done rfl (.cell rfl (fun w I => run_loadVar_pts ty28 (ptsVar (by repeat first | exact mH | apply mT | apply mA) (Lens.id _) w I)) .nil) (fun w I => ?_))))
  exact retNP (⟨v4, v5, v6, v7, v8⟩ : CB) trivial rfl (by repeat first | exact SubP.nil | refine SubP.cons (by repeat first | exact Rem.head | apply Rem.tail) ?_) w I

theorem sameFaults_ok (u v : Value) (a b : List SFault) (w : World) (ha : IsSl eFault w u a) (hb : IsSl eFault w v b) : Calls Tryz.prog 14 #[u, v] w (RetV w (.bool (decide (a = b)))) := by
  have hal := ha.le
  have hbl := hb.le
  refine enter0 26 Tryz.func14 rfl rfl (Nat.le_of_ble_eq_true rfl) ?_
  refine seq (region (cons (opv (Ev.assign (.c (v := .bool false) rfl)) ?_)))
  refine nil (pN (seq (seq (region (cons (opv (Ev.move (.t rfl)) (cons (opv (Ev.len Tryz.underlying31 (.t rfl) (fun w I => ha.keep0 I.keeps)) ?_))))))))
  refine cons (opv (Ev.move (.t rfl)) (cons (opv (Ev.len Tryz.underlying31 (.t rfl) (fun w I => hb.keep0 I.keeps)) ?_)))
  refine cons (opv (Ev.neq_i (.t rfl) (.t rfl)) ?_)
  refine nil (pN ?_)
  first | refine condD rfl (fun hne => ?_) (fun hlen => ?_) | refine cond rfl (fun hne => ?_) (fun hlen => ?_)
  · try simp only [nb] at hne
    refine seq (region (cons (opv (Ev.assign (.c (v := .bool false) rfl)) ?_)))
    refine nil (pN (ret (pR (done rfl (.tmp rfl .nil) (retE ?_)))))
    exact bF (fun e => by subst e; omega)
  · try simp only [nb] at hlen
    refine skip (pN (seq (seq (region (cons (opv (Ev.assign (.c (v := I 0) rfl)) ?_))))))
    refine nil (pN (block (loop (X := Int) (fun x : Int => (0 ≤ x ∧ x ≤ a.length) ∧ (a.take x.toNat = b.take x.toNat)) (fun x : Int => [(0, true, u), (1, true, v), (5, true, I x)]) (fun x : Int => []) (fun x : Int => (a.length - x).toNat) (0) ⟨?_, ?_⟩ (by repeat first | exact Sub.nil | refine Sub.cons rfl ?_) (by repeat first | exact sR | exact sN | apply sC | apply sS | apply sA) (fun x hx => ?_))))
    · omega
    · rfl
    obtain ⟨i, rfl⟩ : ∃ y, y = x := ⟨x, rfl⟩
    obtain ⟨hi, ht⟩ : (0 ≤ i ∧ i ≤ a.length) ∧ (a.take i.toNat = b.take i.toNat) := hx
    show Sat _ _ [(0, true, u), (1, true, v), (5, true, I i)] []
    refine seq (seq (region (cons (opv (Ev.move (.t rfl)) (cons (opv (Ev.move (.t rfl)) (cons (opv (Ev.len Tryz.underlying31 (.t rfl) (fun w I => ha.keep0 I.keeps)) ?_))))))))
    refine cons (opv (Ev.lss_i (.t rfl) (.t rfl)) ?_)
    refine nil (pN ?_)
    first | refine condD rfl (fun hlt => ?_) (fun hge => ?_) | refine cond rfl (fun hlt => ?_) (fun hge => ?_)
    · try simp only [nb] at hlt
      refine skip (pN (seq (block (seq (draw' (by kernel_rfl) ?_)))))
      refine tk 0 rfl (Ev.move (.t rfl)) ?_
      refine tk 1 rfl (Ev.move (.t rfl)) ?_
      refine tk 2 rfl (Ev.indexAddr Tryz.underlying31 ty37 (.t rfl) (.t rfl) (fun w I => ha.keep0 I.keeps) (fun _ => by omega)) ?_
      refine tk 3 rfl (Ev.loadS0 ty37 (.t rfl) (fun w I => ha.keep0 I.keeps) (fun _ => by omega)) ?_
      refine tk 4 rfl (Ev.move (.t rfl)) ?_
      refine tk 5 rfl (Ev.move (.t rfl)) ?_
      refine tk 6 rfl (Ev.indexAddr Tryz.underlying31 ty37 (.t rfl) (.t rfl) (fun w I => hb.keep0 I.keeps) (fun _ => by omega)) ?_
      refine tk 7 rfl (Ev.loadS0 ty37 (.t rfl) (fun w I => hb.keep0 I.keeps) (fun _ => by omega)) ?_
      refine tk 8 rfl (Ev.neqS rfl eqok37 rfl (by kernel_rfl) (.t rfl) (.t rfl)) ?_
      refine ovr (pN ?_)
      first | refine condD rfl (fun h2 => ?_) (fun h2 => ?_) | refine cond rfl (fun h2 => ?_) (fun h2 => ?_)
      · refine seq (region (cons (opv (Ev.assign (.c (v := .bool false) rfl)) ?_)))
        refine nil (pN (ret (bR (pR (pR (bR (pR (done rfl (.tmp rfl .nil) (retE ?_)))))))))
        exact bF (fun e => by subst e; simp at h2)
      · refine skip (bN (pN (region (cons (opv (Ev.move (.t rfl)) (cons (opv (Ev.add_i (.t rfl) (.c (v := I 1) rfl) (fun _ => by omega)) ?_)))))))
        refine cons (opv (Ev.assign (.t rfl)) (nil (pN (next (X := Int) (i + 1) ⟨?_, ?_⟩ ?_ (by repeat first | exact Sub.nil | refine Sub.cons rfl ?_) (by repeat first | exact sR | exact sN | apply sC | apply sS | apply sA)))))
        · try dsimp only
          omega
        · try dsimp only
          have h2c : a.getD i.toNat eFault.zero = b.getD i.toNat eFault.zero := by simpa using h2
          rw [take_snoc a i hi.1 (by omega) eFault.zero, take_snoc b i hi.1 (by omega) eFault.zero, ht, h2c]
        · try dsimp only
          omega
    · try simp only [nb] at hge
      refine exit (pX (pX (bX (pN (seq (region (cons (opv (Ev.assign (.c (v := .bool true) rfl)) ?_))))))))
      refine nil (pN (ret (done rfl (.tmp rfl .nil) (retE ?_))))
      exact bT (by
        have e : i.toNat = a.length := by omega
        rw [e, List.take_length, List.take_of_length_le (by omega)] at ht
        exact ht)

theorem samePorts_ok (u v : Value) (a b : List Int) (w : World) (ha : IsSl iE w u a) (hb : IsSl iE w v b) : Calls Tryz.prog 58 #[u, v] w (RetV w (.bool (decide (a = b)))) := by
  have hal := ha.le
  have hbl := hb.le
  refine enter0 26 Tryz.func58 rfl rfl (Nat.le_of_ble_eq_true rfl) ?_
  refine seq (region (cons (opv (Ev.assign (.c (v := .bool false) rfl)) ?_)))
  refine nil (pN (seq (seq (region (cons (opv (Ev.move (.t rfl)) (cons (opv (Ev.len Tryz.underlying22 (.t rfl) (fun w I => ha.keep0 I.keeps)) ?_))))))))
  refine cons (opv (Ev.move (.t rfl)) (cons (opv (Ev.len Tryz.underlying22 (.t rfl) (fun w I => hb.keep0 I.keeps)) ?_)))
  refine cons (opv (Ev.neq_i (.t rfl) (.t rfl)) ?_)
  refine nil (pN ?_)
  first | refine condD rfl (fun hne => ?_) (fun hlen => ?_) | refine cond rfl (fun hne => ?_) (fun hlen => ?_)
  · try simp only [nb] at hne
    refine seq (region (cons (opv (Ev.assign (.c (v := .bool false) rfl)) ?_)))
    refine nil (pN (ret (pR (done rfl (.tmp rfl .nil) (retE ?_)))))
    exact bF (fun e => by subst e; omega)
  · try simp only [nb] at hlen
    refine skip (pN (seq (seq (region (cons (opv (Ev.assign (.c (v := I 0) rfl)) ?_))))))
    refine nil (pN (block (loop (X := Int) (fun x : Int => (0 ≤ x ∧ x ≤ a.length) ∧ (a.take x.toNat = b.take x.toNat)) (fun x : Int => [(0, true, u), (1, true, v), (5, true, I x)]) (fun x : Int => []) (fun x : Int => (a.length - x).toNat) (0) ⟨?_, ?_⟩ (by repeat first | exact Sub.nil | refine Sub.cons rfl ?_) (by repeat first | exact sR | exact sN | apply sC | apply sS | apply sA) (fun x hx => ?_))))
    · omega
    · rfl
    obtain ⟨i, rfl⟩ : ∃ y, y = x := ⟨x, rfl⟩
    obtain ⟨hi, ht⟩ : (0 ≤ i ∧ i ≤ a.length) ∧ (a.take i.toNat = b.take i.toNat) := hx
    show Sat _ _ [(0, true, u), (1, true, v), (5, true, I i)] []
    refine seq (seq (region (cons (opv (Ev.move (.t rfl)) (cons (opv (Ev.move (.t rfl)) (cons (opv (Ev.len Tryz.underlying22 (.t rfl) (fun w I => ha.keep0 I.keeps)) ?_))))))))
    refine cons (opv (Ev.lss_i (.t rfl) (.t rfl)) ?_)
    refine nil (pN ?_)
    first | refine condD rfl (fun hlt => ?_) (fun hge => ?_) | refine cond rfl (fun hlt => ?_) (fun hge => ?_)
    · try simp only [nb] at hlt
      refine skip (pN (seq (block (seq (draw' (by kernel_rfl) ?_)))))
      refine tk 0 rfl (Ev.move (.t rfl)) ?_
      refine tk 1 rfl (Ev.move (.t rfl)) ?_
      refine tk 2 rfl (Ev.indexAddr Tryz.underlying22 ty3 (.t rfl) (.t rfl) (fun w I => ha.keep0 I.keeps) (fun _ => by omega)) ?_
      refine tk 3 rfl (Ev.loadS0 ty3 (.t rfl) (fun w I => ha.keep0 I.keeps) (fun _ => by omega)) ?_
      refine tk 4 rfl (Ev.move (.t rfl)) ?_
      refine tk 5 rfl (Ev.move (.t rfl)) ?_
      refine tk 6 rfl (Ev.indexAddr Tryz.underlying22 ty3 (.t rfl) (.t rfl) (fun w I => hb.keep0 I.keeps) (fun _ => by omega)) ?_
      refine tk 7 rfl (Ev.loadS0 ty3 (.t rfl) (fun w I => hb.keep0 I.keeps) (fun _ => by omega)) ?_
      refine tk 8 rfl (Ev.neq_i (.t rfl) (.t rfl)) ?_
      refine ovr (pN ?_)
      first | refine condD rfl (fun h2 => ?_) (fun h2 => ?_) | refine cond rfl (fun h2 => ?_) (fun h2 => ?_)
      · refine seq (region (cons (opv (Ev.assign (.c (v := .bool false) rfl)) ?_)))
        refine nil (pN (ret (bR (pR (pR (bR (pR (done rfl (.tmp rfl .nil) (retE ?_)))))))))
        exact bF (fun e => by subst e; simp at h2)
      · refine skip (bN (pN (region (cons (opv (Ev.move (.t rfl)) (cons (opv (Ev.add_i (.t rfl) (.c (v := I 1) rfl) (fun _ => by omega)) ?_)))))))
        refine cons (opv (Ev.assign (.t rfl)) (nil (pN (next (X := Int) (i + 1) ⟨?_, ?_⟩ ?_ (by repeat first | exact Sub.nil | refine Sub.cons rfl ?_) (by repeat first | exact sR | exact sN | apply sC | apply sS | apply sA)))))
        · try dsimp only
          omega
        · try dsimp only
          have h2c : a.getD i.toNat iE.zero = b.getD i.toNat iE.zero := by simpa using h2
          rw [take_snoc a i hi.1 (by omega) iE.zero, take_snoc b i hi.1 (by omega) iE.zero, ht, h2c]
        · try dsimp only
          omega
    · try simp only [nb] at hge
      refine exit (pX (pX (bX (pN (seq (region (cons (opv (Ev.assign (.c (v := .bool true) rfl)) ?_))))))))
      refine nil (pN (ret (done rfl (.tmp rfl .nil) (retE ?_))))
      exact bT (by
        have e : i.toNat = a.length := by omega
        rw [e, List.take_length, List.take_of_length_le (by omega)] at ht
        exact ht)

theorem sameRules_ok (u v : Value) (a b : List SRule) (w : World) (ha : IsSl eRule w u a) (hb : IsSl eRule w v b) : Calls Tryz.prog 59 #[u, v] w (RetV w (.bool (decide (a = b)))) := by
  have hal := ha.le
  have hbl := hb.le
  refine enter0 26 Tryz.func59 rfl rfl (Nat.le_of_ble_eq_true rfl) ?_
  refine seq (region (cons (opv (Ev.assign (.c (v := .bool false) rfl)) ?_)))
  refine nil (pN (seq (seq (region (cons (opv (Ev.move (.t rfl)) (cons (opv (Ev.len Tryz.underlying24 (.t rfl) (fun w I => ha.keep0 I.keeps)) ?_))))))))
  refine cons (opv (Ev.move (.t rfl)) (cons (opv (Ev.len Tryz.underlying24 (.t rfl) (fun w I => hb.keep0 I.keeps)) ?_)))
  refine cons (opv (Ev.neq_i (.t rfl) (.t rfl)) ?_)
  refine nil (pN ?_)
  first | refine condD rfl (fun hne => ?_) (fun hlen => ?_) | refine cond rfl (fun hne => ?_) (fun hlen => ?_)
  · try simp only [nb] at hne
    refine seq (region (cons (opv (Ev.assign (.c (v := .bool false) rfl)) ?_)))
    refine nil (pN (ret (pR (done rfl (.tmp rfl .nil) (retE ?_)))))
    exact bF (fun e => by subst e; omega)
  · try simp only [nb] at hlen
    refine skip (pN (seq (seq (region (cons (opv (Ev.assign (.c (v := I 0) rfl)) ?_))))))
    refine nil (pN (block (loop (X := Int) (fun x : Int => (0 ≤ x ∧ x ≤ a.length) ∧ (a.take x.toNat = b.take x.toNat)) (fun x : Int => [(0, true, u), (1, true, v), (5, true, I x)]) (fun x : Int => []) (fun x : Int => (a.length - x).toNat) (0) ⟨?_, ?_⟩ (by repeat first | exact Sub.nil | refine Sub.cons rfl ?_) (by repeat first | exact sR | exact sN | apply sC | apply sS | apply sA) (fun x hx => ?_))))
    · omega
    · rfl
    obtain ⟨i, rfl⟩ : ∃ y, y = x := ⟨x, rfl⟩
    obtain ⟨hi, ht⟩ : (0 ≤ i ∧ i ≤ a.length) ∧ (a.take i.toNat = b.take i.toNat) := hx
    show Sat _ _ [(0, true, u), (1, true, v), (5, true, I i)] []
    refine seq (seq (region (cons (opv (Ev.move (.t rfl)) (cons (opv (Ev.move (.t rfl)) (cons (opv (Ev.len Tryz.underlying24 (.t rfl) (fun w I => ha.keep0 I.keeps)) ?_))))))))
    refine cons (opv (Ev.lss_i (.t rfl) (.t rfl)) ?_)
    refine nil (pN ?_)
    first | refine condD rfl (fun hlt => ?_) (fun hge => ?_) | refine cond rfl (fun hlt => ?_) (fun hge => ?_)
    · try simp only [nb] at hlt
      refine skip (pN (seq (block (seq (draw' (by kernel_rfl) ?_)))))
      refine tk 0 rfl (Ev.move (.t rfl)) ?_
      refine tk 1 rfl (Ev.move (.t rfl)) ?_
      refine tk 2 rfl (Ev.indexAddr Tryz.underlying24 ty76 (.t rfl) (.t rfl) (fun w I => ha.keep0 I.keeps) (fun _ => by omega)) ?_
      refine tk 3 rfl (Ev.loadS0 ty76 (.t rfl) (fun w I => ha.keep0 I.keeps) (fun _ => by omega)) ?_
      refine tk 4 rfl (Ev.move (.t rfl)) ?_
      refine tk 5 rfl (Ev.move (.t rfl)) ?_
      refine tk 6 rfl (Ev.indexAddr Tryz.underlying24 ty76 (.t rfl) (.t rfl) (fun w I => hb.keep0 I.keeps) (fun _ => by omega)) ?_
      refine tk 7 rfl (Ev.loadS0 ty76 (.t rfl) (fun w I => hb.keep0 I.keeps) (fun _ => by omega)) ?_
      refine tk 8 rfl (Ev.neqS rfl eqok76 rfl (by kernel_rfl) (.t rfl) (.t rfl)) ?_
      refine ovr (pN ?_)
      first | refine condD rfl (fun h2 => ?_) (fun h2 => ?_) | refine cond rfl (fun h2 => ?_) (fun h2 => ?_)
      · refine seq (region (cons (opv (Ev.assign (.c (v := .bool false) rfl)) ?_)))
        refine nil (pN (ret (bR (pR (pR (bR (pR (done rfl (.tmp rfl .nil) (retE ?_)))))))))
        exact bF (fun e => by subst e; simp at h2)
      · refine skip (bN (pN (region (cons (opv (Ev.move (.t rfl)) (cons (opv (Ev.add_i (.t rfl) (.c (v := I 1) rfl) (fun _ => by omega)) ?_)))))))
        refine cons (opv (Ev.assign (.t rfl)) (nil (pN (next (X := Int) (i + 1) ⟨?_, ?_⟩ ?_ (by repeat first | exact Sub.nil | refine Sub.cons rfl ?_) (by repeat first | exact sR | exact sN | apply sC | apply sS | apply sA)))))
        · try dsimp only
          omega
        · try dsimp only
          have h2c : a.getD i.toNat eRule.zero = b.getD i.toNat eRule.zero := by simpa using h2
          rw [take_snoc a i hi.1 (by omega) eRule.zero, take_snoc b i hi.1 (by omega) eRule.zero, ht, h2c]
        · try dsimp only
          omega
    · try simp only [nb] at hge
      refine exit (pX (pX (bX (pN (seq (region (cons (opv (Ev.assign (.c (v := .bool true) rfl)) ?_))))))))
      refine nil (pN (ret (done rfl (.tmp rfl .nil) (retE ?_))))
      exact bT (by
        have e : i.toNat = a.length := by omega
        rw [e, List.take_length, List.take_of_length_le (by omega)] at ht
        exact ht)

theorem rroutes_n (u : Value) (a : List SRoute) (y : SRoute) (w : World) (ha : IsSl eRoute w u a) : Calls Tryz.prog 60 #[u, eRoute.val y] w (RetV w (I (a.countP (SRoute.eqb y) : Nat))) := by
  have hal := ha.le
  refine enter0 22 Tryz.func60 rfl rfl (Nat.le_of_ble_eq_true rfl) ?_
  refine seq (region (cons (box (E := eRoute) (.t rfl) (fun b1 => ?_))))
  refine cons (opv (Ev.assign (.c (v := I 0) rfl)) ?_)
  refine nil (pN (seq (region (cons (opv (Ev.assign (.c (v := I 0) rfl)) ?_)))))
  refine nil (pN (seq (seq (region (cons (opv (Ev.assign (.c (v := I 0) rfl)) ?_))))))
  refine nil (pN (block (loop (X := Int × Nat) (fun x : Int × Nat => (0 ≤ x.1 ∧ x.1 ≤ a.length) ∧ (x.2 = (a.take x.1.toNat).countP (SRoute.eqb y))) (fun x : Int × Nat => [(0, true, u), (3, true, .pointer (some ⟨b1, 0, none⟩)), (5, true, I (x.2 : Nat)), (6, true, I x.1)]) (fun x : Int × Nat => [Var b1 eRoute y 52]) (fun x : Int × Nat => (a.length - x.1).toNat) (0, 0) ⟨?_, ?_⟩ (by repeat first | exact Sub.nil | refine Sub.cons rfl ?_) (by repeat first | exact sR | exact sN | apply sC | apply sS | apply sA) (fun x hx => ?_))))
  · omega
  · rfl
  obtain ⟨i, n⟩ := x
  obtain ⟨hi, hn⟩ : (0 ≤ i ∧ i ≤ a.length) ∧ (n = (a.take i.toNat).countP (SRoute.eqb y)) := hx
  show Sat _ _ [(0, true, u), (3, true, .pointer (some ⟨b1, 0, none⟩)), (5, true, I (n : Nat)), (6, true, I i)] [Var b1 eRoute y 52]
  have hnl : n ≤ i.toNat := by rw [hn]; exact Nat.le_trans List.countP_le_length (by simp; omega)
  refine seq (seq (region (cons (opv (Ev.move (.t rfl)) (cons (opv (Ev.move (.t rfl)) (cons (opv (Ev.len Tryz.underlying23 (.t rfl) (fun w I => ha.keep0 I.keeps)) ?_))))))))
  refine cons (opv (Ev.lss_i (.t rfl) (.t rfl)) ?_)
  refine nil (pN ?_)
  first | refine condD rfl (fun h0 => ?_) (fun h0 => ?_) | refine cond rfl (fun h0 => ?_) (fun h0 => ?_)
  · try simp only [nb] at h0
    refine skip (pN (seq (block (seq (draw' (by kernel_rfl) ?_)))))
    refine tk 0 rfl (Ev.move (.t rfl)) ?_
    refine tk 1 rfl (Ev.move (.t rfl)) ?_
    refine tk 2 rfl (Ev.indexAddr Tryz.underlying23 ty52 (.t rfl) (.t rfl) (fun w I => ha.keep0 I.keeps) (fun _ => by omega)) ?_
    refine tk 3 rfl (Ev.loadS0 ty52 (.t rfl) (fun w I => ha.keep0 I.keeps) (fun _ => by omega)) ?_
    refine tk 4 rfl (Ev.load (xv := y) ty52 (.t rfl) (ptsVar (by repeat first | exact mH | apply mT | apply mA) (Lens.id _))) ?_
    refine tk 5 rfl (Ev.eqlS rfl eqok52 rfl (by kernel_rfl) (.t rfl) (.t rfl)) ?_
    refine ovr (pN ?_)
    first | refine condD rfl (fun h1 => ?_) (fun h1 => ?_) | refine cond rfl (fun h1 => ?_) (fun h1 => ?_)
    · have hst : n + 1 = (a.take (i + 1).toNat).countP (SRoute.eqb y) := by
        rw [take_snoc a i hi.1 (by omega) eRoute.zero, List.countP_append, ← hn]
        have e : a.getD i.toNat eRoute.zero = y := (SRoute.eqb_iff _ _).1 (by simpa using h1)
        rw [e, List.countP_singleton, (SRoute.eqb_iff _ _).2 rfl]
        rfl
      refine region (cons (opv (Ev.move (.t rfl)) (cons (opv (Ev.to (v' := I ((n + 1 : Nat) : Int)) (Ev.add_i (.t rfl) (.c (v := I 1) rfl) (fun _ => by omega)) (congrArg I (by omega))) ?_))))
      refine cons (opv (Ev.assign (.t rfl)) (nil (bN (pN (region (cons (opv (Ev.move (.t rfl)) (cons (opv (Ev.add_i (.t rfl) (.c (v := I 1) rfl) (fun _ => by omega)) ?_)))))))))
      refine cons (opv (Ev.assign (.t rfl)) (nil (pN (next (X := Int × Nat) (i + 1, _) ⟨?_, ?_⟩ ?_ (by repeat first | exact Sub.nil | refine Sub.cons rfl ?_) (by repeat first | exact sR | exact sN | apply sC | apply sS | apply sA)))))
      · try dsimp only
        omega
      · try dsimp only
        exact hst
      · try dsimp only
        omega
    · have hst : n = (a.take (i + 1).toNat).countP (SRoute.eqb y) := by
        rw [take_snoc a i hi.1 (by omega) eRoute.zero, List.countP_append, ← hn]
        have e : ¬ SRoute.eqb y (a.getD i.toNat eRoute.zero) = true := fun h => by
          have h2 := (SRoute.eqb_iff _ _).1 h
          rw [← h2] at h1
          simp [SRoute.eqb_self] at h1
        rw [List.countP_singleton, if_neg e]
        rfl
      refine skip (bN (pN (region (cons (opv (Ev.move (.t rfl)) (cons (opv (Ev.add_i (.t rfl) (.c (v := I 1) rfl) (fun _ => by omega)) ?_)))))))
      refine cons (opv (Ev.assign (.t rfl)) (nil (pN (next (X := Int × Nat) (i + 1, _) ⟨?_, ?_⟩ ?_ (by repeat first | exact Sub.nil | refine Sub.cons rfl ?_) (by repeat first | exact sR | exact sN | apply sC | apply sS | apply sA)))))
      · try dsimp only
        omega
      · try dsimp only
        exact hst
      · try dsimp only
        omega
  · try simp only [nb] at h0
    refine exit (pX (pX (bX (pN (seq (region (cons (opv (Ev.move (.t rfl)) (cons (opv (Ev.assign (.t rfl)) (nil (pN (ret (done rfl (.tmp rfl .nil) (retE ?_)))))))))))))))
    have e : a.take i.toNat = a := List.take_of_length_le (by omega)
    rw [e] at hn
    rw [hn]; rfl

theorem rmeters_n (u : Value) (a : List SMeterConf) (y : SMeterConf) (w : World) (ha : IsSl eMeterConf w u a) : Calls Tryz.prog 61 #[u, eMeterConf.val y] w (RetV w (I (a.countP (SMeterConf.eqb y) : Nat))) := by
  have hal := ha.le
  refine enter0 22 Tryz.func61 rfl rfl (Nat.le_of_ble_eq_true rfl) ?_
  refine seq (region (cons (box (E := eMeterConf) (.t rfl) (fun b1 => ?_))))
  refine cons (opv (Ev.assign (.c (v := I 0) rfl)) ?_)
  refine nil (pN (seq (region (cons (opv (Ev.assign (.c (v := I 0) rfl)) ?_)))))
  refine nil (pN (seq (seq (region (cons (opv (Ev.assign (.c (v := I 0) rfl)) ?_))))))
  refine nil (pN (block (loop (X := Int × Nat) (fun x : Int × Nat => (0 ≤ x.1 ∧ x.1 ≤ a.length) ∧ (x.2 = (a.take x.1.toNat).countP (SMeterConf.eqb y))) (fun x : Int × Nat => [(0, true, u), (3, true, .pointer (some ⟨b1, 0, none⟩)), (5, true, I (x.2 : Nat)), (6, true, I x.1)]) (fun x : Int × Nat => [Var b1 eMeterConf y 57]) (fun x : Int × Nat => (a.length - x.1).toNat) (0, 0) ⟨?_, ?_⟩ (by repeat first | exact Sub.nil | refine Sub.cons rfl ?_) (by repeat first | exact sR | exact sN | apply sC | apply sS | apply sA) (fun x hx => ?_))))
  · omega
  · rfl
  obtain ⟨i, n⟩ := x
  obtain ⟨hi, hn⟩ : (0 ≤ i ∧ i ≤ a.length) ∧ (n = (a.take i.toNat).countP (SMeterConf.eqb y)) := hx
  show Sat _ _ [(0, true, u), (3, true, .pointer (some ⟨b1, 0, none⟩)), (5, true, I (n : Nat)), (6, true, I i)] [Var b1 eMeterConf y 57]
  have hnl : n ≤ i.toNat := by rw [hn]; exact Nat.le_trans List.countP_le_length (by simp; omega)
  refine seq (seq (region (cons (opv (Ev.move (.t rfl)) (cons (opv (Ev.move (.t rfl)) (cons (opv (Ev.len Tryz.underlying25 (.t rfl) (fun w I => ha.keep0 I.keeps)) ?_))))))))
  refine cons (opv (Ev.lss_i (.t rfl) (.t rfl)) ?_)
  refine nil (pN ?_)
  first | refine condD rfl (fun h0 => ?_) (fun h0 => ?_) | refine cond rfl (fun h0 => ?_) (fun h0 => ?_)
  · try simp only [nb] at h0
    refine skip (pN (seq (block (seq (draw' (by kernel_rfl) ?_)))))
    refine tk 0 rfl (Ev.move (.t rfl)) ?_
    refine tk 1 rfl (Ev.move (.t rfl)) ?_
    refine tk 2 rfl (Ev.indexAddr Tryz.underlying25 ty57 (.t rfl) (.t rfl) (fun w I => ha.keep0 I.keeps) (fun _ => by omega)) ?_
    refine tk 3 rfl (Ev.loadS0 ty57 (.t rfl) (fun w I => ha.keep0 I.keeps) (fun _ => by omega)) ?_
    refine tk 4 rfl (Ev.load (xv := y) ty57 (.t rfl) (ptsVar (by repeat first | exact mH | apply mT | apply mA) (Lens.id _))) ?_
    refine tk 5 rfl (Ev.eqlS rfl eqok57 rfl (by kernel_rfl) (.t rfl) (.t rfl)) ?_
    refine ovr (pN ?_)
    first | refine condD rfl (fun h1 => ?_) (fun h1 => ?_) | refine cond rfl (fun h1 => ?_) (fun h1 => ?_)
    · have hst : n + 1 = (a.take (i + 1).toNat).countP (SMeterConf.eqb y) := by
        rw [take_snoc a i hi.1 (by omega) eMeterConf.zero, List.countP_append, ← hn]
        have e : a.getD i.toNat eMeterConf.zero = y := (SMeterConf.eqb_iff _ _).1 (by simpa using h1)
        rw [e, List.countP_singleton, (SMeterConf.eqb_iff _ _).2 rfl]
        rfl
      refine region (cons (opv (Ev.move (.t rfl)) (cons (opv (Ev.to (v' := I ((n + 1 : Nat) : Int)) (Ev.add_i (.t rfl) (.c (v := I 1) rfl) (fun _ => by omega)) (congrArg I (by omega))) ?_))))
      refine cons (opv (Ev.assign (.t rfl)) (nil (bN (pN (region (cons (opv (Ev.move (.t rfl)) (cons (opv (Ev.add_i (.t rfl) (.c (v := I 1) rfl) (fun _ => by omega)) ?_)))))))))
      refine cons (opv (Ev.assign (.t rfl)) (nil (pN (next (X := Int × Nat) (i + 1, _) ⟨?_, ?_⟩ ?_ (by repeat first | exact Sub.nil | refine Sub.cons rfl ?_) (by repeat first | exact sR | exact sN | apply sC | apply sS | apply sA)))))
      · try dsimp only
        omega
      · try dsimp only
        exact hst
      · try dsimp only
        omega
    · have hst : n = (a.take (i + 1).toNat).countP (SMeterConf.eqb y) := by
        rw [take_snoc a i hi.1 (by omega) eMeterConf.zero, List.countP_append, ← hn]
        have e : ¬ SMeterConf.eqb y (a.getD i.toNat eMeterConf.zero) = true := fun h => by
          have h2 := (SMeterConf.eqb_iff _ _).1 h
          rw [← h2] at h1
          simp [SMeterConf.eqb_self] at h1
        rw [List.countP_singleton, if_neg e]
        rfl
      refine skip (bN (pN (region (cons (opv (Ev.move (.t rfl)) (cons (opv (Ev.add_i (.t rfl) (.c (v := I 1) rfl) (fun _ => by omega)) ?_)))))))
      refine cons (opv (Ev.assign (.t rfl)) (nil (pN (next (X := Int × Nat) (i + 1, _) ⟨?_, ?_⟩ ?_ (by repeat first | exact Sub.nil | refine Sub.cons rfl ?_) (by repeat first | exact sR | exact sN | apply sC | apply sS | apply sA)))))
      · try dsimp only
        omega
      · try dsimp only
        exact hst
      · try dsimp only
        omega
  · try simp only [nb] at h0
    refine exit (pX (pX (bX (pN (seq (region (cons (opv (Ev.move (.t rfl)) (cons (opv (Ev.assign (.t rfl)) (nil (pN (ret (done rfl (.tmp rfl .nil) (retE ?_)))))))))))))))
    have e : a.take i.toNat = a := List.take_of_length_le (by omega)
    rw [e] at hn
    rw [hn]; rfl

theorem rmirrors_n (u : Value) (a : List SMirrorConf) (y : SMirrorConf) (w : World) (ha : IsSl eMirrorConf w u a) : Calls Tryz.prog 62 #[u, eMirrorConf.val y] w (RetV w (I (a.countP (SMirrorConf.eqb y) : Nat))) := by
  have hal := ha.le
  refine enter0 22 Tryz.func62 rfl rfl (Nat.le_of_ble_eq_true rfl) ?_
  refine seq (region (cons (box (E := eMirrorConf) (.t rfl) (fun b1 => ?_))))
  refine cons (opv (Ev.assign (.c (v := I 0) rfl)) ?_)
  refine nil (pN (seq (region (cons (opv (Ev.assign (.c (v := I 0) rfl)) ?_)))))
  refine nil (pN (seq (seq (region (cons (opv (Ev.assign (.c (v := I 0) rfl)) ?_))))))
  refine nil (pN (block (loop (X := Int × Nat) (fun x : Int × Nat => (0 ≤ x.1 ∧ x.1 ≤ a.length) ∧ (x.2 = (a.take x.1.toNat).countP (SMirrorConf.eqb y))) (fun x : Int × Nat => [(0, true, u), (3, true, .pointer (some ⟨b1, 0, none⟩)), (5, true, I (x.2 : Nat)), (6, true, I x.1)]) (fun x : Int × Nat => [Var b1 eMirrorConf y 59]) (fun x : Int × Nat => (a.length - x.1).toNat) (0, 0) ⟨?_, ?_⟩ (by repeat first | exact Sub.nil | refine Sub.cons rfl ?_) (by repeat first | exact sR | exact sN | apply sC | apply sS | apply sA) (fun x hx => ?_))))
  · omega
  · rfl
  obtain ⟨i, n⟩ := x
  obtain ⟨hi, hn⟩ : (0 ≤ i ∧ i ≤ a.length) ∧ (n = (a.take i.toNat).countP (SMirrorConf.eqb y)) := hx
  show Sat _ _ [(0, true, u), (3, true, .pointer (some ⟨b1, 0, none⟩)), (5, true, I (n : Nat)), (6, true, I i)] [Var b1 eMirrorConf y 59]
  have hnl : n ≤ i.toNat := by rw [hn]; exact Nat.le_trans List.countP_le_length (by simp; omega)
  refine seq (seq (region (cons (opv (Ev.move (.t rfl)) (cons (opv (Ev.move (.t rfl)) (cons (opv (Ev.len Tryz.underlying26 (.t rfl) (fun w I => ha.keep0 I.keeps)) ?_))))))))
  refine cons (opv (Ev.lss_i (.t rfl) (.t rfl)) ?_)
  refine nil (pN ?_)
  first | refine condD rfl (fun h0 => ?_) (fun h0 => ?_) | refine cond rfl (fun h0 => ?_) (fun h0 => ?_)
  · try simp only [nb] at h0
    refine skip (pN (seq (block (seq (draw' (by kernel_rfl) ?_)))))
    refine tk 0 rfl (Ev.move (.t rfl)) ?_
    refine tk 1 rfl (Ev.move (.t rfl)) ?_
    refine tk 2 rfl (Ev.indexAddr Tryz.underlying26 ty59 (.t rfl) (.t rfl) (fun w I => ha.keep0 I.keeps) (fun _ => by omega)) ?_
    refine tk 3 rfl (Ev.loadS0 ty59 (.t rfl) (fun w I => ha.keep0 I.keeps) (fun _ => by omega)) ?_
    refine tk 4 rfl (Ev.load (xv := y) ty59 (.t rfl) (ptsVar (by repeat first | exact mH | apply mT | apply mA) (Lens.id _))) ?_
    refine tk 5 rfl (Ev.eqlS rfl eqok59 rfl (by kernel_rfl) (.t rfl) (.t rfl)) ?_
    refine ovr (pN ?_)
    first | refine condD rfl (fun h1 => ?_) (fun h1 => ?_) | refine cond rfl (fun h1 => ?_) (fun h1 => ?_)
    · have hst : n + 1 = (a.take (i + 1).toNat).countP (SMirrorConf.eqb y) := by
        rw [take_snoc a i hi.1 (by omega) eMirrorConf.zero, List.countP_append, ← hn]
        have e : a.getD i.toNat eMirrorConf.zero = y := (SMirrorConf.eqb_iff _ _).1 (by simpa using h1)
        rw [e, List.countP_singleton, (SMirrorConf.eqb_iff _ _).2 rfl]
        rfl
      refine region (cons (opv (Ev.move (.t rfl)) (cons (opv (Ev.to (v' := I ((n + 1 : Nat) : Int)) (Ev.add_i (.t rfl) (.c (v := I 1) rfl) (fun _ => by omega)) (congrArg I (by omega))) ?_))))
      refine cons (opv (Ev.assign (.t rfl)) (nil (bN (pN (region (cons (opv (Ev.move (.t rfl)) (cons (opv (Ev.add_i (.t rfl) (.c (v := I 1) rfl) (fun _ => by omega)) ?_)))))))))
      refine cons (opv (Ev.assign (.t rfl)) (nil (pN (next (X := Int × Nat) (i + 1, _) ⟨?_, ?_⟩ ?_ (by repeat first | exact Sub.nil | refine Sub.cons rfl ?_) (by repeat first | exact sR | exact sN | apply sC | apply sS | apply sA)))))
      · try dsimp only
        omega
      · try dsimp only
        exact hst
      · try dsimp only
        omega
    · have hst : n = (a.take (i + 1).toNat).countP (SMirrorConf.eqb y) := by
        rw [take_snoc a i hi.1 (by omega) eMirrorConf.zero, List.countP_append, ← hn]
        have e : ¬ SMirrorConf.eqb y (a.getD i.toNat eMirrorConf.zero) = true := fun h => by
          have h2 := (SMirrorConf.eqb_iff _ _).1 h
          rw [← h2] at h1
          simp [SMirrorConf.eqb_self] at h1
        rw [List.countP_singleton, if_neg e]
        rfl
      refine skip (bN (pN (region (cons (opv (Ev.move (.t rfl)) (cons (opv (Ev.add_i (.t rfl) (.c (v := I 1) rfl) (fun _ => by omega)) ?_)))))))
      refine cons (opv (Ev.assign (.t rfl)) (nil (pN (next (X := Int × Nat) (i + 1, _) ⟨?_, ?_⟩ ?_ (by repeat first | exact Sub.nil | refine Sub.cons rfl ?_) (by repeat first | exact sR | exact sN | apply sC | apply sS | apply sA)))))
      · try dsimp only
        omega
      · try dsimp only
        exact hst
      · try dsimp only
        omega
  · try simp only [nb] at h0
    refine exit (pX (pX (bX (pN (seq (region (cons (opv (Ev.move (.t rfl)) (cons (opv (Ev.assign (.t rfl)) (nil (pN (ret (done rfl (.tmp rfl .nil) (retE ?_)))))))))))))))
    have e : a.take i.toNat = a := List.take_of_length_le (by omega)
    rw [e] at hn
    rw [hn]; rfl
end Go.Proofs.YtnoobdijbpmjkaaGreat
