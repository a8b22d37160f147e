/- Part. -/
import Derived.Test.YtnoobdijbpmjkaaGreatM4
set_option linter.unusedVariables false
set_option linter.unusedSimpArgs false
namespace Go.Proofs.YtnoobdijbpmjkaaGreat
open Go Go.Gx
theorem en89 : Gx.Enters Tryz.prog 89 := Gx.Enters.mk' (by kernel_rfl)
def ChSame (c d : SChange) : Prop := c.kind = d.kind ∧ c.port = d.port ∧ c.route = d.route ∧ c.meter = d.meter ∧ c.mirror = d.mirror ∧ c.default = d.default
theorem ChSame.refl (c : SChange) : ChSame c c := ⟨rfl, rfl, rfl, rfl, rfl, rfl⟩
structure ChsSame (cs ds : List SChange) (rl rm : List (List SRule)) : Prop where
  n : cs.length = ds.length
  ch : ∀ i, i < cs.length → ChSame (cs.getD i eChange.zero) (ds.getD i eChange.zero)
  r : ∀ i, i < cs.length → rl.getD i [] = rm.getD i []
theorem sameCh_ok (u v : Value) (cs ds : List SChange) (rl rm : List (List SRule)) (w : World) (hu : IsSl eChange w u cs) (hv : IsSl eChange w v ds) (hcs : ChsAt w cs rl) (hds : ChsAt w ds rm) (hss : ChsSame cs ds rl rm) : Calls Tryz.prog 25 #[u, v] w (RetV w (.bool true)) := by
  have hle := hu.le
  have hle2 := hv.le
  have hnn := hss.n
  refine enter0 75 Tryz.func25 rfl rfl (Nat.le_of_ble_eq_true rfl) ?_
  refine seq (region (cons (opv (Ev.assign (.c (v := .bool false) rfl)) ?_)))
  refine nil (pN (seq (seq (region (cons (opv (Ev.move (.t rfl)) (cons (opv (Ev.len Tryz.underlying41 (.t rfl) (fun w I => hu.keep0 I.keeps)) ?_))))))))
  refine cons (opv (Ev.move (.t rfl)) (cons (opv (Ev.len Tryz.underlying41 (.t rfl) (fun w I => hv.keep0 I.keeps)) ?_)))
  refine cons (opv (Ev.to (v' := .bool false) (Ev.neq_i (.t rfl) (.t rfl)) (congrArg Value.bool (decide_eq_false (fun h => h (by rw [hss.n]))))) ?_)
  refine nil (pN (condF rfl (rfl) ?_))
  refine skip (pN (seq (seq (region (cons (opv (Ev.assign (.c (v := I 0) rfl)) ?_))))))
  refine nil (pN (block (lp (X := Int) (fun x : Int => (0 ≤ x ∧ x ≤ cs.length)) (fun x : Int => [(0, true, u), (1, true, v), (5, true, I x)]) (fun x : Int => []) (fun x : Int => (cs.length - x).toNat) (0) ?_ (fun x hx => ?_))))
  · omega
  obtain ⟨i, rfl⟩ : ∃ y, y = x := ⟨x, rfl⟩
  have hi : 0 ≤ i ∧ i ≤ cs.length := hx
  clear hx
  show Sat _ _ [(0, true, u), (1, true, v), (5, true, I i)] []
  refine seq (seq (region (cons (opv (Ev.move (.t rfl)) (cons (opv (Ev.move (.t rfl)) (cons (opv (Ev.len Tryz.underlying41 (.t rfl) (fun w I => hu.keep0 I.keeps)) ?_))))))))
  refine cons (opv (Ev.lss_i (.t rfl) (.t rfl)) ?_)
  refine nil (pN ?_)
  first | refine condD rfl (fun h1 => ?_) (fun h1 => ?_) | refine cond rfl (fun h1 => ?_) (fun h1 => ?_)
  · try simp only [nb] at h1
    refine skip (pN (seq (block (cut (X := Nat × Nat) (fun x : Nat × Nat => True) (fun x : Nat × Nat => [(0, true, u), (1, true, v), (5, true, I i), (6, true, .pointer (some ⟨x.1, 0, none⟩)), (7, true, .pointer (some ⟨x.2, 0, none⟩))]) (fun x : Nat × Nat => [Var x.1 eChange (cs.getD i.toNat eChange.zero) 61, Var x.2 eChange (ds.getD i.toNat eChange.zero) 61]) ?_ (fun x hx => ?_)))))
    · refine draw' (by kernel_rfl) ?_
      refine tk 0 rfl (Ev.move (.t rfl)) ?_
      refine tk 1 rfl (Ev.move (.t rfl)) ?_
      refine tk 2 rfl (Ev.indexAddr Tryz.underlying41 ty61 (.t rfl) (.t rfl) (fun w I => hu.keep0 I.keeps) (fun _ => by omega)) ?_
      refine tk 3 rfl (Ev.loadS0 ty61 (.t rfl) (fun w I => hu.keep0 I.keeps) (fun _ => by omega)) ?_
      refine tk 4 rfl (Ev.move (.t rfl)) ?_
      refine tk 5 rfl (Ev.move (.t rfl)) ?_
      refine tk 6 rfl (Ev.indexAddr Tryz.underlying41 ty61 (.t rfl) (.t rfl) (fun w I => hv.keep0 I.keeps) (fun _ => by omega)) ?_
      refine tk 7 rfl (Ev.loadS0 ty61 (.t rfl) (fun w I => hv.keep0 I.keeps) (fun _ => by omega)) ?_
      refine all [8, 9] (by kernel_rfl) (by decide) (.cons rfl ?_ (.cons rfl ?_ .nil))
      · refine (alloc z61 (fun b1 => ?_))
        refine hdn (al1 9 rfl ((alloc z61 (fun b2 => ?_))))
        refine hdn (al1 10 rfl ((stv ty61 (Lens.id _) (.t rfl) (.t rfl) ?_)))
        refine hdn (al1 11 rfl ((stv ty61 (Lens.id _) (.t rfl) (.t rfl) ?_)))
        refine hdn (ovr (pN (mtP (X := Nat × Nat) (_, _) trivial)))
      · refine (alloc z61 (fun b3 => ?_))
        refine hdn (al1 8 rfl ((alloc z61 (fun b4 => ?_))))
        refine hdn (al1 10 rfl ((stv ty61 (Lens.id _) (.t rfl) (.t rfl) ?_)))
        refine hdn (al1 11 rfl ((stv ty61 (Lens.id _) (.t rfl) (.t rfl) ?_)))
        refine hdn (ovr (pN (mtP (X := Nat × Nat) (_, _) trivial)))
    obtain ⟨p6, p7⟩ := x
    show Sat _ _ [(0, true, u), (1, true, v), (5, true, I i), (6, true, .pointer (some ⟨p6, 0, none⟩)), (7, true, .pointer (some ⟨p7, 0, none⟩))] [Var p6 eChange (cs.getD i.toNat eChange.zero) 61, Var p7 eChange (ds.getD i.toNat eChange.zero) 61]
    have he := hss.ch i.toNat (by omega)
    have hrr := hss.r i.toNat (by omega)
    refine seq (region (cons (opv (Ev.fieldAddr (o := 0) (.t rfl) (by kernel_rfl)) ?_)))
    refine cons (opv (Ev.ldv ty3 (.t rfl) SChange.l_kind) ?_)
    refine cons (opv (Ev.fieldAddr (o := 0) (.t rfl) (by kernel_rfl)) ?_)
    refine cons (opv (Ev.ldv ty3 (.t rfl) SChange.l_kind) ?_)
    refine cons (opv (Ev.to (v' := .bool false) (Ev.neq_i (.t rfl) (.t rfl)) (congrArg Value.bool (decide_eq_false (fun h => h he.1)))) ?_)
    refine cons (opv (Ev.move (.t rfl)) (cons (opg rfl rfl (Ev.fieldAddr (o := 1) (.t rfl) (by kernel_rfl)) ?_)))
    refine cons (opg rfl rfl (Ev.ldv ty3 (.g rfl id) SChange.l_port) ?_)
    refine cons (opg rfl rfl (Ev.fieldAddr (o := 1) (.t rfl) (by kernel_rfl)) ?_)
    refine cons (opg rfl rfl (Ev.ldv ty3 (.g rfl id) SChange.l_port) ?_)
    refine cons (opg rfl rfl (Ev.to (v' := .bool false) (Ev.neq_i (.g rfl id) (.g rfl id)) (congrArg Value.bool (decide_eq_false (fun h => h he.2.1)))) ?_)
    refine cons (opv (Ev.to (v' := .bool false) (Ev.pickO (.t rfl) (.c (v := .bool true) rfl) (fun {_} h => by cases h; rfl) ⟨_, rfl⟩ (by intro h1 h; first | (rw [h] <;> rfl) | (rw [h1, h] <;> rfl) | (rw [h, h1] <;> rfl) | simp_all)) (rfl)) ?_)
    refine cons (opv (Ev.move (.t rfl)) (cons (opg rfl rfl (Ev.fieldAddr (o := 2) (.t rfl) (by kernel_rfl)) ?_)))
    refine cons (opg rfl rfl (Ev.ldv ty52 (.g rfl id) SChange.l_route) ?_)
    refine cons (opg rfl rfl (Ev.fieldAddr (o := 2) (.t rfl) (by kernel_rfl)) ?_)
    refine cons (opg rfl rfl (Ev.ldv ty52 (.g rfl id) SChange.l_route) ?_)
    refine cons (opg rfl rfl (Ev.to (v' := .bool false) (Ev.neqS rfl eqok52 rfl (by kernel_rfl) (.g rfl id) (.g rfl id)) (congrArg Value.bool (by show (!SRoute.eqb (cs.getD i.toNat eChange.zero).route (ds.getD i.toNat eChange.zero).route) = false; rw [he.2.2.1, SRoute.eqb_self]; rfl))) ?_)
    refine cons (opv (Ev.to (v' := .bool false) (Ev.pickO (.t rfl) (.c (v := .bool true) rfl) (fun {_} h => by cases h; rfl) ⟨_, rfl⟩ (by intro h1 h; first | (rw [h] <;> rfl) | (rw [h1, h] <;> rfl) | (rw [h, h1] <;> rfl) | simp_all)) (rfl)) ?_)
    refine cons (opv (Ev.move (.t rfl)) (cons (opg rfl rfl (Ev.fieldAddr (o := 21) (.t rfl) (by kernel_rfl)) ?_)))
    refine cons (opg rfl rfl (Ev.ldv ty57 (.g rfl id) SChange.l_meter) ?_)
    refine cons (opg rfl rfl (Ev.fieldAddr (o := 21) (.t rfl) (by kernel_rfl)) ?_)
    refine cons (opg rfl rfl (Ev.ldv ty57 (.g rfl id) SChange.l_meter) ?_)
    refine cons (opg rfl rfl (Ev.to (v' := .bool false) (Ev.neqS rfl eqok57 rfl (by kernel_rfl) (.g rfl id) (.g rfl id)) (congrArg Value.bool (by show (!SMeterConf.eqb (cs.getD i.toNat eChange.zero).meter (ds.getD i.toNat eChange.zero).meter) = false; rw [he.2.2.2.1, SMeterConf.eqb_self]; rfl))) ?_)
    refine cons (opv (Ev.to (v' := .bool false) (Ev.pickO (.t rfl) (.c (v := .bool true) rfl) (fun {_} h => by cases h; rfl) ⟨_, rfl⟩ (by intro h1 h; first | (rw [h] <;> rfl) | (rw [h1, h] <;> rfl) | (rw [h, h1] <;> rfl) | simp_all)) (rfl)) ?_)
    refine cons (opv (Ev.move (.t rfl)) (cons (opg rfl rfl (Ev.fieldAddr (o := 25) (.t rfl) (by kernel_rfl)) ?_)))
    refine cons (opg rfl rfl (Ev.ldv ty59 (.g rfl id) SChange.l_mirror) ?_)
    refine cons (opg rfl rfl (Ev.fieldAddr (o := 25) (.t rfl) (by kernel_rfl)) ?_)
    refine cons (opg rfl rfl (Ev.ldv ty59 (.g rfl id) SChange.l_mirror) ?_)
    refine cons (opg rfl rfl (Ev.to (v' := .bool false) (Ev.neqS rfl eqok59 rfl (by kernel_rfl) (.g rfl id) (.g rfl id)) (congrArg Value.bool (by show (!SMirrorConf.eqb (cs.getD i.toNat eChange.zero).mirror (ds.getD i.toNat eChange.zero).mirror) = false; rw [he.2.2.2.2.1, SMirrorConf.eqb_self]; rfl))) ?_)
    refine cons (opv (Ev.to (v' := .bool false) (Ev.pickO (.t rfl) (.c (v := .bool true) rfl) (fun {_} h => by cases h; rfl) ⟨_, rfl⟩ (by intro h1 h; first | (rw [h] <;> rfl) | (rw [h1, h] <;> rfl) | (rw [h, h1] <;> rfl) | simp_all)) (rfl)) ?_)
    refine cons (opv (Ev.move (.t rfl)) (cons (opg rfl rfl (Ev.fieldAddr (o := 29) (.t rfl) (by kernel_rfl)) ?_)))
    refine cons (opg rfl rfl (Ev.ldv ty3 (.g rfl id) SChange.l_default) ?_)
    refine cons (opg rfl rfl (Ev.fieldAddr (o := 29) (.t rfl) (by kernel_rfl)) ?_)
    refine cons (opg rfl rfl (Ev.ldv ty3 (.g rfl id) SChange.l_default) ?_)
    refine cons (opg rfl rfl (Ev.to (v' := .bool false) (Ev.neq_i (.g rfl id) (.g rfl id)) (congrArg Value.bool (decide_eq_false (fun h => h he.2.2.2.2.2)))) ?_)
    refine cons (opv (Ev.to (v' := .bool false) (Ev.pickO (.t rfl) (.c (v := .bool true) rfl) (fun {_} h => by cases h; rfl) ⟨_, rfl⟩ (by intro h1 h; first | (rw [h] <;> rfl) | (rw [h1, h] <;> rfl) | (rw [h, h1] <;> rfl) | simp_all)) (rfl)) ?_)
    refine cons (opv (Ev.move (.t rfl)) (cons (opg rfl rfl (Ev.fieldAddr (o := 28) (.t rfl) (by kernel_rfl)) ?_)))
    refine cons (opg rfl rfl (Ev.ldv ty24 (.g rfl id) SChange.l_rules) ?_)
    refine cons (opg rfl rfl (Ev.fieldAddr (o := 28) (.t rfl) (by kernel_rfl)) ?_)
    refine cons (opg rfl rfl (Ev.ldv ty24 (.g rfl id) SChange.l_rules) ?_)
    refine cons (callg rfl rfl en59 (.cons (.g rfl id) (.cons (.g rfl id) .nil)) (fun hg w I => sameRules_ok _ _ (rl.getD i.toNat []) (rm.getD i.toNat []) w ((hcs.keep0 I.keeps).sl i.toNat (by omega)) ((hds.keep0 I.keeps).sl i.toNat (by omega))) ?_)
    refine cons (opg rfl rfl (Ev.to (v' := .bool false) (Ev.not (.g rfl id)) (congrArg Value.bool (by show (!decide (rl.getD i.toNat [] = rm.getD i.toNat [])) = false; rw [hrr]; simp))) ?_)
    refine cons (opv (Ev.to (v' := .bool false) (Ev.pickO (.t rfl) (.c (v := .bool true) rfl) (fun {_} h => by cases h; rfl) ⟨_, rfl⟩ (by intro h1 h; first | (rw [h] <;> rfl) | (rw [h1, h] <;> rfl) | (rw [h, h1] <;> rfl) | simp_all)) (rfl)) ?_)
    refine nil (pN (condF rfl (rfl) ?_))
    refine skip (bN (pN (region (cons (opv (Ev.move (.t rfl)) (cons (opv (Ev.add_i (.t rfl) (.c (v := I 1) rfl) (fun _ => by omega)) ?_)))))))
    refine cons (opv (Ev.assign (.t rfl)) (nil (pN (nx (X := Int) (i + 1) ?_ ?_))))
    · try dsimp only
      omega
    · try dsimp only
      omega
  · try simp only [nb] at h1
    refine exit (pX (pX (bX (pN (seq (region (cons (opv (Ev.assign (.c (v := .bool true) rfl)) ?_))))))))
    refine nil (pN (ret (done rfl (.tmp rfl .nil) (retE ?_))))
    rfl
def OptR (b : Bool) (r : Res) : Res := bif b then r else Emp
def rlC (cs : List SChange) (us : List SRule) : List (List SRule) := cs.map (fun c => if c.kind = 9 then us else [])
theorem rlC_get (cs : List SChange) (us : List SRule) (i : Nat) (h : i < cs.length) : (rlC cs us).getD i [] = if (cs.getD i eChange.zero).kind = 9 then us else [] := by
  unfold rlC
  simp [List.getD, h]
def ChK (rv : OV) (c : SChange) : Prop := (c.kind = 9 ∧ c.rules = rv) ∨ (c.kind ≠ 9 ∧ c.rules = nilSl)
theorem chPort_k (k : Int) (h : k ≠ 9) (x : Int) : (chPort k x).kind ≠ 9 ∧ (chPort k x).rules = nilSl := ⟨h, rfl⟩
theorem chRoute_k (k : Int) (h : k ≠ 9) (x : SRoute) : (chRoute k x).kind ≠ 9 ∧ (chRoute k x).rules = nilSl := ⟨h, rfl⟩
theorem chMeter_k (k : Int) (h : k ≠ 9) (x : SMeterConf) : (chMeter k x).kind ≠ 9 ∧ (chMeter k x).rules = nilSl := ⟨h, rfl⟩
theorem chMirror_k (k : Int) (h : k ≠ 9) (x : SMirrorConf) : (chMirror k x).kind ≠ 9 ∧ (chMirror k x).rules = nilSl := ⟨h, rfl⟩
def is9 (c : SChange) : Bool := decide (c.kind = 9)
def setR (rv : OV) (c : SChange) : SChange := if c.kind = 9 then { c with rules := rv } else c
theorem en25 : Gx.Enters Tryz.prog 25 := Gx.Enters.mk' (by kernel_rfl)
def runC : List (SChange × List SRule) → CD → Option CD
  | [], s => some s
  | p :: l, s => if changeB s.l p.1 = true then runC l ⟨changeL s.l p.1 p.2, changeD s.d p.1⟩ else none
theorem runC_append : ∀ (l k : List (SChange × List SRule)) (s : CD), runC (l ++ k) s = (runC l s).bind (runC k)
  | [], k, s => rfl
  | p :: l, k, s => by
    show (if changeB s.l p.1 = true then runC (l ++ k) ⟨changeL s.l p.1 p.2, changeD s.d p.1⟩ else none) = Option.bind (if changeB s.l p.1 = true then runC l ⟨changeL s.l p.1 p.2, changeD s.d p.1⟩ else none) (runC k)
    split
    · exact runC_append l k _
    · rfl
def prC (us : List SRule) (c : SChange) : SChange × List SRule := (c, if c.kind = 9 then us else [])
theorem goN_run (s : CD) (cs : List SChange) (us : List SRule) : ∀ n, n ≤ cs.length → goN s cs (rlC cs us) n = runC ((cs.take n).map (prC us)) s
  | 0, _ => rfl
  | n + 1, h => by
    have hlt : n < cs.length := by omega
    have ih := goN_run s cs us n (by omega)
    have e : cs[n] = cs.getD n eChange.zero := by simp [List.getD, hlt]
    rw [List.take_succ_eq_append_getElem hlt, List.map_append, runC_append, ← ih, goN, rlC_get cs us n hlt, e]
    cases goN s cs (rlC cs us) n with
    | none => rfl
    | some t => rfl
theorem goN_all (s : CD) (cs : List SChange) (us : List SRule) : goN s cs (rlC cs us) cs.length = runC (cs.map (prC us)) s := by
  rw [goN_run s cs us _ (Nat.le_refl _), List.take_length]
theorem idx_split {α : Type} {p : α → Bool} : ∀ {l : List α}, 0 ≤ idxF p l → ∃ A y B, l = A ++ y :: B ∧ p y = true ∧ (∀ a ∈ A, p a = false) ∧ idxF p l = A.length := by
  intro l h
  unfold idxF at h
  cases e : l.findIdx? p with
  | none => rw [e] at h; simp only at h; omega
  | some i =>
    obtain ⟨h1, h2, h3⟩ := List.findIdx?_eq_some_iff_getElem.1 e
    refine ⟨l.take i, l[i], l.drop (i + 1), ?_, h2, fun a ha => ?_, ?_⟩
    · rw [← List.drop_eq_getElem_cons h1, List.take_append_drop]
    · obtain ⟨j, hj, rfl⟩ := List.mem_iff_getElem.1 ha
      have hj2 : j < i := by simp at hj; omega
      have := h3 j hj2
      simpa using this
    · unfold idxF
      rw [e, List.length_take]
      simp only
      omega
theorem idx_none' {α : Type} {p : α → Bool} {l : List α} (h : ∀ y ∈ l, p y = false) : idxF p l = -1 := by
  unfold idxF
  rw [List.findIdx?_eq_none_iff.2 h]
theorem idx_nn {α : Type} {p : α → Bool} {l : List α} {y : α} (hy : y ∈ l) (hp : p y = true) : 0 ≤ idxF p l := by
  rcases Int.lt_or_le (idxF p l) 0 with h | h
  · rw [idxF_neg h y hy] at hp
    cases hp
  · exact h
abbrev KeyE {κ : Type} (e : κ → κ → Bool) : Prop := ∀ a b, e a b = true ↔ a = b
theorem set_key {α κ : Type} {e : κ → κ → Bool} (he : KeyE e) {f : α → κ} {l : List α} (hu : (l.map f).Nodup) (x : α) : ((setL l (idxF (fun z => e (f z) (f x)) l) x).map f).Nodup ∧ ∀ y, y ∈ setL l (idxF (fun z => e (f z) (f x)) l) x ↔ y = x ∨ (y ∈ l ∧ f y ≠ f x) := by
  rcases Int.lt_or_le (idxF (fun z => e (f z) (f x)) l) 0 with h | h
  · have hn := idxF_neg h
    have hne : ∀ y ∈ l, f y ≠ f x := fun y hy hk => by
      have := hn y hy
      rw [(he _ _).2 hk] at this
      cases this
    unfold setL
    rw [if_pos h]
    refine ⟨?_, fun y => ?_⟩
    · rw [List.map_append, List.nodup_append]
      refine ⟨hu, by simp, fun a ha b hb => ?_⟩
      obtain ⟨y, hy, rfl⟩ := List.mem_map.1 ha
      simp only [List.map_cons, List.map_nil, List.mem_singleton] at hb
      rw [hb]
      exact hne y hy
    · rw [List.mem_append, List.mem_singleton]
      constructor
      · rintro (h1 | h1)
        · exact .inr ⟨h1, hne y h1⟩
        · exact .inl h1
      · rintro (h1 | h1)
        · exact .inr h1
        · exact .inl h1.1
  · obtain ⟨A, z, B, e1, e2, e3, e4⟩ := idx_split h
    have hz : f z = f x := (he _ _).1 e2
    unfold setL
    rw [if_neg (by omega), e4]
    subst e1
    rw [Int.toNat_natCast, List.set_append_right _ _ (Nat.le_refl _), Nat.sub_self, List.set_cons_zero]
    rw [List.map_append, List.map_cons, hz] at hu
    refine ⟨by rw [List.map_append, List.map_cons]; exact hu, fun y => ?_⟩
    rw [List.nodup_append, List.nodup_cons] at hu
    obtain ⟨u1, ⟨u2, u3⟩, u4⟩ := hu
    simp only [List.mem_append, List.mem_cons]
    constructor
    · rintro (h1 | h1 | h1)
      · exact .inr ⟨.inl h1, u4 _ (List.mem_map_of_mem h1) _ List.mem_cons_self⟩
      · exact .inl h1
      · exact .inr ⟨.inr (.inr h1), fun h2 => u2 (by rw [← h2]; exact List.mem_map_of_mem h1)⟩
    · rintro (h1 | ⟨h1 | h1 | h1, h2⟩)
      · exact .inr (.inl h1)
      · exact .inl h1
      · rw [h1] at h2; exact absurd hz h2
      · exact .inr (.inr h1)
theorem cut_key {α κ : Type} {e : κ → κ → Bool} (he : KeyE e) {f : α → κ} {l : List α} (hu : (l.map f).Nodup) {k : κ} (hk : k ∈ l.map f) : ¬ idxF (fun z => e (f z) k) l < 0 ∧ ((cutI l (idxF (fun z => e (f z) k) l)).map f).Nodup ∧ (cutI l (idxF (fun z => e (f z) k) l)).Sublist l ∧ ∀ y, y ∈ cutI l (idxF (fun z => e (f z) k) l) ↔ y ∈ l ∧ f y ≠ k := by
  obtain ⟨x, hx, rfl⟩ := List.mem_map.1 hk
  have h : 0 ≤ idxF (fun z => e (f z) (f x)) l := idx_nn hx ((he _ _).2 rfl)
  refine ⟨by omega, ?_⟩
  have hs := cutI_sub l (idxF (fun z => e (f z) (f x)) l)
  refine ⟨(hu.sublist (hs.map f)), hs, fun y => ?_⟩
  obtain ⟨A, z, B, e1, e2, e3, e4⟩ := idx_split h
  have hz : f z = f x := (he _ _).1 e2
  unfold cutI cutL
  rw [if_neg (by omega), e4]
  subst e1
  have t1 : (A ++ z :: B).take ((A.length : Int)).toNat = A := by rw [Int.toNat_natCast]; exact List.take_left
  have t2 : (A ++ z :: B).drop ((A.length : Int) + 1).toNat = B := by
    have : ((A.length : Int) + 1).toNat = A.length + 1 := by omega
    rw [this, ← List.drop_drop, List.drop_left]
    rfl
  rw [t1, t2]
  rw [List.map_append, List.map_cons, hz, List.nodup_append, List.nodup_cons] at hu
  obtain ⟨u1, ⟨u2, u3⟩, u4⟩ := hu
  simp only [List.mem_append, List.mem_cons]
  constructor
  · rintro (h1 | h1)
    · exact ⟨.inl h1, u4 _ (List.mem_map_of_mem h1) _ List.mem_cons_self⟩
    · exact ⟨.inr (.inr h1), fun h2 => u2 (by rw [← h2]; exact List.mem_map_of_mem h1)⟩
  · rintro ⟨h1 | h1 | h1, h2⟩
    · exact .inl h1
    · rw [h1] at h2; exact absurd hz h2
    · exact .inr h1
theorem run_sets {α κ : Type} {e : κ → κ → Bool} (he : KeyE e) {f : α → κ} (get : CL → List α) (put : CL → List α → CL) (mk : α → SChange) (hg : ∀ l a, get (put l a) = a) (hp : ∀ l a b, put (put l a) b = put l b)
    (hB : ∀ l x, changeB l (mk x) = true) (hL : ∀ l x, changeL l (mk x) [] = put l (setL (get l) (idxF (fun z => e (f z) (f x)) (get l)) x)) (hD : ∀ d x, changeD d (mk x) = d) :
    ∀ (xs : List α) (l : CL) (d : Int), put l (get l) = l → ((get l).map f).Nodup → (xs.map f).Nodup → ∃ a, runC (xs.map (fun x => (mk x, []))) ⟨l, d⟩ = some ⟨put l a, d⟩ ∧ (a.map f).Nodup ∧ ∀ y, y ∈ a ↔ y ∈ xs ∨ (y ∈ get l ∧ f y ∉ xs.map f)
  | [], l, d, h0, hu, _ => ⟨get l, by rw [h0]; rfl, hu, fun y => by simp⟩
  | x :: xs, l, d, h0, hu, hx => by
    obtain ⟨h1, h2⟩ := set_key he hu x
    rw [List.map_cons, List.nodup_cons] at hx
    obtain ⟨a, a1, a2, a3⟩ := run_sets he get put mk hg hp hB hL hD xs (put l (setL (get l) (idxF (fun z => e (f z) (f x)) (get l)) x)) d (by rw [hg, hp]) (by rw [hg]; exact h1) hx.2
    refine ⟨a, ?_, a2, fun y => ?_⟩
    · rw [hp] at a1
      rw [List.map_cons]
      show (if changeB l (mk x) = true then runC _ ⟨changeL l (mk x) [], changeD d (mk x)⟩ else none) = _
      rw [if_pos (hB l x), hL, hD]
      exact a1
    · rw [a3, hg, h2]
      simp only [List.map_cons, List.mem_cons, not_or]
      constructor
      · rintro (h | ⟨h | ⟨h, h3⟩, h4⟩)
        · exact .inl (.inr h)
        · exact .inl (.inl h)
        · exact .inr ⟨h, h3, h4⟩
      · rintro ((h | h) | ⟨h, h3, h4⟩)
        · exact .inr ⟨.inl h, by rw [h]; exact hx.1⟩
        · exact .inl h
        · exact .inr ⟨.inr ⟨h, h3⟩, h4⟩
theorem run_cuts {α κ : Type} {e : κ → κ → Bool} (he : KeyE e) {f : α → κ} (get : CL → List α) (put : CL → List α → CL) (mk : α → SChange) (hg : ∀ l a, get (put l a) = a) (hp : ∀ l a b, put (put l a) b = put l b)
    (hB : ∀ l x, changeB l (mk x) = decide (¬ idxF (fun z => e (f z) (f x)) (get l) < 0)) (hL : ∀ l x, changeL l (mk x) [] = put l (cutI (get l) (idxF (fun z => e (f z) (f x)) (get l)))) (hD : ∀ d x, changeD d (mk x) = d) :
    ∀ (xs : List α) (l : CL) (d : Int), put l (get l) = l → ((get l).map f).Nodup → (xs.map f).Nodup → (∀ x ∈ xs, f x ∈ (get l).map f) → ∃ a, runC (xs.map (fun x => (mk x, []))) ⟨l, d⟩ = some ⟨put l a, d⟩ ∧ (a.map f).Nodup ∧ a.Sublist (get l) ∧ ∀ y, y ∈ a ↔ y ∈ get l ∧ f y ∉ xs.map f
  | [], l, d, h0, hu, _, _ => ⟨get l, by rw [h0]; rfl, hu, List.Sublist.refl _, fun y => by simp⟩
  | x :: xs, l, d, h0, hu, hx, hm => by
    obtain ⟨h0', h1, hs, h2⟩ := cut_key he hu (hm x List.mem_cons_self)
    rw [List.map_cons, List.nodup_cons] at hx
    obtain ⟨a, a1, a2, asb, a3⟩ := run_cuts he get put mk hg hp hB hL hD xs (put l (cutI (get l) (idxF (fun z => e (f z) (f x)) (get l)))) d (by rw [hg, hp]) (by rw [hg]; exact h1) hx.2 (fun y hy => by
      rw [hg]
      obtain ⟨z, hz, e1⟩ := List.mem_map.1 (hm y (List.mem_cons_of_mem _ hy))
      rw [← e1]
      refine List.mem_map_of_mem ((h2 z).2 ⟨hz, ?_⟩)
      rw [e1]
      exact fun e2 => hx.1 (by rw [← e2]; exact List.mem_map_of_mem hy))
    refine ⟨a, ?_, a2, ?_, fun y => ?_⟩
    · rw [hp] at a1
      rw [List.map_cons]
      show (if changeB l (mk x) = true then runC _ ⟨changeL l (mk x) [], changeD d (mk x)⟩ else none) = _
      rw [if_pos (by rw [hB]; exact decide_eq_true h0'), hL, hD]
      exact a1
    · rw [hg] at asb
      exact asb.trans hs
    · rw [a3, hg, h2]
      simp only [List.map_cons, List.mem_cons, not_or]
      constructor
      · rintro ⟨⟨h, h3⟩, h4⟩
        exact ⟨h, h3, h4⟩
      · rintro ⟨h, h3, h4⟩
        exact ⟨⟨h, h3⟩, h4⟩
theorem add_bad {l : CL} {x : Int} (h : x ∉ l.ps) (h2 : 0 ≤ x ∧ x ≤ 255) : addBad l (chPort 1 x) = false := by
  have hi : iP l (chPort 1 x) = -1 := idx_none' fun y hy => by
    show decide (x = y) = false
    exact decide_eq_false fun e => h (e ▸ hy)
  unfold addBad
  rw [hi, Bool.or_eq_false_iff, Bool.or_eq_false_iff]
  exact ⟨⟨rfl, decide_eq_false (by show ¬ x < 0; omega)⟩, decide_eq_false (by show ¬ 255 < x; omega)⟩
theorem insL_mem (l : List Int) (i a y : Int) : y ∈ insL l i a ↔ y = a ∨ y ∈ l := by
  unfold insL
  have h : y ∈ l ↔ y ∈ l.take i.toNat ∨ y ∈ l.drop i.toNat := by
    rw [← List.mem_append, List.take_append_drop]
  rw [List.mem_append, List.mem_append, List.mem_singleton, h]
  constructor
  · rintro ((h | h) | h)
    · exact .inr (.inl h)
    · exact .inl h
    · exact .inr (.inr h)
  · rintro (h | h | h)
    · exact .inl (.inr h)
    · exact .inl (.inl h)
    · exact .inr h
theorem run_adds : ∀ (xs : List Int) (l : CL) (d : Int), l.ps.Pairwise (· < ·) → xs.Nodup → (∀ x ∈ xs, x ∉ l.ps ∧ 0 ≤ x ∧ x ≤ 255) → ∃ a, runC (xs.map (fun x => (chPort 1 x, []))) ⟨l, d⟩ = some ⟨{ l with ps := a }, d⟩ ∧ a.Pairwise (· < ·) ∧ ∀ y, y ∈ a ↔ y ∈ xs ∨ y ∈ l.ps
  | [], l, d, hs, _, _ => ⟨l.ps, rfl, hs, fun y => by simp⟩
  | x :: xs, l, d, hs, hx, hm => by
    rw [List.nodup_cons] at hx
    obtain ⟨m1, m2⟩ := hm x List.mem_cons_self
    have hb := add_bad m1 m2
    have hL : changeL l (chPort 1 x) [] = { l with ps := insL l.ps (lowB l.ps x) x } := by
      unfold changeL
      rw [show (chPort 1 x).kind = 1 from rfl, if_pos rfl, hb]
      rfl
    have hup : (insL l.ps (lowB l.ps x) x).Pairwise (· < ·) := low_ins hs (fun y hy e => m1 (e ▸ hy))
    obtain ⟨a, a1, a2, a3⟩ := run_adds xs { l with ps := insL l.ps (lowB l.ps x) x } d hup hx.2 (fun y hy => ⟨fun h => by
      rcases (insL_mem _ _ _ _).1 h with h | h
      · exact hx.1 (h ▸ hy)
      · exact (hm y (List.mem_cons_of_mem _ hy)).1 h, (hm y (List.mem_cons_of_mem _ hy)).2⟩)
    refine ⟨a, ?_, a2, fun y => ?_⟩
    · rw [List.map_cons]
      show (if changeB l (chPort 1 x) = true then runC _ ⟨changeL l (chPort 1 x) [], changeD d (chPort 1 x)⟩ else none) = _
      have hB : changeB l (chPort 1 x) = true := by
        unfold changeB
        rw [show (chPort 1 x).kind = 1 from rfl, if_pos rfl, hb]
        rfl
      rw [if_pos hB, hL]
      exact a1
    · rw [a3]
      show y ∈ xs ∨ y ∈ insL l.ps (lowB l.ps x) x ↔ _
      rw [insL_mem, List.mem_cons]
      constructor
      · rintro (h | h | h)
        · exact .inl (.inr h)
        · exact .inl (.inl h)
        · exact .inr h
      · rintro ((h | h) | h)
        · exact .inr (.inl h)
        · exact .inl h
        · exact .inr (.inr h)
theorem none_mem {α κ : Type} {q : κ → κ → Bool} (hi : KeyE q) (f : α → κ) (l : List α) (k : κ) : (findV q k (firstN q f l l.length)).isNone = true ↔ k ∉ l.map f := by
  rw [find_all hi, Option.isNone_iff_eq_none, Option.map_eq_none_iff, List.findIdx?_eq_none_iff]
  constructor
  · intro h hm
    obtain ⟨x, hx, rfl⟩ := List.mem_map.1 hm
    have := h x hx
    rw [(hi _ _).2 rfl] at this
    cases this
  · intro h x hx
    rw [Bool.eq_false_iff]
    intro hq
    exact h (List.mem_map.2 ⟨x, hx, (hi _ _).1 hq⟩)
theorem mem_gone {α κ : Type} {q : κ → κ → Bool} (hi : KeyE q) {β : Type} (g : β → κ) (f : α → κ) (l : List α) (xs : List β) (y : β) : y ∈ xs.filter (fun x => (findV q (g x) (firstN q f l l.length)).isNone) ↔ y ∈ xs ∧ g y ∉ l.map f := by
  rw [List.mem_filter, none_mem hi]
theorem idxF_le {α : Type} {p : α → Bool} {l : List α} {i : Nat} (h : i < l.length) (hp : p l[i] = true) : 0 ≤ idxF p l ∧ idxF p l ≤ i := by
  unfold idxF
  cases e : l.findIdx? p with
  | none =>
    have := List.findIdx?_eq_none_iff.1 e l[i] (List.getElem_mem h)
    rw [hp] at this
    cases this
  | some m =>
    obtain ⟨h1, h2, h3⟩ := List.findIdx?_eq_some_iff_getElem.1 e
    simp only
    rcases Nat.lt_or_ge i m with h4 | h4
    · exact absurd hp (h3 i h4)
    · omega
theorem nodup_inj {α κ : Type} {f : α → κ} {l : List α} (h : (l.map f).Nodup) {x y : α} (hx : x ∈ l) (hy : y ∈ l) (e : f x = f y) : x = y := by
  obtain ⟨i, hi, rfl⟩ := List.mem_iff_getElem.1 hx
  obtain ⟨j, hj, rfl⟩ := List.mem_iff_getElem.1 hy
  have hp := List.pairwise_iff_getElem.1 h
  rcases Nat.lt_trichotomy i j with h1 | h1 | h1
  · exact absurd (by rw [List.getElem_map, List.getElem_map]; exact e) (hp i j (by simpa using hi) (by simpa using hj) h1)
  · subst h1; rfl
  · exact absurd (by rw [List.getElem_map, List.getElem_map]; exact e.symm) (hp j i (by simpa using hj) (by simpa using hi) h1)
theorem nodup_first {α κ : Type} {q : κ → κ → Bool} (hi : KeyE q) {f : α → κ} {l : List α} (z : α) (h : ∀ i, i < l.length → ¬ (findV q (f (l.getD i z)) (firstN q f l l.length)).getD 0 < (i : Int)) : (l.map f).Nodup := by
  refine List.pairwise_iff_getElem.2 fun i j h1 h2 hij e => ?_
  have h1' : i < l.length := by simpa using h1
  have h2' : j < l.length := by simpa using h2
  have hj := h j h2'
  rw [find_at hi f l z j h2'] at hj
  have e2 : l.getD j z = l[j] := by simp [List.getD, h2']
  rw [e2] at hj
  have := (idxF_le (p := fun x => q (f x) (f l[j])) h1' ((hi _ _).2 (by simpa using e))).2
  omega
theorem first_nodup {α κ : Type} {q : κ → κ → Bool} (hi : KeyE q) {f : α → κ} {l : List α} (z : α) (h : (l.map f).Nodup) (i : Nat) (hlt : i < l.length) : ¬ (findV q (f (l.getD i z)) (firstN q f l l.length)).getD 0 < (i : Int) := by
  rw [find_at hi f l z i hlt]
  have e2 : l.getD i z = l[i] := by simp [List.getD, hlt]
  rw [e2]
  obtain ⟨A, y, B, e3, e4, e5, e6⟩ := idx_split (idxF_le (p := fun x => q (f x) (f l[i])) hlt ((hi _ _).2 rfl)).1
  rw [e6]
  intro hl
  have hA : A.length < l.length := by rw [e3]; simp
  have hy : l[A.length] = y := by
    have : ∀ (k : List α) (hk : A.length < k.length), k = A ++ y :: B → k[A.length] = y := fun k hk e => by subst e; simp
    exact this l hA e3
  have hp := List.pairwise_iff_getElem.1 h A.length i (by simpa using hA) (by simpa using hlt) (by omega)
  apply hp
  simp only [List.getElem_map, hy]
  exact (hi _ _).1 e4
theorem ports_in {l : CL} {d : Int} (h : l.Good d) : ∀ x ∈ l.ps, 0 ≤ x ∧ x ≤ 255 := by
  intro x hx
  obtain ⟨i, hi, rfl⟩ := List.mem_iff_getElem.1 hx
  have h1 := h.ps i hi
  have e : l.ps.getD i iE.zero = l.ps[i] := by simp [List.getD, hi]
  rw [e] at h1
  unfold portE at h1
  split at h1
  · cases h1
  · omega
theorem routeE_z {l : CL} {r : SRoute} {i : Int} : routeE l r i = 0 ↔ checkP r.to_ = 0 ∧ portB l r.out = true ∧ ¬ (findV SPrefix.eqb r.to_ (routesM l)).getD 0 < i := by
  unfold routeE
  split
  · rename_i h; simp [h]
  · split
    · rename_i h; simp [h]
    · split
      · rename_i h; simp [h]
      · rename_i h1 h2 h3
        simp only [ne_eq, Decidable.not_not] at h1
        simp [h1, h3]
        simpa using h2
theorem meterE_z {l : CL} {r : SMeterConf} {i : Int} : meterE l r i = 0 ↔ nameB r.name = true ∧ ckB r.bucket = 0 ∧ ¬ (findV eqs r.name (metersM l)).getD 0 < i := by
  unfold meterE
  split
  · rename_i h; simp [h]
  · split
    · rename_i h1 h2
      constructor
      · intro h
        cases h
      · intro hh
        rcases h2 with h | h
        · exact absurd h hh.2.2
        · exact absurd hh.2.1 h
    · rename_i h1 h2
      simp only [not_or, ne_eq, Decidable.not_not] at h2
      exact ⟨fun _ => ⟨by simpa using h1, h2.2, h2.1⟩, fun _ => rfl⟩
theorem mirrorE_z {l : CL} {r : SMirrorConf} {i : Int} : mirrorE l r i = 0 ↔ nameB r.name = true ∧ portB l r.out = true ∧ roomB r.room = true ∧ ¬ (findV eqs r.name (mirrorsM l)).getD 0 < i := by
  unfold mirrorE
  split
  · rename_i h; simp [h]
  · split
    · rename_i h; simp [h]
    · split
      · rename_i h; simp [h]
      · split
        · rename_i h; simp [h]
        · rename_i h1 h2 h3 h4
          exact ⟨fun _ => ⟨by simpa using h1, by simpa using h3, by simpa using h4, h2⟩, fun _ => rfl⟩
theorem good_rs {l : CL} {d : Int} (h : l.Good d) : (l.rs.map (·.to_)).Nodup := nodup_first SPrefix.eqb_iff eRoute.zero fun i hi => (routeE_z.1 (h.rs i hi)).2.2
theorem good_ms {l : CL} {d : Int} (h : l.Good d) : (l.ms.map (·.name)).Nodup := nodup_first eqs_iff eMeterConf.zero fun i hi => (meterE_z.1 (h.ms i hi)).2.2
theorem good_xs {l : CL} {d : Int} (h : l.Good d) : (l.xs.map (·.name)).Nodup := nodup_first eqs_iff eMirrorConf.zero fun i hi => (mirrorE_z.1 (h.xs i hi)).2.2.2
theorem getD_of {α : Type} (l : List α) (z : α) {P : α → Nat → Prop} (h : ∀ i, i < l.length → P (l.getD i z) i) : ∀ x ∈ l, ∃ i, i < l.length ∧ P x i := fun x hx => by
  obtain ⟨i, hi, rfl⟩ := List.mem_iff_getElem.1 hx
  have := h i hi
  have e : l.getD i z = l[i] := by simp [List.getD, hi]
  rw [e] at this
  exact ⟨i, hi, this⟩
theorem inM_iff {α : Type} (f : α → ByteArray) (l : List α) (s : ByteArray) : inM (firstN eqs f l l.length) s = true ↔ s ∈ l.map f := by
  unfold inM
  have h := none_mem eqs_iff f l s
  cases hf : findV eqs s (firstN eqs f l l.length) with
  | none => rw [hf] at h; simpa using h
  | some v => rw [hf] at h; simpa using h
theorem inM_perm {α : Type} (f : α → ByteArray) {l k : List α} (h : l.Perm k) (s : ByteArray) : inM (firstN eqs f l l.length) s = inM (firstN eqs f k k.length) s := by
  rw [Bool.eq_iff_iff, inM_iff, inM_iff]
  exact (h.map f).mem_iff
theorem good_of {k t : CL} {d : Int} (hk : k.Good d) (hps : t.ps = k.ps) (hus : t.us = k.us) (hrs : t.rs.Perm k.rs) (hms : t.ms.Perm k.ms) (hxs : t.xs.Perm k.xs) : t.Good d := by
  have hpb : ∀ p, portB t p = portB k p := fun p => by
    unfold portB portsM
    rw [hps]
  refine ⟨by rw [hps]; exact hk.ps, fun i hi => ?_, fun i hi => ?_, fun i hi => ?_, fun i hi => ?_, hk.d⟩
  · obtain ⟨j, hj, hz⟩ := getD_of k.rs eRoute.zero (P := fun x i => routeE k x i = 0) hk.rs _ (hrs.mem_iff.1 (getD_in t.rs i eRoute.zero hi))
    obtain ⟨z1, z2, _⟩ := routeE_z.1 hz
    exact routeE_z.2 ⟨z1, by rw [hpb]; exact z2, first_nodup SPrefix.eqb_iff eRoute.zero ((hrs.map _).nodup_iff.2 (good_rs hk)) i hi⟩
  · have hus' : rulesM t = rulesM k := by unfold rulesM; rw [hus]
    have e : ∀ x q, ruleE t x q = ruleE k x q := fun x q => by
      unfold ruleE ruleO
      rw [hus', hpb]
      have h1 : inM (metersM t) x.meter = inM (metersM k) x.meter := inM_perm _ hms _
      have h2 : inM (mirrorsM t) x.mirror = inM (mirrorsM k) x.mirror := inM_perm _ hxs _
      rw [h1, h2]
    rw [e, hus]
    exact hk.us i (by rw [← hus]; exact hi)
  · obtain ⟨j, hj, hz⟩ := getD_of k.ms eMeterConf.zero (P := fun x i => meterE k x i = 0) hk.ms _ (hms.mem_iff.1 (getD_in t.ms i eMeterConf.zero hi))
    obtain ⟨z1, z2, _⟩ := meterE_z.1 hz
    exact meterE_z.2 ⟨z1, z2, first_nodup eqs_iff eMeterConf.zero ((hms.map _).nodup_iff.2 (good_ms hk)) i hi⟩
  · obtain ⟨j, hj, hz⟩ := getD_of k.xs eMirrorConf.zero (P := fun x i => mirrorE k x i = 0) hk.xs _ (hxs.mem_iff.1 (getD_in t.xs i eMirrorConf.zero hi))
    obtain ⟨z1, z2, z3, _⟩ := mirrorE_z.1 hz
    exact mirrorE_z.2 ⟨z1, by rw [hpb]; exact z2, z3, first_nodup eqs_iff eMirrorConf.zero ((hxs.map _).nodup_iff.2 (good_xs hk)) i hi⟩
theorem faultsUp_z {e : Nat → Int} {d : Int} : ∀ {n : Nat}, (∀ i, i < n → e i = 0) → faultsUp e d n = []
  | 0, _ => rfl
  | n + 1, h => by
    unfold faultsUp
    rw [faultsUp_z (fun i hi => h i (by omega)), if_pos (h n (by omega))]
    rfl
theorem listG_z {e : Nat → Int} {d : Int} {n most : Nat} (hn : n ≤ most) (h : ∀ i, i < n → e i = 0) : listG e d n most = [] := by
  unfold listG
  rw [faultsUp_z (fun i hi => h i (by omega)), if_neg (by omega)]
  rfl
theorem good_may {l : CL} {d : Int} (h : l.Good d) (hl : l.ps.length ≤ 256 ∧ l.rs.length ≤ 1024 ∧ l.us.length ≤ 256 ∧ l.ms.length ≤ 64 ∧ l.xs.length ≤ 16) : mayB l d = true := by
  unfold mayB checkF thingsF
  refine decide_eq_true ?_
  rw [listG_z hl.1 h.ps, listG_z hl.2.1 h.rs, listG_z hl.2.2.1 h.us, listG_z hl.2.2.2.1 h.ms, listG_z hl.2.2.2.2 h.xs, h.d]
  rfl
theorem key_merge {α κ : Type} {f : α → κ} {L K S a2 a8 F2 F8 : List α} (hL : (L.map f).Nodup) (hK : (K.map f).Nodup) (hS : ∀ y, y ∈ S ↔ y ∈ L) (h2 : ∀ y, y ∈ F2 ↔ y ∈ K ∧ y ∉ L) (h8 : ∀ y, y ∈ F8 ↔ y ∈ L ∧ f y ∉ K.map f)
    (ha2 : ∀ y, y ∈ a2 ↔ y ∈ F2 ∨ (y ∈ S ∧ f y ∉ F2.map f)) (ha8 : ∀ y, y ∈ a8 ↔ y ∈ a2 ∧ f y ∉ F8.map f) : ∀ y, y ∈ a8 ↔ y ∈ K := by
  intro y
  rw [ha8, ha2]
  constructor
  · rintro ⟨h | ⟨h, h3⟩, h4⟩
    · exact ((h2 y).1 h).1
    · have hyL := (hS y).1 h
      have hk : f y ∈ K.map f := Classical.byContradiction fun hn => h4 (List.mem_map_of_mem ((h8 y).2 ⟨hyL, hn⟩))
      obtain ⟨z, hz, e⟩ := List.mem_map.1 hk
      have hzL : z ∈ L := Classical.byContradiction fun hn => h3 (by rw [← e]; exact List.mem_map_of_mem ((h2 z).2 ⟨hz, hn⟩))
      rw [← nodup_inj hL hzL hyL e]
      exact hz
  · intro hy
    refine ⟨?_, fun hm => ?_⟩
    · by_cases hyL : y ∈ L
      · refine .inr ⟨(hS y).2 hyL, fun hm => ?_⟩
        obtain ⟨z, hz, e⟩ := List.mem_map.1 hm
        obtain ⟨hz1, hz2⟩ := (h2 z).1 hz
        rw [nodup_inj hK hz1 hy e] at hz2
        exact hz2 hyL
      · exact .inl ((h2 y).2 ⟨hy, hyL⟩)
    · obtain ⟨z, hz, e⟩ := List.mem_map.1 hm
      exact ((h8 z).1 hz).2 (by rw [e]; exact List.mem_map_of_mem hy)
theorem nodup_of {α κ : Type} {f : α → κ} {l : List α} (h : (l.map f).Nodup) : l.Nodup := by
  refine List.pairwise_iff_getElem.2 fun i j h1 h2 hij e => ?_
  have := List.pairwise_iff_getElem.1 h i j (by simpa using h1) (by simpa using h2) hij
  exact this (by simp [e])
theorem perm_of {α κ : Type} [DecidableEq α] {f : α → κ} {l k : List α} (hl : (l.map f).Nodup) (hk : (k.map f).Nodup) (h : ∀ y, y ∈ l ↔ y ∈ k) : l.Perm k :=
  (List.perm_ext_iff_of_nodup (nodup_of hl) (nodup_of hk)).2 h
theorem up_nodup {l : List Int} (h : l.Pairwise (· < ·)) : l.Nodup := h.imp fun {a b} hab => by omega
theorem up_eq : ∀ {l k : List Int}, l.Pairwise (· < ·) → k.Pairwise (· < ·) → (∀ y, y ∈ l ↔ y ∈ k) → l = k
  | [], [], _, _, _ => rfl
  | [], y :: k, _, _, h => absurd ((h y).2 List.mem_cons_self) List.not_mem_nil
  | x :: l, [], _, _, h => absurd ((h x).1 List.mem_cons_self) List.not_mem_nil
  | x :: l, y :: k, hl, hk, h => by
    obtain ⟨l1, l2⟩ := List.pairwise_cons.1 hl
    obtain ⟨k1, k2⟩ := List.pairwise_cons.1 hk
    have e : x = y := by
      have hx := (h x).1 List.mem_cons_self
      have hy := (h y).2 List.mem_cons_self
      rcases List.mem_cons.1 hx with e | hx
      · exact e
      · rcases List.mem_cons.1 hy with e | hy
        · exact e.symm
        · have := k1 x hx
          have := l1 y hy
          omega
    subst e
    congr 1
    refine up_eq l2 k2 fun z => ?_
    constructor
    · intro hz
      rcases List.mem_cons.1 ((h z).1 (List.mem_cons_of_mem _ hz)) with e | hz2
      · have := l1 z hz; omega
      · exact hz2
    · intro hz
      rcases List.mem_cons.1 ((h z).2 (List.mem_cons_of_mem _ hz)) with e | hz2
      · have := k1 z hz; omega
      · exact hz2
theorem gone_pr {α κ : Type} {q : κ → κ → Bool} {f : α → κ} {m : List (κ × Int)} {mk : α → SChange} {xs : List α} (us : List SRule) (hk : ∀ x, (mk x).kind ≠ 9) : (goneL q f m mk xs).map (prC us) = (xs.filter (fun x => (findV q (f x) m).isNone)).map (fun x => (mk x, [])) := by
  unfold goneL
  rw [List.map_map]
  refine List.map_congr_left fun x _ => ?_
  show prC us (mk x) = _
  unfold prC
  rw [if_neg (hk x)]
theorem run_step {X A : List (SChange × List SRule)} {s t u : CD} (h1 : runC X s = some t) (h2 : runC A t = some u) : runC (X ++ A) s = some u := by
  rw [runC_append, h1]
  exact h2
theorem run_rules {l k : CL} (rv : OV) (x : CL) (d : Int) (hx : x.us = l.us) : runC ((if l.us = k.us then [] else [chRules rv]).map (prC k.us)) ⟨x, d⟩ = some ⟨{ x with us := k.us }, d⟩ := by
  by_cases h : l.us = k.us
  · rw [if_pos h]
    show some (⟨x, d⟩ : CD) = _
    have e : { x with us := k.us } = x := by
      rw [← h, ← hx]
    rw [e]
  · rw [if_neg h]
    rfl
theorem run_default (x : CL) (da db : Int) (us : List SRule) : runC ((if da = db then [] else [chDefault db]).map (prC us)) ⟨x, da⟩ = some ⟨x, db⟩ := by
  by_cases h : da = db
  · rw [if_pos h, h]
    rfl
  · rw [if_neg h]
    rfl
theorem decK {κ : Type} [DecidableEq κ] : KeyE (fun a b : κ => decide (a = b)) := fun a b => decide_eq_true_iff
theorem decK' {κ : Type} [DecidableEq κ] : KeyE (fun a b : κ => decide (b = a)) := fun a b => by
  rw [decide_eq_true_iff]
  exact eq_comm
theorem filter_nodup {α κ : Type} {f : α → κ} {l : List α} (p : α → Bool) (h : (l.map f).Nodup) : ((l.filter p).map f).Nodup := h.sublist (List.filter_sublist.map f)
theorem names_in {α κ : Type} {f : α → κ} {L K S a2 F2 F8 : List α} (hS : ∀ y, y ∈ S ↔ y ∈ L) (h2 : ∀ y, y ∈ F2 ↔ y ∈ K ∧ y ∉ L) (h8 : ∀ y, y ∈ F8 ↔ y ∈ L ∧ f y ∉ K.map f)
    (ha2 : ∀ y, y ∈ a2 ↔ y ∈ F2 ∨ (y ∈ S ∧ f y ∉ F2.map f)) : ∀ x ∈ F8, f x ∈ a2.map f := fun x hx => by
  obtain ⟨h3, h4⟩ := (h8 x).1 hx
  refine List.mem_map_of_mem ((ha2 x).2 (.inr ⟨(hS x).2 h3, fun hm => ?_⟩))
  obtain ⟨z, hz, e⟩ := List.mem_map.1 hm
  exact h4 (by rw [← e]; exact List.mem_map_of_mem ((h2 z).1 hz).1)
theorem map_id_fun {α : Type} (l : List α) : l.map (fun a => a) = l := List.map_id l
theorem setM (l : CL) (x : SMeterConf) : changeL l (chMeter 5 x) [] = { l with ms := setL l.ms (idxF (fun z => decide (z.name = x.name)) l.ms) x } := rfl
theorem setX (l : CL) (x : SMirrorConf) : changeL l (chMirror 7 x) [] = { l with xs := setL l.xs (idxF (fun z => decide (z.name = x.name)) l.xs) x } := rfl
theorem setRt (l : CL) (x : SRoute) : changeL l (chRoute 3 x) [] = { l with rs := setL l.rs (idxF (fun z => SPrefix.eqb z.to_ x.to_) l.rs) x } := rfl
theorem cutRt (l : CL) (x : SRoute) : changeL l (chRoute 4 (onlyR x)) [] = { l with rs := cutI l.rs (idxF (fun z => SPrefix.eqb z.to_ x.to_) l.rs) } := rfl
theorem cutM (l : CL) (x : SMeterConf) : changeL l (chMeter 6 (onlyM x)) [] = { l with ms := cutI l.ms (idxF (fun z => decide (z.name = x.name)) l.ms) } := rfl
theorem cutX (l : CL) (x : SMirrorConf) : changeL l (chMirror 8 (onlyX x)) [] = { l with xs := cutI l.xs (idxF (fun z => decide (z.name = x.name)) l.xs) } := rfl
theorem cutPt (l : CL) (x : Int) : changeL l (chPort 2 x) [] = { l with ps := cutI l.ps (idxF (fun z => decide (x = z)) l.ps) } := rfl
theorem there {l k s : CL} {da db : Int} (rv : OV) (hl : mayB l da = true) (hk : mayB k db = true) (hsl : sameB s l da da = true) (hs : mayB s da = true) :
    ∃ t : CL, goN ⟨s, da⟩ (diffs l k da db rv) (rlC (diffs l k da db rv) k.us) (diffs l k da db rv).length = some ⟨t, db⟩ ∧ sameB t k db db = true ∧ mayB t db = true := by
  obtain ⟨_, s1, s2, s3, s4, s5⟩ := (sameB_perm s l da da).1 hsl
  have gl := may_good hl
  have gk := may_good hk
  have gs := may_good hs
  have upl := ports_up gl.ps
  have upk := ports_up gk.ps
  have ups := ports_up gs.ps
  have nlm := good_ms gl
  have nkm := good_ms gk
  have nsm := good_ms gs
  have nlx := good_xs gl
  have nkx := good_xs gk
  have nsx := good_xs gs
  have nlr := good_rs gl
  have nkr := good_rs gk
  have nsr := good_rs gs
  -- what is gone through
  have f1 : ∀ y, y ∈ k.ps.filter (fun x => (findV eqd ((fun a => a) x) (portsM l)).isNone) ↔ y ∈ k.ps ∧ y ∉ l.ps := fun y => by
    have := mem_gone eqd_iff (fun a : Int => a) (fun a => a) l.ps k.ps y
    rwa [map_id_fun] at this
  have f2 : ∀ y, y ∈ k.ms.filter (fun x => (findV SMeterConf.eqb ((fun a => a) x) (firstN SMeterConf.eqb (fun a => a) l.ms l.ms.length)).isNone) ↔ y ∈ k.ms ∧ y ∉ l.ms := fun y => by
    have := mem_gone SMeterConf.eqb_iff (fun a : SMeterConf => a) (fun a => a) l.ms k.ms y
    rwa [map_id_fun] at this
  have f3 : ∀ y, y ∈ k.xs.filter (fun x => (findV SMirrorConf.eqb ((fun a => a) x) (firstN SMirrorConf.eqb (fun a => a) l.xs l.xs.length)).isNone) ↔ y ∈ k.xs ∧ y ∉ l.xs := fun y => by
    have := mem_gone SMirrorConf.eqb_iff (fun a : SMirrorConf => a) (fun a => a) l.xs k.xs y
    rwa [map_id_fun] at this
  have f4 : ∀ y, y ∈ k.rs.filter (fun x => (findV SRoute.eqb ((fun a => a) x) (firstN SRoute.eqb (fun a => a) l.rs l.rs.length)).isNone) ↔ y ∈ k.rs ∧ y ∉ l.rs := fun y => by
    have := mem_gone SRoute.eqb_iff (fun a : SRoute => a) (fun a => a) l.rs k.rs y
    rwa [map_id_fun] at this
  have f7 : ∀ y, y ∈ l.rs.filter (fun x => (findV SPrefix.eqb ((fun a : SRoute => a.to_) x) (routesM k)).isNone) ↔ y ∈ l.rs ∧ y.to_ ∉ k.rs.map (fun r => r.to_) := fun y =>
    mem_gone SPrefix.eqb_iff (fun a : SRoute => a.to_) (fun r : SRoute => r.to_) k.rs l.rs y
  have f8 : ∀ y, y ∈ l.ms.filter (fun x => (findV eqs ((fun a : SMeterConf => a.name) x) (metersM k)).isNone) ↔ y ∈ l.ms ∧ y.name ∉ k.ms.map (fun r => r.name) := fun y =>
    mem_gone eqs_iff (fun a : SMeterConf => a.name) (fun r : SMeterConf => r.name) k.ms l.ms y
  have f9 : ∀ y, y ∈ l.xs.filter (fun x => (findV eqs ((fun a : SMirrorConf => a.name) x) (mirrorsM k)).isNone) ↔ y ∈ l.xs ∧ y.name ∉ k.xs.map (fun r => r.name) := fun y =>
    mem_gone eqs_iff (fun a : SMirrorConf => a.name) (fun r : SMirrorConf => r.name) k.xs l.xs y
  have f10 : ∀ y, y ∈ l.ps.filter (fun x => (findV eqd ((fun a => a) x) (portsM k)).isNone) ↔ y ∈ l.ps ∧ y ∉ k.ps := fun y => by
    have := mem_gone eqd_iff (fun a : Int => a) (fun a => a) k.ps l.ps y
    rwa [map_id_fun] at this
  -- step by step
  obtain ⟨a1, r1, u1, m1⟩ := run_adds _ s da ups ((up_nodup upk).sublist List.filter_sublist) (fun x hx => ⟨by rw [s1]; exact ((f1 x).1 hx).2, ports_in gk x ((f1 x).1 hx).1⟩)
  obtain ⟨a2, r2, u2, m2⟩ := run_sets decK (f := fun a : SMeterConf => a.name) CL.ms (fun l a => { l with ms := a }) (chMeter 5) (fun _ _ => rfl) (fun _ _ _ => rfl) (fun _ _ => rfl) setM (fun _ _ => rfl) _ { s with ps := a1 } da rfl nsm (filter_nodup _ nkm)
  obtain ⟨a3, r3, u3, m3⟩ := run_sets decK (f := fun a : SMirrorConf => a.name) CL.xs (fun l a => { l with xs := a }) (chMirror 7) (fun _ _ => rfl) (fun _ _ _ => rfl) (fun _ _ => rfl) setX (fun _ _ => rfl) _ { s with ps := a1, ms := a2 } da rfl nsx (filter_nodup _ nkx)
  obtain ⟨a4, r4, u4, m4⟩ := run_sets SPrefix.eqb_iff (f := fun a : SRoute => a.to_) CL.rs (fun l a => { l with rs := a }) (chRoute 3) (fun _ _ => rfl) (fun _ _ _ => rfl) (fun _ _ => rfl) setRt (fun _ _ => rfl) _ { s with ps := a1, ms := a2, xs := a3 } da rfl nsr (filter_nodup _ nkr)
  have r5 := run_rules (l := l) (k := k) rv { s with ps := a1, ms := a2, xs := a3, rs := a4 } da s2
  have r6 := run_default { s with ps := a1, ms := a2, xs := a3, rs := a4, us := k.us } da db k.us
  obtain ⟨a7, r7, u7, _, m7⟩ := run_cuts SPrefix.eqb_iff (f := fun a : SRoute => a.to_) CL.rs (fun l a => { l with rs := a }) (fun x => chRoute 4 (onlyR x)) (fun _ _ => rfl) (fun _ _ _ => rfl) (fun _ _ => rfl) cutRt (fun _ _ => rfl) _ { s with ps := a1, ms := a2, xs := a3, rs := a4, us := k.us } db rfl u4 (filter_nodup _ nlr)
    (names_in (fun y => s3.mem_iff) f4 f7 m4)
  obtain ⟨a8, r8, u8, _, m8⟩ := run_cuts decK (f := fun a : SMeterConf => a.name) CL.ms (fun l a => { l with ms := a }) (fun x => chMeter 6 (onlyM x)) (fun _ _ => rfl) (fun _ _ _ => rfl) (fun _ _ => rfl) cutM (fun _ _ => rfl) _ { s with ps := a1, ms := a2, xs := a3, rs := a7, us := k.us } db rfl u2 (filter_nodup _ nlm)
    (names_in (fun y => s4.mem_iff) f2 f8 m2)
  obtain ⟨a9, r9, u9, _, m9⟩ := run_cuts decK (f := fun a : SMirrorConf => a.name) CL.xs (fun l a => { l with xs := a }) (fun x => chMirror 8 (onlyX x)) (fun _ _ => rfl) (fun _ _ _ => rfl) (fun _ _ => rfl) cutX (fun _ _ => rfl) _ { s with ps := a1, ms := a8, xs := a3, rs := a7, us := k.us } db rfl u3 (filter_nodup _ nlx)
    (names_in (fun y => s5.mem_iff) f3 f9 m3)
  obtain ⟨a10, r10, u10, b10, m10⟩ := run_cuts decK' (f := fun a : Int => a) CL.ps (fun l a => { l with ps := a }) (fun x => chPort 2 x) (fun _ _ => rfl) (fun _ _ _ => rfl) (fun _ _ => rfl) cutPt (fun _ _ => rfl) _ { s with ps := a1, ms := a8, xs := a9, rs := a7, us := k.us } db rfl (by rw [map_id_fun]; exact up_nodup u1) (by rw [map_id_fun]; exact (up_nodup upl).sublist (List.filter_sublist (p := fun x => (findV eqd ((fun a => a) x) (portsM k)).isNone)))
    (fun x hx => by
      rw [map_id_fun]
      exact (m1 x).2 (.inr (by rw [s1]; exact ((f10 x).1 hx).1)))
  have R : runC ((diffs l k da db rv).map (prC k.us)) ⟨s, da⟩ = some ⟨{ s with ps := a10, ms := a8, xs := a9, rs := a7, us := k.us }, db⟩ := by
    unfold diffs
    simp only [List.map_append, List.map_nil]
    rw [gone_pr k.us (fun x => (chPort_k 1 (by decide) x).1), gone_pr k.us (fun x => (chMeter_k 5 (by decide) x).1), gone_pr k.us (fun x => (chMirror_k 7 (by decide) x).1), gone_pr k.us (fun x => (chRoute_k 3 (by decide) x).1), gone_pr k.us (fun x => (chRoute_k 4 (by decide) (onlyR x)).1), gone_pr k.us (fun x => (chMeter_k 6 (by decide) (onlyM x)).1), gone_pr k.us (fun x => (chMirror_k 8 (by decide) (onlyX x)).1), gone_pr k.us (fun x => (chPort_k 2 (by decide) x).1)]
    exact run_step (run_step (run_step (run_step (run_step (run_step (run_step (run_step (run_step (run_step rfl r1) r2) r3) r4) r5) r6) r7) r8) r9) r10
  have hps : a10 = k.ps := up_eq (u1.sublist b10) upk fun y => by
    rw [m10, map_id_fun]
    show y ∈ a1 ∧ _ ↔ _
    rw [m1, s1]
    constructor
    · rintro ⟨h | h, h2⟩
      · exact ((f1 y).1 h).1
      · exact Classical.byContradiction fun hn => h2 ((f10 y).2 ⟨h, hn⟩)
    · intro h
      refine ⟨?_, fun h2 => ((f10 y).1 h2).2 h⟩
      by_cases hy : y ∈ l.ps
      · exact .inr hy
      · exact .inl ((f1 y).2 ⟨h, hy⟩)
  have hrs : a7.Perm k.rs := perm_of u7 nkr (key_merge nlr nkr (fun y => s3.mem_iff) f4 f7 m4 m7)
  have hms : a8.Perm k.ms := perm_of u8 nkm (key_merge nlm nkm (fun y => s4.mem_iff) f2 f8 m2 m8)
  have hxs : a9.Perm k.xs := perm_of u9 nkx (key_merge nlx nkx (fun y => s5.mem_iff) f3 f9 m3 m9)
  refine ⟨{ s with ps := a10, ms := a8, xs := a9, rs := a7, us := k.us }, by rw [goN_all]; exact R, (sameB_perm _ _ _ _).2 ⟨rfl, hps, rfl, hrs, hms, hxs⟩, ?_⟩
  obtain ⟨q1, q2, q3, q4, q5⟩ := may_lens hk
  exact good_may (good_of gk hps rfl hrs hms hxs) ⟨by show a10.length ≤ _; rw [hps]; exact q1, by show a7.length ≤ _; rw [hrs.length_eq]; exact q2, q3, by show a8.length ≤ _; rw [hms.length_eq]; exact q4, by show a9.length ≤ _; rw [hxs.length_eq]; exact q5⟩
def NmOK (c : SChange) : Prop := c.meter.name.size ≤ 9223372036854775807 ∧ c.mirror.name.size ≤ 9223372036854775807
theorem may_small {l : CL} {d : Int} (h : mayB l d = true) : l.Small := by
  obtain ⟨h1, h2, h3, h4, h5⟩ := may_lens h
  exact ⟨by omega, by omega, by omega, by omega, by omega⟩
def ChgJ (c : SConf) (l l2 : CL) (d : Int) (y : SConf × List Res) : Prop := y.1.default = d ∧ ∀ w, ConfAt w c l → (∀ r ∈ y.2, r.A w) → ConfAt w y.1 l2
theorem chg_same (c : SConf) (l : CL) : ChgJ c l l c.default (c, []) := ⟨rfl, fun w h _ => h⟩
theorem port_ix (l : CL) (c : SChange) : portB l c.port = decide (0 ≤ iP l c) := by
  rw [Bool.eq_iff_iff, portB_iff, decide_eq_true_iff]
  constructor
  · intro h
    exact idx_nn h (decide_eq_true rfl)
  · intro h
    obtain ⟨A, y, B, e1, e2, _⟩ := idx_split h
    rw [e1, of_decide_eq_true e2]
    simp
theorem filter_cut {l : List Int} (hu : l.Nodup) (x : Int) : l.filter (fun y => decide (¬ y = x)) = cutI l (idxF (fun y => decide (x = y)) l) := by
  rcases Int.lt_or_le (idxF (fun y => decide (x = y)) l) 0 with h | h
  · unfold cutI
    rw [if_pos h, List.filter_eq_self]
    intro y hy
    have := idxF_neg h y hy
    exact decide_eq_true fun e => by rw [e, decide_eq_true rfl] at this; cases this
  · obtain ⟨A, y, B, e1, e2, e3, e4⟩ := idx_split h
    have hy : x = y := of_decide_eq_true e2
    unfold cutI cutL
    rw [if_neg (by omega), e4]
    have t2 : ((A.length : Int) + 1).toNat = A.length + 1 := by omega
    rw [t2, Int.toNat_natCast]
    subst e1
    rw [List.take_left, ← List.drop_drop, List.drop_left, List.filter_append, List.filter_cons_of_neg (by simpa using hy.symm)]
    rw [List.nodup_append, List.nodup_cons] at hu
    obtain ⟨_, ⟨u2, _⟩, u4⟩ := hu
    have fA : A.filter (fun z => decide (¬ z = x)) = A := List.filter_eq_self.2 fun z hz => decide_eq_true (by rw [hy]; exact u4 z hz y List.mem_cons_self)
    have fB : B.filter (fun z => decide (¬ z = x)) = B := List.filter_eq_self.2 fun z hz => decide_eq_true (by rw [hy]; exact fun e => u2 (e ▸ hz))
    rw [fA, fB]
    rfl
theorem rchroute_ok (c : SConf) (u : SChange) (l : CL) (rl : List SRule) (w : World) (hc : ConfAt w c l) (hkk : u.kind = 3 ∨ u.kind = 4) (hn : l.rs.length ≤ 1048576) : Calls Tryz.prog 145 #[eConf.val c, eChange.val u] w (RetN w (ChgJ c l (changeL l u rl) c.default) (fun y => .tuple #[eConf.val y.1, .bool (changeB l u)]) (fun y => y.2)) := by
  refine enter0 53 Tryz.func145 rfl rfl (Nat.le_of_ble_eq_true rfl) ?_
  refine seq (region (cons (box (E := eConf) (.t rfl) (fun b1 => ?_))))
  refine cons (box (E := eChange) (.t rfl) (fun b2 => ?_))
  refine cons (alloc z28 (fun b3 => ?_))
  refine cons (opv (Ev.assign (.c (v := .bool false) rfl)) ?_)
  refine nil (pN (seq (region (cons (opv (Ev.ldv ty28 (.t rfl) (Lens.id _)) ?_)))))
  refine cons (opv (Ev.fieldAddr (o := 2) (.t rfl) (by kernel_rfl)) ?_)
  refine cons (opv (Ev.fieldAddr (o := 0) (.t rfl) (by kernel_rfl)) ?_)
  refine cons (opv (Ev.ldv ty50 (.t rfl) (Lens.comp SChange.l_route SRoute.l_to_)) ?_)
  refine cons (callv en125 (.cons (.t rfl) (.cons (.t rfl) .nil)) (fun w I => rroute_ix c l _ w (hc.keep0 I.keeps)) ?_)
  refine cons (opv (Ev.to (v' := I (iR l u)) (Ev.assign (.t rfl)) (rfl)) ?_)
  refine nil (pN (seq (region (cons (opv (Ev.assign (.c (v := (Go.Value.slice none 0 0)) rfl)) ?_)))))
  refine takeNil eRoute 52 ?_
  refine nil (pN (seq (seq (takeNil eRoute 52 ?_))))
  have hix : -1 ≤ iR l u ∧ (iR l u < 0 ∨ iR l u < l.rs.length) := idxF_lt (fun z : SRoute => SPrefix.eqb z.to_ u.route.to_) l.rs
  have hll := hc.rs.le
  refine region (cons (opv (Ev.fieldAddr (o := 0) (.t rfl) (by kernel_rfl)) ?_))
  refine cons (opv (Ev.ldv ty3 (.t rfl) SChange.l_kind) ?_)
  refine cons (opv (Ev.eql_i (.t rfl) (.c (v := I 3) rfl)) ?_)
  refine nil (pN ?_)
  first | refine condD rfl (fun h0 => ?_) (fun h0 => ?_) | refine cond rfl (fun h0 => ?_) (fun h0 => ?_)
  · try simp only [nb] at h0
    have hk : u.kind = 3 := h0
    refine seq (region (cons (opv (Ev.move (.t rfl)) (cons (opv (Ev.fieldAddr (o := 1) (.t rfl) (by kernel_rfl)) ?_)))))
    refine cons (opv (Ev.ldv ty23 (.t rfl) SConf.l_routes) ?_)
    refine cons (app (E := eRoute) Tryz.underlying23 ty52 zb52 zs52 (.t rfl) (.t rfl) (fun v4 => ?_) (hsrc := (fun w I => (hc.keep0 I.keeps).rs)) (hby := ⟨by (show _ ≤ 9223372036854775807); simp only [List.length_nil]; omega, by simp only [List.length_nil]; omega⟩))
    refine cons (opv (Ev.assign (.t rfl)) (nil (pN (cut (X := OV) (fun x : OV => True) (fun x : OV => [(2, true, .pointer (some ⟨b1, 0, none⟩)), (3, true, .pointer (some ⟨b2, 0, none⟩)), (4, true, .pointer (some ⟨b3, 0, none⟩)), (7, true, x.v)]) (fun x : OV => [OwnS x.v eRoute (setL l.rs (iR l u) u.route) 52, Var b3 eConf eConf.zero 28, Var b2 eChange u 61, Var b1 eConf c 28]) ?_ (fun x hx => ?_)))))
    · refine seq (region (cons (opv (Ev.move (.t rfl)) (cons (opv (Ev.lss_i (.t rfl) (.c (v := I 0) rfl)) ?_)))))
      refine nil (pN ?_)
      first | refine condD rfl (fun h1 => ?_) (fun h1 => ?_) | refine cond rfl (fun h1 => ?_) (fun h1 => ?_)
      · try simp only [nb] at h1
        refine region (cons (opv (Ev.move (.t rfl)) (cons (opv (Ev.fieldAddr (o := 2) (.t rfl) (by kernel_rfl)) ?_))))
        refine cons (opv (Ev.ldv ty52 (.t rfl) SChange.l_route) ?_)
        refine cons (buildSlice (E := eRoute) Tryz.underlying23 ty52 z52 (.cons (.t rfl) .nil) rfl rfl (fun v5 => ?_))
        refine cons (app (E := eRoute) Tryz.underlying23 ty52 zb52 zs52 (.t rfl) (.t rfl) (fun v6 => ?_) (hby := ⟨by (show _ ≤ 9223372036854775807); simp only [List.length_append, List.length_cons, List.length_nil]; omega, by simp only [List.length_append, List.length_cons, List.length_nil]; omega⟩))
        refine cons (opv (Ev.assign (.t rfl)) (nil (pN (mtP (X := OV) (_) trivial (hL := (by unfold setL; (first | rw [if_pos h1] | rw [if_neg h1]); repeat first | exact SubP.nil | refine SubP.cons (by repeat first | exact Rem.head | apply Rem.tail) ?_))))))
      · try simp only [nb] at h1
        refine region (cons (opv (Ev.move (.t rfl)) (cons (opv (Ev.move (.t rfl)) (cons (opv (Ev.fieldAddr (o := 2) (.t rfl) (by kernel_rfl)) ?_))))))
        refine cons (opv (Ev.ldv ty52 (.t rfl) SChange.l_route) ?_)
        refine cons (opv (Ev.indexAddr Tryz.underlying23 ty52 (.t rfl) (.t rfl) (by first | exact isSl_own (by repeat first | exact mH | apply mT | apply mA) | exact fun w I => IsSl.keep0 (by assumption) I.keeps) (fun _ => by simp only [List.length_append, List.length_nil]; omega)) ?_)
        refine cons (storeS0 ty52 (.t rfl) (.t rfl) (by repeat first | exact Upd.head | apply Upd.tail | apply Upd.right) (by simp only [List.length_append, List.length_nil]; omega) ?_)
        refine nil (pN (mtP (X := OV) (_) trivial (hL := (by unfold setL; (first | rw [if_pos h1] | rw [if_neg h1]); repeat first | exact SubP.nil | refine SubP.cons (by repeat first | exact Rem.head | apply Rem.tail) ?_))))
    obtain ⟨n1, rfl⟩ : ∃ y, y = x := ⟨x, rfl⟩
    show Sat _ _ [(2, true, .pointer (some ⟨b1, 0, none⟩)), (3, true, .pointer (some ⟨b2, 0, none⟩)), (4, true, .pointer (some ⟨b3, 0, none⟩)), (7, true, n1.v)] [OwnS n1.v eRoute (setL l.rs (iR l u) u.route) 52, Var b3 eConf eConf.zero 28, Var b2 eChange u 61, Var b1 eConf c 28]
    refine seq (region (cons (opv (Ev.move (.t rfl)) (cons (opv (Ev.fieldAddr (o := 1) (.t rfl) (by kernel_rfl)) ?_)))))
    refine cons (stv ty23 SConf.l_routes (.t rfl) (.t rfl) ?_)
    refine nil (pN (seq (region (cons (opv (Ev.ldv ty28 (.t rfl) (Lens.id _)) ?_)))))
    refine cons (stv ty28 (Lens.id _) (.t rfl) (.t rfl) ?_)
    refine cons (opv (Ev.assign (.c (v := .bool true) rfl)) ?_)
    refine nil (pN (ret (pR (done rfl (.cell rfl (fun w I => run_loadVar_pts ty28 (ptsVar (by repeat first | exact mH | apply mT | apply mA) (Lens.id _) w I)) (.tmp rfl .nil)) (fun w I => ?_)))))
    have eL : changeL l u rl = { l with rs := setL l.rs (iR l u) u.route } := by unfold changeL; rw [if_neg (by rw [hk]; decide), if_neg (by rw [hk]; decide), if_pos hk]
    have eB : changeB l u = true := by unfold changeB; rw [if_neg (by rw [hk]; decide), if_neg (by rw [hk]; decide), if_pos hk]
    refine retNP ((({ c with routes := n1 } : SConf), [OwnS n1.v eRoute (setL l.rs (iR l u) u.route) 52])) ?_ (by rw [eB]; rfl) (by repeat first | exact SubP.nil | refine SubP.cons (by repeat first | exact Rem.head | apply Rem.tail) ?_) w I
    rw [eL]
    exact ⟨rfl, fun w1 h1 h2 => ⟨h1.ps, IsSl.of_own (h2 _ List.mem_cons_self), h1.us, h1.ms, h1.xs⟩⟩
  · try simp only [nb] at h0
    have hk : u.kind = 4 := hkk.resolve_left h0
    refine skip (pN (seq (seq (region (cons (opv (Ev.move (.t rfl)) (cons (opv (Ev.lss_i (.t rfl) (.c (v := I 0) rfl)) ?_))))))))
    refine nil (pN ?_)
    first | refine condD rfl (fun h2 => ?_) (fun h2 => ?_) | refine cond rfl (fun h2 => ?_) (fun h2 => ?_)
    · try simp only [nb] at h2
      refine seq (region (cons (opv (Ev.ldv ty28 (.t rfl) (Lens.id _)) ?_)))
      refine cons (stv ty28 (Lens.id _) (.t rfl) (.t rfl) ?_)
      refine cons (opv (Ev.assign (.c (v := .bool false) rfl)) ?_)
      refine nil (pN (ret (pR (done rfl (.cell rfl (fun w I => run_loadVar_pts ty28 (ptsVar (by repeat first | exact mH | apply mT | apply mA) (Lens.id _) w I)) (.tmp rfl .nil)) (fun w I => ?_)))))
      have eL : changeL l u rl = { l with rs := cutI l.rs (iR l u) } := by unfold changeL; rw [if_neg (by rw [hk]; decide), if_neg (by rw [hk]; decide), if_neg (by rw [hk]; decide), if_pos hk]
      have eB : changeB l u = false := by unfold changeB; rw [if_neg (by rw [hk]; decide), if_neg (by rw [hk]; decide), if_neg (by rw [hk]; decide), if_pos hk]; exact decide_eq_false (fun h => h h2)
      have e0 : { l with rs := cutI l.rs (iR l u) } = l := by unfold cutI; rw [if_pos h2]
      refine retNP (c, []) ?_ (by rw [eB]; rfl) SubP.nil w I
      rw [eL, e0]
      exact chg_same c l
    · try simp only [nb] at h2
      refine skip (pN (seq (region (cons (opv (Ev.move (.t rfl)) (cons (opv (Ev.fieldAddr (o := 1) (.t rfl) (by kernel_rfl)) ?_)))))))
      refine cons (opv (Ev.ldv ty23 (.t rfl) SConf.l_routes) ?_)
      refine cons (opv (Ev.move (.t rfl)) (cons (opv (Ev.sliceH Tryz.underlying23 ty52 (.t rfl) (.t rfl) (fun w I => (hc.keep0 I.keeps).rs) (fun _ => by omega)) ?_)))
      refine cons (app (E := eRoute) Tryz.underlying23 ty52 zb52 zs52 (.t rfl) (.t rfl) (fun v7 => ?_) (hsrc := (fun w I => IsSl.sub (w := w) ((hc.keep0 I.keeps).rs) (by omega) (by omega))) (hby := ⟨by (show _ ≤ 9223372036854775807); simp only [List.length_nil, List.length_take, List.length_drop]; omega, by simp only [List.length_nil, List.length_take, List.length_drop]; omega⟩))
      refine cons (opv (Ev.assign (.t rfl)) (nil (pN (seq (region (cons (opv (Ev.move (.t rfl)) (cons (opv (Ev.fieldAddr (o := 1) (.t rfl) (by kernel_rfl)) ?_)))))))))
      refine cons (opv (Ev.ldv ty23 (.t rfl) SConf.l_routes) ?_)
      refine cons (opv (Ev.move (.t rfl)) (cons (opv (Ev.add_i (.t rfl) (.c (v := I 1) rfl) (fun _ => by omega)) ?_)))
      refine cons (opv (Ev.sliceL Tryz.underlying23 ty52 (.t rfl) (.t rfl) (fun w I => (hc.keep0 I.keeps).rs) (fun _ => by omega)) ?_)
      refine cons (app (E := eRoute) Tryz.underlying23 ty52 zb52 zs52 (.t rfl) (.t rfl) (fun v8 => ?_) (hsrc := (fun w I => IsSl.sub (w := w) ((hc.keep0 I.keeps).rs) (by omega) (by omega))) (hby := ⟨by (show _ ≤ 9223372036854775807); simp only [List.length_append, List.length_nil, List.length_take, List.length_drop]; omega, by simp only [List.length_append, List.length_nil, List.length_take, List.length_drop]; omega⟩))
      refine cons (opv (Ev.fieldAddr (o := 1) (.t rfl) (by kernel_rfl)) ?_)
      refine cons (stv ty23 SConf.l_routes (.t rfl) (.t rfl) ?_)
      refine nil (pN (seq (region (cons (opv (Ev.ldv ty28 (.t rfl) (Lens.id _)) ?_)))))
      refine cons (stv ty28 (Lens.id _) (.t rfl) (.t rfl) ?_)
      refine cons (opv (Ev.assign (.c (v := .bool true) rfl)) ?_)
      refine nil (pN (ret (done rfl (.cell rfl (fun w I => run_loadVar_pts ty28 (ptsVar (by repeat first | exact mH | apply mT | apply mA) (Lens.id _) w I)) (.tmp rfl .nil)) (fun w I => ?_))))
      have eL : changeL l u rl = { l with rs := cutI l.rs (iR l u) } := by unfold changeL; rw [if_neg (by rw [hk]; decide), if_neg (by rw [hk]; decide), if_neg (by rw [hk]; decide), if_pos hk]
      have eB : changeB l u = true := by unfold changeB; rw [if_neg (by rw [hk]; decide), if_neg (by rw [hk]; decide), if_neg (by rw [hk]; decide), if_pos hk]; exact decide_eq_true h2
      have ec : cutI l.rs (iR l u) = ([] ++ List.drop 0 (l.rs.take (iR l u).toNat)) ++ List.drop (iR l u + 1).toNat (l.rs.take l.rs.length) := by unfold cutI cutL; rw [if_neg h2, List.take_length]; rfl
      refine retNP ((({ c with routes := v8 } : SConf), [OwnS v8.v eRoute (cutI l.rs (iR l u)) 52])) ?_ (by rw [eB]; rfl) (by rw [ec]; exact (by repeat first | exact SubP.nil | refine SubP.cons (by repeat first | exact Rem.head | apply Rem.tail) ?_)) w I
      rw [eL]
      exact ⟨rfl, fun w1 h1 h2 => ⟨h1.ps, IsSl.of_own (h2 _ List.mem_cons_self), h1.us, h1.ms, h1.xs⟩⟩
theorem rchmeter_ok (c : SConf) (u : SChange) (l : CL) (rl : List SRule) (w : World) (hc : ConfAt w c l) (hkk : u.kind = 5 ∨ u.kind = 6) (hn : l.ms.length ≤ 1048576) : Calls Tryz.prog 146 #[eConf.val c, eChange.val u] w (RetN w (ChgJ c l (changeL l u rl) c.default) (fun y => .tuple #[eConf.val y.1, .bool (changeB l u)]) (fun y => y.2)) := by
  refine enter0 53 Tryz.func146 rfl rfl (Nat.le_of_ble_eq_true rfl) ?_
  refine seq (region (cons (box (E := eConf) (.t rfl) (fun b1 => ?_))))
  refine cons (box (E := eChange) (.t rfl) (fun b2 => ?_))
  refine cons (alloc z28 (fun b3 => ?_))
  refine cons (opv (Ev.assign (.c (v := .bool false) rfl)) ?_)
  refine nil (pN (seq (region (cons (opv (Ev.ldv ty28 (.t rfl) (Lens.id _)) ?_)))))
  refine cons (opv (Ev.fieldAddr (o := 21) (.t rfl) (by kernel_rfl)) ?_)
  refine cons (opv (Ev.fieldAddr (o := 0) (.t rfl) (by kernel_rfl)) ?_)
  refine cons (opv (Ev.ldv ty9 (.t rfl) (Lens.comp SChange.l_meter SMeterConf.l_name)) ?_)
  refine cons (callv en126 (.cons (.t rfl) (.cons (.t rfl) .nil)) (fun w I => rmeter_ix c l _ w (hc.keep0 I.keeps)) ?_)
  refine cons (opv (Ev.to (v' := I (iM l u)) (Ev.assign (.t rfl)) (rfl)) ?_)
  refine nil (pN (seq (region (cons (opv (Ev.assign (.c (v := (Go.Value.slice none 0 0)) rfl)) ?_)))))
  refine takeNil eMeterConf 57 ?_
  refine nil (pN (seq (seq (takeNil eMeterConf 57 ?_))))
  have hix : -1 ≤ iM l u ∧ (iM l u < 0 ∨ iM l u < l.ms.length) := idxF_lt (fun z : SMeterConf => decide (z.name = u.meter.name)) l.ms
  have hll := hc.ms.le
  refine region (cons (opv (Ev.fieldAddr (o := 0) (.t rfl) (by kernel_rfl)) ?_))
  refine cons (opv (Ev.ldv ty3 (.t rfl) SChange.l_kind) ?_)
  refine cons (opv (Ev.eql_i (.t rfl) (.c (v := I 5) rfl)) ?_)
  refine nil (pN ?_)
  first | refine condD rfl (fun h0 => ?_) (fun h0 => ?_) | refine cond rfl (fun h0 => ?_) (fun h0 => ?_)
  · try simp only [nb] at h0
    have hk : u.kind = 5 := h0
    refine seq (region (cons (opv (Ev.move (.t rfl)) (cons (opv (Ev.fieldAddr (o := 3) (.t rfl) (by kernel_rfl)) ?_)))))
    refine cons (opv (Ev.ldv ty25 (.t rfl) SConf.l_meters) ?_)
    refine cons (app (E := eMeterConf) Tryz.underlying25 ty57 zb57 zs57 (.t rfl) (.t rfl) (fun v4 => ?_) (hsrc := (fun w I => (hc.keep0 I.keeps).ms)) (hby := ⟨by (show _ ≤ 9223372036854775807); simp only [List.length_nil]; omega, by simp only [List.length_nil]; omega⟩))
    refine cons (opv (Ev.assign (.t rfl)) (nil (pN (cut (X := OV) (fun x : OV => True) (fun x : OV => [(2, true, .pointer (some ⟨b1, 0, none⟩)), (3, true, .pointer (some ⟨b2, 0, none⟩)), (4, true, .pointer (some ⟨b3, 0, none⟩)), (7, true, x.v)]) (fun x : OV => [OwnS x.v eMeterConf (setL l.ms (iM l u) u.meter) 57, Var b3 eConf eConf.zero 28, Var b2 eChange u 61, Var b1 eConf c 28]) ?_ (fun x hx => ?_)))))
    · refine seq (region (cons (opv (Ev.move (.t rfl)) (cons (opv (Ev.lss_i (.t rfl) (.c (v := I 0) rfl)) ?_)))))
      refine nil (pN ?_)
      first | refine condD rfl (fun h1 => ?_) (fun h1 => ?_) | refine cond rfl (fun h1 => ?_) (fun h1 => ?_)
      · try simp only [nb] at h1
        refine region (cons (opv (Ev.move (.t rfl)) (cons (opv (Ev.fieldAddr (o := 21) (.t rfl) (by kernel_rfl)) ?_))))
        refine cons (opv (Ev.ldv ty57 (.t rfl) SChange.l_meter) ?_)
        refine cons (buildSlice (E := eMeterConf) Tryz.underlying25 ty57 z57 (.cons (.t rfl) .nil) rfl rfl (fun v5 => ?_))
        refine cons (app (E := eMeterConf) Tryz.underlying25 ty57 zb57 zs57 (.t rfl) (.t rfl) (fun v6 => ?_) (hby := ⟨by (show _ ≤ 9223372036854775807); simp only [List.length_append, List.length_cons, List.length_nil]; omega, by simp only [List.length_append, List.length_cons, List.length_nil]; omega⟩))
        refine cons (opv (Ev.assign (.t rfl)) (nil (pN (mtP (X := OV) (_) trivial (hL := (by unfold setL; (first | rw [if_pos h1] | rw [if_neg h1]); repeat first | exact SubP.nil | refine SubP.cons (by repeat first | exact Rem.head | apply Rem.tail) ?_))))))
      · try simp only [nb] at h1
        refine region (cons (opv (Ev.move (.t rfl)) (cons (opv (Ev.move (.t rfl)) (cons (opv (Ev.fieldAddr (o := 21) (.t rfl) (by kernel_rfl)) ?_))))))
        refine cons (opv (Ev.ldv ty57 (.t rfl) SChange.l_meter) ?_)
        refine cons (opv (Ev.indexAddr Tryz.underlying25 ty57 (.t rfl) (.t rfl) (by first | exact isSl_own (by repeat first | exact mH | apply mT | apply mA) | exact fun w I => IsSl.keep0 (by assumption) I.keeps) (fun _ => by simp only [List.length_append, List.length_nil]; omega)) ?_)
        refine cons (storeS0 ty57 (.t rfl) (.t rfl) (by repeat first | exact Upd.head | apply Upd.tail | apply Upd.right) (by simp only [List.length_append, List.length_nil]; omega) ?_)
        refine nil (pN (mtP (X := OV) (_) trivial (hL := (by unfold setL; (first | rw [if_pos h1] | rw [if_neg h1]); repeat first | exact SubP.nil | refine SubP.cons (by repeat first | exact Rem.head | apply Rem.tail) ?_))))
    obtain ⟨n1, rfl⟩ : ∃ y, y = x := ⟨x, rfl⟩
    show Sat _ _ [(2, true, .pointer (some ⟨b1, 0, none⟩)), (3, true, .pointer (some ⟨b2, 0, none⟩)), (4, true, .pointer (some ⟨b3, 0, none⟩)), (7, true, n1.v)] [OwnS n1.v eMeterConf (setL l.ms (iM l u) u.meter) 57, Var b3 eConf eConf.zero 28, Var b2 eChange u 61, Var b1 eConf c 28]
    refine seq (region (cons (opv (Ev.move (.t rfl)) (cons (opv (Ev.fieldAddr (o := 3) (.t rfl) (by kernel_rfl)) ?_)))))
    refine cons (stv ty25 SConf.l_meters (.t rfl) (.t rfl) ?_)
    refine nil (pN (seq (region (cons (opv (Ev.ldv ty28 (.t rfl) (Lens.id _)) ?_)))))
    refine cons (stv ty28 (Lens.id _) (.t rfl) (.t rfl) ?_)
    refine cons (opv (Ev.assign (.c (v := .bool true) rfl)) ?_)
    refine nil (pN (ret (pR (done rfl (.cell rfl (fun w I => run_loadVar_pts ty28 (ptsVar (by repeat first | exact mH | apply mT | apply mA) (Lens.id _) w I)) (.tmp rfl .nil)) (fun w I => ?_)))))
    have eL : changeL l u rl = { l with ms := setL l.ms (iM l u) u.meter } := by unfold changeL; rw [if_neg (by rw [hk]; decide), if_neg (by rw [hk]; decide), if_neg (by rw [hk]; decide), if_neg (by rw [hk]; decide), if_pos hk]
    have eB : changeB l u = true := by unfold changeB; rw [if_neg (by rw [hk]; decide), if_neg (by rw [hk]; decide), if_neg (by rw [hk]; decide), if_neg (by rw [hk]; decide), if_pos hk]
    refine retNP ((({ c with meters := n1 } : SConf), [OwnS n1.v eMeterConf (setL l.ms (iM l u) u.meter) 57])) ?_ (by rw [eB]; rfl) (by repeat first | exact SubP.nil | refine SubP.cons (by repeat first | exact Rem.head | apply Rem.tail) ?_) w I
    rw [eL]
    exact ⟨rfl, fun w1 h1 h2 => ⟨h1.ps, h1.rs, h1.us, IsSl.of_own (h2 _ List.mem_cons_self), h1.xs⟩⟩
  · try simp only [nb] at h0
    have hk : u.kind = 6 := hkk.resolve_left h0
    refine skip (pN (seq (seq (region (cons (opv (Ev.move (.t rfl)) (cons (opv (Ev.lss_i (.t rfl) (.c (v := I 0) rfl)) ?_))))))))
    refine nil (pN ?_)
    first | refine condD rfl (fun h2 => ?_) (fun h2 => ?_) | refine cond rfl (fun h2 => ?_) (fun h2 => ?_)
    · try simp only [nb] at h2
      refine seq (region (cons (opv (Ev.ldv ty28 (.t rfl) (Lens.id _)) ?_)))
      refine cons (stv ty28 (Lens.id _) (.t rfl) (.t rfl) ?_)
      refine cons (opv (Ev.assign (.c (v := .bool false) rfl)) ?_)
      refine nil (pN (ret (pR (done rfl (.cell rfl (fun w I => run_loadVar_pts ty28 (ptsVar (by repeat first | exact mH | apply mT | apply mA) (Lens.id _) w I)) (.tmp rfl .nil)) (fun w I => ?_)))))
      have eL : changeL l u rl = { l with ms := cutI l.ms (iM l u) } := by unfold changeL; rw [if_neg (by rw [hk]; decide), if_neg (by rw [hk]; decide), if_neg (by rw [hk]; decide), if_neg (by rw [hk]; decide), if_neg (by rw [hk]; decide), if_pos hk]
      have eB : changeB l u = false := by unfold changeB; rw [if_neg (by rw [hk]; decide), if_neg (by rw [hk]; decide), if_neg (by rw [hk]; decide), if_neg (by rw [hk]; decide), if_neg (by rw [hk]; decide), if_pos hk]; exact decide_eq_false (fun h => h h2)
      have e0 : { l with ms := cutI l.ms (iM l u) } = l := by unfold cutI; rw [if_pos h2]
      refine retNP (c, []) ?_ (by rw [eB]; rfl) SubP.nil w I
      rw [eL, e0]
      exact chg_same c l
    · try simp only [nb] at h2
      refine skip (pN (seq (region (cons (opv (Ev.move (.t rfl)) (cons (opv (Ev.fieldAddr (o := 3) (.t rfl) (by kernel_rfl)) ?_)))))))
      refine cons (opv (Ev.ldv ty25 (.t rfl) SConf.l_meters) ?_)
      refine cons (opv (Ev.move (.t rfl)) (cons (opv (Ev.sliceH Tryz.underlying25 ty57 (.t rfl) (.t rfl) (fun w I => (hc.keep0 I.keeps).ms) (fun _ => by omega)) ?_)))
      refine cons (app (E := eMeterConf) Tryz.underlying25 ty57 zb57 zs57 (.t rfl) (.t rfl) (fun v7 => ?_) (hsrc := (fun w I => IsSl.sub (w := w) ((hc.keep0 I.keeps).ms) (by omega) (by omega))) (hby := ⟨by (show _ ≤ 9223372036854775807); simp only [List.length_nil, List.length_take, List.length_drop]; omega, by simp only [List.length_nil, List.length_take, List.length_drop]; omega⟩))
      refine cons (opv (Ev.assign (.t rfl)) (nil (pN (seq (region (cons (opv (Ev.move (.t rfl)) (cons (opv (Ev.fieldAddr (o := 3) (.t rfl) (by kernel_rfl)) ?_)))))))))
      refine cons (opv (Ev.ldv ty25 (.t rfl) SConf.l_meters) ?_)
      refine cons (opv (Ev.move (.t rfl)) (cons (opv (Ev.add_i (.t rfl) (.c (v := I 1) rfl) (fun _ => by omega)) ?_)))
      refine cons (opv (Ev.sliceL Tryz.underlying25 ty57 (.t rfl) (.t rfl) (fun w I => (hc.keep0 I.keeps).ms) (fun _ => by omega)) ?_)
      refine cons (app (E := eMeterConf) Tryz.underlying25 ty57 zb57 zs57 (.t rfl) (.t rfl) (fun v8 => ?_) (hsrc := (fun w I => IsSl.sub (w := w) ((hc.keep0 I.keeps).ms) (by omega) (by omega))) (hby := ⟨by (show _ ≤ 9223372036854775807); simp only [List.length_append, List.length_nil, List.length_take, List.length_drop]; omega, by simp only [List.length_append, List.length_nil, List.length_take, List.length_drop]; omega⟩))
      refine cons (opv (Ev.fieldAddr (o := 3) (.t rfl) (by kernel_rfl)) ?_)
      refine cons (stv ty25 SConf.l_meters (.t rfl) (.t rfl) ?_)
      refine nil (pN (seq (region (cons (opv (Ev.ldv ty28 (.t rfl) (Lens.id _)) ?_)))))
      refine cons (stv ty28 (Lens.id _) (.t rfl) (.t rfl) ?_)
      refine cons (opv (Ev.assign (.c (v := .bool true) rfl)) ?_)
      refine nil (pN (ret (done rfl (.cell rfl (fun w I => run_loadVar_pts ty28 (ptsVar (by repeat first | exact mH | apply mT | apply mA) (Lens.id _) w I)) (.tmp rfl .nil)) (fun w I => ?_))))
      have eL : changeL l u rl = { l with ms := cutI l.ms (iM l u) } := by unfold changeL; rw [if_neg (by rw [hk]; decide), if_neg (by rw [hk]; decide), if_neg (by rw [hk]; decide), if_neg (by rw [hk]; decide), if_neg (by rw [hk]; decide), if_pos hk]
      have eB : changeB l u = true := by unfold changeB; rw [if_neg (by rw [hk]; decide), if_neg (by rw [hk]; decide), if_neg (by rw [hk]; decide), if_neg (by rw [hk]; decide), if_neg (by rw [hk]; decide), if_pos hk]; exact decide_eq_true h2
      have ec : cutI l.ms (iM l u) = ([] ++ List.drop 0 (l.ms.take (iM l u).toNat)) ++ List.drop (iM l u + 1).toNat (l.ms.take l.ms.length) := by unfold cutI cutL; rw [if_neg h2, List.take_length]; rfl
      refine retNP ((({ c with meters := v8 } : SConf), [OwnS v8.v eMeterConf (cutI l.ms (iM l u)) 57])) ?_ (by rw [eB]; rfl) (by rw [ec]; exact (by repeat first | exact SubP.nil | refine SubP.cons (by repeat first | exact Rem.head | apply Rem.tail) ?_)) w I
      rw [eL]
      exact ⟨rfl, fun w1 h1 h2 => ⟨h1.ps, h1.rs, h1.us, IsSl.of_own (h2 _ List.mem_cons_self), h1.xs⟩⟩
theorem rchmirror_ok (c : SConf) (u : SChange) (l : CL) (rl : List SRule) (w : World) (hc : ConfAt w c l) (hkk : u.kind = 7 ∨ u.kind = 8) (hn : l.xs.length ≤ 1048576) : Calls Tryz.prog 147 #[eConf.val c, eChange.val u] w (RetN w (ChgJ c l (changeL l u rl) c.default) (fun y => .tuple #[eConf.val y.1, .bool (changeB l u)]) (fun y => y.2)) := by
  refine enter0 53 Tryz.func147 rfl rfl (Nat.le_of_ble_eq_true rfl) ?_
  refine seq (region (cons (box (E := eConf) (.t rfl) (fun b1 => ?_))))
  refine cons (box (E := eChange) (.t rfl) (fun b2 => ?_))
  refine cons (alloc z28 (fun b3 => ?_))
  refine cons (opv (Ev.assign (.c (v := .bool false) rfl)) ?_)
  refine nil (pN (seq (region (cons (opv (Ev.ldv ty28 (.t rfl) (Lens.id _)) ?_)))))
  refine cons (opv (Ev.fieldAddr (o := 25) (.t rfl) (by kernel_rfl)) ?_)
  refine cons (opv (Ev.fieldAddr (o := 0) (.t rfl) (by kernel_rfl)) ?_)
  refine cons (opv (Ev.ldv ty9 (.t rfl) (Lens.comp SChange.l_mirror SMirrorConf.l_name)) ?_)
  refine cons (callv en127 (.cons (.t rfl) (.cons (.t rfl) .nil)) (fun w I => rmirror_ix c l _ w (hc.keep0 I.keeps)) ?_)
  refine cons (opv (Ev.to (v' := I (iX l u)) (Ev.assign (.t rfl)) (rfl)) ?_)
  refine nil (pN (seq (region (cons (opv (Ev.assign (.c (v := (Go.Value.slice none 0 0)) rfl)) ?_)))))
  refine takeNil eMirrorConf 59 ?_
  refine nil (pN (seq (seq (takeNil eMirrorConf 59 ?_))))
  have hix : -1 ≤ iX l u ∧ (iX l u < 0 ∨ iX l u < l.xs.length) := idxF_lt (fun z : SMirrorConf => decide (z.name = u.mirror.name)) l.xs
  have hll := hc.xs.le
  refine region (cons (opv (Ev.fieldAddr (o := 0) (.t rfl) (by kernel_rfl)) ?_))
  refine cons (opv (Ev.ldv ty3 (.t rfl) SChange.l_kind) ?_)
  refine cons (opv (Ev.eql_i (.t rfl) (.c (v := I 7) rfl)) ?_)
  refine nil (pN ?_)
  first | refine condD rfl (fun h0 => ?_) (fun h0 => ?_) | refine cond rfl (fun h0 => ?_) (fun h0 => ?_)
  · try simp only [nb] at h0
    have hk : u.kind = 7 := h0
    refine seq (region (cons (opv (Ev.move (.t rfl)) (cons (opv (Ev.fieldAddr (o := 4) (.t rfl) (by kernel_rfl)) ?_)))))
    refine cons (opv (Ev.ldv ty26 (.t rfl) SConf.l_mirrors) ?_)
    refine cons (app (E := eMirrorConf) Tryz.underlying26 ty59 zb59 zs59 (.t rfl) (.t rfl) (fun v4 => ?_) (hsrc := (fun w I => (hc.keep0 I.keeps).xs)) (hby := ⟨by (show _ ≤ 9223372036854775807); simp only [List.length_nil]; omega, by simp only [List.length_nil]; omega⟩))
    refine cons (opv (Ev.assign (.t rfl)) (nil (pN (cut (X := OV) (fun x : OV => True) (fun x : OV => [(2, true, .pointer (some ⟨b1, 0, none⟩)), (3, true, .pointer (some ⟨b2, 0, none⟩)), (4, true, .pointer (some ⟨b3, 0, none⟩)), (7, true, x.v)]) (fun x : OV => [OwnS x.v eMirrorConf (setL l.xs (iX l u) u.mirror) 59, Var b3 eConf eConf.zero 28, Var b2 eChange u 61, Var b1 eConf c 28]) ?_ (fun x hx => ?_)))))
    · refine seq (region (cons (opv (Ev.move (.t rfl)) (cons (opv (Ev.lss_i (.t rfl) (.c (v := I 0) rfl)) ?_)))))
      refine nil (pN ?_)
      first | refine condD rfl (fun h1 => ?_) (fun h1 => ?_) | refine cond rfl (fun h1 => ?_) (fun h1 => ?_)
      · try simp only [nb] at h1
        refine region (cons (opv (Ev.move (.t rfl)) (cons (opv (Ev.fieldAddr (o := 25) (.t rfl) (by kernel_rfl)) ?_))))
        refine cons (opv (Ev.ldv ty59 (.t rfl) SChange.l_mirror) ?_)
        refine cons (buildSlice (E := eMirrorConf) Tryz.underlying26 ty59 z59 (.cons (.t rfl) .nil) rfl rfl (fun v5 => ?_))
        refine cons (app (E := eMirrorConf) Tryz.underlying26 ty59 zb59 zs59 (.t rfl) (.t rfl) (fun v6 => ?_) (hby := ⟨by (show _ ≤ 9223372036854775807); simp only [List.length_append, List.length_cons, List.length_nil]; omega, by simp only [List.length_append, List.length_cons, List.length_nil]; omega⟩))
        refine cons (opv (Ev.assign (.t rfl)) (nil (pN (mtP (X := OV) (_) trivial (hL := (by unfold setL; (first | rw [if_pos h1] | rw [if_neg h1]); repeat first | exact SubP.nil | refine SubP.cons (by repeat first | exact Rem.head | apply Rem.tail) ?_))))))
      · try simp only [nb] at h1
        refine region (cons (opv (Ev.move (.t rfl)) (cons (opv (Ev.move (.t rfl)) (cons (opv (Ev.fieldAddr (o := 25) (.t rfl) (by kernel_rfl)) ?_))))))
        refine cons (opv (Ev.ldv ty59 (.t rfl) SChange.l_mirror) ?_)
        refine cons (opv (Ev.indexAddr Tryz.underlying26 ty59 (.t rfl) (.t rfl) (by first | exact isSl_own (by repeat first | exact mH | apply mT | apply mA) | exact fun w I => IsSl.keep0 (by assumption) I.keeps) (fun _ => by simp only [List.length_append, List.length_nil]; omega)) ?_)
        refine cons (storeS0 ty59 (.t rfl) (.t rfl) (by repeat first | exact Upd.head | apply Upd.tail | apply Upd.right) (by simp only [List.length_append, List.length_nil]; omega) ?_)
        refine nil (pN (mtP (X := OV) (_) trivial (hL := (by unfold setL; (first | rw [if_pos h1] | rw [if_neg h1]); repeat first | exact SubP.nil | refine SubP.cons (by repeat first | exact Rem.head | apply Rem.tail) ?_))))
    obtain ⟨n1, rfl⟩ : ∃ y, y = x := ⟨x, rfl⟩
    show Sat _ _ [(2, true, .pointer (some ⟨b1, 0, none⟩)), (3, true, .pointer (some ⟨b2, 0, none⟩)), (4, true, .pointer (some ⟨b3, 0, none⟩)), (7, true, n1.v)] [OwnS n1.v eMirrorConf (setL l.xs (iX l u) u.mirror) 59, Var b3 eConf eConf.zero 28, Var b2 eChange u 61, Var b1 eConf c 28]
    refine seq (region (cons (opv (Ev.move (.t rfl)) (cons (opv (Ev.fieldAddr (o := 4) (.t rfl) (by kernel_rfl)) ?_)))))
    refine cons (stv ty26 SConf.l_mirrors (.t rfl) (.t rfl) ?_)
    refine nil (pN (seq (region (cons (opv (Ev.ldv ty28 (.t rfl) (Lens.id _)) ?_)))))
    refine cons (stv ty28 (Lens.id _) (.t rfl) (.t rfl) ?_)
    refine cons (opv (Ev.assign (.c (v := .bool true) rfl)) ?_)
    refine nil (pN (ret (pR (done rfl (.cell rfl (fun w I => run_loadVar_pts ty28 (ptsVar (by repeat first | exact mH | apply mT | apply mA) (Lens.id _) w I)) (.tmp rfl .nil)) (fun w I => ?_)))))
    have eL : changeL l u rl = { l with xs := setL l.xs (iX l u) u.mirror } := by unfold changeL; rw [if_neg (by rw [hk]; decide), if_neg (by rw [hk]; decide), if_neg (by rw [hk]; decide), if_neg (by rw [hk]; decide), if_neg (by rw [hk]; decide), if_neg (by rw [hk]; decide), if_pos hk]
    have eB : changeB l u = true := by unfold changeB; rw [if_neg (by rw [hk]; decide), if_neg (by rw [hk]; decide), if_neg (by rw [hk]; decide), if_neg (by rw [hk]; decide), if_neg (by rw [hk]; decide), if_neg (by rw [hk]; decide), if_pos hk]
    refine retNP ((({ c with mirrors := n1 } : SConf), [OwnS n1.v eMirrorConf (setL l.xs (iX l u) u.mirror) 59])) ?_ (by rw [eB]; rfl) (by repeat first | exact SubP.nil | refine SubP.cons (by repeat first | exact Rem.head | apply Rem.tail) ?_) w I
    rw [eL]
    exact ⟨rfl, fun w1 h1 h2 => ⟨h1.ps, h1.rs, h1.us, h1.ms, IsSl.of_own (h2 _ List.mem_cons_self)⟩⟩
  · try simp only [nb] at h0
    have hk : u.kind = 8 := hkk.resolve_left h0
    refine skip (pN (seq (seq (region (cons (opv (Ev.move (.t rfl)) (cons (opv (Ev.lss_i (.t rfl) (.c (v := I 0) rfl)) ?_))))))))
    refine nil (pN ?_)
    first | refine condD rfl (fun h2 => ?_) (fun h2 => ?_) | refine cond rfl (fun h2 => ?_) (fun h2 => ?_)
    · try simp only [nb] at h2
      refine seq (region (cons (opv (Ev.ldv ty28 (.t rfl) (Lens.id _)) ?_)))
      refine cons (stv ty28 (Lens.id _) (.t rfl) (.t rfl) ?_)
      refine cons (opv (Ev.assign (.c (v := .bool false) rfl)) ?_)
      refine nil (pN (ret (pR (done rfl (.cell rfl (fun w I => run_loadVar_pts ty28 (ptsVar (by repeat first | exact mH | apply mT | apply mA) (Lens.id _) w I)) (.tmp rfl .nil)) (fun w I => ?_)))))
      have eL : changeL l u rl = { l with xs := cutI l.xs (iX l u) } := by unfold changeL; rw [if_neg (by rw [hk]; decide), if_neg (by rw [hk]; decide), if_neg (by rw [hk]; decide), if_neg (by rw [hk]; decide), if_neg (by rw [hk]; decide), if_neg (by rw [hk]; decide), if_neg (by rw [hk]; decide), if_pos hk]
      have eB : changeB l u = false := by unfold changeB; rw [if_neg (by rw [hk]; decide), if_neg (by rw [hk]; decide), if_neg (by rw [hk]; decide), if_neg (by rw [hk]; decide), if_neg (by rw [hk]; decide), if_neg (by rw [hk]; decide), if_neg (by rw [hk]; decide), if_pos hk]; exact decide_eq_false (fun h => h h2)
      have e0 : { l with xs := cutI l.xs (iX l u) } = l := by unfold cutI; rw [if_pos h2]
      refine retNP (c, []) ?_ (by rw [eB]; rfl) SubP.nil w I
      rw [eL, e0]
      exact chg_same c l
    · try simp only [nb] at h2
      refine skip (pN (seq (region (cons (opv (Ev.move (.t rfl)) (cons (opv (Ev.fieldAddr (o := 4) (.t rfl) (by kernel_rfl)) ?_)))))))
      refine cons (opv (Ev.ldv ty26 (.t rfl) SConf.l_mirrors) ?_)
      refine cons (opv (Ev.move (.t rfl)) (cons (opv (Ev.sliceH Tryz.underlying26 ty59 (.t rfl) (.t rfl) (fun w I => (hc.keep0 I.keeps).xs) (fun _ => by omega)) ?_)))
      refine cons (app (E := eMirrorConf) Tryz.underlying26 ty59 zb59 zs59 (.t rfl) (.t rfl) (fun v7 => ?_) (hsrc := (fun w I => IsSl.sub (w := w) ((hc.keep0 I.keeps).xs) (by omega) (by omega))) (hby := ⟨by (show _ ≤ 9223372036854775807); simp only [List.length_nil, List.length_take, List.length_drop]; omega, by simp only [List.length_nil, List.length_take, List.length_drop]; omega⟩))
      refine cons (opv (Ev.assign (.t rfl)) (nil (pN (seq (region (cons (opv (Ev.move (.t rfl)) (cons (opv (Ev.fieldAddr (o := 4) (.t rfl) (by kernel_rfl)) ?_)))))))))
      refine cons (opv (Ev.ldv ty26 (.t rfl) SConf.l_mirrors) ?_)
      refine cons (opv (Ev.move (.t rfl)) (cons (opv (Ev.add_i (.t rfl) (.c (v := I 1) rfl) (fun _ => by omega)) ?_)))
      refine cons (opv (Ev.sliceL Tryz.underlying26 ty59 (.t rfl) (.t rfl) (fun w I => (hc.keep0 I.keeps).xs) (fun _ => by omega)) ?_)
      refine cons (app (E := eMirrorConf) Tryz.underlying26 ty59 zb59 zs59 (.t rfl) (.t rfl) (fun v8 => ?_) (hsrc := (fun w I => IsSl.sub (w := w) ((hc.keep0 I.keeps).xs) (by omega) (by omega))) (hby := ⟨by (show _ ≤ 9223372036854775807); simp only [List.length_append, List.length_nil, List.length_take, List.length_drop]; omega, by simp only [List.length_append, List.length_nil, List.length_take, List.length_drop]; omega⟩))
      refine cons (opv (Ev.fieldAddr (o := 4) (.t rfl) (by kernel_rfl)) ?_)
      refine cons (stv ty26 SConf.l_mirrors (.t rfl) (.t rfl) ?_)
      refine nil (pN (seq (region (cons (opv (Ev.ldv ty28 (.t rfl) (Lens.id _)) ?_)))))
      refine cons (stv ty28 (Lens.id _) (.t rfl) (.t rfl) ?_)
      refine cons (opv (Ev.assign (.c (v := .bool true) rfl)) ?_)
      refine nil (pN (ret (done rfl (.cell rfl (fun w I => run_loadVar_pts ty28 (ptsVar (by repeat first | exact mH | apply mT | apply mA) (Lens.id _) w I)) (.tmp rfl .nil)) (fun w I => ?_))))
      have eL : changeL l u rl = { l with xs := cutI l.xs (iX l u) } := by unfold changeL; rw [if_neg (by rw [hk]; decide), if_neg (by rw [hk]; decide), if_neg (by rw [hk]; decide), if_neg (by rw [hk]; decide), if_neg (by rw [hk]; decide), if_neg (by rw [hk]; decide), if_neg (by rw [hk]; decide), if_pos hk]
      have eB : changeB l u = true := by unfold changeB; rw [if_neg (by rw [hk]; decide), if_neg (by rw [hk]; decide), if_neg (by rw [hk]; decide), if_neg (by rw [hk]; decide), if_neg (by rw [hk]; decide), if_neg (by rw [hk]; decide), if_neg (by rw [hk]; decide), if_pos hk]; exact decide_eq_true h2
      have ec : cutI l.xs (iX l u) = ([] ++ List.drop 0 (l.xs.take (iX l u).toNat)) ++ List.drop (iX l u + 1).toNat (l.xs.take l.xs.length) := by unfold cutI cutL; rw [if_neg h2, List.take_length]; rfl
      refine retNP ((({ c with mirrors := v8 } : SConf), [OwnS v8.v eMirrorConf (cutI l.xs (iX l u)) 59])) ?_ (by rw [eB]; rfl) (by rw [ec]; exact (by repeat first | exact SubP.nil | refine SubP.cons (by repeat first | exact Rem.head | apply Rem.tail) ?_)) w I
      rw [eL]
      exact ⟨rfl, fun w1 h1 h2 => ⟨h1.ps, h1.rs, h1.us, h1.ms, IsSl.of_own (h2 _ List.mem_cons_self)⟩⟩
theorem rchports_ok (c : SConf) (u : SChange) (l : CL) (rl : List SRule) (w : World) (hc : ConfAt w c l) (hkk : u.kind = 1 ∨ u.kind = 2) (hup : l.ps.Pairwise (· < ·)) (hn : l.ps.length ≤ 1048576) : Calls Tryz.prog 144 #[eConf.val c, eChange.val u] w (RetN w (ChgJ c l (changeL l u rl) c.default) (fun y => .tuple #[eConf.val y.1, .bool (changeB l u)]) (fun y => y.2)) := by
  refine enter0 92 Tryz.func144 rfl rfl (Nat.le_of_ble_eq_true rfl) ?_
  refine seq (region (cons (box (E := eConf) (.t rfl) (fun b1 => ?_))))
  refine cons (box (E := eChange) (.t rfl) (fun b2 => ?_))
  refine cons (alloc z28 (fun b3 => ?_))
  refine cons (opv (Ev.assign (.c (v := .bool false) rfl)) ?_)
  refine nil (pN (seq (region (cons (opv (Ev.ldv ty28 (.t rfl) (Lens.id _)) ?_)))))
  refine cons (opv (Ev.fieldAddr (o := 1) (.t rfl) (by kernel_rfl)) ?_)
  refine cons (opv (Ev.ldx u.port ty3 (.t rfl) SChange.l_port) ?_)
  refine cons (callv en124 (.cons (.t rfl) (.cons (.t rfl) .nil)) (fun w I => rport_ok c l _ w (hc.keep0 I.keeps)) ?_)
  refine cons (opv (Ev.to (v' := .bool (portB l u.port)) (Ev.assign (.t rfl)) (rfl)) ?_)
  refine nil (pN (seq (region (cons (opv (Ev.assign (.c (v := (Go.Value.slice none 0 0)) rfl)) ?_)))))
  refine takeNil iE 3 ?_
  refine nil (pN (seq (seq (takeNil iE 3 ?_))))
  have hll := hc.ps.le
  refine region (cons (opv (Ev.fieldAddr (o := 0) (.t rfl) (by kernel_rfl)) ?_))
  refine cons (opv (Ev.ldx u.kind ty3 (.t rfl) SChange.l_kind) ?_)
  refine cons (opv (Ev.eql_i (.t rfl) (.c (v := I 1) rfl)) ?_)
  refine nil (pN ?_)
  first | refine condD rfl (fun h0 => ?_) (fun h0 => ?_) | refine cond rfl (fun h0 => ?_) (fun h0 => ?_)
  · try simp only [nb] at h0
    have hk : u.kind = 1 := h0
    refine seq (seq (region (cons (opv (Ev.move (.t rfl)) (cons (opv (Ev.move (.t rfl)) (cons (opg rfl rfl (Ev.fieldAddr (o := 1) (.t rfl) (by kernel_rfl)) ?_))))))))
    refine cons (opg rfl rfl (Ev.ldx u.port ty3 (.g rfl id) SChange.l_port) ?_)
    refine cons (opg rfl rfl (Ev.lss_i (.g rfl id) (.c (v := I 0) rfl)) ?_)
    refine cons (opv (Ev.pickO (.t rfl) (.c (v := .bool true) rfl) (fun {_} h => by cases h; rfl) ⟨_, rfl⟩ (by intro h1 h; first | (rw [h] <;> rfl) | (rw [h1, h] <;> rfl) | (rw [h, h1] <;> rfl) | simp_all)) ?_)
    refine cons (opv (Ev.move (.t rfl)) (cons (opg rfl rfl (Ev.fieldAddr (o := 1) (.t rfl) (by kernel_rfl)) ?_)))
    refine cons (opg rfl rfl (Ev.ldx u.port ty3 (.g rfl id) SChange.l_port) ?_)
    refine cons (opg rfl rfl (Ev.gtr_i (.g rfl id) (.c (v := I 255) rfl)) ?_)
    refine cons (opv (Ev.to (v' := .bool (addBad l u)) (Ev.pickO (.t rfl) (.c (v := .bool true) rfl) (fun {_} h => by cases h; rfl) ⟨_, rfl⟩ (by intro h1 h; first | (rw [h] <;> rfl) | (rw [h1, h] <;> rfl) | (rw [h, h1] <;> rfl) | simp_all)) (congrArg Value.bool (by unfold addBad; rw [← port_ix]))) ?_)
    refine nil (pN ?_)
    first | refine condD rfl (fun h1 => ?_) (fun h1 => ?_) | refine cond rfl (fun h1 => ?_) (fun h1 => ?_)
    · refine seq (region (cons (opv (Ev.ldv ty28 (.t rfl) (Lens.id _)) ?_)))
      refine cons (stv ty28 (Lens.id _) (.t rfl) (.t rfl) ?_)
      refine cons (opv (Ev.assign (.c (v := .bool false) rfl)) ?_)
      refine nil (pN (ret (pR (pR (done rfl (.cell rfl (fun w I => run_loadVar_pts ty28 (ptsVar (by repeat first | exact mH | apply mT | apply mA) (Lens.id _) w I)) (.tmp rfl .nil)) (fun w I => ?_))))))
      have eL : changeL l u rl = l := by unfold changeL; rw [if_pos hk]; rw [if_pos h1]
      have eB : changeB l u = false := by unfold changeB; rw [if_pos hk]; first | (rw [h1]; done) | (rw [h1]; rfl)
      refine retNP (c, []) ?_ (by rw [eB]; rfl) SubP.nil w I
      rw [eL]
      exact chg_same c l
    · refine skip (pN (seq (region (cons (opv (Ev.assign (.c (v := I 0) rfl)) ?_)))))
      refine nil (pN (seq (block (lp (X := Int) (fun x : Int => (0 ≤ x ∧ x ≤ l.ps.length) ∧ (∀ j : Nat, j < x → l.ps.getD j 0 < u.port)) (fun x : Int => [(2, true, .pointer (some ⟨b1, 0, none⟩)), (3, true, .pointer (some ⟨b2, 0, none⟩)), (4, true, .pointer (some ⟨b3, 0, none⟩)), (7, true, .slice none 0 0), (8, true, I x)]) (fun x : Int => [OwnS (.slice none 0 0) iE [] 3, Var b3 eConf eConf.zero 28, Var b2 eChange u 61, Var b1 eConf c 28]) (fun x : Int => (l.ps.length - x).toNat) (0) ⟨?_, ?_⟩ (fun x hx => ?_)))))
      · omega
      · intro j h; omega
      obtain ⟨i, rfl⟩ : ∃ y, y = x := ⟨x, rfl⟩
      obtain ⟨hi, hq⟩ : (0 ≤ i ∧ i ≤ l.ps.length) ∧ (∀ j : Nat, j < i → l.ps.getD j 0 < u.port) := hx
      show Sat _ _ [(2, true, .pointer (some ⟨b1, 0, none⟩)), (3, true, .pointer (some ⟨b2, 0, none⟩)), (4, true, .pointer (some ⟨b3, 0, none⟩)), (7, true, .slice none 0 0), (8, true, I i)] [OwnS (.slice none 0 0) iE [] 3, Var b3 eConf eConf.zero 28, Var b2 eChange u 61, Var b1 eConf c 28]
      refine seq (seq (draw' (by kernel_rfl) ?_))
      refine tk 0 rfl (Ev.move (.t rfl)) ?_
      refine tk 1 rfl (Ev.fieldAddr (o := 0) (.t rfl) (by kernel_rfl)) ?_
      refine tk 2 rfl (Ev.ldv ty22 (.t rfl) SConf.l_ports) ?_
      refine tk 3 rfl (Ev.len Tryz.underlying22 (.t rfl) (fun w I => (hc.keep0 I.keeps).ps)) ?_
      refine tk 4 rfl (Ev.lss_i (.t rfl) (.t rfl)) ?_
      refine tk 5 rfl (Ev.move (.t rfl)) ?_
      refine tkg 6 rfl rfl rfl (Ev.fieldAddr (o := 0) (.t rfl) (by kernel_rfl)) ?_
      refine tkg 7 rfl rfl rfl (Ev.ldv ty22 (.g rfl id) SConf.l_ports) ?_
      refine tkg 8 rfl rfl rfl (Ev.move (.t rfl)) ?_
      refine tkg 9 rfl rfl rfl (Ev.indexAddr Tryz.underlying22 ty3 (.g rfl id) (.g rfl id) (fun w I => (hc.keep0 I.keeps).ps) (fun _ => by first | omega | (rename_i hg; simp at hg; omega))) ?_
      refine tkg 10 rfl rfl rfl (Ev.loadS0 ty3 (.g rfl id) (fun w I => (hc.keep0 I.keeps).ps) (fun _ => by first | omega | (rename_i hg; simp at hg; omega))) ?_
      refine tkg 11 rfl rfl rfl (Ev.fieldAddr (o := 1) (.t rfl) (by kernel_rfl)) ?_
      refine tkg 12 rfl rfl rfl (Ev.ldx u.port ty3 (.g rfl id) SChange.l_port) ?_
      refine tkg 13 rfl rfl rfl (Ev.lss_i (.g rfl id) (.g rfl id)) ?_
      refine tk 14 rfl (Ev.pickA (.t rfl) (fun {_} h => by cases h; rfl) ⟨_, rfl⟩ (by intro h1 h; first | (rw [h] <;> rfl) | (rw [h1, h] <;> rfl) | (rw [h, h1] <;> rfl) | simp_all) (.c (v := .bool false) rfl)) ?_
      refine ovr (pN ?_)
      first | refine condD rfl (fun h2 => ?_) (fun h2 => ?_) | refine cond rfl (fun h2 => ?_) (fun h2 => ?_)
      · try simp only [nb] at h2
        refine skip (pN (block (region (cons (opv (Ev.move (.t rfl)) (cons (opv (Ev.add_i (.t rfl) (.c (v := I 1) rfl) (fun _ => by omega)) ?_)))))))
        refine cons (opv (Ev.assign (.t rfl)) (nil (bN (pN (nx (X := Int) (i + 1) ⟨?_, ?_⟩ ?_)))))
        · try dsimp only
          omega
        · try dsimp only
          intro j h
          by_cases e : (j : Int) < i
          · exact hq j e
          · obtain rfl : j = i.toNat := by omega
            exact h2.2
        · try dsimp only
          omega
      · try simp only [nb] at h2
        refine exit (pX (pX (bX (pN (seq ?_)))))
        have hlow : lowB l.ps u.port = i := by
          have := lowB_of (l := l.ps) (x := u.port) (n := i.toNat) (by omega) (fun j hj => hq j (by omega)) (fun j hj hj2 => by
            refine up_ge hup (m := i) (by omega) hj2 ?_
            intro hlt
            rcases h2 with h2 | h2
            · omega
            · exact absurd hlt (by have ez : (iE.zero : Int) = 0 := rfl; simpa [ez] using h2))
          omega
        refine region (cons (opv (Ev.move (.t rfl)) (cons (opv (Ev.fieldAddr (o := 0) (.t rfl) (by kernel_rfl)) ?_))))
        refine cons (opv (Ev.ldv ty22 (.t rfl) SConf.l_ports) ?_)
        refine cons (opv (Ev.move (.t rfl)) (cons (opv (Ev.sliceH Tryz.underlying22 ty3 (.t rfl) (.t rfl) (fun w I => (hc.keep0 I.keeps).ps) (fun _ => by omega)) ?_)))
        refine cons (app (E := iE) Tryz.underlying22 ty3 zb3 zs3 (.t rfl) (.t rfl) (fun v4 => ?_) (hsrc := (fun w I => IsSl.sub (w := w) ((hc.keep0 I.keeps).ps) (by omega) (by omega))) (hby := ⟨by (show _ ≤ 9223372036854775807); simp only [List.length_append, List.length_cons, List.length_nil, List.length_take, List.length_drop]; omega, by simp only [List.length_append, List.length_cons, List.length_nil, List.length_take, List.length_drop]; omega⟩))
        refine cons (opv (Ev.assign (.t rfl)) (nil (pN (seq (region (cons (opv (Ev.move (.t rfl)) (cons (opv (Ev.fieldAddr (o := 1) (.t rfl) (by kernel_rfl)) ?_)))))))))
        refine cons (opv (Ev.ldx u.port ty3 (.t rfl) SChange.l_port) ?_)
        refine cons (buildSlice (E := iE) Tryz.underlying22 ty3 z3 (.cons (.t rfl) .nil) rfl rfl (fun v5 => ?_))
        refine cons (app (E := iE) Tryz.underlying22 ty3 zb3 zs3 (.t rfl) (.t rfl) (fun v6 => ?_) (hby := ⟨by (show _ ≤ 9223372036854775807); simp only [List.length_append, List.length_cons, List.length_nil, List.length_take, List.length_drop]; omega, by simp only [List.length_append, List.length_cons, List.length_nil, List.length_take, List.length_drop]; omega⟩))
        refine cons (opv (Ev.assign (.t rfl)) (nil (pN (seq (region (cons (opv (Ev.move (.t rfl)) (cons (opv (Ev.fieldAddr (o := 0) (.t rfl) (by kernel_rfl)) ?_)))))))))
        refine cons (opv (Ev.ldv ty22 (.t rfl) SConf.l_ports) ?_)
        refine cons (opv (Ev.move (.t rfl)) (cons (opv (Ev.sliceL Tryz.underlying22 ty3 (.t rfl) (.t rfl) (fun w I => (hc.keep0 I.keeps).ps) (fun _ => by omega)) ?_)))
        refine cons (app (E := iE) Tryz.underlying22 ty3 zb3 zs3 (.t rfl) (.t rfl) (fun v7 => ?_) (hsrc := (fun w I => IsSl.sub (w := w) ((hc.keep0 I.keeps).ps) (by omega) (by omega))) (hby := ⟨by (show _ ≤ 9223372036854775807); simp only [List.length_append, List.length_cons, List.length_nil, List.length_take, List.length_drop]; omega, by simp only [List.length_append, List.length_cons, List.length_nil, List.length_take, List.length_drop]; omega⟩))
        refine cons (opv (Ev.fieldAddr (o := 0) (.t rfl) (by kernel_rfl)) ?_)
        refine cons (stv ty22 SConf.l_ports (.t rfl) (.t rfl) ?_)
        refine nil (pN (seq (region (cons (opv (Ev.ldv ty28 (.t rfl) (Lens.id _)) ?_)))))
        refine cons (stv ty28 (Lens.id _) (.t rfl) (.t rfl) ?_)
        refine cons (opv (Ev.assign (.c (v := .bool true) rfl)) ?_)
        refine nil (pN (ret (pR (done rfl (.cell rfl (fun w I => run_loadVar_pts ty28 (ptsVar (by repeat first | exact mH | apply mT | apply mA) (Lens.id _) w I)) (.tmp rfl .nil)) (fun w I => ?_)))))
        have eL : changeL l u rl = { l with ps := insL l.ps (lowB l.ps u.port) u.port } := by unfold changeL; rw [if_pos hk]; rw [if_neg (by rw [h1]; exact Bool.false_ne_true)]
        have eB : changeB l u = true := by unfold changeB; rw [if_pos hk]; first | (rw [h1]; done) | (rw [h1]; rfl)
        have ec : insL l.ps (lowB l.ps u.port) u.port = (([] ++ List.drop 0 (l.ps.take i.toNat)) ++ [u.port]) ++ List.drop i.toNat (l.ps.take l.ps.length) := by unfold insL; rw [hlow, List.take_length]; rfl
        refine retNP ((({ c with ports := v7 } : SConf), [OwnS v7.v iE (insL l.ps (lowB l.ps u.port) u.port) 3])) ?_ (by rw [eB]; rfl) (by rw [ec]; exact (by repeat first | exact SubP.nil | refine SubP.cons (by repeat first | exact Rem.head | apply Rem.tail) ?_)) w I
        rw [eL]
        exact ⟨rfl, fun w1 h1 h2 => ⟨IsSl.of_own (h2 _ List.mem_cons_self), h1.rs, h1.us, h1.ms, h1.xs⟩⟩
  · try simp only [nb] at h0
    have hk : u.kind = 2 := hkk.resolve_left h0
    refine skip (pN (seq (seq (region (cons (opv (Ev.assign (.c (v := I 0) rfl)) ?_))))))
    refine nil (pN (block (lp (X := Int × OV) (fun x : Int × OV => (0 ≤ x.1 ∧ x.1 ≤ l.ps.length)) (fun x : Int × OV => [(2, true, .pointer (some ⟨b1, 0, none⟩)), (3, true, .pointer (some ⟨b2, 0, none⟩)), (4, true, .pointer (some ⟨b3, 0, none⟩)), (6, true, .bool (portB l u.port)), (7, true, x.2.v), (9, true, I x.1)]) (fun x : Int × OV => [OwnS x.2.v iE ((l.ps.take x.1.toNat).filter (fun y => decide (¬ y = u.port))) 3, Var b3 eConf eConf.zero 28, Var b2 eChange u 61, Var b1 eConf c 28]) (fun x : Int × OV => (l.ps.length - x.1).toNat) (0, nilSl) ?_ (fun x hx => ?_) (hL := (by simp only [show (0 : Int).toNat = 0 from rfl, List.take_zero, List.filter_nil]; repeat first | exact sR | exact sN | apply sC | apply sS | apply sA)))))
    · omega
    obtain ⟨i, n⟩ := x
    have hi : 0 ≤ i ∧ i ≤ l.ps.length := hx
    clear hx
    show Sat _ _ [(2, true, .pointer (some ⟨b1, 0, none⟩)), (3, true, .pointer (some ⟨b2, 0, none⟩)), (4, true, .pointer (some ⟨b3, 0, none⟩)), (6, true, .bool (portB l u.port)), (7, true, n.v), (9, true, I i)] [OwnS n.v iE ((l.ps.take i.toNat).filter (fun y => decide (¬ y = u.port))) 3, Var b3 eConf eConf.zero 28, Var b2 eChange u 61, Var b1 eConf c 28]
    refine seq (seq (region (cons (opv (Ev.move (.t rfl)) (cons (opv (Ev.fieldAddr (o := 0) (.t rfl) (by kernel_rfl)) ?_))))))
    refine cons (opv (Ev.ldv ty22 (.t rfl) SConf.l_ports) ?_)
    refine cons (opv (Ev.len Tryz.underlying22 (.t rfl) (fun w I => (hc.keep0 I.keeps).ps)) ?_)
    refine cons (opv (Ev.lss_i (.t rfl) (.t rfl)) ?_)
    refine nil (pN ?_)
    first | refine condD rfl (fun h3 => ?_) (fun h3 => ?_) | refine cond rfl (fun h3 => ?_) (fun h3 => ?_)
    · try simp only [nb] at h3
      refine skip (pN (seq (block (seq (draw' (by kernel_rfl) ?_)))))
      refine tk 0 rfl (Ev.fieldAddr (o := 0) (.t rfl) (by kernel_rfl)) ?_
      refine tk 1 rfl (Ev.ldv ty22 (.t rfl) SConf.l_ports) ?_
      refine tk 2 rfl (Ev.move (.t rfl)) ?_
      refine tk 3 rfl (Ev.indexAddr Tryz.underlying22 ty3 (.t rfl) (.t rfl) (fun w I => (hc.keep0 I.keeps).ps) (fun _ => by omega)) ?_
      refine tk 4 rfl (Ev.loadS0 ty3 (.t rfl) (fun w I => (hc.keep0 I.keeps).ps) (fun _ => by omega)) ?_
      refine tk 5 rfl (Ev.fieldAddr (o := 1) (.t rfl) (by kernel_rfl)) ?_
      refine tk 6 rfl (Ev.ldx u.port ty3 (.t rfl) SChange.l_port) ?_
      refine tk 7 rfl (Ev.neq_i (.t rfl) (.t rfl)) ?_
      refine ovr (pN ?_)
      first | refine condD rfl (fun h4 => ?_) (fun h4 => ?_) | refine cond rfl (fun h4 => ?_) (fun h4 => ?_)
      · have hst : (l.ps.take (i + 1).toNat).filter (fun y => decide (¬ y = u.port)) = (l.ps.take i.toNat).filter (fun y => decide (¬ y = u.port)) ++ [l.ps.getD i.toNat iE.zero] := by
          rw [take_snoc l.ps i hi.1 (by omega) iE.zero, List.filter_append]
          congr 1
          exact List.filter_eq_self.2 (fun y hy => by rw [List.mem_singleton.1 hy]; exact decide_eq_true h4)
        refine region (cons (opv (Ev.move (.t rfl)) (cons (opv (Ev.fieldAddr (o := 0) (.t rfl) (by kernel_rfl)) ?_))))
        refine cons (opv (Ev.ldv ty22 (.t rfl) SConf.l_ports) ?_)
        refine cons (opv (Ev.move (.t rfl)) (cons (opv (Ev.indexAddr Tryz.underlying22 ty3 (.t rfl) (.t rfl) (fun w I => (hc.keep0 I.keeps).ps) (fun _ => by omega)) ?_)))
        refine cons (opv (Ev.loadS0 ty3 (.t rfl) (fun w I => (hc.keep0 I.keeps).ps) (fun _ => by omega)) ?_)
        refine cons (buildSlice (E := iE) Tryz.underlying22 ty3 z3 (.cons (.t rfl) .nil) rfl rfl (fun v8 => ?_))
        refine cons (app (E := iE) Tryz.underlying22 ty3 zb3 zs3 (.t rfl) (.t rfl) (fun v9 => ?_) (hby := ⟨by (show _ ≤ 9223372036854775807); have := List.length_filter_le (fun y => decide (¬ y = u.port)) (l.ps.take i.toNat); rw [List.length_take] at this; simp only [List.length_append, List.length_cons, List.length_nil, List.length_take, List.length_drop]; omega, by have := List.length_filter_le (fun y => decide (¬ y = u.port)) (l.ps.take i.toNat); rw [List.length_take] at this; simp only [List.length_append, List.length_cons, List.length_nil, List.length_take, List.length_drop]; omega⟩))
        refine cons (opv (Ev.assign (.t rfl)) (nil (bN (pN (region (cons (opv (Ev.move (.t rfl)) (cons (opv (Ev.add_i (.t rfl) (.c (v := I 1) rfl) (fun _ => by omega)) ?_)))))))))
        refine cons (opv (Ev.assign (.t rfl)) (nil (pN (nx (X := Int × OV) (i + 1, _) ?_ ?_ (hL := (by rw [hst]; repeat first | exact sR | exact sN | apply sC | apply sS | apply sA))))))
        · try dsimp only
          omega
        · try dsimp only
          omega
      · have hst : (l.ps.take (i + 1).toNat).filter (fun y => decide (¬ y = u.port)) = (l.ps.take i.toNat).filter (fun y => decide (¬ y = u.port)) := by
          rw [take_snoc l.ps i hi.1 (by omega) iE.zero, List.filter_append]
          have e : [l.ps.getD i.toNat iE.zero].filter (fun y => decide (¬ y = u.port)) = [] := List.filter_eq_nil_iff.2 (fun y hy => by rw [List.mem_singleton.1 hy]; simpa using h4)
          rw [e, List.append_nil]
        refine skip (bN (pN (region (cons (opv (Ev.move (.t rfl)) (cons (opv (Ev.add_i (.t rfl) (.c (v := I 1) rfl) (fun _ => by omega)) ?_)))))))
        refine cons (opv (Ev.assign (.t rfl)) (nil (pN (nx (X := Int × OV) (i + 1, _) ?_ ?_ (hL := (by rw [hst]; repeat first | exact sR | exact sN | apply sC | apply sS | apply sA))))))
        · try dsimp only
          omega
        · try dsimp only
          omega
    · try simp only [nb] at h3
      refine exit (pX (pX (bX (pN (seq (region (cons (opv (Ev.move (.t rfl)) (cons (opv (Ev.fieldAddr (o := 0) (.t rfl) (by kernel_rfl)) ?_))))))))))
      refine cons (stv ty22 SConf.l_ports (.t rfl) (.t rfl) ?_)
      refine nil (pN (seq (region (cons (opv (Ev.ldv ty28 (.t rfl) (Lens.id _)) ?_)))))
      refine cons (opv (Ev.move (.t rfl)) (cons (stv ty28 (Lens.id _) (.t rfl) (.t rfl) ?_)))
      refine cons (opv (Ev.assign (.t rfl)) (nil (pN (ret (done rfl (.cell rfl (fun w I => run_loadVar_pts ty28 (ptsVar (by repeat first | exact mH | apply mT | apply mA) (Lens.id _) w I)) (.tmp rfl .nil)) (fun w I => ?_))))))
      have eL : changeL l u rl = { l with ps := cutI l.ps (iP l u) } := by unfold changeL; rw [if_neg (by rw [hk]; decide), if_pos hk]
      have eB : changeB l u = portB l u.port := by unfold changeB; rw [if_neg (by rw [hk]; decide), if_pos hk]; rw [port_ix]; exact decide_eq_decide.2 (by omega)
      have ef : (l.ps.take i.toNat).filter (fun y => decide (¬ y = u.port)) = cutI l.ps (iP l u) := by
        rw [List.take_of_length_le (by omega)]
        exact filter_cut (up_nodup hup) u.port
      refine retNP ((({ c with ports := n } : SConf), [OwnS n.v iE (cutI l.ps (iP l u)) 3])) ?_ (by rw [eB]; rfl) (by rw [← ef]; exact (by repeat first | exact SubP.nil | refine SubP.cons (by repeat first | exact Rem.head | apply Rem.tail) ?_)) w I
      rw [eL]
      exact ⟨rfl, fun w1 h1 h2 => ⟨IsSl.of_own (h2 _ List.mem_cons_self), h1.rs, h1.us, h1.ms, h1.xs⟩⟩
theorem en144 : Gx.Enters Tryz.prog 144 := Gx.Enters.mk' (by kernel_rfl)
theorem en145 : Gx.Enters Tryz.prog 145 := Gx.Enters.mk' (by kernel_rfl)
theorem en146 : Gx.Enters Tryz.prog 146 := Gx.Enters.mk' (by kernel_rfl)
theorem en147 : Gx.Enters Tryz.prog 147 := Gx.Enters.mk' (by kernel_rfl)
theorem rchanged_ok (c : SConf) (u : SChange) (l : CL) (rl : List SRule) (w : World) (hc : ConfAt w c l) (hr : IsSl eRule w u.rules.v rl) (hup : l.ps.Pairwise (· < ·)) (hn : l.ps.length ≤ 1048576 ∧ l.rs.length ≤ 1048576 ∧ l.ms.length ≤ 1048576 ∧ l.xs.length ≤ 1048576) (hrl : rl.length * 152 ≤ 140737488355328) : Calls Tryz.prog 93 #[eConf.val c, eChange.val u] w (RetN w (ChgJ c l (changeL l u rl) (changeD c.default u)) (fun y => .tuple #[eConf.val y.1, .bool (changeB l u)]) (fun y => y.2)) := by
  refine enter0 56 Tryz.func93 rfl rfl (Nat.le_of_ble_eq_true rfl) ?_
  refine seq (region (cons (box (E := eConf) (.t rfl) (fun b1 => ?_))))
  refine cons (box (E := eChange) (.t rfl) (fun b2 => ?_))
  refine cons (alloc z28 (fun b3 => ?_))
  refine cons (opv (Ev.assign (.c (v := .bool false) rfl)) ?_)
  refine nil (pN (seq (seq (region (cons (opv (Ev.fieldAddr (o := 0) (.t rfl) (by kernel_rfl)) ?_))))))
  refine cons (opv (Ev.ldx u.kind ty3 (.t rfl) SChange.l_kind) ?_)
  refine nil (pN (block (cut (X := Bool) (fun x : Bool => (x = true ↔ u.kind = 1 ∨ u.kind = 2)) (fun x : Bool => [(2, true, .pointer (some ⟨b1, 0, none⟩)), (3, true, .pointer (some ⟨b2, 0, none⟩)), (4, true, .pointer (some ⟨b3, 0, none⟩)), (8, true, I u.kind), (9, true, .bool x)]) (fun x : Bool => [Var b3 eConf eConf.zero 28, Var b2 eChange u 61, Var b1 eConf c 28]) ?_ (fun x hx => ?_))))
  · refine seq (region (cons (opv (Ev.eql_i (.t rfl) (.c (v := I 1) rfl)) ?_)))
    refine cons (opv (Ev.assign (.t rfl)) (nil (pN ?_)))
    first | refine condD rfl (fun h0 => ?_) (fun h0 => ?_) | refine cond rfl (fun h0 => ?_) (fun h0 => ?_)
    · try simp only [nb] at h0
      have hk0 : u.kind = 1 := h0
      refine skip (pN (mt (X := Bool) (_) ?_))
      · try dsimp only
        first | exact ⟨fun _ => .inl hk0, fun _ => by simpa using hk0⟩ | exact ⟨fun h => .inr (of_decide_eq_true h), fun h => decide_eq_true (h.resolve_left hk0)⟩
    · try simp only [nb] at h0
      have hk0 : ¬ u.kind = 1 := h0
      refine region (cons (opv (Ev.eql_i (.t rfl) (.c (v := I 2) rfl)) ?_))
      refine cons (opv (Ev.assign (.t rfl)) (nil (pN (mt (X := Bool) (_) ?_))))
      · try dsimp only
        first | exact ⟨fun _ => .inl hk0, fun _ => by simpa using hk0⟩ | exact ⟨fun h => .inr (of_decide_eq_true h), fun h => decide_eq_true (h.resolve_left hk0)⟩
  obtain ⟨q, rfl⟩ : ∃ y, y = x := ⟨x, rfl⟩
  have hq : q = true ↔ u.kind = 1 ∨ u.kind = 2 := hx
  clear hx
  show Sat _ _ [(2, true, .pointer (some ⟨b1, 0, none⟩)), (3, true, .pointer (some ⟨b2, 0, none⟩)), (4, true, .pointer (some ⟨b3, 0, none⟩)), (8, true, I u.kind), (9, true, .bool q)] [Var b3 eConf eConf.zero 28, Var b2 eChange u 61, Var b1 eConf c 28]
  first | refine condD rfl (fun h1 => ?_) (fun h1 => ?_) | refine cond rfl (fun h1 => ?_) (fun h1 => ?_)
  · have hkk : u.kind = 1 ∨ u.kind = 2 := hq.1 h1
    refine seq (region (cons (opv (Ev.ldv ty28 (.t rfl) (Lens.id _)) ?_)))
    refine cons (opv (Ev.ldx u ty61 (.t rfl) (Lens.id _)) ?_)
    refine cons (calln (X := SConf × List Res) (ChgJ c l (changeL l u rl) c.default) (fun y => .tuple #[eConf.val y.1, .bool (changeB l u)]) (fun y => y.2) en144 (.cons (.t rfl) (.cons (.t rfl) .nil)) (fun w I => rchports_ok c u l rl w (hc.keep0 I.keeps) hkk hup hn.1) (fun y1 hy1 => ?_))
    refine cons (opv (Ev.extract (.t rfl) rfl) (cons (opv (Ev.extract (.t rfl) rfl) (cons (stv ty28 (Lens.id _) (.t rfl) (.t rfl) ?_)))))
    refine cons (opv (Ev.assign (.t rfl)) (nil (pN (ret (bR (pR (done rfl (.cell rfl (fun w I => run_loadVar_pts ty28 (ptsVar (by repeat first | exact mH | apply mT | apply mA) (Lens.id _) w I)) (.tmp rfl .nil)) (fun w I => ?_))))))))
    have eD : changeD c.default u = c.default := by unfold changeD; rw [if_neg (by omega)]
    rw [eD]
    exact retNP y1 hy1 rfl (SubP.of (List.sublist_append_left _ _)) w I
  · have hnk : ¬ (u.kind = 1 ∨ u.kind = 2) := fun e => by
      have := hq.2 e
      rw [h1] at this
      cases this
    have n1 : ¬ u.kind = 1 := fun e => hnk (.inl e)
    have n2 : ¬ u.kind = 2 := fun e => hnk (.inr e)
    refine cut (X := Bool) (fun x : Bool => (x = true ↔ u.kind = 3 ∨ u.kind = 4)) (fun x : Bool => [(2, true, .pointer (some ⟨b1, 0, none⟩)), (3, true, .pointer (some ⟨b2, 0, none⟩)), (4, true, .pointer (some ⟨b3, 0, none⟩)), (8, true, I u.kind), (17, true, .bool x)]) (fun x : Bool => [Var b3 eConf eConf.zero 28, Var b2 eChange u 61, Var b1 eConf c 28]) ?_ (fun x hx => ?_)
    · refine seq (region (cons (opv (Ev.eql_i (.t rfl) (.c (v := I 3) rfl)) ?_)))
      refine cons (opv (Ev.assign (.t rfl)) (nil (pN ?_)))
      first | refine condD rfl (fun h2 => ?_) (fun h2 => ?_) | refine cond rfl (fun h2 => ?_) (fun h2 => ?_)
      · try simp only [nb] at h2
        have hk0 : u.kind = 3 := h2
        refine skip (pN (mt (X := Bool) (_) ?_))
        · try dsimp only
          first | exact ⟨fun _ => .inl hk0, fun _ => by simpa using hk0⟩ | exact ⟨fun h => .inr (of_decide_eq_true h), fun h => decide_eq_true (h.resolve_left hk0)⟩
      · try simp only [nb] at h2
        have hk0 : ¬ u.kind = 3 := h2
        refine region (cons (opv (Ev.eql_i (.t rfl) (.c (v := I 4) rfl)) ?_))
        refine cons (opv (Ev.assign (.t rfl)) (nil (pN (mt (X := Bool) (_) ?_))))
        · try dsimp only
          first | exact ⟨fun _ => .inl hk0, fun _ => by simpa using hk0⟩ | exact ⟨fun h => .inr (of_decide_eq_true h), fun h => decide_eq_true (h.resolve_left hk0)⟩
    obtain ⟨q, rfl⟩ : ∃ y, y = x := ⟨x, rfl⟩
    have hq : q = true ↔ u.kind = 3 ∨ u.kind = 4 := hx
    clear hx
    show Sat _ _ [(2, true, .pointer (some ⟨b1, 0, none⟩)), (3, true, .pointer (some ⟨b2, 0, none⟩)), (4, true, .pointer (some ⟨b3, 0, none⟩)), (8, true, I u.kind), (17, true, .bool q)] [Var b3 eConf eConf.zero 28, Var b2 eChange u 61, Var b1 eConf c 28]
    first | refine condD rfl (fun h3 => ?_) (fun h3 => ?_) | refine cond rfl (fun h3 => ?_) (fun h3 => ?_)
    · have hkk : u.kind = 3 ∨ u.kind = 4 := hq.1 h3
      refine seq (region (cons (opv (Ev.ldv ty28 (.t rfl) (Lens.id _)) ?_)))
      refine cons (opv (Ev.ldx u ty61 (.t rfl) (Lens.id _)) ?_)
      refine cons (calln (X := SConf × List Res) (ChgJ c l (changeL l u rl) c.default) (fun y => .tuple #[eConf.val y.1, .bool (changeB l u)]) (fun y => y.2) en145 (.cons (.t rfl) (.cons (.t rfl) .nil)) (fun w I => rchroute_ok c u l rl w (hc.keep0 I.keeps) hkk hn.2.1) (fun y1 hy1 => ?_))
      refine cons (opv (Ev.extract (.t rfl) rfl) (cons (opv (Ev.extract (.t rfl) rfl) (cons (stv ty28 (Lens.id _) (.t rfl) (.t rfl) ?_)))))
      refine cons (opv (Ev.assign (.t rfl)) (nil (pN (ret (bR (pR (done rfl (.cell rfl (fun w I => run_loadVar_pts ty28 (ptsVar (by repeat first | exact mH | apply mT | apply mA) (Lens.id _) w I)) (.tmp rfl .nil)) (fun w I => ?_))))))))
      have eD : changeD c.default u = c.default := by unfold changeD; rw [if_neg (by omega)]
      rw [eD]
      exact retNP y1 hy1 rfl (SubP.of (List.sublist_append_left _ _)) w I
    · have hnk : ¬ (u.kind = 3 ∨ u.kind = 4) := fun e => by
        have := hq.2 e
        rw [h3] at this
        cases this
      have n3 : ¬ u.kind = 3 := fun e => hnk (.inl e)
      have n4 : ¬ u.kind = 4 := fun e => hnk (.inr e)
      refine cut (X := Bool) (fun x : Bool => (x = true ↔ u.kind = 5 ∨ u.kind = 6)) (fun x : Bool => [(2, true, .pointer (some ⟨b1, 0, none⟩)), (3, true, .pointer (some ⟨b2, 0, none⟩)), (4, true, .pointer (some ⟨b3, 0, none⟩)), (8, true, I u.kind), (25, true, .bool x)]) (fun x : Bool => [Var b3 eConf eConf.zero 28, Var b2 eChange u 61, Var b1 eConf c 28]) ?_ (fun x hx => ?_)
      · refine seq (region (cons (opv (Ev.eql_i (.t rfl) (.c (v := I 5) rfl)) ?_)))
        refine cons (opv (Ev.assign (.t rfl)) (nil (pN ?_)))
        first | refine condD rfl (fun h4 => ?_) (fun h4 => ?_) | refine cond rfl (fun h4 => ?_) (fun h4 => ?_)
        · try simp only [nb] at h4
          have hk0 : u.kind = 5 := h4
          refine skip (pN (mt (X := Bool) (_) ?_))
          · try dsimp only
            first | exact ⟨fun _ => .inl hk0, fun _ => by simpa using hk0⟩ | exact ⟨fun h => .inr (of_decide_eq_true h), fun h => decide_eq_true (h.resolve_left hk0)⟩
        · try simp only [nb] at h4
          have hk0 : ¬ u.kind = 5 := h4
          refine region (cons (opv (Ev.eql_i (.t rfl) (.c (v := I 6) rfl)) ?_))
          refine cons (opv (Ev.assign (.t rfl)) (nil (pN (mt (X := Bool) (_) ?_))))
          · try dsimp only
            first | exact ⟨fun _ => .inl hk0, fun _ => by simpa using hk0⟩ | exact ⟨fun h => .inr (of_decide_eq_true h), fun h => decide_eq_true (h.resolve_left hk0)⟩
      obtain ⟨q, rfl⟩ : ∃ y, y = x := ⟨x, rfl⟩
      have hq : q = true ↔ u.kind = 5 ∨ u.kind = 6 := hx
      clear hx
      show Sat _ _ [(2, true, .pointer (some ⟨b1, 0, none⟩)), (3, true, .pointer (some ⟨b2, 0, none⟩)), (4, true, .pointer (some ⟨b3, 0, none⟩)), (8, true, I u.kind), (25, true, .bool q)] [Var b3 eConf eConf.zero 28, Var b2 eChange u 61, Var b1 eConf c 28]
      first | refine condD rfl (fun h5 => ?_) (fun h5 => ?_) | refine cond rfl (fun h5 => ?_) (fun h5 => ?_)
      · have hkk : u.kind = 5 ∨ u.kind = 6 := hq.1 h5
        refine seq (region (cons (opv (Ev.ldv ty28 (.t rfl) (Lens.id _)) ?_)))
        refine cons (opv (Ev.ldx u ty61 (.t rfl) (Lens.id _)) ?_)
        refine cons (calln (X := SConf × List Res) (ChgJ c l (changeL l u rl) c.default) (fun y => .tuple #[eConf.val y.1, .bool (changeB l u)]) (fun y => y.2) en146 (.cons (.t rfl) (.cons (.t rfl) .nil)) (fun w I => rchmeter_ok c u l rl w (hc.keep0 I.keeps) hkk hn.2.2.1) (fun y1 hy1 => ?_))
        refine cons (opv (Ev.extract (.t rfl) rfl) (cons (opv (Ev.extract (.t rfl) rfl) (cons (stv ty28 (Lens.id _) (.t rfl) (.t rfl) ?_)))))
        refine cons (opv (Ev.assign (.t rfl)) (nil (pN (ret (bR (pR (done rfl (.cell rfl (fun w I => run_loadVar_pts ty28 (ptsVar (by repeat first | exact mH | apply mT | apply mA) (Lens.id _) w I)) (.tmp rfl .nil)) (fun w I => ?_))))))))
        have eD : changeD c.default u = c.default := by unfold changeD; rw [if_neg (by omega)]
        rw [eD]
        exact retNP y1 hy1 rfl (SubP.of (List.sublist_append_left _ _)) w I
      · have hnk : ¬ (u.kind = 5 ∨ u.kind = 6) := fun e => by
          have := hq.2 e
          rw [h5] at this
          cases this
        have n5 : ¬ u.kind = 5 := fun e => hnk (.inl e)
        have n6 : ¬ u.kind = 6 := fun e => hnk (.inr e)
        refine cut (X := Bool) (fun x : Bool => (x = true ↔ u.kind = 7 ∨ u.kind = 8)) (fun x : Bool => [(2, true, .pointer (some ⟨b1, 0, none⟩)), (3, true, .pointer (some ⟨b2, 0, none⟩)), (4, true, .pointer (some ⟨b3, 0, none⟩)), (8, true, I u.kind), (33, true, .bool x)]) (fun x : Bool => [Var b3 eConf eConf.zero 28, Var b2 eChange u 61, Var b1 eConf c 28]) ?_ (fun x hx => ?_)
        · refine seq (region (cons (opv (Ev.eql_i (.t rfl) (.c (v := I 7) rfl)) ?_)))
          refine cons (opv (Ev.assign (.t rfl)) (nil (pN ?_)))
          first | refine condD rfl (fun h6 => ?_) (fun h6 => ?_) | refine cond rfl (fun h6 => ?_) (fun h6 => ?_)
          · try simp only [nb] at h6
            have hk0 : u.kind = 7 := h6
            refine skip (pN (mt (X := Bool) (_) ?_))
            · try dsimp only
              first | exact ⟨fun _ => .inl hk0, fun _ => by simpa using hk0⟩ | exact ⟨fun h => .inr (of_decide_eq_true h), fun h => decide_eq_true (h.resolve_left hk0)⟩
          · try simp only [nb] at h6
            have hk0 : ¬ u.kind = 7 := h6
            refine region (cons (opv (Ev.eql_i (.t rfl) (.c (v := I 8) rfl)) ?_))
            refine cons (opv (Ev.assign (.t rfl)) (nil (pN (mt (X := Bool) (_) ?_))))
            · try dsimp only
              first | exact ⟨fun _ => .inl hk0, fun _ => by simpa using hk0⟩ | exact ⟨fun h => .inr (of_decide_eq_true h), fun h => decide_eq_true (h.resolve_left hk0)⟩
        obtain ⟨q, rfl⟩ : ∃ y, y = x := ⟨x, rfl⟩
        have hq : q = true ↔ u.kind = 7 ∨ u.kind = 8 := hx
        clear hx
        show Sat _ _ [(2, true, .pointer (some ⟨b1, 0, none⟩)), (3, true, .pointer (some ⟨b2, 0, none⟩)), (4, true, .pointer (some ⟨b3, 0, none⟩)), (8, true, I u.kind), (33, true, .bool q)] [Var b3 eConf eConf.zero 28, Var b2 eChange u 61, Var b1 eConf c 28]
        first | refine condD rfl (fun h7 => ?_) (fun h7 => ?_) | refine cond rfl (fun h7 => ?_) (fun h7 => ?_)
        · have hkk : u.kind = 7 ∨ u.kind = 8 := hq.1 h7
          refine seq (region (cons (opv (Ev.ldv ty28 (.t rfl) (Lens.id _)) ?_)))
          refine cons (opv (Ev.ldx u ty61 (.t rfl) (Lens.id _)) ?_)
          refine cons (calln (X := SConf × List Res) (ChgJ c l (changeL l u rl) c.default) (fun y => .tuple #[eConf.val y.1, .bool (changeB l u)]) (fun y => y.2) en147 (.cons (.t rfl) (.cons (.t rfl) .nil)) (fun w I => rchmirror_ok c u l rl w (hc.keep0 I.keeps) hkk hn.2.2.2) (fun y1 hy1 => ?_))
          refine cons (opv (Ev.extract (.t rfl) rfl) (cons (opv (Ev.extract (.t rfl) rfl) (cons (stv ty28 (Lens.id _) (.t rfl) (.t rfl) ?_)))))
          refine cons (opv (Ev.assign (.t rfl)) (nil (pN (ret (bR (pR (done rfl (.cell rfl (fun w I => run_loadVar_pts ty28 (ptsVar (by repeat first | exact mH | apply mT | apply mA) (Lens.id _) w I)) (.tmp rfl .nil)) (fun w I => ?_))))))))
          have eD : changeD c.default u = c.default := by unfold changeD; rw [if_neg (by omega)]
          rw [eD]
          exact retNP y1 hy1 rfl (SubP.of (List.sublist_append_left _ _)) w I
        · have hnk : ¬ (u.kind = 7 ∨ u.kind = 8) := fun e => by
            have := hq.2 e
            rw [h7] at this
            cases this
          have n7 : ¬ u.kind = 7 := fun e => hnk (.inl e)
          have n8 : ¬ u.kind = 8 := fun e => hnk (.inr e)
          refine seq (region (cons (opv (Ev.eql_i (.t rfl) (.c (v := I 9) rfl)) ?_)))
          refine cons (opv (Ev.assign (.t rfl)) (nil (pN ?_)))
          first | refine condD rfl (fun h8 => ?_) (fun h8 => ?_) | refine cond rfl (fun h8 => ?_) (fun h8 => ?_)
          · try simp only [nb] at h8
            have hk9 : u.kind = 9 := h8
            refine seq (region (cons (opv (Ev.assign (.c (v := (Go.Value.slice none 0 0)) rfl)) ?_)))
            refine takeNil eRule 76 ?_
            refine nil (pN (seq (takeNil eRule 76 ?_)))
            refine region (cons (opv (Ev.move (.t rfl)) (cons (opv (Ev.fieldAddr (o := 28) (.t rfl) (by kernel_rfl)) ?_))))
            refine cons (opv (Ev.ldx u.rules ty24 (.t rfl) SChange.l_rules) ?_)
            refine cons (app (E := eRule) Tryz.underlying24 ty76 zb76 zs76 (.t rfl) (.t rfl) (fun v4 => ?_) (hsrc := (fun w I => hr.keep0 I.keeps)) (hby := ⟨by (show _ ≤ 9223372036854775807); simp only [List.length_nil]; omega, by simp only [List.length_nil]; omega⟩))
            refine cons (opv (Ev.fieldAddr (o := 2) (.t rfl) (by kernel_rfl)) ?_)
            refine cons (stv ty24 SConf.l_rules (.t rfl) (.t rfl) ?_)
            refine nil (pN (seq (region (cons (opv (Ev.ldv ty28 (.t rfl) (Lens.id _)) ?_)))))
            refine cons (stv ty28 (Lens.id _) (.t rfl) (.t rfl) ?_)
            refine cons (opv (Ev.assign (.c (v := .bool true) rfl)) ?_)
            refine nil (pN (ret (bR (pR (done rfl (.cell rfl (fun w I => run_loadVar_pts ty28 (ptsVar (by repeat first | exact mH | apply mT | apply mA) (Lens.id _) w I)) (.tmp rfl .nil)) (fun w I => ?_))))))
            have eL : changeL l u rl = { l with us := rl } := by unfold changeL; rw [if_neg n1, if_neg n2, if_neg n3, if_neg n4, if_neg n5, if_neg n6, if_neg n7, if_neg n8, if_pos hk9]
            have eB : changeB l u = true := by unfold changeB; rw [if_neg n1, if_neg n2, if_neg n3, if_neg n4, if_neg n5, if_neg n6, if_neg n7, if_neg n8, if_pos hk9]
            have eD : changeD c.default u = c.default := by unfold changeD; rw [if_neg (by omega)]
            refine retNP ((({ c with rules := v4 } : SConf), [OwnS v4.v eRule rl 76])) ?_ (by rw [eB]; rfl) (by repeat first | exact SubP.nil | refine SubP.cons (by repeat first | exact Rem.head | apply Rem.tail) ?_) w I
            rw [eL, eD]
            exact ⟨rfl, fun w1 h1 h2 => ⟨h1.ps, h1.rs, IsSl.of_own (h2 _ List.mem_cons_self), h1.ms, h1.xs⟩⟩
          · try simp only [nb] at h8
            have n9 : ¬ u.kind = 9 := h8
            refine seq (region (cons (opv (Ev.eql_i (.t rfl) (.c (v := I 10) rfl)) ?_)))
            refine cons (opv (Ev.assign (.t rfl)) (nil (pN ?_)))
            first | refine condD rfl (fun h9 => ?_) (fun h9 => ?_) | refine cond rfl (fun h9 => ?_) (fun h9 => ?_)
            · try simp only [nb] at h9
              have hk10 : u.kind = 10 := h9
              refine seq (region (cons (opv (Ev.fieldAddr (o := 29) (.t rfl) (by kernel_rfl)) ?_)))
              refine cons (opv (Ev.ldx u.default ty3 (.t rfl) SChange.l_default) ?_)
              refine cons (opv (Ev.fieldAddr (o := 5) (.t rfl) (by kernel_rfl)) ?_)
              refine cons (stv ty3 SConf.l_default (.t rfl) (.t rfl) ?_)
              refine nil (pN (seq (region (cons (opv (Ev.ldv ty28 (.t rfl) (Lens.id _)) ?_)))))
              refine cons (stv ty28 (Lens.id _) (.t rfl) (.t rfl) ?_)
              refine cons (opv (Ev.assign (.c (v := .bool true) rfl)) ?_)
              refine nil (pN (ret (bR (pR (done rfl (.cell rfl (fun w I => run_loadVar_pts ty28 (ptsVar (by repeat first | exact mH | apply mT | apply mA) (Lens.id _) w I)) (.tmp rfl .nil)) (fun w I => ?_))))))
              have eL : changeL l u rl = l := by unfold changeL; rw [if_neg n1, if_neg n2, if_neg n3, if_neg n4, if_neg n5, if_neg n6, if_neg n7, if_neg n8, if_neg n9]
              have eB : changeB l u = true := by unfold changeB; rw [if_neg n1, if_neg n2, if_neg n3, if_neg n4, if_neg n5, if_neg n6, if_neg n7, if_neg n8, if_neg n9]; exact decide_eq_true hk10
              have eD : changeD c.default u = u.default := by unfold changeD; rw [if_pos hk10]
              refine retNP ((({ c with default := u.default } : SConf), [])) ?_ (by rw [eB]; rfl) SubP.nil w I
              rw [eL, eD]
              exact ⟨rfl, fun w1 h1 h2 => ⟨h1.ps, h1.rs, h1.us, h1.ms, h1.xs⟩⟩
            · try simp only [nb] at h9
              have n10 : ¬ u.kind = 10 := h9
              refine skip (bN (pN (seq (region (cons (opv (Ev.ldv ty28 (.t rfl) (Lens.id _)) ?_))))))
              refine cons (stv ty28 (Lens.id _) (.t rfl) (.t rfl) ?_)
              refine cons (opv (Ev.assign (.c (v := .bool false) rfl)) ?_)
              refine nil (pN (ret (done rfl (.cell rfl (fun w I => run_loadVar_pts ty28 (ptsVar (by repeat first | exact mH | apply mT | apply mA) (Lens.id _) w I)) (.tmp rfl .nil)) (fun w I => ?_))))
              have eL : changeL l u rl = l := by unfold changeL; rw [if_neg n1, if_neg n2, if_neg n3, if_neg n4, if_neg n5, if_neg n6, if_neg n7, if_neg n8, if_neg n9]
              have eB : changeB l u = false := by unfold changeB; rw [if_neg n1, if_neg n2, if_neg n3, if_neg n4, if_neg n5, if_neg n6, if_neg n7, if_neg n8, if_neg n9]; exact decide_eq_false n10
              have eD : changeD c.default u = c.default := by unfold changeD; rw [if_neg n10]
              refine retNP (c, []) ?_ (by rw [eB]; rfl) SubP.nil w I
              rw [eL, eD]
              exact chg_same c l
def ApJ (r : CD) (y : SConf × List Res) : Prop := y.1.default = r.d ∧ ∀ w, (∀ q ∈ y.2, q.A w) → ConfAt w y.1 r.l
theorem apj_zero : ApJ ⟨⟨[], [], [], [], []⟩, 0⟩ (eConf.zero, []) := ⟨rfl, fun w _ => ⟨IsSl.nil _ w, IsSl.nil _ w, IsSl.nil _ w, IsSl.nil _ w, IsSl.nil _ w⟩⟩
theorem confAt_R {w : World} {x : CB} {l : CL} {d : Int} (h : ∀ q ∈ x.R l, q.A w) : ConfAt w (x.c d) l := ⟨IsSl.of_own (h (OwnS x.o1.v iE l.ps 3) (by simp [CB.R])), IsSl.of_own (h (OwnS x.o2.v eRoute l.rs 52) (by simp [CB.R])), IsSl.of_own (h (OwnS x.o3.v eRule l.us 76) (by simp [CB.R])), IsSl.of_own (h (OwnS x.o4.v eMeterConf l.ms 57) (by simp [CB.R])), IsSl.of_own (h (OwnS x.o5.v eMirrorConf l.xs 59) (by simp [CB.R]))⟩
theorem en93 : Gx.Enters Tryz.prog 93 := Gx.Enters.mk' (by kernel_rfl)
theorem rapply_ok (c : SConf) (l : CL) (u : Value) (cs : List SChange) (rls : List (List SRule)) (w : World) (hc : ConfAt w c l) (hn : l.Names) (hz : l.n ≤ 4611686018427387904) (hu : IsSl eChange w u cs) (hcs : ChsAt w cs rls) (hok : ChsOK cs rls) : Calls Tryz.prog 28 #[eConf.val c, u] w (RetN w (ApJ (applyC ⟨l, c.default⟩ cs rls).2) (fun y => .tuple #[eConf.val y.1, I (applyC ⟨l, c.default⟩ cs rls).1]) (fun y => y.2)) := by
  have hle := hu.le
  refine enter0 40 Tryz.func28 rfl rfl (Nat.le_of_ble_eq_true rfl) ?_
  refine seq (region (cons (box (E := eConf) (.t rfl) (fun b1 => ?_))))
  refine cons (alloc z28 (fun b2 => ?_))
  refine cons (opv (Ev.assign (.c (v := I 0) rfl)) ?_)
  refine nil (pN (seq (seq (region (cons (opv (Ev.ldx c ty28 (.t rfl) (Lens.id _)) ?_))))))
  refine cons (callv en89 (.cons (.t rfl) .nil) (fun w I => rmay_ok c l w (hc.keep0 I.keeps) hn hz) ?_)
  refine cons (opv (Ev.not (.t rfl)) ?_)
  refine nil (pN ?_)
  first | refine condD rfl (fun h0 => ?_) (fun h0 => ?_) | refine cond rfl (fun h0 => ?_) (fun h0 => ?_)
  · have hmay : mayB l c.default = false := by simpa using h0
    refine seq (region (cons (opv (Ev.buildS (fs := _) (places := [(0, 1), (1, 1), (2, 1), (3, 1), (4, 1), (5, 1)]) z28 rfl Tryz.underlying28 (by kernel_rfl) .nil Fills.nil) ?_)))
    refine cons (stv ty28 (Lens.id _) (.t rfl) (.t rfl) ?_)
    refine cons (opv (Ev.assign (.c (v := I 210) rfl)) ?_)
    refine nil (pN (ret (pR (done rfl (.cell rfl (fun w I => run_loadVar_pts ty28 (ptsVar (by repeat first | exact mH | apply mT | apply mA) (Lens.id _) w I)) (.tmp rfl .nil)) (fun w I => ?_)))))
    refine retNP (eConf.zero, []) ?_ ?_ ?_ w I
    · rw [(applyC_bad (s := ⟨l, c.default⟩) hmay)]; exact apj_zero
    · rw [(applyC_bad (s := ⟨l, c.default⟩) hmay)]; rfl
    · exact SubP.nil
  · have hmay : mayB l c.default = true := by simpa using h0
    have hlens := may_lens hmay
    have hsm : l.Small := ⟨by omega, by omega, by omega, by omega, by omega⟩
    have hway0 := may_way hmay hn
    refine skip (pN (seq (region (cons (opv (Ev.ldx c ty28 (.t rfl) (Lens.id _)) ?_)))))
    refine cons (calln (X := CB) (fun _ => True) (fun x => eConf.val (x.c c.default)) (fun x => x.R l) en11 (.cons (.t rfl) .nil) (fun w I => rcopy_ok c l w (hc.keep0 I.keeps) hsm) (fun x0 _ => ?_))
    refine cons (alloc z28 (fun b3 => ?_))
    refine cons (stv ty28 (Lens.id _) (.t rfl) (.t rfl) ?_)
    refine nil (pN (seq (seq (arr (L' := x0.R l ++ [Var b3 eConf (x0.c c.default) 28, Var b2 eConf eConf.zero 28, Var b1 eConf c 28]) (by repeat first | exact SubP.nil | refine SubP.cons (by repeat first | exact Rem.head | apply Rem.tail) ?_) ?_))))
    refine region (cons (opv (Ev.assign (.c (v := I 0) rfl)) ?_))
    refine nil (pN (block (lp (X := Int × SConf × CD × (List Res)) (fun x : Int × SConf × CD × (List Res) => (0 ≤ x.1 ∧ x.1 ≤ cs.length) ∧ (goN ⟨l, c.default⟩ cs rls x.1.toNat = some x.2.2.1) ∧ (x.2.2.1.l.Way x.1.toNat) ∧ (x.2.1.default = x.2.2.1.d) ∧ (∀ w1 : World, (∀ r ∈ x.2.2.2, r.A w1) → ConfAt w1 x.2.1 x.2.2.1.l)) (fun x : Int × SConf × CD × (List Res) => [(1, true, u), (2, true, .pointer (some ⟨b1, 0, none⟩)), (4, true, .pointer (some ⟨b2, 0, none⟩)), (6, true, .pointer (some ⟨b3, 0, none⟩)), (7, true, I x.1)]) (fun x : Int × SConf × CD × (List Res) => (x.2.2.2 ++ [Var b3 eConf x.2.1 28, Var b2 eConf eConf.zero 28, Var b1 eConf c 28])) (fun x : Int × SConf × CD × (List Res) => ((cs.length : Int) - x.1).toNat) (0, (x0.c c.default), ⟨l, c.default⟩, x0.R l) ⟨?_, ?_, ?_, ?_, ?_⟩ (fun x hx => ?_))))
    · omega
    · rfl
    · exact hway0
    · rfl
    · exact fun w1 h => confAt_R h
    obtain ⟨i, cf, t, Rs⟩ := x
    obtain ⟨hi, hgo, hway, hcd, hat⟩ : (0 ≤ i ∧ i ≤ cs.length) ∧ (goN ⟨l, c.default⟩ cs rls i.toNat = some t) ∧ (t.l.Way i.toNat) ∧ (cf.default = t.d) ∧ (∀ w1 : World, (∀ r ∈ Rs, r.A w1) → ConfAt w1 cf t.l) := hx
    show Sat _ _ [(1, true, u), (2, true, .pointer (some ⟨b1, 0, none⟩)), (4, true, .pointer (some ⟨b2, 0, none⟩)), (6, true, .pointer (some ⟨b3, 0, none⟩)), (7, true, I i)] (Rs ++ [Var b3 eConf cf 28, Var b2 eConf eConf.zero 28, Var b1 eConf c 28])
    have hcn := hok.n
    refine seq (seq (region (cons (opv (Ev.move (.t rfl)) (cons (opv (Ev.move (.t rfl)) (cons (opv (Ev.len Tryz.underlying41 (.t rfl) (fun w I => hu.keep0 I.keeps)) ?_))))))))
    refine cons (opv (Ev.lss_i (.t rfl) (.t rfl)) ?_)
    refine nil (pN ?_)
    first | refine condD rfl (fun h1 => ?_) (fun h1 => ?_) | refine cond rfl (fun h1 => ?_) (fun h1 => ?_)
    · try simp only [nb] at h1
      refine skip (pN (seq (block (seq (draw' (by kernel_rfl) ?_)))))
      refine tk 0 rfl (Ev.ldv ty28 (.t rfl) (Lens.id _)) ?_
      refine tk 1 rfl (Ev.move (.t rfl)) ?_
      refine tk 2 rfl (Ev.move (.t rfl)) ?_
      refine tk 3 rfl (Ev.indexAddr Tryz.underlying41 ty61 (.t rfl) (.t rfl) (fun w I => hu.keep0 I.keeps) (fun _ => by omega)) ?_
      refine tk 4 rfl (Ev.loadS0 ty61 (.t rfl) (fun w I => hu.keep0 I.keeps) (fun _ => by omega)) ?_
      refine all [5, 9] (by kernel_rfl) (by decide) (.cons rfl ?_ (.cons rfl ?_ .nil))
      · refine (calln (X := SConf × List Res) (ChgJ cf t.l (changeL t.l (cs.getD i.toNat eChange.zero) (rls.getD i.toNat [])) (changeD cf.default (cs.getD i.toNat eChange.zero))) (fun y => .tuple #[eConf.val y.1, .bool (changeB t.l (cs.getD i.toNat eChange.zero))]) (fun y => y.2) en93 (.cons (.t rfl) (.cons (.t rfl) .nil)) (fun w I => rchanged_ok cf (cs.getD i.toNat eChange.zero) t.l (rls.getD i.toNat []) w (hat w (fun r hr => (I.own r (by repeat first | exact List.mem_append_left _ hr | apply List.Mem.tail)).1)) ((hcs.sl i.toNat (by omega)).keep0 I.keeps) hway.up ⟨by have := hway.ps; omega, by have := hway.rs; omega, by have := hway.ms; omega, by have := hway.xs; omega⟩ (hok.len i.toNat (by omega))) (fun y1 hy1 => ?_))
        refine hdn (tk 6 rfl (Ev.move (.t rfl)) ?_)
        refine tk 7 rfl (Ev.extract (.t rfl) rfl) ?_
        refine tk 8 rfl (Ev.extract (.t rfl) rfl) ?_
        refine al1 9 rfl ((alloc z28 (fun b4 => ?_)))
        refine hdn (al1 10 rfl ((stv ty28 (Lens.id _) (.t rfl) (.t rfl) ?_)))
        refine hdn (tk 11 rfl (Ev.assign (.t rfl)) ?_)
        refine ovr (pN (seq (seq (region (cons (opv (Ev.move (.t rfl)) (cons (opv (Ev.not (.t rfl)) ?_))))))))
        refine nil (pN ?_)
        first | refine condD rfl (fun h2 => ?_) (fun h2 => ?_) | refine cond rfl (fun h2 => ?_) (fun h2 => ?_)
        · have hcb : changeB t.l (cs.getD i.toNat eChange.zero) = false := by simpa using h2
          have hstop := goN_stop (by omega) hgo hcb
          refine seq (region (cons (opv (Ev.buildS (fs := _) (places := [(0, 1), (1, 1), (2, 1), (3, 1), (4, 1), (5, 1)]) z28 rfl Tryz.underlying28 (by kernel_rfl) .nil Fills.nil) ?_)))
          refine cons (stv ty28 (Lens.id _) (.t rfl) (.t rfl) ?_)
          refine cons (opv (Ev.assign (.c (v := I 211) rfl)) ?_)
          refine nil (pN (ret (pR (bR (pR (pR (bR (pR (done rfl (.cell rfl (fun w I => run_loadVar_pts ty28 (ptsVar (by repeat first | exact mH | apply mT | apply mA) (Lens.id _) w I)) (.tmp rfl .nil)) (fun w I => ?_))))))))))
          refine retNP (eConf.zero, []) ?_ ?_ ?_ w I
          · rw [(applyC_stop (s := ⟨l, c.default⟩) hmay hstop)]; exact apj_zero
          · rw [(applyC_stop (s := ⟨l, c.default⟩) hmay hstop)]; rfl
          · exact SubP.nil
        · have hcb : changeB t.l (cs.getD i.toNat eChange.zero) = true := by simpa using h2
          have hst := goN_step hi.1 hgo hcb
          refine skip (pN (region (cons (opv (Ev.ldv ty28 (.t rfl) (Lens.id _)) ?_))))
          refine cons (stv ty28 (Lens.id _) (.t rfl) (.t rfl) ?_)
          refine nil (bN (pN (region (cons (opv (Ev.move (.t rfl)) (cons (opv (Ev.add_i (.t rfl) (.c (v := I 1) rfl) (fun _ => by omega)) ?_)))))))
          refine cons (opv (Ev.assign (.t rfl)) (nil (pN (nx (X := Int × SConf × CD × (List Res)) (i + 1, y1.1, ⟨changeL t.l (cs.getD i.toNat eChange.zero) (rls.getD i.toNat []), changeD t.d (cs.getD i.toNat eChange.zero)⟩, y1.2 ++ Rs) ⟨?_, ?_, ?_, ?_, ?_⟩ ?_ (hL := (by rw [List.append_assoc]; first | exact List.Sublist.append (List.Sublist.refl _) (List.Sublist.cons _ (List.Sublist.refl _)) | exact List.Sublist.cons _ (List.Sublist.refl _) | exact List.Sublist.refl _))))))
          · try dsimp only
            omega
          · try dsimp only
            exact hst
          · try dsimp only
            have e : (i + 1).toNat = i.toNat + 1 := by omega
            rw [e]
            exact change_way hway (hok.nm i.toNat (by omega)) (hok.len i.toNat (by omega)) (hok.rn i.toNat (by omega))
          · try dsimp only
            rw [hy1.1, hcd]
          · try dsimp only
            exact fun w1 h => hy1.2 w1 (hat w1 (fun r hr => h r (List.mem_append_right _ hr))) (fun r hr => h r (List.mem_append_left _ hr))
          · try dsimp only
            omega
      · refine (alloc z28 (fun b5 => ?_))
        refine hdn (al1 5 rfl ((calln (X := SConf × List Res) (ChgJ cf t.l (changeL t.l (cs.getD i.toNat eChange.zero) (rls.getD i.toNat [])) (changeD cf.default (cs.getD i.toNat eChange.zero))) (fun y => .tuple #[eConf.val y.1, .bool (changeB t.l (cs.getD i.toNat eChange.zero))]) (fun y => y.2) en93 (.cons (.t rfl) (.cons (.t rfl) .nil)) (fun w I => rchanged_ok cf (cs.getD i.toNat eChange.zero) t.l (rls.getD i.toNat []) w (hat w (fun r hr => (I.own r (by repeat first | exact List.mem_append_left _ hr | apply List.Mem.tail)).1)) ((hcs.sl i.toNat (by omega)).keep0 I.keeps) hway.up ⟨by have := hway.ps; omega, by have := hway.rs; omega, by have := hway.ms; omega, by have := hway.xs; omega⟩ (hok.len i.toNat (by omega))) (fun y1 hy1 => ?_))))
        refine hdn (tk 6 rfl (Ev.move (.t rfl)) ?_)
        refine tk 7 rfl (Ev.extract (.t rfl) rfl) ?_
        refine tk 8 rfl (Ev.extract (.t rfl) rfl) ?_
        refine al1 10 rfl ((stv ty28 (Lens.id _) (.t rfl) (.t rfl) ?_))
        refine hdn (tk 11 rfl (Ev.assign (.t rfl)) ?_)
        refine ovr (pN (seq (seq (region (cons (opv (Ev.move (.t rfl)) (cons (opv (Ev.not (.t rfl)) ?_))))))))
        refine nil (pN ?_)
        first | refine condD rfl (fun h2 => ?_) (fun h2 => ?_) | refine cond rfl (fun h2 => ?_) (fun h2 => ?_)
        · have hcb : changeB t.l (cs.getD i.toNat eChange.zero) = false := by simpa using h2
          have hstop := goN_stop (by omega) hgo hcb
          refine seq (region (cons (opv (Ev.buildS (fs := _) (places := [(0, 1), (1, 1), (2, 1), (3, 1), (4, 1), (5, 1)]) z28 rfl Tryz.underlying28 (by kernel_rfl) .nil Fills.nil) ?_)))
          refine cons (stv ty28 (Lens.id _) (.t rfl) (.t rfl) ?_)
          refine cons (opv (Ev.assign (.c (v := I 211) rfl)) ?_)
          refine nil (pN (ret (pR (bR (pR (pR (bR (pR (done rfl (.cell rfl (fun w I => run_loadVar_pts ty28 (ptsVar (by repeat first | exact mH | apply mT | apply mA) (Lens.id _) w I)) (.tmp rfl .nil)) (fun w I => ?_))))))))))
          refine retNP (eConf.zero, []) ?_ ?_ ?_ w I
          · rw [(applyC_stop (s := ⟨l, c.default⟩) hmay hstop)]; exact apj_zero
          · rw [(applyC_stop (s := ⟨l, c.default⟩) hmay hstop)]; rfl
          · exact SubP.nil
        · have hcb : changeB t.l (cs.getD i.toNat eChange.zero) = true := by simpa using h2
          have hst := goN_step hi.1 hgo hcb
          refine skip (pN (region (cons (opv (Ev.ldv ty28 (.t rfl) (Lens.id _)) ?_))))
          refine cons (stv ty28 (Lens.id _) (.t rfl) (.t rfl) ?_)
          refine nil (bN (pN (region (cons (opv (Ev.move (.t rfl)) (cons (opv (Ev.add_i (.t rfl) (.c (v := I 1) rfl) (fun _ => by omega)) ?_)))))))
          refine cons (opv (Ev.assign (.t rfl)) (nil (pN (nx (X := Int × SConf × CD × (List Res)) (i + 1, y1.1, ⟨changeL t.l (cs.getD i.toNat eChange.zero) (rls.getD i.toNat []), changeD t.d (cs.getD i.toNat eChange.zero)⟩, y1.2 ++ Rs) ⟨?_, ?_, ?_, ?_, ?_⟩ ?_ (hL := (by rw [List.append_assoc]; first | exact List.Sublist.append (List.Sublist.refl _) (List.Sublist.cons _ (List.Sublist.refl _)) | exact List.Sublist.cons _ (List.Sublist.refl _) | exact List.Sublist.refl _))))))
          · try dsimp only
            omega
          · try dsimp only
            exact hst
          · try dsimp only
            have e : (i + 1).toNat = i.toNat + 1 := by omega
            rw [e]
            exact change_way hway (hok.nm i.toNat (by omega)) (hok.len i.toNat (by omega)) (hok.rn i.toNat (by omega))
          · try dsimp only
            rw [hy1.1, hcd]
          · try dsimp only
            exact fun w1 h => hy1.2 w1 (hat w1 (fun r hr => h r (List.mem_append_right _ hr))) (fun r hr => h r (List.mem_append_left _ hr))
          · try dsimp only
            omega
    · try simp only [nb] at h1
      refine exit (pX (pX (bX (pN (seq (seq ?_))))))
      have hgoc : goN ⟨l, c.default⟩ cs rls cs.length = some t := by
        have e : i.toNat = cs.length := by omega
        rw [← e]; exact hgo
      refine region (cons (opv (Ev.ldv ty28 (.t rfl) (Lens.id _)) ?_))
      refine cons (callv en89 (.cons (.t rfl) .nil) (fun w I => rmay_ok cf t.l w (hat w (fun r hr => (I.own r (by repeat first | exact List.mem_append_left _ hr | apply List.Mem.tail)).1)) hway.nm (by have := hway.ps; have := hway.rs; have := hway.us; have := hway.ms; have := hway.xs; unfold CL.n; omega)) ?_)
      refine cons (opv (Ev.not (.t rfl)) ?_)
      refine nil (pN ?_)
      first | refine condD rfl (fun h3 => ?_) (fun h3 => ?_) | refine cond rfl (fun h3 => ?_) (fun h3 => ?_)
      · have hm2 : mayB t.l t.d = false := by rw [← hcd]; simpa using h3
        refine seq (region (cons (opv (Ev.buildS (fs := _) (places := [(0, 1), (1, 1), (2, 1), (3, 1), (4, 1), (5, 1)]) z28 rfl Tryz.underlying28 (by kernel_rfl) .nil Fills.nil) ?_)))
        refine cons (stv ty28 (Lens.id _) (.t rfl) (.t rfl) ?_)
        refine cons (opv (Ev.assign (.c (v := I 210) rfl)) ?_)
        refine nil (pN (ret (pR (done rfl (.cell rfl (fun w I => run_loadVar_pts ty28 (ptsVar (by repeat first | exact mH | apply mT | apply mA) (Lens.id _) w I)) (.tmp rfl .nil)) (fun w I => ?_)))))
        refine retNP (eConf.zero, []) ?_ ?_ ?_ w I
        · rw [(applyC_no (s := ⟨l, c.default⟩) hmay hgoc hm2)]; exact apj_zero
        · rw [(applyC_no (s := ⟨l, c.default⟩) hmay hgoc hm2)]; rfl
        · exact SubP.nil
      · have hm2 : mayB t.l t.d = true := by rw [← hcd]; simpa using h3
        refine skip (pN (seq (region (cons (opv (Ev.ldv ty28 (.t rfl) (Lens.id _)) ?_)))))
        refine cons (stv ty28 (Lens.id _) (.t rfl) (.t rfl) ?_)
        refine cons (opv (Ev.assign (.c (v := I 0) rfl)) ?_)
        refine nil (pN (ret (done rfl (.cell rfl (fun w I => run_loadVar_pts ty28 (ptsVar (by repeat first | exact mH | apply mT | apply mA) (Lens.id _) w I)) (.tmp rfl .nil)) (fun w I => ?_))))
        refine retNP (cf, Rs) ?_ ?_ (SubP.of (List.sublist_append_left _ _)) w I
        · rw [applyC_ok (s := ⟨l, c.default⟩) hmay hgoc hm2]; exact ⟨hcd, hat⟩
        · rw [applyC_ok (s := ⟨l, c.default⟩) hmay hgoc hm2]; rfl
theorem ChSame.eq {c d : SChange} (h : ChSame c d) : d = { c with rules := d.rules } := by
  obtain ⟨h1, h2, h3, h4, h5, h6⟩ := h
  cases c
  cases d
  simp only at h1 h2 h3 h4 h5 h6
  subst h1 h2 h3 h4 h5 h6
  rfl
theorem change_same {c d : SChange} (h : ChSame c d) (l : CL) (r : List SRule) (e : Int) : changeL l d r = changeL l c r ∧ changeB l d = changeB l c ∧ changeD e d = changeD e c := by
  rw [h.eq]
  exact ⟨rfl, rfl, rfl⟩
theorem goN_same {s : CD} {cs ds : List SChange} {rls : List (List SRule)} (h : ChsSame cs ds rls rls) : ∀ n, n ≤ cs.length → goN s ds rls n = goN s cs rls n
  | 0, _ => rfl
  | n + 1, hn => by
    rw [goN, goN, goN_same h n (by omega)]
    cases goN s cs rls n with
    | none => rfl
    | some t =>
      obtain ⟨e1, e2, e3⟩ := change_same (h.ch n (by omega)) t.l (rls.getD n []) t.d
      simp only [e1, e2, e3]
theorem applyC_same {s : CD} {cs ds : List SChange} {rls : List (List SRule)} (h : ChsSame cs ds rls rls) : applyC s ds rls = applyC s cs rls := by
  unfold applyC
  rw [← h.n, goN_same h _ (Nat.le_refl _)]
theorem applyC_small (s : CD) (cs : List SChange) (rls : List (List SRule)) : (applyC s cs rls).2.l.Small := by
  have h0 : (⟨[], [], [], [], []⟩ : CL).Small := ⟨by decide, by decide, by decide, by decide, by decide⟩
  unfold applyC
  split
  · split
    · exact h0
    · split
      · rename_i h; exact may_small h
      · exact h0
  · exact h0
theorem ChSame.symm {c d : SChange} (h : ChSame c d) : ChSame d c := ⟨h.1.symm, h.2.1.symm, h.2.2.1.symm, h.2.2.2.1.symm, h.2.2.2.2.1.symm, h.2.2.2.2.2.symm⟩
theorem ChSame.trans {c d e : SChange} (h : ChSame c d) (k : ChSame d e) : ChSame c e := ⟨h.1.trans k.1, h.2.1.trans k.2.1, h.2.2.1.trans k.2.2.1, h.2.2.2.1.trans k.2.2.2.1, h.2.2.2.2.1.trans k.2.2.2.2.1, h.2.2.2.2.2.trans k.2.2.2.2.2⟩
theorem getD_snoc_lt {α : Type} (l : List α) (x z : α) (j : Nat) (h : j < l.length) : (l ++ [x]).getD j z = l.getD j z := by simp [List.getD, List.getElem?_append, h]
theorem getD_snoc_eq {α : Type} (l : List α) (x z : α) (j : Nat) (h : j = l.length) : (l ++ [x]).getD j z = x := by subst h; simp [List.getD]
structure CpyJ (cs gs : List SChange) (i : Int) : Prop where
  n : (gs.length : Int) = i
  ch : ∀ j : Nat, j < i → ChSame (cs.getD j eChange.zero) (gs.getD j eChange.zero)
theorem CpyJ.step {cs gs : List SChange} {i : Int} (h : CpyJ cs gs i) (hi : 0 ≤ i) (v : OV) : CpyJ cs (gs ++ [SChange.l_rules.set (cs.getD i.toNat eChange.zero) v]) (i + 1) := by
  obtain ⟨h1, h2⟩ := h
  refine ⟨by simp only [List.length_append, List.length_singleton]; omega, fun j hj => ?_⟩
  by_cases e : (j : Int) < i
  · rw [getD_snoc_lt _ _ _ _ (by omega)]
    exact h2 j e
  · rw [getD_snoc_eq _ _ _ _ (by omega)]
    have : j = i.toNat := by omega
    subst this
    exact ⟨rfl, rfl, rfl, rfl, rfl, rfl⟩
def RlAt (w : World) (gs : List SChange) (rls : List (List SRule)) (i : Int) : Prop := ∀ j : Nat, j < i → IsSl eRule w (gs.getD j eChange.zero).rules.v (rls.getD j [])
theorem RlAt.step {w : World} {gs : List SChange} {rls : List (List SRule)} {i : Int} (h : RlAt w gs rls i) (hn : (gs.length : Int) = i) (c : SChange) (v : OV) (hv : IsSl eRule w v.v (rls.getD i.toNat [])) : RlAt w (gs ++ [SChange.l_rules.set c v]) rls (i + 1) := fun j hj => by
  by_cases e : (j : Int) < i
  · rw [getD_snoc_lt _ _ _ _ (by omega)]
    exact h j e
  · rw [getD_snoc_eq _ _ _ _ (by omega)]
    have : j = i.toNat := by omega
    subst this
    exact hv
theorem cpy_ok {cs gs : List SChange} {rls : List (List SRule)} {n : Nat} (h : CpyJ cs gs n) (hn : n ≤ cs.length) (hok : ChsOK cs rls) : ChsOK gs rls := by
  obtain ⟨h1, h2⟩ := h
  have hl : gs.length = n := by omega
  refine ⟨by have := hok.n; omega, fun i hi => ?_, fun i hi => hok.len i (by omega), fun i hi => hok.rn i (by omega)⟩
  have hc := h2 i (by omega)
  rw [← hc.2.2.2.1, ← hc.2.2.2.2.1]
  exact hok.nm i (by omega)
theorem cpy_same {cs gs ks : List SChange} {rls : List (List SRule)} {n : Nat} (h : CpyJ cs gs n) (k : CpyJ cs ks n) : ChsSame gs ks rls rls := by
  have e1 := h.n
  have e2 := k.n
  exact ⟨by omega, fun i hi => (h.ch i (by omega)).symm.trans (k.ch i (by omega)), fun i _ => rfl⟩
theorem apply_r (c : SConf) (l : CL) (d : Int) (u : Value) (cs : List SChange) (rls : List (List SRule)) (r : Int × CD) (w : World) (hc : ConfAt w c l) (hn : l.Names) (hz : l.n ≤ 4611686018427387904) (hu : IsSl eChange w u cs) (hcs : ChsAt w cs rls) (hok : ChsOK cs rls) (hd : c.default = d) (hr : r = applyC ⟨l, d⟩ cs rls) : Calls Tryz.prog 27 #[eConf.val c, u] w (RetN w (fun _ : CB => True) (fun x => .tuple #[eConf.val (x.c r.2.d), I r.1]) (fun x => x.R r.2.l)) := by
  subst hd hr
  exact apply_ok c l u cs rls w hc hn hz hu hcs hok
theorem rapply_r (c : SConf) (l : CL) (d : Int) (u : Value) (cs : List SChange) (rls : List (List SRule)) (r : Int × CD) (w : World) (hc : ConfAt w c l) (hn : l.Names) (hz : l.n ≤ 4611686018427387904) (hu : IsSl eChange w u cs) (hcs : ChsAt w cs rls) (hok : ChsOK cs rls) (hd : c.default = d) (hr : r = applyC ⟨l, d⟩ cs rls) : Calls Tryz.prog 28 #[eConf.val c, u] w (RetN w (ApJ r.2) (fun y => .tuple #[eConf.val y.1, I r.1]) (fun y => y.2)) := by
  subst hd hr
  exact rapply_ok c l u cs rls w hc hn hz hu hcs hok
theorem chs_take {w : World} {cs : List SChange} {rls : List (List SRule)} (h : ChsAt w cs rls) (m : Nat) : ChsAt w (cs.take m) rls := ⟨fun i hi => by
  have h1 : i < m ∧ i < cs.length := by simp at hi; omega
  rw [getD_take'' _ _ _ _ h1.1]
  exact h.sl i h1.2⟩
theorem Rem.app {r : Res} {L M : List Res} (k : List Res) (h : Rem L r M) : Rem (k ++ L) r (k ++ M) := by
  obtain ⟨A, C, rfl, rfl⟩ := h
  exact ⟨k ++ A, C, by simp, by simp⟩
theorem en28 : Gx.Enters Tryz.prog 28 := Gx.Enters.mk' (by kernel_rfl)
theorem ConfApplies_walk (c : SConf) (l : CL) (u : Value) (cs : List SChange) (rls : List (List SRule)) (w : World) (hc : ConfAt w c l) (hn : l.Names) (hu : IsSl eChange w u cs) (hcs : ChsAt w cs rls) (hnm : ∀ i, i < cs.length → (cs.getD i eChange.zero).meter.name.size ≤ 9223372036854775807 ∧ (cs.getD i eChange.zero).mirror.name.size ≤ 9223372036854775807) (hlen : ∀ i, i < cs.length → (rls.getD i []).length * 152 ≤ 140737488355328) (hrn : ∀ i, i < cs.length → ∀ x ∈ rls.getD i [], x.name.size ≤ 9223372036854775807) : Calls Tryz.prog 5 #[eConf.val c, u] w (RetV w (.bool true)) := by
  obtain ⟨m, hm⟩ : ∃ m : Nat, (min (cs.length : Int) 30) = (m : Int) := ⟨min cs.length 30, by omega⟩
  have hm2 : m ≤ cs.length ∧ m ≤ 30 := by omega
  have hle := hu.le
  have htl : (cs.take m).length = m := by simp; omega
  have hsm := takeC_small l (n := 60) (by decide)
  have hcs2 := chs_take hcs m
  have hus : ∀ w1, Keeps Nope w w1 → IsSl eChange w1 (subS eChange.size u 0 m) (cs.take m) := fun w1 k => by
    have := (hu.keep0 k).sub (l := 0) (k := m) (by omega) (by omega)
    simpa using this
  have hok : ChsOK (cs.take m) rls := ⟨by omega, fun i hi => by rw [getD_take'' _ _ _ _ (by omega)]; exact hnm i (by omega), fun i hi => hlen i (by omega), fun i hi => hrn i (by omega)⟩
  refine enter0 115 Tryz.func5 rfl rfl (Nat.le_of_ble_eq_true rfl) ?_
  refine seq (region (cons (box (E := eConf) (.t rfl) (fun b1 => ?_))))
  refine cons (opv (Ev.assign (.c (v := .bool false) rfl)) ?_)
  refine nil (pN (seq (region (cons (opv (Ev.ldx c ty28 (.t rfl) (Lens.id _)) ?_)))))
  refine cons (calln (X := CB) (fun _ => True) (fun x => eConf.val ((subC x (takeC l 60)).c c.default)) (fun x => x.R (markL (takeC l 60))) en10 (.cons (.t rfl) (.cons (.c (v := I 60) rfl) .nil)) (fun w I => cut_ok c l 60 w (hc.keep0 I.keeps) (by decide)) (fun x0 _ => ?_))
  refine cons (alloc z28 (fun b2 => ?_))
  refine cons (stv ty28 (Lens.id _) (.t rfl) (.t rfl) ?_)
  refine nil (pN (seq (region (cons (opv (Ev.to (v' := eConf.val ((subC x0 (takeC l 60)).c c.default)) (Ev.ldv ty28 (.t rfl) (Lens.id _)) (rfl)) ?_)))))
  refine cons (calln (X := CB) (fun _ => True) (fun x => eConf.val (x.c c.default)) (fun x => x.R (takeC l 60)) en11 (.cons (.t rfl) .nil) (fun w I => rcopy_ok ((subC x0 (takeC l 60)).c c.default) (takeC l 60) w (mo5 (x := x0) (l := (takeC l 60)) w I) hsm) (fun x1 _ => ?_))
  refine cons (alloc z28 (fun b3 => ?_))
  refine cons (stv ty28 (Lens.id _) (.t rfl) (.t rfl) ?_)
  refine nil (pN (seq (region (cons (opv (Ev.move (.t rfl)) (cons (opv (Ev.move (.t rfl)) (cons (opv (Ev.len Tryz.underlying41 (.t rfl) (fun w I => hu.keep0 I.keeps)) ?_)))))))))
  refine cons (opv (Ev.to (v' := I ((m : Nat) : Int)) (Ev.min_i (.t rfl) (.c rfl)) (by rw [hm])) ?_)
  refine cons (opv (Ev.sliceH Tryz.underlying41 ty61 (.t rfl) (.t rfl) (fun w I => hu.keep0 I.keeps) (fun _ => by omega)) ?_)
  refine cons (opv (Ev.assign (.t rfl)) (nil (pN (seq (region (cons (opv (Ev.assign (.c (v := (Go.Value.slice none 0 0)) rfl)) ?_)))))))
  refine takeNil eChange 61 ?_
  refine cons (opv (Ev.assign (.c (v := (Go.Value.slice none 0 0)) rfl)) ?_)
  refine takeNil eChange 61 ?_
  refine nil (pN (seq (seq (arr (L' := (OwnS nilSl.v eChange [] 61 :: OwnS nilSl.v eChange [] 61 :: Var b3 eConf (x1.c c.default) 28 :: OwnS x1.o1.v iE (takeC l 60).ps 3 :: OwnS x1.o2.v eRoute (takeC l 60).rs 52 :: OwnS x1.o3.v eRule (takeC l 60).us 76 :: OwnS x1.o4.v eMeterConf (takeC l 60).ms 57 :: OwnS x1.o5.v eMirrorConf (takeC l 60).xs 59 :: Var b2 eConf ((subC x0 (takeC l 60)).c c.default) 28 :: OwnS x0.o1.v iE (markL (takeC l 60)).ps 3 :: OwnS x0.o2.v eRoute (markL (takeC l 60)).rs 52 :: OwnS x0.o3.v eRule (markL (takeC l 60)).us 76 :: OwnS x0.o4.v eMeterConf (markL (takeC l 60)).ms 57 :: OwnS x0.o5.v eMirrorConf (markL (takeC l 60)).xs 59 :: [])) (by repeat first | refine SubP.cons (by repeat first | exact Rem.head | apply Rem.tail | apply Rem.app) ?_ | exact SubP.of (by repeat first | exact sR | apply sS)) ?_))))
  refine region (cons (opv (Ev.assign (.c (v := I 0) rfl)) ?_))
  refine nil (pN (block (lp (X := Int × OV × OV × (List SChange) × (List SChange) × (List Res)) (fun x : Int × OV × OV × (List SChange) × (List SChange) × (List Res) => (0 ≤ x.1 ∧ x.1 ≤ m) ∧ (CpyJ (cs.take m) x.2.2.2.1 x.1) ∧ (CpyJ (cs.take m) x.2.2.2.2.1 x.1) ∧ (∀ w1 : World, (∀ r ∈ x.2.2.2.2.2, r.A w1) → RlAt w1 x.2.2.2.1 rls x.1 ∧ RlAt w1 x.2.2.2.2.1 rls x.1)) (fun x : Int × OV × OV × (List SChange) × (List SChange) × (List Res) => [(1, true, subS eChange.size u 0 m), (5, true, .pointer (some ⟨b2, 0, none⟩)), (6, true, .pointer (some ⟨b3, 0, none⟩)), (7, true, x.2.1.v), (8, true, x.2.2.1.v), (9, true, I x.1)]) (fun x : Int × OV × OV × (List SChange) × (List SChange) × (List Res) => (OwnS x.2.1.v eChange x.2.2.2.1 61 :: OwnS x.2.2.1.v eChange x.2.2.2.2.1 61 :: Var b3 eConf (x1.c c.default) 28 :: OwnS x1.o1.v iE (takeC l 60).ps 3 :: OwnS x1.o2.v eRoute (takeC l 60).rs 52 :: OwnS x1.o3.v eRule (takeC l 60).us 76 :: OwnS x1.o4.v eMeterConf (takeC l 60).ms 57 :: OwnS x1.o5.v eMirrorConf (takeC l 60).xs 59 :: Var b2 eConf ((subC x0 (takeC l 60)).c c.default) 28 :: OwnS x0.o1.v iE (markL (takeC l 60)).ps 3 :: OwnS x0.o2.v eRoute (markL (takeC l 60)).rs 52 :: OwnS x0.o3.v eRule (markL (takeC l 60)).us 76 :: OwnS x0.o4.v eMeterConf (markL (takeC l 60)).ms 57 :: OwnS x0.o5.v eMirrorConf (markL (takeC l 60)).xs 59 :: x.2.2.2.2.2)) (fun x : Int × OV × OV × (List SChange) × (List SChange) × (List Res) => ((m : Int) - x.1).toNat) (0, nilSl, nilSl, [], [], []) ⟨?_, ?_, ?_, ?_⟩ (fun x hx => ?_))))
  · omega
  · exact ⟨rfl, fun j hj => by omega⟩
  · exact ⟨rfl, fun j hj => by omega⟩
  · exact fun w1 _ => ⟨fun j hj => by omega, fun j hj => by omega⟩
  obtain ⟨i, g, kp, gs, ks, Rs⟩ := x
  obtain ⟨hi, hg, hk, hat⟩ : (0 ≤ i ∧ i ≤ m) ∧ (CpyJ (cs.take m) gs i) ∧ (CpyJ (cs.take m) ks i) ∧ (∀ w1 : World, (∀ r ∈ Rs, r.A w1) → RlAt w1 gs rls i ∧ RlAt w1 ks rls i) := hx
  show Sat _ _ [(1, true, subS eChange.size u 0 m), (5, true, .pointer (some ⟨b2, 0, none⟩)), (6, true, .pointer (some ⟨b3, 0, none⟩)), (7, true, g.v), (8, true, kp.v), (9, true, I i)] (OwnS g.v eChange gs 61 :: OwnS kp.v eChange ks 61 :: Var b3 eConf (x1.c c.default) 28 :: OwnS x1.o1.v iE (takeC l 60).ps 3 :: OwnS x1.o2.v eRoute (takeC l 60).rs 52 :: OwnS x1.o3.v eRule (takeC l 60).us 76 :: OwnS x1.o4.v eMeterConf (takeC l 60).ms 57 :: OwnS x1.o5.v eMirrorConf (takeC l 60).xs 59 :: Var b2 eConf ((subC x0 (takeC l 60)).c c.default) 28 :: OwnS x0.o1.v iE (markL (takeC l 60)).ps 3 :: OwnS x0.o2.v eRoute (markL (takeC l 60)).rs 52 :: OwnS x0.o3.v eRule (markL (takeC l 60)).us 76 :: OwnS x0.o4.v eMeterConf (markL (takeC l 60)).ms 57 :: OwnS x0.o5.v eMirrorConf (markL (takeC l 60)).xs 59 :: Rs)
  have hgn := hg.n
  have hkn := hk.n
  refine seq (seq (region (cons (opv (Ev.move (.t rfl)) (cons (opv (Ev.move (.t rfl)) (cons (opv (Ev.len Tryz.underlying41 (.t rfl) (fun w I => hus w I.keeps)) ?_))))))))
  refine cons (opv (Ev.lss_i (.t rfl) (.t rfl)) ?_)
  refine nil (pN ?_)
  first | refine condD rfl (fun h0 => ?_) (fun h0 => ?_) | refine cond rfl (fun h0 => ?_) (fun h0 => ?_)
  · try simp only [nb] at h0
    refine skip (pN (seq (block (seq (region (cons (opv (Ev.move (.t rfl)) (cons (opv (Ev.move (.t rfl)) (cons (opv (Ev.indexAddr Tryz.underlying41 ty61 (.t rfl) (.t rfl) (fun w I => hus w I.keeps) (fun _ => by omega)) ?_)))))))))))
    refine cons (opv (Ev.loadS0 ty61 (.t rfl) (fun w I => hus w I.keeps) (fun _ => by omega)) ?_)
    refine cons (alloc z61 (fun b4 => ?_))
    refine cons (stv ty61 (Lens.id _) (.t rfl) (.t rfl) ?_)
    refine nil (pN (seq (region (cons (buildSlice (E := eRule) Tryz.underlying24 ty76 z76 .nil rfl rfl (fun v5 => ?_))))))
    refine cons (opv (Ev.move (.t rfl)) (cons (opv (Ev.move (.t rfl)) (cons (opv (Ev.indexAddr Tryz.underlying41 ty61 (.t rfl) (.t rfl) (fun w I => hus w I.keeps) (fun _ => by omega)) ?_)))))
    refine cons (opv (Ev.fieldAddrS (o := 28) (i := i) (.t rfl) (fun w I => hus w I.keeps) (fun _ => by omega) (by kernel_rfl)) ?_)
    refine cons (opv (Ev.loadS ty24 SChange.l_rules rfl (.t rfl) (fun w I => hus w I.keeps) (fun _ => by omega)) ?_)
    refine cons (app (E := eRule) Tryz.underlying24 ty76 zb76 zs76 (.t rfl) (.t rfl) (fun v6 => ?_) (hsrc := (fun w I => (hcs2.keep0 I.keeps).sl i.toNat (by omega))) (hby := ⟨by (show _ ≤ 9223372036854775807); have := hg.n; have := hk.n; have := hok.len i.toNat (by omega); simp only [List.length_append, List.length_cons, List.length_nil]; omega, by have := hg.n; have := hk.n; have := hok.len i.toNat (by omega); simp only [List.length_append, List.length_cons, List.length_nil]; omega⟩))
    refine cons (opv (Ev.fieldAddr (o := 28) (.t rfl) (by kernel_rfl)) ?_)
    refine cons (stv ty24 SChange.l_rules (.t rfl) (.t rfl) ?_)
    refine nil (pN (seq (region (cons (opv (Ev.move (.t rfl)) (cons (opv (Ev.ldv ty61 (.t rfl) (Lens.id _)) ?_)))))))
    refine cons (buildSlice (E := eChange) Tryz.underlying41 ty61 z61 (.cons (.t rfl) .nil) rfl rfl (fun v7 => ?_))
    refine cons (app (E := eChange) Tryz.underlying41 ty61 zb61 zs61 (.t rfl) (.t rfl) (fun v8 => ?_) (hby := ⟨by (show _ ≤ 9223372036854775807); have := hg.n; have := hk.n; have := hok.len i.toNat (by omega); simp only [List.length_append, List.length_cons, List.length_nil]; omega, by have := hg.n; have := hk.n; have := hok.len i.toNat (by omega); simp only [List.length_append, List.length_cons, List.length_nil]; omega⟩))
    refine cons (opv (Ev.assign (.t rfl)) (nil (pN (seq (region (cons (buildSlice (E := eRule) Tryz.underlying24 ty76 z76 .nil rfl rfl (fun v9 => ?_))))))))
    refine cons (opv (Ev.move (.t rfl)) (cons (opv (Ev.move (.t rfl)) (cons (opv (Ev.indexAddr Tryz.underlying41 ty61 (.t rfl) (.t rfl) (fun w I => hus w I.keeps) (fun _ => by omega)) ?_)))))
    refine cons (opv (Ev.fieldAddrS (o := 28) (i := i) (.t rfl) (fun w I => hus w I.keeps) (fun _ => by omega) (by kernel_rfl)) ?_)
    refine cons (opv (Ev.loadS ty24 SChange.l_rules rfl (.t rfl) (fun w I => hus w I.keeps) (fun _ => by omega)) ?_)
    refine cons (app (E := eRule) Tryz.underlying24 ty76 zb76 zs76 (.t rfl) (.t rfl) (fun v10 => ?_) (hsrc := (fun w I => (hcs2.keep0 I.keeps).sl i.toNat (by omega))) (hby := ⟨by (show _ ≤ 9223372036854775807); have := hg.n; have := hk.n; have := hok.len i.toNat (by omega); simp only [List.length_append, List.length_cons, List.length_nil]; omega, by have := hg.n; have := hk.n; have := hok.len i.toNat (by omega); simp only [List.length_append, List.length_cons, List.length_nil]; omega⟩))
    refine cons (opv (Ev.fieldAddr (o := 28) (.t rfl) (by kernel_rfl)) ?_)
    refine cons (stv ty24 SChange.l_rules (.t rfl) (.t rfl) ?_)
    refine nil (pN (region (cons (opv (Ev.move (.t rfl)) (cons (opv (Ev.ldv ty61 (.t rfl) (Lens.id _)) ?_))))))
    refine cons (buildSlice (E := eChange) Tryz.underlying41 ty61 z61 (.cons (.t rfl) .nil) rfl rfl (fun v11 => ?_))
    refine cons (app (E := eChange) Tryz.underlying41 ty61 zb61 zs61 (.t rfl) (.t rfl) (fun v12 => ?_) (hby := ⟨by (show _ ≤ 9223372036854775807); have := hg.n; have := hk.n; have := hok.len i.toNat (by omega); simp only [List.length_append, List.length_cons, List.length_nil]; omega, by have := hg.n; have := hk.n; have := hok.len i.toNat (by omega); simp only [List.length_append, List.length_cons, List.length_nil]; omega⟩))
    refine cons (opv (Ev.assign (.t rfl)) (nil (bN (pN (region (cons (opv (Ev.move (.t rfl)) (cons (opv (Ev.add_i (.t rfl) (.c (v := I 1) rfl) (fun _ => by omega)) ?_)))))))))
    refine cons (opv (Ev.assign (.t rfl)) (nil (pN (nxP (X := Int × OV × OV × (List SChange) × (List SChange) × (List Res)) (i + 1, v8, v12, _, _, (OwnS v6.v eRule (rls.getD i.toNat []) 76 :: OwnS v10.v eRule (rls.getD i.toNat []) 76 :: Rs)) ⟨?_, ?_, ?_, ?_⟩ ?_ (hL := (by repeat first | refine SubP.cons (by repeat first | exact Rem.head | apply Rem.tail | apply Rem.app) ?_ | exact SubP.of (by repeat first | exact sR | apply sS)))))))
    · try dsimp only
      omega
    · try dsimp only
      exact hg.step hi.1 v6
    · try dsimp only
      exact hk.step hi.1 v10
    · try dsimp only
      exact fun w1 h => by
        have h0 := hat w1 (fun r hr => h r (List.mem_cons_of_mem _ (List.mem_cons_of_mem _ hr)))
        exact ⟨h0.1.step hg.n _ v6 (IsSl.of_own (h _ List.mem_cons_self)), h0.2.step hk.n _ v10 (IsSl.of_own (h _ (List.mem_cons_of_mem _ List.mem_cons_self)))⟩
    · try dsimp only
      omega
  · try simp only [nb] at h0
    refine exit (pX (pX (bX (pN (seq ?_)))))
    have him : i = (m : Int) := by omega
    rw [him] at hg hk hat
    have hgo := cpy_ok hg (by omega) hok
    have hko := cpy_ok hk (by omega) hok
    have hgk := cpy_same (rls := rls) hg hk
    obtain ⟨r, hr⟩ : ∃ r, r = applyC ⟨(takeC l 60), c.default⟩ gs rls := ⟨_, rfl⟩
    have hrs : r.2.l.Small := by rw [hr]; exact applyC_small _ _ _
    refine region (cons (opv (Ev.to (v' := eConf.val ((subC x0 (takeC l 60)).c c.default)) (Ev.ldv ty28 (.t rfl) (Lens.id _)) (rfl)) ?_))
    refine cons (opv (Ev.move (.t rfl)) (cons (calln (X := CB) (fun _ => True) (fun x => .tuple #[eConf.val (x.c r.2.d), I r.1]) (fun x => x.R r.2.l) en27 (.cons (.t rfl) (.cons (.t rfl) .nil)) (fun w I => apply_r ((subC x0 (takeC l 60)).c c.default) (takeC l 60) c.default _ gs rls r w (mo5 (x := x0) (l := (takeC l 60)) w I) (takeC_names hn 60) hsm.n (isSl_own (by repeat first | exact mH | apply mT | apply mA) w I) ⟨fun j hj => (hat w (fun q hr => (I.own q (by repeat first | exact hr | apply List.Mem.tail)).1)).1 j (by have := hg.n; omega)⟩ hgo rfl hr) (fun a1 _ => ?_))))
    refine cons (opv (Ev.move (.t rfl)) (cons (opv (Ev.extract (.t rfl) rfl) (cons (opv (Ev.extract (.t rfl) rfl) (cons (alloc z28 (fun b13 => ?_))))))))
    refine cons (stv ty28 (Lens.id _) (.t rfl) (.t rfl) ?_)
    refine cons (opv (Ev.assign (.t rfl)) (nil (pN (seq (region (cons (opv (Ev.to (v' := eConf.val ((subC x0 (takeC l 60)).c c.default)) (Ev.ldv ty28 (.t rfl) (Lens.id _)) (rfl)) ?_)))))))
    refine cons (opv (Ev.move (.t rfl)) (cons (calln (X := CB) (fun _ => True) (fun x => .tuple #[eConf.val (x.c r.2.d), I r.1]) (fun x => x.R r.2.l) en27 (.cons (.t rfl) (.cons (.t rfl) .nil)) (fun w I => apply_r ((subC x0 (takeC l 60)).c c.default) (takeC l 60) c.default _ gs rls r w (mo5 (x := x0) (l := (takeC l 60)) w I) (takeC_names hn 60) hsm.n (isSl_own (by repeat first | exact mH | apply mT | apply mA) w I) ⟨fun j hj => (hat w (fun q hr => (I.own q (by repeat first | exact hr | apply List.Mem.tail)).1)).1 j (by have := hg.n; omega)⟩ hgo rfl hr) (fun a2 _ => ?_))))
    refine cons (opv (Ev.move (.t rfl)) (cons (opv (Ev.extract (.t rfl) rfl) (cons (opv (Ev.extract (.t rfl) rfl) (cons (alloc z28 (fun b14 => ?_))))))))
    refine cons (stv ty28 (Lens.id _) (.t rfl) (.t rfl) ?_)
    refine cons (opv (Ev.assign (.t rfl)) (nil (pN (cut (X := (SConf × List Res) × Nat) (fun x : (SConf × List Res) × Nat => (ApJ r.2 x.1)) (fun x : (SConf × List Res) × Nat => [(1, true, subS eChange.size u 0 m), (5, true, .pointer (some ⟨b2, 0, none⟩)), (6, true, .pointer (some ⟨b3, 0, none⟩)), (7, true, g.v), (8, true, kp.v), (11, true, .pointer (some ⟨b13, 0, none⟩)), (12, true, I r.1), (13, true, .pointer (some ⟨b14, 0, none⟩)), (14, true, I r.1), (15, true, .pointer (some ⟨x.2, 0, none⟩)), (16, true, I r.1)]) (fun x : (SConf × List Res) × Nat => (Var x.2 eConf x.1.1 28 :: Var b14 eConf (a2.c r.2.d) 28 :: OwnS a2.o1.v iE r.2.l.ps 3 :: OwnS a2.o2.v eRoute r.2.l.rs 52 :: OwnS a2.o3.v eRule r.2.l.us 76 :: OwnS a2.o4.v eMeterConf r.2.l.ms 57 :: OwnS a2.o5.v eMirrorConf r.2.l.xs 59 :: Var b13 eConf (a1.c r.2.d) 28 :: OwnS a1.o1.v iE r.2.l.ps 3 :: OwnS a1.o2.v eRoute r.2.l.rs 52 :: OwnS a1.o3.v eRule r.2.l.us 76 :: OwnS a1.o4.v eMeterConf r.2.l.ms 57 :: OwnS a1.o5.v eMirrorConf r.2.l.xs 59 :: OwnS g.v eChange gs 61 :: OwnS kp.v eChange ks 61 :: Var b3 eConf (x1.c c.default) 28 :: OwnS x1.o1.v iE (takeC l 60).ps 3 :: OwnS x1.o2.v eRoute (takeC l 60).rs 52 :: OwnS x1.o3.v eRule (takeC l 60).us 76 :: OwnS x1.o4.v eMeterConf (takeC l 60).ms 57 :: OwnS x1.o5.v eMirrorConf (takeC l 60).xs 59 :: Var b2 eConf ((subC x0 (takeC l 60)).c c.default) 28 :: OwnS x0.o1.v iE (markL (takeC l 60)).ps 3 :: OwnS x0.o2.v eRoute (markL (takeC l 60)).rs 52 :: OwnS x0.o3.v eRule (markL (takeC l 60)).us 76 :: OwnS x0.o4.v eMeterConf (markL (takeC l 60)).ms 57 :: OwnS x0.o5.v eMirrorConf (markL (takeC l 60)).xs 59 :: (x.1.2 ++ Rs))) ?_ (fun x hx => ?_)))))
    · refine region (cons (opv (Ev.to (v' := eConf.val (x1.c c.default)) (Ev.ldv ty28 (.t rfl) (Lens.id _)) (rfl)) ?_))
      refine cons (opv (Ev.move (.t rfl)) (cons (calln (X := SConf × List Res) (ApJ r.2) (fun y => .tuple #[eConf.val y.1, I r.1]) (fun y => y.2) en28 (.cons (.t rfl) (.cons (.t rfl) .nil)) (fun w I => rapply_r (x1.c c.default) (takeC l 60) c.default _ ks rls r w (co5 (x := x1) (l := (takeC l 60)) w I) (takeC_names hn 60) hsm.n (isSl_own (by repeat first | exact mH | apply mT | apply mA) w I) ⟨fun j hj => (hat w (fun q hr => (I.own q (by repeat first | exact hr | apply List.Mem.tail)).1)).2 j (by have := hk.n; omega)⟩ hko rfl (hr.trans (applyC_same hgk).symm)) (fun y3 hy3 => ?_))))
      refine cons (opv (Ev.move (.t rfl)) (cons (opv (Ev.extract (.t rfl) rfl) (cons (opv (Ev.extract (.t rfl) rfl) (cons (alloc z28 (fun b15 => ?_))))))))
      refine cons (stv ty28 (Lens.id _) (.t rfl) (.t rfl) ?_)
      refine cons (opv (Ev.assign (.t rfl)) (nil (pN (mtP (X := (SConf × List Res) × Nat) (_, _) ?_ (hL := (by repeat first | refine SubP.cons (by repeat first | exact Rem.head | apply Rem.tail | apply Rem.app) ?_ | exact SubP.of (by repeat first | exact sR | apply sS)))))))
      · try dsimp only
        exact hy3
    obtain ⟨y3, p15⟩ := x
    have hy3 : ApJ r.2 y3 := hx
    clear hx
    show Sat _ _ [(1, true, subS eChange.size u 0 m), (5, true, .pointer (some ⟨b2, 0, none⟩)), (6, true, .pointer (some ⟨b3, 0, none⟩)), (7, true, g.v), (8, true, kp.v), (11, true, .pointer (some ⟨b13, 0, none⟩)), (12, true, I r.1), (13, true, .pointer (some ⟨b14, 0, none⟩)), (14, true, I r.1), (15, true, .pointer (some ⟨p15, 0, none⟩)), (16, true, I r.1)] (Var p15 eConf y3.1 28 :: Var b14 eConf (a2.c r.2.d) 28 :: OwnS a2.o1.v iE r.2.l.ps 3 :: OwnS a2.o2.v eRoute r.2.l.rs 52 :: OwnS a2.o3.v eRule r.2.l.us 76 :: OwnS a2.o4.v eMeterConf r.2.l.ms 57 :: OwnS a2.o5.v eMirrorConf r.2.l.xs 59 :: Var b13 eConf (a1.c r.2.d) 28 :: OwnS a1.o1.v iE r.2.l.ps 3 :: OwnS a1.o2.v eRoute r.2.l.rs 52 :: OwnS a1.o3.v eRule r.2.l.us 76 :: OwnS a1.o4.v eMeterConf r.2.l.ms 57 :: OwnS a1.o5.v eMirrorConf r.2.l.xs 59 :: OwnS g.v eChange gs 61 :: OwnS kp.v eChange ks 61 :: Var b3 eConf (x1.c c.default) 28 :: OwnS x1.o1.v iE (takeC l 60).ps 3 :: OwnS x1.o2.v eRoute (takeC l 60).rs 52 :: OwnS x1.o3.v eRule (takeC l 60).us 76 :: OwnS x1.o4.v eMeterConf (takeC l 60).ms 57 :: OwnS x1.o5.v eMirrorConf (takeC l 60).xs 59 :: Var b2 eConf ((subC x0 (takeC l 60)).c c.default) 28 :: OwnS x0.o1.v iE (markL (takeC l 60)).ps 3 :: OwnS x0.o2.v eRoute (markL (takeC l 60)).rs 52 :: OwnS x0.o3.v eRule (markL (takeC l 60)).us 76 :: OwnS x0.o4.v eMeterConf (markL (takeC l 60)).ms 57 :: OwnS x0.o5.v eMirrorConf (markL (takeC l 60)).xs 59 :: (y3.2 ++ Rs))
    refine seq (seq (region (cons (opv (Ev.move (.t rfl)) (cons (opv (Ev.move (.t rfl)) (cons (opv (Ev.to (v' := .bool false) (Ev.neq_i (.t rfl) (.t rfl)) (congrArg Value.bool (decide_eq_false (fun h => h rfl)))) ?_))))))))
    refine cons (opv (Ev.move (.t rfl)) (cons (opg rfl rfl (Ev.to (v' := eConf.val (a1.c r.2.d)) (Ev.ldv ty28 (.t rfl) (Lens.id _)) (rfl)) ?_)))
    refine cons (opg rfl rfl (Ev.to (v' := eConf.val y3.1) (Ev.ldv ty28 (.t rfl) (Lens.id _)) (rfl)) ?_)
    refine cons (callg rfl rfl en17 (.cons (.g rfl id) (.cons (.g rfl id) .nil)) (fun hg w I => rexact_ok (a1.c r.2.d) y3.1 r.2.l r.2.l w (co5 (x := a1) (l := r.2.l) w I) (hy3.2 w (fun q hq => (I.own q (by repeat first | exact List.mem_append_left _ hq | apply List.Mem.tail)).1))) ?_)
    refine cons (opg rfl rfl (Ev.to (v' := .bool false) (Ev.not (.g rfl id)) (congrArg Value.bool (by show (!exactB r.2.l r.2.l r.2.d y3.1.default) = false; rw [hy3.1, exactB_self]; rfl))) ?_)
    refine cons (opv (Ev.to (v' := .bool false) (Ev.pickO (.t rfl) (.c (v := .bool true) rfl) (fun {_} h => by cases h; rfl) ⟨_, rfl⟩ (by intro h1 h; first | (rw [h] <;> rfl) | (rw [h1, h] <;> rfl) | (rw [h, h1] <;> rfl) | simp_all)) (rfl)) ?_)
    refine cons (opv (Ev.move (.t rfl)) (cons (opg rfl rfl (Ev.to (v' := eConf.val (a2.c r.2.d)) (Ev.ldv ty28 (.t rfl) (Lens.id _)) (rfl)) ?_)))
    refine cons (opg rfl rfl (Ev.to (v' := eConf.val y3.1) (Ev.ldv ty28 (.t rfl) (Lens.id _)) (rfl)) ?_)
    refine cons (callg rfl rfl en17 (.cons (.g rfl id) (.cons (.g rfl id) .nil)) (fun hg w I => rexact_ok (a2.c r.2.d) y3.1 r.2.l r.2.l w (co5 (x := a2) (l := r.2.l) w I) (hy3.2 w (fun q hq => (I.own q (by repeat first | exact List.mem_append_left _ hq | apply List.Mem.tail)).1))) ?_)
    refine cons (opg rfl rfl (Ev.to (v' := .bool false) (Ev.not (.g rfl id)) (congrArg Value.bool (by show (!exactB r.2.l r.2.l r.2.d y3.1.default) = false; rw [hy3.1, exactB_self]; rfl))) ?_)
    refine cons (opv (Ev.to (v' := .bool false) (Ev.pickO (.t rfl) (.c (v := .bool true) rfl) (fun {_} h => by cases h; rfl) ⟨_, rfl⟩ (by intro h1 h; first | (rw [h] <;> rfl) | (rw [h1, h] <;> rfl) | (rw [h, h1] <;> rfl) | simp_all)) (rfl)) ?_)
    refine nil (pN (condF rfl (rfl) ?_))
    refine skip (pN (seq (sepsIn (r := OwnS a1.o1.v iE r.2.l.ps 3) (l := [OwnS a1.o2.v eRoute r.2.l.rs 52, OwnS a1.o3.v eRule r.2.l.us 76, OwnS a1.o4.v eMeterConf r.2.l.ms 57, OwnS a1.o5.v eMirrorConf r.2.l.xs 59]) (M := (Var p15 eConf y3.1 28 :: Var b14 eConf (a2.c r.2.d) 28 :: OwnS a2.o1.v iE r.2.l.ps 3 :: OwnS a2.o2.v eRoute r.2.l.rs 52 :: OwnS a2.o3.v eRule r.2.l.us 76 :: OwnS a2.o4.v eMeterConf r.2.l.ms 57 :: OwnS a2.o5.v eMirrorConf r.2.l.xs 59 :: Var b13 eConf (a1.c r.2.d) 28 :: OwnS g.v eChange gs 61 :: OwnS kp.v eChange ks 61 :: Var b3 eConf (x1.c c.default) 28 :: OwnS x1.o1.v iE (takeC l 60).ps 3 :: OwnS x1.o2.v eRoute (takeC l 60).rs 52 :: OwnS x1.o3.v eRule (takeC l 60).us 76 :: OwnS x1.o4.v eMeterConf (takeC l 60).ms 57 :: OwnS x1.o5.v eMirrorConf (takeC l 60).xs 59 :: Var b2 eConf ((subC x0 (takeC l 60)).c c.default) 28 :: OwnS x0.o1.v iE (markL (takeC l 60)).ps 3 :: OwnS x0.o2.v eRoute (markL (takeC l 60)).rs 52 :: OwnS x0.o3.v eRule (markL (takeC l 60)).us 76 :: OwnS x0.o4.v eMeterConf (markL (takeC l 60)).ms 57 :: OwnS x0.o5.v eMirrorConf (markL (takeC l 60)).xs 59 :: (y3.2 ++ Rs))) (by repeat first | refine SubP.cons (by repeat first | exact Rem.head | apply Rem.tail | apply Rem.app) ?_ | exact SubP.of (by repeat first | exact sR | apply sS)) ?_)))
    refine region (cons (opv (Ev.to (v' := eConf.val (a1.c r.2.d)) (Ev.ldv ty28 (.t rfl) (Lens.id _)) (rfl)) ?_))
    refine cons (callr (X := Unit) (r := OC a1 r.2.l) (r' := fun _ => Emp) (fun _ => True) (fun _ => .tuple #[]) (fun _ => by repeat first | exact Upd.head | apply Upd.tail | apply Upd.right) (by repeat first | exact mH | apply mT | apply mA) en18 (.cons (.t rfl) .nil) (fun w I => spoil_ok a1 r.2.l r.2.d w (at_mem (by repeat first | exact mH | apply mT | apply mA) w I) hrs) (fun _ _ => ?_))
    refine nil (pN (seq (region (cons (opv (Ev.to (v' := eConf.val (a2.c r.2.d)) (Ev.ldv ty28 (.t rfl) (Lens.id _)) (rfl)) ?_)))))
    refine cons (opv (Ev.to (v' := eConf.val y3.1) (Ev.ldv ty28 (.t rfl) (Lens.id _)) (rfl)) ?_)
    refine cons (callv en17 (.cons (.t rfl) (.cons (.t rfl) .nil)) (fun w I => rexact_ok (a2.c r.2.d) y3.1 r.2.l r.2.l w (co5 (x := a2) (l := r.2.l) w I) (hy3.2 w (fun q hq => (I.own q (by repeat first | exact List.mem_append_left _ hq | apply List.Mem.tail)).1))) ?_)
    refine cons (opv (Ev.to (v' := .bool true) (Ev.move (.t rfl)) (congrArg Value.bool (by show exactB r.2.l r.2.l r.2.d y3.1.default = true; rw [hy3.1]; exact exactB_self _ _))) ?_)
    refine cons (opg rfl rfl (Ev.to (v' := eConf.val ((subC x0 (takeC l 60)).c c.default)) (Ev.ldv ty28 (.t rfl) (Lens.id _)) (rfl)) ?_)
    refine cons (opg rfl rfl (Ev.to (v' := eConf.val (x1.c c.default)) (Ev.ldv ty28 (.t rfl) (Lens.id _)) (rfl)) ?_)
    refine cons (callg rfl rfl en17 (.cons (.g rfl id) (.cons (.g rfl id) .nil)) (fun hg w I => rexact_ok ((subC x0 (takeC l 60)).c c.default) (x1.c c.default) (takeC l 60) (takeC l 60) w (mo5 (x := x0) (l := (takeC l 60)) w I) (co5 (x := x1) (l := (takeC l 60)) w I)) ?_)
    refine cons (opv (Ev.to (v' := .bool true) (Ev.pickA (.t rfl) (fun {_} h => by cases h; rfl) ⟨_, rfl⟩ (by intro h1 h; first | (rw [h] <;> rfl) | (rw [h1, h] <;> rfl) | (rw [h, h1] <;> rfl) | simp_all) (.c (v := .bool false) rfl)) (congrArg Value.bool (exactB_self (takeC l 60) c.default))) ?_)
    refine cons (opv (Ev.move (.t rfl)) (cons (opg rfl rfl (Ev.to (v' := eConf.val ((subC x0 (takeC l 60)).c c.default)) (Ev.ldv ty28 (.t rfl) (Lens.id _)) (rfl)) ?_)))
    refine cons (callg rfl rfl en19 (.cons (.g rfl id) .nil) (fun hg w I => marked_ok x0 (takeC l 60) c.default w (co5 (x := x0) (l := markL (takeC l 60)) w I)) ?_)
    refine cons (opv (Ev.to (v' := .bool true) (Ev.pickA (.t rfl) (fun {_} h => by cases h; rfl) ⟨_, rfl⟩ (by intro h1 h; first | (rw [h] <;> rfl) | (rw [h1, h] <;> rfl) | (rw [h, h1] <;> rfl) | simp_all) (.c (v := .bool false) rfl)) (rfl)) ?_)
    refine cons (opv (Ev.move (.t rfl)) (cons (opg rfl rfl (Ev.move (.t rfl)) ?_)))
    refine cons (opg rfl rfl (Ev.move (.t rfl)) ?_)
    refine cons (callg rfl rfl en25 (.cons (.g rfl id) (.cons (.g rfl id) .nil)) (fun hg w I => sameCh_ok _ _ gs ks rls rls w (isSl_own (by repeat first | exact mH | apply mT | apply mA) w I) (isSl_own (by repeat first | exact mH | apply mT | apply mA) w I) ⟨fun j hj => (hat w (fun q hr => (I.own q (by repeat first | exact List.mem_append_right _ hr | apply List.Mem.tail)).1)).1 j (by omega)⟩ ⟨fun j hj => (hat w (fun q hr => (I.own q (by repeat first | exact List.mem_append_right _ hr | apply List.Mem.tail)).1)).2 j (by omega)⟩ hgk) ?_)
    refine cons (opv (Ev.to (v' := .bool true) (Ev.pickA (.t rfl) (fun {_} h => by cases h; rfl) ⟨_, rfl⟩ (by intro h1 h; first | (rw [h] <;> rfl) | (rw [h1, h] <;> rfl) | (rw [h, h1] <;> rfl) | simp_all) (.c (v := .bool false) rfl)) (rfl)) ?_)
    refine cons (opv (Ev.move (.t rfl)) (cons (callg rfl rfl en20 .nil (fun hg w I => works_ok w) ?_)))
    refine cons (opv (Ev.to (v' := .bool true) (Ev.pickA (.t rfl) (fun {_} h => by cases h; rfl) ⟨_, rfl⟩ (by intro h1 h; first | (rw [h] <;> rfl) | (rw [h1, h] <;> rfl) | (rw [h, h1] <;> rfl) | simp_all) (.c (v := .bool false) rfl)) (rfl)) ?_)
    refine cons (opv (Ev.assign (.t rfl)) (nil (pN (ret (done rfl (.tmp rfl .nil) (retE ?_))))))
    rfl
end Go.Proofs.YtnoobdijbpmjkaaGreat
