/- conf -/
import Derived.Test.YtnoobdijbpmjkaaGreatC22
set_option linter.unusedVariables false
set_option linter.unusedSimpArgs false
namespace Go.Proofs.YtnoobdijbpmjkaaGreat
open Go Go.Gx

/-- A configuration, its default. -/
structure CD where
  l : CL
  d : Int
/-- By the first n changes; none: one does not fit. -/
def goN (s : CD) (cs : List SChange) (rls : List (List SRule)) : Nat → Option CD
  | 0 => some s
  | n + 1 => match goN s cs rls n with
    | none => none
    | some t => if changeB t.l (cs.getD n eChange.zero) = true then some ⟨changeL t.l (cs.getD n eChange.zero) (rls.getD n []), changeD t.d (cs.getD n eChange.zero)⟩ else none
/-- What comes of changes: the configuration, the error. -/
def applyC (s : CD) (cs : List SChange) (rls : List (List SRule)) : Int × CD :=
  if mayB s.l s.d = true then (match goN s cs rls cs.length with
    | none => (211, ⟨⟨[], [], [], [], []⟩, 0⟩)
    | some t => if mayB t.l t.d = true then (0, t) else (210, ⟨⟨[], [], [], [], []⟩, 0⟩))
  else (210, ⟨⟨[], [], [], [], []⟩, 0⟩)
theorem goN_none {s : CD} {cs : List SChange} {rls : List (List SRule)} {n : Nat} (h : goN s cs rls n = none) : ∀ m, n ≤ m → goN s cs rls m = none := by
  intro m hm
  induction hm with
  | refl => exact h
  | step _ ih => rw [goN, ih]
/-- What may be of a configuration on its way. -/
structure CL.Way (l : CL) (n : Nat) : Prop where
  up : l.ps.Pairwise (· < ·)
  ps : l.ps.length ≤ 1024 + n
  rs : l.rs.length ≤ 1024 + n
  us : l.us.length * 152 ≤ 140737488355328
  ms : l.ms.length ≤ 1024 + n
  xs : l.xs.length ≤ 1024 + n
  nm : l.Names
theorem setL_mem {α : Type} {l : List α} {i : Int} {x y : α} (h : y ∈ setL l i x) : y ∈ l ∨ y = x := by
  unfold setL at h
  split at h
  · simpa using h
  · exact List.mem_or_eq_of_mem_set h
theorem setL_len {α : Type} (l : List α) (i : Int) (x : α) : (setL l i x).length ≤ l.length + 1 := by
  unfold setL
  split <;> simp
theorem cutI_sub {α : Type} (l : List α) (i : Int) : (cutI l i).Sublist l := by
  unfold cutI cutL
  split
  · exact List.Sublist.refl _
  · have h : (l.take i.toNat ++ l.drop i.toNat).Sublist l := by rw [List.take_append_drop]; exact List.Sublist.refl _
    refine List.Sublist.trans ?_ h
    refine List.Sublist.append (List.Sublist.refl _) ?_
    have e : (i + 1).toNat = i.toNat + ((i + 1).toNat - i.toNat) := by omega
    rw [e, ← List.drop_drop]
    exact List.drop_sublist _ _
theorem idxF_neg {α : Type} {p : α → Bool} {l : List α} (h : idxF p l < 0) : ∀ x ∈ l, p x = false := by
  unfold idxF at h
  cases e : l.findIdx? p with
  | none => exact List.findIdx?_eq_none_iff.1 e
  | some i => rw [e] at h; simp only at h; omega
theorem low_split {a : Int} : ∀ {l : List Int}, l.Pairwise (· < ·) → (∀ y ∈ l.take (l.countP (fun y => decide (y < a))), y < a) ∧ (∀ y ∈ l.drop (l.countP (fun y => decide (y < a))), ¬ y < a)
  | [], _ => by simp
  | y :: l, hs => by
    obtain ⟨h1, h2⟩ := List.pairwise_cons.1 hs
    obtain ⟨ih1, ih2⟩ := low_split h2
    by_cases hy : y < a
    · rw [List.countP_cons_of_pos (p := fun y => decide (y < a)) (by simpa using hy)]
      refine ⟨fun z hz => ?_, fun z hz => ?_⟩
      · rw [List.take_succ_cons] at hz
        rcases List.mem_cons.1 hz with rfl | h
        · exact hy
        · exact ih1 z h
      · rw [List.drop_succ_cons] at hz
        exact ih2 z hz
    · have e : (y :: l).countP (fun y => decide (y < a)) = 0 := by
        rw [List.countP_eq_zero]
        intro z hz
        rcases List.mem_cons.1 hz with rfl | h
        · simpa using hy
        · have := h1 z h
          simp
          omega
      rw [e]
      refine ⟨fun z hz => by simp at hz, fun z hz => ?_⟩
      rcases List.mem_cons.1 hz with rfl | h
      · exact hy
      · have := h1 z h
        omega
theorem low_ins {l : List Int} {a : Int} (hs : l.Pairwise (· < ·)) (hn : ∀ y ∈ l, ¬ a = y) : (insL l (lowB l a) a).Pairwise (· < ·) := by
  obtain ⟨k1, k2⟩ := low_split (a := a) hs
  unfold insL lowB
  rw [Int.toNat_natCast]
  generalize l.countP (fun y => decide (y < a)) = n at *
  have hs2 := hs
  rw [← List.take_append_drop n l, List.pairwise_append] at hs2
  obtain ⟨s1, s2, s3⟩ := hs2
  rw [List.append_assoc, List.pairwise_append]
  refine ⟨s1, ?_, fun x hx y hy => ?_⟩
  · rw [List.singleton_append, List.pairwise_cons]
    refine ⟨fun y hy => ?_, s2⟩
    have := k2 y hy
    have := hn y (List.mem_of_mem_drop hy)
    omega
  · rcases List.mem_append.1 hy with h | h
    · rw [List.mem_singleton.1 h]
      exact k1 x hx
    · exact s3 x hx y h
theorem insL_len (l : List Int) (i a : Int) : (insL l i a).length ≤ l.length + 1 := by
  unfold insL
  simp
  omega
theorem addOk {l : CL} {c : SChange} (h : ¬ addBad l c = true) : ∀ y ∈ l.ps, ¬ c.port = y := by
  unfold addBad at h
  have h1 : iP l c < 0 := by
    simp at h
    omega
  intro y hy
  simpa using idxF_neg h1 y hy
theorem change_way {l : CL} {n : Nat} {c : SChange} {rl : List SRule} (h : l.Way n) (hc : c.meter.name.size ≤ 9223372036854775807 ∧ c.mirror.name.size ≤ 9223372036854775807) (hr : rl.length * 152 ≤ 140737488355328) (hrn : ∀ x ∈ rl, x.name.size ≤ 9223372036854775807) : (changeL l c rl).Way (n + 1) := by
  obtain ⟨h1, h2, h3, h4, h5, h6, h7, h8, h9⟩ := h
  unfold changeL
  split
  · split
    · exact ⟨h1, by omega, by omega, h4, by omega, by omega, h7, h8, h9⟩
    · rename_i hb
      exact ⟨low_ins h1 (addOk hb), by have := insL_len l.ps (lowB l.ps c.port) c.port; show (insL _ _ _).length ≤ _; omega, (by dsimp only; omega), h4, (by dsimp only; omega), (by dsimp only; omega), h7, h8, h9⟩
  split
  · exact ⟨h1.sublist (cutI_sub _ _), by have := (cutI_sub l.ps (iP l c)).length_le; show (cutI _ _).length ≤ _; omega, (by dsimp only; omega), h4, (by dsimp only; omega), (by dsimp only; omega), h7, h8, h9⟩
  split
  · exact ⟨h1, (by dsimp only; omega), by have := setL_len l.rs (iR l c) c.route; show (setL _ _ _).length ≤ _; omega, h4, (by dsimp only; omega), (by dsimp only; omega), h7, h8, h9⟩
  split
  · exact ⟨h1, (by dsimp only; omega), by have := (cutI_sub l.rs (iR l c)).length_le; show (cutI _ _).length ≤ _; omega, h4, (by dsimp only; omega), (by dsimp only; omega), h7, h8, h9⟩
  split
  · exact ⟨h1, (by dsimp only; omega), (by dsimp only; omega), h4, by have := setL_len l.ms (iM l c) c.meter; show (setL _ _ _).length ≤ _; omega, (by dsimp only; omega), h7, fun x hx => (setL_mem hx).elim (h8 x) (fun e => e ▸ hc.1), h9⟩
  split
  · exact ⟨h1, (by dsimp only; omega), (by dsimp only; omega), h4, by have := (cutI_sub l.ms (iM l c)).length_le; show (cutI _ _).length ≤ _; omega, (by dsimp only; omega), h7, fun x hx => h8 x ((cutI_sub _ _).subset hx), h9⟩
  split
  · exact ⟨h1, (by dsimp only; omega), (by dsimp only; omega), h4, (by dsimp only; omega), by have := setL_len l.xs (iX l c) c.mirror; show (setL _ _ _).length ≤ _; omega, h7, h8, fun x hx => (setL_mem hx).elim (h9 x) (fun e => e ▸ hc.2)⟩
  split
  · exact ⟨h1, (by dsimp only; omega), (by dsimp only; omega), h4, (by dsimp only; omega), by have := (cutI_sub l.xs (iX l c)).length_le; show (cutI _ _).length ≤ _; omega, h7, h8, fun x hx => h9 x ((cutI_sub _ _).subset hx)⟩
  split
  · exact ⟨h1, (by dsimp only; omega), (by dsimp only; omega), hr, (by dsimp only; omega), (by dsimp only; omega), hrn, h8, h9⟩
  · exact ⟨h1, by omega, by omega, h4, by omega, by omega, h7, h8, h9⟩
theorem faultsUp_nil {e : Nat → Int} {d : Int} : ∀ {n : Nat}, faultsUp e d n = [] → ∀ i, i < n → e i = 0
  | 0, _, i, hi => absurd hi (Nat.not_lt_zero _)
  | n + 1, h, i, hi => by
    unfold faultsUp at h
    obtain ⟨h1, h2⟩ := List.append_eq_nil_iff.1 h
    by_cases hin : i < n
    · exact faultsUp_nil h1 i hin
    · obtain rfl : i = n := by omega
      by_cases he : e i = 0
      · exact he
      · rw [if_neg he] at h2
        cases h2
theorem listG_ok {e : Nat → Int} {d : Int} {n most : Nat} (h : listG e d n most = []) : ∀ i, i < n → e i = 0 := by
  have hm := listG_nil h
  unfold listG at h
  rw [Nat.min_eq_left hm] at h
  exact faultsUp_nil (List.append_eq_nil_iff.1 h).1
/-- Nothing is wrong with it. -/
structure CL.Good (l : CL) (d : Int) : Prop where
  ps : ∀ i, i < l.ps.length → portE l.ps (l.ps.getD i iE.zero) i = 0
  rs : ∀ i, i < l.rs.length → routeE l (l.rs.getD i eRoute.zero) i = 0
  us : ∀ i, i < l.us.length → ruleE l (l.us.getD i eRule.zero) i = 0
  ms : ∀ i, i < l.ms.length → meterE l (l.ms.getD i eMeterConf.zero) i = 0
  xs : ∀ i, i < l.xs.length → mirrorE l (l.xs.getD i eMirrorConf.zero) i = 0
  d : defBad d = false
theorem may_good {l : CL} {d : Int} (h : mayB l d = true) : l.Good d := by
  unfold mayB checkF thingsF at h
  have h0 := List.append_eq_nil_iff.1 (of_decide_eq_true h)
  have e5 := List.append_eq_nil_iff.1 h0.1
  have e4 := List.append_eq_nil_iff.1 e5.1
  have e3 := List.append_eq_nil_iff.1 e4.1
  have e2 := List.append_eq_nil_iff.1 e3.1
  have e1 := List.append_eq_nil_iff.1 e2.1
  refine ⟨listG_ok e1.2, listG_ok e2.2, listG_ok e3.2, listG_ok e4.2, listG_ok e5.2, ?_⟩
  cases hd : defBad d with
  | false => rfl
  | true => rw [hd, if_pos rfl] at h0; exact absurd h0.2 (by simp)
theorem ports_up {ps : List Int} (h : ∀ i, i < ps.length → portE ps (ps.getD i iE.zero) i = 0) : ps.Pairwise (· < ·) := by
  have hz : ∀ i, i + 1 < ps.length → ps.getD i 0 < ps.getD (i + 1) 0 := fun i hi => by
    have h1 := h (i + 1) hi
    unfold portE at h1
    split at h1
    · cases h1
    · split at h1
      · cases h1
      · rename_i h2
        have e : (((i + 1 : Nat) : Int) - 1).toNat = i := by omega
        rw [e] at h2
        have e2 : (iE.zero : Int) = 0 := rfl
        rw [e2] at h2
        omega
  have hall : ∀ d i : Nat, i + 1 + d < ps.length → ps.getD i 0 < ps.getD (i + 1 + d) 0 := by
    intro d
    induction d with
    | zero => exact fun i hi => hz i hi
    | succ d ih =>
      intro i hi
      have h1 := ih i (by omega)
      have h2 := hz (i + 1 + d) (by omega)
      have e : i + 1 + (d + 1) = i + 1 + d + 1 := by omega
      rw [e]
      omega
  rw [List.pairwise_iff_getElem]
  intro i j hi hj hij
  have := hall (j - i - 1) i (by omega)
  have e : i + 1 + (j - i - 1) = j := by omega
  rw [e] at this
  simpa [List.getD, hi, hj] using this
theorem may_way {l : CL} {d : Int} (h : mayB l d = true) (hn : l.Names) : l.Way 0 := by
  obtain ⟨h1, h2, h3, h4, h5⟩ := may_lens h
  exact ⟨ports_up (may_good h).ps, by omega, by omega, by omega, by omega, by omega, hn⟩
/-- Changes that came in. -/
structure ChsAt (w : World) (cs : List SChange) (rls : List (List SRule)) : Prop where
  sl : ∀ i, i < cs.length → IsSl eRule w (cs.getD i eChange.zero).rules.v (rls.getD i [])
structure ChsOK (cs : List SChange) (rls : List (List SRule)) : Prop where
  n : cs.length ≤ 1000000
  nm : ∀ i, i < cs.length → (cs.getD i eChange.zero).meter.name.size ≤ 9223372036854775807 ∧ (cs.getD i eChange.zero).mirror.name.size ≤ 9223372036854775807
  len : ∀ i, i < cs.length → (rls.getD i []).length * 152 ≤ 140737488355328
  rn : ∀ i, i < cs.length → ∀ x ∈ rls.getD i [], x.name.size ≤ 9223372036854775807
theorem ChsAt.keep0 {w w' : World} {cs : List SChange} {rls : List (List SRule)} (h : ChsAt w cs rls) (k : Keeps Nope w w') : ChsAt w' cs rls := ⟨fun i hi => (h.sl i hi).keep0 k⟩
theorem goN_step {s t : CD} {cs : List SChange} {rls : List (List SRule)} {i : Int} (hi : 0 ≤ i) (h : goN s cs rls i.toNat = some t) (hb : changeB t.l (cs.getD i.toNat eChange.zero) = true) : goN s cs rls (i + 1).toNat = some ⟨changeL t.l (cs.getD i.toNat eChange.zero) (rls.getD i.toNat []), changeD t.d (cs.getD i.toNat eChange.zero)⟩ := by
  have e : (i + 1).toNat = i.toNat + 1 := by omega
  rw [e, goN, h]
  simp only [hb, if_true]
theorem goN_stop {s t : CD} {cs : List SChange} {rls : List (List SRule)} {i : Int} (hi : 0 ≤ i ∧ i < cs.length) (h : goN s cs rls i.toNat = some t) (hb : changeB t.l (cs.getD i.toNat eChange.zero) = false) : goN s cs rls cs.length = none := by
  refine goN_none (n := i.toNat + 1) ?_ _ (by omega)
  rw [goN, h]
  simp only [hb, Bool.false_eq_true, if_false]
theorem applyC_bad {s : CD} {cs : List SChange} {rls : List (List SRule)} (h : mayB s.l s.d = false) : applyC s cs rls = (210, ⟨⟨[], [], [], [], []⟩, 0⟩) := by
  unfold applyC
  rw [h]
  rfl
theorem applyC_stop {s : CD} {cs : List SChange} {rls : List (List SRule)} (h : mayB s.l s.d = true) (hg : goN s cs rls cs.length = none) : applyC s cs rls = (211, ⟨⟨[], [], [], [], []⟩, 0⟩) := by
  unfold applyC
  rw [h, hg]
  rfl
theorem applyC_no {s t : CD} {cs : List SChange} {rls : List (List SRule)} (h : mayB s.l s.d = true) (hg : goN s cs rls cs.length = some t) (h2 : mayB t.l t.d = false) : applyC s cs rls = (210, ⟨⟨[], [], [], [], []⟩, 0⟩) := by
  unfold applyC
  rw [h, hg]
  simp only [h2, if_true]
  rfl
theorem applyC_ok {s t : CD} {cs : List SChange} {rls : List (List SRule)} (h : mayB s.l s.d = true) (hg : goN s cs rls cs.length = some t) (h2 : mayB t.l t.d = true) : applyC s cs rls = (0, t) := by
  unfold applyC
  rw [h, hg]
  simp only [h2, if_true]
def nilCB : CB := ⟨nilSl, nilSl, nilSl, nilSl, nilSl⟩
theorem confAt_own {K : Ctx} {L : List Res} {x : CB} {l : CL} {d : Int} (hs : ∀ r ∈ x.R l, r ∈ L) (w : World) (I : WInv K L w) : ConfAt w (x.c d) l :=
  ⟨isSl_own (hs (OwnS x.o1.v iE l.ps 3) (by simp [CB.R])) w I, isSl_own (hs (OwnS x.o2.v eRoute l.rs 52) (by simp [CB.R])) w I, isSl_own (hs (OwnS x.o3.v eRule l.us 76) (by simp [CB.R])) w I, isSl_own (hs (OwnS x.o4.v eMeterConf l.ms 57) (by simp [CB.R])) w I, isSl_own (hs (OwnS x.o5.v eMirrorConf l.xs 59) (by simp [CB.R])) w I⟩

theorem en16 : Gx.Enters Tryz.prog 16 := Gx.Enters.mk' (by kernel_rfl)

theorem en92 : Gx.Enters Tryz.prog 92 := Gx.Enters.mk' (by kernel_rfl)

theorem apply_ok (c : SConf) (l : CL) (u : Value) (cs : List SChange) (rls : List (List SRule)) (w : World) (hc : ConfAt w c l) (hn : l.Names) (hz : l.n ≤ 4611686018427387904) (hu : IsSl eChange w u cs) (hcs : ChsAt w cs rls) (hok : ChsOK cs rls) : Calls Tryz.prog 27 #[eConf.val c, u] w (RetN w (fun _ : CB => True) (fun x => .tuple #[eConf.val (x.c (applyC ⟨l, c.default⟩ cs rls).2.d), I (applyC ⟨l, c.default⟩ cs rls).1]) (fun x => x.R (applyC ⟨l, c.default⟩ cs rls).2.l)) := by
  have hle := hu.le
  refine enter0 31 Tryz.func27 rfl rfl (Nat.le_of_ble_eq_true rfl) ?_
  refine seq (region (cons (box (E := eConf) (.t rfl) (fun b1 => ?_))))
  refine cons (alloc z28 (fun b2 => ?_))
  refine cons (opv (Ev.assign (.c (v := I 0) rfl)) ?_)
  refine nil (pN (seq (seq (region (cons (opv (Ev.load (xv := c) ty28 (.t rfl) (ptsVar (by repeat first | exact mH | apply mT | apply mA) (Lens.id _))) ?_))))))
  refine cons (callv en15 (.cons (.t rfl) .nil) (fun w I => may_ok c l w (hc.keep0 I.keeps) hn hz) ?_)
  refine cons (opv (Ev.not (.t rfl)) ?_)
  refine nil (pN ?_)
  first | refine condD rfl (fun h0 => ?_) (fun h0 => ?_) | refine cond rfl (fun h0 => ?_) (fun h0 => ?_)
  · have hmay : mayB l c.default = false := by simpa using h0
    refine seq (takeNil iE 3 ?_)
    refine takeNil eRoute 52 ?_
    refine takeNil eRule 76 ?_
    refine takeNil eMeterConf 57 ?_
    refine takeNil eMirrorConf 59 ?_
    refine region (cons (opv (Ev.buildS (fs := _) (places := [(0, 1), (1, 1), (2, 1), (3, 1), (4, 1), (5, 1)]) z28 rfl Tryz.underlying28 (by kernel_rfl) .nil Fills.nil) ?_))
    refine cons (stv ty28 (Lens.id _) (.t rfl) (.t rfl) ?_)
    refine cons (opv (Ev.assign (.c (v := I 210) rfl)) ?_)
    refine nil (pN (ret (pR (done rfl (.cell rfl (fun w I => run_loadVar_pts ty28 (ptsVar (by repeat first | exact mH | apply mT | apply mA) (Lens.id _) w I)) (.tmp rfl .nil)) (fun w I => ?_)))))
    refine retNP nilCB trivial ?_ ?_ w I
    · rw [(applyC_bad (s := ⟨l, c.default⟩) hmay)]; rfl
    · rw [(applyC_bad (s := ⟨l, c.default⟩) hmay)]; exact (by repeat first | exact SubP.nil | refine SubP.cons (by repeat first | exact Rem.head | apply Rem.tail) ?_)
  · have hmay : mayB l c.default = true := by simpa using h0
    have hlens := may_lens hmay
    have hsm : l.Small := ⟨by omega, by omega, by omega, by omega, by omega⟩
    have hway0 := may_way hmay hn
    refine skip (pN (seq (region (cons (opv (Ev.load (xv := c) ty28 (.t rfl) (ptsVar (by repeat first | exact mH | apply mT | apply mA) (Lens.id _))) ?_)))))
    refine cons (calln (X := CB) (fun _ => True) (fun x => eConf.val (x.c c.default)) (fun x => x.R l) en16 (.cons (.t rfl) .nil) (fun w I => copy_ok c l w (hc.keep0 I.keeps) hsm) (fun x0 _ => ?_))
    refine cons (alloc z28 (fun b3 => ?_))
    refine cons (stv ty28 (Lens.id _) (.t rfl) (.t rfl) ?_)
    refine nil (pN (seq (seq (sepsIn (r := Var b3 eConf (x0.c c.default) 28) (l := [OwnS x0.o1.v iE l.ps 3, OwnS x0.o2.v eRoute l.rs 52, OwnS x0.o3.v eRule l.us 76, OwnS x0.o4.v eMeterConf l.ms 57, OwnS x0.o5.v eMirrorConf l.xs 59]) (M := [Var b2 eConf eConf.zero 28, Var b1 eConf c 28]) (by repeat first | exact SubP.nil | refine SubP.cons (by repeat first | exact Rem.head | apply Rem.tail) ?_) ?_))))
    refine region (cons (opv (Ev.move (.t rfl)) (cons (opv (Ev.len Tryz.underlying41 (.t rfl) (by first | exact isSl_own (by repeat first | exact mH | apply mT | apply mA) | exact fun w I => IsSl.keep0 (by assumption) I.keeps)) ?_))))
    refine cons (opv (Ev.move (.c (v := I 0) rfl)) ?_)
    refine nil (pN (block (loop (X := Int × CB × CD) (fun x : Int × CB × CD => (0 ≤ x.1 ∧ x.1 ≤ cs.length) ∧ (goN ⟨l, c.default⟩ cs rls x.1.toNat = some x.2.2) ∧ (x.2.2.l.Way x.1.toNat)) (fun x : Int × CB × CD => [(2, true, .pointer (some ⟨b1, 0, none⟩)), (4, true, .pointer (some ⟨b2, 0, none⟩)), (6, true, .pointer (some ⟨b3, 0, none⟩)), (15, true, u), (16, true, I cs.length), (17, true, I x.1)]) (fun x : Int × CB × CD => [CR b3 x.2.1 x.2.2.l x.2.2.d, Var b2 eConf eConf.zero 28, Var b1 eConf c 28]) (fun x : Int × CB × CD => ((cs.length : Int) - x.1).toNat) (0, x0, ⟨l, c.default⟩) ⟨?_, ?_, ?_⟩ (by repeat first | exact Sub.nil | refine Sub.cons rfl ?_) (by repeat first | exact sR | exact sN | apply sC | apply sS | apply sA) (fun x hx => ?_))))
    · omega
    · rfl
    · exact hway0
    obtain ⟨i, y, t⟩ := x
    obtain ⟨hi, hgo, hway⟩ : (0 ≤ i ∧ i ≤ cs.length) ∧ (goN ⟨l, c.default⟩ cs rls i.toNat = some t) ∧ (t.l.Way i.toNat) := hx
    show Sat _ _ [(2, true, .pointer (some ⟨b1, 0, none⟩)), (4, true, .pointer (some ⟨b2, 0, none⟩)), (6, true, .pointer (some ⟨b3, 0, none⟩)), (15, true, u), (16, true, I cs.length), (17, true, I i)] [CR b3 y t.l t.d, Var b2 eConf eConf.zero 28, Var b1 eConf c 28]
    have hcn := hok.n
    refine seq (region (cons (opv (Ev.lss_i (.t rfl) (.t rfl)) ?_)))
    refine nil (pN (seq ?_))
    first | refine condD rfl (fun h1 => ?_) (fun h1 => ?_) | refine cond rfl (fun h1 => ?_) (fun h1 => ?_)
    · try simp only [nb] at h1
      refine skip (pN (seq (block (seq (region (cons (opv (Ev.indexAddr Tryz.underlying41 ty61 (.t rfl) (.t rfl) (fun w I => hu.keep0 I.keeps) (fun _ => by omega)) ?_)))))))
      refine cons (opv (Ev.loadS0 ty61 (.t rfl) (fun w I => hu.keep0 I.keeps) (fun _ => by omega)) ?_)
      refine cons (alloc z61 (fun b4 => ?_))
      refine cons (stv ty61 (Lens.id _) (.t rfl) (.t rfl) ?_)
      refine nil (pN (seq (region (cons (opv (Ev.ldv ty61 (.t rfl) (Lens.id _)) ?_)))))
      refine cons (callr (X := CB) (r := CR b3 y t.l t.d) (r' := fun x2 => CR b3 x2 (changeL t.l (cs.getD i.toNat eChange.zero) (rls.getD i.toNat [])) (changeD t.d (cs.getD i.toNat eChange.zero))) (fun _ => True) (fun _ => .bool (changeB t.l (cs.getD i.toNat eChange.zero))) (fun _ => by repeat first | exact Upd.head | apply Upd.tail | apply Upd.right) (by repeat first | exact mH | apply mT | apply mA) en92 (.cons (.t rfl) (.cons (.t rfl) .nil)) (fun w I => change_ok b3 y t.l t.d (cs.getD i.toNat eChange.zero) (rls.getD i.toNat []) w (at_mem (by repeat first | exact mH | apply mT | apply mA) w I) (fun w1 k1 => (hcs.sl i.toNat (by omega)).keep0 (I.but (by repeat first | exact Rem.head | apply Rem.tail) k1).keeps) hway.up ⟨by have := hway.ps; omega, by have := hway.rs; omega, by have := hway.ms; omega, by have := hway.xs; omega⟩ (hok.len i.toNat (by omega))) (fun x2 _ => ?_))
      refine cons (opv (Ev.not (.t rfl)) ?_)
      refine nil (pN ?_)
      first | refine condD rfl (fun h2 => ?_) (fun h2 => ?_) | refine cond rfl (fun h2 => ?_) (fun h2 => ?_)
      · have hcb : changeB t.l (cs.getD i.toNat eChange.zero) = false := by simpa using h2
        have hstop := goN_stop (by omega) hgo hcb
        refine seq (takeNil iE 3 ?_)
        refine takeNil eRoute 52 ?_
        refine takeNil eRule 76 ?_
        refine takeNil eMeterConf 57 ?_
        refine takeNil eMirrorConf 59 ?_
        refine region (cons (opv (Ev.buildS (fs := _) (places := [(0, 1), (1, 1), (2, 1), (3, 1), (4, 1), (5, 1)]) z28 rfl Tryz.underlying28 (by kernel_rfl) .nil Fills.nil) ?_))
        refine cons (stv ty28 (Lens.id _) (.t rfl) (.t rfl) ?_)
        refine cons (opv (Ev.assign (.c (v := I 211) rfl)) ?_)
        refine nil (pN (ret (bR (pR (pR (bR (pR (done rfl (.cell rfl (fun w I => run_loadVar_pts ty28 (ptsVar (by repeat first | exact mH | apply mT | apply mA) (Lens.id _) w I)) (.tmp rfl .nil)) (fun w I => ?_)))))))))
        refine retNP nilCB trivial ?_ ?_ w I
        · rw [(applyC_stop (s := ⟨l, c.default⟩) hmay hstop)]; rfl
        · rw [(applyC_stop (s := ⟨l, c.default⟩) hmay hstop)]; exact (by repeat first | exact SubP.nil | refine SubP.cons (by repeat first | exact Rem.head | apply Rem.tail) ?_)
      · have hcb : changeB t.l (cs.getD i.toNat eChange.zero) = true := by simpa using h2
        have hst := goN_step hi.1 hgo hcb
        refine skip (bN (pN (region (cons (opv (Ev.add_i (.t rfl) (.c (v := I 1) rfl) (fun _ => by omega)) ?_)))))
        refine cons (opv (Ev.move (.t rfl)) (nil (pN (next (X := Int × CB × CD) (i + 1, _, ⟨_, _⟩) ⟨?_, ?_, ?_⟩ ?_ (by repeat first | exact Sub.nil | refine Sub.cons rfl ?_) (by repeat first | exact sR | exact sN | apply sC | apply sS | apply sA)))))
        · try dsimp only
          omega
        · try dsimp only
          exact hst
        · try dsimp only
          have e : (i + 1).toNat = i.toNat + 1 := by omega
          rw [e]
          exact change_way hway (hok.nm i.toNat (by omega)) (hok.len i.toNat (by omega)) (hok.rn i.toNat (by omega))
        · try dsimp only
          omega
    · try simp only [nb] at h1
      refine exit (pX (pX (bX (pN (seq (seq ?_))))))
      have hgoc : goN ⟨l, c.default⟩ cs rls cs.length = some t := by
        have e : i.toNat = cs.length := by omega
        rw [← e]; exact hgo
      refine sepsOut (by repeat first | exact Rem.head | apply Rem.tail) ?_
      refine region (cons (opv (Ev.ldv ty28 (.t rfl) (Lens.id _)) ?_))
      refine cons (callv en15 (.cons (.t rfl) .nil) (fun w I => may_ok (y.c t.d) t.l w (confAt_own (x := y) (l := t.l) (fun r hr => by simp only [CB.R, List.mem_cons, List.not_mem_nil, or_false] at hr; rcases hr with rfl | rfl | rfl | rfl | rfl <;> repeat first | exact mH | apply mT | apply mA) w I) hway.nm (by have := hway.ps; have := hway.rs; have := hway.us; have := hway.ms; have := hway.xs; unfold CL.n; omega)) ?_)
      refine cons (opv (Ev.not (.t rfl)) ?_)
      refine nil (pN ?_)
      first | refine condD rfl (fun h3 => ?_) (fun h3 => ?_) | refine cond rfl (fun h3 => ?_) (fun h3 => ?_)
      · have hm2 : mayB t.l t.d = false := by simpa [CB.c] using h3
        refine seq (takeNil iE 3 ?_)
        refine takeNil eRoute 52 ?_
        refine takeNil eRule 76 ?_
        refine takeNil eMeterConf 57 ?_
        refine takeNil eMirrorConf 59 ?_
        refine region (cons (opv (Ev.buildS (fs := _) (places := [(0, 1), (1, 1), (2, 1), (3, 1), (4, 1), (5, 1)]) z28 rfl Tryz.underlying28 (by kernel_rfl) .nil Fills.nil) ?_))
        refine cons (stv ty28 (Lens.id _) (.t rfl) (.t rfl) ?_)
        refine cons (opv (Ev.assign (.c (v := I 210) rfl)) ?_)
        refine nil (pN (ret (pR (done rfl (.cell rfl (fun w I => run_loadVar_pts ty28 (ptsVar (by repeat first | exact mH | apply mT | apply mA) (Lens.id _) w I)) (.tmp rfl .nil)) (fun w I => ?_)))))
        refine retNP nilCB trivial ?_ ?_ w I
        · rw [(applyC_no (s := ⟨l, c.default⟩) hmay hgoc hm2)]; rfl
        · rw [(applyC_no (s := ⟨l, c.default⟩) hmay hgoc hm2)]; exact (by repeat first | exact SubP.nil | refine SubP.cons (by repeat first | exact Rem.head | apply Rem.tail) ?_)
      · have hm2 : mayB t.l t.d = true := by simpa [CB.c] using h3
        refine skip (pN (seq (region (cons (opv (Ev.ldv ty28 (.t rfl) (Lens.id _)) ?_)))))
        refine cons (stv ty28 (Lens.id _) (.t rfl) (.t rfl) ?_)
        refine cons (opv (Ev.assign (.c (v := I 0) rfl)) ?_)
        refine nil (pN (ret (done rfl (.cell rfl (fun w I => run_loadVar_pts ty28 (ptsVar (by repeat first | exact mH | apply mT | apply mA) (Lens.id _) w I)) (.tmp rfl .nil)) (fun w I => ?_))))
        refine retNP y trivial ?_ ?_ w I
        · rw [applyC_ok (s := ⟨l, c.default⟩) hmay hgoc hm2]; rfl
        · rw [applyC_ok (s := ⟨l, c.default⟩) hmay hgoc hm2]; exact (by repeat first | exact SubP.nil | refine SubP.cons (by repeat first | exact Rem.head | apply Rem.tail) ?_)
end Go.Proofs.YtnoobdijbpmjkaaGreat
