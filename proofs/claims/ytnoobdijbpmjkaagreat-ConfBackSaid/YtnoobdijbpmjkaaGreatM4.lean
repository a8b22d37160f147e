/- Part of the texts. -/
import Derived.Test.YtnoobdijbpmjkaaGreatM3
set_option linter.unusedVariables false
set_option linter.unusedSimpArgs false
/- conf -/
namespace Go.Proofs.YtnoobdijbpmjkaaGreat
open Go Go.Gx

theorem diffs_no9 {l k : CL} (h : l.us = k.us) (da db : Int) (rv : OV) : (diffs l k da db rv).countP is9 = 0 := by
  unfold diffs
  simp only [List.countP_append, List.countP_nil]
  rw [gone_9 (fun x => chPort_k 1 (by decide) x), gone_9 (fun x => chMeter_k 5 (by decide) x), gone_9 (fun x => chMirror_k 7 (by decide) x), gone_9 (fun x => chRoute_k 3 (by decide) x), gone_9 (fun x => chRoute_k 4 (by decide) (onlyR x)), gone_9 (fun x => chMeter_k 6 (by decide) (onlyM x)), gone_9 (fun x => chMirror_k 8 (by decide) (onlyX x)), gone_9 (fun x => chPort_k 2 (by decide) x)]
  have h1 : (if l.us = k.us then [] else [chRules rv]).countP is9 = 0 := by
    rw [if_pos h]
    rfl
  have h2 : (if da = db then [] else [chDefault db]).countP is9 = 0 := by
    split
    · rfl
    · rfl
  omega
theorem diffL_yes {l k : CL} {da db : Int} (hb : bothB l k da db = true) (rv : OV) : diffL l k da db rv = diffs l k da db rv := by
  unfold diffL
  rw [if_pos hb]
theorem diffL_at {w : World} {l k : CL} {da db : Int} {rv : OV} (hb : bothB l k da db = true) (h : IsSl eRule w rv.v (diffR l k da db)) : ChsAt w (diffL l k da db rv) (rlC (diffL l k da db rv) k.us) := by
  rw [diffL_yes hb]
  by_cases hu : l.us = k.us
  · refine ⟨fun i hi => ?_⟩
    have hm := getD_in (diffs l k da db rv) i eChange.zero hi
    have h9 : ¬ ((diffs l k da db rv).getD i eChange.zero).kind = 9 := fun e => List.countP_eq_zero.1 (diffs_no9 hu da db rv) _ hm (decide_eq_true e)
    rw [rlC_get _ _ _ hi, if_neg h9]
    rcases diffs_k l k da db rv _ hm with ⟨h1, _⟩ | ⟨_, h2⟩
    · exact absurd h1 h9
    · rw [h2]; exact IsSl.nil _ w
  · have e : diffR l k da db = k.us := by
      unfold diffR
      rw [if_pos hb, if_neg hu]
    rw [e] at h
    exact chs_diff (diffs_k l k da db rv) h
def NmOK (c : SChange) : Prop := c.meter.name.size ≤ 9223372036854775807 ∧ c.mirror.name.size ≤ 9223372036854775807
theorem gone_nm {α κ : Type} {q : κ → κ → Bool} {f : α → κ} {m : List (κ × Int)} {mk : α → SChange} {l : List α} (h : ∀ x ∈ l, NmOK (mk x)) : ∀ c ∈ goneL q f m mk l, NmOK c := by
  intro c hc
  unfold goneL at hc
  obtain ⟨x, hx, rfl⟩ := List.mem_map.1 hc
  exact h x (List.mem_filter.1 hx).1
theorem nm_port (k x : Int) : NmOK (chPort k x) := ⟨Nat.zero_le _, Nat.zero_le _⟩
theorem nm_route (k : Int) (x : SRoute) : NmOK (chRoute k x) := ⟨Nat.zero_le _, Nat.zero_le _⟩
theorem nm_meter (k : Int) {x : SMeterConf} (h : x.name.size ≤ 9223372036854775807) : NmOK (chMeter k x) := ⟨h, Nat.zero_le _⟩
theorem nm_mirror (k : Int) {x : SMirrorConf} (h : x.name.size ≤ 9223372036854775807) : NmOK (chMirror k x) := ⟨Nat.zero_le _, h⟩
theorem diffs_nm {l k : CL} (hl : l.Names) (hk : k.Names) (da db : Int) (rv : OV) : ∀ c ∈ diffs l k da db rv, NmOK c := by
  intro c hc
  unfold diffs at hc
  simp only [List.mem_append, List.not_mem_nil, false_or] at hc
  rcases hc with ((((((((hc | hc) | hc) | hc) | hc) | hc) | hc) | hc) | hc) | hc
  · exact gone_nm (fun x _ => nm_port 1 x) c hc
  · exact gone_nm (fun x hx => nm_meter 5 (hk.ms x hx)) c hc
  · exact gone_nm (fun x hx => nm_mirror 7 (hk.xs x hx)) c hc
  · exact gone_nm (fun x _ => nm_route 3 x) c hc
  · split at hc
    · cases hc
    · rw [List.mem_singleton.1 hc]; exact ⟨Nat.zero_le _, Nat.zero_le _⟩
  · split at hc
    · cases hc
    · rw [List.mem_singleton.1 hc]; exact ⟨Nat.zero_le _, Nat.zero_le _⟩
  · exact gone_nm (fun x _ => nm_route 4 (onlyR x)) c hc
  · exact gone_nm (fun x hx => nm_meter 6 (x := onlyM x) (hl.ms x hx)) c hc
  · exact gone_nm (fun x hx => nm_mirror 8 (x := onlyX x) (hl.xs x hx)) c hc
  · exact gone_nm (fun x _ => nm_port 2 x) c hc
theorem diffs_len (l k : CL) (da db : Int) (rv : OV) : (diffs l k da db rv).length ≤ l.ps.length + k.ps.length + l.rs.length + k.rs.length + l.ms.length + k.ms.length + l.xs.length + k.xs.length + 2 := by
  unfold diffs
  simp only [List.length_append, List.length_nil]
  have g1 := goneL_len eqd (fun a => a) (portsM l) (fun x => chPort 1 x) k.ps
  have g2 := goneL_len SMeterConf.eqb (fun a => a) (firstN SMeterConf.eqb (fun a => a) l.ms l.ms.length) (fun x => chMeter 5 x) k.ms
  have g3 := goneL_len SMirrorConf.eqb (fun a => a) (firstN SMirrorConf.eqb (fun a => a) l.xs l.xs.length) (fun x => chMirror 7 x) k.xs
  have g4 := goneL_len SRoute.eqb (fun a => a) (firstN SRoute.eqb (fun a => a) l.rs l.rs.length) (fun x => chRoute 3 x) k.rs
  have g5 := ite_len (p := l.us = k.us) (chRules rv)
  have g6 := ite_len (p := da = db) (chDefault db)
  have g7 := goneL_len SPrefix.eqb (fun a : SRoute => a.to_) (routesM k) (fun x => chRoute 4 (onlyR x)) l.rs
  have g8 := goneL_len eqs (fun a : SMeterConf => a.name) (metersM k) (fun x => chMeter 6 (onlyM x)) l.ms
  have g9 := goneL_len eqs (fun a : SMirrorConf => a.name) (mirrorsM k) (fun x => chMirror 8 (onlyX x)) l.xs
  have g10 := goneL_len eqd (fun a => a) (portsM k) (fun x => chPort 2 x) l.ps
  omega
theorem diffL_ok {l k : CL} {da db : Int} (hb : bothB l k da db = true) (hl : l.Names) (hk : k.Names) (rv : OV) : ChsOK (diffL l k da db rv) (rlC (diffL l k da db rv) k.us) := by
  rw [diffL_yes hb]
  have h1 := may_lens (Bool.and_eq_true_iff.1 hb).1
  have h2 := may_lens (Bool.and_eq_true_iff.1 hb).2
  have hlen := diffs_len l k da db rv
  refine ⟨by omega, fun i hi => diffs_nm hl hk da db rv _ (getD_in _ _ _ hi), fun i hi => ?_, fun i hi x hx => ?_⟩
  · rw [rlC_get _ _ _ hi]
    split
    · omega
    · simp
  · rw [rlC_get _ _ _ hi] at hx
    split at hx
    · exact hk.us x hx
    · cases hx
theorem bothB_symm {l k : CL} {da db : Int} (h : bothB l k da db = true) : bothB k l db da = true := by
  unfold bothB at h ⊢
  rw [Bool.and_comm]
  exact h
theorem sameB_symm (l k : CL) (da db : Int) : sameB l k da db = sameB k l db da := by
  rw [Bool.eq_iff_iff, sameB_perm, sameB_perm]
  constructor
  · rintro ⟨h1, h2, h3, h4, h5, h6⟩
    exact ⟨h1.symm, h2.symm, h3.symm, h4.symm, h5.symm, h6.symm⟩
  · rintro ⟨h1, h2, h3, h4, h5, h6⟩
    exact ⟨h1.symm, h2.symm, h3.symm, h4.symm, h5.symm, h6.symm⟩
theorem names_same {l k : CL} {da db : Int} (h : sameB l k da db = true) (hk : k.Names) : l.Names := by
  obtain ⟨_, _, h3, _, h5, h6⟩ := (sameB_perm l k da db).1 h
  exact ⟨by rw [h3]; exact hk.us, fun x hx => hk.ms x (h5.mem_iff.1 hx), fun x hx => hk.xs x (h6.mem_iff.1 hx)⟩
theorem may_small {l : CL} {d : Int} (h : mayB l d = true) : l.Small := by
  obtain ⟨h1, h2, h3, h4, h5⟩ := may_lens h
  exact ⟨by omega, by omega, by omega, by omega, by omega⟩
/-- There, as Apply tells it. -/
theorem back_apply {l k s : CL} {da db : Int} (hb : bothB l k da db = true) (hsl : sameB s l da da = true) (hs : mayB s da = true) (rv : OV) :
    ∃ t : CL, applyC ⟨s, da⟩ (diffL l k da db rv) (rlC (diffL l k da db rv) k.us) = (0, ⟨t, db⟩) ∧ sameB t k db db = true ∧ mayB t db = true := by
  obtain ⟨h1, h2⟩ := Bool.and_eq_true_iff.1 hb
  obtain ⟨t, t1, t2, t3⟩ := there rv h1 h2 hsl hs
  rw [diffL_yes hb]
  exact ⟨t, applyC_ok (s := ⟨s, da⟩) hs t1 t3, t2, t3⟩
theorem diffE_yes {l k : CL} {da db : Int} (hb : bothB l k da db = true) : diffE l k da db = 0 := by
  unfold diffE
  rw [if_pos hb]
theorem diffL_none {l k : CL} {da db : Int} (hb : bothB l k da db = true) (rv : OV) : decide (((diffL l k da db rv).length : Int) = 0) = sameB l k da db := by
  obtain ⟨h1, h2⟩ := Bool.and_eq_true_iff.1 hb
  rw [diffL_yes hb, Bool.eq_iff_iff, decide_eq_true_iff, ← diffs_none rv h1 h2, ← List.length_eq_zero_iff]
  omega

theorem apply_e (c : SConf) (l t : CL) (d : Int) (u : Value) (cs : List SChange) (rls : List (List SRule)) (w : World) (hc : ConfAt w c l) (hn : l.Names) (hz : l.n ≤ 4611686018427387904) (hu : IsSl eChange w u cs) (hcs : ChsAt w cs rls) (hok : ChsOK cs rls) (he : applyC ⟨l, c.default⟩ cs rls = (0, ⟨t, d⟩)) : Calls Tryz.prog 27 #[eConf.val c, u] w (RetN w (fun _ : CB => True) (fun x => .tuple #[eConf.val (x.c d), I 0]) (fun x => x.R t)) := by
  have h := apply_ok c l u cs rls w hc hn hz hu hcs hok
  rw [he] at h
  exact h

theorem ConfBack_walk (a b : SConf) (l k : CL) (w : World) (ha : ConfAt w a l) (hb : ConfAt w b k) (hna : l.Names) (hnb : k.Names) (hza : l.n ≤ 4611686018427387904) (hzb : k.n ≤ 4611686018427387904) : Calls Tryz.prog 6 #[eConf.val a, eConf.val b] w (RetV w (.bool true)) := by
  have hla := ha.ps.le
  refine enter0 142 Tryz.func6 rfl rfl (Nat.le_of_ble_eq_true rfl) ?_
  refine seq (region (cons (box (E := eConf) (.t rfl) (fun b1 => ?_))))
  refine cons (box (E := eConf) (.t rfl) (fun b2 => ?_))
  refine cons (opv (Ev.assign (.c (v := .bool false) rfl)) ?_)
  refine nil (pN (seq (seq (region (cons (opv (Ev.ldx a ty28 (.t rfl) (Lens.id _)) ?_))))))
  refine cons (callv en15 (.cons (.t rfl) .nil) (fun w I => may_ok a l w (ha.keep0 I.keeps) hna hza) ?_)
  refine cons (opv (Ev.not (.t rfl)) ?_)
  refine cons (opv (Ev.move (.t rfl)) (cons (opg rfl rfl (Ev.ldx b ty28 (.t rfl) (Lens.id _)) ?_)))
  refine cons (callg rfl rfl en15 (.cons (.g rfl id) .nil) (fun hg w I => may_ok b k w (hb.keep0 I.keeps) hnb hzb) ?_)
  refine cons (opg rfl rfl (Ev.not (.g rfl id)) ?_)
  refine cons (opv (Ev.pickO (.t rfl) (.c (v := .bool true) rfl) (fun {_} h => by cases h; rfl) ⟨_, rfl⟩ (by intro h1 h; first | (rw [h] <;> rfl) | (rw [h1, h] <;> rfl) | (rw [h, h1] <;> rfl) | simp_all)) ?_)
  refine nil (pN ?_)
  first | refine condD rfl (fun h0 => ?_) (fun h0 => ?_) | refine cond rfl (fun h0 => ?_) (fun h0 => ?_)
  · refine seq (region (cons (callv en20 .nil (fun w I => works_ok w) ?_)))
    refine cons (opv (Ev.assign (.t rfl)) (nil (pN (ret (pR (done rfl (.tmp rfl .nil) (retE ?_)))))))
    rfl
  · have hbo : bothB l k a.default b.default = true := by
      unfold bothB
      simpa using h0
    obtain ⟨hml, hmk⟩ := Bool.and_eq_true_iff.1 hbo
    have nl1 := may_lens hml
    have nl2 := may_lens hmk
    refine skip (pN (seq (region (cons (opv (Ev.ldx a ty28 (.t rfl) (Lens.id _)) ?_)))))
    refine cons (opv (Ev.ldx b ty28 (.t rfl) (Lens.id _)) ?_)
    refine cons (calln (X := OV × OV) (fun _ => True) (fun x => .tuple #[x.1.v, I 0]) (fun x => [OwnS x.1.v eChange (diffL l k a.default b.default x.2) 61, OwnS x.2.v eRule (diffR l k a.default b.default) 76]) en23 (.cons (.t rfl) (.cons (.t rfl) .nil)) (fun w I => by have h := diff_ok a b l k w (ha.keep0 I.keeps) (hb.keep0 I.keeps) hna hnb hza hzb; rw [diffE_yes hbo] at h; exact h) (fun d1 _ => ?_))
    refine cons (opv (Ev.move (.t rfl)) (cons (opv (Ev.extract (.t rfl) rfl) (cons (opv (Ev.extract (.t rfl) rfl) (cons (opv (Ev.assign (.t rfl)) (cons (opv (Ev.assign (.t rfl)) (nil (pN (seq (region (cons (opv (Ev.ldx b ty28 (.t rfl) (Lens.id _)) ?_)))))))))))))))
    refine cons (opv (Ev.ldx a ty28 (.t rfl) (Lens.id _)) ?_)
    refine cons (calln (X := OV × OV) (fun _ => True) (fun x => .tuple #[x.1.v, I 0]) (fun x => [OwnS x.1.v eChange (diffL k l b.default a.default x.2) 61, OwnS x.2.v eRule (diffR k l b.default a.default) 76]) en23 (.cons (.t rfl) (.cons (.t rfl) .nil)) (fun w I => by have h := diff_ok b a k l w (hb.keep0 I.keeps) (ha.keep0 I.keeps) hnb hna hzb hza; rw [diffE_yes (bothB_symm hbo)] at h; exact h) (fun d2 _ => ?_))
    refine cons (opv (Ev.move (.t rfl)) (cons (opv (Ev.extract (.t rfl) rfl) (cons (opv (Ev.extract (.t rfl) rfl) (cons (opv (Ev.assign (.t rfl)) (cons (opv (Ev.assign (.t rfl)) (nil (pN (seq ?_))))))))))))
    obtain ⟨t1, e1, q1, m1⟩ := back_apply hbo (sameB_self l a.default) hml d1.2
    obtain ⟨t2, e2, q2, m2⟩ := back_apply (bothB_symm hbo) (sameB_self k b.default) hmk d2.2
    obtain ⟨t3, e3, q3, m3⟩ := back_apply (bothB_symm hbo) q1 m1 d2.2
    refine region (cons (opv (Ev.to (v' := eConf.val a) (Ev.ldx a ty28 (.t rfl) (Lens.id _)) (rfl)) ?_))
    refine cons (opv (Ev.move (.t rfl)) (cons (calln (X := CB) (fun _ => True) (fun x => .tuple #[eConf.val (x.c b.default), I 0]) (fun x => x.R t1) en27 (.cons (.t rfl) (.cons (.t rfl) .nil)) (fun w I => apply_e a l t1 b.default _ (diffL l k a.default b.default d1.2) (rlC (diffL l k a.default b.default d1.2) k.us) w (ha.keep0 I.keeps) hna hza (isSl_own (by repeat first | exact mH | apply mT | apply mA) w I) (diffL_at hbo (isSl_own (by repeat first | exact mH | apply mT | apply mA) w I)) (diffL_ok hbo hna hnb d1.2) e1) (fun x1 _ => ?_))))
    refine cons (opv (Ev.move (.t rfl)) (cons (opv (Ev.extract (.t rfl) rfl) (cons (opv (Ev.extract (.t rfl) rfl) (cons (alloc z28 (fun b3 => ?_))))))))
    refine cons (stv ty28 (Lens.id _) (.t rfl) (.t rfl) ?_)
    refine cons (opv (Ev.assign (.t rfl)) (nil (pN (seq (region (cons (opv (Ev.ldx b ty28 (.t rfl) (Lens.id _)) ?_)))))))
    refine cons (opv (Ev.move (.t rfl)) (cons (calln (X := CB) (fun _ => True) (fun x => .tuple #[eConf.val (x.c a.default), I 0]) (fun x => x.R t2) en27 (.cons (.t rfl) (.cons (.t rfl) .nil)) (fun w I => apply_e b k t2 a.default _ (diffL k l b.default a.default d2.2) (rlC (diffL k l b.default a.default d2.2) l.us) w (hb.keep0 I.keeps) hnb hzb (isSl_own (by repeat first | exact mH | apply mT | apply mA) w I) (diffL_at (bothB_symm hbo) (isSl_own (by repeat first | exact mH | apply mT | apply mA) w I)) (diffL_ok (bothB_symm hbo) hnb hna d2.2) e2) (fun x2 _ => ?_))))
    refine cons (opv (Ev.move (.t rfl)) (cons (opv (Ev.extract (.t rfl) rfl) (cons (opv (Ev.extract (.t rfl) rfl) (cons (alloc z28 (fun b4 => ?_))))))))
    refine cons (stv ty28 (Lens.id _) (.t rfl) (.t rfl) ?_)
    refine cons (opv (Ev.assign (.t rfl)) (nil (pN (seq (seq (region (cons (opv (Ev.move (.t rfl)) (cons (opv (Ev.to (v' := .bool false) (Ev.neq_i (.t rfl) (.c (v := I 0) rfl)) (rfl)) ?_))))))))))
    refine cons (opv (Ev.move (.t rfl)) (cons (opg rfl rfl (Ev.move (.t rfl)) ?_)))
    refine cons (opg rfl rfl (Ev.to (v' := .bool false) (Ev.neq_i (.g rfl id) (.c (v := I 0) rfl)) (rfl)) ?_)
    refine cons (opv (Ev.to (v' := .bool false) (Ev.pickO (.t rfl) (.c (v := .bool true) rfl) (fun {_} h => by cases h; rfl) ⟨_, rfl⟩ (by intro h1 h; first | (rw [h] <;> rfl) | (rw [h1, h] <;> rfl) | (rw [h, h1] <;> rfl) | simp_all)) (rfl)) ?_)
    refine cons (opv (Ev.move (.t rfl)) (cons (opg rfl rfl (Ev.move (.t rfl)) ?_)))
    refine cons (opg rfl rfl (Ev.to (v' := .bool false) (Ev.neq_i (.g rfl id) (.c (v := I 0) rfl)) (rfl)) ?_)
    refine cons (opv (Ev.to (v' := .bool false) (Ev.pickO (.t rfl) (.c (v := .bool true) rfl) (fun {_} h => by cases h; rfl) ⟨_, rfl⟩ (by intro h1 h; first | (rw [h] <;> rfl) | (rw [h1, h] <;> rfl) | (rw [h, h1] <;> rfl) | simp_all)) (rfl)) ?_)
    refine cons (opv (Ev.move (.t rfl)) (cons (opg rfl rfl (Ev.move (.t rfl)) ?_)))
    refine cons (opg rfl rfl (Ev.to (v' := .bool false) (Ev.neq_i (.g rfl id) (.c (v := I 0) rfl)) (rfl)) ?_)
    refine cons (opv (Ev.to (v' := .bool false) (Ev.pickO (.t rfl) (.c (v := .bool true) rfl) (fun {_} h => by cases h; rfl) ⟨_, rfl⟩ (by intro h1 h; first | (rw [h] <;> rfl) | (rw [h1, h] <;> rfl) | (rw [h, h1] <;> rfl) | simp_all)) (rfl)) ?_)
    refine cons (opv (Ev.move (.t rfl)) (cons (opg rfl rfl (Ev.to (v' := eConf.val (x1.c b.default)) (Ev.ldv ty28 (.t rfl) (Lens.id _)) (rfl)) ?_)))
    refine cons (opg rfl rfl (Ev.ldx b ty28 (.t rfl) (Lens.id _)) ?_)
    refine cons (callg rfl rfl en21 (.cons (.g rfl id) (.cons (.g rfl id) .nil)) (fun hg w I => same_ok (x1.c b.default) b t1 k w (co5 (x := x1) (l := t1) w I) (hb.keep0 I.keeps) (may_small m1) (may_small hmk)) ?_)
    refine cons (opg rfl rfl (Ev.to (v' := .bool false) (Ev.not (.g rfl id)) (congrArg Value.bool (by show (!sameB t1 k b.default b.default) = false; rw [q1]; rfl))) ?_)
    refine cons (opv (Ev.to (v' := .bool false) (Ev.pickO (.t rfl) (.c (v := .bool true) rfl) (fun {_} h => by cases h; rfl) ⟨_, rfl⟩ (by intro h1 h; first | (rw [h] <;> rfl) | (rw [h1, h] <;> rfl) | (rw [h, h1] <;> rfl) | simp_all)) (rfl)) ?_)
    refine cons (opv (Ev.move (.t rfl)) (cons (opg rfl rfl (Ev.to (v' := eConf.val (x2.c a.default)) (Ev.ldv ty28 (.t rfl) (Lens.id _)) (rfl)) ?_)))
    refine cons (opg rfl rfl (Ev.ldx a ty28 (.t rfl) (Lens.id _)) ?_)
    refine cons (callg rfl rfl en21 (.cons (.g rfl id) (.cons (.g rfl id) .nil)) (fun hg w I => same_ok (x2.c a.default) a t2 l w (co5 (x := x2) (l := t2) w I) (ha.keep0 I.keeps) (may_small m2) (may_small hml)) ?_)
    refine cons (opg rfl rfl (Ev.to (v' := .bool false) (Ev.not (.g rfl id)) (congrArg Value.bool (by show (!sameB t2 l a.default a.default) = false; rw [q2]; rfl))) ?_)
    refine cons (opv (Ev.to (v' := .bool false) (Ev.pickO (.t rfl) (.c (v := .bool true) rfl) (fun {_} h => by cases h; rfl) ⟨_, rfl⟩ (by intro h1 h; first | (rw [h] <;> rfl) | (rw [h1, h] <;> rfl) | (rw [h, h1] <;> rfl) | simp_all)) (rfl)) ?_)
    refine cons (opv (Ev.move (.t rfl)) (cons (opg rfl rfl (Ev.move (.t rfl)) ?_)))
    refine cons (opg rfl rfl (Ev.len Tryz.underlying41 (.g rfl id) (by first | exact isSl_own (by repeat first | exact mH | apply mT | apply mA) | exact fun w I => IsSl.keep0 (by assumption) I.keeps)) ?_)
    refine cons (opg rfl rfl (Ev.eql_i (.g rfl id) (.c (v := I 0) rfl)) ?_)
    refine cons (opg rfl rfl (Ev.ldx a ty28 (.t rfl) (Lens.id _)) ?_)
    refine cons (opg rfl rfl (Ev.ldx b ty28 (.t rfl) (Lens.id _)) ?_)
    refine cons (callg rfl rfl en21 (.cons (.g rfl id) (.cons (.g rfl id) .nil)) (fun hg w I => same_ok a b l k w (ha.keep0 I.keeps) (hb.keep0 I.keeps) (may_small hml) (may_small hmk)) ?_)
    refine cons (opg rfl rfl (Ev.to (v' := .bool false) (Ev.neq_b Tryz.underlying4 (.g rfl id) (.g rfl id)) (congrArg Value.bool (decide_eq_false (fun h => h (diffL_none hbo d1.2))))) ?_)
    refine cons (opv (Ev.to (v' := .bool false) (Ev.pickO (.t rfl) (.c (v := .bool true) rfl) (fun {_} h => by cases h; rfl) ⟨_, rfl⟩ (by intro h1 h; first | (rw [h] <;> rfl) | (rw [h1, h] <;> rfl) | (rw [h, h1] <;> rfl) | simp_all)) (rfl)) ?_)
    refine cons (opv (Ev.move (.t rfl)) (cons (opg rfl rfl (Ev.move (.t rfl)) ?_)))
    refine cons (opg rfl rfl (Ev.len Tryz.underlying41 (.g rfl id) (by first | exact isSl_own (by repeat first | exact mH | apply mT | apply mA) | exact fun w I => IsSl.keep0 (by assumption) I.keeps)) ?_)
    refine cons (opg rfl rfl (Ev.eql_i (.g rfl id) (.c (v := I 0) rfl)) ?_)
    refine cons (opg rfl rfl (Ev.ldx a ty28 (.t rfl) (Lens.id _)) ?_)
    refine cons (opg rfl rfl (Ev.ldx b ty28 (.t rfl) (Lens.id _)) ?_)
    refine cons (callg rfl rfl en21 (.cons (.g rfl id) (.cons (.g rfl id) .nil)) (fun hg w I => same_ok a b l k w (ha.keep0 I.keeps) (hb.keep0 I.keeps) (may_small hml) (may_small hmk)) ?_)
    refine cons (opg rfl rfl (Ev.to (v' := .bool false) (Ev.neq_b Tryz.underlying4 (.g rfl id) (.g rfl id)) (congrArg Value.bool (decide_eq_false (fun h => h ((diffL_none (bothB_symm hbo) d2.2).trans (sameB_symm _ _ _ _)))))) ?_)
    refine cons (opv (Ev.to (v' := .bool false) (Ev.pickO (.t rfl) (.c (v := .bool true) rfl) (fun {_} h => by cases h; rfl) ⟨_, rfl⟩ (by intro h1 h; first | (rw [h] <;> rfl) | (rw [h1, h] <;> rfl) | (rw [h, h1] <;> rfl) | simp_all)) (rfl)) ?_)
    refine nil (pN (condF rfl (rfl) ?_))
    refine skip (pN (seq (seq (region (cons (opv (Ev.move (.t rfl)) (cons (opv (Ev.len Tryz.underlying41 (.t rfl) (by first | exact isSl_own (by repeat first | exact mH | apply mT | apply mA) | exact fun w I => IsSl.keep0 (by assumption) I.keeps)) ?_))))))))
    refine cons (opv (Ev.fieldAddr (o := 0) (.t rfl) (by kernel_rfl)) ?_)
    refine cons (opv (Ev.ldx a.ports ty22 (.t rfl) SConf.l_ports) ?_)
    refine cons (opv (Ev.len Tryz.underlying22 (.t rfl) (fun w I => (ha.keep0 I.keeps).ps)) ?_)
    refine cons (opv (Ev.fieldAddr (o := 0) (.t rfl) (by kernel_rfl)) ?_)
    refine cons (opv (Ev.ldx b.ports ty22 (.t rfl) SConf.l_ports) ?_)
    refine cons (opv (Ev.len Tryz.underlying22 (.t rfl) (fun w I => (hb.keep0 I.keeps).ps)) ?_)
    refine cons (opv (Ev.add_i (.t rfl) (.t rfl) (fun _ => by omega)) ?_)
    refine cons (opv (Ev.fieldAddr (o := 1) (.t rfl) (by kernel_rfl)) ?_)
    refine cons (opv (Ev.ldx a.routes ty23 (.t rfl) SConf.l_routes) ?_)
    refine cons (opv (Ev.len Tryz.underlying23 (.t rfl) (fun w I => (ha.keep0 I.keeps).rs)) ?_)
    refine cons (opv (Ev.add_i (.t rfl) (.t rfl) (fun _ => by omega)) ?_)
    refine cons (opv (Ev.fieldAddr (o := 1) (.t rfl) (by kernel_rfl)) ?_)
    refine cons (opv (Ev.ldx b.routes ty23 (.t rfl) SConf.l_routes) ?_)
    refine cons (opv (Ev.len Tryz.underlying23 (.t rfl) (fun w I => (hb.keep0 I.keeps).rs)) ?_)
    refine cons (opv (Ev.add_i (.t rfl) (.t rfl) (fun _ => by omega)) ?_)
    refine cons (opv (Ev.fieldAddr (o := 3) (.t rfl) (by kernel_rfl)) ?_)
    refine cons (opv (Ev.ldx a.meters ty25 (.t rfl) SConf.l_meters) ?_)
    refine cons (opv (Ev.len Tryz.underlying25 (.t rfl) (fun w I => (ha.keep0 I.keeps).ms)) ?_)
    refine cons (opv (Ev.add_i (.t rfl) (.t rfl) (fun _ => by omega)) ?_)
    refine cons (opv (Ev.fieldAddr (o := 3) (.t rfl) (by kernel_rfl)) ?_)
    refine cons (opv (Ev.ldx b.meters ty25 (.t rfl) SConf.l_meters) ?_)
    refine cons (opv (Ev.len Tryz.underlying25 (.t rfl) (fun w I => (hb.keep0 I.keeps).ms)) ?_)
    refine cons (opv (Ev.add_i (.t rfl) (.t rfl) (fun _ => by omega)) ?_)
    refine cons (opv (Ev.fieldAddr (o := 4) (.t rfl) (by kernel_rfl)) ?_)
    refine cons (opv (Ev.ldx a.mirrors ty26 (.t rfl) SConf.l_mirrors) ?_)
    refine cons (opv (Ev.len Tryz.underlying26 (.t rfl) (fun w I => (ha.keep0 I.keeps).xs)) ?_)
    refine cons (opv (Ev.add_i (.t rfl) (.t rfl) (fun _ => by omega)) ?_)
    refine cons (opv (Ev.fieldAddr (o := 4) (.t rfl) (by kernel_rfl)) ?_)
    refine cons (opv (Ev.ldx b.mirrors ty26 (.t rfl) SConf.l_mirrors) ?_)
    refine cons (opv (Ev.len Tryz.underlying26 (.t rfl) (fun w I => (hb.keep0 I.keeps).xs)) ?_)
    refine cons (opv (Ev.add_i (.t rfl) (.t rfl) (fun _ => by omega)) ?_)
    refine cons (opv (Ev.add_i (.t rfl) (.c (v := I 2) rfl) (fun _ => by omega)) ?_)
    refine cons (opv (Ev.to (v' := .bool false) (Ev.gtr_i (.t rfl) (.t rfl)) (congrArg Value.bool (decide_eq_false (by have hdl := diffs_len l k a.default b.default d1.2; rw [diffL_yes hbo]; omega)))) ?_)
    refine nil (pN (condF rfl (rfl) ?_))
    refine skip (pN (seq (region (cons (opv (Ev.to (v' := eConf.val (x1.c b.default)) (Ev.ldv ty28 (.t rfl) (Lens.id _)) (rfl)) ?_)))))
    refine cons (opv (Ev.move (.t rfl)) (cons (calln (X := CB) (fun _ => True) (fun x => .tuple #[eConf.val (x.c a.default), I 0]) (fun x => x.R t3) en27 (.cons (.t rfl) (.cons (.t rfl) .nil)) (fun w I => apply_e (x1.c b.default) t1 t3 a.default _ (diffL k l b.default a.default d2.2) (rlC (diffL k l b.default a.default d2.2) l.us) w (co5 (x := x1) (l := t1) w I) (names_same q1 hnb) (may_small m1).n (isSl_own (by repeat first | exact mH | apply mT | apply mA) w I) (diffL_at (bothB_symm hbo) (isSl_own (by repeat first | exact mH | apply mT | apply mA) w I)) (diffL_ok (bothB_symm hbo) hnb hna d2.2) e3) (fun x3 _ => ?_))))
    refine cons (opv (Ev.move (.t rfl)) (cons (opv (Ev.extract (.t rfl) rfl) (cons (opv (Ev.extract (.t rfl) rfl) (cons (alloc z28 (fun b5 => ?_))))))))
    refine cons (stv ty28 (Lens.id _) (.t rfl) (.t rfl) ?_)
    refine cons (opv (Ev.assign (.t rfl)) (nil (pN (seq (region (cons (opv (Ev.move (.t rfl)) (cons (opv (Ev.to (v' := .bool true) (Ev.eql_i (.t rfl) (.c (v := I 0) rfl)) (rfl)) ?_)))))))))
    refine cons (opv (Ev.move (.t rfl)) (cons (opg rfl rfl (Ev.to (v' := eConf.val (x3.c a.default)) (Ev.ldv ty28 (.t rfl) (Lens.id _)) (rfl)) ?_)))
    refine cons (opg rfl rfl (Ev.ldx a ty28 (.t rfl) (Lens.id _)) ?_)
    refine cons (callg rfl rfl en21 (.cons (.g rfl id) (.cons (.g rfl id) .nil)) (fun hg w I => same_ok (x3.c a.default) a t3 l w (co5 (x := x3) (l := t3) w I) (ha.keep0 I.keeps) (may_small m3) (may_small hml)) ?_)
    refine cons (opv (Ev.to (v' := .bool true) (Ev.pickA (.t rfl) (fun {_} h => by cases h; rfl) ⟨_, rfl⟩ (by intro h1 h; first | (rw [h] <;> rfl) | (rw [h1, h] <;> rfl) | (rw [h, h1] <;> rfl) | simp_all) (.c (v := .bool false) rfl)) (congrArg Value.bool q3)) ?_)
    refine cons (opv (Ev.move (.t rfl)) (cons (callg rfl rfl en20 .nil (fun hg w I => works_ok w) ?_)))
    refine cons (opv (Ev.to (v' := .bool true) (Ev.pickA (.t rfl) (fun {_} h => by cases h; rfl) ⟨_, rfl⟩ (by intro h1 h; first | (rw [h] <;> rfl) | (rw [h1, h] <;> rfl) | (rw [h, h1] <;> rfl) | simp_all) (.c (v := .bool false) rfl)) (rfl)) ?_)
    refine cons (opv (Ev.assign (.t rfl)) (nil (pN (ret (done rfl (.tmp rfl .nil) (retE ?_))))))
    rfl
end Go.Proofs.YtnoobdijbpmjkaaGreat
