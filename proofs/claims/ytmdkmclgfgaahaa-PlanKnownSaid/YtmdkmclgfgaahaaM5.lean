/- Part. -/
import Derived.Test.YtmdkmclgfgaahaaM4
set_option linter.unusedVariables false
set_option linter.unusedSimpArgs false
set_option linter.unusedSectionVars false
namespace Go.Proofs.Ytmdkmclgfgaahaa
open Go Go.Gx Go.Proofs.Ytmdkmclgfgaahaa.Tri
theorem has_uniq {p q : SPrefix} {a : SAddr} (hp : hasP p a = true) (hq : hasP q a = true) (e : p.bits = q.bits) : p = q := by
  have hc := ((hasP_iff p a).1 hp).2.1
  obtain ⟨o1, f1⟩ := (Tri.has_full hc).1 hp
  obtain ⟨o2, f2⟩ := (Tri.has_full hc).1 hq
  have hl : (Tri.pb p).length = (Tri.pb q).length := by rw [Tri.pb_len, Tri.pb_len, e]
  rcases Tri.pre_two f1 f2 with h | h
  · exact Tri.pb_inj o1 o2 (Tri.pre_len h (by omega))
  · exact (Tri.pb_inj o2 o1 (Tri.pre_len h (by omega))).symm
theorem longN_pre (rs : List SRoute) (m : SRoute) (a : SAddr) : ∀ n, n ≤ rs.length → longN (rs ++ [m]) a n = longN rs a n
  | 0, _ => rfl
  | n + 1, h => by
    have ih := longN_pre rs m a n (by omega)
    have hr := longN_rng rs a n
    have e1 : (rs ++ [m]).getD n eRoute.zero = rs.getD n eRoute.zero := by
      have : n < rs.length := by omega
      simp [List.getD, List.getElem?_append, this]
    rw [longN, longN, ih, e1]
    by_cases h0 : longN rs a n < 0
    · simp [h0]
    · have e2 : (rs ++ [m]).getD (longN rs a n).toNat eRoute.zero = rs.getD (longN rs a n).toNat eRoute.zero := by
        have : (longN rs a n).toNat < rs.length := by omega
        simp [List.getD, List.getElem?_append, this]
      rw [e2]
theorem route_more {rs : List SRoute} {m : SRoute} (hn : ((rs ++ [m]).map (·.to_)).Nodup) (a : SAddr) : routeV (rs ++ [m]) a = if (hasP m.to_ a && !(rs.any fun r => hasP r.to_ a && decide (m.to_.bits < r.to_.bits))) = true then (m.out, true) else routeV rs a := by
  have hL : (rs ++ [m]).length = rs.length + 1 := by simp
  have em : (rs ++ [m]).getD rs.length eRoute.zero = m := by simp [List.getD]
  have hpre := longN_pre rs m a rs.length (Nat.le_refl _)
  have hr := longN_rng rs a rs.length
  have hk : longK (rs ++ [m]) a = if (hasP m.to_ a && (decide (longN rs a rs.length < 0) || decide (((rs ++ [m]).getD (longN rs a rs.length).toNat eRoute.zero).to_.bits < m.to_.bits))) = true then (rs.length : Int) else longN rs a rs.length := by
    unfold longK
    rw [hL, longN, hpre, em]
  have hkeep : longK (rs ++ [m]) a = longN rs a rs.length → routeV (rs ++ [m]) a = routeV rs a := fun e => by
    unfold routeV
    rw [e]
    show _ = if longN rs a rs.length < 0 then _ else _
    by_cases h0 : longN rs a rs.length < 0
    · rw [if_pos h0, if_pos h0]
    · rw [if_neg h0, if_neg h0]
      have e2 : (rs ++ [m]).getD (longN rs a rs.length).toNat eRoute.zero = rs.getD (longN rs a rs.length).toNat eRoute.zero := by
        have : (longN rs a rs.length).toNat < rs.length := by omega
        simp [List.getD, List.getElem?_append, this]
      show (((rs ++ [m]).getD (longN rs a rs.length).toNat eRoute.zero).out, true) = ((rs.getD (longN rs a rs.length).toNat eRoute.zero).out, true)
      rw [e2]
  have hnew : longK (rs ++ [m]) a = (rs.length : Int) → routeV (rs ++ [m]) a = (m.out, true) := fun e => by
    unfold routeV
    have e3 : ((rs.length : Nat) : Int).toNat = rs.length := by omega
    rw [e, if_neg (by omega), e3, em]
  cases hm : hasP m.to_ a with
  | false =>
    rw [if_neg (by simp)]
    refine hkeep ?_
    rw [hk, hm, if_neg (by simp)]
  | true =>
    rw [hm] at hk
    rcases longN_spec rs a rs.length with ⟨h1, h2⟩ | ⟨k, h1, h2, h3, h4⟩
    · have hno : (rs.any fun r => hasP r.to_ a && decide (m.to_.bits < r.to_.bits)) = false := List.any_eq_false.2 fun r hr2 => by
        obtain ⟨j, hj, rfl⟩ := List.mem_iff_getElem.1 hr2
        have := h2 j hj
        have e : rs.getD j eRoute.zero = rs[j] := by simp [List.getD, hj]
        rw [e] at this
        rw [this]
        simp
      rw [hno, if_pos (by simp)]
      refine hnew ?_
      rw [hk, h1, if_pos (by simp)]
    · have ek : ((k : Nat) : Int).toNat = k := by omega
      have e2 : (rs ++ [m]).getD k eRoute.zero = rs.getD k eRoute.zero := by simp [List.getD, List.getElem?_append, h2]
      have e5 : rs.getD k eRoute.zero = rs[k] := by simp [List.getD, h2]
      rw [h1, ek, e2] at hk
      by_cases hb : (rs.getD k eRoute.zero).to_.bits < m.to_.bits
      · have hno : (rs.any fun r => hasP r.to_ a && decide (m.to_.bits < r.to_.bits)) = false := List.any_eq_false.2 fun r hr2 => by
          obtain ⟨j, hj, rfl⟩ := List.mem_iff_getElem.1 hr2
          have e : rs.getD j eRoute.zero = rs[j] := by simp [List.getD, hj]
          have h5 := h4 j hj
          rw [e] at h5
          simp only [Bool.and_eq_true, decide_eq_true_eq, not_and]
          intro h6
          have := h5 h6
          omega
        rw [hno, if_pos (by simp)]
        refine hnew ?_
        rw [hk, if_pos (by simp only [Bool.true_and, Bool.or_eq_true, decide_eq_true_eq]; exact .inr hb)]
      · have hlt : m.to_.bits < (rs.getD k eRoute.zero).to_.bits := by
          rcases Int.lt_or_le m.to_.bits (rs.getD k eRoute.zero).to_.bits with g | g
          · exact g
          · exfalso
            have e6 : rs[k].to_ = m.to_ := by
              rw [e5] at h3 g hb
              exact has_uniq h3 hm (by omega)
            have := List.pairwise_iff_getElem.1 hn k rs.length (by simp; omega) (by simp) h2
            apply this
            simp [List.getElem_append, h2, e6]
        have hyes : (rs.any fun r => hasP r.to_ a && decide (m.to_.bits < r.to_.bits)) = true := List.any_eq_true.2 ⟨rs[k], List.getElem_mem _, by
          rw [e5] at h3 hlt
          rw [h3]
          simpa using hlt⟩
        rw [hyes, if_neg (by simp)]
        refine hkeep ?_
        rw [hk, if_neg (by simp only [Bool.and_eq_true, Bool.or_eq_true, decide_eq_true_eq, not_and, not_or]; exact fun _ => ⟨by omega, hb⟩), h1]
def emL : CL := ⟨[], [], [], [], []⟩
def cfL (l : CL) (d : Int) : CL := if mayB l d = true then l else emL
def cfD (l : CL) (d : Int) : Int := if mayB l d = true then d else 0
def moreL (l : CL) (m : SRoute) : CL := { l with rs := l.rs ++ [m] }
theorem plE_may {l : CL} {d : Int} (h : plE l d = 0) : mayB l d = true := by
  unfold plE at h
  split at h
  · assumption
  · cases h
theorem conf_nil (w : World) : Calls Try.prog 13 #[.pointer none] w (RetN w (fun _ : CB => True) (fun x => eConf.val (x.c 0)) (fun x => x.R emL)) := by
  refine en0 12 Try.func13 ?_
  refine sg (cons (alloc z28 (fun b1 => ?_)))
  refine nP (seq (sg (mv rfl (cons (callv en27 (.cons (.t rfl) .nil) (fun w I => pthere_nil w) ?_)))))
  refine co (Ev.not (.t rfl)) ?_
  refine nP (condT rfl (rfl) ?_)
  refine seq (takeNil iE 3 ?_)
  refine takeNil eRoute 60 ?_
  refine takeNil eRule 57 ?_
  refine takeNil eMeterConf 95 ?_
  refine takeNil eMirrorConf 97 ?_
  refine region (co (Ev.buildS (fs := _) (places := [(0, 1), (1, 1), (2, 1), (3, 1), (4, 1), (5, 1)]) z28 rfl Try.underlying28 (by kernel_rfl) .nil Fills.nil) ?_)
  refine cons (stv ty28 (Lens.id _) (.t rfl) (.t rfl) ?_)
  refine nP (ret (pR (done rfl (.cell rfl (fun w I => run_loadVar_pts ty28 (ptsVar (by repeat first | exact mH | apply mT | apply mA) (Lens.id _) w I)) .nil) (fun w I => ?_))))
  exact retNP (⟨nilSl, nilSl, nilSl, nilSl, nilSl⟩ : CB) trivial rfl (by repeat first | exact SubP.nil | refine SubP.cons (by repeat first | exact Rem.head | apply Rem.tail) ?_) w I
theorem conf_any (p : Pl) (l : CL) (d : Int) (w : World) (h : mayB l d = true → PlanOK p l d ∧ PlanAt w p l d) : Calls Try.prog 13 #[.pointer (plO l d p.b)] w (RetN w (fun _ : CB => True) (fun x => eConf.val (x.c (cfD l d))) (fun x => x.R (cfL l d))) := by
  unfold plO cfD cfL
  by_cases hm : mayB l d = true
  · rw [if_pos hm, if_pos hm, if_pos hm]
    exact conf_plan p l d w (h hm).2 (h hm).1
  · rw [if_neg hm, if_neg hm, if_neg hm]
    exact conf_nil w
theorem en13 : Gx.Enters Try.prog 13 := Gx.Enters.mk' (by kernel_rfl)
theorem en14 : Gx.Enters Try.prog 14 := Gx.Enters.mk' (by kernel_rfl)
theorem pl_at2 {K : Ctx} {L : List Res} {r : Res} {q : List Res} {x : Pl × List Res} {l : CL} {d : Int} (h : ∀ w, (∀ q ∈ x.2, q.A w) → PlanAt w x.1 l d) (hm : Seps (Seps r x.2) q ∈ L) (w : World) (I : WInv K L w) : PlanAt w x.1 l d := h w (Seps.A _ _ (Seps.A _ _ (at_mem hm w I).1).1).2
theorem PlanNarrows_walk (c : SConf) (more : SRoute) (l : CL) (u : Value) (as_ : List SAddr) (w : World) (hc : ConfAt w c l) (hn : l.Names) (hz : l.n ≤ 4611686018427387904) (has : IsSl eAddr w u as_) : Calls Try.prog 4 #[eConf.val c, eRoute.val more, u] w (RetV w (.bool true)) := by
  have hle := has.le
  have hl3 := hc.rs.le
  have hcn : (cfL l c.default).Names ∧ (cfL l c.default).rs.length ≤ 1024 ∧ (cfL l c.default).n ≤ 4611686018427386000 := by
    unfold cfL
    split
    · rename_i h
      have := may_lens h
      exact ⟨hn, by omega, by unfold CL.n; omega⟩
    · exact ⟨⟨fun x hx => (by cases hx), fun x hx => (by cases hx), fun x hx => (by cases hx)⟩, by simp [emL], by decide⟩
  obtain ⟨hcn1, hcn2, hcn3⟩ := hcn
  have hn2 : (moreL (cfL l c.default) more).Names := ⟨hcn1.1, hcn1.2, hcn1.3⟩
  have hz2 : (moreL (cfL l c.default) more).n ≤ 4611686018427387904 := by
    unfold moreL CL.n
    unfold CL.n at hcn3
    simp only [List.length_append, List.length_singleton]
    omega
  refine en0 128 Try.func4 ?_
  refine sg (cons (box (E := eConf) (.t rfl) (fun b1 => ?_)))
  refine cons (box (E := eRoute) (.t rfl) (fun b2 => ?_))
  refine co (Ev.assign (.c (v := .bool false) rfl)) ?_
  refine nP (seq (seq (emp0 ?_)))
  refine region (cons (callv en7 .nil (fun w I => works_ok w) ?_))
  refine co (Ev.not (.t rfl)) ?_
  refine nP (condF rfl (rfl) ?_)
  refine skip (pN (sg (co (Ev.ldx c ty28 (.t rfl) (Lens.id _)) ?_)))
  refine cons (calln (X := Pl × List Res) (CompileJ l c.default) (fun x : Pl × List Res => .tuple #[.pointer (plO l c.default x.1.b), I (plE l c.default)]) (fun x => x.2) en8 (.cons (.t rfl) .nil) (fun w I => compile_plan c l w (hc.keep0 I.keeps) hn hz) (fun x1 hx1 => ?_))
  refine mv rfl (co (Ev.extract (.t rfl) rfl) (co (Ev.extract (.t rfl) rfl) (asn rfl (asn rfl (nP (seq (takeSeps (r := Emp) (by repeat first | exact Rem.head | apply Rem.tail) ?_)))))))
  refine region (mv rfl (cons (calln (X := CB) (fun _ => True) (fun x => eConf.val (x.c (cfD l c.default))) (fun x => x.R (cfL l c.default)) en13 (.cons (.t rfl) .nil) (fun w I => conf_any x1.1 l c.default w (fun hm => ⟨(hx1 hm).1, pl_at (hx1 hm).2 (by repeat first | exact mH | apply mT | apply mA) w I⟩)) (fun x2 _ => ?_))))
  refine cons (alloc z28 (fun b3 => ?_))
  refine cons (stv ty28 (Lens.id _) (.t rfl) (.t rfl) ?_)
  refine nP (sg (co (fA 1 (.t rfl)) ?_))
  refine co (Ev.to (v' := x2.o2.v) (Ev.ldv ty23 (.t rfl) SConf.l_routes) (rfl)) ?_
  refine co (Ev.ldx more ty60 (.t rfl) (Lens.id _)) ?_
  refine cons (buildSlice (E := eRoute) Try.underlying23 ty60 z60 (.cons (.t rfl) .nil) rfl rfl (fun v4 => ?_))
  refine cons (app (E := eRoute) Try.underlying23 ty60 zb60 zs60 (.t rfl) (.t rfl) (fun v5 => ?_) (hby := ⟨by (show _ ≤ 9223372036854775807); simp only [List.length_cons, List.length_nil]; omega, by simp only [List.length_cons, List.length_nil]; omega⟩))
  refine co (fA 1 (.t rfl)) ?_
  refine cons (stv ty23 SConf.l_routes (.t rfl) (.t rfl) ?_)
  refine nP (sg (co (Ev.to (v' := eConf.val ((⟨x2.o1, v5, x2.o3, x2.o4, x2.o5⟩ : CB).c (cfD l c.default))) (Ev.ldv ty28 (.t rfl) (Lens.id _)) (rfl)) ?_))
  refine cons (calln (X := Pl × List Res) (CompileJ (moreL (cfL l c.default) more) (cfD l c.default)) (fun x : Pl × List Res => .tuple #[.pointer (plO (moreL (cfL l c.default) more) (cfD l c.default) x.1.b), I (plE (moreL (cfL l c.default) more) (cfD l c.default))]) (fun x => x.2) en8 (.cons (.t rfl) .nil) (fun w I => compile_plan ((⟨x2.o1, v5, x2.o3, x2.o4, x2.o5⟩ : CB).c (cfD l c.default)) (moreL (cfL l c.default) more) w (co5 (x := (⟨x2.o1, v5, x2.o3, x2.o4, x2.o5⟩ : CB)) (l := (moreL (cfL l c.default) more)) w I) hn2 hz2) (fun x3 hx3 => ?_))
  refine mv rfl (co (Ev.extract (.t rfl) rfl) (co (Ev.extract (.t rfl) rfl) (asn rfl (asn rfl (nP (seq (seq (takeSeps (r := Seps Emp x1.2) (by repeat first | exact Rem.head | apply Rem.tail) ?_))))))))
  refine region (mv rfl (co (Ev.neq_i (.t rfl) (.c (v := I 0) rfl)) ?_))
  refine mv rfl (cg rfl rfl (Ev.move (.t rfl)) ?_)
  refine cg rfl rfl (Ev.neq_i (.g rfl id) (.c (v := I 0) rfl)) ?_
  refine co (Ev.pkO (.t rfl) rfl) ?_
  refine nP ?_
  first | refine condD rfl (fun h1 => ?_) (fun h1 => ?_) | refine cond rfl (fun h1 => ?_) (fun h1 => ?_)
  · refine sg (co (Ev.assign (.c (v := .bool true) rfl)) ?_)
    refine nP (ret (pR (done rfl (.tmp rfl .nil) (retE ?_))))
    rfl
  · have h9 : plE l c.default = 0 ∧ plE (moreL (cfL l c.default) more) (cfD l c.default) = 0 := by simpa using h1
    have hm1 := plE_may h9.1
    have hm2 := plE_may h9.2
    obtain ⟨hpo, hpa⟩ := hx1 hm1
    obtain ⟨hqo, hqa⟩ := hx3 hm2
    have hcl : cfL l c.default = l := if_pos hm1
    have hrs : (moreL (cfL l c.default) more).rs = l.rs ++ [more] := by unfold moreL; rw [hcl]
    have hnd := good_rs (may_good hm2)
    rw [hrs] at hnd
    refine skip (pN (seq (sg (co (Ev.assign (.c (v := I 0) rfl)) ?_))))
    refine nP (block (lp (X := Int) (fun x : Int => (0 ≤ x ∧ x ≤ as_.length)) (fun x : Int => [dz, (2, true, u), (3, true, .pointer (some ⟨b1, 0, none⟩)), (4, true, .pointer (some ⟨b2, 0, none⟩)), (7, true, .pointer (plO l c.default x1.1.b)), (10, true, .pointer (plO (moreL (cfL l c.default) more) (cfD l c.default) x3.1.b)), (12, true, I x)]) (fun x : Int => [Seps (Seps Emp x1.2) x3.2, Var b2 eRoute more 60, Var b1 eConf c 28]) (fun x : Int => ((as_.length : Int) - x).toNat) (0) ?_ (fun x hx => ?_)))
    · omega
    obtain ⟨i, rfl⟩ : ∃ y, y = x := ⟨x, rfl⟩
    have hi : 0 ≤ i ∧ i ≤ as_.length := hx
    clear hx
    show Sat _ _ [dz, (2, true, u), (3, true, .pointer (some ⟨b1, 0, none⟩)), (4, true, .pointer (some ⟨b2, 0, none⟩)), (7, true, .pointer (plO l c.default x1.1.b)), (10, true, .pointer (plO (moreL (cfL l c.default) more) (cfD l c.default) x3.1.b)), (12, true, I i)] [Seps (Seps Emp x1.2) x3.2, Var b2 eRoute more 60, Var b1 eConf c 28]
    refine seq (sg (mv rfl (mv rfl (co (Ev.len Try.underlying63 (.t rfl) (fun w I => has.keep0 I.keeps)) ?_))))
    refine co (Ev.lss_i (.t rfl) (.t rfl)) ?_
    refine mv rfl (cg rfl rfl (Ev.move (.t rfl)) ?_)
    refine cg rfl rfl (Ev.lss_i (.g rfl id) (.c (v := I 60) rfl)) ?_
    refine co (Ev.pkA (.t rfl) rfl) ?_
    refine nP ?_
    first | refine condD rfl (fun h2 => ?_) (fun h2 => ?_) | refine cond rfl (fun h2 => ?_) (fun h2 => ?_)
    · try simp only [Gx.nb] at h2
      refine skip (pN (seq (block (sg (co (Ev.assign (.c (v := .bool false) rfl)) ?_)))))
      refine nP (seq (sg (co (Ev.assign (.c (v := I 0) rfl)) ?_)))
      refine nP (block (lp (X := Int × Bool) (fun x : Int × Bool => (0 ≤ x.1 ∧ x.1 ≤ l.rs.length) ∧ (x.2 = (l.rs.take x.1.toNat).any (fun r : SRoute => hasP r.to_ (as_.getD i.toNat eAddr.zero) && decide (more.to_.bits < r.to_.bits)))) (fun x : Int × Bool => [dz, (2, true, u), (3, true, .pointer (some ⟨b1, 0, none⟩)), (4, true, .pointer (some ⟨b2, 0, none⟩)), (7, true, .pointer (plO l c.default x1.1.b)), (10, true, .pointer (plO (moreL (cfL l c.default) more) (cfD l c.default) x3.1.b)), (12, true, I i), (13, true, .bool x.2), (14, true, I x.1)]) (fun x : Int × Bool => [Seps (Seps Emp x1.2) x3.2, Var b2 eRoute more 60, Var b1 eConf c 28]) (fun x : Int × Bool => ((l.rs.length : Int) - x.1).toNat) (0, false) ⟨?_, ?_⟩ (fun x hx => ?_)))
      · omega
      · rfl
      obtain ⟨k, lg⟩ := x
      obtain ⟨hk, hlg⟩ : (0 ≤ k ∧ k ≤ l.rs.length) ∧ (lg = (l.rs.take k.toNat).any (fun r : SRoute => hasP r.to_ (as_.getD i.toNat eAddr.zero) && decide (more.to_.bits < r.to_.bits))) := hx
      show Sat _ _ [dz, (2, true, u), (3, true, .pointer (some ⟨b1, 0, none⟩)), (4, true, .pointer (some ⟨b2, 0, none⟩)), (7, true, .pointer (plO l c.default x1.1.b)), (10, true, .pointer (plO (moreL (cfL l c.default) more) (cfD l c.default) x3.1.b)), (12, true, I i), (13, true, .bool lg), (14, true, I k)] [Seps (Seps Emp x1.2) x3.2, Var b2 eRoute more 60, Var b1 eConf c 28]
      refine seq (sg (mv rfl (co (fA 1 (.t rfl)) ?_)))
      refine co (Ev.ldx c.routes ty23 (.t rfl) SConf.l_routes) ?_
      refine co (Ev.len Try.underlying23 (.t rfl) (fun w I => (hc.keep0 I.keeps).rs)) ?_
      refine co (Ev.lss_i (.t rfl) (.t rfl)) ?_
      refine nP ?_
      first | refine condD rfl (fun h3 => ?_) (fun h3 => ?_) | refine cond rfl (fun h3 => ?_) (fun h3 => ?_)
      · try simp only [Gx.nb] at h3
        refine skip (pN (seq (block (draw' (by kernel_rfl) ?_))))
        refine tk 0 rfl (Ev.move (.t rfl)) ?_
        refine tk 1 rfl (Ev.move (.t rfl)) ?_
        refine tkg 2 rfl rfl rfl (fA 1 (.t rfl)) ?_
        refine tkg 3 rfl rfl rfl (Ev.ldx c.routes ty23 (.g rfl id) SConf.l_routes) ?_
        refine tkg 4 rfl rfl rfl (Ev.move (.t rfl)) ?_
        refine tkg 5 rfl rfl rfl (Ev.indexAddr Try.underlying23 ty60 (.g rfl id) (.g rfl id) (fun w I => (hc.keep0 I.keeps).rs) (fun _ => by first | omega | (rename_i hg; simp at hg; omega))) ?_
        refine tkg 6 rfl rfl rfl (Ev.fieldAddrS (o := 0) (i := k) (.g rfl id) (fun w I => (hc.keep0 I.keeps).rs) (fun _ => by first | omega | (rename_i hg; simp at hg; omega)) (by kernel_rfl)) ?_
        refine tkg 7 rfl rfl rfl (Ev.loadS ty53 SRoute.l_to_ rfl (.g rfl id) (fun w I => (hc.keep0 I.keeps).rs) (fun _ => by first | omega | (rename_i hg; simp at hg; omega))) ?_
        refine tkg 8 rfl rfl rfl (Ev.move (.t rfl)) ?_
        refine tkg 9 rfl rfl rfl (Ev.move (.t rfl)) ?_
        refine tkg 10 rfl rfl rfl (Ev.indexAddr Try.underlying63 ty37 (.g rfl id) (.g rfl id) (fun w I => has.keep0 I.keeps) (fun _ => by first | omega | (rename_i hg; simp at hg; omega))) ?_
        refine tkg 11 rfl rfl rfl (Ev.loadS0 ty37 (.g rfl id) (fun w I => has.keep0 I.keeps) (fun _ => by first | omega | (rename_i hg; simp at hg; omega))) ?_
        refine al1 12 rfl ((callg rfl rfl en11 (.cons (.g rfl id) (.cons (.g rfl id) .nil)) (fun hg w I => hasP_ok _ _ w) ?_))
        refine hdn (tkg 13 rfl rfl rfl (Ev.move (.g rfl id)) ?_)
        refine tkg 14 rfl rfl rfl (fA 1 (.t rfl)) ?_
        refine tkg 15 rfl rfl rfl (Ev.ldx c.routes ty23 (.g rfl id) SConf.l_routes) ?_
        refine tkg 16 rfl rfl rfl (Ev.move (.t rfl)) ?_
        refine tkg 17 rfl rfl rfl (Ev.indexAddr Try.underlying23 ty60 (.g rfl id) (.g rfl id) (fun w I => (hc.keep0 I.keeps).rs) (fun _ => by first | omega | (rename_i hg; simp at hg; omega))) ?_
        refine tkg 18 rfl rfl rfl (Ev.fieldAddrS (o := 0) (i := k) (.g rfl id) (fun w I => (hc.keep0 I.keeps).rs) (fun _ => by first | omega | (rename_i hg; simp at hg; omega)) (by kernel_rfl)) ?_
        refine tkg 19 rfl rfl rfl (Ev.fieldAddrS (o := 17) (i := k) (.g rfl id) (fun w I => (hc.keep0 I.keeps).rs) (fun _ => by first | omega | (rename_i hg; simp at hg; omega)) (by kernel_rfl)) ?_
        refine tkg 20 rfl rfl rfl (Ev.loadS ty3 (Lens.comp SRoute.l_to_ SPrefix.l_bits) rfl (.g rfl id) (fun w I => (hc.keep0 I.keeps).rs) (fun _ => by first | omega | (rename_i hg; simp at hg; omega))) ?_
        refine tkg 21 rfl rfl rfl (fA 0 (.t rfl)) ?_
        refine tkg 22 rfl rfl rfl (fA 17 (.g rfl id)) ?_
        refine tkg 23 rfl rfl rfl (Ev.ldx more.to_.bits ty3 (.g rfl id) (Lens.comp SRoute.l_to_ SPrefix.l_bits)) ?_
        refine tkg 24 rfl rfl rfl (Ev.gtr_i (.g rfl id) (.g rfl id)) ?_
        refine tkg 25 rfl rfl rfl (Ev.pkA (.g rfl id) rfl) ?_
        refine tk 26 rfl (Ev.pkO (.t rfl) rfl) ?_
        refine tk 27 rfl (Ev.assign (.t rfl)) ?_
        refine ovr (bN (pN (region (mv rfl (co (Ev.add_i (.t rfl) (.c (v := I 1) rfl) (fun _ => by omega)) ?_)))))
        refine asn rfl (nP (nx (X := Int × Bool) (k + 1, _) ⟨?_, ?_⟩ ?_))
        · try dsimp only
          omega
        · try dsimp only
          rw [take_snoc l.rs k hk.1 (by omega) eRoute.zero, List.any_append, ← hlg]
          cases lg <;> simp <;> rfl
        · try dsimp only
          omega
      · try simp only [Gx.nb] at h3
        refine exit (pX (pX (bX (pN (seq ?_)))))
        have ek : k.toNat = l.rs.length := by omega
        rw [ek, List.take_length] at hlg
        refine region (co (Ev.to (v' := .pointer (some ⟨x1.1.b, 0, none⟩)) (Ev.move (.t rfl)) (congrArg Value.pointer (if_pos hm1))) ?_)
        refine mv rfl (mv rfl (co (Ev.indexAddr Try.underlying63 ty37 (.t rfl) (.t rfl) (fun w I => has.keep0 I.keeps) (fun _ => by omega)) ?_))
        refine co (Ev.loadS0 ty37 (.t rfl) (fun w I => has.keep0 I.keeps) (fun _ => by omega)) ?_
        refine cons (callv en14 (.cons (.t rfl) (.cons (.t rfl) .nil)) (fun w I => route_plan x1.1 l c.default (as_.getD i.toNat eAddr.zero) w (pl_at2 hpa (by repeat first | exact mH | apply mT | apply mA) w I) hpo) ?_)
        refine mv rfl (co (Ev.extract (.t rfl) rfl) (co (Ev.extract (.t rfl) rfl) (asn rfl (asn rfl (nP (sg (co (Ev.to (v' := .pointer (some ⟨x3.1.b, 0, none⟩)) (Ev.move (.t rfl)) (congrArg Value.pointer (if_pos hm2))) ?_)))))))
        refine mv rfl (mv rfl (co (Ev.indexAddr Try.underlying63 ty37 (.t rfl) (.t rfl) (fun w I => has.keep0 I.keeps) (fun _ => by omega)) ?_))
        refine co (Ev.loadS0 ty37 (.t rfl) (fun w I => has.keep0 I.keeps) (fun _ => by omega)) ?_
        refine cons (callv en14 (.cons (.t rfl) (.cons (.t rfl) .nil)) (fun w I => route_plan x3.1 (moreL (cfL l c.default) more) (cfD l c.default) (as_.getD i.toNat eAddr.zero) w (pl_at hqa (by repeat first | exact mH | apply mT | apply mA) w I) hqo) ?_)
        refine mv rfl (co (Ev.extract (.t rfl) rfl) (co (Ev.extract (.t rfl) rfl) (asn rfl (asn rfl (nP (seq (seq (draw' (by kernel_rfl) ?_))))))))
        refine tk 0 rfl (fA 0 (.t rfl)) ?_
        refine tk 1 rfl (Ev.ldx more.to_ ty53 (.t rfl) SRoute.l_to_) ?_
        refine tk 2 rfl (Ev.move (.t rfl)) ?_
        refine tk 3 rfl (Ev.move (.t rfl)) ?_
        refine tk 4 rfl (Ev.indexAddr Try.underlying63 ty37 (.t rfl) (.t rfl) (fun w I => has.keep0 I.keeps) (fun _ => by omega)) ?_
        refine tk 5 rfl (Ev.loadS0 ty37 (.t rfl) (fun w I => has.keep0 I.keeps) (fun _ => by omega)) ?_
        refine al1 6 rfl ((callv en11 (.cons (.t rfl) (.cons (.t rfl) .nil)) (fun w I => hasP_ok _ _ w) ?_))
        refine hdn (tk 7 rfl (Ev.move (.t rfl)) ?_)
        refine tkg 8 rfl rfl rfl (Ev.move (.t rfl)) ?_
        refine tkg 9 rfl rfl rfl (Ev.not (.g rfl id)) ?_
        refine tk 10 rfl (Ev.to (v' := .bool (hasP more.to_ (as_.getD i.toNat eAddr.zero) && !lg)) (Ev.pkA (.t rfl) rfl) (rfl)) ?_
        refine ovr (pN ?_)
        first | refine condD rfl (fun h4 => ?_) (fun h4 => ?_) | refine cond rfl (fun h4 => ?_) (fun h4 => ?_)
        · have hrm := route_more hnd (as_.getD i.toNat eAddr.zero)
          rw [← hlg, if_pos h4] at hrm
          refine region (co (fA 18 (.t rfl)) ?_)
          refine co (Ev.ldx more.out ty3 (.t rfl) SRoute.l_out) ?_
          refine asn rfl (co (Ev.assign (.c (v := .bool true) rfl)) ?_)
          refine nP (sg (mv rfl (mv rfl (co (Ev.neq_i (.t rfl) (.t rfl)) ?_))))
          refine mv rfl (cg rfl rfl (Ev.move (.t rfl)) ?_)
          refine cg rfl rfl (Ev.move (.t rfl)) ?_
          refine cg rfl rfl (Ev.neq_b Try.underlying4 (.g rfl id) (.g rfl id)) ?_
          refine co (Ev.pkO (.t rfl) rfl) ?_
          refine nP (condF rfl (by rw [hrs, hrm]; simp) ?_)
          refine skip (bN (pN (region (mv rfl (co (Ev.add_i (.t rfl) (.c (v := I 1) rfl) (fun _ => by omega)) ?_)))))
          refine asn rfl (nP (nx (X := Int) (i + 1) ?_ ?_))
          · try dsimp only
            omega
          · try dsimp only
            omega
        · have hrm := route_more hnd (as_.getD i.toNat eAddr.zero)
          rw [← hlg, if_neg (by rw [h4]; exact Bool.false_ne_true)] at hrm
          refine skip (pN (sg (mv rfl (mv rfl (co (Ev.neq_i (.t rfl) (.t rfl)) ?_)))))
          refine mv rfl (cg rfl rfl (Ev.move (.t rfl)) ?_)
          refine cg rfl rfl (Ev.move (.t rfl)) ?_
          refine cg rfl rfl (Ev.neq_b Try.underlying4 (.g rfl id) (.g rfl id)) ?_
          refine co (Ev.pkO (.t rfl) rfl) ?_
          refine nP (condF rfl (by rw [hrs, hrm]; simp) ?_)
          refine skip (bN (pN (region (mv rfl (co (Ev.add_i (.t rfl) (.c (v := I 1) rfl) (fun _ => by omega)) ?_)))))
          refine asn rfl (nP (nx (X := Int) (i + 1) ?_ ?_))
          · try dsimp only
            omega
          · try dsimp only
            omega
    · try simp only [Gx.nb] at h2
      refine exit (pX (pX (bX (pN (sg (co (Ev.assign (.c (v := .bool true) rfl)) ?_))))))
      refine nP (ret (done rfl (.tmp rfl .nil) (retE ?_)))
      rfl
end Go.Proofs.Ytmdkmclgfgaahaa
namespace Go.Proofs.Ytmdkmclgfgaahaa
open Go Go.Gx Go.Proofs.Ytmdkmclgfgaahaa.Tri
theorem decide_nil (n : Int) (h : SHeader) (w : World) : Calls Try.prog 9 #[.pointer none, I n, eHeader.val h] w (RetV w (.tuple #[eVerdict.val eVerdict.zero, I 1])) := by
  refine en0 62 Try.func9 ?_
  refine sg (cons (box (E := eHeader) (.t rfl) (fun b1 => ?_)))
  refine cons (alloc z46 (fun b2 => ?_))
  refine co (Ev.assign (.c (v := I 0) rfl)) ?_
  refine nP (seq (sg (mv rfl (cons (callv en27 (.cons (.t rfl) .nil) (fun w I => pthere_nil w) ?_)))))
  refine co (Ev.not (.t rfl)) ?_
  refine nP (condT rfl (rfl) ?_)
  refine sg (co (Ev.buildS (fs := _) (places := [(0, 1), (1, 1), (2, 1), (3, 1), (4, 1)]) z46 rfl Try.underlying46 (by kernel_rfl) .nil Fills.nil) ?_)
  refine cons (stv ty46 (Lens.id _) (.t rfl) (.t rfl) ?_)
  refine co (Ev.assign (.c (v := I 1) rfl)) ?_
  refine nP (ret (pR (done rfl (.cell rfl (fun w I => run_loadVar_pts ty46 (ptsVar (by repeat first | exact mH | apply mT | apply mA) (Lens.id _) w I)) (.tmp rfl .nil)) (retE ?_))))
  rfl
theorem route_nil (a : SAddr) (w : World) : Calls Try.prog 14 #[.pointer none, eAddr.val a] w (RetV w (.tuple #[I 0, .bool false])) := by
  refine en0 24 Try.func14 ?_
  refine sg (cons (box (E := eAddr) (.t rfl) (fun b1 => ?_)))
  refine co (Ev.assign (.c (v := I 0) rfl)) ?_
  refine co (Ev.assign (.c (v := .bool false) rfl)) ?_
  refine nP (seq (sg (mv rfl (cons (callv en27 (.cons (.t rfl) .nil) (fun w I => pthere_nil w) ?_)))))
  refine co (Ev.not (.t rfl)) ?_
  refine nP (condT rfl (rfl) ?_)
  refine sg (co (Ev.assign (.c (v := I 0) rfl)) ?_)
  refine co (Ev.assign (.c (v := .bool false) rfl)) ?_
  refine nP (ret (pR (done rfl (.tmp rfl (.tmp rfl .nil)) (retE ?_))))
  rfl
theorem confv_nil (w : World) : Calls Try.prog 13 #[.pointer none] w (RetV w (eConf.val ((⟨nilSl, nilSl, nilSl, nilSl, nilSl⟩ : CB).c 0))) := by
  refine en0 12 Try.func13 ?_
  refine sg (cons (alloc z28 (fun b1 => ?_)))
  refine nP (seq (sg (mv rfl (cons (callv en27 (.cons (.t rfl) .nil) (fun w I => pthere_nil w) ?_)))))
  refine co (Ev.not (.t rfl)) ?_
  refine nP (condT rfl (rfl) ?_)
  refine sg (co (Ev.buildS (fs := _) (places := [(0, 1), (1, 1), (2, 1), (3, 1), (4, 1), (5, 1)]) z28 rfl Try.underlying28 (by kernel_rfl) .nil Fills.nil) ?_)
  refine cons (stv ty28 (Lens.id _) (.t rfl) (.t rfl) ?_)
  refine nP (ret (pR (done rfl (.cell rfl (fun w I => run_loadVar_pts ty28 (ptsVar (by repeat first | exact mH | apply mT | apply mA) (Lens.id _) w I)) .nil) (retE ?_))))
  rfl
theorem decide_no (b : Nat) (x : SPlanPlan) (n : Int) (h : SHeader) (w : World) (hb : PtsTo ePlanPlan w b 0 x) (hx : x.ports = nilMap) : Calls Try.prog 9 #[.pointer (some ⟨b, 0, none⟩), I n, eHeader.val h] w (RetV w (.tuple #[eVerdict.val eVerdict.zero, I 1])) := by
  refine en0 62 Try.func9 ?_
  refine sg (cons (box (E := eHeader) (.t rfl) (fun b1 => ?_)))
  refine cons (alloc z46 (fun b2 => ?_))
  refine co (Ev.assign (.c (v := I 0) rfl)) ?_
  refine nP (seq (sg (mv rfl (cons (callv en27 (.cons (.t rfl) .nil) (fun w I => pthere_no b x w (hb.keep I.keeps) hx) ?_)))))
  refine co (Ev.not (.t rfl)) ?_
  refine nP (condT rfl (rfl) ?_)
  refine sg (co (Ev.buildS (fs := _) (places := [(0, 1), (1, 1), (2, 1), (3, 1), (4, 1)]) z46 rfl Try.underlying46 (by kernel_rfl) .nil Fills.nil) ?_)
  refine cons (stv ty46 (Lens.id _) (.t rfl) (.t rfl) ?_)
  refine co (Ev.assign (.c (v := I 1) rfl)) ?_
  refine nP (ret (pR (done rfl (.cell rfl (fun w I => run_loadVar_pts ty46 (ptsVar (by repeat first | exact mH | apply mT | apply mA) (Lens.id _) w I)) (.tmp rfl .nil)) (retE ?_))))
  rfl
theorem route_no (b : Nat) (x : SPlanPlan) (a : SAddr) (w : World) (hb : PtsTo ePlanPlan w b 0 x) (hx : x.ports = nilMap) : Calls Try.prog 14 #[.pointer (some ⟨b, 0, none⟩), eAddr.val a] w (RetV w (.tuple #[I 0, .bool false])) := by
  refine en0 24 Try.func14 ?_
  refine sg (cons (box (E := eAddr) (.t rfl) (fun b1 => ?_)))
  refine co (Ev.assign (.c (v := I 0) rfl)) ?_
  refine co (Ev.assign (.c (v := .bool false) rfl)) ?_
  refine nP (seq (sg (mv rfl (cons (callv en27 (.cons (.t rfl) .nil) (fun w I => pthere_no b x w (hb.keep I.keeps) hx) ?_)))))
  refine co (Ev.not (.t rfl)) ?_
  refine nP (condT rfl (rfl) ?_)
  refine sg (co (Ev.assign (.c (v := I 0) rfl)) ?_)
  refine co (Ev.assign (.c (v := .bool false) rfl)) ?_
  refine nP (ret (pR (done rfl (.tmp rfl (.tmp rfl .nil)) (retE ?_))))
  rfl
theorem confv_no (b : Nat) (x : SPlanPlan) (w : World) (hb : PtsTo ePlanPlan w b 0 x) (hx : x.ports = nilMap) : Calls Try.prog 13 #[.pointer (some ⟨b, 0, none⟩)] w (RetV w (eConf.val ((⟨nilSl, nilSl, nilSl, nilSl, nilSl⟩ : CB).c 0))) := by
  refine en0 12 Try.func13 ?_
  refine sg (cons (alloc z28 (fun b1 => ?_)))
  refine nP (seq (sg (mv rfl (cons (callv en27 (.cons (.t rfl) .nil) (fun w I => pthere_no b x w (hb.keep I.keeps) hx) ?_)))))
  refine co (Ev.not (.t rfl)) ?_
  refine nP (condT rfl (rfl) ?_)
  refine sg (co (Ev.buildS (fs := _) (places := [(0, 1), (1, 1), (2, 1), (3, 1), (4, 1), (5, 1)]) z28 rfl Try.underlying28 (by kernel_rfl) .nil Fills.nil) ?_)
  refine cons (stv ty28 (Lens.id _) (.t rfl) (.t rfl) ?_)
  refine nP (ret (pR (done rfl (.cell rfl (fun w I => run_loadVar_pts ty28 (ptsVar (by repeat first | exact mH | apply mT | apply mA) (Lens.id _) w I)) .nil) (retE ?_))))
  rfl
theorem like_bad (pa pb : Value) (n : Int) (h : SHeader) (v v2 : SVerdict) (e f : Int) (w : World) (ha : ∀ w1, Keeps Nope w w1 → Calls Try.prog 9 #[pa, I n, eHeader.val h] w1 (RetV w1 (.tuple #[eVerdict.val v, I e]))) (hb : ∀ w1, Keeps Nope w w1 → Calls Try.prog 9 #[pb, I n, eHeader.val h] w1 (RetV w1 (.tuple #[eVerdict.val v2, I f]))) (he : ¬ e = 0 ∨ ¬ f = 0) : Calls Try.prog 19 #[pa, pb, I n, eHeader.val h] w (RetV w (.bool false)) := by
  refine en0 113 Try.func19 ?_
  refine sg (cons (box (E := eHeader) (.t rfl) (fun b1 => ?_)))
  refine co (Ev.assign (.c (v := .bool false) rfl)) ?_
  refine nP (sg (mv rfl (mv rfl (co (Ev.ldx h ty42 (.t rfl) (Lens.id _)) ?_))))
  refine cons (callv en9 (.cons (.t rfl) (.cons (.t rfl) (.cons (.t rfl) .nil))) (fun w I => ha w I.keeps) ?_)
  refine mv rfl (co (Ev.extract (.t rfl) rfl) (co (Ev.extract (.t rfl) rfl) (cons (alloc z46 (fun b2 => ?_)))))
  refine cons (stv ty46 (Lens.id _) (.t rfl) (.t rfl) ?_)
  refine asn rfl (nP (sg (mv rfl (mv rfl (co (Ev.ldx h ty42 (.t rfl) (Lens.id _)) ?_)))))
  refine cons (callv en9 (.cons (.t rfl) (.cons (.t rfl) (.cons (.t rfl) .nil))) (fun w I => hb w I.keeps) ?_)
  refine mv rfl (co (Ev.extract (.t rfl) rfl) (co (Ev.extract (.t rfl) rfl) (cons (alloc z46 (fun b3 => ?_)))))
  refine cons (stv ty46 (Lens.id _) (.t rfl) (.t rfl) ?_)
  refine asn rfl (nP (seq (sg (mv rfl (co (Ev.neq_i (.t rfl) (.c (v := I 0) rfl)) ?_)))))
  refine mv rfl (cg rfl rfl (Ev.move (.t rfl)) ?_)
  refine cg rfl rfl (Ev.neq_i (.g rfl id) (.c (v := I 0) rfl)) ?_
  refine co (Ev.to (v' := .bool true) (Ev.pkO (.t rfl) rfl) (congrArg Value.bool (by rcases he with g | g <;> simp [g]))) ?_
  refine mv rfl (cg rfl rfl (fA 0 (.t rfl)) ?_)
  refine cg rfl rfl (Ev.ldv ty3 (.g rfl id) SVerdict.l_action) ?_
  refine cg rfl rfl (fA 0 (.t rfl)) ?_
  refine cg rfl rfl (Ev.ldv ty3 (.g rfl id) SVerdict.l_action) ?_
  refine cg rfl rfl (Ev.neq_i (.g rfl id) (.g rfl id)) ?_
  refine co (Ev.pkO (.t rfl) rfl) ?_
  refine mv rfl (cg rfl rfl (fA 1 (.t rfl)) ?_)
  refine cg rfl rfl (Ev.ldv ty3 (.g rfl id) SVerdict.l_out) ?_
  refine cg rfl rfl (fA 1 (.t rfl)) ?_
  refine cg rfl rfl (Ev.ldv ty3 (.g rfl id) SVerdict.l_out) ?_
  refine cg rfl rfl (Ev.neq_i (.g rfl id) (.g rfl id)) ?_
  refine co (Ev.pkO (.t rfl) rfl) ?_
  refine nP (condT rfl (by simp) ?_)
  refine sg (co (Ev.assign (.c (v := .bool false) rfl)) ?_)
  refine nP (ret (pR (done rfl (.tmp rfl .nil) (retE ?_))))
  rfl
def likeB (v w : SVerdict) (l k : CL) : Bool := decide (v.action = w.action) && (decide (v.out = w.out) && (decide (decide (v.meter < 0) = decide (w.meter < 0)) && (decide (decide (v.mirror < 0) = decide (w.mirror < 0)) && ((decide (v.meter < 0) || SMeterConf.eqb (l.ms.getD v.meter.toNat eMeterConf.zero) (k.ms.getD w.meter.toNat eMeterConf.zero)) && (decide (v.mirror < 0) || SMirrorConf.eqb (l.xs.getD v.mirror.toNat eMirrorConf.zero) (k.xs.getD w.mirror.toNat eMirrorConf.zero))))))
def likeV (l : CL) (d : Int) (k : CL) (e n : Int) (h : SHeader) (c : Int) : Bool := decide (deE h c = 0) && likeB (dvV l d n h c) (dvV k e n h c) l k
end Go.Proofs.Ytmdkmclgfgaahaa
namespace Go.Proofs.Ytmdkmclgfgaahaa
open Go Go.Gx Go.Proofs.Ytmdkmclgfgaahaa.Tri
def kP : List SPrefix := [fourP 10 1 32, fourP 10 255 32, fourP 9 0 32]
def fR (x : SPrefix) : Int := if (routeV exL.rs x.addr).2 = true then (routeV exL.rs x.addr).1 else -1
theorem kP_r : kP.map fR = [3, 2, -1] := by decide +kernel
theorem kV1 : dvV exL 1 2 (pktH 17 0 #v[10, 1, 2, 3] 9) 0 = ⟨3, 3, 2, -1, 0⟩ := by decide +kernel
theorem kV2 : dvV exL 1 2 (pktH 17 0 #v[10, 2, 2, 3] 9) 0 = ⟨3, 2, 2, -1, 0⟩ := by decide +kernel
theorem kV3 : dvV exL 1 2 (pktH 17 0 #v[11, 0, 0, 1] 9) 0 = ⟨4, -1, 2, -1, 0⟩ := by decide +kernel
theorem kV4 : dvV exL 1 9 (pktH 17 0 #v[10, 2, 2, 3] 9) 0 = ⟨2, -1, -1, -1, -1⟩ := by decide +kernel
def hF1 : SHeader := { eHeader.zero with flags := 1 }
theorem kE1 : deE hF1 0 = 2 := by decide +kernel
theorem deE_data (h : SHeader) (o : OV) (n : Int) : deE { h with data := o } n = deE h n := rfl
theorem kE2 (o : OV) : deE { eHeader.zero with data := o } (3000 : Nat) = 0 := by
  rw [deE_data]
  decide +kernel
theorem kM : plE emL 0 = 210 := by decide +kernel
theorem emL_names : emL.Names := ⟨fun x hx => (by cases hx), fun x hx => (by cases hx), fun x hx => (by cases hx)⟩
theorem ty31 : TyOK Try.prog 31 (ovE nilPtr) := TyOK.mk' (by kernel_rfl) (by kernel_rfl)
theorem known1_to (b : Nat) (p : Pl) (n : Int) (h : SHeader) (dt : List UInt8) (z : SVerdict) (w : World) (hv : PtsTo (ovE nilPtr) w b 0 (ptrV p.b)) (hp : PlanAt w p exL 1) (ho : PlanOK p exL 1) (hd : IsSl u8E w h.data.v dt) (hl : dt.length ≤ 1152921504606846975) (hz : dvV exL 1 n h dt.length = z) : Calls Try.prog 16 #[I n, eHeader.val h, .pointer (some ⟨b, 0, none⟩)] w (RetV w (eVerdict.val z)) := by
  obtain ⟨E0, hE⟩ : ∃ z, deE h dt.length = z := ⟨_, rfl⟩
  refine en0 16 Try.func16 ?_
  refine sg (cons (box (E := eHeader) (.t rfl) (fun b1 => ?_)))
  refine cons (alloc z46 (fun b2 => ?_))
  refine nP (sg (co (Ev.to (v' := .pointer (some ⟨p.b, 0, none⟩)) (Ev.load ty31 (.t rfl) (ptsL (fun w I => hv.keep I.keeps) (Lens.id _))) (rfl)) ?_))
  refine mv rfl (co (Ev.ldx h ty42 (.t rfl) (Lens.id _)) ?_)
  refine cons (callv en9 (.cons (.t rfl) (.cons (.t rfl) (.cons (.t rfl) .nil))) (fun w I => decide_to p exL 1 n h dt z E0 w (hp.keep I.keeps) ho (hd.keep0 I.keeps) hl hz hE) ?_)
  refine mv rfl (co (Ev.extract (.t rfl) rfl) (co (Ev.extract (.t rfl) rfl) (cons (alloc z46 (fun b3 => ?_)))))
  refine cons (stv ty46 (Lens.id _) (.t rfl) (.t rfl) ?_)
  refine asn rfl (nP (sg (co (Ev.ldv ty46 (.t rfl) (Lens.id _)) ?_)))
  refine cons (stv ty46 (Lens.id _) (.t rfl) (.t rfl) ?_)
  refine nP (ret (done rfl (.cell rfl (fun w I => run_loadVar_pts ty46 (ptsVar (by repeat first | exact mH | apply mT | apply mA) (Lens.id _) w I)) .nil) (retE ?_)))
  rfl
theorem en16 : Gx.Enters Try.prog 16 := Gx.Enters.mk' (by kernel_rfl)
theorem zb5 : (Try.prog.info? 5).map (fun i => (i.zero, i.bytes)) = some (some (u8E.val u8E.zero), 1) := by kernel_rfl
theorem z31 : (Try.prog.info? 31).bind (·.zero) = some ((ovE nilPtr).val (ovE nilPtr).zero) := by kernel_rfl
theorem en19 : Gx.Enters Try.prog 19 := Gx.Enters.mk' (by kernel_rfl)
theorem PlanKnown_walk (w : World) : Calls Try.prog 5 #[] w (RetV w (.bool true)) := by
  refine en0 217 Try.func5 ?_
  refine sg (co (Ev.assign (.c (v := .bool false) rfl)) ?_)
  refine nP (seq (emp0 ?_))
  refine region (cons (calln (X := CB) (fun _ => True) (fun x => eConf.val (x.c 1)) (fun x => x.R exL) en15 .nil (fun w I => example_ok w) (fun s0 _ => ?_)))
  refine cons (calln (X := Pl × List Res) (CompileJ exL 1) (fun x : Pl × List Res => .tuple #[.pointer (plO exL 1 x.1.b), I (plE exL 1)]) (fun x => x.2) en8 (.cons (.t rfl) .nil) (fun w I => compile_plan (s0.c 1) exL w (co5 (x := s0) (l := exL) w I) exL_names exL_n) (fun x1 hx1 => ?_))
  refine takeSeps (r := Emp) (by repeat first | exact Rem.head | apply Rem.tail) ?_
  refine mv rfl (co (Ev.to (v' := (ptrV x1.1.b).v) (Ev.extract (.t rfl) rfl) (congrArg Value.pointer (if_pos exL_may))) ?_)
  refine co (Ev.to (v' := I 0) (Ev.extract (.t rfl) rfl) (congrArg Gx.I (if_pos exL_may))) ?_
  refine cons (alloc z31 (fun b1 => ?_))
  refine cons (stv ty31 (Lens.id _) (.t rfl) (.t rfl) ?_)
  refine asn rfl (nP (seq (seq ?_)))
  obtain ⟨hpk, hpa⟩ := hx1 exL_may
  refine region (mv rfl (co (Ev.neq_i (.t rfl) (.c (v := I 0) rfl)) ?_))
  refine nP (condF rfl (rfl) ?_)
  refine skip (pN (sg (co (Ev.makeFunc (f := 16) (.cons (.t rfl) .nil)) ?_)))
  refine asn rfl (nP (sg (mv rfl (co (Ev.to (v' := (arrE 4 u8E).val #v[10, 1, 2, 3]) (Ev.buildA z70 Try.underlying70 ty5 (.cons (.c (v := U8 10) rfl) (.cons (.c (v := U8 1) rfl) (.cons (.c (v := U8 2) rfl) (.cons (.c (v := U8 3) rfl) .nil)))) (Fills.cons (lArr u8E 0 (by decide)) rfl (Fills.cons (lArr u8E 1 (by decide)) rfl (Fills.cons (lArr u8E 2 (by decide)) rfl (Fills.cons (lArr u8E 3 (by decide)) rfl Fills.nil))))) (rfl)) ?_))))
  refine cons (callv en17 (.cons (.c (v := U8 17) rfl) (.cons (.c (v := U8 0) rfl) (.cons (.t rfl) (.cons (.c (v := U16 9) rfl) .nil)))) (fun w I => packet_ok _ _ _ _ w) ?_)
  refine cons (callcv (.t rfl) en16 (.cons (.c (v := I 2) rfl) (.cons (.t rfl) .nil)) (fun w I => known1_to b1 x1.1 _ _ [] _ w (ptsVar (E' := ovE nilPtr) (by repeat first | exact mH | apply mT | apply mA) (Lens.id _) w I) (pl_at hpa (by repeat first | exact mH | apply mT | apply mA) w I) hpk (IsSl.nil _ w) (by simp) kV1) ?_)
  refine co (Ev.buildS (fs := _) (places := [(0, 1), (1, 1), (2, 1), (3, 1), (4, 1)]) z46 rfl Try.underlying46 (by kernel_rfl) (.cons (.c (v := I 3) rfl) (.cons (.c (v := I 3) rfl) (.cons (.c (v := I 2) rfl) (.cons (.c (v := I (-1)) rfl) (.cons (.c (v := I 0) rfl) .nil))))) (Fills.cons SVerdict.l_action rfl (Fills.cons SVerdict.l_out rfl (Fills.cons SVerdict.l_rule rfl (Fills.cons SVerdict.l_meter rfl (Fills.cons SVerdict.l_mirror rfl Fills.nil)))))) ?_
  refine co (Ev.to (v' := .bool true) (Ev.eqlS rfl eqok46 rfl (by kernel_rfl) (.t rfl) (.t rfl)) (rfl)) ?_
  refine asn rfl (nP (sg (mv rfl (co (Ev.to (v' := (arrE 4 u8E).val #v[10, 2, 2, 3]) (Ev.buildA z70 Try.underlying70 ty5 (.cons (.c (v := U8 10) rfl) (.cons (.c (v := U8 2) rfl) (.cons (.c (v := U8 2) rfl) (.cons (.c (v := U8 3) rfl) .nil)))) (Fills.cons (lArr u8E 0 (by decide)) rfl (Fills.cons (lArr u8E 1 (by decide)) rfl (Fills.cons (lArr u8E 2 (by decide)) rfl (Fills.cons (lArr u8E 3 (by decide)) rfl Fills.nil))))) (rfl)) ?_))))
  refine cons (callv en17 (.cons (.c (v := U8 17) rfl) (.cons (.c (v := U8 0) rfl) (.cons (.t rfl) (.cons (.c (v := U16 9) rfl) .nil)))) (fun w I => packet_ok _ _ _ _ w) ?_)
  refine cons (callcv (.t rfl) en16 (.cons (.c (v := I 2) rfl) (.cons (.t rfl) .nil)) (fun w I => known1_to b1 x1.1 _ _ [] _ w (ptsVar (E' := ovE nilPtr) (by repeat first | exact mH | apply mT | apply mA) (Lens.id _) w I) (pl_at hpa (by repeat first | exact mH | apply mT | apply mA) w I) hpk (IsSl.nil _ w) (by simp) kV2) ?_)
  refine co (Ev.buildS (fs := _) (places := [(0, 1), (1, 1), (2, 1), (3, 1), (4, 1)]) z46 rfl Try.underlying46 (by kernel_rfl) (.cons (.c (v := I 3) rfl) (.cons (.c (v := I 2) rfl) (.cons (.c (v := I 2) rfl) (.cons (.c (v := I (-1)) rfl) (.cons (.c (v := I 0) rfl) .nil))))) (Fills.cons SVerdict.l_action rfl (Fills.cons SVerdict.l_out rfl (Fills.cons SVerdict.l_rule rfl (Fills.cons SVerdict.l_meter rfl (Fills.cons SVerdict.l_mirror rfl Fills.nil)))))) ?_
  refine co (Ev.to (v' := .bool true) (Ev.eqlS rfl eqok46 rfl (by kernel_rfl) (.t rfl) (.t rfl)) (rfl)) ?_
  refine asn rfl (nP (sg (mv rfl (co (Ev.to (v' := (arrE 4 u8E).val #v[11, 0, 0, 1]) (Ev.buildA z70 Try.underlying70 ty5 (.cons (.c (v := U8 11) rfl) (.cons (.c (v := U8 0) rfl) (.cons (.c (v := U8 0) rfl) (.cons (.c (v := U8 1) rfl) .nil)))) (Fills.cons (lArr u8E 0 (by decide)) rfl (Fills.cons (lArr u8E 1 (by decide)) rfl (Fills.cons (lArr u8E 2 (by decide)) rfl (Fills.cons (lArr u8E 3 (by decide)) rfl Fills.nil))))) (rfl)) ?_))))
  refine cons (callv en17 (.cons (.c (v := U8 17) rfl) (.cons (.c (v := U8 0) rfl) (.cons (.t rfl) (.cons (.c (v := U16 9) rfl) .nil)))) (fun w I => packet_ok _ _ _ _ w) ?_)
  refine cons (callcv (.t rfl) en16 (.cons (.c (v := I 2) rfl) (.cons (.t rfl) .nil)) (fun w I => known1_to b1 x1.1 _ _ [] _ w (ptsVar (E' := ovE nilPtr) (by repeat first | exact mH | apply mT | apply mA) (Lens.id _) w I) (pl_at hpa (by repeat first | exact mH | apply mT | apply mA) w I) hpk (IsSl.nil _ w) (by simp) kV3) ?_)
  refine co (Ev.buildS (fs := _) (places := [(0, 1), (1, 1), (2, 1), (3, 1), (4, 1)]) z46 rfl Try.underlying46 (by kernel_rfl) (.cons (.c (v := I 4) rfl) (.cons (.c (v := I (-1)) rfl) (.cons (.c (v := I 2) rfl) (.cons (.c (v := I (-1)) rfl) (.cons (.c (v := I 0) rfl) .nil))))) (Fills.cons SVerdict.l_action rfl (Fills.cons SVerdict.l_out rfl (Fills.cons SVerdict.l_rule rfl (Fills.cons SVerdict.l_meter rfl (Fills.cons SVerdict.l_mirror rfl Fills.nil)))))) ?_
  refine co (Ev.to (v' := .bool true) (Ev.eqlS rfl eqok46 rfl (by kernel_rfl) (.t rfl) (.t rfl)) (rfl)) ?_
  refine asn rfl (nP (sg (mv rfl (co (Ev.to (v' := (arrE 4 u8E).val #v[10, 2, 2, 3]) (Ev.buildA z70 Try.underlying70 ty5 (.cons (.c (v := U8 10) rfl) (.cons (.c (v := U8 2) rfl) (.cons (.c (v := U8 2) rfl) (.cons (.c (v := U8 3) rfl) .nil)))) (Fills.cons (lArr u8E 0 (by decide)) rfl (Fills.cons (lArr u8E 1 (by decide)) rfl (Fills.cons (lArr u8E 2 (by decide)) rfl (Fills.cons (lArr u8E 3 (by decide)) rfl Fills.nil))))) (rfl)) ?_))))
  refine cons (callv en17 (.cons (.c (v := U8 17) rfl) (.cons (.c (v := U8 0) rfl) (.cons (.t rfl) (.cons (.c (v := U16 9) rfl) .nil)))) (fun w I => packet_ok _ _ _ _ w) ?_)
  refine cons (callcv (.t rfl) en16 (.cons (.c (v := I 9) rfl) (.cons (.t rfl) .nil)) (fun w I => known1_to b1 x1.1 _ _ [] _ w (ptsVar (E' := ovE nilPtr) (by repeat first | exact mH | apply mT | apply mA) (Lens.id _) w I) (pl_at hpa (by repeat first | exact mH | apply mT | apply mA) w I) hpk (IsSl.nil _ w) (by simp) kV4) ?_)
  refine co (Ev.buildS (fs := _) (places := [(0, 1), (1, 1), (2, 1), (3, 1), (4, 1)]) z46 rfl Try.underlying46 (by kernel_rfl) (.cons (.c (v := I 2) rfl) (.cons (.c (v := I (-1)) rfl) (.cons (.c (v := I (-1)) rfl) (.cons (.c (v := I (-1)) rfl) (.cons (.c (v := I (-1)) rfl) .nil))))) (Fills.cons SVerdict.l_action rfl (Fills.cons SVerdict.l_out rfl (Fills.cons SVerdict.l_rule rfl (Fills.cons SVerdict.l_meter rfl (Fills.cons SVerdict.l_mirror rfl Fills.nil)))))) ?_
  refine co (Ev.to (v' := .bool true) (Ev.eqlS rfl eqok46 rfl (by kernel_rfl) (.t rfl) (.t rfl)) (rfl)) ?_
  refine asn rfl (nP (sg (co (Ev.assign (.c (v := (Go.Value.slice none 0 0)) rfl)) ?_)))
  refine takeNil iE 3 ?_
  refine nP (seq (sg (cons (callv en18 (.cons (.c (v := U8 10) rfl) (.cons (.c (v := U8 1) rfl) (.cons (.c (v := I 32) rfl) .nil))) (fun w I => four_ok _ _ _ w) ?_))))
  refine cons (callv en18 (.cons (.c (v := U8 10) rfl) (.cons (.c (v := U8 255) rfl) (.cons (.c (v := I 32) rfl) .nil))) (fun w I => four_ok _ _ _ w) ?_)
  refine cons (callv en18 (.cons (.c (v := U8 9) rfl) (.cons (.c (v := U8 0) rfl) (.cons (.c (v := I 32) rfl) .nil))) (fun w I => four_ok _ _ _ w) ?_)
  refine cons (buildSlice (E := ePrefix) Try.underlying72 ty53 z53 (.cons (.t rfl) (.cons (.t rfl) (.cons (.t rfl) .nil))) rfl rfl (fun v2 => ?_))
  refine co (Ev.len Try.underlying72 (.t rfl) (by first | exact isSl_own (by repeat first | exact mH | apply mT | apply mA) | exact fun w I => IsSl.keep0 (by assumption) I.keeps)) ?_
  refine co (Ev.move (.c (v := I 0) rfl)) ?_
  refine nP (block (lp (X := Int × OV) (fun x : Int × OV => (0 ≤ x.1 ∧ x.1 ≤ 3)) (fun x : Int × OV => [dz, (1, true, .pointer (some ⟨b1, 0, none⟩)), (4, true, .bool true), (5, true, .bool true), (6, true, .bool true), (7, true, .bool true), (8, true, x.2.v), (65, true, v2.v), (66, true, I 3), (67, true, I x.1)]) (fun x : Int × OV => [OwnS v2.v ePrefix kP 53, OwnS x.2.v iE ((kP.take x.1.toNat).map fR) 3, Var b1 (ovE nilPtr) (ptrV x1.1.b) 31, Seps Emp x1.2]) (fun x : Int × OV => (3 - x.1).toNat) (0, nilSl) ?_ (fun x hx => ?_)))
  · omega
  obtain ⟨i, o⟩ := x
  have hi : 0 ≤ i ∧ i ≤ 3 := hx
  clear hx
  show Sat _ _ [dz, (1, true, .pointer (some ⟨b1, 0, none⟩)), (4, true, .bool true), (5, true, .bool true), (6, true, .bool true), (7, true, .bool true), (8, true, o.v), (65, true, v2.v), (66, true, I 3), (67, true, I i)] [OwnS v2.v ePrefix kP 53, OwnS o.v iE ((kP.take i.toNat).map fR) 3, Var b1 (ovE nilPtr) (ptrV x1.1.b) 31, Seps Emp x1.2]
  have hkl : kP.length = 3 := rfl
  have hql : ((kP.take i.toNat).map fR).length ≤ 3 := by rw [List.length_map, List.length_take]; omega
  refine sg (co (Ev.lss_i (.t rfl) (.t rfl)) ?_)
  refine nP (seq ?_)
  first | refine condD rfl (fun h1 => ?_) (fun h1 => ?_) | refine cond rfl (fun h1 => ?_) (fun h1 => ?_)
  · try simp only [Gx.nb] at h1
    refine skip (pN (seq (block (sg (co (Ev.indexAddr Try.underlying72 ty53 (.t rfl) (.t rfl) (by first | exact isSl_own (by repeat first | exact mH | apply mT | apply mA) | exact fun w I => IsSl.keep0 (by assumption) I.keeps) (fun _ => by omega)) ?_)))))
    refine co (Ev.loadS0 ty53 (.t rfl) (by first | exact isSl_own (by repeat first | exact mH | apply mT | apply mA) | exact fun w I => IsSl.keep0 (by assumption) I.keeps) (fun _ => by omega)) ?_
    refine cons (alloc z53 (fun b3 => ?_))
    refine cons (stv ty53 (Lens.id _) (.t rfl) (.t rfl) ?_)
    refine nP (sg (co (Ev.to (v' := .pointer (some ⟨x1.1.b, 0, none⟩)) (Ev.ldv ty31 (.t rfl) (Lens.id _)) (rfl)) ?_))
    refine co (fA 0 (.t rfl)) ?_
    refine co (Ev.ldv ty37 (.t rfl) SPrefix.l_addr) ?_
    refine cons (callv en14 (.cons (.t rfl) (.cons (.t rfl) .nil)) (fun w I => route_plan x1.1 exL 1 (kP.getD i.toNat ePrefix.zero).addr w (pl_at hpa (by repeat first | exact mH | apply mT | apply mA) w I) hpk) ?_)
    refine mv rfl (co (Ev.extract (.t rfl) rfl) (co (Ev.extract (.t rfl) rfl) (asn rfl (asn rfl (nP (cut (X := Int) (fun x : Int => (x = fR (kP.getD i.toNat ePrefix.zero))) (fun x : Int => [dz, (1, true, .pointer (some ⟨b1, 0, none⟩)), (4, true, .bool true), (5, true, .bool true), (6, true, .bool true), (7, true, .bool true), (8, true, o.v), (11, true, I x), (65, true, v2.v), (66, true, I 3), (67, true, I i)]) (fun x : Int => [OwnS v2.v ePrefix kP 53, OwnS o.v iE ((kP.take i.toNat).map fR) 3, Var b1 (ovE nilPtr) (ptrV x1.1.b) 31, Seps Emp x1.2]) ?_ (fun x hx => ?_)))))))
    · refine sg (mv rfl (co (Ev.not (.t rfl)) ?_))
      refine nP ?_
      first | refine condD rfl (fun h2 => ?_) (fun h2 => ?_) | refine cond rfl (fun h2 => ?_) (fun h2 => ?_)
      · refine region (co (Ev.assign (.c (v := I (-1)) rfl)) ?_)
        refine nP (mtP (X := Int) (_) ?_)
        · try dsimp only
          unfold fR
          have h29 : (!(routeV exL.rs (kP.getD i.toNat ePrefix.zero).addr).2) = _ := h2
          cases hb : (routeV exL.rs (kP.getD i.toNat ePrefix.zero).addr).2 with
          | true => first | (rw [if_pos rfl]; done) | (rw [hb] at h29; cases h29; done) | (rw [if_pos rfl]; rfl)
          | false => first | (rw [hb] at h29; cases h29; done) | (rw [if_neg Bool.false_ne_true]; done) | (rw [if_neg Bool.false_ne_true]; rfl)
      · refine skip (pN (mtP (X := Int) (_) ?_))
        · try dsimp only
          unfold fR
          have h29 : (!(routeV exL.rs (kP.getD i.toNat ePrefix.zero).addr).2) = _ := h2
          cases hb : (routeV exL.rs (kP.getD i.toNat ePrefix.zero).addr).2 with
          | true => first | (rw [if_pos rfl]; done) | (rw [hb] at h29; cases h29; done) | (rw [if_pos rfl]; rfl)
          | false => first | (rw [hb] at h29; cases h29; done) | (rw [if_neg Bool.false_ne_true]; done) | (rw [if_neg Bool.false_ne_true]; rfl)
    obtain ⟨n, rfl⟩ : ∃ y, y = x := ⟨x, rfl⟩
    have hnn : n = fR (kP.getD i.toNat ePrefix.zero) := hx
    clear hx
    show Sat _ _ [dz, (1, true, .pointer (some ⟨b1, 0, none⟩)), (4, true, .bool true), (5, true, .bool true), (6, true, .bool true), (7, true, .bool true), (8, true, o.v), (11, true, I n), (65, true, v2.v), (66, true, I 3), (67, true, I i)] [OwnS v2.v ePrefix kP 53, OwnS o.v iE ((kP.take i.toNat).map fR) 3, Var b1 (ovE nilPtr) (ptrV x1.1.b) 31, Seps Emp x1.2]
    refine region (mv rfl (mv rfl (cons (buildSlice (E := iE) Try.underlying22 ty3 z3 (.cons (.t rfl) .nil) rfl rfl (fun v4 => ?_)))))
    refine cons (app (E := iE) Try.underlying22 ty3 zb3 zs3 (.t rfl) (.t rfl) (fun v5 => ?_) (hby := ⟨by (show _ ≤ 9223372036854775807); first | omega | (simp; done) | (simp; omega), by first | omega | (simp; done) | (simp; omega)⟩))
    refine asn rfl (nil (bN (pN (region (co (Ev.add_i (.t rfl) (.c (v := I 1) rfl) (fun _ => by omega)) ?_)))))
    refine mv rfl (nP (nxP (X := Int × OV) (i + 1, _) ?_ ?_ (hL := (by rw [take_snoc kP i hi.1 (by omega) ePrefix.zero, List.map_append, hnn]; repeat first | exact SubP.nil | refine SubP.cons (by repeat first | exact Rem.head | apply Rem.tail) ?_))))
    · try dsimp only
      omega
    · try dsimp only
      omega
  · try simp only [Gx.nb] at h1
    refine exit (pX (pX (bX (pN (seq ?_)))))
    have ei : (kP.take i.toNat).map fR = [3, 2, -1] := by
      rw [List.take_of_length_le (by show kP.length ≤ _; have : kP.length = 3 := rfl; omega)]; exact kP_r
    rw [ei]
    refine region (co (Ev.assign (.c (v := (Go.Value.pointer none)) rfl)) ?_)
    refine nP (sg (co (Ev.buildS (fs := _) (places := [(0, 6), (6, 1), (7, 1), (8, 1), (9, 1), (10, 1)]) z79 rfl Try.underlying79 (by kernel_rfl) .nil Fills.nil) ?_))
    refine cons (box (E := ePlanPlan) (.t rfl) (fun b6 => ?_))
    refine asn rfl (nP (sg (mv rfl (co (Ev.buildS (fs := _) (places := [(0, 17), (17, 17), (34, 1), (35, 1), (36, 1), (37, 1), (38, 1), (39, 1), (40, 1), (41, 1), (42, 1)]) z42 rfl Try.underlying42 (by kernel_rfl) .nil Fills.nil) ?_))))
    refine cons (callv en9 (.cons (.t rfl) (.cons (.c (v := I 1) rfl) (.cons (.t rfl) .nil))) (fun w I => decide_nil 1 _ w) ?_)
    refine mv rfl (co (Ev.extract (.t rfl) rfl) (co (Ev.extract (.t rfl) rfl) (cons (alloc z46 (fun b7 => ?_)))))
    refine cons (stv ty46 (Lens.id _) (.t rfl) (.t rfl) ?_)
    refine asn rfl (nP (sg (mv rfl (co (Ev.buildS (fs := _) (places := [(0, 17), (17, 17), (34, 1), (35, 1), (36, 1), (37, 1), (38, 1), (39, 1), (40, 1), (41, 1), (42, 1)]) z42 rfl Try.underlying42 (by kernel_rfl) .nil Fills.nil) ?_))))
    refine cons (callv en9 (.cons (.t rfl) (.cons (.c (v := I 1) rfl) (.cons (.t rfl) .nil))) (fun w I => decide_no b6 _ 1 _ w (ptsVar (E' := ePlanPlan) (by repeat first | exact mH | apply mT | apply mA) (Lens.id _) w I) rfl) ?_)
    refine mv rfl (co (Ev.extract (.t rfl) rfl) (co (Ev.extract (.t rfl) rfl) (cons (alloc z46 (fun b8 => ?_)))))
    refine cons (stv ty46 (Lens.id _) (.t rfl) (.t rfl) ?_)
    refine asn rfl (nP (sg (mv rfl (co (Ev.buildS (fs := _) (places := [(0, 1), (1, 16)]) z37 rfl Try.underlying37 (by kernel_rfl) .nil Fills.nil) ?_))))
    refine cons (callv en14 (.cons (.t rfl) (.cons (.t rfl) .nil)) (fun w I => route_nil _ w) ?_)
    refine mv rfl (co (Ev.extract (.t rfl) rfl) (co (Ev.extract (.t rfl) rfl) (asn rfl (asn rfl (nP (sg (mv rfl (co (Ev.buildS (fs := _) (places := [(0, 1), (1, 16)]) z37 rfl Try.underlying37 (by kernel_rfl) .nil Fills.nil) ?_))))))))
    refine cons (callv en14 (.cons (.t rfl) (.cons (.t rfl) .nil)) (fun w I => route_no b6 _ _ w (ptsVar (E' := ePlanPlan) (by repeat first | exact mH | apply mT | apply mA) (Lens.id _) w I) rfl) ?_)
    refine mv rfl (co (Ev.extract (.t rfl) rfl) (co (Ev.extract (.t rfl) rfl) (asn rfl (asn rfl (nP (sg (mv rfl (co (Ev.to (v' := .bool true) (Ev.eql_i (.t rfl) (.c (v := I 1) rfl)) (rfl)) ?_))))))))
    refine mv rfl (cg rfl rfl (Ev.move (.t rfl)) ?_)
    refine cg rfl rfl (Ev.to (v' := .bool true) (Ev.eql_i (.g rfl id) (.c (v := I 1) rfl)) (rfl)) ?_
    refine co (Ev.pkA (.t rfl) rfl) ?_
    refine mv rfl (cg rfl rfl (Ev.move (.t rfl)) ?_)
    refine cg rfl rfl (Ev.not (.g rfl id)) ?_
    refine co (Ev.pkA (.t rfl) rfl) ?_
    refine mv rfl (cg rfl rfl (Ev.move (.t rfl)) ?_)
    refine cg rfl rfl (Ev.not (.g rfl id)) ?_
    refine co (Ev.pkA (.t rfl) rfl) ?_
    refine mv rfl (cg rfl rfl (Ev.move (.t rfl)) ?_)
    refine cons (callg rfl rfl en13 (.cons (.g rfl id) .nil) (fun hg w I => confv_nil w) ?_)
    refine cg rfl rfl (Ev.fieldS (o := 0) (e := 22) rfl (by kernel_rfl) ty22 SConf.l_ports (.g rfl id)) ?_
    refine cg rfl rfl (Ev.len (E := iE) (v := nilSl.v) (xs := ([] : List Int)) Try.underlying22 (.g rfl id) (fun w I => IsSl.nil _ w)) ?_
    refine cg rfl rfl (Ev.eql_i (.g rfl id) (.c (v := I 0) rfl)) ?_
    refine co (Ev.pkA (.t rfl) rfl) ?_
    refine mv rfl (cg rfl rfl (Ev.move (.t rfl)) ?_)
    refine cons (callg rfl rfl en13 (.cons (.g rfl id) .nil) (fun hg w I => confv_nil w) ?_)
    refine cg rfl rfl (Ev.fieldS (o := 5) (e := 3) rfl (by kernel_rfl) ty3 SConf.l_default (.g rfl id)) ?_
    refine cg rfl rfl (Ev.eql_i (.g rfl id) (.c (v := I 0) rfl)) ?_
    refine co (Ev.pkA (.t rfl) rfl) ?_
    refine mv rfl (cg rfl rfl (Ev.move (.t rfl)) ?_)
    refine cons (callg rfl rfl en13 (.cons (.g rfl id) .nil) (fun hg w I => confv_no b6 _ w (ptsVar (E' := ePlanPlan) (by repeat first | exact mH | apply mT | apply mA) (Lens.id _) w I) rfl) ?_)
    refine cg rfl rfl (Ev.fieldS (o := 5) (e := 3) rfl (by kernel_rfl) ty3 SConf.l_default (.g rfl id)) ?_
    refine cg rfl rfl (Ev.eql_i (.g rfl id) (.c (v := I 0) rfl)) ?_
    refine co (Ev.pkA (.t rfl) rfl) ?_
    refine mv rfl (cg rfl rfl (Ev.move (.t rfl)) ?_)
    refine cg rfl rfl (Ev.move (.t rfl)) ?_
    refine cg rfl rfl (Ev.buildS (fs := _) (places := [(0, 17), (17, 17), (34, 1), (35, 1), (36, 1), (37, 1), (38, 1), (39, 1), (40, 1), (41, 1), (42, 1)]) z42 rfl Try.underlying42 (by kernel_rfl) .nil Fills.nil) ?_
    refine cons (callg rfl rfl en19 (.cons (.g rfl id) (.cons (.g rfl id) (.cons (.c (v := I 1) rfl) (.cons (.g rfl id) .nil)))) (fun hg w I => like_bad (.pointer (some ⟨b6, 0, none⟩)) (.pointer (some ⟨b6, 0, none⟩)) 1 _ eVerdict.zero eVerdict.zero 1 1 w (fun w1 k => decide_no b6 _ 1 _ w1 ((ptsVar (E' := ePlanPlan) (by repeat first | exact mH | apply mT | apply mA) (Lens.id _) w I).keep k) rfl) (fun w1 k => decide_no b6 _ 1 _ w1 ((ptsVar (E' := ePlanPlan) (by repeat first | exact mH | apply mT | apply mA) (Lens.id _) w I).keep k) rfl) (.inl (by decide))) ?_)
    refine cg rfl rfl (Ev.not (.g rfl id)) ?_
    refine co (Ev.to (v' := .bool true) (Ev.pkA (.t rfl) rfl) (rfl)) ?_
    refine co (Ev.to (v' := .bool true) (Ev.assign (.t rfl)) (rfl)) ?_
    refine nP (sg (co (Ev.to (v' := .pointer (some ⟨x1.1.b, 0, none⟩)) (Ev.ldv ty31 (.t rfl) (Lens.id _)) (rfl)) ?_))
    refine co (Ev.to (v' := eHeader.val hF1) (Ev.buildS (fs := _) (places := [(0, 17), (17, 17), (34, 1), (35, 1), (36, 1), (37, 1), (38, 1), (39, 1), (40, 1), (41, 1), (42, 1)]) z42 rfl Try.underlying42 (by kernel_rfl) (.cons (.c (v := U8 1) rfl) .nil) (Fills.cons SHeader.l_flags rfl Fills.nil)) (rfl)) ?_
    refine cons (callv en9 (.cons (.t rfl) (.cons (.c (v := I 1) rfl) (.cons (.t rfl) .nil))) (fun w I => decide_to x1.1 exL 1 1 hF1 [] _ 2 w (pl_at hpa (by repeat first | exact mH | apply mT | apply mA) w I) hpk (IsSl.nil _ w) (by simp) rfl kE1) ?_)
    refine mv rfl (co (Ev.extract (.t rfl) rfl) (co (Ev.extract (.t rfl) rfl) (cons (alloc z46 (fun b9 => ?_)))))
    refine cons (stv ty46 (Lens.id _) (.t rfl) (.t rfl) ?_)
    refine asn rfl (nP (cut (X := Unit) (fun _ : Unit => True) (fun _ : Unit => [dz, (1, true, .pointer (some ⟨b1, 0, none⟩)), (4, true, .bool true), (5, true, .bool true), (6, true, .bool true), (7, true, .bool true), (8, true, o.v), (23, true, .bool true), (25, true, I 2), (27, true, I 0)]) (fun _ : Unit => [OwnS o.v iE [3, 2, -1] 3]) ?_ (fun x hx => ?_)))
    · refine draw [Var b1 (ovE nilPtr) (ptrV x1.1.b) 31] (by kernel_rfl) ?_
      refine tk 0 rfl (Ev.to (v' := .pointer (some ⟨x1.1.b, 0, none⟩)) (Ev.ldv ty31 (.t rfl) (Lens.id _)) (rfl)) ?_
      refine all [1, 7] (by kernel_rfl) (by decide) (.cons rfl ?_ (.cons rfl ?_ .nil))
      · refine (makeSl (E := u8E) Try.underlying40 ty5 rfl zb5 (.c (v := I 3000) rfl) (.c (v := I 3000) rfl) ⟨by decide, by decide⟩ ⟨by decide, by decide⟩ (fun mk1 => ?_))
        obtain ⟨V2, hV2⟩ : ∃ z, dvV exL 1 1 { eHeader.zero with data := mk1 } (List.replicate 3000 (0 : UInt8)).length = z := ⟨_, rfl⟩
        refine hdn (tk 2 rfl (Ev.buildS (fs := _) (places := [(0, 17), (17, 17), (34, 1), (35, 1), (36, 1), (37, 1), (38, 1), (39, 1), (40, 1), (41, 1), (42, 1)]) z42 rfl Try.underlying42 (by kernel_rfl) (.cons (.t rfl) .nil) (Fills.cons SHeader.l_data rfl Fills.nil)) ?_)
        refine all [3, 7] (by kernel_rfl) (by decide) (.cons rfl ?_ (.cons rfl ?_ .nil))
        · refine (callv en9 (.cons (.t rfl) (.cons (.c (v := I 1) rfl) (.cons (.t rfl) .nil))) (fun w I => decide_to x1.1 exL 1 1 { eHeader.zero with data := mk1 } (List.replicate 3000 0) V2 0 w (pl_at hpa (by repeat first | exact mH | apply mT | apply mA) w I) hpk (io w I) (by rw [List.length_replicate]; decide) hV2 (by rw [List.length_replicate]; exact kE2 mk1)) ?_)
          refine hdn (tk 4 rfl (Ev.move (.t rfl)) ?_)
          refine tk 5 rfl (Ev.extract (.t rfl) rfl) ?_
          refine tk 6 rfl (Ev.extract (.t rfl) rfl) ?_
          refine al1 7 rfl ((alloc z46 (fun b10 => ?_)))
          refine hdn (al1 8 rfl ((stv ty46 (Lens.id _) (.t rfl) (.t rfl) ?_)))
          refine hdn (tk 9 rfl (Ev.assign (.t rfl)) ?_)
          refine ovr (pN (mtP (X := Unit) () trivial))
        · refine (alloc z46 (fun b11 => ?_))
          refine hdn (al1 3 rfl ((callv en9 (.cons (.t rfl) (.cons (.c (v := I 1) rfl) (.cons (.t rfl) .nil))) (fun w I => decide_to x1.1 exL 1 1 { eHeader.zero with data := mk1 } (List.replicate 3000 0) V2 0 w (pl_at hpa (by repeat first | exact mH | apply mT | apply mA) w I) hpk (io w I) (by rw [List.length_replicate]; decide) hV2 (by rw [List.length_replicate]; exact kE2 mk1)) ?_)))
          refine hdn (tk 4 rfl (Ev.move (.t rfl)) ?_)
          refine tk 5 rfl (Ev.extract (.t rfl) rfl) ?_
          refine tk 6 rfl (Ev.extract (.t rfl) rfl) ?_
          refine al1 8 rfl ((stv ty46 (Lens.id _) (.t rfl) (.t rfl) ?_))
          refine hdn (tk 9 rfl (Ev.assign (.t rfl)) ?_)
          refine ovr (pN (mtP (X := Unit) () trivial))
      · refine (alloc z46 (fun b12 => ?_))
        refine hdn (al1 1 rfl ((makeSl (E := u8E) Try.underlying40 ty5 rfl zb5 (.c (v := I 3000) rfl) (.c (v := I 3000) rfl) ⟨by decide, by decide⟩ ⟨by decide, by decide⟩ (fun mk1 => ?_))))
        obtain ⟨V2, hV2⟩ : ∃ z, dvV exL 1 1 { eHeader.zero with data := mk1 } (List.replicate 3000 (0 : UInt8)).length = z := ⟨_, rfl⟩
        refine hdn (tk 2 rfl (Ev.buildS (fs := _) (places := [(0, 17), (17, 17), (34, 1), (35, 1), (36, 1), (37, 1), (38, 1), (39, 1), (40, 1), (41, 1), (42, 1)]) z42 rfl Try.underlying42 (by kernel_rfl) (.cons (.t rfl) .nil) (Fills.cons SHeader.l_data rfl Fills.nil)) ?_)
        refine al1 3 rfl ((callv en9 (.cons (.t rfl) (.cons (.c (v := I 1) rfl) (.cons (.t rfl) .nil))) (fun w I => decide_to x1.1 exL 1 1 { eHeader.zero with data := mk1 } (List.replicate 3000 0) V2 0 w (pl_at hpa (by repeat first | exact mH | apply mT | apply mA) w I) hpk (io w I) (by rw [List.length_replicate]; decide) hV2 (by rw [List.length_replicate]; exact kE2 mk1)) ?_))
        refine hdn (tk 4 rfl (Ev.move (.t rfl)) ?_)
        refine tk 5 rfl (Ev.extract (.t rfl) rfl) ?_
        refine tk 6 rfl (Ev.extract (.t rfl) rfl) ?_
        refine al1 8 rfl ((stv ty46 (Lens.id _) (.t rfl) (.t rfl) ?_))
        refine hdn (tk 9 rfl (Ev.assign (.t rfl)) ?_)
        refine ovr (pN (mtP (X := Unit) () trivial))
    show Sat _ _ [dz, (1, true, .pointer (some ⟨b1, 0, none⟩)), (4, true, .bool true), (5, true, .bool true), (6, true, .bool true), (7, true, .bool true), (8, true, o.v), (23, true, .bool true), (25, true, I 2), (27, true, I 0)] [OwnS o.v iE [3, 2, -1] 3]
    refine sg (co (Ev.buildS (fs := _) (places := [(0, 1), (1, 1), (2, 1), (3, 1), (4, 1), (5, 1)]) z28 rfl Try.underlying28 (by kernel_rfl) .nil Fills.nil) ?_)
    refine cons (calln (X := Pl × List Res) (CompileJ emL 0) (fun x : Pl × List Res => .tuple #[.pointer (plO emL 0 x.1.b), I (plE emL 0)]) (fun x => x.2) en8 (.cons (.t rfl) .nil) (fun w I => compile_plan eConf.zero emL w ⟨IsSl.nil _ w, IsSl.nil _ w, IsSl.nil _ w, IsSl.nil _ w, IsSl.nil _ w⟩ emL_names (by decide)) (fun x9 hx9 => ?_))
    refine mv rfl (co (Ev.extract (.t rfl) rfl) (co (Ev.to (v' := I 210) (Ev.extract (.t rfl) rfl) (congrArg Gx.I kM)) ?_))
    refine asn rfl (asn rfl (nP (sg (co (Ev.move (.c (v := .bool true) rfl)) ?_))))
    refine cons (callg rfl rfl en7 .nil (fun hg w I => works_ok w) ?_)
    refine co (Ev.pkA (.t rfl) rfl) ?_
    refine mv rfl (cg rfl rfl (Ev.move (.t rfl)) ?_)
    refine co (Ev.pkA (.t rfl) rfl) ?_
    refine mv rfl (cg rfl rfl (Ev.move (.t rfl)) ?_)
    refine co (Ev.pkA (.t rfl) rfl) ?_
    refine mv rfl (cg rfl rfl (Ev.move (.t rfl)) ?_)
    refine co (Ev.pkA (.t rfl) rfl) ?_
    refine mv rfl (cg rfl rfl (Ev.move (.t rfl)) ?_)
    refine co (Ev.pkA (.t rfl) rfl) ?_
    refine mv rfl (cg rfl rfl (Ev.move (.t rfl)) ?_)
    refine cg rfl rfl (Ev.indexAddr Try.underlying22 ty3 (.g rfl id) (.c (v := I 0) rfl) (by first | exact isSl_own (by repeat first | exact mH | apply mT | apply mA) | exact fun w I => IsSl.keep0 (by assumption) I.keeps) (fun _ => by first | decide | simp)) ?_
    refine cg rfl rfl (Ev.loadS0 (i := 0) ty3 (.g rfl id) (by first | exact isSl_own (by repeat first | exact mH | apply mT | apply mA) | exact fun w I => IsSl.keep0 (by assumption) I.keeps) (fun _ => by first | decide | simp)) ?_
    refine cg rfl rfl (Ev.to (v' := .bool true) (Ev.eql_i (.g rfl id) (.c (v := I 3) rfl)) (rfl)) ?_
    refine co (Ev.pkA (.t rfl) rfl) ?_
    refine mv rfl (cg rfl rfl (Ev.move (.t rfl)) ?_)
    refine cg rfl rfl (Ev.indexAddr Try.underlying22 ty3 (.g rfl id) (.c (v := I 1) rfl) (by first | exact isSl_own (by repeat first | exact mH | apply mT | apply mA) | exact fun w I => IsSl.keep0 (by assumption) I.keeps) (fun _ => by first | decide | simp)) ?_
    refine cg rfl rfl (Ev.loadS0 (i := 1) ty3 (.g rfl id) (by first | exact isSl_own (by repeat first | exact mH | apply mT | apply mA) | exact fun w I => IsSl.keep0 (by assumption) I.keeps) (fun _ => by first | decide | simp)) ?_
    refine cg rfl rfl (Ev.to (v' := .bool true) (Ev.eql_i (.g rfl id) (.c (v := I 2) rfl)) (rfl)) ?_
    refine co (Ev.pkA (.t rfl) rfl) ?_
    refine mv rfl (cg rfl rfl (Ev.move (.t rfl)) ?_)
    refine cg rfl rfl (Ev.indexAddr Try.underlying22 ty3 (.g rfl id) (.c (v := I 2) rfl) (by first | exact isSl_own (by repeat first | exact mH | apply mT | apply mA) | exact fun w I => IsSl.keep0 (by assumption) I.keeps) (fun _ => by first | decide | simp)) ?_
    refine cg rfl rfl (Ev.loadS0 (i := 2) ty3 (.g rfl id) (by first | exact isSl_own (by repeat first | exact mH | apply mT | apply mA) | exact fun w I => IsSl.keep0 (by assumption) I.keeps) (fun _ => by first | decide | simp)) ?_
    refine cg rfl rfl (Ev.to (v' := .bool true) (Ev.eql_i (.g rfl id) (.c (v := I (-1)) rfl)) (rfl)) ?_
    refine co (Ev.pkA (.t rfl) rfl) ?_
    refine mv rfl (cg rfl rfl (Ev.move (.t rfl)) ?_)
    refine co (Ev.pkA (.t rfl) rfl) ?_
    refine mv rfl (cg rfl rfl (Ev.move (.t rfl)) ?_)
    refine cg rfl rfl (Ev.to (v' := .bool true) (Ev.eql_i (.g rfl id) (.c (v := I 2) rfl)) (rfl)) ?_
    refine co (Ev.pkA (.t rfl) rfl) ?_
    refine mv rfl (cg rfl rfl (Ev.move (.t rfl)) ?_)
    refine cg rfl rfl (Ev.to (v' := .bool true) (Ev.eql_i (.g rfl id) (.c (v := I 0) rfl)) (rfl)) ?_
    refine co (Ev.pkA (.t rfl) rfl) ?_
    refine mv rfl (cg rfl rfl (Ev.move (.t rfl)) ?_)
    refine cg rfl rfl (Ev.to (v' := .bool true) (Ev.eql_i (.g rfl id) (.c (v := I 210) rfl)) (rfl)) ?_
    refine co (Ev.pkA (.t rfl) rfl) ?_
    refine asn rfl (nP (ret (done rfl (.tmp rfl .nil) (retE ?_))))
    rfl
end Go.Proofs.Ytmdkmclgfgaahaa
