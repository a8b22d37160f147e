/- Part. -/
import Derived.Test.YtnoobdijbpmjkaaGreatM4
set_option linter.unusedVariables false
set_option linter.unusedSimpArgs false
set_option linter.unusedSectionVars false
namespace Go.Proofs.YtnoobdijbpmjkaaGreat
open Go Go.Gx
theorem isSl_all {α : Type} {E : Enc α} {w : World} {v : Value} {l : List α} {x : α} (h : IsSl E w v (l ++ [x])) : IsSl E w (subS E.size v 0 (l.length + 1)) (l ++ [x]) := by
  have := h.sub (l := 0) (k := l.length + 1) (by omega) (by simp)
  rwa [List.take_of_length_le (by simp), List.drop_zero] at this
theorem getD_mark {α : Type} (l : List α) (x z : α) (i : Nat) (h : i = l.length) : (l ++ [x]).getD i z = x := by
  subst h
  simp [List.getD]
theorem marked_ok (y : CB) (l : CL) (d : Int) (w : World) (hm : ConfAt w (y.c d) (markL l)) : Calls Tryz.prog 19 #[eConf.val ((subC y l).c d)] w (RetV w (.bool true)) := by
  have hs := hm.sub
  have hm0 : IsSl iE w y.o1.v (l.ps ++ [(777 : Int)]) := hm.ps
  have hle0 := hm0.le
  rw [List.length_append, List.length_singleton] at hle0
  have hm1 : IsSl eRoute w y.o2.v (l.rs ++ [mkRo]) := hm.rs
  have hle1 := hm1.le
  rw [List.length_append, List.length_singleton] at hle1
  have hm2 : IsSl eRule w y.o3.v (l.us ++ [mkRu]) := hm.us
  have hle2 := hm2.le
  rw [List.length_append, List.length_singleton] at hle2
  have hm3 : IsSl eMeterConf w y.o4.v (l.ms ++ [mkMe]) := hm.ms
  have hle3 := hm3.le
  rw [List.length_append, List.length_singleton] at hle3
  have hm4 : IsSl eMirrorConf w y.o5.v (l.xs ++ [mkMi]) := hm.xs
  have hle4 := hm4.le
  rw [List.length_append, List.length_singleton] at hle4
  refine en0 80 Tryz.func19 ?_
  refine sg (cons (box (E := eConf) (.t rfl) (fun b1 => ?_)))
  refine co (Ev.assign (.c (v := .bool false) rfl)) ?_
  refine nP (seq (draw' zk ?_))
  refine tk 0 rfl (fA 0 (.t rfl)) ?_
  refine tk 1 rfl (Ev.ldv ty22 (.t rfl) SConf.l_ports) ?_
  refine tk 2 rfl (Ev.len Tryz.underlying22 (.t rfl) (fun w I => (hs.keep0 I.keeps).ps)) ?_
  refine tk 3 rfl (fA 1 (.t rfl)) ?_
  refine tk 4 rfl (Ev.ldv ty23 (.t rfl) SConf.l_routes) ?_
  refine tk 5 rfl (Ev.len Tryz.underlying23 (.t rfl) (fun w I => (hs.keep0 I.keeps).rs)) ?_
  refine tk 6 rfl (fA 2 (.t rfl)) ?_
  refine tk 7 rfl (Ev.ldv ty24 (.t rfl) SConf.l_rules) ?_
  refine tk 8 rfl (Ev.len Tryz.underlying24 (.t rfl) (fun w I => (hs.keep0 I.keeps).us)) ?_
  refine tk 9 rfl (fA 3 (.t rfl)) ?_
  refine tk 10 rfl (Ev.ldv ty25 (.t rfl) SConf.l_meters) ?_
  refine tk 11 rfl (Ev.len Tryz.underlying25 (.t rfl) (fun w I => (hs.keep0 I.keeps).ms)) ?_
  refine tk 12 rfl (fA 4 (.t rfl)) ?_
  refine tk 13 rfl (Ev.ldv ty26 (.t rfl) SConf.l_mirrors) ?_
  refine tk 14 rfl (Ev.len Tryz.underlying26 (.t rfl) (fun w I => (hs.keep0 I.keeps).xs)) ?_
  refine tk 15 rfl (Ev.assign (.t rfl)) ?_
  refine tk 16 rfl (Ev.assign (.t rfl)) ?_
  refine tk 17 rfl (Ev.assign (.t rfl)) ?_
  refine tk 18 rfl (Ev.assign (.t rfl)) ?_
  refine tk 19 rfl (Ev.assign (.t rfl)) ?_
  refine ovr (pN (sg (co (fA 0 (.t rfl)) ?_)))
  refine co (Ev.ldv ty22 (.t rfl) SConf.l_ports) ?_
  refine mv rfl (co (Ev.add_i (.t rfl) (.c (v := I 1) rfl) (fun _ => zo)) ?_)
  refine co (Ev.sliceUpH (n := l.ps.length) (xs := l.ps ++ [(777 : Int)]) Tryz.underlying22 ty3 (.t rfl) (.t rfl) (fun w I => hm0.keep0 I.keeps) (fun _ => zl)) ?_
  refine mv rfl (co (Ev.indexAddr Tryz.underlying22 ty3 (.t rfl) (.t rfl) (fun w I => isSl_all (hm0.keep0 I.keeps)) (fun _ => zl)) ?_)
  refine co (Ev.to (v' := I 777) (Ev.loadS0 ty3 (.t rfl) (fun w I => isSl_all (hm0.keep0 I.keeps)) (fun _ => zl)) (congrArg I (getD_mark l.ps 777 _ _ (by omega)))) ?_
  refine co (Ev.to (v' := .bool true) (Ev.eql_i (.t rfl) (.c (v := I 777) rfl)) (rfl)) ?_
  refine mv rfl (cg rfl rfl (fA 1 (.t rfl)) ?_)
  refine cg rfl rfl (Ev.ldv ty23 (.g rfl id) SConf.l_routes) ?_
  refine cg rfl rfl (Ev.move (.t rfl)) ?_
  refine cg rfl rfl (Ev.add_i (.g rfl id) (.c (v := I 1) rfl) (fun _ => by first | omega | (rename_i hg; simp at hg; omega))) ?_
  refine cg rfl rfl (Ev.sliceUpH (n := l.rs.length) (xs := l.rs ++ [mkRo]) Tryz.underlying23 ty52 (.g rfl id) (.g rfl id) (fun w I => hm1.keep0 I.keeps) (fun _ => zl)) ?_
  refine cg rfl rfl (Ev.move (.t rfl)) ?_
  refine cg rfl rfl (Ev.indexAddr Tryz.underlying23 ty52 (.g rfl id) (.g rfl id) (fun w I => isSl_all (hm1.keep0 I.keeps)) (fun _ => zl)) ?_
  refine cg rfl rfl (Ev.fieldAddrS (o := 18) (i := (l.rs.length : Int)) (.g rfl id) (fun w I => isSl_all (hm1.keep0 I.keeps)) (fun _ => zl) zk) ?_
  refine cg rfl rfl (Ev.to (v' := I 777) (Ev.loadS ty3 SRoute.l_out rfl (.g rfl id) (fun w I => isSl_all (hm1.keep0 I.keeps)) (fun _ => zl)) (congrArg (fun z => I (SRoute.l_out.get z)) (getD_mark l.rs mkRo _ _ (by omega)))) ?_
  refine cg rfl rfl (Ev.to (v' := .bool true) (Ev.eql_i (.g rfl id) (.c (v := I 777) rfl)) (rfl)) ?_
  refine co (Ev.to (v' := .bool true) (Ev.pkA (.t rfl) rfl) (rfl)) ?_
  refine mv rfl (cg rfl rfl (fA 2 (.t rfl)) ?_)
  refine cg rfl rfl (Ev.ldv ty24 (.g rfl id) SConf.l_rules) ?_
  refine cg rfl rfl (Ev.move (.t rfl)) ?_
  refine cg rfl rfl (Ev.add_i (.g rfl id) (.c (v := I 1) rfl) (fun _ => by first | omega | (rename_i hg; simp at hg; omega))) ?_
  refine cg rfl rfl (Ev.sliceUpH (n := l.us.length) (xs := l.us ++ [mkRu]) Tryz.underlying24 ty76 (.g rfl id) (.g rfl id) (fun w I => hm2.keep0 I.keeps) (fun _ => zl)) ?_
  refine cg rfl rfl (Ev.move (.t rfl)) ?_
  refine cg rfl rfl (Ev.indexAddr Tryz.underlying24 ty76 (.g rfl id) (.g rfl id) (fun w I => isSl_all (hm2.keep0 I.keeps)) (fun _ => zl)) ?_
  refine cg rfl rfl (Ev.fieldAddrS (o := 46) (i := (l.us.length : Int)) (.g rfl id) (fun w I => isSl_all (hm2.keep0 I.keeps)) (fun _ => zl) zk) ?_
  refine cg rfl rfl (Ev.to (v' := I 777) (Ev.loadS ty3 SRule.l_out rfl (.g rfl id) (fun w I => isSl_all (hm2.keep0 I.keeps)) (fun _ => zl)) (congrArg (fun z => I (SRule.l_out.get z)) (getD_mark l.us mkRu _ _ (by omega)))) ?_
  refine cg rfl rfl (Ev.to (v' := .bool true) (Ev.eql_i (.g rfl id) (.c (v := I 777) rfl)) (rfl)) ?_
  refine co (Ev.to (v' := .bool true) (Ev.pkA (.t rfl) rfl) (rfl)) ?_
  refine mv rfl (cg rfl rfl (fA 3 (.t rfl)) ?_)
  refine cg rfl rfl (Ev.ldv ty25 (.g rfl id) SConf.l_meters) ?_
  refine cg rfl rfl (Ev.move (.t rfl)) ?_
  refine cg rfl rfl (Ev.add_i (.g rfl id) (.c (v := I 1) rfl) (fun _ => by first | omega | (rename_i hg; simp at hg; omega))) ?_
  refine cg rfl rfl (Ev.sliceUpH (n := l.ms.length) (xs := l.ms ++ [mkMe]) Tryz.underlying25 ty57 (.g rfl id) (.g rfl id) (fun w I => hm3.keep0 I.keeps) (fun _ => zl)) ?_
  refine cg rfl rfl (Ev.move (.t rfl)) ?_
  refine cg rfl rfl (Ev.indexAddr Tryz.underlying25 ty57 (.g rfl id) (.g rfl id) (fun w I => isSl_all (hm3.keep0 I.keeps)) (fun _ => zl)) ?_
  refine cg rfl rfl (Ev.fieldAddrS (o := 0) (i := (l.ms.length : Int)) (.g rfl id) (fun w I => isSl_all (hm3.keep0 I.keeps)) (fun _ => zl) zk) ?_
  refine cg rfl rfl (Ev.to (v' := .string ⟨#[55, 55, 55]⟩) (Ev.loadS ty9 SMeterConf.l_name rfl (.g rfl id) (fun w I => isSl_all (hm3.keep0 I.keeps)) (fun _ => zl)) (congrArg (fun z => Value.string (SMeterConf.l_name.get z)) (getD_mark l.ms mkMe _ _ (by omega)))) ?_
  refine cg rfl rfl (Ev.to (v' := .bool true) (Ev.eql_s (.g rfl id) (.c (v := (Go.Value.string (ByteArray.mk #[55, 55, 55]))) rfl)) (rfl)) ?_
  refine co (Ev.to (v' := .bool true) (Ev.pkA (.t rfl) rfl) (rfl)) ?_
  refine mv rfl (cg rfl rfl (fA 4 (.t rfl)) ?_)
  refine cg rfl rfl (Ev.ldv ty26 (.g rfl id) SConf.l_mirrors) ?_
  refine cg rfl rfl (Ev.move (.t rfl)) ?_
  refine cg rfl rfl (Ev.add_i (.g rfl id) (.c (v := I 1) rfl) (fun _ => by first | omega | (rename_i hg; simp at hg; omega))) ?_
  refine cg rfl rfl (Ev.sliceUpH (n := l.xs.length) (xs := l.xs ++ [mkMi]) Tryz.underlying26 ty59 (.g rfl id) (.g rfl id) (fun w I => hm4.keep0 I.keeps) (fun _ => zl)) ?_
  refine cg rfl rfl (Ev.move (.t rfl)) ?_
  refine cg rfl rfl (Ev.indexAddr Tryz.underlying26 ty59 (.g rfl id) (.g rfl id) (fun w I => isSl_all (hm4.keep0 I.keeps)) (fun _ => zl)) ?_
  refine cg rfl rfl (Ev.fieldAddrS (o := 1) (i := (l.xs.length : Int)) (.g rfl id) (fun w I => isSl_all (hm4.keep0 I.keeps)) (fun _ => zl) zk) ?_
  refine cg rfl rfl (Ev.to (v' := I 777) (Ev.loadS ty3 SMirrorConf.l_out rfl (.g rfl id) (fun w I => isSl_all (hm4.keep0 I.keeps)) (fun _ => zl)) (congrArg (fun z => I (SMirrorConf.l_out.get z)) (getD_mark l.xs mkMi _ _ (by omega)))) ?_
  refine cg rfl rfl (Ev.to (v' := .bool true) (Ev.eql_i (.g rfl id) (.c (v := I 777) rfl)) (rfl)) ?_
  refine co (Ev.to (v' := .bool true) (Ev.pkA (.t rfl) rfl) (rfl)) ?_
  refine asn rfl (nP (ret (done rfl (.tmp rfl .nil) (retE ?_))))
  rfl
abbrev OC (x : CB) (l : CL) : Res := Seps (OwnS x.o1.v iE l.ps 3) [OwnS x.o2.v eRoute l.rs 52, OwnS x.o3.v eRule l.us 76, OwnS x.o4.v eMeterConf l.ms 57, OwnS x.o5.v eMirrorConf l.xs 59]
theorem spoil_ok (y : CB) (l : CL) (d : Int) (w : World) (h : At (OC y l) w) (hl : l.Small) : Calls Tryz.prog 18 #[eConf.val (y.c d)] w (RetR w (OC y l) (fun _ : Unit => True) (fun _ => .tuple #[]) (fun _ => Emp)) := by
  obtain ⟨hl0, hl1, hl2, hl3, hl4⟩ := hl
  refine enter (OC y l).foot 100 [OC y l] Tryz.func18 rfl rfl (Nat.le_of_ble_eq_true rfl) (start_at h) ?_
  refine sepsOut Rem.head ?_
  refine sg (cons (box (E := eConf) (.t rfl) (fun b1 => ?_)))
  refine nP (seq (sg (co (Ev.assign (.c (v := I 0) rfl)) ?_)))
  refine nP (block (lp (X := Int × (List Int)) (fun x : Int × (List Int) => (0 ≤ x.1 ∧ x.1 ≤ l.ps.length) ∧ (x.2.length = l.ps.length)) (fun x : Int × (List Int) => [(1, true, .pointer (some ⟨b1, 0, none⟩)), (2, true, I x.1)]) (fun x : Int × (List Int) => [Var b1 eConf (y.c d) 28, OwnS y.o1.v iE x.2 3, OwnS y.o2.v eRoute l.rs 52, OwnS y.o3.v eRule l.us 76, OwnS y.o4.v eMeterConf l.ms 57, OwnS y.o5.v eMirrorConf l.xs 59]) (fun x : Int × (List Int) => ((l.ps.length : Int) - x.1).toNat) (0, l.ps) ⟨?_, ?_⟩ (fun x hx => ?_)))
  · omega
  · rfl
  obtain ⟨i0, y1⟩ := x
  obtain ⟨hi0, hy0⟩ : (0 ≤ i0 ∧ i0 ≤ l.ps.length) ∧ (y1.length = l.ps.length) := hx
  show Sat _ _ [(1, true, .pointer (some ⟨b1, 0, none⟩)), (2, true, I i0)] [Var b1 eConf (y.c d) 28, OwnS y.o1.v iE y1 3, OwnS y.o2.v eRoute l.rs 52, OwnS y.o3.v eRule l.us 76, OwnS y.o4.v eMeterConf l.ms 57, OwnS y.o5.v eMirrorConf l.xs 59]
  refine seq (sg (mv rfl (co (fA 0 (.t rfl)) ?_)))
  refine co (Ev.to (v' := y.o1.v) (Ev.ldv ty22 (.t rfl) SConf.l_ports) (rfl)) ?_
  refine co (Ev.len Tryz.underlying22 (.t rfl) zf) ?_
  refine co (Ev.lss_i (.t rfl) (.t rfl)) ?_
  refine nP ?_
  first | refine condD rfl (fun h0 => ?_) (fun h0 => ?_) | refine cond rfl (fun h0 => ?_) (fun h0 => ?_)
  · try simp only [nb] at h0
    refine skip (pN (seq (block (region (co (fA 0 (.t rfl)) ?_)))))
    refine co (Ev.to (v' := y.o1.v) (Ev.ldv ty22 (.t rfl) SConf.l_ports) (rfl)) ?_
    refine mv rfl (co (Ev.indexAddr Tryz.underlying22 ty3 (.t rfl) (.t rfl) zf (fun _ => zo)) ?_)
    refine cons (storeS0 ty3 (.t rfl) (.c (v := I (-9)) rfl) zu (by omega) ?_)
    refine nil (bN (pN (region (mv rfl (co (Ev.add_i (.t rfl) (.c (v := I 1) rfl) (fun _ => zo)) ?_)))))
    refine asn rfl (nP (nx (X := Int × (List Int)) (i0 + 1, _) ⟨?_, ?_⟩ ?_))
    · try dsimp only
      omega
    · try dsimp only
      rw [List.length_set]; exact hy0
    · try dsimp only
      omega
  · try simp only [nb] at h0
    refine exit (pX (pX (bX (pN (seq (sg (co (Ev.assign (.c (v := I 0) rfl)) ?_)))))))
    refine nP (block (lp (X := Int × (List SRoute)) (fun x : Int × (List SRoute) => (0 ≤ x.1 ∧ x.1 ≤ l.rs.length) ∧ (x.2.length = l.rs.length)) (fun x : Int × (List SRoute) => [(1, true, .pointer (some ⟨b1, 0, none⟩)), (3, true, I x.1)]) (fun x : Int × (List SRoute) => [Var b1 eConf (y.c d) 28, OwnS y.o1.v iE y1 3, OwnS y.o2.v eRoute x.2 52, OwnS y.o3.v eRule l.us 76, OwnS y.o4.v eMeterConf l.ms 57, OwnS y.o5.v eMirrorConf l.xs 59]) (fun x : Int × (List SRoute) => ((l.rs.length : Int) - x.1).toNat) (0, l.rs) ⟨?_, ?_⟩ (fun x hx => ?_)))
    · omega
    · rfl
    obtain ⟨i1, y2⟩ := x
    obtain ⟨hi1, hy1⟩ : (0 ≤ i1 ∧ i1 ≤ l.rs.length) ∧ (y2.length = l.rs.length) := hx
    show Sat _ _ [(1, true, .pointer (some ⟨b1, 0, none⟩)), (3, true, I i1)] [Var b1 eConf (y.c d) 28, OwnS y.o1.v iE y1 3, OwnS y.o2.v eRoute y2 52, OwnS y.o3.v eRule l.us 76, OwnS y.o4.v eMeterConf l.ms 57, OwnS y.o5.v eMirrorConf l.xs 59]
    refine seq (sg (mv rfl (co (fA 1 (.t rfl)) ?_)))
    refine co (Ev.to (v' := y.o2.v) (Ev.ldv ty23 (.t rfl) SConf.l_routes) (rfl)) ?_
    refine co (Ev.len Tryz.underlying23 (.t rfl) zf) ?_
    refine co (Ev.lss_i (.t rfl) (.t rfl)) ?_
    refine nP ?_
    first | refine condD rfl (fun h1 => ?_) (fun h1 => ?_) | refine cond rfl (fun h1 => ?_) (fun h1 => ?_)
    · try simp only [nb] at h1
      refine skip (pN (seq (block (region (co (fA 1 (.t rfl)) ?_)))))
      refine co (Ev.to (v' := y.o2.v) (Ev.ldv ty23 (.t rfl) SConf.l_routes) (rfl)) ?_
      refine mv rfl (co (Ev.buildS (fs := _) (places := [(0, 18), (18, 1)]) z52 rfl Tryz.underlying52 zk (.cons (.c (v := I (-9)) rfl) .nil) (Fills.cons SRoute.l_out rfl Fills.nil)) ?_)
      refine co (Ev.indexAddr Tryz.underlying23 ty52 (.t rfl) (.t rfl) zf (fun _ => zo)) ?_
      refine cons (storeS0 ty52 (.t rfl) (.t rfl) zu (by omega) ?_)
      refine nil (bN (pN (region (mv rfl (co (Ev.add_i (.t rfl) (.c (v := I 1) rfl) (fun _ => zo)) ?_)))))
      refine asn rfl (nP (nx (X := Int × (List SRoute)) (i1 + 1, _) ⟨?_, ?_⟩ ?_))
      · try dsimp only
        omega
      · try dsimp only
        rw [List.length_set]; exact hy1
      · try dsimp only
        omega
    · try simp only [nb] at h1
      refine exit (pX (pX (bX (pN (seq (sg (co (Ev.assign (.c (v := I 0) rfl)) ?_)))))))
      refine nP (block (lp (X := Int × (List SRule)) (fun x : Int × (List SRule) => (0 ≤ x.1 ∧ x.1 ≤ l.us.length) ∧ (x.2.length = l.us.length)) (fun x : Int × (List SRule) => [(1, true, .pointer (some ⟨b1, 0, none⟩)), (4, true, I x.1)]) (fun x : Int × (List SRule) => [Var b1 eConf (y.c d) 28, OwnS y.o1.v iE y1 3, OwnS y.o2.v eRoute y2 52, OwnS y.o3.v eRule x.2 76, OwnS y.o4.v eMeterConf l.ms 57, OwnS y.o5.v eMirrorConf l.xs 59]) (fun x : Int × (List SRule) => ((l.us.length : Int) - x.1).toNat) (0, l.us) ⟨?_, ?_⟩ (fun x hx => ?_)))
      · omega
      · rfl
      obtain ⟨i2, y3⟩ := x
      obtain ⟨hi2, hy2⟩ : (0 ≤ i2 ∧ i2 ≤ l.us.length) ∧ (y3.length = l.us.length) := hx
      show Sat _ _ [(1, true, .pointer (some ⟨b1, 0, none⟩)), (4, true, I i2)] [Var b1 eConf (y.c d) 28, OwnS y.o1.v iE y1 3, OwnS y.o2.v eRoute y2 52, OwnS y.o3.v eRule y3 76, OwnS y.o4.v eMeterConf l.ms 57, OwnS y.o5.v eMirrorConf l.xs 59]
      refine seq (sg (mv rfl (co (fA 2 (.t rfl)) ?_)))
      refine co (Ev.to (v' := y.o3.v) (Ev.ldv ty24 (.t rfl) SConf.l_rules) (rfl)) ?_
      refine co (Ev.len Tryz.underlying24 (.t rfl) zf) ?_
      refine co (Ev.lss_i (.t rfl) (.t rfl)) ?_
      refine nP ?_
      first | refine condD rfl (fun h2 => ?_) (fun h2 => ?_) | refine cond rfl (fun h2 => ?_) (fun h2 => ?_)
      · try simp only [nb] at h2
        refine skip (pN (seq (block (region (co (fA 2 (.t rfl)) ?_)))))
        refine co (Ev.to (v' := y.o3.v) (Ev.ldv ty24 (.t rfl) SConf.l_rules) (rfl)) ?_
        refine mv rfl (co (Ev.buildS (fs := _) (places := [(0, 1), (1, 44), (45, 1), (46, 1), (47, 1), (48, 1)]) z76 rfl Tryz.underlying76 zk (.cons (.c (v := I (-9)) rfl) .nil) (Fills.cons SRule.l_out rfl Fills.nil)) ?_)
        refine co (Ev.indexAddr Tryz.underlying24 ty76 (.t rfl) (.t rfl) zf (fun _ => zo)) ?_
        refine cons (storeS0 ty76 (.t rfl) (.t rfl) zu (by omega) ?_)
        refine nil (bN (pN (region (mv rfl (co (Ev.add_i (.t rfl) (.c (v := I 1) rfl) (fun _ => zo)) ?_)))))
        refine asn rfl (nP (nx (X := Int × (List SRule)) (i2 + 1, _) ⟨?_, ?_⟩ ?_))
        · try dsimp only
          omega
        · try dsimp only
          rw [List.length_set]; exact hy2
        · try dsimp only
          omega
      · try simp only [nb] at h2
        refine exit (pX (pX (bX (pN (seq (sg (co (Ev.assign (.c (v := I 0) rfl)) ?_)))))))
        refine nP (block (lp (X := Int × (List SMeterConf)) (fun x : Int × (List SMeterConf) => (0 ≤ x.1 ∧ x.1 ≤ l.ms.length) ∧ (x.2.length = l.ms.length)) (fun x : Int × (List SMeterConf) => [(1, true, .pointer (some ⟨b1, 0, none⟩)), (5, true, I x.1)]) (fun x : Int × (List SMeterConf) => [Var b1 eConf (y.c d) 28, OwnS y.o1.v iE y1 3, OwnS y.o2.v eRoute y2 52, OwnS y.o3.v eRule y3 76, OwnS y.o4.v eMeterConf x.2 57, OwnS y.o5.v eMirrorConf l.xs 59]) (fun x : Int × (List SMeterConf) => ((l.ms.length : Int) - x.1).toNat) (0, l.ms) ⟨?_, ?_⟩ (fun x hx => ?_)))
        · omega
        · rfl
        obtain ⟨i3, y4⟩ := x
        obtain ⟨hi3, hy3⟩ : (0 ≤ i3 ∧ i3 ≤ l.ms.length) ∧ (y4.length = l.ms.length) := hx
        show Sat _ _ [(1, true, .pointer (some ⟨b1, 0, none⟩)), (5, true, I i3)] [Var b1 eConf (y.c d) 28, OwnS y.o1.v iE y1 3, OwnS y.o2.v eRoute y2 52, OwnS y.o3.v eRule y3 76, OwnS y.o4.v eMeterConf y4 57, OwnS y.o5.v eMirrorConf l.xs 59]
        refine seq (sg (mv rfl (co (fA 3 (.t rfl)) ?_)))
        refine co (Ev.to (v' := y.o4.v) (Ev.ldv ty25 (.t rfl) SConf.l_meters) (rfl)) ?_
        refine co (Ev.len Tryz.underlying25 (.t rfl) zf) ?_
        refine co (Ev.lss_i (.t rfl) (.t rfl)) ?_
        refine nP ?_
        first | refine condD rfl (fun h3 => ?_) (fun h3 => ?_) | refine cond rfl (fun h3 => ?_) (fun h3 => ?_)
        · try simp only [nb] at h3
          refine skip (pN (seq (block (region (co (fA 3 (.t rfl)) ?_)))))
          refine co (Ev.to (v' := y.o4.v) (Ev.ldv ty25 (.t rfl) SConf.l_meters) (rfl)) ?_
          refine mv rfl (co (Ev.buildS (fs := _) (places := [(0, 1), (1, 3)]) z57 rfl Tryz.underlying57 zk (.cons (.c (v := (Go.Value.string (ByteArray.mk #[45, 57]))) rfl) .nil) (Fills.cons SMeterConf.l_name rfl Fills.nil)) ?_)
          refine co (Ev.indexAddr Tryz.underlying25 ty57 (.t rfl) (.t rfl) zf (fun _ => zo)) ?_
          refine cons (storeS0 ty57 (.t rfl) (.t rfl) zu (by omega) ?_)
          refine nil (bN (pN (region (mv rfl (co (Ev.add_i (.t rfl) (.c (v := I 1) rfl) (fun _ => zo)) ?_)))))
          refine asn rfl (nP (nx (X := Int × (List SMeterConf)) (i3 + 1, _) ⟨?_, ?_⟩ ?_))
          · try dsimp only
            omega
          · try dsimp only
            rw [List.length_set]; exact hy3
          · try dsimp only
            omega
        · try simp only [nb] at h3
          refine exit (pX (pX (bX (pN (seq (sg (co (Ev.assign (.c (v := I 0) rfl)) ?_)))))))
          refine nP (block (lp (X := Int × (List SMirrorConf)) (fun x : Int × (List SMirrorConf) => (0 ≤ x.1 ∧ x.1 ≤ l.xs.length) ∧ (x.2.length = l.xs.length)) (fun x : Int × (List SMirrorConf) => [(1, true, .pointer (some ⟨b1, 0, none⟩)), (6, true, I x.1)]) (fun x : Int × (List SMirrorConf) => [Var b1 eConf (y.c d) 28, OwnS y.o1.v iE y1 3, OwnS y.o2.v eRoute y2 52, OwnS y.o3.v eRule y3 76, OwnS y.o4.v eMeterConf y4 57, OwnS y.o5.v eMirrorConf x.2 59]) (fun x : Int × (List SMirrorConf) => ((l.xs.length : Int) - x.1).toNat) (0, l.xs) ⟨?_, ?_⟩ (fun x hx => ?_)))
          · omega
          · rfl
          obtain ⟨i4, y5⟩ := x
          obtain ⟨hi4, hy4⟩ : (0 ≤ i4 ∧ i4 ≤ l.xs.length) ∧ (y5.length = l.xs.length) := hx
          show Sat _ _ [(1, true, .pointer (some ⟨b1, 0, none⟩)), (6, true, I i4)] [Var b1 eConf (y.c d) 28, OwnS y.o1.v iE y1 3, OwnS y.o2.v eRoute y2 52, OwnS y.o3.v eRule y3 76, OwnS y.o4.v eMeterConf y4 57, OwnS y.o5.v eMirrorConf y5 59]
          refine seq (sg (mv rfl (co (fA 4 (.t rfl)) ?_)))
          refine co (Ev.to (v' := y.o5.v) (Ev.ldv ty26 (.t rfl) SConf.l_mirrors) (rfl)) ?_
          refine co (Ev.len Tryz.underlying26 (.t rfl) zf) ?_
          refine co (Ev.lss_i (.t rfl) (.t rfl)) ?_
          refine nP ?_
          first | refine condD rfl (fun h4 => ?_) (fun h4 => ?_) | refine cond rfl (fun h4 => ?_) (fun h4 => ?_)
          · try simp only [nb] at h4
            refine skip (pN (seq (block (region (co (fA 4 (.t rfl)) ?_)))))
            refine co (Ev.to (v' := y.o5.v) (Ev.ldv ty26 (.t rfl) SConf.l_mirrors) (rfl)) ?_
            refine mv rfl (co (Ev.buildS (fs := _) (places := [(0, 1), (1, 1), (2, 1)]) z59 rfl Tryz.underlying59 zk (.cons (.c (v := I (-9)) rfl) .nil) (Fills.cons SMirrorConf.l_out rfl Fills.nil)) ?_)
            refine co (Ev.indexAddr Tryz.underlying26 ty59 (.t rfl) (.t rfl) zf (fun _ => zo)) ?_
            refine cons (storeS0 ty59 (.t rfl) (.t rfl) zu (by omega) ?_)
            refine nil (bN (pN (region (mv rfl (co (Ev.add_i (.t rfl) (.c (v := I 1) rfl) (fun _ => zo)) ?_)))))
            refine asn rfl (nP (nx (X := Int × (List SMirrorConf)) (i4 + 1, _) ⟨?_, ?_⟩ ?_))
            · try dsimp only
              omega
            · try dsimp only
              rw [List.length_set]; exact hy4
            · try dsimp only
              omega
          · try simp only [nb] at h4
            refine exit (pX (pX (bX (pN (sg (co (Ev.assign (.c (v := I 0) rfl)) ?_))))))
            refine nP (block (lp (X := Int × OV × OV × OV × OV × OV × (List Int) × (List SRoute) × (List SRule) × (List SMeterConf) × (List SMirrorConf)) (fun x : Int × OV × OV × OV × OV × OV × (List Int) × (List SRoute) × (List SRule) × (List SMeterConf) × (List SMirrorConf) => (0 ≤ x.1 ∧ x.1 ≤ 9) ∧ ((x.2.2.2.2.2.2.1.length : Int) = l.ps.length + x.1) ∧ ((x.2.2.2.2.2.2.2.1.length : Int) = l.rs.length + x.1) ∧ ((x.2.2.2.2.2.2.2.2.1.length : Int) = l.us.length + x.1) ∧ ((x.2.2.2.2.2.2.2.2.2.1.length : Int) = l.ms.length + x.1) ∧ ((x.2.2.2.2.2.2.2.2.2.2.length : Int) = l.xs.length + x.1)) (fun x : Int × OV × OV × OV × OV × OV × (List Int) × (List SRoute) × (List SRule) × (List SMeterConf) × (List SMirrorConf) => [(1, true, .pointer (some ⟨b1, 0, none⟩)), (7, true, I x.1)]) (fun x : Int × OV × OV × OV × OV × OV × (List Int) × (List SRoute) × (List SRule) × (List SMeterConf) × (List SMirrorConf) => [Var b1 eConf (⟨x.2.1, x.2.2.1, x.2.2.2.1, x.2.2.2.2.1, x.2.2.2.2.2.1, d⟩ : SConf) 28, OwnS x.2.1.v iE x.2.2.2.2.2.2.1 3, OwnS x.2.2.1.v eRoute x.2.2.2.2.2.2.2.1 52, OwnS x.2.2.2.1.v eRule x.2.2.2.2.2.2.2.2.1 76, OwnS x.2.2.2.2.1.v eMeterConf x.2.2.2.2.2.2.2.2.2.1 57, OwnS x.2.2.2.2.2.1.v eMirrorConf x.2.2.2.2.2.2.2.2.2.2 59]) (fun x : Int × OV × OV × OV × OV × OV × (List Int) × (List SRoute) × (List SRule) × (List SMeterConf) × (List SMirrorConf) => (9 - x.1).toNat) (0, y.o1, y.o2, y.o3, y.o4, y.o5, y1, y2, y3, y4, y5) ⟨?_, ?_, ?_, ?_, ?_, ?_⟩ (fun x hx => ?_)))
            · omega
            · dsimp only; omega
            · dsimp only; omega
            · dsimp only; omega
            · dsimp only; omega
            · dsimp only; omega
            obtain ⟨k, p1, p2, p3, p4, p5, q1, q2, q3, q4, q5⟩ := x
            obtain ⟨hk, hz0, hz1, hz2, hz3, hz4⟩ : (0 ≤ k ∧ k ≤ 9) ∧ ((q1.length : Int) = l.ps.length + k) ∧ ((q2.length : Int) = l.rs.length + k) ∧ ((q3.length : Int) = l.us.length + k) ∧ ((q4.length : Int) = l.ms.length + k) ∧ ((q5.length : Int) = l.xs.length + k) := hx
            show Sat _ _ [(1, true, .pointer (some ⟨b1, 0, none⟩)), (7, true, I k)] [Var b1 eConf (⟨p1, p2, p3, p4, p5, d⟩ : SConf) 28, OwnS p1.v iE q1 3, OwnS p2.v eRoute q2 52, OwnS p3.v eRule q3 76, OwnS p4.v eMeterConf q4 57, OwnS p5.v eMirrorConf q5 59]
            refine seq (sg (mv rfl (co (Ev.lss_i (.t rfl) (.c (v := I 9) rfl)) ?_)))
            refine nP ?_
            first | refine condD rfl (fun h5 => ?_) (fun h5 => ?_) | refine cond rfl (fun h5 => ?_) (fun h5 => ?_)
            · try simp only [nb] at h5
              refine skip (pN (seq (block (sg (co (fA 0 (.t rfl)) ?_)))))
              refine co (Ev.to (v' := p1.v) (Ev.ldv ty22 (.t rfl) SConf.l_ports) (rfl)) ?_
              refine cons (buildSlice (E := iE) Tryz.underlying22 ty3 z3 (.cons (.c (v := I (-8)) rfl) .nil) rfl rfl (fun v2 => ?_))
              refine cons (app (E := iE) Tryz.underlying22 ty3 zb3 zs3 (.t rfl) (.t rfl) (fun v3 => ?_) (hby := ⟨by (show _ ≤ 9223372036854775807); simp only [List.length_cons, List.length_nil]; omega, by simp only [List.length_cons, List.length_nil]; omega⟩))
              refine co (fA 0 (.t rfl)) ?_
              refine cons (stv ty22 SConf.l_ports (.t rfl) (.t rfl) ?_)
              refine nP (sg (co (fA 1 (.t rfl)) ?_))
              refine co (Ev.to (v' := p2.v) (Ev.ldv ty23 (.t rfl) SConf.l_routes) (rfl)) ?_
              refine co (Ev.buildS (fs := _) (places := [(0, 18), (18, 1)]) z52 rfl Tryz.underlying52 zk (.cons (.c (v := I (-8)) rfl) .nil) (Fills.cons SRoute.l_out rfl Fills.nil)) ?_
              refine cons (buildSlice (E := eRoute) Tryz.underlying23 ty52 z52 (.cons (.t rfl) .nil) rfl rfl (fun v4 => ?_))
              refine cons (app (E := eRoute) Tryz.underlying23 ty52 zb52 zs52 (.t rfl) (.t rfl) (fun v5 => ?_) (hby := ⟨by (show _ ≤ 9223372036854775807); simp only [List.length_cons, List.length_nil]; omega, by simp only [List.length_cons, List.length_nil]; omega⟩))
              refine co (fA 1 (.t rfl)) ?_
              refine cons (stv ty23 SConf.l_routes (.t rfl) (.t rfl) ?_)
              refine nP (sg (co (fA 2 (.t rfl)) ?_))
              refine co (Ev.to (v' := p3.v) (Ev.ldv ty24 (.t rfl) SConf.l_rules) (rfl)) ?_
              refine co (Ev.buildS (fs := _) (places := [(0, 1), (1, 44), (45, 1), (46, 1), (47, 1), (48, 1)]) z76 rfl Tryz.underlying76 zk (.cons (.c (v := I (-8)) rfl) .nil) (Fills.cons SRule.l_out rfl Fills.nil)) ?_
              refine cons (buildSlice (E := eRule) Tryz.underlying24 ty76 z76 (.cons (.t rfl) .nil) rfl rfl (fun v6 => ?_))
              refine cons (app (E := eRule) Tryz.underlying24 ty76 zb76 zs76 (.t rfl) (.t rfl) (fun v7 => ?_) (hby := ⟨by (show _ ≤ 9223372036854775807); simp only [List.length_cons, List.length_nil]; omega, by simp only [List.length_cons, List.length_nil]; omega⟩))
              refine co (fA 2 (.t rfl)) ?_
              refine cons (stv ty24 SConf.l_rules (.t rfl) (.t rfl) ?_)
              refine nP (sg (co (fA 3 (.t rfl)) ?_))
              refine co (Ev.to (v' := p4.v) (Ev.ldv ty25 (.t rfl) SConf.l_meters) (rfl)) ?_
              refine co (Ev.buildS (fs := _) (places := [(0, 1), (1, 3)]) z57 rfl Tryz.underlying57 zk (.cons (.c (v := (Go.Value.string (ByteArray.mk #[45, 56]))) rfl) .nil) (Fills.cons SMeterConf.l_name rfl Fills.nil)) ?_
              refine cons (buildSlice (E := eMeterConf) Tryz.underlying25 ty57 z57 (.cons (.t rfl) .nil) rfl rfl (fun v8 => ?_))
              refine cons (app (E := eMeterConf) Tryz.underlying25 ty57 zb57 zs57 (.t rfl) (.t rfl) (fun v9 => ?_) (hby := ⟨by (show _ ≤ 9223372036854775807); simp only [List.length_cons, List.length_nil]; omega, by simp only [List.length_cons, List.length_nil]; omega⟩))
              refine co (fA 3 (.t rfl)) ?_
              refine cons (stv ty25 SConf.l_meters (.t rfl) (.t rfl) ?_)
              refine nP (region (co (fA 4 (.t rfl)) ?_))
              refine co (Ev.to (v' := p5.v) (Ev.ldv ty26 (.t rfl) SConf.l_mirrors) (rfl)) ?_
              refine co (Ev.buildS (fs := _) (places := [(0, 1), (1, 1), (2, 1)]) z59 rfl Tryz.underlying59 zk (.cons (.c (v := I (-8)) rfl) .nil) (Fills.cons SMirrorConf.l_out rfl Fills.nil)) ?_
              refine cons (buildSlice (E := eMirrorConf) Tryz.underlying26 ty59 z59 (.cons (.t rfl) .nil) rfl rfl (fun v10 => ?_))
              refine cons (app (E := eMirrorConf) Tryz.underlying26 ty59 zb59 zs59 (.t rfl) (.t rfl) (fun v11 => ?_) (hby := ⟨by (show _ ≤ 9223372036854775807); simp only [List.length_cons, List.length_nil]; omega, by simp only [List.length_cons, List.length_nil]; omega⟩))
              refine co (fA 4 (.t rfl)) ?_
              refine cons (stv ty26 SConf.l_mirrors (.t rfl) (.t rfl) ?_)
              refine nil (bN (pN (region (mv rfl (co (Ev.add_i (.t rfl) (.c (v := I 1) rfl) (fun _ => zo)) ?_)))))
              refine asn rfl (nP (nxP (X := Int × OV × OV × OV × OV × OV × (List Int) × (List SRoute) × (List SRule) × (List SMeterConf) × (List SMirrorConf)) (k + 1, _, _, _, _, _, _, _, _, _, _) ⟨?_, ?_, ?_, ?_, ?_, ?_⟩ ?_))
              · try dsimp only
                omega
              · try dsimp only
                simp only [List.length_append, List.length_cons, List.length_nil]; omega
              · try dsimp only
                simp only [List.length_append, List.length_cons, List.length_nil]; omega
              · try dsimp only
                simp only [List.length_append, List.length_cons, List.length_nil]; omega
              · try dsimp only
                simp only [List.length_append, List.length_cons, List.length_nil]; omega
              · try dsimp only
                simp only [List.length_append, List.length_cons, List.length_nil]; omega
              · try dsimp only
                omega
            · try simp only [nb] at h5
              refine exit (pX (pX (bX (done' rfl .nil (fun w I => ?_)))))
              exact retD (n := 100) rfl w I
theorem put_mem {α β : Type} {q : α → α → Bool} (k : α) (v : β) : ∀ (l : List (α × β)) (p : α × β), p ∈ putL q k v l → p.1 = k ∨ ∃ p' ∈ l, p'.1 = p.1
  | [], p, h => by
    unfold putL at h
    exact .inl (by rw [List.mem_singleton.1 h])
  | e :: l, p, h => by
    unfold putL at h
    split at h
    · rcases List.mem_cons.1 h with rfl | h
      · exact .inl rfl
      · exact .inr ⟨p, List.mem_cons_of_mem _ h, rfl⟩
    · rcases List.mem_cons.1 h with rfl | h
      · exact .inr ⟨p, List.mem_cons_self, rfl⟩
      · rcases put_mem k v l p h with h | ⟨p', h1, h2⟩
        · exact .inl h
        · exact .inr ⟨p', List.mem_cons_of_mem _ h1, h2⟩
def Uniq {α β : Type} (q : α → α → Bool) (l : List (α × β)) : Prop := l.Pairwise (fun a b => q a.1 b.1 = false)
theorem put_uniq {α β : Type} {q : α → α → Bool} (hi : ∀ x y, q x y = true ↔ x = y) (k : α) (v : β) : ∀ l : List (α × β), Uniq q l → Uniq q (putL q k v l)
  | [], _ => by
    unfold putL Uniq
    exact List.pairwise_singleton _ _
  | e :: l, h => by
    obtain ⟨h1, h2⟩ := List.pairwise_cons.1 h
    unfold putL
    split
    · rename_i hq
      have e2 := (hi _ _).1 hq
      exact List.pairwise_cons.2 ⟨fun b hb => by show q k b.1 = false; rw [e2]; exact h1 b hb, h2⟩
    · rename_i hq
      refine List.pairwise_cons.2 ⟨fun b hb => ?_, put_uniq hi k v l h2⟩
      rcases put_mem k v l b hb with h3 | ⟨p', h3, h4⟩
      · rw [h3, Bool.eq_false_iff]
        intro h5
        exact hq ((hi _ _).2 ((hi _ _).1 h5).symm)
      · rw [← h4]
        exact h1 p' h3
theorem find_uniq {α β : Type} {q : α → α → Bool} (hi : ∀ x y, q x y = true ↔ x = y) : ∀ (l : List (α × β)), Uniq q l → ∀ p ∈ l, findV q p.1 l = some p.2
  | [], _, p, hp => by cases hp
  | e :: l, h, p, hp => by
    obtain ⟨h1, h2⟩ := List.pairwise_cons.1 h
    rw [findV_cons]
    rcases List.mem_cons.1 hp with rfl | hp
    · rw [if_pos ((hi _ _).2 rfl)]
    · have hn : ¬ q p.1 e.1 = true := fun h3 => by
        have := h1 p hp
        rw [(hi _ _).2 ((hi _ _).1 h3).symm] at this
        cases this
      rw [if_neg hn]
      exact find_uniq hi l h2 p hp
theorem find_mem {α β : Type} {q : α → α → Bool} {k : α} {v : β} : ∀ (l : List (α × β)), findV q k l = some v → ∃ p ∈ l, p.2 = v
  | [], h => by cases h
  | e :: l, h => by
    rw [findV_cons] at h
    split at h
    · exact ⟨e, List.mem_cons_self, Option.some.inj h⟩
    · obtain ⟨p, h1, h2⟩ := find_mem l h
      exact ⟨p, List.mem_cons_of_mem _ h1, h2⟩
theorem inc_uniq {α : Type} {q : α → α → Bool} (hi : ∀ x y, q x y = true ↔ x = y) (d : Int) (l : List α) {m : List (α × Int)} (hm : Uniq q m) : ∀ n, Uniq q (incN q d l m n)
  | 0 => hm
  | n + 1 => by
    unfold incN
    split
    · exact inc_uniq hi d l hm n
    · exact put_uniq hi _ _ _ (inc_uniq hi d l hm n)
theorem alike_val {α : Type} {q : α → α → Bool} (hi : ∀ x y, q x y = true ↔ x = y) (l k : List α) (x : α) : (findV q x (alikeM q l k)).getD 0 = (l.countP (q x) : Int) - k.countP (q x) := by
  unfold alikeM
  rw [incN_val hi, incN_val hi, List.take_length, List.take_length]
  have e0 : (findV q x ([] : List (α × Int))).getD 0 = 0 := rfl
  rw [e0]
  omega
theorem alike_iff {α : Type} {q : α → α → Bool} (hi : ∀ x y, q x y = true ↔ x = y) (l k : List α) : alikeB q l k = true ↔ ∀ x, l.countP (q x) = k.countP (q x) := by
  have hu : Uniq q (alikeM q l k) := by
    unfold alikeM
    exact inc_uniq hi _ _ (inc_uniq hi _ _ List.Pairwise.nil _) _
  unfold alikeB
  rw [List.all_eq_true]
  constructor
  · intro h x
    have hv := alike_val hi l k x
    cases hf : findV q x (alikeM q l k) with
    | none => rw [hf] at hv; simp only [Option.getD_none] at hv; omega
    | some v =>
      obtain ⟨p, hp, e⟩ := find_mem _ hf
      have := of_decide_eq_true (h p hp)
      rw [hf] at hv
      simp only [Option.getD_some] at hv
      omega
  · intro h p hp
    have hv := alike_val hi l k p.1
    rw [find_uniq hi _ hu p hp, h p.1] at hv
    simp only [Option.getD_some] at hv
    exact decide_eq_true (by omega)
theorem perm_counts {α : Type} [DecidableEq α] : ∀ (l k : List α), l.length = k.length → (∀ x ∈ l, l.count x = k.count x) → l.Perm k
  | [], k, h, _ => by
    have : k = [] := List.length_eq_zero_iff.1 h.symm
    rw [this]
  | x :: l, k, h, hc => by
    have hx := hc x List.mem_cons_self
    rw [List.count_cons_self] at hx
    have hm : x ∈ k := List.count_pos_iff.1 (by omega)
    have hp := List.perm_cons_erase hm
    refine List.Perm.trans ?_ hp.symm
    refine List.Perm.cons x (perm_counts l (k.erase x) ?_ fun y hy => ?_)
    · rw [List.length_erase_of_mem hm]
      simp only [List.length_cons] at h
      omega
    · have h1 := hc y (List.mem_cons_of_mem _ hy)
      have h2 := hp.count_eq y
      rw [h1.symm, List.count_cons, List.count_cons] at h2
      omega
theorem count_q {α : Type} [DecidableEq α] {q : α → α → Bool} (hi : ∀ x y, q x y = true ↔ x = y) (l : List α) (x : α) : l.countP (q x) = l.count x := by
  unfold List.count
  refine List.countP_congr fun y _ => ?_
  rw [hi, beq_iff_eq]
  exact eq_comm
theorem alike_perm {α : Type} [DecidableEq α] {q : α → α → Bool} (hi : ∀ x y, q x y = true ↔ x = y) (l k : List α) : alikeB q l k = true ↔ l.Perm k := by
  rw [alike_iff hi, List.perm_iff_count]
  constructor
  · intro h x
    rw [← count_q hi, ← count_q hi]
    exact h x
  · intro h x
    rw [count_q hi, count_q hi]
    exact h x
def alikeR {α : Type} (q : α → α → Bool) (l k : List α) : Bool := decide (l.length = k.length) && l.all (fun x => decide (l.countP (q x) = k.countP (q x)))
theorem alikeR_eq {α : Type} [DecidableEq α] {q : α → α → Bool} (hi : ∀ x y, q x y = true ↔ x = y) (l k : List α) : alikeR q l k = alikeB q l k := by
  rw [Bool.eq_iff_iff, alike_perm hi]
  unfold alikeR
  rw [Bool.and_eq_true, decide_eq_true_iff, List.all_eq_true]
  constructor
  · rintro ⟨h1, h2⟩
    refine perm_counts l k h1 fun x hx => ?_
    have := of_decide_eq_true (h2 x hx)
    rwa [count_q hi, count_q hi] at this
  · intro h
    exact ⟨h.length_eq, fun x _ => decide_eq_true (h.countP_eq _)⟩
theorem rcopy_ok (c : SConf) (l : CL) (w : World) (hc : ConfAt w c l) (hs : l.Small) : Calls Tryz.prog 11 #[eConf.val c] w (RetN w (fun _ : CB => True) (fun x => eConf.val (x.c c.default)) (fun x => x.R l)) := by
  obtain ⟨hl0, hl1, hl2, hl3, hl4⟩ := hs
  refine en0 38 Tryz.func11 ?_
  refine sg (cons (box (E := eConf) (.t rfl) (fun b1 => ?_)))
  refine cons (alloc z28 (fun b2 => ?_))
  refine nP (sg (co (fA 5 (.t rfl)) ?_))
  refine co (Ev.ldx c.default ty3 (.t rfl) SConf.l_default) ?_
  refine co (Ev.buildS (fs := _) (places := [(0, 1), (1, 1), (2, 1), (3, 1), (4, 1), (5, 1)]) z28 rfl Tryz.underlying28 zk (.cons (.t rfl) .nil) (Fills.cons SConf.l_default rfl Fills.nil)) ?_
  refine cons (alloc z28 (fun b3 => ?_))
  refine cons (stv ty28 (Lens.id _) (.t rfl) (.t rfl) ?_)
  refine nP (seq (takeNil iE 3 ?_))
  refine region (co (fA 0 (.t rfl)) ?_)
  refine co (Ev.ldv ty22 (.t rfl) SConf.l_ports) ?_
  refine co (fA 0 (.t rfl)) ?_
  refine co (Ev.ldx c.ports ty22 (.t rfl) SConf.l_ports) ?_
  refine cons (app (E := iE) Tryz.underlying22 ty3 zb3 zs3 (.t rfl) (.t rfl) (fun v4 => ?_) (hsrc := (fun w I => (hc.keep0 I.keeps).ps)) (hby := ⟨by (show _ ≤ 9223372036854775807); simp only [List.length_nil]; omega, by simp only [List.length_nil]; omega⟩))
  refine co (fA 0 (.t rfl)) ?_
  refine cons (stv ty22 SConf.l_ports (.t rfl) (.t rfl) ?_)
  refine nP (seq (takeNil eRoute 52 ?_))
  refine region (co (fA 1 (.t rfl)) ?_)
  refine co (Ev.ldv ty23 (.t rfl) SConf.l_routes) ?_
  refine co (fA 1 (.t rfl)) ?_
  refine co (Ev.ldx c.routes ty23 (.t rfl) SConf.l_routes) ?_
  refine cons (app (E := eRoute) Tryz.underlying23 ty52 zb52 zs52 (.t rfl) (.t rfl) (fun v5 => ?_) (hsrc := (fun w I => (hc.keep0 I.keeps).rs)) (hby := ⟨by (show _ ≤ 9223372036854775807); simp only [List.length_nil]; omega, by simp only [List.length_nil]; omega⟩))
  refine co (fA 1 (.t rfl)) ?_
  refine cons (stv ty23 SConf.l_routes (.t rfl) (.t rfl) ?_)
  refine nP (seq (takeNil eRule 76 ?_))
  refine region (co (fA 2 (.t rfl)) ?_)
  refine co (Ev.ldv ty24 (.t rfl) SConf.l_rules) ?_
  refine co (fA 2 (.t rfl)) ?_
  refine co (Ev.ldx c.rules ty24 (.t rfl) SConf.l_rules) ?_
  refine cons (app (E := eRule) Tryz.underlying24 ty76 zb76 zs76 (.t rfl) (.t rfl) (fun v6 => ?_) (hsrc := (fun w I => (hc.keep0 I.keeps).us)) (hby := ⟨by (show _ ≤ 9223372036854775807); simp only [List.length_nil]; omega, by simp only [List.length_nil]; omega⟩))
  refine co (fA 2 (.t rfl)) ?_
  refine cons (stv ty24 SConf.l_rules (.t rfl) (.t rfl) ?_)
  refine nP (seq (takeNil eMeterConf 57 ?_))
  refine region (co (fA 3 (.t rfl)) ?_)
  refine co (Ev.ldv ty25 (.t rfl) SConf.l_meters) ?_
  refine co (fA 3 (.t rfl)) ?_
  refine co (Ev.ldx c.meters ty25 (.t rfl) SConf.l_meters) ?_
  refine cons (app (E := eMeterConf) Tryz.underlying25 ty57 zb57 zs57 (.t rfl) (.t rfl) (fun v7 => ?_) (hsrc := (fun w I => (hc.keep0 I.keeps).ms)) (hby := ⟨by (show _ ≤ 9223372036854775807); simp only [List.length_nil]; omega, by simp only [List.length_nil]; omega⟩))
  refine co (fA 3 (.t rfl)) ?_
  refine cons (stv ty25 SConf.l_meters (.t rfl) (.t rfl) ?_)
  refine nP (seq (takeNil eMirrorConf 59 ?_))
  refine region (co (fA 4 (.t rfl)) ?_)
  refine co (Ev.ldv ty26 (.t rfl) SConf.l_mirrors) ?_
  refine co (fA 4 (.t rfl)) ?_
  refine co (Ev.ldx c.mirrors ty26 (.t rfl) SConf.l_mirrors) ?_
  refine cons (app (E := eMirrorConf) Tryz.underlying26 ty59 zb59 zs59 (.t rfl) (.t rfl) (fun v8 => ?_) (hsrc := (fun w I => (hc.keep0 I.keeps).xs)) (hby := ⟨by (show _ ≤ 9223372036854775807); simp only [List.length_nil]; omega, by simp only [List.length_nil]; omega⟩))
  refine co (fA 4 (.t rfl)) ?_
  refine cons (stv ty26 SConf.l_mirrors (.t rfl) (.t rfl) ?_)
  refine nP (sg (co (Ev.ldv ty28 (.t rfl) (Lens.id _)) ?_))
  refine cons (stv ty28 (Lens.id _) (.t rfl) (.t rfl) ?_)
  refine nP (ret (done rfl (.cell rfl (fun w I => run_loadVar_pts ty28 (ptsVar zm (Lens.id _) w I)) .nil) (fun w I => ?_)))
  exact retNP (⟨v4, v5, v6, v7, v8⟩ : CB) trivial rfl (by repeat first | exact SubP.nil | refine SubP.cons zr ?_) w I
theorem sameFaults_ok (u v : Value) (a b : List SFault) (w : World) (ha : IsSl eFault w u a) (hb : IsSl eFault w v b) : Calls Tryz.prog 14 #[u, v] w (RetV w (.bool (decide (a = b)))) := by
  have hal := ha.le
  have hbl := hb.le
  refine en0 26 Tryz.func14 ?_
  refine sg (co (Ev.assign (.c (v := .bool false) rfl)) ?_)
  refine nP (seq (sg (mv rfl (co (Ev.len Tryz.underlying31 (.t rfl) (fun w I => ha.keep0 I.keeps)) ?_))))
  refine mv rfl (co (Ev.len Tryz.underlying31 (.t rfl) (fun w I => hb.keep0 I.keeps)) ?_)
  refine co (Ev.neq_i (.t rfl) (.t rfl)) ?_
  refine nP ?_
  first | refine condD rfl (fun hne => ?_) (fun hlen => ?_) | refine cond rfl (fun hne => ?_) (fun hlen => ?_)
  · try simp only [nb] at hne
    refine sg (co (Ev.assign (.c (v := .bool false) rfl)) ?_)
    refine nP (ret (pR (done rfl (.tmp rfl .nil) (retE ?_))))
    exact bF (fun e => by subst e; omega)
  · try simp only [nb] at hlen
    refine skip (pN (seq (sg (co (Ev.assign (.c (v := I 0) rfl)) ?_))))
    refine nP (block (lp (X := Int) (fun x : Int => (0 ≤ x ∧ x ≤ a.length) ∧ (a.take x.toNat = b.take x.toNat)) (fun x : Int => [(0, true, u), (1, true, v), (5, true, I x)]) (fun x : Int => []) (fun x : Int => (a.length - x).toNat) (0) ⟨?_, ?_⟩ (fun x hx => ?_)))
    · omega
    · rfl
    obtain ⟨i, rfl⟩ : ∃ y, y = x := ⟨x, rfl⟩
    obtain ⟨hi, ht⟩ : (0 ≤ i ∧ i ≤ a.length) ∧ (a.take i.toNat = b.take i.toNat) := hx
    show Sat _ _ [(0, true, u), (1, true, v), (5, true, I i)] []
    refine seq (sg (mv rfl (mv rfl (co (Ev.len Tryz.underlying31 (.t rfl) (fun w I => ha.keep0 I.keeps)) ?_))))
    refine co (Ev.lss_i (.t rfl) (.t rfl)) ?_
    refine nP ?_
    first | refine condD rfl (fun hlt => ?_) (fun hge => ?_) | refine cond rfl (fun hlt => ?_) (fun hge => ?_)
    · try simp only [nb] at hlt
      refine skip (pN (seq (block (seq (draw' zk ?_)))))
      refine tk 0 rfl (Ev.move (.t rfl)) ?_
      refine tk 1 rfl (Ev.move (.t rfl)) ?_
      refine tk 2 rfl (Ev.indexAddr Tryz.underlying31 ty37 (.t rfl) (.t rfl) (fun w I => ha.keep0 I.keeps) (fun _ => zo)) ?_
      refine tk 3 rfl (Ev.loadS0 ty37 (.t rfl) (fun w I => ha.keep0 I.keeps) (fun _ => zo)) ?_
      refine tk 4 rfl (Ev.move (.t rfl)) ?_
      refine tk 5 rfl (Ev.move (.t rfl)) ?_
      refine tk 6 rfl (Ev.indexAddr Tryz.underlying31 ty37 (.t rfl) (.t rfl) (fun w I => hb.keep0 I.keeps) (fun _ => zo)) ?_
      refine tk 7 rfl (Ev.loadS0 ty37 (.t rfl) (fun w I => hb.keep0 I.keeps) (fun _ => zo)) ?_
      refine tk 8 rfl (Ev.neqS rfl eqok37 rfl zk (.t rfl) (.t rfl)) ?_
      refine ovr (pN ?_)
      first | refine condD rfl (fun h2 => ?_) (fun h2 => ?_) | refine cond rfl (fun h2 => ?_) (fun h2 => ?_)
      · refine sg (co (Ev.assign (.c (v := .bool false) rfl)) ?_)
        refine nP (ret (bR (pR (pR (bR (pR (done rfl (.tmp rfl .nil) (retE ?_))))))))
        exact bF (fun e => by subst e; simp at h2)
      · refine skip (bN (pN (region (mv rfl (co (Ev.add_i (.t rfl) (.c (v := I 1) rfl) (fun _ => zo)) ?_)))))
        refine asn rfl (nP (nx (X := Int) (i + 1) ⟨?_, ?_⟩ ?_))
        · try dsimp only
          omega
        · try dsimp only
          have h2c : a.getD i.toNat eFault.zero = b.getD i.toNat eFault.zero := by simpa using h2
          rw [take_snoc a i hi.1 (by omega) eFault.zero, take_snoc b i hi.1 (by omega) eFault.zero, ht, h2c]
        · try dsimp only
          omega
    · try simp only [nb] at hge
      refine exit (pX (pX (bX (pN (sg (co (Ev.assign (.c (v := .bool true) rfl)) ?_))))))
      refine nP (ret (done rfl (.tmp rfl .nil) (retE ?_)))
      exact bT (by
        have e : i.toNat = a.length := by omega
        rw [e, List.take_length, List.take_of_length_le (by omega)] at ht
        exact ht)
theorem samePorts_ok (u v : Value) (a b : List Int) (w : World) (ha : IsSl iE w u a) (hb : IsSl iE w v b) : Calls Tryz.prog 58 #[u, v] w (RetV w (.bool (decide (a = b)))) := by
  have hal := ha.le
  have hbl := hb.le
  refine en0 26 Tryz.func58 ?_
  refine sg (co (Ev.assign (.c (v := .bool false) rfl)) ?_)
  refine nP (seq (sg (mv rfl (co (Ev.len Tryz.underlying22 (.t rfl) (fun w I => ha.keep0 I.keeps)) ?_))))
  refine mv rfl (co (Ev.len Tryz.underlying22 (.t rfl) (fun w I => hb.keep0 I.keeps)) ?_)
  refine co (Ev.neq_i (.t rfl) (.t rfl)) ?_
  refine nP ?_
  first | refine condD rfl (fun hne => ?_) (fun hlen => ?_) | refine cond rfl (fun hne => ?_) (fun hlen => ?_)
  · try simp only [nb] at hne
    refine sg (co (Ev.assign (.c (v := .bool false) rfl)) ?_)
    refine nP (ret (pR (done rfl (.tmp rfl .nil) (retE ?_))))
    exact bF (fun e => by subst e; omega)
  · try simp only [nb] at hlen
    refine skip (pN (seq (sg (co (Ev.assign (.c (v := I 0) rfl)) ?_))))
    refine nP (block (lp (X := Int) (fun x : Int => (0 ≤ x ∧ x ≤ a.length) ∧ (a.take x.toNat = b.take x.toNat)) (fun x : Int => [(0, true, u), (1, true, v), (5, true, I x)]) (fun x : Int => []) (fun x : Int => (a.length - x).toNat) (0) ⟨?_, ?_⟩ (fun x hx => ?_)))
    · omega
    · rfl
    obtain ⟨i, rfl⟩ : ∃ y, y = x := ⟨x, rfl⟩
    obtain ⟨hi, ht⟩ : (0 ≤ i ∧ i ≤ a.length) ∧ (a.take i.toNat = b.take i.toNat) := hx
    show Sat _ _ [(0, true, u), (1, true, v), (5, true, I i)] []
    refine seq (sg (mv rfl (mv rfl (co (Ev.len Tryz.underlying22 (.t rfl) (fun w I => ha.keep0 I.keeps)) ?_))))
    refine co (Ev.lss_i (.t rfl) (.t rfl)) ?_
    refine nP ?_
    first | refine condD rfl (fun hlt => ?_) (fun hge => ?_) | refine cond rfl (fun hlt => ?_) (fun hge => ?_)
    · try simp only [nb] at hlt
      refine skip (pN (seq (block (seq (draw' zk ?_)))))
      refine tk 0 rfl (Ev.move (.t rfl)) ?_
      refine tk 1 rfl (Ev.move (.t rfl)) ?_
      refine tk 2 rfl (Ev.indexAddr Tryz.underlying22 ty3 (.t rfl) (.t rfl) (fun w I => ha.keep0 I.keeps) (fun _ => zo)) ?_
      refine tk 3 rfl (Ev.loadS0 ty3 (.t rfl) (fun w I => ha.keep0 I.keeps) (fun _ => zo)) ?_
      refine tk 4 rfl (Ev.move (.t rfl)) ?_
      refine tk 5 rfl (Ev.move (.t rfl)) ?_
      refine tk 6 rfl (Ev.indexAddr Tryz.underlying22 ty3 (.t rfl) (.t rfl) (fun w I => hb.keep0 I.keeps) (fun _ => zo)) ?_
      refine tk 7 rfl (Ev.loadS0 ty3 (.t rfl) (fun w I => hb.keep0 I.keeps) (fun _ => zo)) ?_
      refine tk 8 rfl (Ev.neq_i (.t rfl) (.t rfl)) ?_
      refine ovr (pN ?_)
      first | refine condD rfl (fun h2 => ?_) (fun h2 => ?_) | refine cond rfl (fun h2 => ?_) (fun h2 => ?_)
      · refine sg (co (Ev.assign (.c (v := .bool false) rfl)) ?_)
        refine nP (ret (bR (pR (pR (bR (pR (done rfl (.tmp rfl .nil) (retE ?_))))))))
        exact bF (fun e => by subst e; simp at h2)
      · refine skip (bN (pN (region (mv rfl (co (Ev.add_i (.t rfl) (.c (v := I 1) rfl) (fun _ => zo)) ?_)))))
        refine asn rfl (nP (nx (X := Int) (i + 1) ⟨?_, ?_⟩ ?_))
        · try dsimp only
          omega
        · try dsimp only
          have h2c : a.getD i.toNat iE.zero = b.getD i.toNat iE.zero := by simpa using h2
          rw [take_snoc a i hi.1 (by omega) iE.zero, take_snoc b i hi.1 (by omega) iE.zero, ht, h2c]
        · try dsimp only
          omega
    · try simp only [nb] at hge
      refine exit (pX (pX (bX (pN (sg (co (Ev.assign (.c (v := .bool true) rfl)) ?_))))))
      refine nP (ret (done rfl (.tmp rfl .nil) (retE ?_)))
      exact bT (by
        have e : i.toNat = a.length := by omega
        rw [e, List.take_length, List.take_of_length_le (by omega)] at ht
        exact ht)
theorem sameRules_ok (u v : Value) (a b : List SRule) (w : World) (ha : IsSl eRule w u a) (hb : IsSl eRule w v b) : Calls Tryz.prog 59 #[u, v] w (RetV w (.bool (decide (a = b)))) := by
  have hal := ha.le
  have hbl := hb.le
  refine en0 26 Tryz.func59 ?_
  refine sg (co (Ev.assign (.c (v := .bool false) rfl)) ?_)
  refine nP (seq (sg (mv rfl (co (Ev.len Tryz.underlying24 (.t rfl) (fun w I => ha.keep0 I.keeps)) ?_))))
  refine mv rfl (co (Ev.len Tryz.underlying24 (.t rfl) (fun w I => hb.keep0 I.keeps)) ?_)
  refine co (Ev.neq_i (.t rfl) (.t rfl)) ?_
  refine nP ?_
  first | refine condD rfl (fun hne => ?_) (fun hlen => ?_) | refine cond rfl (fun hne => ?_) (fun hlen => ?_)
  · try simp only [nb] at hne
    refine sg (co (Ev.assign (.c (v := .bool false) rfl)) ?_)
    refine nP (ret (pR (done rfl (.tmp rfl .nil) (retE ?_))))
    exact bF (fun e => by subst e; omega)
  · try simp only [nb] at hlen
    refine skip (pN (seq (sg (co (Ev.assign (.c (v := I 0) rfl)) ?_))))
    refine nP (block (lp (X := Int) (fun x : Int => (0 ≤ x ∧ x ≤ a.length) ∧ (a.take x.toNat = b.take x.toNat)) (fun x : Int => [(0, true, u), (1, true, v), (5, true, I x)]) (fun x : Int => []) (fun x : Int => (a.length - x).toNat) (0) ⟨?_, ?_⟩ (fun x hx => ?_)))
    · omega
    · rfl
    obtain ⟨i, rfl⟩ : ∃ y, y = x := ⟨x, rfl⟩
    obtain ⟨hi, ht⟩ : (0 ≤ i ∧ i ≤ a.length) ∧ (a.take i.toNat = b.take i.toNat) := hx
    show Sat _ _ [(0, true, u), (1, true, v), (5, true, I i)] []
    refine seq (sg (mv rfl (mv rfl (co (Ev.len Tryz.underlying24 (.t rfl) (fun w I => ha.keep0 I.keeps)) ?_))))
    refine co (Ev.lss_i (.t rfl) (.t rfl)) ?_
    refine nP ?_
    first | refine condD rfl (fun hlt => ?_) (fun hge => ?_) | refine cond rfl (fun hlt => ?_) (fun hge => ?_)
    · try simp only [nb] at hlt
      refine skip (pN (seq (block (seq (draw' zk ?_)))))
      refine tk 0 rfl (Ev.move (.t rfl)) ?_
      refine tk 1 rfl (Ev.move (.t rfl)) ?_
      refine tk 2 rfl (Ev.indexAddr Tryz.underlying24 ty76 (.t rfl) (.t rfl) (fun w I => ha.keep0 I.keeps) (fun _ => zo)) ?_
      refine tk 3 rfl (Ev.loadS0 ty76 (.t rfl) (fun w I => ha.keep0 I.keeps) (fun _ => zo)) ?_
      refine tk 4 rfl (Ev.move (.t rfl)) ?_
      refine tk 5 rfl (Ev.move (.t rfl)) ?_
      refine tk 6 rfl (Ev.indexAddr Tryz.underlying24 ty76 (.t rfl) (.t rfl) (fun w I => hb.keep0 I.keeps) (fun _ => zo)) ?_
      refine tk 7 rfl (Ev.loadS0 ty76 (.t rfl) (fun w I => hb.keep0 I.keeps) (fun _ => zo)) ?_
      refine tk 8 rfl (Ev.neqS rfl eqok76 rfl zk (.t rfl) (.t rfl)) ?_
      refine ovr (pN ?_)
      first | refine condD rfl (fun h2 => ?_) (fun h2 => ?_) | refine cond rfl (fun h2 => ?_) (fun h2 => ?_)
      · refine sg (co (Ev.assign (.c (v := .bool false) rfl)) ?_)
        refine nP (ret (bR (pR (pR (bR (pR (done rfl (.tmp rfl .nil) (retE ?_))))))))
        exact bF (fun e => by subst e; simp at h2)
      · refine skip (bN (pN (region (mv rfl (co (Ev.add_i (.t rfl) (.c (v := I 1) rfl) (fun _ => zo)) ?_)))))
        refine asn rfl (nP (nx (X := Int) (i + 1) ⟨?_, ?_⟩ ?_))
        · try dsimp only
          omega
        · try dsimp only
          have h2c : a.getD i.toNat eRule.zero = b.getD i.toNat eRule.zero := by simpa using h2
          rw [take_snoc a i hi.1 (by omega) eRule.zero, take_snoc b i hi.1 (by omega) eRule.zero, ht, h2c]
        · try dsimp only
          omega
    · try simp only [nb] at hge
      refine exit (pX (pX (bX (pN (sg (co (Ev.assign (.c (v := .bool true) rfl)) ?_))))))
      refine nP (ret (done rfl (.tmp rfl .nil) (retE ?_)))
      exact bT (by
        have e : i.toNat = a.length := by omega
        rw [e, List.take_length, List.take_of_length_le (by omega)] at ht
        exact ht)
theorem sameInts_ok (u v : Value) (a b : List Int) (w : World) (ha : IsSl iE w u a) (hb : IsSl iE w v b) : Calls Tryz.prog 31 #[u, v] w (RetV w (.bool (decide (a = b)))) := by
  have hal := ha.le
  have hbl := hb.le
  refine en0 26 Tryz.func31 ?_
  refine sg (co (Ev.assign (.c (v := .bool false) rfl)) ?_)
  refine nP (seq (sg (mv rfl (co (Ev.len Tryz.underlying22 (.t rfl) (fun w I => ha.keep0 I.keeps)) ?_))))
  refine mv rfl (co (Ev.len Tryz.underlying22 (.t rfl) (fun w I => hb.keep0 I.keeps)) ?_)
  refine co (Ev.neq_i (.t rfl) (.t rfl)) ?_
  refine nP ?_
  first | refine condD rfl (fun hne => ?_) (fun hlen => ?_) | refine cond rfl (fun hne => ?_) (fun hlen => ?_)
  · try simp only [nb] at hne
    refine sg (co (Ev.assign (.c (v := .bool false) rfl)) ?_)
    refine nP (ret (pR (done rfl (.tmp rfl .nil) (retE ?_))))
    exact bF (fun e => by subst e; omega)
  · try simp only [nb] at hlen
    refine skip (pN (seq (sg (co (Ev.assign (.c (v := I 0) rfl)) ?_))))
    refine nP (block (lp (X := Int) (fun x : Int => (0 ≤ x ∧ x ≤ a.length) ∧ (a.take x.toNat = b.take x.toNat)) (fun x : Int => [(0, true, u), (1, true, v), (5, true, I x)]) (fun x : Int => []) (fun x : Int => (a.length - x).toNat) (0) ⟨?_, ?_⟩ (fun x hx => ?_)))
    · omega
    · rfl
    obtain ⟨i, rfl⟩ : ∃ y, y = x := ⟨x, rfl⟩
    obtain ⟨hi, ht⟩ : (0 ≤ i ∧ i ≤ a.length) ∧ (a.take i.toNat = b.take i.toNat) := hx
    show Sat _ _ [(0, true, u), (1, true, v), (5, true, I i)] []
    refine seq (sg (mv rfl (mv rfl (co (Ev.len Tryz.underlying22 (.t rfl) (fun w I => ha.keep0 I.keeps)) ?_))))
    refine co (Ev.lss_i (.t rfl) (.t rfl)) ?_
    refine nP ?_
    first | refine condD rfl (fun hlt => ?_) (fun hge => ?_) | refine cond rfl (fun hlt => ?_) (fun hge => ?_)
    · try simp only [nb] at hlt
      refine skip (pN (seq (block (seq (draw' zk ?_)))))
      refine tk 0 rfl (Ev.move (.t rfl)) ?_
      refine tk 1 rfl (Ev.move (.t rfl)) ?_
      refine tk 2 rfl (Ev.indexAddr Tryz.underlying22 ty3 (.t rfl) (.t rfl) (fun w I => ha.keep0 I.keeps) (fun _ => zo)) ?_
      refine tk 3 rfl (Ev.loadS0 ty3 (.t rfl) (fun w I => ha.keep0 I.keeps) (fun _ => zo)) ?_
      refine tk 4 rfl (Ev.move (.t rfl)) ?_
      refine tk 5 rfl (Ev.move (.t rfl)) ?_
      refine tk 6 rfl (Ev.indexAddr Tryz.underlying22 ty3 (.t rfl) (.t rfl) (fun w I => hb.keep0 I.keeps) (fun _ => zo)) ?_
      refine tk 7 rfl (Ev.loadS0 ty3 (.t rfl) (fun w I => hb.keep0 I.keeps) (fun _ => zo)) ?_
      refine tk 8 rfl (Ev.neq_i (.t rfl) (.t rfl)) ?_
      refine ovr (pN ?_)
      first | refine condD rfl (fun h2 => ?_) (fun h2 => ?_) | refine cond rfl (fun h2 => ?_) (fun h2 => ?_)
      · refine sg (co (Ev.assign (.c (v := .bool false) rfl)) ?_)
        refine nP (ret (bR (pR (pR (bR (pR (done rfl (.tmp rfl .nil) (retE ?_))))))))
        exact bF (fun e => by subst e; simp at h2)
      · refine skip (bN (pN (region (mv rfl (co (Ev.add_i (.t rfl) (.c (v := I 1) rfl) (fun _ => zo)) ?_)))))
        refine asn rfl (nP (nx (X := Int) (i + 1) ⟨?_, ?_⟩ ?_))
        · try dsimp only
          omega
        · try dsimp only
          have h2c : a.getD i.toNat iE.zero = b.getD i.toNat iE.zero := by simpa using h2
          rw [take_snoc a i hi.1 (by omega) iE.zero, take_snoc b i hi.1 (by omega) iE.zero, ht, h2c]
        · try dsimp only
          omega
    · try simp only [nb] at hge
      refine exit (pX (pX (bX (pN (sg (co (Ev.assign (.c (v := .bool true) rfl)) ?_))))))
      refine nP (ret (done rfl (.tmp rfl .nil) (retE ?_)))
      exact bT (by
        have e : i.toNat = a.length := by omega
        rw [e, List.take_length, List.take_of_length_le (by omega)] at ht
        exact ht)
theorem rroutes_n (u : Value) (a : List SRoute) (y : SRoute) (w : World) (ha : IsSl eRoute w u a) : Calls Tryz.prog 60 #[u, eRoute.val y] w (RetV w (I (a.countP (SRoute.eqb y) : Nat))) := by
  have hal := ha.le
  refine en0 22 Tryz.func60 ?_
  refine sg (cons (box (E := eRoute) (.t rfl) (fun b1 => ?_)))
  refine co (Ev.assign (.c (v := I 0) rfl)) ?_
  refine nP (sg (co (Ev.assign (.c (v := I 0) rfl)) ?_))
  refine nP (seq (sg (co (Ev.assign (.c (v := I 0) rfl)) ?_)))
  refine nP (block (lp (X := Int × Nat) (fun x : Int × Nat => (0 ≤ x.1 ∧ x.1 ≤ a.length) ∧ (x.2 = (a.take x.1.toNat).countP (SRoute.eqb y))) (fun x : Int × Nat => [(0, true, u), (3, true, .pointer (some ⟨b1, 0, none⟩)), (5, true, I (x.2 : Nat)), (6, true, I x.1)]) (fun x : Int × Nat => [Var b1 eRoute y 52]) (fun x : Int × Nat => (a.length - x.1).toNat) (0, 0) ⟨?_, ?_⟩ (fun x hx => ?_)))
  · omega
  · rfl
  obtain ⟨i, n⟩ := x
  obtain ⟨hi, hn⟩ : (0 ≤ i ∧ i ≤ a.length) ∧ (n = (a.take i.toNat).countP (SRoute.eqb y)) := hx
  show Sat _ _ [(0, true, u), (3, true, .pointer (some ⟨b1, 0, none⟩)), (5, true, I (n : Nat)), (6, true, I i)] [Var b1 eRoute y 52]
  have hnl : n ≤ i.toNat := by rw [hn]; exact Nat.le_trans List.countP_le_length (by simp; omega)
  refine seq (sg (mv rfl (mv rfl (co (Ev.len Tryz.underlying23 (.t rfl) (fun w I => ha.keep0 I.keeps)) ?_))))
  refine co (Ev.lss_i (.t rfl) (.t rfl)) ?_
  refine nP ?_
  first | refine condD rfl (fun h0 => ?_) (fun h0 => ?_) | refine cond rfl (fun h0 => ?_) (fun h0 => ?_)
  · try simp only [nb] at h0
    refine skip (pN (seq (block (seq (draw' zk ?_)))))
    refine tk 0 rfl (Ev.move (.t rfl)) ?_
    refine tk 1 rfl (Ev.move (.t rfl)) ?_
    refine tk 2 rfl (Ev.indexAddr Tryz.underlying23 ty52 (.t rfl) (.t rfl) (fun w I => ha.keep0 I.keeps) (fun _ => zo)) ?_
    refine tk 3 rfl (Ev.loadS0 ty52 (.t rfl) (fun w I => ha.keep0 I.keeps) (fun _ => zo)) ?_
    refine tk 4 rfl (Ev.ldx y ty52 (.t rfl) (Lens.id _)) ?_
    refine tk 5 rfl (Ev.eqlS rfl eqok52 rfl zk (.t rfl) (.t rfl)) ?_
    refine ovr (pN ?_)
    first | refine condD rfl (fun h1 => ?_) (fun h1 => ?_) | refine cond rfl (fun h1 => ?_) (fun h1 => ?_)
    · have hst : n + 1 = (a.take (i + 1).toNat).countP (SRoute.eqb y) := by
        rw [take_snoc a i hi.1 (by omega) eRoute.zero, List.countP_append, ← hn]
        have e : a.getD i.toNat eRoute.zero = y := (SRoute.eqb_iff _ _).1 (by simpa using h1)
        rw [e, List.countP_singleton, (SRoute.eqb_iff _ _).2 rfl]
        rfl
      refine region (mv rfl (co (Ev.to (v' := I ((n + 1 : Nat) : Int)) (Ev.add_i (.t rfl) (.c (v := I 1) rfl) (fun _ => zo)) (congrArg I (by omega))) ?_))
      refine asn rfl (nil (bN (pN (region (mv rfl (co (Ev.add_i (.t rfl) (.c (v := I 1) rfl) (fun _ => zo)) ?_))))))
      refine asn rfl (nP (nx (X := Int × Nat) (i + 1, _) ⟨?_, ?_⟩ ?_))
      · try dsimp only
        omega
      · try dsimp only
        exact hst
      · try dsimp only
        omega
    · have hst : n = (a.take (i + 1).toNat).countP (SRoute.eqb y) := by
        rw [take_snoc a i hi.1 (by omega) eRoute.zero, List.countP_append, ← hn]
        have e : ¬ SRoute.eqb y (a.getD i.toNat eRoute.zero) = true := fun h => by
          have h2 := (SRoute.eqb_iff _ _).1 h
          rw [← h2] at h1
          simp [SRoute.eqb_self] at h1
        rw [List.countP_singleton, if_neg e]
        rfl
      refine skip (bN (pN (region (mv rfl (co (Ev.add_i (.t rfl) (.c (v := I 1) rfl) (fun _ => zo)) ?_)))))
      refine asn rfl (nP (nx (X := Int × Nat) (i + 1, _) ⟨?_, ?_⟩ ?_))
      · try dsimp only
        omega
      · try dsimp only
        exact hst
      · try dsimp only
        omega
  · try simp only [nb] at h0
    refine exit (pX (pX (bX (pN (sg (mv rfl (asn rfl (nP (ret (done rfl (.tmp rfl .nil) (retE ?_)))))))))))
    have e : a.take i.toNat = a := List.take_of_length_le (by omega)
    rw [e] at hn
    rw [hn]; rfl
theorem rmeters_n (u : Value) (a : List SMeterConf) (y : SMeterConf) (w : World) (ha : IsSl eMeterConf w u a) : Calls Tryz.prog 61 #[u, eMeterConf.val y] w (RetV w (I (a.countP (SMeterConf.eqb y) : Nat))) := by
  have hal := ha.le
  refine en0 22 Tryz.func61 ?_
  refine sg (cons (box (E := eMeterConf) (.t rfl) (fun b1 => ?_)))
  refine co (Ev.assign (.c (v := I 0) rfl)) ?_
  refine nP (sg (co (Ev.assign (.c (v := I 0) rfl)) ?_))
  refine nP (seq (sg (co (Ev.assign (.c (v := I 0) rfl)) ?_)))
  refine nP (block (lp (X := Int × Nat) (fun x : Int × Nat => (0 ≤ x.1 ∧ x.1 ≤ a.length) ∧ (x.2 = (a.take x.1.toNat).countP (SMeterConf.eqb y))) (fun x : Int × Nat => [(0, true, u), (3, true, .pointer (some ⟨b1, 0, none⟩)), (5, true, I (x.2 : Nat)), (6, true, I x.1)]) (fun x : Int × Nat => [Var b1 eMeterConf y 57]) (fun x : Int × Nat => (a.length - x.1).toNat) (0, 0) ⟨?_, ?_⟩ (fun x hx => ?_)))
  · omega
  · rfl
  obtain ⟨i, n⟩ := x
  obtain ⟨hi, hn⟩ : (0 ≤ i ∧ i ≤ a.length) ∧ (n = (a.take i.toNat).countP (SMeterConf.eqb y)) := hx
  show Sat _ _ [(0, true, u), (3, true, .pointer (some ⟨b1, 0, none⟩)), (5, true, I (n : Nat)), (6, true, I i)] [Var b1 eMeterConf y 57]
  have hnl : n ≤ i.toNat := by rw [hn]; exact Nat.le_trans List.countP_le_length (by simp; omega)
  refine seq (sg (mv rfl (mv rfl (co (Ev.len Tryz.underlying25 (.t rfl) (fun w I => ha.keep0 I.keeps)) ?_))))
  refine co (Ev.lss_i (.t rfl) (.t rfl)) ?_
  refine nP ?_
  first | refine condD rfl (fun h0 => ?_) (fun h0 => ?_) | refine cond rfl (fun h0 => ?_) (fun h0 => ?_)
  · try simp only [nb] at h0
    refine skip (pN (seq (block (seq (draw' zk ?_)))))
    refine tk 0 rfl (Ev.move (.t rfl)) ?_
    refine tk 1 rfl (Ev.move (.t rfl)) ?_
    refine tk 2 rfl (Ev.indexAddr Tryz.underlying25 ty57 (.t rfl) (.t rfl) (fun w I => ha.keep0 I.keeps) (fun _ => zo)) ?_
    refine tk 3 rfl (Ev.loadS0 ty57 (.t rfl) (fun w I => ha.keep0 I.keeps) (fun _ => zo)) ?_
    refine tk 4 rfl (Ev.ldx y ty57 (.t rfl) (Lens.id _)) ?_
    refine tk 5 rfl (Ev.eqlS rfl eqok57 rfl zk (.t rfl) (.t rfl)) ?_
    refine ovr (pN ?_)
    first | refine condD rfl (fun h1 => ?_) (fun h1 => ?_) | refine cond rfl (fun h1 => ?_) (fun h1 => ?_)
    · have hst : n + 1 = (a.take (i + 1).toNat).countP (SMeterConf.eqb y) := by
        rw [take_snoc a i hi.1 (by omega) eMeterConf.zero, List.countP_append, ← hn]
        have e : a.getD i.toNat eMeterConf.zero = y := (SMeterConf.eqb_iff _ _).1 (by simpa using h1)
        rw [e, List.countP_singleton, (SMeterConf.eqb_iff _ _).2 rfl]
        rfl
      refine region (mv rfl (co (Ev.to (v' := I ((n + 1 : Nat) : Int)) (Ev.add_i (.t rfl) (.c (v := I 1) rfl) (fun _ => zo)) (congrArg I (by omega))) ?_))
      refine asn rfl (nil (bN (pN (region (mv rfl (co (Ev.add_i (.t rfl) (.c (v := I 1) rfl) (fun _ => zo)) ?_))))))
      refine asn rfl (nP (nx (X := Int × Nat) (i + 1, _) ⟨?_, ?_⟩ ?_))
      · try dsimp only
        omega
      · try dsimp only
        exact hst
      · try dsimp only
        omega
    · have hst : n = (a.take (i + 1).toNat).countP (SMeterConf.eqb y) := by
        rw [take_snoc a i hi.1 (by omega) eMeterConf.zero, List.countP_append, ← hn]
        have e : ¬ SMeterConf.eqb y (a.getD i.toNat eMeterConf.zero) = true := fun h => by
          have h2 := (SMeterConf.eqb_iff _ _).1 h
          rw [← h2] at h1
          simp [SMeterConf.eqb_self] at h1
        rw [List.countP_singleton, if_neg e]
        rfl
      refine skip (bN (pN (region (mv rfl (co (Ev.add_i (.t rfl) (.c (v := I 1) rfl) (fun _ => zo)) ?_)))))
      refine asn rfl (nP (nx (X := Int × Nat) (i + 1, _) ⟨?_, ?_⟩ ?_))
      · try dsimp only
        omega
      · try dsimp only
        exact hst
      · try dsimp only
        omega
  · try simp only [nb] at h0
    refine exit (pX (pX (bX (pN (sg (mv rfl (asn rfl (nP (ret (done rfl (.tmp rfl .nil) (retE ?_)))))))))))
    have e : a.take i.toNat = a := List.take_of_length_le (by omega)
    rw [e] at hn
    rw [hn]; rfl
theorem rmirrors_n (u : Value) (a : List SMirrorConf) (y : SMirrorConf) (w : World) (ha : IsSl eMirrorConf w u a) : Calls Tryz.prog 62 #[u, eMirrorConf.val y] w (RetV w (I (a.countP (SMirrorConf.eqb y) : Nat))) := by
  have hal := ha.le
  refine en0 22 Tryz.func62 ?_
  refine sg (cons (box (E := eMirrorConf) (.t rfl) (fun b1 => ?_)))
  refine co (Ev.assign (.c (v := I 0) rfl)) ?_
  refine nP (sg (co (Ev.assign (.c (v := I 0) rfl)) ?_))
  refine nP (seq (sg (co (Ev.assign (.c (v := I 0) rfl)) ?_)))
  refine nP (block (lp (X := Int × Nat) (fun x : Int × Nat => (0 ≤ x.1 ∧ x.1 ≤ a.length) ∧ (x.2 = (a.take x.1.toNat).countP (SMirrorConf.eqb y))) (fun x : Int × Nat => [(0, true, u), (3, true, .pointer (some ⟨b1, 0, none⟩)), (5, true, I (x.2 : Nat)), (6, true, I x.1)]) (fun x : Int × Nat => [Var b1 eMirrorConf y 59]) (fun x : Int × Nat => (a.length - x.1).toNat) (0, 0) ⟨?_, ?_⟩ (fun x hx => ?_)))
  · omega
  · rfl
  obtain ⟨i, n⟩ := x
  obtain ⟨hi, hn⟩ : (0 ≤ i ∧ i ≤ a.length) ∧ (n = (a.take i.toNat).countP (SMirrorConf.eqb y)) := hx
  show Sat _ _ [(0, true, u), (3, true, .pointer (some ⟨b1, 0, none⟩)), (5, true, I (n : Nat)), (6, true, I i)] [Var b1 eMirrorConf y 59]
  have hnl : n ≤ i.toNat := by rw [hn]; exact Nat.le_trans List.countP_le_length (by simp; omega)
  refine seq (sg (mv rfl (mv rfl (co (Ev.len Tryz.underlying26 (.t rfl) (fun w I => ha.keep0 I.keeps)) ?_))))
  refine co (Ev.lss_i (.t rfl) (.t rfl)) ?_
  refine nP ?_
  first | refine condD rfl (fun h0 => ?_) (fun h0 => ?_) | refine cond rfl (fun h0 => ?_) (fun h0 => ?_)
  · try simp only [nb] at h0
    refine skip (pN (seq (block (seq (draw' zk ?_)))))
    refine tk 0 rfl (Ev.move (.t rfl)) ?_
    refine tk 1 rfl (Ev.move (.t rfl)) ?_
    refine tk 2 rfl (Ev.indexAddr Tryz.underlying26 ty59 (.t rfl) (.t rfl) (fun w I => ha.keep0 I.keeps) (fun _ => zo)) ?_
    refine tk 3 rfl (Ev.loadS0 ty59 (.t rfl) (fun w I => ha.keep0 I.keeps) (fun _ => zo)) ?_
    refine tk 4 rfl (Ev.ldx y ty59 (.t rfl) (Lens.id _)) ?_
    refine tk 5 rfl (Ev.eqlS rfl eqok59 rfl zk (.t rfl) (.t rfl)) ?_
    refine ovr (pN ?_)
    first | refine condD rfl (fun h1 => ?_) (fun h1 => ?_) | refine cond rfl (fun h1 => ?_) (fun h1 => ?_)
    · have hst : n + 1 = (a.take (i + 1).toNat).countP (SMirrorConf.eqb y) := by
        rw [take_snoc a i hi.1 (by omega) eMirrorConf.zero, List.countP_append, ← hn]
        have e : a.getD i.toNat eMirrorConf.zero = y := (SMirrorConf.eqb_iff _ _).1 (by simpa using h1)
        rw [e, List.countP_singleton, (SMirrorConf.eqb_iff _ _).2 rfl]
        rfl
      refine region (mv rfl (co (Ev.to (v' := I ((n + 1 : Nat) : Int)) (Ev.add_i (.t rfl) (.c (v := I 1) rfl) (fun _ => zo)) (congrArg I (by omega))) ?_))
      refine asn rfl (nil (bN (pN (region (mv rfl (co (Ev.add_i (.t rfl) (.c (v := I 1) rfl) (fun _ => zo)) ?_))))))
      refine asn rfl (nP (nx (X := Int × Nat) (i + 1, _) ⟨?_, ?_⟩ ?_))
      · try dsimp only
        omega
      · try dsimp only
        exact hst
      · try dsimp only
        omega
    · have hst : n = (a.take (i + 1).toNat).countP (SMirrorConf.eqb y) := by
        rw [take_snoc a i hi.1 (by omega) eMirrorConf.zero, List.countP_append, ← hn]
        have e : ¬ SMirrorConf.eqb y (a.getD i.toNat eMirrorConf.zero) = true := fun h => by
          have h2 := (SMirrorConf.eqb_iff _ _).1 h
          rw [← h2] at h1
          simp [SMirrorConf.eqb_self] at h1
        rw [List.countP_singleton, if_neg e]
        rfl
      refine skip (bN (pN (region (mv rfl (co (Ev.add_i (.t rfl) (.c (v := I 1) rfl) (fun _ => zo)) ?_)))))
      refine asn rfl (nP (nx (X := Int × Nat) (i + 1, _) ⟨?_, ?_⟩ ?_))
      · try dsimp only
        omega
      · try dsimp only
        exact hst
      · try dsimp only
        omega
  · try simp only [nb] at h0
    refine exit (pX (pX (bX (pN (sg (mv rfl (asn rfl (nP (ret (done rfl (.tmp rfl .nil) (retE ?_)))))))))))
    have e : a.take i.toNat = a := List.take_of_length_le (by omega)
    rw [e] at hn
    rw [hn]; rfl
def hdrB (a b : CL) (d e : Int) : Bool := decide (d = e ∧ a.ps = b.ps ∧ a.us = b.us ∧ a.rs.length = b.rs.length ∧ a.ms.length = b.ms.length ∧ a.xs.length = b.xs.length)
def cntB {α : Type} (q : α → α → Bool) (l k : List α) : Bool := l.all (fun x => decide (l.countP (q x) = k.countP (q x)))
theorem sameB_R (a b : CL) (d e : Int) : sameB a b d e = (hdrB a b d e && (cntB SRoute.eqb a.rs b.rs && (cntB SMeterConf.eqb a.ms b.ms && cntB SMirrorConf.eqb a.xs b.xs))) := by
  unfold sameB
  rw [← alikeR_eq SRoute.eqb_iff, ← alikeR_eq SMeterConf.eqb_iff, ← alikeR_eq SMirrorConf.eqb_iff]
  unfold alikeR hdrB
  simp only [Bool.decide_and]
  show _ = (_ && (cntB _ _ _ && (cntB _ _ _ && cntB _ _ _)))
  unfold cntB
  ac_rfl
theorem cntB_no {α : Type} {q : α → α → Bool} {l k : List α} (z : α) (i : Nat) (h : i < l.length) (hn : ¬ l.countP (q (l.getD i z)) = k.countP (q (l.getD i z))) : cntB q l k = false := by
  unfold cntB
  exact List.all_eq_false.2 ⟨l.getD i z, getD_in _ _ _ h, by simpa using hn⟩
theorem cntB_yes {α : Type} {q : α → α → Bool} {l k : List α} (z : α) (h : ∀ j, j < l.length → l.countP (q (l.getD j z)) = k.countP (q (l.getD j z))) : cntB q l k = true := by
  unfold cntB
  rw [List.all_eq_true]
  intro x hx
  obtain ⟨j, hj, rfl⟩ := List.mem_iff_getElem.1 hx
  have := h j hj
  simpa [List.getD, hj] using this
def exactB (a b : CL) (d e : Int) : Bool := decide (d = e ∧ a.ps = b.ps ∧ a.us = b.us ∧ a.rs = b.rs ∧ a.ms = b.ms ∧ a.xs = b.xs)
theorem exactB_self (a : CL) (d : Int) : exactB a a d d = true := decide_eq_true ⟨rfl, rfl, rfl, rfl, rfl, rfl⟩
theorem sameB_perm (a b : CL) (d e : Int) : sameB a b d e = true ↔ d = e ∧ a.ps = b.ps ∧ a.us = b.us ∧ a.rs.Perm b.rs ∧ a.ms.Perm b.ms ∧ a.xs.Perm b.xs := by
  unfold sameB
  simp only [Bool.and_eq_true, decide_eq_true_iff, alike_perm SRoute.eqb_iff, alike_perm SMeterConf.eqb_iff, alike_perm SMirrorConf.eqb_iff]
theorem eq_getD {α : Type} {l k : List α} (z : α) (h : l.length = k.length) (hq : ∀ j, j < l.length → l.getD j z = k.getD j z) : l = k := by
  refine List.ext_getElem h fun j h1 h2 => ?_
  have := hq j h1
  simpa [List.getD, h1, h2] using this
theorem en58 : Gx.Enters Tryz.prog 58 := Gx.Enters.mk' zk
theorem en59 : Gx.Enters Tryz.prog 59 := Gx.Enters.mk' zk
theorem en60 : Gx.Enters Tryz.prog 60 := Gx.Enters.mk' zk
theorem en61 : Gx.Enters Tryz.prog 61 := Gx.Enters.mk' zk
theorem en62 : Gx.Enters Tryz.prog 62 := Gx.Enters.mk' zk
theorem rsame_ok (a b : SConf) (l k : CL) (w : World) (ha : ConfAt w a l) (hb : ConfAt w b k) : Calls Tryz.prog 22 #[eConf.val a, eConf.val b] w (RetV w (.bool (sameB l k a.default b.default))) := by
  have hla0 := ha.ps.le
  have hlb0 := hb.ps.le
  have hla1 := ha.rs.le
  have hlb1 := hb.rs.le
  have hla2 := ha.us.le
  have hlb2 := hb.us.le
  have hla3 := ha.ms.le
  have hlb3 := hb.ms.le
  have hla4 := ha.xs.le
  have hlb4 := hb.xs.le
  refine en0 128 Tryz.func22 ?_
  refine sg (cons (box (E := eConf) (.t rfl) (fun b1 => ?_)))
  refine cons (box (E := eConf) (.t rfl) (fun b2 => ?_))
  refine co (Ev.assign (.c (v := .bool false) rfl)) ?_
  refine nP (seq (sg (co (fA 5 (.t rfl)) ?_)))
  refine co (Ev.ldx a.default ty3 (.t rfl) SConf.l_default) ?_
  refine co (fA 5 (.t rfl)) ?_
  refine co (Ev.ldx b.default ty3 (.t rfl) SConf.l_default) ?_
  refine co (Ev.neq_i (.t rfl) (.t rfl)) ?_
  refine mv rfl (cg rfl rfl (fA 0 (.t rfl)) ?_)
  refine cg rfl rfl (Ev.ldx a.ports ty22 (.g rfl id) SConf.l_ports) ?_
  refine cg rfl rfl (fA 0 (.t rfl)) ?_
  refine cg rfl rfl (Ev.ldx b.ports ty22 (.g rfl id) SConf.l_ports) ?_
  refine cons (callg rfl rfl en58 (.cons (.g rfl id) (.cons (.g rfl id) .nil)) (fun hg w I => samePorts_ok _ _ _ _ w ((ha.keep0 I.keeps).ps) ((hb.keep0 I.keeps).ps)) ?_)
  refine cg rfl rfl (Ev.not (.g rfl id)) ?_
  refine co (Ev.pkO (.t rfl) rfl) ?_
  refine mv rfl (cg rfl rfl (fA 2 (.t rfl)) ?_)
  refine cg rfl rfl (Ev.ldx a.rules ty24 (.g rfl id) SConf.l_rules) ?_
  refine cg rfl rfl (fA 2 (.t rfl)) ?_
  refine cg rfl rfl (Ev.ldx b.rules ty24 (.g rfl id) SConf.l_rules) ?_
  refine cons (callg rfl rfl en59 (.cons (.g rfl id) (.cons (.g rfl id) .nil)) (fun hg w I => sameRules_ok _ _ _ _ w ((ha.keep0 I.keeps).us) ((hb.keep0 I.keeps).us)) ?_)
  refine cg rfl rfl (Ev.not (.g rfl id)) ?_
  refine co (Ev.pkO (.t rfl) rfl) ?_
  refine mv rfl (cg rfl rfl (fA 1 (.t rfl)) ?_)
  refine cg rfl rfl (Ev.ldx a.routes ty23 (.g rfl id) SConf.l_routes) ?_
  refine cg rfl rfl (Ev.len Tryz.underlying23 (.g rfl id) (fun w I => (ha.keep0 I.keeps).rs)) ?_
  refine cg rfl rfl (fA 1 (.t rfl)) ?_
  refine cg rfl rfl (Ev.ldx b.routes ty23 (.g rfl id) SConf.l_routes) ?_
  refine cg rfl rfl (Ev.len Tryz.underlying23 (.g rfl id) (fun w I => (hb.keep0 I.keeps).rs)) ?_
  refine cg rfl rfl (Ev.neq_i (.g rfl id) (.g rfl id)) ?_
  refine co (Ev.pkO (.t rfl) rfl) ?_
  refine mv rfl (cg rfl rfl (fA 3 (.t rfl)) ?_)
  refine cg rfl rfl (Ev.ldx a.meters ty25 (.g rfl id) SConf.l_meters) ?_
  refine cg rfl rfl (Ev.len Tryz.underlying25 (.g rfl id) (fun w I => (ha.keep0 I.keeps).ms)) ?_
  refine cg rfl rfl (fA 3 (.t rfl)) ?_
  refine cg rfl rfl (Ev.ldx b.meters ty25 (.g rfl id) SConf.l_meters) ?_
  refine cg rfl rfl (Ev.len Tryz.underlying25 (.g rfl id) (fun w I => (hb.keep0 I.keeps).ms)) ?_
  refine cg rfl rfl (Ev.neq_i (.g rfl id) (.g rfl id)) ?_
  refine co (Ev.pkO (.t rfl) rfl) ?_
  refine mv rfl (cg rfl rfl (fA 4 (.t rfl)) ?_)
  refine cg rfl rfl (Ev.ldx a.mirrors ty26 (.g rfl id) SConf.l_mirrors) ?_
  refine cg rfl rfl (Ev.len Tryz.underlying26 (.g rfl id) (fun w I => (ha.keep0 I.keeps).xs)) ?_
  refine cg rfl rfl (fA 4 (.t rfl)) ?_
  refine cg rfl rfl (Ev.ldx b.mirrors ty26 (.g rfl id) SConf.l_mirrors) ?_
  refine cg rfl rfl (Ev.len Tryz.underlying26 (.g rfl id) (fun w I => (hb.keep0 I.keeps).xs)) ?_
  refine cg rfl rfl (Ev.neq_i (.g rfl id) (.g rfl id)) ?_
  refine co (Ev.pkO (.t rfl) rfl) ?_
  refine nP ?_
  first | refine condD rfl (fun h0 => ?_) (fun h0 => ?_) | refine cond rfl (fun h0 => ?_) (fun h0 => ?_)
  · refine sg (co (Ev.assign (.c (v := .bool false) rfl)) ?_)
    refine nP (ret (pR (done rfl (.tmp rfl .nil) (retE ?_))))
    have hh : hdrB l k a.default b.default = false := by
      rw [Bool.eq_false_iff]
      intro h
      obtain ⟨e1, e2, e3, e4, e5, e6⟩ := of_decide_eq_true h
      simp [e1, e2, e3, e4, e5, e6] at h0
    rw [sameB_R, hh]; rfl
  · have hhd : hdrB l k a.default b.default = true := by
      simp at h0
      exact decide_eq_true ⟨h0.1.1.1.1.1, h0.1.1.1.1.2, h0.1.1.1.2, by omega, by omega, by omega⟩
    refine skip (pN (seq (sg (co (Ev.assign (.c (v := I 0) rfl)) ?_))))
    refine nP (block (lp (X := Int) (fun x : Int => (0 ≤ x ∧ x ≤ l.rs.length) ∧ (∀ j : Nat, j < x → l.rs.countP (SRoute.eqb (l.rs.getD j eRoute.zero)) = k.rs.countP (SRoute.eqb (l.rs.getD j eRoute.zero)))) (fun x : Int => [(2, true, .pointer (some ⟨b1, 0, none⟩)), (3, true, .pointer (some ⟨b2, 0, none⟩)), (5, true, I x)]) (fun x : Int => [Var b2 eConf b 28, Var b1 eConf a 28]) (fun x : Int => (l.rs.length - x).toNat) (0) ⟨?_, ?_⟩ (fun x hx => ?_)))
    · omega
    · intro j h; omega
    obtain ⟨i0, rfl⟩ : ∃ y, y = x := ⟨x, rfl⟩
    obtain ⟨hi0, hq0⟩ : (0 ≤ i0 ∧ i0 ≤ l.rs.length) ∧ (∀ j : Nat, j < i0 → l.rs.countP (SRoute.eqb (l.rs.getD j eRoute.zero)) = k.rs.countP (SRoute.eqb (l.rs.getD j eRoute.zero))) := hx
    show Sat _ _ [(2, true, .pointer (some ⟨b1, 0, none⟩)), (3, true, .pointer (some ⟨b2, 0, none⟩)), (5, true, I i0)] [Var b2 eConf b 28, Var b1 eConf a 28]
    refine seq (sg (mv rfl (co (fA 1 (.t rfl)) ?_)))
    refine co (Ev.ldx a.routes ty23 (.t rfl) SConf.l_routes) ?_
    refine co (Ev.len Tryz.underlying23 (.t rfl) (fun w I => (ha.keep0 I.keeps).rs)) ?_
    refine co (Ev.lss_i (.t rfl) (.t rfl)) ?_
    refine nP ?_
    first | refine condD rfl (fun h1 => ?_) (fun h1 => ?_) | refine cond rfl (fun h1 => ?_) (fun h1 => ?_)
    · try simp only [nb] at h1
      refine skip (pN (seq (block (seq (draw' zk ?_)))))
      refine tk 0 rfl (fA 1 (.t rfl)) ?_
      refine tk 1 rfl (Ev.ldx a.routes ty23 (.t rfl) SConf.l_routes) ?_
      refine tk 2 rfl (fA 1 (.t rfl)) ?_
      refine tk 3 rfl (Ev.ldx a.routes ty23 (.t rfl) SConf.l_routes) ?_
      refine tk 4 rfl (Ev.move (.t rfl)) ?_
      refine tk 5 rfl (Ev.indexAddr Tryz.underlying23 ty52 (.t rfl) (.t rfl) (fun w I => (ha.keep0 I.keeps).rs) (fun _ => zo)) ?_
      refine tk 6 rfl (Ev.loadS0 ty52 (.t rfl) (fun w I => (ha.keep0 I.keeps).rs) (fun _ => zo)) ?_
      refine tk 8 rfl (fA 1 (.t rfl)) ?_
      refine tk 9 rfl (Ev.ldx b.routes ty23 (.t rfl) SConf.l_routes) ?_
      refine tk 10 rfl (fA 1 (.t rfl)) ?_
      refine tk 11 rfl (Ev.ldx a.routes ty23 (.t rfl) SConf.l_routes) ?_
      refine tk 12 rfl (Ev.move (.t rfl)) ?_
      refine tk 13 rfl (Ev.indexAddr Tryz.underlying23 ty52 (.t rfl) (.t rfl) (fun w I => (ha.keep0 I.keeps).rs) (fun _ => zo)) ?_
      refine tk 14 rfl (Ev.loadS0 ty52 (.t rfl) (fun w I => (ha.keep0 I.keeps).rs) (fun _ => zo)) ?_
      refine al1 7 rfl ((callv en60 (.cons (.t rfl) (.cons (.t rfl) .nil)) (fun w I => rroutes_n _ _ _ w ((ha.keep0 I.keeps).rs)) ?_))
      refine hdn (al1 15 rfl ((callv en60 (.cons (.t rfl) (.cons (.t rfl) .nil)) (fun w I => rroutes_n _ _ _ w ((hb.keep0 I.keeps).rs)) ?_)))
      refine hdn (tk 16 rfl (Ev.neq_i (.t rfl) (.t rfl)) ?_)
      refine ovr (pN ?_)
      first | refine condD rfl (fun h2 => ?_) (fun h2 => ?_) | refine cond rfl (fun h2 => ?_) (fun h2 => ?_)
      · replace h2 : ¬ l.rs.countP (SRoute.eqb (l.rs.getD i0.toNat eRoute.zero)) = k.rs.countP (SRoute.eqb (l.rs.getD i0.toNat eRoute.zero)) := by omega
        refine sg (co (Ev.assign (.c (v := .bool false) rfl)) ?_)
        refine nP (ret (bR (pR (pR (bR (pR (done rfl (.tmp rfl .nil) (retE ?_))))))))
        have hh : cntB SRoute.eqb l.rs k.rs = false := cntB_no eRoute.zero i0.toNat (by omega) h2
        rw [sameB_R, hh]; simp [tupV]
      · replace h2 : l.rs.countP (SRoute.eqb (l.rs.getD i0.toNat eRoute.zero)) = k.rs.countP (SRoute.eqb (l.rs.getD i0.toNat eRoute.zero)) := by omega
        refine skip (bN (pN (region (mv rfl (co (Ev.add_i (.t rfl) (.c (v := I 1) rfl) (fun _ => zo)) ?_)))))
        refine asn rfl (nP (nx (X := Int) (i0 + 1) ⟨?_, ?_⟩ ?_))
        · try dsimp only
          omega
        · try dsimp only
          intro j h
          by_cases e : (j : Int) < i0
          · exact hq0 j e
          · obtain rfl : j = i0.toNat := by omega
            exact h2
        · try dsimp only
          omega
    · try simp only [nb] at h1
      refine exit (pX (pX (bX (pN (seq (sg (co (Ev.assign (.c (v := I 0) rfl)) ?_)))))))
      refine nP (block (lp (X := Int) (fun x : Int => (0 ≤ x ∧ x ≤ l.ms.length) ∧ (∀ j : Nat, j < x → l.ms.countP (SMeterConf.eqb (l.ms.getD j eMeterConf.zero)) = k.ms.countP (SMeterConf.eqb (l.ms.getD j eMeterConf.zero)))) (fun x : Int => [(2, true, .pointer (some ⟨b1, 0, none⟩)), (3, true, .pointer (some ⟨b2, 0, none⟩)), (6, true, I x)]) (fun x : Int => [Var b2 eConf b 28, Var b1 eConf a 28]) (fun x : Int => (l.ms.length - x).toNat) (0) ⟨?_, ?_⟩ (fun x hx => ?_)))
      · omega
      · intro j h; omega
      obtain ⟨i1, rfl⟩ : ∃ y, y = x := ⟨x, rfl⟩
      obtain ⟨hi1, hq1⟩ : (0 ≤ i1 ∧ i1 ≤ l.ms.length) ∧ (∀ j : Nat, j < i1 → l.ms.countP (SMeterConf.eqb (l.ms.getD j eMeterConf.zero)) = k.ms.countP (SMeterConf.eqb (l.ms.getD j eMeterConf.zero))) := hx
      show Sat _ _ [(2, true, .pointer (some ⟨b1, 0, none⟩)), (3, true, .pointer (some ⟨b2, 0, none⟩)), (6, true, I i1)] [Var b2 eConf b 28, Var b1 eConf a 28]
      refine seq (sg (mv rfl (co (fA 3 (.t rfl)) ?_)))
      refine co (Ev.ldx a.meters ty25 (.t rfl) SConf.l_meters) ?_
      refine co (Ev.len Tryz.underlying25 (.t rfl) (fun w I => (ha.keep0 I.keeps).ms)) ?_
      refine co (Ev.lss_i (.t rfl) (.t rfl)) ?_
      refine nP ?_
      first | refine condD rfl (fun h3 => ?_) (fun h3 => ?_) | refine cond rfl (fun h3 => ?_) (fun h3 => ?_)
      · try simp only [nb] at h3
        refine skip (pN (seq (block (seq (draw' zk ?_)))))
        refine tk 0 rfl (fA 3 (.t rfl)) ?_
        refine tk 1 rfl (Ev.ldx a.meters ty25 (.t rfl) SConf.l_meters) ?_
        refine tk 2 rfl (fA 3 (.t rfl)) ?_
        refine tk 3 rfl (Ev.ldx a.meters ty25 (.t rfl) SConf.l_meters) ?_
        refine tk 4 rfl (Ev.move (.t rfl)) ?_
        refine tk 5 rfl (Ev.indexAddr Tryz.underlying25 ty57 (.t rfl) (.t rfl) (fun w I => (ha.keep0 I.keeps).ms) (fun _ => zo)) ?_
        refine tk 6 rfl (Ev.loadS0 ty57 (.t rfl) (fun w I => (ha.keep0 I.keeps).ms) (fun _ => zo)) ?_
        refine tk 8 rfl (fA 3 (.t rfl)) ?_
        refine tk 9 rfl (Ev.ldx b.meters ty25 (.t rfl) SConf.l_meters) ?_
        refine tk 10 rfl (fA 3 (.t rfl)) ?_
        refine tk 11 rfl (Ev.ldx a.meters ty25 (.t rfl) SConf.l_meters) ?_
        refine tk 12 rfl (Ev.move (.t rfl)) ?_
        refine tk 13 rfl (Ev.indexAddr Tryz.underlying25 ty57 (.t rfl) (.t rfl) (fun w I => (ha.keep0 I.keeps).ms) (fun _ => zo)) ?_
        refine tk 14 rfl (Ev.loadS0 ty57 (.t rfl) (fun w I => (ha.keep0 I.keeps).ms) (fun _ => zo)) ?_
        refine al1 7 rfl ((callv en61 (.cons (.t rfl) (.cons (.t rfl) .nil)) (fun w I => rmeters_n _ _ _ w ((ha.keep0 I.keeps).ms)) ?_))
        refine hdn (al1 15 rfl ((callv en61 (.cons (.t rfl) (.cons (.t rfl) .nil)) (fun w I => rmeters_n _ _ _ w ((hb.keep0 I.keeps).ms)) ?_)))
        refine hdn (tk 16 rfl (Ev.neq_i (.t rfl) (.t rfl)) ?_)
        refine ovr (pN ?_)
        first | refine condD rfl (fun h4 => ?_) (fun h4 => ?_) | refine cond rfl (fun h4 => ?_) (fun h4 => ?_)
        · replace h4 : ¬ l.ms.countP (SMeterConf.eqb (l.ms.getD i1.toNat eMeterConf.zero)) = k.ms.countP (SMeterConf.eqb (l.ms.getD i1.toNat eMeterConf.zero)) := by omega
          refine sg (co (Ev.assign (.c (v := .bool false) rfl)) ?_)
          refine nP (ret (bR (pR (pR (bR (pR (done rfl (.tmp rfl .nil) (retE ?_))))))))
          have hh : cntB SMeterConf.eqb l.ms k.ms = false := cntB_no eMeterConf.zero i1.toNat (by omega) h4
          rw [sameB_R, hh]; simp [tupV]
        · replace h4 : l.ms.countP (SMeterConf.eqb (l.ms.getD i1.toNat eMeterConf.zero)) = k.ms.countP (SMeterConf.eqb (l.ms.getD i1.toNat eMeterConf.zero)) := by omega
          refine skip (bN (pN (region (mv rfl (co (Ev.add_i (.t rfl) (.c (v := I 1) rfl) (fun _ => zo)) ?_)))))
          refine asn rfl (nP (nx (X := Int) (i1 + 1) ⟨?_, ?_⟩ ?_))
          · try dsimp only
            omega
          · try dsimp only
            intro j h
            by_cases e : (j : Int) < i1
            · exact hq1 j e
            · obtain rfl : j = i1.toNat := by omega
              exact h4
          · try dsimp only
            omega
      · try simp only [nb] at h3
        refine exit (pX (pX (bX (pN (seq (sg (co (Ev.assign (.c (v := I 0) rfl)) ?_)))))))
        refine nP (block (lp (X := Int) (fun x : Int => (0 ≤ x ∧ x ≤ l.xs.length) ∧ (∀ j : Nat, j < x → l.xs.countP (SMirrorConf.eqb (l.xs.getD j eMirrorConf.zero)) = k.xs.countP (SMirrorConf.eqb (l.xs.getD j eMirrorConf.zero)))) (fun x : Int => [(2, true, .pointer (some ⟨b1, 0, none⟩)), (3, true, .pointer (some ⟨b2, 0, none⟩)), (7, true, I x)]) (fun x : Int => [Var b2 eConf b 28, Var b1 eConf a 28]) (fun x : Int => (l.xs.length - x).toNat) (0) ⟨?_, ?_⟩ (fun x hx => ?_)))
        · omega
        · intro j h; omega
        obtain ⟨i2, rfl⟩ : ∃ y, y = x := ⟨x, rfl⟩
        obtain ⟨hi2, hq2⟩ : (0 ≤ i2 ∧ i2 ≤ l.xs.length) ∧ (∀ j : Nat, j < i2 → l.xs.countP (SMirrorConf.eqb (l.xs.getD j eMirrorConf.zero)) = k.xs.countP (SMirrorConf.eqb (l.xs.getD j eMirrorConf.zero))) := hx
        show Sat _ _ [(2, true, .pointer (some ⟨b1, 0, none⟩)), (3, true, .pointer (some ⟨b2, 0, none⟩)), (7, true, I i2)] [Var b2 eConf b 28, Var b1 eConf a 28]
        refine seq (sg (mv rfl (co (fA 4 (.t rfl)) ?_)))
        refine co (Ev.ldx a.mirrors ty26 (.t rfl) SConf.l_mirrors) ?_
        refine co (Ev.len Tryz.underlying26 (.t rfl) (fun w I => (ha.keep0 I.keeps).xs)) ?_
        refine co (Ev.lss_i (.t rfl) (.t rfl)) ?_
        refine nP ?_
        first | refine condD rfl (fun h5 => ?_) (fun h5 => ?_) | refine cond rfl (fun h5 => ?_) (fun h5 => ?_)
        · try simp only [nb] at h5
          refine skip (pN (seq (block (seq (draw' zk ?_)))))
          refine tk 0 rfl (fA 4 (.t rfl)) ?_
          refine tk 1 rfl (Ev.ldx a.mirrors ty26 (.t rfl) SConf.l_mirrors) ?_
          refine tk 2 rfl (fA 4 (.t rfl)) ?_
          refine tk 3 rfl (Ev.ldx a.mirrors ty26 (.t rfl) SConf.l_mirrors) ?_
          refine tk 4 rfl (Ev.move (.t rfl)) ?_
          refine tk 5 rfl (Ev.indexAddr Tryz.underlying26 ty59 (.t rfl) (.t rfl) (fun w I => (ha.keep0 I.keeps).xs) (fun _ => zo)) ?_
          refine tk 6 rfl (Ev.loadS0 ty59 (.t rfl) (fun w I => (ha.keep0 I.keeps).xs) (fun _ => zo)) ?_
          refine tk 8 rfl (fA 4 (.t rfl)) ?_
          refine tk 9 rfl (Ev.ldx b.mirrors ty26 (.t rfl) SConf.l_mirrors) ?_
          refine tk 10 rfl (fA 4 (.t rfl)) ?_
          refine tk 11 rfl (Ev.ldx a.mirrors ty26 (.t rfl) SConf.l_mirrors) ?_
          refine tk 12 rfl (Ev.move (.t rfl)) ?_
          refine tk 13 rfl (Ev.indexAddr Tryz.underlying26 ty59 (.t rfl) (.t rfl) (fun w I => (ha.keep0 I.keeps).xs) (fun _ => zo)) ?_
          refine tk 14 rfl (Ev.loadS0 ty59 (.t rfl) (fun w I => (ha.keep0 I.keeps).xs) (fun _ => zo)) ?_
          refine al1 7 rfl ((callv en62 (.cons (.t rfl) (.cons (.t rfl) .nil)) (fun w I => rmirrors_n _ _ _ w ((ha.keep0 I.keeps).xs)) ?_))
          refine hdn (al1 15 rfl ((callv en62 (.cons (.t rfl) (.cons (.t rfl) .nil)) (fun w I => rmirrors_n _ _ _ w ((hb.keep0 I.keeps).xs)) ?_)))
          refine hdn (tk 16 rfl (Ev.neq_i (.t rfl) (.t rfl)) ?_)
          refine ovr (pN ?_)
          first | refine condD rfl (fun h6 => ?_) (fun h6 => ?_) | refine cond rfl (fun h6 => ?_) (fun h6 => ?_)
          · replace h6 : ¬ l.xs.countP (SMirrorConf.eqb (l.xs.getD i2.toNat eMirrorConf.zero)) = k.xs.countP (SMirrorConf.eqb (l.xs.getD i2.toNat eMirrorConf.zero)) := by omega
            refine sg (co (Ev.assign (.c (v := .bool false) rfl)) ?_)
            refine nP (ret (bR (pR (pR (bR (pR (done rfl (.tmp rfl .nil) (retE ?_))))))))
            have hh : cntB SMirrorConf.eqb l.xs k.xs = false := cntB_no eMirrorConf.zero i2.toNat (by omega) h6
            rw [sameB_R, hh]; simp [tupV]
          · replace h6 : l.xs.countP (SMirrorConf.eqb (l.xs.getD i2.toNat eMirrorConf.zero)) = k.xs.countP (SMirrorConf.eqb (l.xs.getD i2.toNat eMirrorConf.zero)) := by omega
            refine skip (bN (pN (region (mv rfl (co (Ev.add_i (.t rfl) (.c (v := I 1) rfl) (fun _ => zo)) ?_)))))
            refine asn rfl (nP (nx (X := Int) (i2 + 1) ⟨?_, ?_⟩ ?_))
            · try dsimp only
              omega
            · try dsimp only
              intro j h
              by_cases e : (j : Int) < i2
              · exact hq2 j e
              · obtain rfl : j = i2.toNat := by omega
                exact h6
            · try dsimp only
              omega
        · try simp only [nb] at h5
          refine exit (pX (pX (bX (pN (sg (co (Ev.assign (.c (v := .bool true) rfl)) ?_))))))
          refine nP (ret (done rfl (.tmp rfl .nil) (retE ?_)))
          rw [sameB_R, hhd, cntB_yes eRoute.zero (fun j hj => hq0 j (by omega)), cntB_yes eMeterConf.zero (fun j hj => hq1 j (by omega)), cntB_yes eMirrorConf.zero (fun j hj => hq2 j (by omega))]; rfl
theorem en22 : Gx.Enters Tryz.prog 22 := Gx.Enters.mk' zk
theorem rexact_ok (a b : SConf) (l k : CL) (w : World) (ha : ConfAt w a l) (hb : ConfAt w b k) : Calls Tryz.prog 17 #[eConf.val a, eConf.val b] w (RetV w (.bool (exactB l k a.default b.default))) := by
  have hla0 := ha.ps.le
  have hlb0 := hb.ps.le
  have hla1 := ha.rs.le
  have hlb1 := hb.rs.le
  have hla2 := ha.us.le
  have hlb2 := hb.us.le
  have hla3 := ha.ms.le
  have hlb3 := hb.ms.le
  have hla4 := ha.xs.le
  have hlb4 := hb.xs.le
  refine en0 66 Tryz.func17 ?_
  refine sg (cons (box (E := eConf) (.t rfl) (fun b1 => ?_)))
  refine cons (box (E := eConf) (.t rfl) (fun b2 => ?_))
  refine co (Ev.assign (.c (v := .bool false) rfl)) ?_
  refine nP (seq (sg (co (Ev.ldx a ty28 (.t rfl) (Lens.id _)) ?_)))
  refine co (Ev.ldx b ty28 (.t rfl) (Lens.id _)) ?_
  refine cons (callv en22 (.cons (.t rfl) (.cons (.t rfl) .nil)) (fun w I => rsame_ok a b l k w (ha.keep0 I.keeps) (hb.keep0 I.keeps)) ?_)
  refine co (Ev.not (.t rfl)) ?_
  refine nP ?_
  first | refine condD rfl (fun h0 => ?_) (fun h0 => ?_) | refine cond rfl (fun h0 => ?_) (fun h0 => ?_)
  · refine sg (co (Ev.assign (.c (v := .bool false) rfl)) ?_)
    refine nP (ret (pR (done rfl (.tmp rfl .nil) (retE ?_))))
    have hh : exactB l k a.default b.default = false := by
      rw [Bool.eq_false_iff]
      intro h
      obtain ⟨e1, e2, e3, e4, e5, e6⟩ := of_decide_eq_true h
      have hp := (sameB_perm l k a.default b.default).2 ⟨e1, e2, e3, by rw [e4], by rw [e5], by rw [e6]⟩
      simp [hp] at h0
    rw [hh]; rfl
  · have hsm := (sameB_perm l k a.default b.default).1 (by simpa using h0)
    have hn4 := hsm.2.2.2.1.length_eq
    have hn5 := hsm.2.2.2.2.1.length_eq
    have hn6 := hsm.2.2.2.2.2.length_eq
    refine skip (pN (seq (sg (co (Ev.assign (.c (v := I 0) rfl)) ?_))))
    refine nP (block (lp (X := Int) (fun x : Int => (0 ≤ x ∧ x ≤ l.rs.length) ∧ (∀ j : Nat, j < x → l.rs.getD j eRoute.zero = k.rs.getD j eRoute.zero)) (fun x : Int => [(2, true, .pointer (some ⟨b1, 0, none⟩)), (3, true, .pointer (some ⟨b2, 0, none⟩)), (5, true, I x)]) (fun x : Int => [Var b2 eConf b 28, Var b1 eConf a 28]) (fun x : Int => (l.rs.length - x).toNat) (0) ⟨?_, ?_⟩ (fun x hx => ?_)))
    · omega
    · intro j h; omega
    obtain ⟨i0, rfl⟩ : ∃ y, y = x := ⟨x, rfl⟩
    obtain ⟨hi0, hq0⟩ : (0 ≤ i0 ∧ i0 ≤ l.rs.length) ∧ (∀ j : Nat, j < i0 → l.rs.getD j eRoute.zero = k.rs.getD j eRoute.zero) := hx
    show Sat _ _ [(2, true, .pointer (some ⟨b1, 0, none⟩)), (3, true, .pointer (some ⟨b2, 0, none⟩)), (5, true, I i0)] [Var b2 eConf b 28, Var b1 eConf a 28]
    refine seq (sg (mv rfl (co (fA 1 (.t rfl)) ?_)))
    refine co (Ev.ldx a.routes ty23 (.t rfl) SConf.l_routes) ?_
    refine co (Ev.len Tryz.underlying23 (.t rfl) (fun w I => (ha.keep0 I.keeps).rs)) ?_
    refine co (Ev.lss_i (.t rfl) (.t rfl)) ?_
    refine nP ?_
    first | refine condD rfl (fun h1 => ?_) (fun h1 => ?_) | refine cond rfl (fun h1 => ?_) (fun h1 => ?_)
    · try simp only [nb] at h1
      refine skip (pN (seq (block (seq (draw' zk ?_)))))
      refine tk 0 rfl (fA 1 (.t rfl)) ?_
      refine tk 1 rfl (Ev.ldx a.routes ty23 (.t rfl) SConf.l_routes) ?_
      refine tk 2 rfl (Ev.move (.t rfl)) ?_
      refine tk 3 rfl (Ev.indexAddr Tryz.underlying23 ty52 (.t rfl) (.t rfl) (fun w I => (ha.keep0 I.keeps).rs) (fun _ => zo)) ?_
      refine tk 4 rfl (Ev.loadS0 ty52 (.t rfl) (fun w I => (ha.keep0 I.keeps).rs) (fun _ => zo)) ?_
      refine tk 5 rfl (fA 1 (.t rfl)) ?_
      refine tk 6 rfl (Ev.ldx b.routes ty23 (.t rfl) SConf.l_routes) ?_
      refine tk 7 rfl (Ev.move (.t rfl)) ?_
      refine tk 8 rfl (Ev.indexAddr Tryz.underlying23 ty52 (.t rfl) (.t rfl) (fun w I => (hb.keep0 I.keeps).rs) (fun _ => zo)) ?_
      refine tk 9 rfl (Ev.loadS0 ty52 (.t rfl) (fun w I => (hb.keep0 I.keeps).rs) (fun _ => zo)) ?_
      refine tk 10 rfl (Ev.neqS rfl eqok52 rfl zk (.t rfl) (.t rfl)) ?_
      refine ovr (pN ?_)
      first | refine condD rfl (fun h2 => ?_) (fun h2 => ?_) | refine cond rfl (fun h2 => ?_) (fun h2 => ?_)
      · refine sg (co (Ev.assign (.c (v := .bool false) rfl)) ?_)
        refine nP (ret (bR (pR (pR (bR (pR (done rfl (.tmp rfl .nil) (retE ?_))))))))
        have hh : exactB l k a.default b.default = false := by
          rw [Bool.eq_false_iff]
          intro h
          obtain ⟨e1, e2, e3, e4, e5, e6⟩ := of_decide_eq_true h
          rw [e4] at h2
          simp at h2
        rw [hh]; rfl
      · refine skip (bN (pN (region (mv rfl (co (Ev.add_i (.t rfl) (.c (v := I 1) rfl) (fun _ => zo)) ?_)))))
        refine asn rfl (nP (nx (X := Int) (i0 + 1) ⟨?_, ?_⟩ ?_))
        · try dsimp only
          omega
        · try dsimp only
          intro j h
          by_cases e : (j : Int) < i0
          · exact hq0 j e
          · obtain rfl : j = i0.toNat := by omega
            simpa using h2
        · try dsimp only
          omega
    · try simp only [nb] at h1
      refine exit (pX (pX (bX (pN (seq (sg (co (Ev.assign (.c (v := I 0) rfl)) ?_)))))))
      refine nP (block (lp (X := Int) (fun x : Int => (0 ≤ x ∧ x ≤ l.ms.length) ∧ (∀ j : Nat, j < x → l.ms.getD j eMeterConf.zero = k.ms.getD j eMeterConf.zero)) (fun x : Int => [(2, true, .pointer (some ⟨b1, 0, none⟩)), (3, true, .pointer (some ⟨b2, 0, none⟩)), (6, true, I x)]) (fun x : Int => [Var b2 eConf b 28, Var b1 eConf a 28]) (fun x : Int => (l.ms.length - x).toNat) (0) ⟨?_, ?_⟩ (fun x hx => ?_)))
      · omega
      · intro j h; omega
      obtain ⟨i1, rfl⟩ : ∃ y, y = x := ⟨x, rfl⟩
      obtain ⟨hi1, hq1⟩ : (0 ≤ i1 ∧ i1 ≤ l.ms.length) ∧ (∀ j : Nat, j < i1 → l.ms.getD j eMeterConf.zero = k.ms.getD j eMeterConf.zero) := hx
      show Sat _ _ [(2, true, .pointer (some ⟨b1, 0, none⟩)), (3, true, .pointer (some ⟨b2, 0, none⟩)), (6, true, I i1)] [Var b2 eConf b 28, Var b1 eConf a 28]
      refine seq (sg (mv rfl (co (fA 3 (.t rfl)) ?_)))
      refine co (Ev.ldx a.meters ty25 (.t rfl) SConf.l_meters) ?_
      refine co (Ev.len Tryz.underlying25 (.t rfl) (fun w I => (ha.keep0 I.keeps).ms)) ?_
      refine co (Ev.lss_i (.t rfl) (.t rfl)) ?_
      refine nP ?_
      first | refine condD rfl (fun h3 => ?_) (fun h3 => ?_) | refine cond rfl (fun h3 => ?_) (fun h3 => ?_)
      · try simp only [nb] at h3
        refine skip (pN (seq (block (seq (draw' zk ?_)))))
        refine tk 0 rfl (fA 3 (.t rfl)) ?_
        refine tk 1 rfl (Ev.ldx a.meters ty25 (.t rfl) SConf.l_meters) ?_
        refine tk 2 rfl (Ev.move (.t rfl)) ?_
        refine tk 3 rfl (Ev.indexAddr Tryz.underlying25 ty57 (.t rfl) (.t rfl) (fun w I => (ha.keep0 I.keeps).ms) (fun _ => zo)) ?_
        refine tk 4 rfl (Ev.loadS0 ty57 (.t rfl) (fun w I => (ha.keep0 I.keeps).ms) (fun _ => zo)) ?_
        refine tk 5 rfl (fA 3 (.t rfl)) ?_
        refine tk 6 rfl (Ev.ldx b.meters ty25 (.t rfl) SConf.l_meters) ?_
        refine tk 7 rfl (Ev.move (.t rfl)) ?_
        refine tk 8 rfl (Ev.indexAddr Tryz.underlying25 ty57 (.t rfl) (.t rfl) (fun w I => (hb.keep0 I.keeps).ms) (fun _ => zo)) ?_
        refine tk 9 rfl (Ev.loadS0 ty57 (.t rfl) (fun w I => (hb.keep0 I.keeps).ms) (fun _ => zo)) ?_
        refine tk 10 rfl (Ev.neqS rfl eqok57 rfl zk (.t rfl) (.t rfl)) ?_
        refine ovr (pN ?_)
        first | refine condD rfl (fun h4 => ?_) (fun h4 => ?_) | refine cond rfl (fun h4 => ?_) (fun h4 => ?_)
        · refine sg (co (Ev.assign (.c (v := .bool false) rfl)) ?_)
          refine nP (ret (bR (pR (pR (bR (pR (done rfl (.tmp rfl .nil) (retE ?_))))))))
          have hh : exactB l k a.default b.default = false := by
            rw [Bool.eq_false_iff]
            intro h
            obtain ⟨e1, e2, e3, e4, e5, e6⟩ := of_decide_eq_true h
            rw [e5] at h4
            simp at h4
          rw [hh]; rfl
        · refine skip (bN (pN (region (mv rfl (co (Ev.add_i (.t rfl) (.c (v := I 1) rfl) (fun _ => zo)) ?_)))))
          refine asn rfl (nP (nx (X := Int) (i1 + 1) ⟨?_, ?_⟩ ?_))
          · try dsimp only
            omega
          · try dsimp only
            intro j h
            by_cases e : (j : Int) < i1
            · exact hq1 j e
            · obtain rfl : j = i1.toNat := by omega
              simpa using h4
          · try dsimp only
            omega
      · try simp only [nb] at h3
        refine exit (pX (pX (bX (pN (seq (sg (co (Ev.assign (.c (v := I 0) rfl)) ?_)))))))
        refine nP (block (lp (X := Int) (fun x : Int => (0 ≤ x ∧ x ≤ l.xs.length) ∧ (∀ j : Nat, j < x → l.xs.getD j eMirrorConf.zero = k.xs.getD j eMirrorConf.zero)) (fun x : Int => [(2, true, .pointer (some ⟨b1, 0, none⟩)), (3, true, .pointer (some ⟨b2, 0, none⟩)), (7, true, I x)]) (fun x : Int => [Var b2 eConf b 28, Var b1 eConf a 28]) (fun x : Int => (l.xs.length - x).toNat) (0) ⟨?_, ?_⟩ (fun x hx => ?_)))
        · omega
        · intro j h; omega
        obtain ⟨i2, rfl⟩ : ∃ y, y = x := ⟨x, rfl⟩
        obtain ⟨hi2, hq2⟩ : (0 ≤ i2 ∧ i2 ≤ l.xs.length) ∧ (∀ j : Nat, j < i2 → l.xs.getD j eMirrorConf.zero = k.xs.getD j eMirrorConf.zero) := hx
        show Sat _ _ [(2, true, .pointer (some ⟨b1, 0, none⟩)), (3, true, .pointer (some ⟨b2, 0, none⟩)), (7, true, I i2)] [Var b2 eConf b 28, Var b1 eConf a 28]
        refine seq (sg (mv rfl (co (fA 4 (.t rfl)) ?_)))
        refine co (Ev.ldx a.mirrors ty26 (.t rfl) SConf.l_mirrors) ?_
        refine co (Ev.len Tryz.underlying26 (.t rfl) (fun w I => (ha.keep0 I.keeps).xs)) ?_
        refine co (Ev.lss_i (.t rfl) (.t rfl)) ?_
        refine nP ?_
        first | refine condD rfl (fun h5 => ?_) (fun h5 => ?_) | refine cond rfl (fun h5 => ?_) (fun h5 => ?_)
        · try simp only [nb] at h5
          refine skip (pN (seq (block (seq (draw' zk ?_)))))
          refine tk 0 rfl (fA 4 (.t rfl)) ?_
          refine tk 1 rfl (Ev.ldx a.mirrors ty26 (.t rfl) SConf.l_mirrors) ?_
          refine tk 2 rfl (Ev.move (.t rfl)) ?_
          refine tk 3 rfl (Ev.indexAddr Tryz.underlying26 ty59 (.t rfl) (.t rfl) (fun w I => (ha.keep0 I.keeps).xs) (fun _ => zo)) ?_
          refine tk 4 rfl (Ev.loadS0 ty59 (.t rfl) (fun w I => (ha.keep0 I.keeps).xs) (fun _ => zo)) ?_
          refine tk 5 rfl (fA 4 (.t rfl)) ?_
          refine tk 6 rfl (Ev.ldx b.mirrors ty26 (.t rfl) SConf.l_mirrors) ?_
          refine tk 7 rfl (Ev.move (.t rfl)) ?_
          refine tk 8 rfl (Ev.indexAddr Tryz.underlying26 ty59 (.t rfl) (.t rfl) (fun w I => (hb.keep0 I.keeps).xs) (fun _ => zo)) ?_
          refine tk 9 rfl (Ev.loadS0 ty59 (.t rfl) (fun w I => (hb.keep0 I.keeps).xs) (fun _ => zo)) ?_
          refine tk 10 rfl (Ev.neqS rfl eqok59 rfl zk (.t rfl) (.t rfl)) ?_
          refine ovr (pN ?_)
          first | refine condD rfl (fun h6 => ?_) (fun h6 => ?_) | refine cond rfl (fun h6 => ?_) (fun h6 => ?_)
          · refine sg (co (Ev.assign (.c (v := .bool false) rfl)) ?_)
            refine nP (ret (bR (pR (pR (bR (pR (done rfl (.tmp rfl .nil) (retE ?_))))))))
            have hh : exactB l k a.default b.default = false := by
              rw [Bool.eq_false_iff]
              intro h
              obtain ⟨e1, e2, e3, e4, e5, e6⟩ := of_decide_eq_true h
              rw [e6] at h6
              simp at h6
            rw [hh]; rfl
          · refine skip (bN (pN (region (mv rfl (co (Ev.add_i (.t rfl) (.c (v := I 1) rfl) (fun _ => zo)) ?_)))))
            refine asn rfl (nP (nx (X := Int) (i2 + 1) ⟨?_, ?_⟩ ?_))
            · try dsimp only
              omega
            · try dsimp only
              intro j h
              by_cases e : (j : Int) < i2
              · exact hq2 j e
              · obtain rfl : j = i2.toNat := by omega
                simpa using h6
            · try dsimp only
              omega
        · try simp only [nb] at h5
          refine exit (pX (pX (bX (pN (sg (co (Ev.assign (.c (v := .bool true) rfl)) ?_))))))
          refine nP (ret (done rfl (.tmp rfl .nil) (retE ?_)))
          have hh : exactB l k a.default b.default = true := decide_eq_true ⟨hsm.1, hsm.2.1, hsm.2.2.1, eq_getD eRoute.zero (by omega) (fun j hj => hq0 j (by omega)), eq_getD eMeterConf.zero (by omega) (fun j hj => hq1 j (by omega)), eq_getD eMirrorConf.zero (by omega) (fun j hj => hq2 j (by omega))⟩
          rw [hh]; rfl
theorem mo5 {K : Ctx} {L : List Res} {x : CB} {l : CL} {d : Int} (w : World) (I : WInv K L w) (h0 : OwnS x.o1.v iE (markL l).ps 3 ∈ L := by repeat first | exact mH | apply mT | apply mA) (h1 : OwnS x.o2.v eRoute (markL l).rs 52 ∈ L := by repeat first | exact mH | apply mT | apply mA) (h2 : OwnS x.o3.v eRule (markL l).us 76 ∈ L := by repeat first | exact mH | apply mT | apply mA) (h3 : OwnS x.o4.v eMeterConf (markL l).ms 57 ∈ L := by repeat first | exact mH | apply mT | apply mA) (h4 : OwnS x.o5.v eMirrorConf (markL l).xs 59 ∈ L := by repeat first | exact mH | apply mT | apply mA) : ConfAt w ((subC x l).c d) l := (co5 (d := d) w I h0 h1 h2 h3 h4).sub
theorem CL.Small.n {l : CL} (h : l.Small) : l.n ≤ 4611686018427387904 := by
  obtain ⟨h1, h2, h3, h4, h5⟩ := h
  unfold CL.n
  omega
theorem takeC_small (l : CL) {n : Nat} (h : n ≤ 2000) : (takeC l n).Small := by
  obtain ⟨h1, h2, h3, h4, h5⟩ := takeC_len l n
  exact ⟨by omega, by omega, by omega, by omega, by omega⟩
theorem takeC_names {l : CL} (h : l.Names) (n : Nat) : (takeC l n).Names := ⟨fun x hx => h.us x (List.mem_of_mem_take hx), fun x hx => h.ms x (List.mem_of_mem_take hx), fun x hx => h.xs x (List.mem_of_mem_take hx)⟩
theorem en10 : Gx.Enters Tryz.prog 10 := Gx.Enters.mk' zk
theorem en11 : Gx.Enters Tryz.prog 11 := Gx.Enters.mk' zk
theorem en13 : Gx.Enters Tryz.prog 13 := Gx.Enters.mk' zk
theorem en14 : Gx.Enters Tryz.prog 14 := Gx.Enters.mk' zk
theorem en17 : Gx.Enters Tryz.prog 17 := Gx.Enters.mk' zk
theorem en18 : Gx.Enters Tryz.prog 18 := Gx.Enters.mk' zk
theorem en19 : Gx.Enters Tryz.prog 19 := Gx.Enters.mk' zk
theorem en20 : Gx.Enters Tryz.prog 20 := Gx.Enters.mk' zk
theorem ConfChecks_walk (c : SConf) (l : CL) (w : World) (hc : ConfAt w c l) (hn : l.Names) : Calls Tryz.prog 3 #[eConf.val c] w (RetV w (.bool true)) := by
  have hsm := takeC_small l (n := 1100) (by decide)
  have hfl := checkF_len (takeC l 1100) c.default
  have hmay : decide (¬ mayB (takeC l 1100) c.default = decide (((checkF (takeC l 1100) c.default).length : Int) = 0)) = false := by
    unfold mayB
    cases (checkF (takeC l 1100) c.default) <;> simp
    omega
  refine en0 85 Tryz.func3 ?_
  refine sg (cons (box (E := eConf) (.t rfl) (fun b1 => ?_)))
  refine co (Ev.assign (.c (v := .bool false) rfl)) ?_
  refine nP (sg (co (Ev.ldv ty28 (.t rfl) (Lens.id _)) ?_))
  refine cons (calln (X := CB) (fun _ => True) (fun x => eConf.val ((subC x (takeC l 1100)).c c.default)) (fun x => x.R (markL (takeC l 1100))) en10 (.cons (.t rfl) (.cons (.c (v := I 1100) rfl) .nil)) (fun w I => cut_ok c l 1100 w (hc.keep0 I.keeps) (by decide)) (fun x0 _ => ?_))
  refine cons (alloc z28 (fun b2 => ?_))
  refine cons (stv ty28 (Lens.id _) (.t rfl) (.t rfl) ?_)
  refine nP (sg (co (Ev.to (v' := eConf.val ((subC x0 (takeC l 1100)).c c.default)) (Ev.ldv ty28 (.t rfl) (Lens.id _)) (rfl)) ?_))
  refine cons (calln (X := CB) (fun _ => True) (fun x => eConf.val (x.c c.default)) (fun x => x.R (takeC l 1100)) en11 (.cons (.t rfl) .nil) (fun w I => rcopy_ok ((subC x0 (takeC l 1100)).c c.default) (takeC l 1100) w (mo5 (x := x0) (l := (takeC l 1100)) w I) hsm) (fun x1 _ => ?_))
  refine cons (alloc z28 (fun b3 => ?_))
  refine cons (stv ty28 (Lens.id _) (.t rfl) (.t rfl) ?_)
  refine nP (seq (draw' zk ?_))
  refine tk 0 rfl (Ev.to (v' := eConf.val ((subC x0 (takeC l 1100)).c c.default)) (Ev.ldv ty28 (.t rfl) (Lens.id _)) (rfl)) ?_
  refine tk 2 rfl (Ev.to (v' := eConf.val ((subC x0 (takeC l 1100)).c c.default)) (Ev.ldv ty28 (.t rfl) (Lens.id _)) (rfl)) ?_
  refine al1 1 rfl ((callo (xs := checkF (takeC l 1100) c.default) en12 (.cons (.t rfl) .nil) (fun w I => conf_check ((subC x0 (takeC l 1100)).c c.default) (takeC l 1100) w (mo5 (x := x0) (l := (takeC l 1100)) w I) (takeC_names hn 1100) hsm.n) (fun f1 => ?_)))
  refine hdn (al1 3 rfl ((callo (xs := checkF (takeC l 1100) c.default) en12 (.cons (.t rfl) .nil) (fun w I => conf_check ((subC x0 (takeC l 1100)).c c.default) (takeC l 1100) w (mo5 (x := x0) (l := (takeC l 1100)) w I) (takeC_names hn 1100) hsm.n) (fun f2 => ?_))))
  refine hdn (tk 4 rfl (Ev.assign (.t rfl)) ?_)
  refine tk 5 rfl (Ev.assign (.t rfl)) ?_
  refine ovr (pN (sg (co (Ev.to (v' := eConf.val (x1.c c.default)) (Ev.ldv ty28 (.t rfl) (Lens.id _)) (rfl)) ?_)))
  refine cons (callo (xs := checkF (takeC l 1100) c.default) en13 (.cons (.t rfl) .nil) (fun w I => rcheck_conf (x1.c c.default) (takeC l 1100) w (co5 (x := x1) (l := (takeC l 1100)) w I) (takeC_names hn 1100) hsm.n) (fun f3 => ?_))
  refine asn rfl (nP (seq (sg (mv rfl (mv rfl (cons (callv en14 (.cons (.t rfl) (.cons (.t rfl) .nil)) (fun w I => sameFaults_ok _ _ _ _ w (by first | exact io w I | exact IsSl.keep0 (by assumption) I.keeps) (by first | exact io w I | exact IsSl.keep0 (by assumption) I.keeps)) ?_)))))))
  refine co (Ev.to (v' := .bool false) (Ev.not (.t rfl)) (congrArg Value.bool (by simp))) ?_
  refine mv rfl (cg rfl rfl (Ev.move (.t rfl)) ?_)
  refine cg rfl rfl (Ev.move (.t rfl)) ?_
  refine cons (callg rfl rfl en14 (.cons (.g rfl id) (.cons (.g rfl id) .nil)) (fun hg w I => sameFaults_ok _ _ _ _ w (by first | exact io w I | exact IsSl.keep0 (by assumption) I.keeps) (by first | exact io w I | exact IsSl.keep0 (by assumption) I.keeps)) ?_)
  refine cg rfl rfl (Ev.to (v' := .bool false) (Ev.not (.g rfl id)) (congrArg Value.bool (by simp))) ?_
  refine co (Ev.to (v' := .bool false) (Ev.pkO (.t rfl) rfl) (rfl)) ?_
  refine mv rfl (cg rfl rfl (Ev.to (v' := eConf.val ((subC x0 (takeC l 1100)).c c.default)) (Ev.ldv ty28 (.t rfl) (Lens.id _)) (rfl)) ?_)
  refine cons (callg rfl rfl en15 (.cons (.g rfl id) .nil) (fun hg w I => may_ok ((subC x0 (takeC l 1100)).c c.default) (takeC l 1100) w (mo5 (x := x0) (l := (takeC l 1100)) w I) (takeC_names hn 1100) hsm.n) ?_)
  refine cg rfl rfl (Ev.move (.t rfl)) ?_
  refine cg rfl rfl (Ev.len Tryz.underlying31 (.g rfl id) zf) ?_
  refine cg rfl rfl (Ev.eql_i (.g rfl id) (.c (v := I 0) rfl)) ?_
  refine cg rfl rfl (Ev.to (v' := .bool false) (Ev.neq_b Tryz.underlying4 (.g rfl id) (.g rfl id)) (congrArg Value.bool hmay)) ?_
  refine co (Ev.to (v' := .bool false) (Ev.pkO (.t rfl) rfl) (rfl)) ?_
  refine nP (condF rfl (rfl) ?_)
  refine skip (pN (seq (seq (arr (L' := [OwnS f1.v eFault (checkF (takeC l 1100) c.default) 37, OwnS f2.v eFault (checkF (takeC l 1100) c.default) 37, OwnS f3.v eFault (checkF (takeC l 1100) c.default) 37, Var b3 eConf (x1.c c.default) 28, OwnS x1.o1.v iE (takeC l 1100).ps 3, OwnS x1.o2.v eRoute (takeC l 1100).rs 52, OwnS x1.o3.v eRule (takeC l 1100).us 76, OwnS x1.o4.v eMeterConf (takeC l 1100).ms 57, OwnS x1.o5.v eMirrorConf (takeC l 1100).xs 59, Var b2 eConf ((subC x0 (takeC l 1100)).c c.default) 28, OwnS x0.o1.v iE (markL (takeC l 1100)).ps 3, OwnS x0.o2.v eRoute (markL (takeC l 1100)).rs 52, OwnS x0.o3.v eRule (markL (takeC l 1100)).us 76, OwnS x0.o4.v eMeterConf (markL (takeC l 1100)).ms 57, OwnS x0.o5.v eMirrorConf (markL (takeC l 1100)).xs 59]) (by repeat first | exact SubP.nil | refine SubP.cons zr ?_) ?_))))
  refine region (co (Ev.assign (.c (v := I 0) rfl)) ?_)
  refine nP (block (lp (X := Int × (List SFault)) (fun x : Int × (List SFault) => (0 ≤ x.1 ∧ x.1 ≤ (checkF (takeC l 1100) c.default).length) ∧ (x.2.length = (checkF (takeC l 1100) c.default).length)) (fun x : Int × (List SFault) => [(3, true, .pointer (some ⟨b2, 0, none⟩)), (4, true, .pointer (some ⟨b3, 0, none⟩)), (5, true, f1.v), (6, true, f2.v), (7, true, f3.v), (8, true, I x.1)]) (fun x : Int × (List SFault) => [OwnS f1.v eFault x.2 37, OwnS f2.v eFault (checkF (takeC l 1100) c.default) 37, OwnS f3.v eFault (checkF (takeC l 1100) c.default) 37, Var b3 eConf (x1.c c.default) 28, OwnS x1.o1.v iE (takeC l 1100).ps 3, OwnS x1.o2.v eRoute (takeC l 1100).rs 52, OwnS x1.o3.v eRule (takeC l 1100).us 76, OwnS x1.o4.v eMeterConf (takeC l 1100).ms 57, OwnS x1.o5.v eMirrorConf (takeC l 1100).xs 59, Var b2 eConf ((subC x0 (takeC l 1100)).c c.default) 28, OwnS x0.o1.v iE (markL (takeC l 1100)).ps 3, OwnS x0.o2.v eRoute (markL (takeC l 1100)).rs 52, OwnS x0.o3.v eRule (markL (takeC l 1100)).us 76, OwnS x0.o4.v eMeterConf (markL (takeC l 1100)).ms 57, OwnS x0.o5.v eMirrorConf (markL (takeC l 1100)).xs 59]) (fun x : Int × (List SFault) => ((checkF (takeC l 1100) c.default).length - x.1).toNat) (0, (checkF (takeC l 1100) c.default)) ⟨?_, ?_⟩ (fun x hx => ?_)))
  · omega
  · rfl
  obtain ⟨i, ys⟩ := x
  obtain ⟨hi, hy⟩ : (0 ≤ i ∧ i ≤ (checkF (takeC l 1100) c.default).length) ∧ (ys.length = (checkF (takeC l 1100) c.default).length) := hx
  show Sat _ _ [(3, true, .pointer (some ⟨b2, 0, none⟩)), (4, true, .pointer (some ⟨b3, 0, none⟩)), (5, true, f1.v), (6, true, f2.v), (7, true, f3.v), (8, true, I i)] [OwnS f1.v eFault ys 37, OwnS f2.v eFault (checkF (takeC l 1100) c.default) 37, OwnS f3.v eFault (checkF (takeC l 1100) c.default) 37, Var b3 eConf (x1.c c.default) 28, OwnS x1.o1.v iE (takeC l 1100).ps 3, OwnS x1.o2.v eRoute (takeC l 1100).rs 52, OwnS x1.o3.v eRule (takeC l 1100).us 76, OwnS x1.o4.v eMeterConf (takeC l 1100).ms 57, OwnS x1.o5.v eMirrorConf (takeC l 1100).xs 59, Var b2 eConf ((subC x0 (takeC l 1100)).c c.default) 28, OwnS x0.o1.v iE (markL (takeC l 1100)).ps 3, OwnS x0.o2.v eRoute (markL (takeC l 1100)).rs 52, OwnS x0.o3.v eRule (markL (takeC l 1100)).us 76, OwnS x0.o4.v eMeterConf (markL (takeC l 1100)).ms 57, OwnS x0.o5.v eMirrorConf (markL (takeC l 1100)).xs 59]
  refine seq (sg (mv rfl (mv rfl (co (Ev.len Tryz.underlying31 (.t rfl) zf) ?_))))
  refine co (Ev.lss_i (.t rfl) (.t rfl)) ?_
  refine nP ?_
  first | refine condD rfl (fun h1 => ?_) (fun h1 => ?_) | refine cond rfl (fun h1 => ?_) (fun h1 => ?_)
  · try simp only [nb] at h1
    refine skip (pN (seq (block (region (mv rfl (mv rfl (co (Ev.buildS (fs := _) (places := [(0, 1), (1, 1)]) z37 rfl Tryz.underlying37 zk (.cons (.c (v := I (-9)) rfl) .nil) (Fills.cons SFault.l_at_ rfl Fills.nil)) ?_)))))))
    refine co (Ev.indexAddr Tryz.underlying31 ty37 (.t rfl) (.t rfl) zf (fun _ => zo)) ?_
    refine cons (storeS0 ty37 (.t rfl) (.t rfl) zu (by omega) ?_)
    refine nil (bN (pN (region (mv rfl (co (Ev.add_i (.t rfl) (.c (v := I 1) rfl) (fun _ => zo)) ?_)))))
    refine asn rfl (nP (nxP (X := Int × (List SFault)) (i + 1, _) ⟨?_, ?_⟩ ?_))
    · try dsimp only
      omega
    · try dsimp only
      rw [List.length_set]; exact hy
    · try dsimp only
      omega
  · try simp only [nb] at h1
    refine exit (pX (pX (bX (pN (cut (X := CB × CB × Nat × Nat) (fun x : CB × CB × Nat × Nat => True) (fun x : CB × CB × Nat × Nat => [(3, true, .pointer (some ⟨b2, 0, none⟩)), (4, true, .pointer (some ⟨b3, 0, none⟩)), (6, true, f2.v), (7, true, f3.v), (9, true, .pointer (some ⟨x.2.2.1, 0, none⟩)), (10, true, .pointer (some ⟨x.2.2.2, 0, none⟩))]) (fun x : CB × CB × Nat × Nat => [Var x.2.2.1 eConf (x.1.c c.default) 28, Var x.2.2.2 eConf (x.2.1.c c.default) 28, OwnS x.1.o1.v iE (takeC l 1100).ps 3, OwnS x.1.o2.v eRoute (takeC l 1100).rs 52, OwnS x.1.o3.v eRule (takeC l 1100).us 76, OwnS x.1.o4.v eMeterConf (takeC l 1100).ms 57, OwnS x.1.o5.v eMirrorConf (takeC l 1100).xs 59, OwnS x.2.1.o1.v iE (takeC l 1100).ps 3, OwnS x.2.1.o2.v eRoute (takeC l 1100).rs 52, OwnS x.2.1.o3.v eRule (takeC l 1100).us 76, OwnS x.2.1.o4.v eMeterConf (takeC l 1100).ms 57, OwnS x.2.1.o5.v eMirrorConf (takeC l 1100).xs 59, OwnS f2.v eFault (checkF (takeC l 1100) c.default) 37, OwnS f3.v eFault (checkF (takeC l 1100) c.default) 37, Var b3 eConf (x1.c c.default) 28, OwnS x1.o1.v iE (takeC l 1100).ps 3, OwnS x1.o2.v eRoute (takeC l 1100).rs 52, OwnS x1.o3.v eRule (takeC l 1100).us 76, OwnS x1.o4.v eMeterConf (takeC l 1100).ms 57, OwnS x1.o5.v eMirrorConf (takeC l 1100).xs 59, Var b2 eConf ((subC x0 (takeC l 1100)).c c.default) 28, OwnS x0.o1.v iE (markL (takeC l 1100)).ps 3, OwnS x0.o2.v eRoute (markL (takeC l 1100)).rs 52, OwnS x0.o3.v eRule (markL (takeC l 1100)).us 76, OwnS x0.o4.v eMeterConf (markL (takeC l 1100)).ms 57, OwnS x0.o5.v eMirrorConf (markL (takeC l 1100)).xs 59]) ?_ (fun x hx => ?_))))))
    · refine draw' zk ?_
      refine tk 0 rfl (Ev.to (v' := eConf.val ((subC x0 (takeC l 1100)).c c.default)) (Ev.ldv ty28 (.t rfl) (Lens.id _)) (rfl)) ?_
      refine tk 2 rfl (Ev.to (v' := eConf.val ((subC x0 (takeC l 1100)).c c.default)) (Ev.ldv ty28 (.t rfl) (Lens.id _)) (rfl)) ?_
      refine all [1, 4, 5] zk (by decide) (.cons rfl ?_ (.cons rfl ?_ (.cons rfl ?_ .nil)))
      · refine (calln (X := CB) (fun _ => True) (fun x => eConf.val (x.c c.default)) (fun x => x.R (takeC l 1100)) en16 (.cons (.t rfl) .nil) (fun w I => copy_ok ((subC x0 (takeC l 1100)).c c.default) (takeC l 1100) w (mo5 (x := x0) (l := (takeC l 1100)) w I) hsm) (fun x2 _ => ?_))
        refine hdn (all [3, 4, 5] zk (by decide) (.cons rfl ?_ (.cons rfl ?_ (.cons rfl ?_ .nil))))
        · refine (calln (X := CB) (fun _ => True) (fun x => eConf.val (x.c c.default)) (fun x => x.R (takeC l 1100)) en16 (.cons (.t rfl) .nil) (fun w I => copy_ok ((subC x0 (takeC l 1100)).c c.default) (takeC l 1100) w (mo5 (x := x0) (l := (takeC l 1100)) w I) hsm) (fun x3 _ => ?_))
          refine hdn (all [4, 5] zk (by decide) (.cons rfl ?_ (.cons rfl ?_ .nil)))
          · refine (alloc z28 (fun b4 => ?_))
            refine hdn (al1 5 rfl ((alloc z28 (fun b5 => ?_))))
            refine hdn (al1 6 rfl ((stv ty28 (Lens.id _) (.t rfl) (.t rfl) ?_)))
            refine hdn (al1 7 rfl ((stv ty28 (Lens.id _) (.t rfl) (.t rfl) ?_)))
            refine hdn (ovr (pN (mtP (X := CB × CB × Nat × Nat) (_, _, _, _) trivial)))
          · refine (alloc z28 (fun b6 => ?_))
            refine hdn (al1 4 rfl ((alloc z28 (fun b7 => ?_))))
            refine hdn (al1 6 rfl ((stv ty28 (Lens.id _) (.t rfl) (.t rfl) ?_)))
            refine hdn (al1 7 rfl ((stv ty28 (Lens.id _) (.t rfl) (.t rfl) ?_)))
            refine hdn (ovr (pN (mtP (X := CB × CB × Nat × Nat) (_, _, _, _) trivial)))
        · refine (alloc z28 (fun b8 => ?_))
          refine hdn (all [3, 5] zk (by decide) (.cons rfl ?_ (.cons rfl ?_ .nil)))
          · refine (calln (X := CB) (fun _ => True) (fun x => eConf.val (x.c c.default)) (fun x => x.R (takeC l 1100)) en16 (.cons (.t rfl) .nil) (fun w I => copy_ok ((subC x0 (takeC l 1100)).c c.default) (takeC l 1100) w (mo5 (x := x0) (l := (takeC l 1100)) w I) hsm) (fun x3 _ => ?_))
            refine hdn (al1 5 rfl ((alloc z28 (fun b9 => ?_))))
            refine hdn (al1 6 rfl ((stv ty28 (Lens.id _) (.t rfl) (.t rfl) ?_)))
            refine hdn (al1 7 rfl ((stv ty28 (Lens.id _) (.t rfl) (.t rfl) ?_)))
            refine hdn (ovr (pN (mtP (X := CB × CB × Nat × Nat) (_, _, _, _) trivial)))
          · refine (alloc z28 (fun b10 => ?_))
            refine hdn (al1 3 rfl ((calln (X := CB) (fun _ => True) (fun x => eConf.val (x.c c.default)) (fun x => x.R (takeC l 1100)) en16 (.cons (.t rfl) .nil) (fun w I => copy_ok ((subC x0 (takeC l 1100)).c c.default) (takeC l 1100) w (mo5 (x := x0) (l := (takeC l 1100)) w I) hsm) (fun x3 _ => ?_))))
            refine hdn (al1 6 rfl ((stv ty28 (Lens.id _) (.t rfl) (.t rfl) ?_)))
            refine hdn (al1 7 rfl ((stv ty28 (Lens.id _) (.t rfl) (.t rfl) ?_)))
            refine hdn (ovr (pN (mtP (X := CB × CB × Nat × Nat) (_, _, _, _) trivial)))
        · refine (alloc z28 (fun b11 => ?_))
          refine hdn (all [3, 4] zk (by decide) (.cons rfl ?_ (.cons rfl ?_ .nil)))
          · refine (calln (X := CB) (fun _ => True) (fun x => eConf.val (x.c c.default)) (fun x => x.R (takeC l 1100)) en16 (.cons (.t rfl) .nil) (fun w I => copy_ok ((subC x0 (takeC l 1100)).c c.default) (takeC l 1100) w (mo5 (x := x0) (l := (takeC l 1100)) w I) hsm) (fun x3 _ => ?_))
            refine hdn (al1 4 rfl ((alloc z28 (fun b12 => ?_))))
            refine hdn (al1 6 rfl ((stv ty28 (Lens.id _) (.t rfl) (.t rfl) ?_)))
            refine hdn (al1 7 rfl ((stv ty28 (Lens.id _) (.t rfl) (.t rfl) ?_)))
            refine hdn (ovr (pN (mtP (X := CB × CB × Nat × Nat) (_, _, _, _) trivial)))
          · refine (alloc z28 (fun b13 => ?_))
            refine hdn (al1 3 rfl ((calln (X := CB) (fun _ => True) (fun x => eConf.val (x.c c.default)) (fun x => x.R (takeC l 1100)) en16 (.cons (.t rfl) .nil) (fun w I => copy_ok ((subC x0 (takeC l 1100)).c c.default) (takeC l 1100) w (mo5 (x := x0) (l := (takeC l 1100)) w I) hsm) (fun x3 _ => ?_))))
            refine hdn (al1 6 rfl ((stv ty28 (Lens.id _) (.t rfl) (.t rfl) ?_)))
            refine hdn (al1 7 rfl ((stv ty28 (Lens.id _) (.t rfl) (.t rfl) ?_)))
            refine hdn (ovr (pN (mtP (X := CB × CB × Nat × Nat) (_, _, _, _) trivial)))
      · refine (alloc z28 (fun b14 => ?_))
        refine hdn (all [1, 5] zk (by decide) (.cons rfl ?_ (.cons rfl ?_ .nil)))
        · refine (calln (X := CB) (fun _ => True) (fun x => eConf.val (x.c c.default)) (fun x => x.R (takeC l 1100)) en16 (.cons (.t rfl) .nil) (fun w I => copy_ok ((subC x0 (takeC l 1100)).c c.default) (takeC l 1100) w (mo5 (x := x0) (l := (takeC l 1100)) w I) hsm) (fun x2 _ => ?_))
          refine hdn (all [3, 5] zk (by decide) (.cons rfl ?_ (.cons rfl ?_ .nil)))
          · refine (calln (X := CB) (fun _ => True) (fun x => eConf.val (x.c c.default)) (fun x => x.R (takeC l 1100)) en16 (.cons (.t rfl) .nil) (fun w I => copy_ok ((subC x0 (takeC l 1100)).c c.default) (takeC l 1100) w (mo5 (x := x0) (l := (takeC l 1100)) w I) hsm) (fun x3 _ => ?_))
            refine hdn (al1 5 rfl ((alloc z28 (fun b15 => ?_))))
            refine hdn (al1 6 rfl ((stv ty28 (Lens.id _) (.t rfl) (.t rfl) ?_)))
            refine hdn (al1 7 rfl ((stv ty28 (Lens.id _) (.t rfl) (.t rfl) ?_)))
            refine hdn (ovr (pN (mtP (X := CB × CB × Nat × Nat) (_, _, _, _) trivial)))
          · refine (alloc z28 (fun b16 => ?_))
            refine hdn (al1 3 rfl ((calln (X := CB) (fun _ => True) (fun x => eConf.val (x.c c.default)) (fun x => x.R (takeC l 1100)) en16 (.cons (.t rfl) .nil) (fun w I => copy_ok ((subC x0 (takeC l 1100)).c c.default) (takeC l 1100) w (mo5 (x := x0) (l := (takeC l 1100)) w I) hsm) (fun x3 _ => ?_))))
            refine hdn (al1 6 rfl ((stv ty28 (Lens.id _) (.t rfl) (.t rfl) ?_)))
            refine hdn (al1 7 rfl ((stv ty28 (Lens.id _) (.t rfl) (.t rfl) ?_)))
            refine hdn (ovr (pN (mtP (X := CB × CB × Nat × Nat) (_, _, _, _) trivial)))
        · refine (alloc z28 (fun b17 => ?_))
          refine hdn (al1 1 rfl ((calln (X := CB) (fun _ => True) (fun x => eConf.val (x.c c.default)) (fun x => x.R (takeC l 1100)) en16 (.cons (.t rfl) .nil) (fun w I => copy_ok ((subC x0 (takeC l 1100)).c c.default) (takeC l 1100) w (mo5 (x := x0) (l := (takeC l 1100)) w I) hsm) (fun x2 _ => ?_))))
          refine hdn (al1 3 rfl ((calln (X := CB) (fun _ => True) (fun x => eConf.val (x.c c.default)) (fun x => x.R (takeC l 1100)) en16 (.cons (.t rfl) .nil) (fun w I => copy_ok ((subC x0 (takeC l 1100)).c c.default) (takeC l 1100) w (mo5 (x := x0) (l := (takeC l 1100)) w I) hsm) (fun x3 _ => ?_))))
          refine hdn (al1 6 rfl ((stv ty28 (Lens.id _) (.t rfl) (.t rfl) ?_)))
          refine hdn (al1 7 rfl ((stv ty28 (Lens.id _) (.t rfl) (.t rfl) ?_)))
          refine hdn (ovr (pN (mtP (X := CB × CB × Nat × Nat) (_, _, _, _) trivial)))
      · refine (alloc z28 (fun b18 => ?_))
        refine hdn (all [1, 4] zk (by decide) (.cons rfl ?_ (.cons rfl ?_ .nil)))
        · refine (calln (X := CB) (fun _ => True) (fun x => eConf.val (x.c c.default)) (fun x => x.R (takeC l 1100)) en16 (.cons (.t rfl) .nil) (fun w I => copy_ok ((subC x0 (takeC l 1100)).c c.default) (takeC l 1100) w (mo5 (x := x0) (l := (takeC l 1100)) w I) hsm) (fun x2 _ => ?_))
          refine hdn (all [3, 4] zk (by decide) (.cons rfl ?_ (.cons rfl ?_ .nil)))
          · refine (calln (X := CB) (fun _ => True) (fun x => eConf.val (x.c c.default)) (fun x => x.R (takeC l 1100)) en16 (.cons (.t rfl) .nil) (fun w I => copy_ok ((subC x0 (takeC l 1100)).c c.default) (takeC l 1100) w (mo5 (x := x0) (l := (takeC l 1100)) w I) hsm) (fun x3 _ => ?_))
            refine hdn (al1 4 rfl ((alloc z28 (fun b19 => ?_))))
            refine hdn (al1 6 rfl ((stv ty28 (Lens.id _) (.t rfl) (.t rfl) ?_)))
            refine hdn (al1 7 rfl ((stv ty28 (Lens.id _) (.t rfl) (.t rfl) ?_)))
            refine hdn (ovr (pN (mtP (X := CB × CB × Nat × Nat) (_, _, _, _) trivial)))
          · refine (alloc z28 (fun b20 => ?_))
            refine hdn (al1 3 rfl ((calln (X := CB) (fun _ => True) (fun x => eConf.val (x.c c.default)) (fun x => x.R (takeC l 1100)) en16 (.cons (.t rfl) .nil) (fun w I => copy_ok ((subC x0 (takeC l 1100)).c c.default) (takeC l 1100) w (mo5 (x := x0) (l := (takeC l 1100)) w I) hsm) (fun x3 _ => ?_))))
            refine hdn (al1 6 rfl ((stv ty28 (Lens.id _) (.t rfl) (.t rfl) ?_)))
            refine hdn (al1 7 rfl ((stv ty28 (Lens.id _) (.t rfl) (.t rfl) ?_)))
            refine hdn (ovr (pN (mtP (X := CB × CB × Nat × Nat) (_, _, _, _) trivial)))
        · refine (alloc z28 (fun b21 => ?_))
          refine hdn (al1 1 rfl ((calln (X := CB) (fun _ => True) (fun x => eConf.val (x.c c.default)) (fun x => x.R (takeC l 1100)) en16 (.cons (.t rfl) .nil) (fun w I => copy_ok ((subC x0 (takeC l 1100)).c c.default) (takeC l 1100) w (mo5 (x := x0) (l := (takeC l 1100)) w I) hsm) (fun x2 _ => ?_))))
          refine hdn (al1 3 rfl ((calln (X := CB) (fun _ => True) (fun x => eConf.val (x.c c.default)) (fun x => x.R (takeC l 1100)) en16 (.cons (.t rfl) .nil) (fun w I => copy_ok ((subC x0 (takeC l 1100)).c c.default) (takeC l 1100) w (mo5 (x := x0) (l := (takeC l 1100)) w I) hsm) (fun x3 _ => ?_))))
          refine hdn (al1 6 rfl ((stv ty28 (Lens.id _) (.t rfl) (.t rfl) ?_)))
          refine hdn (al1 7 rfl ((stv ty28 (Lens.id _) (.t rfl) (.t rfl) ?_)))
          refine hdn (ovr (pN (mtP (X := CB × CB × Nat × Nat) (_, _, _, _) trivial)))
    obtain ⟨x2, x3, p9, p10⟩ := x
    show Sat _ _ [(3, true, .pointer (some ⟨b2, 0, none⟩)), (4, true, .pointer (some ⟨b3, 0, none⟩)), (6, true, f2.v), (7, true, f3.v), (9, true, .pointer (some ⟨p9, 0, none⟩)), (10, true, .pointer (some ⟨p10, 0, none⟩))] [Var p9 eConf (x2.c c.default) 28, Var p10 eConf (x3.c c.default) 28, OwnS x2.o1.v iE (takeC l 1100).ps 3, OwnS x2.o2.v eRoute (takeC l 1100).rs 52, OwnS x2.o3.v eRule (takeC l 1100).us 76, OwnS x2.o4.v eMeterConf (takeC l 1100).ms 57, OwnS x2.o5.v eMirrorConf (takeC l 1100).xs 59, OwnS x3.o1.v iE (takeC l 1100).ps 3, OwnS x3.o2.v eRoute (takeC l 1100).rs 52, OwnS x3.o3.v eRule (takeC l 1100).us 76, OwnS x3.o4.v eMeterConf (takeC l 1100).ms 57, OwnS x3.o5.v eMirrorConf (takeC l 1100).xs 59, OwnS f2.v eFault (checkF (takeC l 1100) c.default) 37, OwnS f3.v eFault (checkF (takeC l 1100) c.default) 37, Var b3 eConf (x1.c c.default) 28, OwnS x1.o1.v iE (takeC l 1100).ps 3, OwnS x1.o2.v eRoute (takeC l 1100).rs 52, OwnS x1.o3.v eRule (takeC l 1100).us 76, OwnS x1.o4.v eMeterConf (takeC l 1100).ms 57, OwnS x1.o5.v eMirrorConf (takeC l 1100).xs 59, Var b2 eConf ((subC x0 (takeC l 1100)).c c.default) 28, OwnS x0.o1.v iE (markL (takeC l 1100)).ps 3, OwnS x0.o2.v eRoute (markL (takeC l 1100)).rs 52, OwnS x0.o3.v eRule (markL (takeC l 1100)).us 76, OwnS x0.o4.v eMeterConf (markL (takeC l 1100)).ms 57, OwnS x0.o5.v eMirrorConf (markL (takeC l 1100)).xs 59]
    refine seq (sg (co (Ev.to (v' := eConf.val (x2.c c.default)) (Ev.ldv ty28 (.t rfl) (Lens.id _)) (rfl)) ?_))
    refine co (Ev.to (v' := eConf.val (x1.c c.default)) (Ev.ldv ty28 (.t rfl) (Lens.id _)) (rfl)) ?_
    refine cons (callv en17 (.cons (.t rfl) (.cons (.t rfl) .nil)) (fun w I => rexact_ok (x2.c c.default) (x1.c c.default) (takeC l 1100) (takeC l 1100) w (co5 (x := x2) (l := (takeC l 1100)) w I) (co5 (x := x1) (l := (takeC l 1100)) w I)) ?_)
    refine co (Ev.to (v' := .bool false) (Ev.not (.t rfl)) (congrArg Value.bool (by show (!exactB (takeC l 1100) (takeC l 1100) c.default c.default) = false; rw [exactB_self]; rfl))) ?_
    refine mv rfl (cg rfl rfl (Ev.to (v' := eConf.val (x3.c c.default)) (Ev.ldv ty28 (.t rfl) (Lens.id _)) (rfl)) ?_)
    refine cg rfl rfl (Ev.to (v' := eConf.val (x1.c c.default)) (Ev.ldv ty28 (.t rfl) (Lens.id _)) (rfl)) ?_
    refine cons (callg rfl rfl en17 (.cons (.g rfl id) (.cons (.g rfl id) .nil)) (fun hg w I => rexact_ok (x3.c c.default) (x1.c c.default) (takeC l 1100) (takeC l 1100) w (co5 (x := x3) (l := (takeC l 1100)) w I) (co5 (x := x1) (l := (takeC l 1100)) w I)) ?_)
    refine cg rfl rfl (Ev.to (v' := .bool false) (Ev.not (.g rfl id)) (congrArg Value.bool (by show (!exactB (takeC l 1100) (takeC l 1100) c.default c.default) = false; rw [exactB_self]; rfl))) ?_
    refine co (Ev.to (v' := .bool false) (Ev.pkO (.t rfl) rfl) (rfl)) ?_
    refine nP (condF rfl (rfl) ?_)
    refine skip (pN (seq (sepsIn (r := OwnS x2.o1.v iE (takeC l 1100).ps 3) (l := [OwnS x2.o2.v eRoute (takeC l 1100).rs 52, OwnS x2.o3.v eRule (takeC l 1100).us 76, OwnS x2.o4.v eMeterConf (takeC l 1100).ms 57, OwnS x2.o5.v eMirrorConf (takeC l 1100).xs 59]) (M := [Var p9 eConf (x2.c c.default) 28, Var p10 eConf (x3.c c.default) 28, OwnS x3.o1.v iE (takeC l 1100).ps 3, OwnS x3.o2.v eRoute (takeC l 1100).rs 52, OwnS x3.o3.v eRule (takeC l 1100).us 76, OwnS x3.o4.v eMeterConf (takeC l 1100).ms 57, OwnS x3.o5.v eMirrorConf (takeC l 1100).xs 59, OwnS f2.v eFault (checkF (takeC l 1100) c.default) 37, OwnS f3.v eFault (checkF (takeC l 1100) c.default) 37, Var b3 eConf (x1.c c.default) 28, OwnS x1.o1.v iE (takeC l 1100).ps 3, OwnS x1.o2.v eRoute (takeC l 1100).rs 52, OwnS x1.o3.v eRule (takeC l 1100).us 76, OwnS x1.o4.v eMeterConf (takeC l 1100).ms 57, OwnS x1.o5.v eMirrorConf (takeC l 1100).xs 59, Var b2 eConf ((subC x0 (takeC l 1100)).c c.default) 28, OwnS x0.o1.v iE (markL (takeC l 1100)).ps 3, OwnS x0.o2.v eRoute (markL (takeC l 1100)).rs 52, OwnS x0.o3.v eRule (markL (takeC l 1100)).us 76, OwnS x0.o4.v eMeterConf (markL (takeC l 1100)).ms 57, OwnS x0.o5.v eMirrorConf (markL (takeC l 1100)).xs 59]) (by repeat first | exact SubP.nil | refine SubP.cons zr ?_) ?_)))
    refine region (co (Ev.to (v' := eConf.val (x2.c c.default)) (Ev.ldv ty28 (.t rfl) (Lens.id _)) (rfl)) ?_)
    refine cons (callr (X := Unit) (r := OC x2 (takeC l 1100)) (r' := fun _ => Emp) (fun _ => True) (fun _ => .tuple #[]) (fun _ => zu) zm en18 (.cons (.t rfl) .nil) (fun w I => spoil_ok x2 (takeC l 1100) c.default w (am w I) hsm) (fun _ _ => ?_))
    refine nP (sg (mv rfl (mv rfl (cons (callv en14 (.cons (.t rfl) (.cons (.t rfl) .nil)) (fun w I => sameFaults_ok _ _ _ _ w (by first | exact io w I | exact IsSl.keep0 (by assumption) I.keeps) (by first | exact io w I | exact IsSl.keep0 (by assumption) I.keeps)) ?_)))))
    refine co (Ev.to (v' := .bool true) (Ev.move (.t rfl)) (congrArg Value.bool (by simp))) ?_
    refine cg rfl rfl (Ev.to (v' := eConf.val (x3.c c.default)) (Ev.ldv ty28 (.t rfl) (Lens.id _)) (rfl)) ?_
    refine cg rfl rfl (Ev.to (v' := eConf.val (x1.c c.default)) (Ev.ldv ty28 (.t rfl) (Lens.id _)) (rfl)) ?_
    refine cons (callg rfl rfl en17 (.cons (.g rfl id) (.cons (.g rfl id) .nil)) (fun hg w I => rexact_ok (x3.c c.default) (x1.c c.default) (takeC l 1100) (takeC l 1100) w (co5 (x := x3) (l := (takeC l 1100)) w I) (co5 (x := x1) (l := (takeC l 1100)) w I)) ?_)
    refine co (Ev.to (v' := .bool true) (Ev.pkA (.t rfl) rfl) (congrArg Value.bool (exactB_self (takeC l 1100) c.default))) ?_
    refine mv rfl (cg rfl rfl (Ev.to (v' := eConf.val ((subC x0 (takeC l 1100)).c c.default)) (Ev.ldv ty28 (.t rfl) (Lens.id _)) (rfl)) ?_)
    refine cg rfl rfl (Ev.to (v' := eConf.val (x1.c c.default)) (Ev.ldv ty28 (.t rfl) (Lens.id _)) (rfl)) ?_
    refine cons (callg rfl rfl en17 (.cons (.g rfl id) (.cons (.g rfl id) .nil)) (fun hg w I => rexact_ok ((subC x0 (takeC l 1100)).c c.default) (x1.c c.default) (takeC l 1100) (takeC l 1100) w (mo5 (x := x0) (l := (takeC l 1100)) w I) (co5 (x := x1) (l := (takeC l 1100)) w I)) ?_)
    refine co (Ev.to (v' := .bool true) (Ev.pkA (.t rfl) rfl) (congrArg Value.bool (exactB_self (takeC l 1100) c.default))) ?_
    refine mv rfl (cg rfl rfl (Ev.to (v' := eConf.val ((subC x0 (takeC l 1100)).c c.default)) (Ev.ldv ty28 (.t rfl) (Lens.id _)) (rfl)) ?_)
    refine cons (callg rfl rfl en19 (.cons (.g rfl id) .nil) (fun hg w I => marked_ok x0 (takeC l 1100) c.default w (co5 (x := x0) (l := (markL (takeC l 1100))) w I)) ?_)
    refine co (Ev.to (v' := .bool true) (Ev.pkA (.t rfl) rfl) (rfl)) ?_
    refine mv rfl (cons (callg rfl rfl en20 .nil (fun hg w I => works_ok w) ?_))
    refine co (Ev.to (v' := .bool true) (Ev.pkA (.t rfl) rfl) (rfl)) ?_
    refine asn rfl (nP (ret (done rfl (.tmp rfl .nil) (retE ?_))))
    rfl
theorem none_port (l : CL) (p : Int) : (findV eqd p (portsM l)).isNone = !portB l p := by
  unfold portB
  cases findV eqd p (portsM l) <;> rfl
structure CL.Few (l : CL) : Prop where
  ps : l.ps.length ≤ 2000
  rs : l.rs.length ≤ 2000
  us : l.us.length ≤ 2000
  ms : l.ms.length ≤ 2000
  xs : l.xs.length ≤ 2000
def ChSame (c d : SChange) : Prop := c.kind = d.kind ∧ c.port = d.port ∧ c.route = d.route ∧ c.meter = d.meter ∧ c.mirror = d.mirror ∧ c.default = d.default
theorem ChSame.refl (c : SChange) : ChSame c c := ⟨rfl, rfl, rfl, rfl, rfl, rfl⟩
structure ChsSame (cs ds : List SChange) (rl rm : List (List SRule)) : Prop where
  n : cs.length = ds.length
  ch : ∀ i, i < cs.length → ChSame (cs.getD i eChange.zero) (ds.getD i eChange.zero)
  r : ∀ i, i < cs.length → rl.getD i [] = rm.getD i []
def OptR (b : Bool) (r : Res) : Res := bif b then r else Emp
def rlC (cs : List SChange) (us : List SRule) : List (List SRule) := cs.map (fun c => if c.kind = 9 then us else [])
theorem rlC_get (cs : List SChange) (us : List SRule) (i : Nat) (h : i < cs.length) : (rlC cs us).getD i [] = if (cs.getD i eChange.zero).kind = 9 then us else [] := by
  unfold rlC
  simp [List.getD, h]
def ChK (rv : OV) (c : SChange) : Prop := (c.kind = 9 ∧ c.rules = rv) ∨ (c.kind ≠ 9 ∧ c.rules = nilSl)
theorem gone_k {α κ : Type} {q : κ → κ → Bool} {f : α → κ} {m : List (κ × Int)} {mk : α → SChange} {l : List α} (h : ∀ x, (mk x).kind ≠ 9 ∧ (mk x).rules = nilSl) : ∀ c ∈ goneL q f m mk l, c.kind ≠ 9 ∧ c.rules = nilSl := by
  intro c hc
  unfold goneL at hc
  obtain ⟨x, _, rfl⟩ := List.mem_map.1 hc
  exact h x
theorem chPort_k (k : Int) (h : k ≠ 9) (x : Int) : (chPort k x).kind ≠ 9 ∧ (chPort k x).rules = nilSl := ⟨h, rfl⟩
theorem chRoute_k (k : Int) (h : k ≠ 9) (x : SRoute) : (chRoute k x).kind ≠ 9 ∧ (chRoute k x).rules = nilSl := ⟨h, rfl⟩
theorem chMeter_k (k : Int) (h : k ≠ 9) (x : SMeterConf) : (chMeter k x).kind ≠ 9 ∧ (chMeter k x).rules = nilSl := ⟨h, rfl⟩
theorem chMirror_k (k : Int) (h : k ≠ 9) (x : SMirrorConf) : (chMirror k x).kind ≠ 9 ∧ (chMirror k x).rules = nilSl := ⟨h, rfl⟩
theorem diffs_k (l k : CL) (da db : Int) (rv : OV) : ∀ c ∈ diffs l k da db rv, ChK rv c := by
  intro c hc
  unfold diffs at hc
  simp only [List.mem_append, List.not_mem_nil, false_or] at hc
  rcases hc with ((((((((hc | hc) | hc) | hc) | hc) | hc) | hc) | hc) | hc) | hc
  · exact .inr (gone_k (fun x => chPort_k 1 (by decide) x) c hc)
  · exact .inr (gone_k (fun x => chMeter_k 5 (by decide) x) c hc)
  · exact .inr (gone_k (fun x => chMirror_k 7 (by decide) x) c hc)
  · exact .inr (gone_k (fun x => chRoute_k 3 (by decide) x) c hc)
  · split at hc
    · cases hc
    · rw [List.mem_singleton.1 hc]; exact .inl ⟨rfl, rfl⟩
  · split at hc
    · cases hc
    · rw [List.mem_singleton.1 hc]; exact .inr ⟨(by decide : (10 : Int) ≠ 9), rfl⟩
  · exact .inr (gone_k (fun x => chRoute_k 4 (by decide) (onlyR x)) c hc)
  · exact .inr (gone_k (fun x => chMeter_k 6 (by decide) (onlyM x)) c hc)
  · exact .inr (gone_k (fun x => chMirror_k 8 (by decide) (onlyX x)) c hc)
  · exact .inr (gone_k (fun x => chPort_k 2 (by decide) x) c hc)
def is9 (c : SChange) : Bool := decide (c.kind = 9)
theorem gone_9 {α κ : Type} {q : κ → κ → Bool} {f : α → κ} {m : List (κ × Int)} {mk : α → SChange} {l : List α} (h : ∀ x, (mk x).kind ≠ 9 ∧ (mk x).rules = nilSl) : (goneL q f m mk l).countP is9 = 0 := by
  rw [List.countP_eq_zero]
  intro c hc
  have := (gone_k h c hc).1
  unfold is9
  simpa using this
theorem chs_diff {w : World} {cs : List SChange} {rv : OV} {us : List SRule} (hk : ∀ c ∈ cs, ChK rv c) (h : IsSl eRule w rv.v us) : ChsAt w cs (rlC cs us) := ⟨fun i hi => by
  rw [rlC_get cs us i hi]
  rcases hk _ (getD_in cs i eChange.zero hi) with ⟨h1, h2⟩ | ⟨h1, h2⟩
  · rw [if_pos h1, h2]; exact h
  · rw [if_neg h1, h2]; exact IsSl.nil _ w⟩
def setR (rv : OV) (c : SChange) : SChange := if c.kind = 9 then { c with rules := rv } else c
theorem sameB_self (l : CL) (d : Int) : sameB l l d d = true := (sameB_perm l l d d).2 ⟨rfl, rfl, rfl, List.Perm.refl _, List.Perm.refl _, List.Perm.refl _⟩
def runC : List (SChange × List SRule) → CD → Option CD
  | [], s => some s
  | p :: l, s => if changeB s.l p.1 = true then runC l ⟨changeL s.l p.1 p.2, changeD s.d p.1⟩ else none
theorem runC_append : ∀ (l k : List (SChange × List SRule)) (s : CD), runC (l ++ k) s = (runC l s).bind (runC k)
  | [], k, s => rfl
  | p :: l, k, s => by
    show (if changeB s.l p.1 = true then runC (l ++ k) ⟨changeL s.l p.1 p.2, changeD s.d p.1⟩ else none) = Option.bind (if changeB s.l p.1 = true then runC l ⟨changeL s.l p.1 p.2, changeD s.d p.1⟩ else none) (runC k)
    split
    · exact runC_append l k _
    · rfl
def prC (us : List SRule) (c : SChange) : SChange × List SRule := (c, if c.kind = 9 then us else [])
theorem goN_run (s : CD) (cs : List SChange) (us : List SRule) : ∀ n, n ≤ cs.length → goN s cs (rlC cs us) n = runC ((cs.take n).map (prC us)) s
  | 0, _ => rfl
  | n + 1, h => by
    have hlt : n < cs.length := by omega
    have ih := goN_run s cs us n (by omega)
    have e : cs[n] = cs.getD n eChange.zero := by simp [List.getD, hlt]
    rw [List.take_succ_eq_append_getElem hlt, List.map_append, runC_append, ← ih, goN, rlC_get cs us n hlt, e]
    cases goN s cs (rlC cs us) n with
    | none => rfl
    | some t => rfl
theorem goN_all (s : CD) (cs : List SChange) (us : List SRule) : goN s cs (rlC cs us) cs.length = runC (cs.map (prC us)) s := by
  rw [goN_run s cs us _ (Nat.le_refl _), List.take_length]
theorem idx_split {α : Type} {p : α → Bool} : ∀ {l : List α}, 0 ≤ idxF p l → ∃ A y B, l = A ++ y :: B ∧ p y = true ∧ (∀ a ∈ A, p a = false) ∧ idxF p l = A.length := by
  intro l h
  unfold idxF at h
  cases e : l.findIdx? p with
  | none => rw [e] at h; simp only at h; omega
  | some i =>
    obtain ⟨h1, h2, h3⟩ := List.findIdx?_eq_some_iff_getElem.1 e
    refine ⟨l.take i, l[i], l.drop (i + 1), ?_, h2, fun a ha => ?_, ?_⟩
    · rw [← List.drop_eq_getElem_cons h1, List.take_append_drop]
    · obtain ⟨j, hj, rfl⟩ := List.mem_iff_getElem.1 ha
      have hj2 : j < i := by simp at hj; omega
      have := h3 j hj2
      simpa using this
    · unfold idxF
      rw [e, List.length_take]
      simp only
      omega
theorem idx_none' {α : Type} {p : α → Bool} {l : List α} (h : ∀ y ∈ l, p y = false) : idxF p l = -1 := by
  unfold idxF
  rw [List.findIdx?_eq_none_iff.2 h]
theorem idx_nn {α : Type} {p : α → Bool} {l : List α} {y : α} (hy : y ∈ l) (hp : p y = true) : 0 ≤ idxF p l := by
  rcases Int.lt_or_le (idxF p l) 0 with h | h
  · rw [idxF_neg h y hy] at hp
    cases hp
  · exact h
abbrev KeyE {κ : Type} (e : κ → κ → Bool) : Prop := ∀ a b, e a b = true ↔ a = b
theorem set_key {α κ : Type} {e : κ → κ → Bool} (he : KeyE e) {f : α → κ} {l : List α} (hu : (l.map f).Nodup) (x : α) : ((setL l (idxF (fun z => e (f z) (f x)) l) x).map f).Nodup ∧ ∀ y, y ∈ setL l (idxF (fun z => e (f z) (f x)) l) x ↔ y = x ∨ (y ∈ l ∧ f y ≠ f x) := by
  rcases Int.lt_or_le (idxF (fun z => e (f z) (f x)) l) 0 with h | h
  · have hn := idxF_neg h
    have hne : ∀ y ∈ l, f y ≠ f x := fun y hy hk => by
      have := hn y hy
      rw [(he _ _).2 hk] at this
      cases this
    unfold setL
    rw [if_pos h]
    refine ⟨?_, fun y => ?_⟩
    · rw [List.map_append, List.nodup_append]
      refine ⟨hu, by simp, fun a ha b hb => ?_⟩
      obtain ⟨y, hy, rfl⟩ := List.mem_map.1 ha
      simp only [List.map_cons, List.map_nil, List.mem_singleton] at hb
      rw [hb]
      exact hne y hy
    · rw [List.mem_append, List.mem_singleton]
      constructor
      · rintro (h1 | h1)
        · exact .inr ⟨h1, hne y h1⟩
        · exact .inl h1
      · rintro (h1 | h1)
        · exact .inr h1
        · exact .inl h1.1
  · obtain ⟨A, z, B, e1, e2, e3, e4⟩ := idx_split h
    have hz : f z = f x := (he _ _).1 e2
    unfold setL
    rw [if_neg (by omega), e4]
    subst e1
    rw [Int.toNat_natCast, List.set_append_right _ _ (Nat.le_refl _), Nat.sub_self, List.set_cons_zero]
    rw [List.map_append, List.map_cons, hz] at hu
    refine ⟨by rw [List.map_append, List.map_cons]; exact hu, fun y => ?_⟩
    rw [List.nodup_append, List.nodup_cons] at hu
    obtain ⟨u1, ⟨u2, u3⟩, u4⟩ := hu
    simp only [List.mem_append, List.mem_cons]
    constructor
    · rintro (h1 | h1 | h1)
      · exact .inr ⟨.inl h1, u4 _ (List.mem_map_of_mem h1) _ List.mem_cons_self⟩
      · exact .inl h1
      · exact .inr ⟨.inr (.inr h1), fun h2 => u2 (by rw [← h2]; exact List.mem_map_of_mem h1)⟩
    · rintro (h1 | ⟨h1 | h1 | h1, h2⟩)
      · exact .inr (.inl h1)
      · exact .inl h1
      · rw [h1] at h2; exact absurd hz h2
      · exact .inr (.inr h1)
theorem cut_key {α κ : Type} {e : κ → κ → Bool} (he : KeyE e) {f : α → κ} {l : List α} (hu : (l.map f).Nodup) {k : κ} (hk : k ∈ l.map f) : ¬ idxF (fun z => e (f z) k) l < 0 ∧ ((cutI l (idxF (fun z => e (f z) k) l)).map f).Nodup ∧ (cutI l (idxF (fun z => e (f z) k) l)).Sublist l ∧ ∀ y, y ∈ cutI l (idxF (fun z => e (f z) k) l) ↔ y ∈ l ∧ f y ≠ k := by
  obtain ⟨x, hx, rfl⟩ := List.mem_map.1 hk
  have h : 0 ≤ idxF (fun z => e (f z) (f x)) l := idx_nn hx ((he _ _).2 rfl)
  refine ⟨by omega, ?_⟩
  have hs := cutI_sub l (idxF (fun z => e (f z) (f x)) l)
  refine ⟨(hu.sublist (hs.map f)), hs, fun y => ?_⟩
  obtain ⟨A, z, B, e1, e2, e3, e4⟩ := idx_split h
  have hz : f z = f x := (he _ _).1 e2
  unfold cutI cutL
  rw [if_neg (by omega), e4]
  subst e1
  have t1 : (A ++ z :: B).take ((A.length : Int)).toNat = A := by rw [Int.toNat_natCast]; exact List.take_left
  have t2 : (A ++ z :: B).drop ((A.length : Int) + 1).toNat = B := by
    have : ((A.length : Int) + 1).toNat = A.length + 1 := by omega
    rw [this, ← List.drop_drop, List.drop_left]
    rfl
  rw [t1, t2]
  rw [List.map_append, List.map_cons, hz, List.nodup_append, List.nodup_cons] at hu
  obtain ⟨u1, ⟨u2, u3⟩, u4⟩ := hu
  simp only [List.mem_append, List.mem_cons]
  constructor
  · rintro (h1 | h1)
    · exact ⟨.inl h1, u4 _ (List.mem_map_of_mem h1) _ List.mem_cons_self⟩
    · exact ⟨.inr (.inr h1), fun h2 => u2 (by rw [← h2]; exact List.mem_map_of_mem h1)⟩
  · rintro ⟨h1 | h1 | h1, h2⟩
    · exact .inl h1
    · rw [h1] at h2; exact absurd hz h2
    · exact .inr h1
theorem run_sets {α κ : Type} {e : κ → κ → Bool} (he : KeyE e) {f : α → κ} (get : CL → List α) (put : CL → List α → CL) (mk : α → SChange) (hg : ∀ l a, get (put l a) = a) (hp : ∀ l a b, put (put l a) b = put l b)
    (hB : ∀ l x, changeB l (mk x) = true) (hL : ∀ l x, changeL l (mk x) [] = put l (setL (get l) (idxF (fun z => e (f z) (f x)) (get l)) x)) (hD : ∀ d x, changeD d (mk x) = d) :
    ∀ (xs : List α) (l : CL) (d : Int), put l (get l) = l → ((get l).map f).Nodup → (xs.map f).Nodup → ∃ a, runC (xs.map (fun x => (mk x, []))) ⟨l, d⟩ = some ⟨put l a, d⟩ ∧ (a.map f).Nodup ∧ ∀ y, y ∈ a ↔ y ∈ xs ∨ (y ∈ get l ∧ f y ∉ xs.map f)
  | [], l, d, h0, hu, _ => ⟨get l, by rw [h0]; rfl, hu, fun y => by simp⟩
  | x :: xs, l, d, h0, hu, hx => by
    obtain ⟨h1, h2⟩ := set_key he hu x
    rw [List.map_cons, List.nodup_cons] at hx
    obtain ⟨a, a1, a2, a3⟩ := run_sets he get put mk hg hp hB hL hD xs (put l (setL (get l) (idxF (fun z => e (f z) (f x)) (get l)) x)) d (by rw [hg, hp]) (by rw [hg]; exact h1) hx.2
    refine ⟨a, ?_, a2, fun y => ?_⟩
    · rw [hp] at a1
      rw [List.map_cons]
      show (if changeB l (mk x) = true then runC _ ⟨changeL l (mk x) [], changeD d (mk x)⟩ else none) = _
      rw [if_pos (hB l x), hL, hD]
      exact a1
    · rw [a3, hg, h2]
      simp only [List.map_cons, List.mem_cons, not_or]
      constructor
      · rintro (h | ⟨h | ⟨h, h3⟩, h4⟩)
        · exact .inl (.inr h)
        · exact .inl (.inl h)
        · exact .inr ⟨h, h3, h4⟩
      · rintro ((h | h) | ⟨h, h3, h4⟩)
        · exact .inr ⟨.inl h, by rw [h]; exact hx.1⟩
        · exact .inl h
        · exact .inr ⟨.inr ⟨h, h3⟩, h4⟩
theorem run_cuts {α κ : Type} {e : κ → κ → Bool} (he : KeyE e) {f : α → κ} (get : CL → List α) (put : CL → List α → CL) (mk : α → SChange) (hg : ∀ l a, get (put l a) = a) (hp : ∀ l a b, put (put l a) b = put l b)
    (hB : ∀ l x, changeB l (mk x) = decide (¬ idxF (fun z => e (f z) (f x)) (get l) < 0)) (hL : ∀ l x, changeL l (mk x) [] = put l (cutI (get l) (idxF (fun z => e (f z) (f x)) (get l)))) (hD : ∀ d x, changeD d (mk x) = d) :
    ∀ (xs : List α) (l : CL) (d : Int), put l (get l) = l → ((get l).map f).Nodup → (xs.map f).Nodup → (∀ x ∈ xs, f x ∈ (get l).map f) → ∃ a, runC (xs.map (fun x => (mk x, []))) ⟨l, d⟩ = some ⟨put l a, d⟩ ∧ (a.map f).Nodup ∧ a.Sublist (get l) ∧ ∀ y, y ∈ a ↔ y ∈ get l ∧ f y ∉ xs.map f
  | [], l, d, h0, hu, _, _ => ⟨get l, by rw [h0]; rfl, hu, List.Sublist.refl _, fun y => by simp⟩
  | x :: xs, l, d, h0, hu, hx, hm => by
    obtain ⟨h0', h1, hs, h2⟩ := cut_key he hu (hm x List.mem_cons_self)
    rw [List.map_cons, List.nodup_cons] at hx
    obtain ⟨a, a1, a2, asb, a3⟩ := run_cuts he get put mk hg hp hB hL hD xs (put l (cutI (get l) (idxF (fun z => e (f z) (f x)) (get l)))) d (by rw [hg, hp]) (by rw [hg]; exact h1) hx.2 (fun y hy => by
      rw [hg]
      obtain ⟨z, hz, e1⟩ := List.mem_map.1 (hm y (List.mem_cons_of_mem _ hy))
      rw [← e1]
      refine List.mem_map_of_mem ((h2 z).2 ⟨hz, ?_⟩)
      rw [e1]
      exact fun e2 => hx.1 (by rw [← e2]; exact List.mem_map_of_mem hy))
    refine ⟨a, ?_, a2, ?_, fun y => ?_⟩
    · rw [hp] at a1
      rw [List.map_cons]
      show (if changeB l (mk x) = true then runC _ ⟨changeL l (mk x) [], changeD d (mk x)⟩ else none) = _
      rw [if_pos (by rw [hB]; exact decide_eq_true h0'), hL, hD]
      exact a1
    · rw [hg] at asb
      exact asb.trans hs
    · rw [a3, hg, h2]
      simp only [List.map_cons, List.mem_cons, not_or]
      constructor
      · rintro ⟨⟨h, h3⟩, h4⟩
        exact ⟨h, h3, h4⟩
      · rintro ⟨h, h3, h4⟩
        exact ⟨⟨h, h3⟩, h4⟩
theorem add_bad {l : CL} {x : Int} (h : x ∉ l.ps) (h2 : 0 ≤ x ∧ x ≤ 255) : addBad l (chPort 1 x) = false := by
  have hi : iP l (chPort 1 x) = -1 := idx_none' fun y hy => by
    show decide (x = y) = false
    exact decide_eq_false fun e => h (e ▸ hy)
  unfold addBad
  rw [hi, Bool.or_eq_false_iff, Bool.or_eq_false_iff]
  exact ⟨⟨rfl, decide_eq_false (by show ¬ x < 0; omega)⟩, decide_eq_false (by show ¬ 255 < x; omega)⟩
theorem insL_mem (l : List Int) (i a y : Int) : y ∈ insL l i a ↔ y = a ∨ y ∈ l := by
  unfold insL
  have h : y ∈ l ↔ y ∈ l.take i.toNat ∨ y ∈ l.drop i.toNat := by
    rw [← List.mem_append, List.take_append_drop]
  rw [List.mem_append, List.mem_append, List.mem_singleton, h]
  constructor
  · rintro ((h | h) | h)
    · exact .inr (.inl h)
    · exact .inl h
    · exact .inr (.inr h)
  · rintro (h | h | h)
    · exact .inl (.inr h)
    · exact .inl (.inl h)
    · exact .inr h
theorem run_adds : ∀ (xs : List Int) (l : CL) (d : Int), l.ps.Pairwise (· < ·) → xs.Nodup → (∀ x ∈ xs, x ∉ l.ps ∧ 0 ≤ x ∧ x ≤ 255) → ∃ a, runC (xs.map (fun x => (chPort 1 x, []))) ⟨l, d⟩ = some ⟨{ l with ps := a }, d⟩ ∧ a.Pairwise (· < ·) ∧ ∀ y, y ∈ a ↔ y ∈ xs ∨ y ∈ l.ps
  | [], l, d, hs, _, _ => ⟨l.ps, rfl, hs, fun y => by simp⟩
  | x :: xs, l, d, hs, hx, hm => by
    rw [List.nodup_cons] at hx
    obtain ⟨m1, m2⟩ := hm x List.mem_cons_self
    have hb := add_bad m1 m2
    have hL : changeL l (chPort 1 x) [] = { l with ps := insL l.ps (lowB l.ps x) x } := by
      unfold changeL
      rw [show (chPort 1 x).kind = 1 from rfl, if_pos rfl, hb]
      rfl
    have hup : (insL l.ps (lowB l.ps x) x).Pairwise (· < ·) := low_ins hs (fun y hy e => m1 (e ▸ hy))
    obtain ⟨a, a1, a2, a3⟩ := run_adds xs { l with ps := insL l.ps (lowB l.ps x) x } d hup hx.2 (fun y hy => ⟨fun h => by
      rcases (insL_mem _ _ _ _).1 h with h | h
      · exact hx.1 (h ▸ hy)
      · exact (hm y (List.mem_cons_of_mem _ hy)).1 h, (hm y (List.mem_cons_of_mem _ hy)).2⟩)
    refine ⟨a, ?_, a2, fun y => ?_⟩
    · rw [List.map_cons]
      show (if changeB l (chPort 1 x) = true then runC _ ⟨changeL l (chPort 1 x) [], changeD d (chPort 1 x)⟩ else none) = _
      have hB : changeB l (chPort 1 x) = true := by
        unfold changeB
        rw [show (chPort 1 x).kind = 1 from rfl, if_pos rfl, hb]
        rfl
      rw [if_pos hB, hL]
      exact a1
    · rw [a3]
      show y ∈ xs ∨ y ∈ insL l.ps (lowB l.ps x) x ↔ _
      rw [insL_mem, List.mem_cons]
      constructor
      · rintro (h | h | h)
        · exact .inl (.inr h)
        · exact .inl (.inl h)
        · exact .inr h
      · rintro ((h | h) | h)
        · exact .inr (.inl h)
        · exact .inl h
        · exact .inr (.inr h)
theorem none_mem {α κ : Type} {q : κ → κ → Bool} (hi : KeyE q) (f : α → κ) (l : List α) (k : κ) : (findV q k (firstN q f l l.length)).isNone = true ↔ k ∉ l.map f := by
  rw [find_all hi, Option.isNone_iff_eq_none, Option.map_eq_none_iff, List.findIdx?_eq_none_iff]
  constructor
  · intro h hm
    obtain ⟨x, hx, rfl⟩ := List.mem_map.1 hm
    have := h x hx
    rw [(hi _ _).2 rfl] at this
    cases this
  · intro h x hx
    rw [Bool.eq_false_iff]
    intro hq
    exact h (List.mem_map.2 ⟨x, hx, (hi _ _).1 hq⟩)
theorem mem_gone {α κ : Type} {q : κ → κ → Bool} (hi : KeyE q) {β : Type} (g : β → κ) (f : α → κ) (l : List α) (xs : List β) (y : β) : y ∈ xs.filter (fun x => (findV q (g x) (firstN q f l l.length)).isNone) ↔ y ∈ xs ∧ g y ∉ l.map f := by
  rw [List.mem_filter, none_mem hi]
theorem idxF_le {α : Type} {p : α → Bool} {l : List α} {i : Nat} (h : i < l.length) (hp : p l[i] = true) : 0 ≤ idxF p l ∧ idxF p l ≤ i := by
  unfold idxF
  cases e : l.findIdx? p with
  | none =>
    have := List.findIdx?_eq_none_iff.1 e l[i] (List.getElem_mem h)
    rw [hp] at this
    cases this
  | some m =>
    obtain ⟨h1, h2, h3⟩ := List.findIdx?_eq_some_iff_getElem.1 e
    simp only
    rcases Nat.lt_or_ge i m with h4 | h4
    · exact absurd hp (h3 i h4)
    · omega
theorem nodup_inj {α κ : Type} {f : α → κ} {l : List α} (h : (l.map f).Nodup) {x y : α} (hx : x ∈ l) (hy : y ∈ l) (e : f x = f y) : x = y := by
  obtain ⟨i, hi, rfl⟩ := List.mem_iff_getElem.1 hx
  obtain ⟨j, hj, rfl⟩ := List.mem_iff_getElem.1 hy
  have hp := List.pairwise_iff_getElem.1 h
  rcases Nat.lt_trichotomy i j with h1 | h1 | h1
  · exact absurd (by rw [List.getElem_map, List.getElem_map]; exact e) (hp i j (by simpa using hi) (by simpa using hj) h1)
  · subst h1; rfl
  · exact absurd (by rw [List.getElem_map, List.getElem_map]; exact e.symm) (hp j i (by simpa using hj) (by simpa using hi) h1)
theorem nodup_first {α κ : Type} {q : κ → κ → Bool} (hi : KeyE q) {f : α → κ} {l : List α} (z : α) (h : ∀ i, i < l.length → ¬ (findV q (f (l.getD i z)) (firstN q f l l.length)).getD 0 < (i : Int)) : (l.map f).Nodup := by
  refine List.pairwise_iff_getElem.2 fun i j h1 h2 hij e => ?_
  have h1' : i < l.length := by simpa using h1
  have h2' : j < l.length := by simpa using h2
  have hj := h j h2'
  rw [find_at hi f l z j h2'] at hj
  have e2 : l.getD j z = l[j] := by simp [List.getD, h2']
  rw [e2] at hj
  have := (idxF_le (p := fun x => q (f x) (f l[j])) h1' ((hi _ _).2 (by simpa using e))).2
  omega
theorem first_nodup {α κ : Type} {q : κ → κ → Bool} (hi : KeyE q) {f : α → κ} {l : List α} (z : α) (h : (l.map f).Nodup) (i : Nat) (hlt : i < l.length) : ¬ (findV q (f (l.getD i z)) (firstN q f l l.length)).getD 0 < (i : Int) := by
  rw [find_at hi f l z i hlt]
  have e2 : l.getD i z = l[i] := by simp [List.getD, hlt]
  rw [e2]
  obtain ⟨A, y, B, e3, e4, e5, e6⟩ := idx_split (idxF_le (p := fun x => q (f x) (f l[i])) hlt ((hi _ _).2 rfl)).1
  rw [e6]
  intro hl
  have hA : A.length < l.length := by rw [e3]; simp
  have hy : l[A.length] = y := by
    have : ∀ (k : List α) (hk : A.length < k.length), k = A ++ y :: B → k[A.length] = y := fun k hk e => by subst e; simp
    exact this l hA e3
  have hp := List.pairwise_iff_getElem.1 h A.length i (by simpa using hA) (by simpa using hlt) (by omega)
  apply hp
  simp only [List.getElem_map, hy]
  exact (hi _ _).1 e4
theorem ports_in {l : CL} {d : Int} (h : l.Good d) : ∀ x ∈ l.ps, 0 ≤ x ∧ x ≤ 255 := by
  intro x hx
  obtain ⟨i, hi, rfl⟩ := List.mem_iff_getElem.1 hx
  have h1 := h.ps i hi
  have e : l.ps.getD i iE.zero = l.ps[i] := by simp [List.getD, hi]
  rw [e] at h1
  unfold portE at h1
  split at h1
  · cases h1
  · omega
theorem routeE_z {l : CL} {r : SRoute} {i : Int} : routeE l r i = 0 ↔ checkP r.to_ = 0 ∧ portB l r.out = true ∧ ¬ (findV SPrefix.eqb r.to_ (routesM l)).getD 0 < i := by
  unfold routeE
  split
  · rename_i h; simp [h]
  · split
    · rename_i h; simp [h]
    · split
      · rename_i h; simp [h]
      · rename_i h1 h2 h3
        simp only [ne_eq, Decidable.not_not] at h1
        simp [h1, h3]
        simpa using h2
theorem meterE_z {l : CL} {r : SMeterConf} {i : Int} : meterE l r i = 0 ↔ nameB r.name = true ∧ ckB r.bucket = 0 ∧ ¬ (findV eqs r.name (metersM l)).getD 0 < i := by
  unfold meterE
  split
  · rename_i h; simp [h]
  · split
    · rename_i h1 h2
      constructor
      · intro h
        cases h
      · intro hh
        rcases h2 with h | h
        · exact absurd h hh.2.2
        · exact absurd hh.2.1 h
    · rename_i h1 h2
      simp only [not_or, ne_eq, Decidable.not_not] at h2
      exact ⟨fun _ => ⟨by simpa using h1, h2.2, h2.1⟩, fun _ => rfl⟩
theorem mirrorE_z {l : CL} {r : SMirrorConf} {i : Int} : mirrorE l r i = 0 ↔ nameB r.name = true ∧ portB l r.out = true ∧ roomB r.room = true ∧ ¬ (findV eqs r.name (mirrorsM l)).getD 0 < i := by
  unfold mirrorE
  split
  · rename_i h; simp [h]
  · split
    · rename_i h; simp [h]
    · split
      · rename_i h; simp [h]
      · split
        · rename_i h; simp [h]
        · rename_i h1 h2 h3 h4
          exact ⟨fun _ => ⟨by simpa using h1, by simpa using h3, by simpa using h4, h2⟩, fun _ => rfl⟩
theorem good_rs {l : CL} {d : Int} (h : l.Good d) : (l.rs.map (·.to_)).Nodup := nodup_first SPrefix.eqb_iff eRoute.zero fun i hi => (routeE_z.1 (h.rs i hi)).2.2
theorem good_ms {l : CL} {d : Int} (h : l.Good d) : (l.ms.map (·.name)).Nodup := nodup_first eqs_iff eMeterConf.zero fun i hi => (meterE_z.1 (h.ms i hi)).2.2
theorem good_xs {l : CL} {d : Int} (h : l.Good d) : (l.xs.map (·.name)).Nodup := nodup_first eqs_iff eMirrorConf.zero fun i hi => (mirrorE_z.1 (h.xs i hi)).2.2.2
theorem getD_of {α : Type} (l : List α) (z : α) {P : α → Nat → Prop} (h : ∀ i, i < l.length → P (l.getD i z) i) : ∀ x ∈ l, ∃ i, i < l.length ∧ P x i := fun x hx => by
  obtain ⟨i, hi, rfl⟩ := List.mem_iff_getElem.1 hx
  have := h i hi
  have e : l.getD i z = l[i] := by simp [List.getD, hi]
  rw [e] at this
  exact ⟨i, hi, this⟩
theorem inM_iff {α : Type} (f : α → ByteArray) (l : List α) (s : ByteArray) : inM (firstN eqs f l l.length) s = true ↔ s ∈ l.map f := by
  unfold inM
  have h := none_mem eqs_iff f l s
  cases hf : findV eqs s (firstN eqs f l l.length) with
  | none => rw [hf] at h; simpa using h
  | some v => rw [hf] at h; simpa using h
theorem inM_perm {α : Type} (f : α → ByteArray) {l k : List α} (h : l.Perm k) (s : ByteArray) : inM (firstN eqs f l l.length) s = inM (firstN eqs f k k.length) s := by
  rw [Bool.eq_iff_iff, inM_iff, inM_iff]
  exact (h.map f).mem_iff
theorem good_of {k t : CL} {d : Int} (hk : k.Good d) (hps : t.ps = k.ps) (hus : t.us = k.us) (hrs : t.rs.Perm k.rs) (hms : t.ms.Perm k.ms) (hxs : t.xs.Perm k.xs) : t.Good d := by
  have hpb : ∀ p, portB t p = portB k p := fun p => by
    unfold portB portsM
    rw [hps]
  refine ⟨by rw [hps]; exact hk.ps, fun i hi => ?_, fun i hi => ?_, fun i hi => ?_, fun i hi => ?_, hk.d⟩
  · obtain ⟨j, hj, hz⟩ := getD_of k.rs eRoute.zero (P := fun x i => routeE k x i = 0) hk.rs _ (hrs.mem_iff.1 (getD_in t.rs i eRoute.zero hi))
    obtain ⟨z1, z2, _⟩ := routeE_z.1 hz
    exact routeE_z.2 ⟨z1, by rw [hpb]; exact z2, first_nodup SPrefix.eqb_iff eRoute.zero ((hrs.map _).nodup_iff.2 (good_rs hk)) i hi⟩
  · have hus' : rulesM t = rulesM k := by unfold rulesM; rw [hus]
    have e : ∀ x q, ruleE t x q = ruleE k x q := fun x q => by
      unfold ruleE ruleO
      rw [hus', hpb]
      have h1 : inM (metersM t) x.meter = inM (metersM k) x.meter := inM_perm _ hms _
      have h2 : inM (mirrorsM t) x.mirror = inM (mirrorsM k) x.mirror := inM_perm _ hxs _
      rw [h1, h2]
    rw [e, hus]
    exact hk.us i (by rw [← hus]; exact hi)
  · obtain ⟨j, hj, hz⟩ := getD_of k.ms eMeterConf.zero (P := fun x i => meterE k x i = 0) hk.ms _ (hms.mem_iff.1 (getD_in t.ms i eMeterConf.zero hi))
    obtain ⟨z1, z2, _⟩ := meterE_z.1 hz
    exact meterE_z.2 ⟨z1, z2, first_nodup eqs_iff eMeterConf.zero ((hms.map _).nodup_iff.2 (good_ms hk)) i hi⟩
  · obtain ⟨j, hj, hz⟩ := getD_of k.xs eMirrorConf.zero (P := fun x i => mirrorE k x i = 0) hk.xs _ (hxs.mem_iff.1 (getD_in t.xs i eMirrorConf.zero hi))
    obtain ⟨z1, z2, z3, _⟩ := mirrorE_z.1 hz
    exact mirrorE_z.2 ⟨z1, by rw [hpb]; exact z2, z3, first_nodup eqs_iff eMirrorConf.zero ((hxs.map _).nodup_iff.2 (good_xs hk)) i hi⟩
theorem faultsUp_z {e : Nat → Int} {d : Int} : ∀ {n : Nat}, (∀ i, i < n → e i = 0) → faultsUp e d n = []
  | 0, _ => rfl
  | n + 1, h => by
    unfold faultsUp
    rw [faultsUp_z (fun i hi => h i (by omega)), if_pos (h n (by omega))]
    rfl
theorem listG_z {e : Nat → Int} {d : Int} {n most : Nat} (hn : n ≤ most) (h : ∀ i, i < n → e i = 0) : listG e d n most = [] := by
  unfold listG
  rw [faultsUp_z (fun i hi => h i (by omega)), if_neg (by omega)]
  rfl
theorem good_may {l : CL} {d : Int} (h : l.Good d) (hl : l.ps.length ≤ 256 ∧ l.rs.length ≤ 1024 ∧ l.us.length ≤ 256 ∧ l.ms.length ≤ 64 ∧ l.xs.length ≤ 16) : mayB l d = true := by
  unfold mayB checkF thingsF
  refine decide_eq_true ?_
  rw [listG_z hl.1 h.ps, listG_z hl.2.1 h.rs, listG_z hl.2.2.1 h.us, listG_z hl.2.2.2.1 h.ms, listG_z hl.2.2.2.2 h.xs, h.d]
  rfl
theorem key_merge {α κ : Type} {f : α → κ} {L K S a2 a8 F2 F8 : List α} (hL : (L.map f).Nodup) (hK : (K.map f).Nodup) (hS : ∀ y, y ∈ S ↔ y ∈ L) (h2 : ∀ y, y ∈ F2 ↔ y ∈ K ∧ y ∉ L) (h8 : ∀ y, y ∈ F8 ↔ y ∈ L ∧ f y ∉ K.map f)
    (ha2 : ∀ y, y ∈ a2 ↔ y ∈ F2 ∨ (y ∈ S ∧ f y ∉ F2.map f)) (ha8 : ∀ y, y ∈ a8 ↔ y ∈ a2 ∧ f y ∉ F8.map f) : ∀ y, y ∈ a8 ↔ y ∈ K := by
  intro y
  rw [ha8, ha2]
  constructor
  · rintro ⟨h | ⟨h, h3⟩, h4⟩
    · exact ((h2 y).1 h).1
    · have hyL := (hS y).1 h
      have hk : f y ∈ K.map f := Classical.byContradiction fun hn => h4 (List.mem_map_of_mem ((h8 y).2 ⟨hyL, hn⟩))
      obtain ⟨z, hz, e⟩ := List.mem_map.1 hk
      have hzL : z ∈ L := Classical.byContradiction fun hn => h3 (by rw [← e]; exact List.mem_map_of_mem ((h2 z).2 ⟨hz, hn⟩))
      rw [← nodup_inj hL hzL hyL e]
      exact hz
  · intro hy
    refine ⟨?_, fun hm => ?_⟩
    · by_cases hyL : y ∈ L
      · refine .inr ⟨(hS y).2 hyL, fun hm => ?_⟩
        obtain ⟨z, hz, e⟩ := List.mem_map.1 hm
        obtain ⟨hz1, hz2⟩ := (h2 z).1 hz
        rw [nodup_inj hK hz1 hy e] at hz2
        exact hz2 hyL
      · exact .inl ((h2 y).2 ⟨hy, hyL⟩)
    · obtain ⟨z, hz, e⟩ := List.mem_map.1 hm
      exact ((h8 z).1 hz).2 (by rw [e]; exact List.mem_map_of_mem hy)
theorem nodup_of {α κ : Type} {f : α → κ} {l : List α} (h : (l.map f).Nodup) : l.Nodup := by
  refine List.pairwise_iff_getElem.2 fun i j h1 h2 hij e => ?_
  have := List.pairwise_iff_getElem.1 h i j (by simpa using h1) (by simpa using h2) hij
  exact this (by simp [e])
theorem perm_of {α κ : Type} [DecidableEq α] {f : α → κ} {l k : List α} (hl : (l.map f).Nodup) (hk : (k.map f).Nodup) (h : ∀ y, y ∈ l ↔ y ∈ k) : l.Perm k :=
  (List.perm_ext_iff_of_nodup (nodup_of hl) (nodup_of hk)).2 h
theorem up_nodup {l : List Int} (h : l.Pairwise (· < ·)) : l.Nodup := h.imp fun {a b} hab => by omega
theorem up_eq : ∀ {l k : List Int}, l.Pairwise (· < ·) → k.Pairwise (· < ·) → (∀ y, y ∈ l ↔ y ∈ k) → l = k
  | [], [], _, _, _ => rfl
  | [], y :: k, _, _, h => absurd ((h y).2 List.mem_cons_self) List.not_mem_nil
  | x :: l, [], _, _, h => absurd ((h x).1 List.mem_cons_self) List.not_mem_nil
  | x :: l, y :: k, hl, hk, h => by
    obtain ⟨l1, l2⟩ := List.pairwise_cons.1 hl
    obtain ⟨k1, k2⟩ := List.pairwise_cons.1 hk
    have e : x = y := by
      have hx := (h x).1 List.mem_cons_self
      have hy := (h y).2 List.mem_cons_self
      rcases List.mem_cons.1 hx with e | hx
      · exact e
      · rcases List.mem_cons.1 hy with e | hy
        · exact e.symm
        · have := k1 x hx
          have := l1 y hy
          omega
    subst e
    congr 1
    refine up_eq l2 k2 fun z => ?_
    constructor
    · intro hz
      rcases List.mem_cons.1 ((h z).1 (List.mem_cons_of_mem _ hz)) with e | hz2
      · have := l1 z hz; omega
      · exact hz2
    · intro hz
      rcases List.mem_cons.1 ((h z).2 (List.mem_cons_of_mem _ hz)) with e | hz2
      · have := k1 z hz; omega
      · exact hz2
theorem gone_pr {α κ : Type} {q : κ → κ → Bool} {f : α → κ} {m : List (κ × Int)} {mk : α → SChange} {xs : List α} (us : List SRule) (hk : ∀ x, (mk x).kind ≠ 9) : (goneL q f m mk xs).map (prC us) = (xs.filter (fun x => (findV q (f x) m).isNone)).map (fun x => (mk x, [])) := by
  unfold goneL
  rw [List.map_map]
  refine List.map_congr_left fun x _ => ?_
  show prC us (mk x) = _
  unfold prC
  rw [if_neg (hk x)]
theorem run_step {X A : List (SChange × List SRule)} {s t u : CD} (h1 : runC X s = some t) (h2 : runC A t = some u) : runC (X ++ A) s = some u := by
  rw [runC_append, h1]
  exact h2
theorem run_rules {l k : CL} (rv : OV) (x : CL) (d : Int) (hx : x.us = l.us) : runC ((if l.us = k.us then [] else [chRules rv]).map (prC k.us)) ⟨x, d⟩ = some ⟨{ x with us := k.us }, d⟩ := by
  by_cases h : l.us = k.us
  · rw [if_pos h]
    show some (⟨x, d⟩ : CD) = _
    have e : { x with us := k.us } = x := by
      rw [← h, ← hx]
    rw [e]
  · rw [if_neg h]
    rfl
theorem run_default (x : CL) (da db : Int) (us : List SRule) : runC ((if da = db then [] else [chDefault db]).map (prC us)) ⟨x, da⟩ = some ⟨x, db⟩ := by
  by_cases h : da = db
  · rw [if_pos h, h]
    rfl
  · rw [if_neg h]
    rfl
theorem decK {κ : Type} [DecidableEq κ] : KeyE (fun a b : κ => decide (a = b)) := fun a b => decide_eq_true_iff
theorem decK' {κ : Type} [DecidableEq κ] : KeyE (fun a b : κ => decide (b = a)) := fun a b => by
  rw [decide_eq_true_iff]
  exact eq_comm
theorem filter_nodup {α κ : Type} {f : α → κ} {l : List α} (p : α → Bool) (h : (l.map f).Nodup) : ((l.filter p).map f).Nodup := h.sublist (List.filter_sublist.map f)
theorem names_in {α κ : Type} {f : α → κ} {L K S a2 F2 F8 : List α} (hS : ∀ y, y ∈ S ↔ y ∈ L) (h2 : ∀ y, y ∈ F2 ↔ y ∈ K ∧ y ∉ L) (h8 : ∀ y, y ∈ F8 ↔ y ∈ L ∧ f y ∉ K.map f)
    (ha2 : ∀ y, y ∈ a2 ↔ y ∈ F2 ∨ (y ∈ S ∧ f y ∉ F2.map f)) : ∀ x ∈ F8, f x ∈ a2.map f := fun x hx => by
  obtain ⟨h3, h4⟩ := (h8 x).1 hx
  refine List.mem_map_of_mem ((ha2 x).2 (.inr ⟨(hS x).2 h3, fun hm => ?_⟩))
  obtain ⟨z, hz, e⟩ := List.mem_map.1 hm
  exact h4 (by rw [← e]; exact List.mem_map_of_mem ((h2 z).1 hz).1)
theorem map_id_fun {α : Type} (l : List α) : l.map (fun a => a) = l := List.map_id l
theorem setM (l : CL) (x : SMeterConf) : changeL l (chMeter 5 x) [] = { l with ms := setL l.ms (idxF (fun z => decide (z.name = x.name)) l.ms) x } := rfl
theorem setX (l : CL) (x : SMirrorConf) : changeL l (chMirror 7 x) [] = { l with xs := setL l.xs (idxF (fun z => decide (z.name = x.name)) l.xs) x } := rfl
theorem setRt (l : CL) (x : SRoute) : changeL l (chRoute 3 x) [] = { l with rs := setL l.rs (idxF (fun z => SPrefix.eqb z.to_ x.to_) l.rs) x } := rfl
theorem cutRt (l : CL) (x : SRoute) : changeL l (chRoute 4 (onlyR x)) [] = { l with rs := cutI l.rs (idxF (fun z => SPrefix.eqb z.to_ x.to_) l.rs) } := rfl
theorem cutM (l : CL) (x : SMeterConf) : changeL l (chMeter 6 (onlyM x)) [] = { l with ms := cutI l.ms (idxF (fun z => decide (z.name = x.name)) l.ms) } := rfl
theorem cutX (l : CL) (x : SMirrorConf) : changeL l (chMirror 8 (onlyX x)) [] = { l with xs := cutI l.xs (idxF (fun z => decide (z.name = x.name)) l.xs) } := rfl
theorem cutPt (l : CL) (x : Int) : changeL l (chPort 2 x) [] = { l with ps := cutI l.ps (idxF (fun z => decide (x = z)) l.ps) } := rfl
theorem there {l k s : CL} {da db : Int} (rv : OV) (hl : mayB l da = true) (hk : mayB k db = true) (hsl : sameB s l da da = true) (hs : mayB s da = true) :
    ∃ t : CL, goN ⟨s, da⟩ (diffs l k da db rv) (rlC (diffs l k da db rv) k.us) (diffs l k da db rv).length = some ⟨t, db⟩ ∧ sameB t k db db = true ∧ mayB t db = true := by
  obtain ⟨_, s1, s2, s3, s4, s5⟩ := (sameB_perm s l da da).1 hsl
  have gl := may_good hl
  have gk := may_good hk
  have gs := may_good hs
  have upl := ports_up gl.ps
  have upk := ports_up gk.ps
  have ups := ports_up gs.ps
  have nlm := good_ms gl
  have nkm := good_ms gk
  have nsm := good_ms gs
  have nlx := good_xs gl
  have nkx := good_xs gk
  have nsx := good_xs gs
  have nlr := good_rs gl
  have nkr := good_rs gk
  have nsr := good_rs gs
  -- what is gone through
  have f1 : ∀ y, y ∈ k.ps.filter (fun x => (findV eqd ((fun a => a) x) (portsM l)).isNone) ↔ y ∈ k.ps ∧ y ∉ l.ps := fun y => by
    have := mem_gone eqd_iff (fun a : Int => a) (fun a => a) l.ps k.ps y
    rwa [map_id_fun] at this
  have f2 : ∀ y, y ∈ k.ms.filter (fun x => (findV SMeterConf.eqb ((fun a => a) x) (firstN SMeterConf.eqb (fun a => a) l.ms l.ms.length)).isNone) ↔ y ∈ k.ms ∧ y ∉ l.ms := fun y => by
    have := mem_gone SMeterConf.eqb_iff (fun a : SMeterConf => a) (fun a => a) l.ms k.ms y
    rwa [map_id_fun] at this
  have f3 : ∀ y, y ∈ k.xs.filter (fun x => (findV SMirrorConf.eqb ((fun a => a) x) (firstN SMirrorConf.eqb (fun a => a) l.xs l.xs.length)).isNone) ↔ y ∈ k.xs ∧ y ∉ l.xs := fun y => by
    have := mem_gone SMirrorConf.eqb_iff (fun a : SMirrorConf => a) (fun a => a) l.xs k.xs y
    rwa [map_id_fun] at this
  have f4 : ∀ y, y ∈ k.rs.filter (fun x => (findV SRoute.eqb ((fun a => a) x) (firstN SRoute.eqb (fun a => a) l.rs l.rs.length)).isNone) ↔ y ∈ k.rs ∧ y ∉ l.rs := fun y => by
    have := mem_gone SRoute.eqb_iff (fun a : SRoute => a) (fun a => a) l.rs k.rs y
    rwa [map_id_fun] at this
  have f7 : ∀ y, y ∈ l.rs.filter (fun x => (findV SPrefix.eqb ((fun a : SRoute => a.to_) x) (routesM k)).isNone) ↔ y ∈ l.rs ∧ y.to_ ∉ k.rs.map (fun r => r.to_) := fun y =>
    mem_gone SPrefix.eqb_iff (fun a : SRoute => a.to_) (fun r : SRoute => r.to_) k.rs l.rs y
  have f8 : ∀ y, y ∈ l.ms.filter (fun x => (findV eqs ((fun a : SMeterConf => a.name) x) (metersM k)).isNone) ↔ y ∈ l.ms ∧ y.name ∉ k.ms.map (fun r => r.name) := fun y =>
    mem_gone eqs_iff (fun a : SMeterConf => a.name) (fun r : SMeterConf => r.name) k.ms l.ms y
  have f9 : ∀ y, y ∈ l.xs.filter (fun x => (findV eqs ((fun a : SMirrorConf => a.name) x) (mirrorsM k)).isNone) ↔ y ∈ l.xs ∧ y.name ∉ k.xs.map (fun r => r.name) := fun y =>
    mem_gone eqs_iff (fun a : SMirrorConf => a.name) (fun r : SMirrorConf => r.name) k.xs l.xs y
  have f10 : ∀ y, y ∈ l.ps.filter (fun x => (findV eqd ((fun a => a) x) (portsM k)).isNone) ↔ y ∈ l.ps ∧ y ∉ k.ps := fun y => by
    have := mem_gone eqd_iff (fun a : Int => a) (fun a => a) k.ps l.ps y
    rwa [map_id_fun] at this
  -- step by step
  obtain ⟨a1, r1, u1, m1⟩ := run_adds _ s da ups ((up_nodup upk).sublist List.filter_sublist) (fun x hx => ⟨by rw [s1]; exact ((f1 x).1 hx).2, ports_in gk x ((f1 x).1 hx).1⟩)
  obtain ⟨a2, r2, u2, m2⟩ := run_sets decK (f := fun a : SMeterConf => a.name) CL.ms (fun l a => { l with ms := a }) (chMeter 5) (fun _ _ => rfl) (fun _ _ _ => rfl) (fun _ _ => rfl) setM (fun _ _ => rfl) _ { s with ps := a1 } da rfl nsm (filter_nodup _ nkm)
  obtain ⟨a3, r3, u3, m3⟩ := run_sets decK (f := fun a : SMirrorConf => a.name) CL.xs (fun l a => { l with xs := a }) (chMirror 7) (fun _ _ => rfl) (fun _ _ _ => rfl) (fun _ _ => rfl) setX (fun _ _ => rfl) _ { s with ps := a1, ms := a2 } da rfl nsx (filter_nodup _ nkx)
  obtain ⟨a4, r4, u4, m4⟩ := run_sets SPrefix.eqb_iff (f := fun a : SRoute => a.to_) CL.rs (fun l a => { l with rs := a }) (chRoute 3) (fun _ _ => rfl) (fun _ _ _ => rfl) (fun _ _ => rfl) setRt (fun _ _ => rfl) _ { s with ps := a1, ms := a2, xs := a3 } da rfl nsr (filter_nodup _ nkr)
  have r5 := run_rules (l := l) (k := k) rv { s with ps := a1, ms := a2, xs := a3, rs := a4 } da s2
  have r6 := run_default { s with ps := a1, ms := a2, xs := a3, rs := a4, us := k.us } da db k.us
  obtain ⟨a7, r7, u7, _, m7⟩ := run_cuts SPrefix.eqb_iff (f := fun a : SRoute => a.to_) CL.rs (fun l a => { l with rs := a }) (fun x => chRoute 4 (onlyR x)) (fun _ _ => rfl) (fun _ _ _ => rfl) (fun _ _ => rfl) cutRt (fun _ _ => rfl) _ { s with ps := a1, ms := a2, xs := a3, rs := a4, us := k.us } db rfl u4 (filter_nodup _ nlr)
    (names_in (fun y => s3.mem_iff) f4 f7 m4)
  obtain ⟨a8, r8, u8, _, m8⟩ := run_cuts decK (f := fun a : SMeterConf => a.name) CL.ms (fun l a => { l with ms := a }) (fun x => chMeter 6 (onlyM x)) (fun _ _ => rfl) (fun _ _ _ => rfl) (fun _ _ => rfl) cutM (fun _ _ => rfl) _ { s with ps := a1, ms := a2, xs := a3, rs := a7, us := k.us } db rfl u2 (filter_nodup _ nlm)
    (names_in (fun y => s4.mem_iff) f2 f8 m2)
  obtain ⟨a9, r9, u9, _, m9⟩ := run_cuts decK (f := fun a : SMirrorConf => a.name) CL.xs (fun l a => { l with xs := a }) (fun x => chMirror 8 (onlyX x)) (fun _ _ => rfl) (fun _ _ _ => rfl) (fun _ _ => rfl) cutX (fun _ _ => rfl) _ { s with ps := a1, ms := a8, xs := a3, rs := a7, us := k.us } db rfl u3 (filter_nodup _ nlx)
    (names_in (fun y => s5.mem_iff) f3 f9 m3)
  obtain ⟨a10, r10, u10, b10, m10⟩ := run_cuts decK' (f := fun a : Int => a) CL.ps (fun l a => { l with ps := a }) (fun x => chPort 2 x) (fun _ _ => rfl) (fun _ _ _ => rfl) (fun _ _ => rfl) cutPt (fun _ _ => rfl) _ { s with ps := a1, ms := a8, xs := a9, rs := a7, us := k.us } db rfl (by rw [map_id_fun]; exact up_nodup u1) (by rw [map_id_fun]; exact (up_nodup upl).sublist (List.filter_sublist (p := fun x => (findV eqd ((fun a => a) x) (portsM k)).isNone)))
    (fun x hx => by
      rw [map_id_fun]
      exact (m1 x).2 (.inr (by rw [s1]; exact ((f10 x).1 hx).1)))
  have R : runC ((diffs l k da db rv).map (prC k.us)) ⟨s, da⟩ = some ⟨{ s with ps := a10, ms := a8, xs := a9, rs := a7, us := k.us }, db⟩ := by
    unfold diffs
    simp only [List.map_append, List.map_nil]
    rw [gone_pr k.us (fun x => (chPort_k 1 (by decide) x).1), gone_pr k.us (fun x => (chMeter_k 5 (by decide) x).1), gone_pr k.us (fun x => (chMirror_k 7 (by decide) x).1), gone_pr k.us (fun x => (chRoute_k 3 (by decide) x).1), gone_pr k.us (fun x => (chRoute_k 4 (by decide) (onlyR x)).1), gone_pr k.us (fun x => (chMeter_k 6 (by decide) (onlyM x)).1), gone_pr k.us (fun x => (chMirror_k 8 (by decide) (onlyX x)).1), gone_pr k.us (fun x => (chPort_k 2 (by decide) x).1)]
    exact run_step (run_step (run_step (run_step (run_step (run_step (run_step (run_step (run_step (run_step rfl r1) r2) r3) r4) r5) r6) r7) r8) r9) r10
  have hps : a10 = k.ps := up_eq (u1.sublist b10) upk fun y => by
    rw [m10, map_id_fun]
    show y ∈ a1 ∧ _ ↔ _
    rw [m1, s1]
    constructor
    · rintro ⟨h | h, h2⟩
      · exact ((f1 y).1 h).1
      · exact Classical.byContradiction fun hn => h2 ((f10 y).2 ⟨h, hn⟩)
    · intro h
      refine ⟨?_, fun h2 => ((f10 y).1 h2).2 h⟩
      by_cases hy : y ∈ l.ps
      · exact .inr hy
      · exact .inl ((f1 y).2 ⟨h, hy⟩)
  have hrs : a7.Perm k.rs := perm_of u7 nkr (key_merge nlr nkr (fun y => s3.mem_iff) f4 f7 m4 m7)
  have hms : a8.Perm k.ms := perm_of u8 nkm (key_merge nlm nkm (fun y => s4.mem_iff) f2 f8 m2 m8)
  have hxs : a9.Perm k.xs := perm_of u9 nkx (key_merge nlx nkx (fun y => s5.mem_iff) f3 f9 m3 m9)
  refine ⟨{ s with ps := a10, ms := a8, xs := a9, rs := a7, us := k.us }, by rw [goN_all]; exact R, (sameB_perm _ _ _ _).2 ⟨rfl, hps, rfl, hrs, hms, hxs⟩, ?_⟩
  obtain ⟨q1, q2, q3, q4, q5⟩ := may_lens hk
  exact good_may (good_of gk hps rfl hrs hms hxs) ⟨by show a10.length ≤ _; rw [hps]; exact q1, by show a7.length ≤ _; rw [hrs.length_eq]; exact q2, q3, by show a8.length ≤ _; rw [hms.length_eq]; exact q4, by show a9.length ≤ _; rw [hxs.length_eq]; exact q5⟩
theorem gone_nil {α κ : Type} {q : κ → κ → Bool} {f : α → κ} {m : List (κ × Int)} {mk : α → SChange} {xs : List α} : goneL q f m mk xs = [] ↔ ∀ x, ¬ x ∈ xs.filter (fun x => (findV q (f x) m).isNone) := by
  unfold goneL
  rw [List.map_eq_nil_iff, List.eq_nil_iff_forall_not_mem]
theorem diffs_none {l k : CL} {da db : Int} (rv : OV) (hl : mayB l da = true) (hk : mayB k db = true) : diffs l k da db rv = [] ↔ sameB l k da db = true := by
  have gl := may_good hl
  have gk := may_good hk
  have hus : (if l.us = k.us then [] else [chRules rv]) = [] ↔ l.us = k.us := by
    split <;> simp_all
  have hd : (if da = db then [] else [chDefault db]) = [] ↔ da = db := by
    split <;> simp_all
  unfold diffs
  simp only [List.append_eq_nil_iff, gone_nil, hus, hd]
  rw [sameB_perm]
  have g1 := fun y => mem_gone eqd_iff (fun a : Int => a) (fun a => a) l.ps k.ps y
  have g2 := fun y => mem_gone SMeterConf.eqb_iff (fun a : SMeterConf => a) (fun a => a) l.ms k.ms y
  have g3 := fun y => mem_gone SMirrorConf.eqb_iff (fun a : SMirrorConf => a) (fun a => a) l.xs k.xs y
  have g4 := fun y => mem_gone SRoute.eqb_iff (fun a : SRoute => a) (fun a => a) l.rs k.rs y
  have g7 := fun y => mem_gone SPrefix.eqb_iff (fun a : SRoute => a.to_) (fun r : SRoute => r.to_) k.rs l.rs y
  have g8 := fun y => mem_gone eqs_iff (fun a : SMeterConf => a.name) (fun r : SMeterConf => r.name) k.ms l.ms y
  have g9 := fun y => mem_gone eqs_iff (fun a : SMirrorConf => a.name) (fun r : SMirrorConf => r.name) k.xs l.xs y
  have g10 := fun y => mem_gone eqd_iff (fun a : Int => a) (fun a => a) k.ps l.ps y
  simp only [map_id_fun] at g1 g2 g3 g4 g10
  have two : ∀ {α κ : Type} {f : α → κ} {L K : List α}, (L.map f).Nodup → (∀ y, ¬ (y ∈ K ∧ y ∉ L)) → (∀ y, ¬ (y ∈ L ∧ f y ∉ K.map f)) → ∀ y, y ∈ L ↔ y ∈ K := by
    intro α κ f L K hL h1 h2 y
    have sub : ∀ y, y ∈ K → y ∈ L := fun y hy => Classical.byContradiction fun hn => h1 y ⟨hy, hn⟩
    refine ⟨fun hy => ?_, sub y⟩
    have hm : f y ∈ K.map f := Classical.byContradiction fun hn => h2 y ⟨hy, hn⟩
    obtain ⟨z, hz, e⟩ := List.mem_map.1 hm
    rw [← nodup_inj hL (sub z hz) hy e]
    exact hz
  constructor
  · rintro ⟨⟨⟨⟨⟨⟨⟨⟨⟨⟨_, h1⟩, h2⟩, h3⟩, h4⟩, h5⟩, h6⟩, h7⟩, h8⟩, h9⟩, h10⟩
    refine ⟨h6, up_eq (ports_up gl.ps) (ports_up gk.ps) fun y => ⟨fun hy => ?_, fun hy => ?_⟩, h5, ?_, ?_, ?_⟩
    · exact Classical.byContradiction fun hn => h10 y ((g10 y).2 ⟨hy, hn⟩)
    · exact Classical.byContradiction fun hn => h1 y ((g1 y).2 ⟨hy, hn⟩)
    · exact perm_of (good_rs gl) (good_rs gk) (two (good_rs gl) (fun y h => h4 y ((g4 y).2 h)) (fun y h => h7 y ((g7 y).2 h)))
    · exact perm_of (good_ms gl) (good_ms gk) (two (good_ms gl) (fun y h => h2 y ((g2 y).2 h)) (fun y h => h8 y ((g8 y).2 h)))
    · exact perm_of (good_xs gl) (good_xs gk) (two (good_xs gl) (fun y h => h3 y ((g3 y).2 h)) (fun y h => h9 y ((g9 y).2 h)))
  · rintro ⟨e1, e2, e3, e4, e5, e6⟩
    refine ⟨⟨⟨⟨⟨⟨⟨⟨⟨⟨by trivial, fun y h => ?_⟩, fun y h => ?_⟩, fun y h => ?_⟩, fun y h => ?_⟩, e3⟩, e1⟩, fun y h => ?_⟩, fun y h => ?_⟩, fun y h => ?_⟩, fun y h => ?_⟩
    · have := (g1 y).1 h; rw [e2] at this; exact this.2 this.1
    · have := (g2 y).1 h; exact this.2 (e5.mem_iff.2 this.1)
    · have := (g3 y).1 h; exact this.2 (e6.mem_iff.2 this.1)
    · have := (g4 y).1 h; exact this.2 (e4.mem_iff.2 this.1)
    · have := (g7 y).1 h; exact this.2 (List.mem_map_of_mem (e4.mem_iff.1 this.1))
    · have := (g8 y).1 h; exact this.2 (List.mem_map_of_mem (e5.mem_iff.1 this.1))
    · have := (g9 y).1 h; exact this.2 (List.mem_map_of_mem (e6.mem_iff.1 this.1))
    · have := (g10 y).1 h; rw [e2] at this; exact this.2 this.1
theorem diffs_no9 {l k : CL} (h : l.us = k.us) (da db : Int) (rv : OV) : (diffs l k da db rv).countP is9 = 0 := by
  unfold diffs
  simp only [List.countP_append, List.countP_nil]
  rw [gone_9 (fun x => chPort_k 1 (by decide) x), gone_9 (fun x => chMeter_k 5 (by decide) x), gone_9 (fun x => chMirror_k 7 (by decide) x), gone_9 (fun x => chRoute_k 3 (by decide) x), gone_9 (fun x => chRoute_k 4 (by decide) (onlyR x)), gone_9 (fun x => chMeter_k 6 (by decide) (onlyM x)), gone_9 (fun x => chMirror_k 8 (by decide) (onlyX x)), gone_9 (fun x => chPort_k 2 (by decide) x)]
  have h1 : (if l.us = k.us then [] else [chRules rv]).countP is9 = 0 := by
    rw [if_pos h]
    rfl
  have h2 : (if da = db then [] else [chDefault db]).countP is9 = 0 := by
    split
    · rfl
    · rfl
  omega
theorem diffL_yes {l k : CL} {da db : Int} (hb : bothB l k da db = true) (rv : OV) : diffL l k da db rv = diffs l k da db rv := by
  unfold diffL
  rw [if_pos hb]
theorem diffL_at {w : World} {l k : CL} {da db : Int} {rv : OV} (hb : bothB l k da db = true) (h : IsSl eRule w rv.v (diffR l k da db)) : ChsAt w (diffL l k da db rv) (rlC (diffL l k da db rv) k.us) := by
  rw [diffL_yes hb]
  by_cases hu : l.us = k.us
  · refine ⟨fun i hi => ?_⟩
    have hm := getD_in (diffs l k da db rv) i eChange.zero hi
    have h9 : ¬ ((diffs l k da db rv).getD i eChange.zero).kind = 9 := fun e => List.countP_eq_zero.1 (diffs_no9 hu da db rv) _ hm (decide_eq_true e)
    rw [rlC_get _ _ _ hi, if_neg h9]
    rcases diffs_k l k da db rv _ hm with ⟨h1, _⟩ | ⟨_, h2⟩
    · exact absurd h1 h9
    · rw [h2]; exact IsSl.nil _ w
  · have e : diffR l k da db = k.us := by
      unfold diffR
      rw [if_pos hb, if_neg hu]
    rw [e] at h
    exact chs_diff (diffs_k l k da db rv) h
def NmOK (c : SChange) : Prop := c.meter.name.size ≤ 9223372036854775807 ∧ c.mirror.name.size ≤ 9223372036854775807
theorem gone_nm {α κ : Type} {q : κ → κ → Bool} {f : α → κ} {m : List (κ × Int)} {mk : α → SChange} {l : List α} (h : ∀ x ∈ l, NmOK (mk x)) : ∀ c ∈ goneL q f m mk l, NmOK c := by
  intro c hc
  unfold goneL at hc
  obtain ⟨x, hx, rfl⟩ := List.mem_map.1 hc
  exact h x (List.mem_filter.1 hx).1
theorem nm_port (k x : Int) : NmOK (chPort k x) := ⟨Nat.zero_le _, Nat.zero_le _⟩
theorem nm_route (k : Int) (x : SRoute) : NmOK (chRoute k x) := ⟨Nat.zero_le _, Nat.zero_le _⟩
theorem nm_meter (k : Int) {x : SMeterConf} (h : x.name.size ≤ 9223372036854775807) : NmOK (chMeter k x) := ⟨h, Nat.zero_le _⟩
theorem nm_mirror (k : Int) {x : SMirrorConf} (h : x.name.size ≤ 9223372036854775807) : NmOK (chMirror k x) := ⟨Nat.zero_le _, h⟩
theorem diffs_nm {l k : CL} (hl : l.Names) (hk : k.Names) (da db : Int) (rv : OV) : ∀ c ∈ diffs l k da db rv, NmOK c := by
  intro c hc
  unfold diffs at hc
  simp only [List.mem_append, List.not_mem_nil, false_or] at hc
  rcases hc with ((((((((hc | hc) | hc) | hc) | hc) | hc) | hc) | hc) | hc) | hc
  · exact gone_nm (fun x _ => nm_port 1 x) c hc
  · exact gone_nm (fun x hx => nm_meter 5 (hk.ms x hx)) c hc
  · exact gone_nm (fun x hx => nm_mirror 7 (hk.xs x hx)) c hc
  · exact gone_nm (fun x _ => nm_route 3 x) c hc
  · split at hc
    · cases hc
    · rw [List.mem_singleton.1 hc]; exact ⟨Nat.zero_le _, Nat.zero_le _⟩
  · split at hc
    · cases hc
    · rw [List.mem_singleton.1 hc]; exact ⟨Nat.zero_le _, Nat.zero_le _⟩
  · exact gone_nm (fun x _ => nm_route 4 (onlyR x)) c hc
  · exact gone_nm (fun x hx => nm_meter 6 (x := onlyM x) (hl.ms x hx)) c hc
  · exact gone_nm (fun x hx => nm_mirror 8 (x := onlyX x) (hl.xs x hx)) c hc
  · exact gone_nm (fun x _ => nm_port 2 x) c hc
theorem diffs_len (l k : CL) (da db : Int) (rv : OV) : (diffs l k da db rv).length ≤ l.ps.length + k.ps.length + l.rs.length + k.rs.length + l.ms.length + k.ms.length + l.xs.length + k.xs.length + 2 := by
  unfold diffs
  simp only [List.length_append, List.length_nil]
  have g1 := goneL_len eqd (fun a => a) (portsM l) (fun x => chPort 1 x) k.ps
  have g2 := goneL_len SMeterConf.eqb (fun a => a) (firstN SMeterConf.eqb (fun a => a) l.ms l.ms.length) (fun x => chMeter 5 x) k.ms
  have g3 := goneL_len SMirrorConf.eqb (fun a => a) (firstN SMirrorConf.eqb (fun a => a) l.xs l.xs.length) (fun x => chMirror 7 x) k.xs
  have g4 := goneL_len SRoute.eqb (fun a => a) (firstN SRoute.eqb (fun a => a) l.rs l.rs.length) (fun x => chRoute 3 x) k.rs
  have g5 := ite_len (p := l.us = k.us) (chRules rv)
  have g6 := ite_len (p := da = db) (chDefault db)
  have g7 := goneL_len SPrefix.eqb (fun a : SRoute => a.to_) (routesM k) (fun x => chRoute 4 (onlyR x)) l.rs
  have g8 := goneL_len eqs (fun a : SMeterConf => a.name) (metersM k) (fun x => chMeter 6 (onlyM x)) l.ms
  have g9 := goneL_len eqs (fun a : SMirrorConf => a.name) (mirrorsM k) (fun x => chMirror 8 (onlyX x)) l.xs
  have g10 := goneL_len eqd (fun a => a) (portsM k) (fun x => chPort 2 x) l.ps
  omega
theorem diffL_ok {l k : CL} {da db : Int} (hb : bothB l k da db = true) (hl : l.Names) (hk : k.Names) (rv : OV) : ChsOK (diffL l k da db rv) (rlC (diffL l k da db rv) k.us) := by
  rw [diffL_yes hb]
  have h1 := may_lens (Bool.and_eq_true_iff.1 hb).1
  have h2 := may_lens (Bool.and_eq_true_iff.1 hb).2
  have hlen := diffs_len l k da db rv
  refine ⟨by omega, fun i hi => diffs_nm hl hk da db rv _ (getD_in _ _ _ hi), fun i hi => ?_, fun i hi x hx => ?_⟩
  · rw [rlC_get _ _ _ hi]
    split
    · omega
    · simp
  · rw [rlC_get _ _ _ hi] at hx
    split at hx
    · exact hk.us x hx
    · cases hx
theorem bothB_symm {l k : CL} {da db : Int} (h : bothB l k da db = true) : bothB k l db da = true := by
  unfold bothB at h ⊢
  rw [Bool.and_comm]
  exact h
theorem sameB_symm (l k : CL) (da db : Int) : sameB l k da db = sameB k l db da := by
  rw [Bool.eq_iff_iff, sameB_perm, sameB_perm]
  constructor
  · rintro ⟨h1, h2, h3, h4, h5, h6⟩
    exact ⟨h1.symm, h2.symm, h3.symm, h4.symm, h5.symm, h6.symm⟩
  · rintro ⟨h1, h2, h3, h4, h5, h6⟩
    exact ⟨h1.symm, h2.symm, h3.symm, h4.symm, h5.symm, h6.symm⟩
theorem names_same {l k : CL} {da db : Int} (h : sameB l k da db = true) (hk : k.Names) : l.Names := by
  obtain ⟨_, _, h3, _, h5, h6⟩ := (sameB_perm l k da db).1 h
  exact ⟨by rw [h3]; exact hk.us, fun x hx => hk.ms x (h5.mem_iff.1 hx), fun x hx => hk.xs x (h6.mem_iff.1 hx)⟩
theorem may_small {l : CL} {d : Int} (h : mayB l d = true) : l.Small := by
  obtain ⟨h1, h2, h3, h4, h5⟩ := may_lens h
  exact ⟨by omega, by omega, by omega, by omega, by omega⟩
theorem back_apply {l k s : CL} {da db : Int} (hb : bothB l k da db = true) (hsl : sameB s l da da = true) (hs : mayB s da = true) (rv : OV) :
    ∃ t : CL, applyC ⟨s, da⟩ (diffL l k da db rv) (rlC (diffL l k da db rv) k.us) = (0, ⟨t, db⟩) ∧ sameB t k db db = true ∧ mayB t db = true := by
  obtain ⟨h1, h2⟩ := Bool.and_eq_true_iff.1 hb
  obtain ⟨t, t1, t2, t3⟩ := there rv h1 h2 hsl hs
  rw [diffL_yes hb]
  exact ⟨t, applyC_ok (s := ⟨s, da⟩) hs t1 t3, t2, t3⟩
theorem diffE_yes {l k : CL} {da db : Int} (hb : bothB l k da db = true) : diffE l k da db = 0 := by
  unfold diffE
  rw [if_pos hb]
theorem diffL_none {l k : CL} {da db : Int} (hb : bothB l k da db = true) (rv : OV) : decide (((diffL l k da db rv).length : Int) = 0) = sameB l k da db := by
  obtain ⟨h1, h2⟩ := Bool.and_eq_true_iff.1 hb
  rw [diffL_yes hb, Bool.eq_iff_iff, decide_eq_true_iff, ← diffs_none rv h1 h2, ← List.length_eq_zero_iff]
  omega
theorem apply_e (c : SConf) (l t : CL) (d : Int) (u : Value) (cs : List SChange) (rls : List (List SRule)) (w : World) (hc : ConfAt w c l) (hn : l.Names) (hz : l.n ≤ 4611686018427387904) (hu : IsSl eChange w u cs) (hcs : ChsAt w cs rls) (hok : ChsOK cs rls) (he : applyC ⟨l, c.default⟩ cs rls = (0, ⟨t, d⟩)) : Calls Tryz.prog 27 #[eConf.val c, u] w (RetN w (fun _ : CB => True) (fun x => .tuple #[eConf.val (x.c d), I 0]) (fun x => x.R t)) := by
  have h := apply_ok c l u cs rls w hc hn hz hu hcs hok
  rw [he] at h
  exact h
theorem ConfBack_walk (a b : SConf) (l k : CL) (w : World) (ha : ConfAt w a l) (hb : ConfAt w b k) (hna : l.Names) (hnb : k.Names) (hza : l.n ≤ 4611686018427387904) (hzb : k.n ≤ 4611686018427387904) : Calls Tryz.prog 6 #[eConf.val a, eConf.val b] w (RetV w (.bool true)) := by
  have hla := ha.ps.le
  refine en0 142 Tryz.func6 ?_
  refine sg (cons (box (E := eConf) (.t rfl) (fun b1 => ?_)))
  refine cons (box (E := eConf) (.t rfl) (fun b2 => ?_))
  refine co (Ev.assign (.c (v := .bool false) rfl)) ?_
  refine nP (seq (sg (co (Ev.ldx a ty28 (.t rfl) (Lens.id _)) ?_)))
  refine cons (callv en15 (.cons (.t rfl) .nil) (fun w I => may_ok a l w (ha.keep0 I.keeps) hna hza) ?_)
  refine co (Ev.not (.t rfl)) ?_
  refine mv rfl (cg rfl rfl (Ev.ldx b ty28 (.t rfl) (Lens.id _)) ?_)
  refine cons (callg rfl rfl en15 (.cons (.g rfl id) .nil) (fun hg w I => may_ok b k w (hb.keep0 I.keeps) hnb hzb) ?_)
  refine cg rfl rfl (Ev.not (.g rfl id)) ?_
  refine co (Ev.pkO (.t rfl) rfl) ?_
  refine nP ?_
  first | refine condD rfl (fun h0 => ?_) (fun h0 => ?_) | refine cond rfl (fun h0 => ?_) (fun h0 => ?_)
  · refine sg (cons (callv en20 .nil (fun w I => works_ok w) ?_))
    refine asn rfl (nP (ret (pR (done rfl (.tmp rfl .nil) (retE ?_)))))
    rfl
  · have hbo : bothB l k a.default b.default = true := by
      unfold bothB
      simpa using h0
    obtain ⟨hml, hmk⟩ := Bool.and_eq_true_iff.1 hbo
    have nl1 := may_lens hml
    have nl2 := may_lens hmk
    refine skip (pN (sg (co (Ev.ldx a ty28 (.t rfl) (Lens.id _)) ?_)))
    refine co (Ev.ldx b ty28 (.t rfl) (Lens.id _)) ?_
    refine cons (calln (X := OV × OV) (fun _ => True) (fun x => .tuple #[x.1.v, I 0]) (fun x => [OwnS x.1.v eChange (diffL l k a.default b.default x.2) 61, OwnS x.2.v eRule (diffR l k a.default b.default) 76]) en23 (.cons (.t rfl) (.cons (.t rfl) .nil)) (fun w I => by have h := diff_ok a b l k w (ha.keep0 I.keeps) (hb.keep0 I.keeps) hna hnb hza hzb; rw [diffE_yes hbo] at h; exact h) (fun d1 _ => ?_))
    refine mv rfl (co (Ev.extract (.t rfl) rfl) (co (Ev.extract (.t rfl) rfl) (asn rfl (asn rfl (nP (sg (co (Ev.ldx b ty28 (.t rfl) (Lens.id _)) ?_)))))))
    refine co (Ev.ldx a ty28 (.t rfl) (Lens.id _)) ?_
    refine cons (calln (X := OV × OV) (fun _ => True) (fun x => .tuple #[x.1.v, I 0]) (fun x => [OwnS x.1.v eChange (diffL k l b.default a.default x.2) 61, OwnS x.2.v eRule (diffR k l b.default a.default) 76]) en23 (.cons (.t rfl) (.cons (.t rfl) .nil)) (fun w I => by have h := diff_ok b a k l w (hb.keep0 I.keeps) (ha.keep0 I.keeps) hnb hna hzb hza; rw [diffE_yes (bothB_symm hbo)] at h; exact h) (fun d2 _ => ?_))
    refine mv rfl (co (Ev.extract (.t rfl) rfl) (co (Ev.extract (.t rfl) rfl) (asn rfl (asn rfl (nP (seq ?_))))))
    obtain ⟨t1, e1, q1, m1⟩ := back_apply hbo (sameB_self l a.default) hml d1.2
    obtain ⟨t2, e2, q2, m2⟩ := back_apply (bothB_symm hbo) (sameB_self k b.default) hmk d2.2
    obtain ⟨t3, e3, q3, m3⟩ := back_apply (bothB_symm hbo) q1 m1 d2.2
    refine region (co (Ev.to (v' := eConf.val a) (Ev.ldx a ty28 (.t rfl) (Lens.id _)) (rfl)) ?_)
    refine mv rfl (cons (calln (X := CB) (fun _ => True) (fun x => .tuple #[eConf.val (x.c b.default), I 0]) (fun x => x.R t1) en27 (.cons (.t rfl) (.cons (.t rfl) .nil)) (fun w I => apply_e a l t1 b.default _ (diffL l k a.default b.default d1.2) (rlC (diffL l k a.default b.default d1.2) k.us) w (ha.keep0 I.keeps) hna hza (io w I) (diffL_at hbo (io w I)) (diffL_ok hbo hna hnb d1.2) e1) (fun x1 _ => ?_)))
    refine mv rfl (co (Ev.extract (.t rfl) rfl) (co (Ev.extract (.t rfl) rfl) (cons (alloc z28 (fun b3 => ?_)))))
    refine cons (stv ty28 (Lens.id _) (.t rfl) (.t rfl) ?_)
    refine asn rfl (nP (sg (co (Ev.ldx b ty28 (.t rfl) (Lens.id _)) ?_)))
    refine mv rfl (cons (calln (X := CB) (fun _ => True) (fun x => .tuple #[eConf.val (x.c a.default), I 0]) (fun x => x.R t2) en27 (.cons (.t rfl) (.cons (.t rfl) .nil)) (fun w I => apply_e b k t2 a.default _ (diffL k l b.default a.default d2.2) (rlC (diffL k l b.default a.default d2.2) l.us) w (hb.keep0 I.keeps) hnb hzb (io w I) (diffL_at (bothB_symm hbo) (io w I)) (diffL_ok (bothB_symm hbo) hnb hna d2.2) e2) (fun x2 _ => ?_)))
    refine mv rfl (co (Ev.extract (.t rfl) rfl) (co (Ev.extract (.t rfl) rfl) (cons (alloc z28 (fun b4 => ?_)))))
    refine cons (stv ty28 (Lens.id _) (.t rfl) (.t rfl) ?_)
    refine asn rfl (nP (seq (sg (mv rfl (co (Ev.to (v' := .bool false) (Ev.neq_i (.t rfl) (.c (v := I 0) rfl)) (rfl)) ?_)))))
    refine mv rfl (cg rfl rfl (Ev.move (.t rfl)) ?_)
    refine cg rfl rfl (Ev.to (v' := .bool false) (Ev.neq_i (.g rfl id) (.c (v := I 0) rfl)) (rfl)) ?_
    refine co (Ev.to (v' := .bool false) (Ev.pkO (.t rfl) rfl) (rfl)) ?_
    refine mv rfl (cg rfl rfl (Ev.move (.t rfl)) ?_)
    refine cg rfl rfl (Ev.to (v' := .bool false) (Ev.neq_i (.g rfl id) (.c (v := I 0) rfl)) (rfl)) ?_
    refine co (Ev.to (v' := .bool false) (Ev.pkO (.t rfl) rfl) (rfl)) ?_
    refine mv rfl (cg rfl rfl (Ev.move (.t rfl)) ?_)
    refine cg rfl rfl (Ev.to (v' := .bool false) (Ev.neq_i (.g rfl id) (.c (v := I 0) rfl)) (rfl)) ?_
    refine co (Ev.to (v' := .bool false) (Ev.pkO (.t rfl) rfl) (rfl)) ?_
    refine mv rfl (cg rfl rfl (Ev.to (v' := eConf.val (x1.c b.default)) (Ev.ldv ty28 (.t rfl) (Lens.id _)) (rfl)) ?_)
    refine cg rfl rfl (Ev.ldx b ty28 (.t rfl) (Lens.id _)) ?_
    refine cons (callg rfl rfl en21 (.cons (.g rfl id) (.cons (.g rfl id) .nil)) (fun hg w I => same_ok (x1.c b.default) b t1 k w (co5 (x := x1) (l := t1) w I) (hb.keep0 I.keeps) (may_small m1) (may_small hmk)) ?_)
    refine cg rfl rfl (Ev.to (v' := .bool false) (Ev.not (.g rfl id)) (congrArg Value.bool (by show (!sameB t1 k b.default b.default) = false; rw [q1]; rfl))) ?_
    refine co (Ev.to (v' := .bool false) (Ev.pkO (.t rfl) rfl) (rfl)) ?_
    refine mv rfl (cg rfl rfl (Ev.to (v' := eConf.val (x2.c a.default)) (Ev.ldv ty28 (.t rfl) (Lens.id _)) (rfl)) ?_)
    refine cg rfl rfl (Ev.ldx a ty28 (.t rfl) (Lens.id _)) ?_
    refine cons (callg rfl rfl en21 (.cons (.g rfl id) (.cons (.g rfl id) .nil)) (fun hg w I => same_ok (x2.c a.default) a t2 l w (co5 (x := x2) (l := t2) w I) (ha.keep0 I.keeps) (may_small m2) (may_small hml)) ?_)
    refine cg rfl rfl (Ev.to (v' := .bool false) (Ev.not (.g rfl id)) (congrArg Value.bool (by show (!sameB t2 l a.default a.default) = false; rw [q2]; rfl))) ?_
    refine co (Ev.to (v' := .bool false) (Ev.pkO (.t rfl) rfl) (rfl)) ?_
    refine mv rfl (cg rfl rfl (Ev.move (.t rfl)) ?_)
    refine cg rfl rfl (Ev.len Tryz.underlying41 (.g rfl id) zf) ?_
    refine cg rfl rfl (Ev.eql_i (.g rfl id) (.c (v := I 0) rfl)) ?_
    refine cg rfl rfl (Ev.ldx a ty28 (.t rfl) (Lens.id _)) ?_
    refine cg rfl rfl (Ev.ldx b ty28 (.t rfl) (Lens.id _)) ?_
    refine cons (callg rfl rfl en21 (.cons (.g rfl id) (.cons (.g rfl id) .nil)) (fun hg w I => same_ok a b l k w (ha.keep0 I.keeps) (hb.keep0 I.keeps) (may_small hml) (may_small hmk)) ?_)
    refine cg rfl rfl (Ev.to (v' := .bool false) (Ev.neq_b Tryz.underlying4 (.g rfl id) (.g rfl id)) (congrArg Value.bool (decide_eq_false (fun h => h (diffL_none hbo d1.2))))) ?_
    refine co (Ev.to (v' := .bool false) (Ev.pkO (.t rfl) rfl) (rfl)) ?_
    refine mv rfl (cg rfl rfl (Ev.move (.t rfl)) ?_)
    refine cg rfl rfl (Ev.len Tryz.underlying41 (.g rfl id) zf) ?_
    refine cg rfl rfl (Ev.eql_i (.g rfl id) (.c (v := I 0) rfl)) ?_
    refine cg rfl rfl (Ev.ldx a ty28 (.t rfl) (Lens.id _)) ?_
    refine cg rfl rfl (Ev.ldx b ty28 (.t rfl) (Lens.id _)) ?_
    refine cons (callg rfl rfl en21 (.cons (.g rfl id) (.cons (.g rfl id) .nil)) (fun hg w I => same_ok a b l k w (ha.keep0 I.keeps) (hb.keep0 I.keeps) (may_small hml) (may_small hmk)) ?_)
    refine cg rfl rfl (Ev.to (v' := .bool false) (Ev.neq_b Tryz.underlying4 (.g rfl id) (.g rfl id)) (congrArg Value.bool (decide_eq_false (fun h => h ((diffL_none (bothB_symm hbo) d2.2).trans (sameB_symm _ _ _ _)))))) ?_
    refine co (Ev.to (v' := .bool false) (Ev.pkO (.t rfl) rfl) (rfl)) ?_
    refine nP (condF rfl (rfl) ?_)
    refine skip (pN (seq (sg (mv rfl (co (Ev.len Tryz.underlying41 (.t rfl) zf) ?_)))))
    refine co (fA 0 (.t rfl)) ?_
    refine co (Ev.ldx a.ports ty22 (.t rfl) SConf.l_ports) ?_
    refine co (Ev.len Tryz.underlying22 (.t rfl) (fun w I => (ha.keep0 I.keeps).ps)) ?_
    refine co (fA 0 (.t rfl)) ?_
    refine co (Ev.ldx b.ports ty22 (.t rfl) SConf.l_ports) ?_
    refine co (Ev.len Tryz.underlying22 (.t rfl) (fun w I => (hb.keep0 I.keeps).ps)) ?_
    refine co (Ev.add_i (.t rfl) (.t rfl) (fun _ => zo)) ?_
    refine co (fA 1 (.t rfl)) ?_
    refine co (Ev.ldx a.routes ty23 (.t rfl) SConf.l_routes) ?_
    refine co (Ev.len Tryz.underlying23 (.t rfl) (fun w I => (ha.keep0 I.keeps).rs)) ?_
    refine co (Ev.add_i (.t rfl) (.t rfl) (fun _ => zo)) ?_
    refine co (fA 1 (.t rfl)) ?_
    refine co (Ev.ldx b.routes ty23 (.t rfl) SConf.l_routes) ?_
    refine co (Ev.len Tryz.underlying23 (.t rfl) (fun w I => (hb.keep0 I.keeps).rs)) ?_
    refine co (Ev.add_i (.t rfl) (.t rfl) (fun _ => zo)) ?_
    refine co (fA 3 (.t rfl)) ?_
    refine co (Ev.ldx a.meters ty25 (.t rfl) SConf.l_meters) ?_
    refine co (Ev.len Tryz.underlying25 (.t rfl) (fun w I => (ha.keep0 I.keeps).ms)) ?_
    refine co (Ev.add_i (.t rfl) (.t rfl) (fun _ => zo)) ?_
    refine co (fA 3 (.t rfl)) ?_
    refine co (Ev.ldx b.meters ty25 (.t rfl) SConf.l_meters) ?_
    refine co (Ev.len Tryz.underlying25 (.t rfl) (fun w I => (hb.keep0 I.keeps).ms)) ?_
    refine co (Ev.add_i (.t rfl) (.t rfl) (fun _ => zo)) ?_
    refine co (fA 4 (.t rfl)) ?_
    refine co (Ev.ldx a.mirrors ty26 (.t rfl) SConf.l_mirrors) ?_
    refine co (Ev.len Tryz.underlying26 (.t rfl) (fun w I => (ha.keep0 I.keeps).xs)) ?_
    refine co (Ev.add_i (.t rfl) (.t rfl) (fun _ => zo)) ?_
    refine co (fA 4 (.t rfl)) ?_
    refine co (Ev.ldx b.mirrors ty26 (.t rfl) SConf.l_mirrors) ?_
    refine co (Ev.len Tryz.underlying26 (.t rfl) (fun w I => (hb.keep0 I.keeps).xs)) ?_
    refine co (Ev.add_i (.t rfl) (.t rfl) (fun _ => zo)) ?_
    refine co (Ev.add_i (.t rfl) (.c (v := I 2) rfl) (fun _ => zo)) ?_
    refine co (Ev.to (v' := .bool false) (Ev.gtr_i (.t rfl) (.t rfl)) (congrArg Value.bool (decide_eq_false (by have hdl := diffs_len l k a.default b.default d1.2; rw [diffL_yes hbo]; omega)))) ?_
    refine nP (condF rfl (rfl) ?_)
    refine skip (pN (sg (co (Ev.to (v' := eConf.val (x1.c b.default)) (Ev.ldv ty28 (.t rfl) (Lens.id _)) (rfl)) ?_)))
    refine mv rfl (cons (calln (X := CB) (fun _ => True) (fun x => .tuple #[eConf.val (x.c a.default), I 0]) (fun x => x.R t3) en27 (.cons (.t rfl) (.cons (.t rfl) .nil)) (fun w I => apply_e (x1.c b.default) t1 t3 a.default _ (diffL k l b.default a.default d2.2) (rlC (diffL k l b.default a.default d2.2) l.us) w (co5 (x := x1) (l := t1) w I) (names_same q1 hnb) (may_small m1).n (io w I) (diffL_at (bothB_symm hbo) (io w I)) (diffL_ok (bothB_symm hbo) hnb hna d2.2) e3) (fun x3 _ => ?_)))
    refine mv rfl (co (Ev.extract (.t rfl) rfl) (co (Ev.extract (.t rfl) rfl) (cons (alloc z28 (fun b5 => ?_)))))
    refine cons (stv ty28 (Lens.id _) (.t rfl) (.t rfl) ?_)
    refine asn rfl (nP (sg (mv rfl (co (Ev.to (v' := .bool true) (Ev.eql_i (.t rfl) (.c (v := I 0) rfl)) (rfl)) ?_))))
    refine mv rfl (cg rfl rfl (Ev.to (v' := eConf.val (x3.c a.default)) (Ev.ldv ty28 (.t rfl) (Lens.id _)) (rfl)) ?_)
    refine cg rfl rfl (Ev.ldx a ty28 (.t rfl) (Lens.id _)) ?_
    refine cons (callg rfl rfl en21 (.cons (.g rfl id) (.cons (.g rfl id) .nil)) (fun hg w I => same_ok (x3.c a.default) a t3 l w (co5 (x := x3) (l := t3) w I) (ha.keep0 I.keeps) (may_small m3) (may_small hml)) ?_)
    refine co (Ev.to (v' := .bool true) (Ev.pkA (.t rfl) rfl) (congrArg Value.bool q3)) ?_
    refine mv rfl (cons (callg rfl rfl en20 .nil (fun hg w I => works_ok w) ?_))
    refine co (Ev.to (v' := .bool true) (Ev.pkA (.t rfl) rfl) (rfl)) ?_
    refine asn rfl (nP (ret (done rfl (.tmp rfl .nil) (retE ?_))))
    rfl
def ChgJ (c : SConf) (l l2 : CL) (d : Int) (y : SConf × List Res) : Prop := y.1.default = d ∧ ∀ w, ConfAt w c l → (∀ r ∈ y.2, r.A w) → ConfAt w y.1 l2
def ApJ (r : CD) (y : SConf × List Res) : Prop := y.1.default = r.d ∧ ∀ w, (∀ q ∈ y.2, q.A w) → ConfAt w y.1 r.l
theorem ChSame.eq {c d : SChange} (h : ChSame c d) : d = { c with rules := d.rules } := by
  obtain ⟨h1, h2, h3, h4, h5, h6⟩ := h
  cases c
  cases d
  simp only at h1 h2 h3 h4 h5 h6
  subst h1 h2 h3 h4 h5 h6
  rfl
theorem ChSame.symm {c d : SChange} (h : ChSame c d) : ChSame d c := ⟨h.1.symm, h.2.1.symm, h.2.2.1.symm, h.2.2.2.1.symm, h.2.2.2.2.1.symm, h.2.2.2.2.2.symm⟩
theorem ChSame.trans {c d e : SChange} (h : ChSame c d) (k : ChSame d e) : ChSame c e := ⟨h.1.trans k.1, h.2.1.trans k.2.1, h.2.2.1.trans k.2.2.1, h.2.2.2.1.trans k.2.2.2.1, h.2.2.2.2.1.trans k.2.2.2.2.1, h.2.2.2.2.2.trans k.2.2.2.2.2⟩
theorem getD_snoc_lt {α : Type} (l : List α) (x z : α) (j : Nat) (h : j < l.length) : (l ++ [x]).getD j z = l.getD j z := by simp [List.getD, List.getElem?_append, h]
theorem getD_snoc_eq {α : Type} (l : List α) (x z : α) (j : Nat) (h : j = l.length) : (l ++ [x]).getD j z = x := by subst h; simp [List.getD]
structure CpyJ (cs gs : List SChange) (i : Int) : Prop where
  n : (gs.length : Int) = i
  ch : ∀ j : Nat, j < i → ChSame (cs.getD j eChange.zero) (gs.getD j eChange.zero)
theorem CpyJ.step {cs gs : List SChange} {i : Int} (h : CpyJ cs gs i) (hi : 0 ≤ i) (v : OV) : CpyJ cs (gs ++ [SChange.l_rules.set (cs.getD i.toNat eChange.zero) v]) (i + 1) := by
  obtain ⟨h1, h2⟩ := h
  refine ⟨by simp only [List.length_append, List.length_singleton]; omega, fun j hj => ?_⟩
  by_cases e : (j : Int) < i
  · rw [getD_snoc_lt _ _ _ _ (by omega)]
    exact h2 j e
  · rw [getD_snoc_eq _ _ _ _ (by omega)]
    have : j = i.toNat := by omega
    subst this
    exact ⟨rfl, rfl, rfl, rfl, rfl, rfl⟩
def RlAt (w : World) (gs : List SChange) (rls : List (List SRule)) (i : Int) : Prop := ∀ j : Nat, j < i → IsSl eRule w (gs.getD j eChange.zero).rules.v (rls.getD j [])
theorem RlAt.step {w : World} {gs : List SChange} {rls : List (List SRule)} {i : Int} (h : RlAt w gs rls i) (hn : (gs.length : Int) = i) (c : SChange) (v : OV) (hv : IsSl eRule w v.v (rls.getD i.toNat [])) : RlAt w (gs ++ [SChange.l_rules.set c v]) rls (i + 1) := fun j hj => by
  by_cases e : (j : Int) < i
  · rw [getD_snoc_lt _ _ _ _ (by omega)]
    exact h j e
  · rw [getD_snoc_eq _ _ _ _ (by omega)]
    have : j = i.toNat := by omega
    subst this
    exact hv
theorem Rem.app {r : Res} {L M : List Res} (k : List Res) (h : Rem L r M) : Rem (k ++ L) r (k ++ M) := by
  obtain ⟨A, C, rfl, rfl⟩ := h
  exact ⟨k ++ A, C, by simp, by simp⟩
structure SAnon15 where
  is_ : Bool
  v6 : Bool
def SAnon15.to : (Bool × Bool) → SAnon15 := fun x => ⟨x.1, x.2⟩
def SAnon15.of : SAnon15 → (Bool × Bool) := fun x => (x.is_, x.v6)
def eAnon15 : Enc SAnon15 := isoE (prodE bE bE) SAnon15.to SAnon15.of
def SAnon15.l_is_ : Lens eAnon15 bE 0 := lIso _ SAnon15.to SAnon15.of (fun _ => rfl) (lFst bE bE)
@[simp] theorem SAnon15.get_is_ (x : SAnon15) : SAnon15.l_is_.get x = x.is_ := rfl
@[simp] theorem SAnon15.set_is_ (x : SAnon15) (y : Bool) : SAnon15.l_is_.set x y = { x with is_ := y } := rfl
def SAnon15.l_v6 : Lens eAnon15 bE 1 := lIso _ SAnon15.to SAnon15.of (fun _ => rfl) (Lens.comp (lSnd bE bE) (Lens.id bE))
@[simp] theorem SAnon15.get_v6 (x : SAnon15) : SAnon15.l_v6.get x = x.v6 := rfl
@[simp] theorem SAnon15.set_v6 (x : SAnon15) (y : Bool) : SAnon15.l_v6.set x y = { x with v6 := y } := rfl
@[simp] theorem zSpan_from : eSpan.zero.from_ = 0 := rfl
@[simp] theorem zSpan_to : eSpan.zero.to_ = 0 := rfl
def kst (k : Nat) (is v6 : Bool) : Nat := bif is then (bif v6 then k &&& 2 else k &&& 1) else k
def kI (m : SMatch) : Nat := kst (kst 3 (asksB m 2) m.src.addr.v6) (asksB m 4) m.dst.addr.v6
theorem kst_le {k : Nat} (h : k ≤ 3) (a b : Bool) : kst k a b ≤ 3 := by
  have h : k = 0 ∨ k = 1 ∨ k = 2 ∨ k = 3 := by omega
  rcases h with rfl | rfl | rfl | rfl <;> cases a <;> cases b <;> decide
def everyB (s : SSpan) (is : Bool) (top : UInt16) : SSpan := bif is then s else { s with to_ := top }
def spannedB (m n : SMatch) (w : UInt8) (a b : SSpan) (top : UInt16) : Bool := !asksB m w || (decide (a.from_ ≤ (everyB b (asksB n w) top).from_) && decide ((everyB b (asksB n w) top).to_ ≤ a.to_))
def prefixedB (m n : SMatch) (w : UInt8) (a b : SPrefix) : Bool := bif !asksB m w then true else bif asksB n w then coversP a b else (decide (a.bits = 0) && decide ((kI n : Int) = (bif a.addr.v6 then 2 else 1)))
def spansR (one : Bool) (a : SSpan) (other : Bool) (b : SSpan) (top : UInt16) : Bool := !one || (decide (a.from_ ≤ (bif other then b else ⟨0, top⟩).from_) && decide ((bif other then b else ⟨0, top⟩).to_ ≤ a.to_))
def prefixesR (one : Bool) (a : SPrefix) (other : Bool) (b : SPrefix) (v6 : Bool) : Bool := !one || (decide (a.bits ≤ (bif other then b else ⟨⟨v6, Vector.replicate 16 0⟩, 0⟩).bits) && hasP a (bif other then b else ⟨⟨v6, Vector.replicate 16 0⟩, 0⟩).addr)
def k4R (m : SMatch) : Bool := bif asksB m 4 then !m.dst.addr.v6 else bif asksB m 2 then !m.src.addr.v6 else true
def k6R (m : SMatch) : Bool := bif asksB m 4 then m.dst.addr.v6 else bif asksB m 2 then m.src.addr.v6 else true
theorem z232 : (Tryz.prog.info? 232).bind (·.zero) = some (eAnon15.val eAnon15.zero) := by kernel_rfl
theorem ty232 : TyOK Tryz.prog 232 eAnon15 := TyOK.mk' zk zk
theorem kinds_ok (m : SMatch) (w : World) : Calls Tryz.prog 193 #[eMatch.val m] w (RetV w (I ((kI m : Nat) : Int))) := by
  refine en0 40 Tryz.func193 ?_
  refine sg (cons (box (E := eMatch) (.t rfl) (fun b1 => ?_)))
  refine co (Ev.assign (.c (v := I 0) rfl)) ?_
  refine nP (sg (co (Ev.assign (.c (v := I 3) rfl)) ?_))
  refine nP (seq (seq (draw' zk ?_)))
  refine tk 0 rfl (Ev.ldx m ty74 (.t rfl) (Lens.id _)) ?_
  refine tk 2 rfl (fA 3 (.t rfl)) ?_
  refine tk 3 rfl (fA 0 (.t rfl)) ?_
  refine tk 4 rfl (fA 0 (.t rfl)) ?_
  refine tk 5 rfl (Ev.ldx m.src.addr.v6 ty4 (.t rfl) (Lens.comp (Lens.comp SMatch.l_src SPrefix.l_addr) SAddr.l_v6)) ?_
  refine tk 7 rfl (Ev.ldx m ty74 (.t rfl) (Lens.id _)) ?_
  refine tk 9 rfl (fA 21 (.t rfl)) ?_
  refine tk 10 rfl (fA 0 (.t rfl)) ?_
  refine tk 11 rfl (fA 0 (.t rfl)) ?_
  refine tk 12 rfl (Ev.ldx m.dst.addr.v6 ty4 (.t rfl) (Lens.comp (Lens.comp SMatch.l_dst SPrefix.l_addr) SAddr.l_v6)) ?_
  refine tk 16 rfl (Ev.move (.c (v := I 0) rfl)) ?_
  refine al1 1 rfl ((callv en153 (.cons (.t rfl) (.cons (.c (v := U8 2) rfl) .nil)) (fun w I => asks_ok _ _ w) ?_))
  refine hdn (tk 6 rfl (Ev.buildS (fs := _) (places := [(0, 1), (1, 1)]) z232 rfl Tryz.underlying232 zk (.cons (.t rfl) (.cons (.t rfl) .nil)) (Fills.cons SAnon15.l_is_ rfl (Fills.cons SAnon15.l_v6 rfl Fills.nil))) ?_)
  refine al1 8 rfl ((callv en153 (.cons (.t rfl) (.cons (.c (v := U8 4) rfl) .nil)) (fun w I => asks_ok _ _ w) ?_))
  refine hdn (tk 13 rfl (Ev.buildS (fs := _) (places := [(0, 1), (1, 1)]) z232 rfl Tryz.underlying232 zk (.cons (.t rfl) (.cons (.t rfl) .nil)) (Fills.cons SAnon15.l_is_ rfl (Fills.cons SAnon15.l_v6 rfl Fills.nil))) ?_)
  refine al1 14 rfl ((buildSlice (E := eAnon15) Tryz.underlying233 ty232 z232 (.cons (.t rfl) (.cons (.t rfl) .nil)) rfl rfl (fun v2 => ?_)))
  refine hdn (al1 15 rfl ((opv (Ev.len Tryz.underlying233 (.t rfl) zf) ?_)))
  refine hdn (ovr (pN (block (lp (X := Int × Nat) (fun x : Int × Nat => (0 ≤ x.1 ∧ x.1 ≤ 2) ∧ (x.2 ≤ 3) ∧ (x.2 = ([(⟨asksB m 2, m.src.addr.v6⟩ : SAnon15), ⟨asksB m 4, m.dst.addr.v6⟩].take x.1.toNat).foldl (fun q z => kst q z.is_ z.v6) 3)) (fun x : Int × Nat => [(3, true, I ((x.2 : Nat) : Int)), (20, true, v2.v), (21, true, I 2), (22, true, I x.1)]) (fun x : Int × Nat => [OwnS v2.v eAnon15 [(⟨asksB m 2, m.src.addr.v6⟩ : SAnon15), ⟨asksB m 4, m.dst.addr.v6⟩] 232]) (fun x : Int × Nat => (2 - x.1).toNat) (0, 3) ⟨?_, ?_, ?_⟩ (fun x hx => ?_)))))
  · omega
  · omega
  · rfl
  obtain ⟨i, k⟩ := x
  obtain ⟨hi, hk, hkk⟩ : (0 ≤ i ∧ i ≤ 2) ∧ (k ≤ 3) ∧ (k = ([(⟨asksB m 2, m.src.addr.v6⟩ : SAnon15), ⟨asksB m 4, m.dst.addr.v6⟩].take i.toNat).foldl (fun q z => kst q z.is_ z.v6) 3) := hx
  show Sat _ _ [(3, true, I ((k : Nat) : Int)), (20, true, v2.v), (21, true, I 2), (22, true, I i)] [OwnS v2.v eAnon15 [(⟨asksB m 2, m.src.addr.v6⟩ : SAnon15), ⟨asksB m 4, m.dst.addr.v6⟩] 232]
  refine sg (co (Ev.lss_i (.t rfl) (.t rfl)) ?_)
  refine nP (seq ?_)
  first | refine condD rfl (fun hlt => ?_) (fun hge => ?_) | refine cond rfl (fun hlt => ?_) (fun hge => ?_)
  · try simp only [nb] at hlt
    refine skip (pN (seq (block (sg (co (Ev.indexAddr Tryz.underlying233 ty232 (.t rfl) (.t rfl) zf (fun _ => by simp; omega)) ?_)))))
    refine co (Ev.loadS0 ty232 (.t rfl) zf (fun _ => by simp; omega)) ?_
    refine cons (alloc z232 (fun b3 => ?_))
    refine cons (stv ty232 (Lens.id _) (.t rfl) (.t rfl) ?_)
    refine nP (sg (co (fA 0 (.t rfl)) ?_))
    refine co (Ev.ldv ty4 (.t rfl) SAnon15.l_is_) ?_
    refine mv rfl (cg rfl rfl (fA 1 (.t rfl)) ?_)
    refine cg rfl rfl (Ev.ldv ty4 (.g rfl id) SAnon15.l_v6) ?_
    refine co (Ev.pkA (.t rfl) rfl) ?_
    refine nP ?_
    first | refine condD rfl (fun h1 => ?_) (fun h1 => ?_) | refine cond rfl (fun h1 => ?_) (fun h1 => ?_)
    · have hk2 : k &&& 2 = kst k ([(⟨asksB m 2, m.src.addr.v6⟩ : SAnon15), ⟨asksB m 4, m.dst.addr.v6⟩].getD i.toNat eAnon15.zero).is_ ([(⟨asksB m 2, m.src.addr.v6⟩ : SAnon15), ⟨asksB m 4, m.dst.addr.v6⟩].getD i.toNat eAnon15.zero).v6 := by unfold kst; simp_all
      refine region (mv rfl (co (Ev.bits_i (m := k) (n := 2) (r := k &&& 2) (.inl rfl) (.t rfl) (.c rfl) (fun _ => zo) (fun _ => by decide) rfl) ?_))
      refine asn rfl (nil (bN (pN (region (co (Ev.add_i (.t rfl) (.c (v := I 1) rfl) (fun _ => zo)) ?_)))))
      refine mv rfl (nP (nx (X := Int × Nat) (i + 1, _) ⟨?_, ?_, ?_⟩ ?_))
      · try dsimp only
        omega
      · try dsimp only
        rw [hk2]; exact kst_le hk _ _
      · try dsimp only
        rw [take_snoc _ i hi.1 (by simp; omega) eAnon15.zero, List.foldl_append, ← hkk]; exact hk2
      · try dsimp only
        omega
    · refine sg (co (fA 0 (.t rfl)) ?_)
      refine co (Ev.ldv ty4 (.t rfl) SAnon15.l_is_) ?_
      refine nP ?_
      first | refine condD rfl (fun h2 => ?_) (fun h2 => ?_) | refine cond rfl (fun h2 => ?_) (fun h2 => ?_)
      · have hk2 : k &&& 1 = kst k ([(⟨asksB m 2, m.src.addr.v6⟩ : SAnon15), ⟨asksB m 4, m.dst.addr.v6⟩].getD i.toNat eAnon15.zero).is_ ([(⟨asksB m 2, m.src.addr.v6⟩ : SAnon15), ⟨asksB m 4, m.dst.addr.v6⟩].getD i.toNat eAnon15.zero).v6 := by unfold kst; simp_all
        refine region (mv rfl (co (Ev.bits_i (m := k) (n := 1) (r := k &&& 1) (.inl rfl) (.t rfl) (.c rfl) (fun _ => zo) (fun _ => by decide) rfl) ?_))
        refine asn rfl (nil (bN (pN (region (co (Ev.add_i (.t rfl) (.c (v := I 1) rfl) (fun _ => zo)) ?_)))))
        refine mv rfl (nP (nx (X := Int × Nat) (i + 1, _) ⟨?_, ?_, ?_⟩ ?_))
        · try dsimp only
          omega
        · try dsimp only
          rw [hk2]; exact kst_le hk _ _
        · try dsimp only
          rw [take_snoc _ i hi.1 (by simp; omega) eAnon15.zero, List.foldl_append, ← hkk]; exact hk2
        · try dsimp only
          omega
      · have hk2 : k = kst k ([(⟨asksB m 2, m.src.addr.v6⟩ : SAnon15), ⟨asksB m 4, m.dst.addr.v6⟩].getD i.toNat eAnon15.zero).is_ ([(⟨asksB m 2, m.src.addr.v6⟩ : SAnon15), ⟨asksB m 4, m.dst.addr.v6⟩].getD i.toNat eAnon15.zero).v6 := by unfold kst; simp_all
        refine skip (bN (pN (region (co (Ev.add_i (.t rfl) (.c (v := I 1) rfl) (fun _ => zo)) ?_))))
        refine mv rfl (nP (nx (X := Int × Nat) (i + 1, _) ⟨?_, ?_, ?_⟩ ?_))
        · try dsimp only
          omega
        · try dsimp only
          rw [hk2]; exact kst_le hk _ _
        · try dsimp only
          rw [take_snoc _ i hi.1 (by simp; omega) eAnon15.zero, List.foldl_append, ← hkk]; exact hk2
        · try dsimp only
          omega
  · try simp only [nb] at hge
    refine exit (pX (pX (bX (pN (sg (mv rfl (asn rfl (nP (ret (done rfl (.tmp rfl .nil) (retE ?_)))))))))))
    have e : i.toNat = 2 := by omega
    rw [hkk, e]; rfl
theorem every_ok (s : SSpan) (is : Bool) (top : UInt16) (w : World) : Calls Tryz.prog 191 #[eSpan.val s, .bool is, U16 top] w (RetV w (eSpan.val (everyB s is top))) := by
  refine en0 12 Tryz.func191 ?_
  refine sg (cons (box (E := eSpan) (.t rfl) (fun b1 => ?_)))
  refine cons (alloc z72 (fun b2 => ?_))
  refine nP (seq (sg (mv rfl (co (Ev.not (.t rfl)) ?_))))
  refine nP ?_
  first | refine condD rfl (fun h0 => ?_) (fun h0 => ?_) | refine cond rfl (fun h0 => ?_) (fun h0 => ?_)
  · try simp only [nb] at h0
    refine region (mv rfl (co (fA 1 (.t rfl)) ?_))
    refine cons (stv ty70 SSpan.l_to_ (.t rfl) (.t rfl) ?_)
    refine nP (sg (co (Ev.ldv ty72 (.t rfl) (Lens.id _)) ?_))
    refine cons (stv ty72 (Lens.id _) (.t rfl) (.t rfl) ?_)
    refine nP (ret (done rfl (.cell rfl (fun w I => run_loadVar_pts ty72 (ptsVar zm (Lens.id _) w I)) .nil) (retE ?_)))
    unfold everyB
    cases is <;> first | rfl | simp_all
  · try simp only [nb] at h0
    refine skip (pN (sg (co (Ev.ldv ty72 (.t rfl) (Lens.id _)) ?_)))
    refine cons (stv ty72 (Lens.id _) (.t rfl) (.t rfl) ?_)
    refine nP (ret (done rfl (.cell rfl (fun w I => run_loadVar_pts ty72 (ptsVar zm (Lens.id _) w I)) .nil) (retE ?_)))
    unfold everyB
    cases is <;> first | rfl | simp_all
theorem en191 : Gx.Enters Tryz.prog 191 := Gx.Enters.mk' zk
theorem spanned_ok (m n : SMatch) (q : UInt8) (a b : SSpan) (top : UInt16) (w : World) : Calls Tryz.prog 176 #[eMatch.val m, eMatch.val n, U8 q, eSpan.val a, eSpan.val b, U16 top] w (RetV w (.bool (spannedB m n q a b top))) := by
  refine en0 37 Tryz.func176 ?_
  refine sg (cons (box (E := eMatch) (.t rfl) (fun b1 => ?_)))
  refine cons (box (E := eMatch) (.t rfl) (fun b2 => ?_))
  refine cons (box (E := eSpan) (.t rfl) (fun b3 => ?_))
  refine cons (box (E := eSpan) (.t rfl) (fun b4 => ?_))
  refine co (Ev.assign (.c (v := .bool false) rfl)) ?_
  refine nP (seq (drawS 10 rfl zr zk ?_))
  refine tk 1 rfl (Ev.ldx n ty74 (.t rfl) (Lens.id _)) ?_
  refine tk 2 rfl (Ev.move (.t rfl)) ?_
  refine tk 4 rfl (Ev.move (.t rfl)) ?_
  refine all [0, 3] zk (by decide) (.cons rfl ?_ (.cons rfl ?_ .nil))
  · refine (opv (Ev.ldv ty72 (.t rfl) (Lens.id _)) ?_)
    refine hdn (al1 3 rfl ((callv en153 (.cons (.t rfl) (.cons (.t rfl) .nil)) (fun w I => asks_ok _ _ w) ?_)))
    refine hdn (al1 5 rfl ((callv en191 (.cons (.t rfl) (.cons (.t rfl) (.cons (.t rfl) .nil))) (fun w I => every_ok _ _ _ w) ?_)))
    refine hdn (al1 6 rfl ((stv ty72 (Lens.id _) (.t rfl) (.t rfl) ?_)))
    refine hdn (ovr (pN (sg (co (Ev.ldx m ty74 (.t rfl) (Lens.id _)) ?_))))
    refine mv rfl (cons (callv en153 (.cons (.t rfl) (.cons (.t rfl) .nil)) (fun w I => asks_ok _ _ w) ?_))
    refine co (Ev.not (.t rfl)) ?_
    refine mv rfl (cg rfl rfl (fA 0 (.t rfl)) ?_)
    refine cg rfl rfl (Ev.ldx a.from_ ty70 (.g rfl id) SSpan.l_from_) ?_
    refine cg rfl rfl (fA 0 (.t rfl)) ?_
    refine cg rfl rfl (Ev.ldv ty70 (.g rfl id) SSpan.l_from_) ?_
    refine cg rfl rfl (Ev.leq_u16 (.g rfl id) (.g rfl id)) ?_
    refine cg rfl rfl (Ev.move (.g rfl id)) ?_
    refine cg rfl rfl (fA 1 (.t rfl)) ?_
    refine cg rfl rfl (Ev.ldv ty70 (.g rfl id) SSpan.l_to_) ?_
    refine cg rfl rfl (fA 1 (.t rfl)) ?_
    refine cg rfl rfl (Ev.ldx a.to_ ty70 (.g rfl id) SSpan.l_to_) ?_
    refine cg rfl rfl (Ev.leq_u16 (.g rfl id) (.g rfl id)) ?_
    refine cg rfl rfl (Ev.pkA (.g rfl id) rfl) ?_
    refine co (Ev.pkO (.t rfl) rfl) ?_
    refine asn rfl (nP (ret (done rfl (.tmp rfl .nil) (retE ?_))))
    rfl
  · refine (callv en153 (.cons (.t rfl) (.cons (.t rfl) .nil)) (fun w I => asks_ok _ _ w) ?_)
    refine hdn (al1 0 rfl ((opv (Ev.ldv ty72 (.t rfl) (Lens.id _)) ?_)))
    refine hdn (al1 5 rfl ((callv en191 (.cons (.t rfl) (.cons (.t rfl) (.cons (.t rfl) .nil))) (fun w I => every_ok _ _ _ w) ?_)))
    refine hdn (al1 6 rfl ((stv ty72 (Lens.id _) (.t rfl) (.t rfl) ?_)))
    refine hdn (ovr (pN (sg (co (Ev.ldx m ty74 (.t rfl) (Lens.id _)) ?_))))
    refine mv rfl (cons (callv en153 (.cons (.t rfl) (.cons (.t rfl) .nil)) (fun w I => asks_ok _ _ w) ?_))
    refine co (Ev.not (.t rfl)) ?_
    refine mv rfl (cg rfl rfl (fA 0 (.t rfl)) ?_)
    refine cg rfl rfl (Ev.ldx a.from_ ty70 (.g rfl id) SSpan.l_from_) ?_
    refine cg rfl rfl (fA 0 (.t rfl)) ?_
    refine cg rfl rfl (Ev.ldv ty70 (.g rfl id) SSpan.l_from_) ?_
    refine cg rfl rfl (Ev.leq_u16 (.g rfl id) (.g rfl id)) ?_
    refine cg rfl rfl (Ev.move (.g rfl id)) ?_
    refine cg rfl rfl (fA 1 (.t rfl)) ?_
    refine cg rfl rfl (Ev.ldv ty70 (.g rfl id) SSpan.l_to_) ?_
    refine cg rfl rfl (fA 1 (.t rfl)) ?_
    refine cg rfl rfl (Ev.ldx a.to_ ty70 (.g rfl id) SSpan.l_to_) ?_
    refine cg rfl rfl (Ev.leq_u16 (.g rfl id) (.g rfl id)) ?_
    refine cg rfl rfl (Ev.pkA (.g rfl id) rfl) ?_
    refine co (Ev.pkO (.t rfl) rfl) ?_
    refine asn rfl (nP (ret (done rfl (.tmp rfl .nil) (retE ?_))))
    rfl
theorem en192 : Gx.Enters Tryz.prog 192 := Gx.Enters.mk' zk
theorem en193 : Gx.Enters Tryz.prog 193 := Gx.Enters.mk' zk
theorem prefixed_ok (m n : SMatch) (q : UInt8) (a b : SPrefix) (w : World) : Calls Tryz.prog 177 #[eMatch.val m, eMatch.val n, U8 q, ePrefix.val a, ePrefix.val b] w (RetV w (.bool (prefixedB m n q a b))) := by
  refine en0 36 Tryz.func177 ?_
  refine sg (cons (box (E := eMatch) (.t rfl) (fun b1 => ?_)))
  refine cons (box (E := eMatch) (.t rfl) (fun b2 => ?_))
  refine cons (box (E := ePrefix) (.t rfl) (fun b3 => ?_))
  refine cons (box (E := ePrefix) (.t rfl) (fun b4 => ?_))
  refine co (Ev.assign (.c (v := .bool false) rfl)) ?_
  refine nP (seq (block (sg (co (Ev.ldx m ty74 (.t rfl) (Lens.id _)) ?_))))
  refine mv rfl (cons (callv en153 (.cons (.t rfl) (.cons (.t rfl) .nil)) (fun w I => asks_ok _ _ w) ?_))
  refine co (Ev.not (.t rfl)) ?_
  refine asn rfl (nP ?_)
  first | refine condD rfl (fun h0 => ?_) (fun h0 => ?_) | refine cond rfl (fun h0 => ?_) (fun h0 => ?_)
  · try simp only [nb] at h0
    refine sg (co (Ev.assign (.c (v := .bool true) rfl)) ?_)
    refine nP (ret (bR (pR (done rfl (.tmp rfl .nil) (retE ?_)))))
    simp_all [prefixedB, asksB, tupV]
  · try simp only [nb] at h0
    refine sg (co (Ev.ldx n ty74 (.t rfl) (Lens.id _)) ?_)
    refine mv rfl (cons (callv en153 (.cons (.t rfl) (.cons (.t rfl) .nil)) (fun w I => asks_ok _ _ w) ?_))
    refine asn rfl (nP ?_)
    first | refine condD rfl (fun h1 => ?_) (fun h1 => ?_) | refine cond rfl (fun h1 => ?_) (fun h1 => ?_)
    · try simp only [nb] at h1
      refine sg (co (Ev.ldx a ty50 (.t rfl) (Lens.id _)) ?_)
      refine co (Ev.ldx b ty50 (.t rfl) (Lens.id _)) ?_
      refine cons (callv en192 (.cons (.t rfl) (.cons (.t rfl) .nil)) (fun w I => coversP_ok _ _ w) ?_)
      refine asn rfl (nP (ret (bR (pR (done rfl (.tmp rfl .nil) (retE ?_))))))
      simp_all [prefixedB, asksB, tupV]
    · try simp only [nb] at h1
      refine skip (bN (pN (sg (co (Ev.assign (.c (v := I 1) rfl)) ?_))))
      refine nP (seq (sg (co (fA 0 (.t rfl)) ?_)))
      refine co (fA 0 (.t rfl)) ?_
      refine co (Ev.ldx a.addr.v6 ty4 (.t rfl) (Lens.comp SPrefix.l_addr SAddr.l_v6)) ?_
      refine nP ?_
      first | refine condD rfl (fun h2 => ?_) (fun h2 => ?_) | refine cond rfl (fun h2 => ?_) (fun h2 => ?_)
      · try simp only [nb] at h2
        refine region (co (Ev.assign (.c (v := I 2) rfl)) ?_)
        refine nP (sg (co (fA 17 (.t rfl)) ?_))
        refine co (Ev.ldx a.bits ty3 (.t rfl) SPrefix.l_bits) ?_
        refine co (Ev.eql_i (.t rfl) (.c (v := I 0) rfl)) ?_
        refine mv rfl (cg rfl rfl (Ev.ldx n ty74 (.t rfl) (Lens.id _)) ?_)
        refine cons (callg rfl rfl en193 (.cons (.g rfl id) .nil) (fun hg w I => kinds_ok _ w) ?_)
        refine cg rfl rfl (Ev.move (.t rfl)) ?_
        refine cg rfl rfl (Ev.eql_i (.g rfl id) (.g rfl id)) ?_
        refine co (Ev.pkA (.t rfl) rfl) ?_
        refine asn rfl (nP (ret (done rfl (.tmp rfl .nil) (retE ?_))))
        simp_all [prefixedB, asksB, tupV]
      · try simp only [nb] at h2
        refine skip (pN (sg (co (fA 17 (.t rfl)) ?_)))
        refine co (Ev.ldx a.bits ty3 (.t rfl) SPrefix.l_bits) ?_
        refine co (Ev.eql_i (.t rfl) (.c (v := I 0) rfl)) ?_
        refine mv rfl (cg rfl rfl (Ev.ldx n ty74 (.t rfl) (Lens.id _)) ?_)
        refine cons (callg rfl rfl en193 (.cons (.g rfl id) .nil) (fun hg w I => kinds_ok _ w) ?_)
        refine cg rfl rfl (Ev.move (.t rfl)) ?_
        refine cg rfl rfl (Ev.eql_i (.g rfl id) (.g rfl id)) ?_
        refine co (Ev.pkA (.t rfl) rfl) ?_
        refine asn rfl (nP (ret (done rfl (.tmp rfl .nil) (retE ?_))))
        simp_all [prefixedB, asksB, tupV]
def unlikeB (a b : SSpan) : Bool := decide (a.to_ < b.from_) || decide (b.to_ < a.from_)
def coversM (m n : SMatch) : Bool := (okM m && okM n) && (!(asksB m 8 && (!asksB n 8 || decide (¬ m.proto = n.proto))) && (spannedB m n 1 m.in_ n.in_ 255 && prefixedB m n 2 m.src n.src && prefixedB m n 4 m.dst n.dst && spannedB m n 16 m.srcPort n.srcPort 65535 && spannedB m n 32 m.dstPort n.dstPort 65535))
def pfx (m n : SMatch) (v : Bool) : Bool := prefixesR (asksB m 2) m.src (asksB n 2) n.src v && prefixesR (asksB m 4) m.dst (asksB n 4) n.dst v
def coversR (m n : SMatch) : Bool := (okM m && okM n) && (spansR (asksB m 1) m.in_ (asksB n 1) n.in_ 255 && ((!k4R n || pfx m n false) && (!k6R n || pfx m n true)) && !(asksB m 8 && (!asksB n 8 || decide (¬ m.proto = n.proto))) && (spansR (asksB m 16) m.srcPort (asksB n 16) n.srcPort 65535 && spansR (asksB m 32) m.dstPort (asksB n 32) n.dstPort 65535))
def both2 (m n : SMatch) (w : UInt8) : Bool := decide (¬ (m.asks &&& n.asks) &&& w = 0)
def apartM (m n : SMatch) : Bool := (okM m && okM n) && (decide (((kI m &&& kI n : Nat) : Int) = 0) || (both2 m n 8 && decide (¬ m.proto = n.proto)) || (both2 m n 1 && unlikeB m.in_ n.in_) || (both2 m n 16 && unlikeB m.srcPort n.srcPort) || (both2 m n 32 && unlikeB m.dstPort n.dstPort) || (both2 m n 2 && !coversP m.src n.src && !coversP n.src m.src) || (both2 m n 4 && !coversP m.dst n.dst && !coversP n.dst m.dst))
def meetB (p q : SPrefix) : Bool := hasP p q.addr || hasP q p.addr
def apartR (m n : SMatch) : Bool := (okM m && okM n) && ((asksB m 1 && asksB n 1 && unlikeB m.in_ n.in_) || !((k4R m && k4R n) || (k6R m && k6R n)) || (asksB m 8 && asksB n 8 && decide (¬ m.proto = n.proto)) || (asksB m 2 && asksB n 2 && !meetB m.src n.src) || (asksB m 4 && asksB n 4 && !meetB m.dst n.dst) || (asksB m 16 && asksB n 16 && unlikeB m.srcPort n.srcPort) || (asksB m 32 && asksB n 32 && unlikeB m.dstPort n.dstPort))
theorem en176 : Gx.Enters Tryz.prog 176 := Gx.Enters.mk' zk
theorem en177 : Gx.Enters Tryz.prog 177 := Gx.Enters.mk' zk
theorem covers_ok (m n : SMatch) (w : World) : Calls Tryz.prog 149 #[eMatch.val m, eMatch.val n] w (RetV w (.bool (coversM m n))) := by
  refine en0 70 Tryz.func149 ?_
  refine sg (cons (box (E := eMatch) (.t rfl) (fun b1 => ?_)))
  refine cons (box (E := eMatch) (.t rfl) (fun b2 => ?_))
  refine co (Ev.assign (.c (v := .bool false) rfl)) ?_
  refine nP (seq (sg (co (Ev.ldx m ty74 (.t rfl) (Lens.id _)) ?_)))
  refine cons (callv en117 (.cons (.t rfl) .nil) (fun w I => check_ok _ w) ?_)
  refine co (Ev.to (v' := .bool (!okM m)) (Ev.neq_i (.t rfl) (.c (v := I 0) rfl)) (congrArg Value.bool (by rw [← ckM_zero]; simp))) ?_
  refine mv rfl (cg rfl rfl (Ev.ldx n ty74 (.t rfl) (Lens.id _)) ?_)
  refine cons (callg rfl rfl en117 (.cons (.g rfl id) .nil) (fun hg w I => check_ok _ w) ?_)
  refine cg rfl rfl (Ev.to (v' := .bool (!okM n)) (Ev.neq_i (.g rfl id) (.c (v := I 0) rfl)) (congrArg Value.bool (by rw [← ckM_zero]; simp))) ?_
  refine co (Ev.pkO (.t rfl) rfl) ?_
  refine nP ?_
  first | refine condD rfl (fun h0 => ?_) (fun h0 => ?_) | refine cond rfl (fun h0 => ?_) (fun h0 => ?_)
  · refine sg (co (Ev.assign (.c (v := .bool false) rfl)) ?_)
    refine nP (ret (pR (done rfl (.tmp rfl .nil) (retE ?_))))
    refine bX2 ?_
    unfold coversM
    have h0c : (okM m && okM n) = false := by cases ha : okM m <;> cases hb : okM n <;> simp_all
    rw [h0c]; rfl
  · refine skip (pN (seq (sg (co (Ev.ldx m ty74 (.t rfl) (Lens.id _)) ?_))))
    refine cons (callv en153 (.cons (.t rfl) (.cons (.c (v := U8 8) rfl) .nil)) (fun w I => asks_ok _ _ w) ?_)
    refine mv rfl (cg rfl rfl (Ev.ldx n ty74 (.t rfl) (Lens.id _)) ?_)
    refine cons (callg rfl rfl en153 (.cons (.g rfl id) (.cons (.c (v := U8 8) rfl) .nil)) (fun hg w I => asks_ok _ _ w) ?_)
    refine cg rfl rfl (Ev.not (.g rfl id)) ?_
    refine cg rfl rfl (Ev.move (.g rfl id)) ?_
    refine cg rfl rfl (fA 39 (.t rfl)) ?_
    refine cg rfl rfl (Ev.ldx m.proto ty5 (.g rfl id) SMatch.l_proto) ?_
    refine cg rfl rfl (fA 39 (.t rfl)) ?_
    refine cg rfl rfl (Ev.ldx n.proto ty5 (.g rfl id) SMatch.l_proto) ?_
    refine cg rfl rfl (Ev.neq_u8 (.g rfl id) (.g rfl id)) ?_
    refine cg rfl rfl (Ev.pkO (.g rfl id) rfl) ?_
    refine co (Ev.pkA (.t rfl) rfl) ?_
    refine nP ?_
    first | refine condD rfl (fun h1 => ?_) (fun h1 => ?_) | refine cond rfl (fun h1 => ?_) (fun h1 => ?_)
    · refine sg (co (Ev.assign (.c (v := .bool false) rfl)) ?_)
      refine nP (ret (pR (done rfl (.tmp rfl .nil) (retE ?_))))
      refine bX2 ?_
      unfold coversM
      rw [h1]; simp
    · refine skip (pN (sg (co (Ev.ldx m ty74 (.t rfl) (Lens.id _)) ?_)))
      refine co (Ev.ldx n ty74 (.t rfl) (Lens.id _)) ?_
      refine co (fA 1 (.t rfl)) ?_
      refine co (Ev.ldx m.in_ ty72 (.t rfl) SMatch.l_in_) ?_
      refine co (fA 1 (.t rfl)) ?_
      refine co (Ev.ldx n.in_ ty72 (.t rfl) SMatch.l_in_) ?_
      refine cons (callv en176 (.cons (.t rfl) (.cons (.t rfl) (.cons (.c (v := U8 1) rfl) (.cons (.t rfl) (.cons (.t rfl) (.cons (.c (v := U16 255) rfl) .nil)))))) (fun w I => spanned_ok _ _ _ _ _ _ w) ?_)
      refine mv rfl (cg rfl rfl (Ev.ldx m ty74 (.t rfl) (Lens.id _)) ?_)
      refine cg rfl rfl (Ev.ldx n ty74 (.t rfl) (Lens.id _)) ?_
      refine cg rfl rfl (fA 3 (.t rfl)) ?_
      refine cg rfl rfl (Ev.ldx m.src ty50 (.g rfl id) SMatch.l_src) ?_
      refine cg rfl rfl (fA 3 (.t rfl)) ?_
      refine cg rfl rfl (Ev.ldx n.src ty50 (.g rfl id) SMatch.l_src) ?_
      refine cons (callg rfl rfl en177 (.cons (.g rfl id) (.cons (.g rfl id) (.cons (.c (v := U8 2) rfl) (.cons (.g rfl id) (.cons (.g rfl id) .nil))))) (fun hg w I => prefixed_ok _ _ _ _ _ w) ?_)
      refine co (Ev.pkA (.t rfl) rfl) ?_
      refine mv rfl (cg rfl rfl (Ev.ldx m ty74 (.t rfl) (Lens.id _)) ?_)
      refine cg rfl rfl (Ev.ldx n ty74 (.t rfl) (Lens.id _)) ?_
      refine cg rfl rfl (fA 21 (.t rfl)) ?_
      refine cg rfl rfl (Ev.ldx m.dst ty50 (.g rfl id) SMatch.l_dst) ?_
      refine cg rfl rfl (fA 21 (.t rfl)) ?_
      refine cg rfl rfl (Ev.ldx n.dst ty50 (.g rfl id) SMatch.l_dst) ?_
      refine cons (callg rfl rfl en177 (.cons (.g rfl id) (.cons (.g rfl id) (.cons (.c (v := U8 4) rfl) (.cons (.g rfl id) (.cons (.g rfl id) .nil))))) (fun hg w I => prefixed_ok _ _ _ _ _ w) ?_)
      refine co (Ev.pkA (.t rfl) rfl) ?_
      refine mv rfl (cg rfl rfl (Ev.ldx m ty74 (.t rfl) (Lens.id _)) ?_)
      refine cg rfl rfl (Ev.ldx n ty74 (.t rfl) (Lens.id _)) ?_
      refine cg rfl rfl (fA 40 (.t rfl)) ?_
      refine cg rfl rfl (Ev.ldx m.srcPort ty72 (.g rfl id) SMatch.l_srcPort) ?_
      refine cg rfl rfl (fA 40 (.t rfl)) ?_
      refine cg rfl rfl (Ev.ldx n.srcPort ty72 (.g rfl id) SMatch.l_srcPort) ?_
      refine cons (callg rfl rfl en176 (.cons (.g rfl id) (.cons (.g rfl id) (.cons (.c (v := U8 16) rfl) (.cons (.g rfl id) (.cons (.g rfl id) (.cons (.c (v := U16 65535) rfl) .nil)))))) (fun hg w I => spanned_ok _ _ _ _ _ _ w) ?_)
      refine co (Ev.pkA (.t rfl) rfl) ?_
      refine mv rfl (cg rfl rfl (Ev.ldx m ty74 (.t rfl) (Lens.id _)) ?_)
      refine cg rfl rfl (Ev.ldx n ty74 (.t rfl) (Lens.id _)) ?_
      refine cg rfl rfl (fA 42 (.t rfl)) ?_
      refine cg rfl rfl (Ev.ldx m.dstPort ty72 (.g rfl id) SMatch.l_dstPort) ?_
      refine cg rfl rfl (fA 42 (.t rfl)) ?_
      refine cg rfl rfl (Ev.ldx n.dstPort ty72 (.g rfl id) SMatch.l_dstPort) ?_
      refine cons (callg rfl rfl en176 (.cons (.g rfl id) (.cons (.g rfl id) (.cons (.c (v := U8 32) rfl) (.cons (.g rfl id) (.cons (.g rfl id) (.cons (.c (v := U16 65535) rfl) .nil)))))) (fun hg w I => spanned_ok _ _ _ _ _ _ w) ?_)
      refine co (Ev.pkA (.t rfl) rfl) ?_
      refine asn rfl (nP (ret (done rfl (.tmp rfl .nil) (retE ?_))))
      refine bX2 ?_
      unfold coversM
      have h0c : (okM m && okM n) = true := by simpa using h0
      rw [h0c, h1]; simp [Bool.and_assoc]
structure Ok (m : SMatch) : Prop where
  in_ : asksB m 1 = false → m.in_ = eSpan.zero
  src : asksB m 2 = false → m.src = ePrefix.zero
  dst : asksB m 4 = false → m.dst = ePrefix.zero
  proto : asksB m 8 = false → m.proto = 0
  srcPort : asksB m 16 = false → m.srcPort = eSpan.zero
  dstPort : asksB m 32 = false → m.dstPort = eSpan.zero
  csrc : asksB m 2 = true → checkP m.src = 0
  cdst : asksB m 4 = true → checkP m.dst = 0
  same : asksB m 2 = true → asksB m 4 = true → m.src.addr.v6 = m.dst.addr.v6
theorem Ok.of {m : SMatch} (h : okM m = true) : Ok m := by
  unfold okM bad0 bad2 at h
  simp at h
  obtain ⟨⟨⟨h0, _⟩, h2⟩, _⟩ := h
  have r : ∀ {x : Bool} {p : Prop}, (x = true ∨ p) → x = false → p := fun h e => h.resolve_left (by rw [e]; simp)
  have q : ∀ {x : Bool} {p : Prop}, (x = false ∨ p) → x = true → p := fun h e => h.resolve_left (by rw [e]; simp)
  exact ⟨r h0.1.1.1.1.1.2, r h0.1.1.1.1.2, r h0.1.1.1.2, r h0.1.1.2, r h0.1.2, r h0.2, q h2.1.1, q h2.1.2, fun e1 e2 => by simpa [e1, e2] using h2.2⟩
def qM (k : Nat) (m : SMatch) (n : Int) (h : SHeader) : Bool := match k with
  | 0 => withinB m.in_ n
  | 1 => decide (h.proto = m.proto)
  | 2 => hasP m.src h.src
  | 3 => hasP m.dst h.dst
  | 4 => withinB m.srcPort h.srcPort.toNat
  | _ => withinB m.dstPort h.dstPort.toNat
def fM (k : Nat) : Nat := ([168, 170, 171, 173, 174, 175] : List Nat).getD k 0
def ksA (c : Bool) (k : Nat) (l : List Nat) : List Nat := bif c then l ++ [k] else l
def ks (m : SMatch) : List Nat := ksA (asksB m 32) 5 (ksA (asksB m 16) 4 (ksA (asksB m 4) 3 (ksA (asksB m 2) 2 (ksA (asksB m 8) 1 (ksA (asksB m 1) 0 [])))))
def closL (p : Nat) (l : List Nat) : List OV := l.map fun k => clo (fM k) [.pointer (some ⟨p, 0, none⟩)]
def clos (m : SMatch) (p : Nat) : List OV := closL p (ks m)
def metB (m : SMatch) (n : Int) (h : SHeader) : Bool := (ks m).all fun k => qM k m n h
def meetsB (m : SMatch) (n : Int) (h : SHeader) : Bool := okM m && metB m n h
theorem ty249 : TyOK Tryz.prog 249 (ovE nilFn) := TyOK.mk' zk zk
theorem z249 : (Tryz.prog.info? 249).bind (·.zero) = some ((ovE nilFn).val (ovE nilFn).zero) := by kernel_rfl
theorem zb249 : (Tryz.prog.info? 249).map (fun i => (i.zero, i.bytes)) = some (some ((ovE nilFn).val (ovE nilFn).zero), 8) := by kernel_rfl
theorem zs249 : ((ovE nilFn).val (ovE nilFn).zero).cells.size = (ovE nilFn).size := by rw [Enc.cells_val, List.size_toArray, Enc.len]
theorem compiled_ok (m : SMatch) (w : World) : Calls Tryz.prog 148 #[eMatch.val m] w (RetN w (fun _ : OV × Nat => True) (fun x => x.1.v) (fun x => [OwnS x.1.v (ovE nilFn) (clos m x.2) 249, Var x.2 eMatch m 74])) := by
  refine en0 41 Tryz.func148 ?_
  refine sg (cons (box (E := eMatch) (.t rfl) (fun b1 => ?_)))
  refine co (Ev.assign (.c (v := (Go.Value.slice none 0 0)) rfl)) ?_
  refine nP (sg (co (Ev.assign (.c (v := (Go.Value.slice none 0 0)) rfl)) ?_))
  refine takeNil (ovE nilFn) 249 ?_
  refine nP (cut (X := OV × (List Nat)) (fun x : OV × (List Nat) => (x.2 = ksA (asksB m 1) 0 []) ∧ (x.2.length ≤ 1)) (fun x : OV × (List Nat) => [(1, true, .pointer (some ⟨b1, 0, none⟩)), (3, true, x.1.v)]) (fun x : OV × (List Nat) => [OwnS x.1.v (ovE nilFn) (closL b1 x.2) 249, Var b1 eMatch m 74]) ?_ (fun x hx => ?_))
  · refine sg (co (Ev.ldx m ty74 (.t rfl) (Lens.id _)) ?_)
    refine cons (callv en153 (.cons (.t rfl) (.cons (.c (v := U8 1) rfl) .nil)) (fun w I => asks_ok _ _ w) ?_)
    refine nP ?_
    first | refine condD rfl (fun h0 => ?_) (fun h0 => ?_) | refine cond rfl (fun h0 => ?_) (fun h0 => ?_)
    · refine region (mv rfl (co (Ev.makeFunc (f := 168) (.cons (.t rfl) .nil)) ?_))
      refine cons (buildSlice (E := (ovE nilFn)) Tryz.underlying192 ty249 z249 (.cons (.t rfl) .nil) rfl rfl (fun v2 => ?_))
      refine cons (app (E := (ovE nilFn)) Tryz.underlying192 ty249 zb249 zs249 (.t rfl) (.t rfl) (fun v3 => ?_) (hby := ⟨by first | ((show _ ≤ 9223372036854775807); simp; done) | ((show _ ≤ 9223372036854775807); simp [closL]; omega), by first | (simp; done) | (simp [closL]; omega)⟩))
      refine asn rfl (nP (mt (X := OV × (List Nat)) (_, [] ++ [0]) ⟨?_, ?_⟩ (hL := (by first | exact List.Sublist.refl _ | (simp only [closL, List.map_append, List.map_cons, List.map_nil]; repeat first | exact List.Sublist.refl _ | apply List.Sublist.cons_cons | apply List.Sublist.cons)))))
      · try dsimp only
        unfold ksA; simp_all [asksB]
      · try dsimp only
        first | omega | (simp; omega) | simp
    · refine skip (pN (mt (X := OV × (List Nat)) (nilSl, []) ⟨?_, ?_⟩ (hL := (by first | exact List.Sublist.refl _ | (simp only [closL, List.map_append, List.map_cons, List.map_nil]; repeat first | exact List.Sublist.refl _ | apply List.Sublist.cons_cons | apply List.Sublist.cons)))))
      · try dsimp only
        unfold ksA; simp_all [asksB]
      · try dsimp only
        first | omega | (simp; omega) | simp
  obtain ⟨o1, l1⟩ := x
  obtain ⟨hl1, hn1⟩ : (l1 = ksA (asksB m 1) 0 []) ∧ (l1.length ≤ 1) := hx
  show Sat _ _ [(1, true, .pointer (some ⟨b1, 0, none⟩)), (3, true, o1.v)] [OwnS o1.v (ovE nilFn) (closL b1 l1) 249, Var b1 eMatch m 74]
  refine cut (X := OV × (List Nat)) (fun x : OV × (List Nat) => (x.2 = ksA (asksB m 8) 1 l1) ∧ (x.2.length ≤ 2)) (fun x : OV × (List Nat) => [(1, true, .pointer (some ⟨b1, 0, none⟩)), (3, true, x.1.v)]) (fun x : OV × (List Nat) => [OwnS x.1.v (ovE nilFn) (closL b1 x.2) 249, Var b1 eMatch m 74]) ?_ (fun x hx => ?_)
  · refine sg (co (Ev.ldx m ty74 (.t rfl) (Lens.id _)) ?_)
    refine cons (callv en153 (.cons (.t rfl) (.cons (.c (v := U8 8) rfl) .nil)) (fun w I => asks_ok _ _ w) ?_)
    refine nP ?_
    first | refine condD rfl (fun h1 => ?_) (fun h1 => ?_) | refine cond rfl (fun h1 => ?_) (fun h1 => ?_)
    · refine region (mv rfl (co (Ev.makeFunc (f := 170) (.cons (.t rfl) .nil)) ?_))
      refine cons (buildSlice (E := (ovE nilFn)) Tryz.underlying192 ty249 z249 (.cons (.t rfl) .nil) rfl rfl (fun v4 => ?_))
      refine cons (app (E := (ovE nilFn)) Tryz.underlying192 ty249 zb249 zs249 (.t rfl) (.t rfl) (fun v5 => ?_) (hby := ⟨by first | ((show _ ≤ 9223372036854775807); simp; done) | ((show _ ≤ 9223372036854775807); simp [closL]; omega), by first | (simp; done) | (simp [closL]; omega)⟩))
      refine asn rfl (nP (mt (X := OV × (List Nat)) (_, l1 ++ [1]) ⟨?_, ?_⟩ (hL := (by first | exact List.Sublist.refl _ | (simp only [closL, List.map_append, List.map_cons, List.map_nil]; repeat first | exact List.Sublist.refl _ | apply List.Sublist.cons_cons | apply List.Sublist.cons)))))
      · try dsimp only
        unfold ksA; simp_all [asksB]
      · try dsimp only
        first | omega | (simp; omega) | simp
    · refine skip (pN (mt (X := OV × (List Nat)) (o1, l1) ⟨?_, ?_⟩ (hL := (by first | exact List.Sublist.refl _ | (simp only [closL, List.map_append, List.map_cons, List.map_nil]; repeat first | exact List.Sublist.refl _ | apply List.Sublist.cons_cons | apply List.Sublist.cons)))))
      · try dsimp only
        unfold ksA; simp_all [asksB]
      · try dsimp only
        first | omega | (simp; omega) | simp
  obtain ⟨o2, l2⟩ := x
  obtain ⟨hl2, hn2⟩ : (l2 = ksA (asksB m 8) 1 l1) ∧ (l2.length ≤ 2) := hx
  show Sat _ _ [(1, true, .pointer (some ⟨b1, 0, none⟩)), (3, true, o2.v)] [OwnS o2.v (ovE nilFn) (closL b1 l2) 249, Var b1 eMatch m 74]
  refine cut (X := OV × (List Nat)) (fun x : OV × (List Nat) => (x.2 = ksA (asksB m 2) 2 l2) ∧ (x.2.length ≤ 3)) (fun x : OV × (List Nat) => [(1, true, .pointer (some ⟨b1, 0, none⟩)), (3, true, x.1.v)]) (fun x : OV × (List Nat) => [OwnS x.1.v (ovE nilFn) (closL b1 x.2) 249, Var b1 eMatch m 74]) ?_ (fun x hx => ?_)
  · refine sg (co (Ev.ldx m ty74 (.t rfl) (Lens.id _)) ?_)
    refine cons (callv en153 (.cons (.t rfl) (.cons (.c (v := U8 2) rfl) .nil)) (fun w I => asks_ok _ _ w) ?_)
    refine nP ?_
    first | refine condD rfl (fun h2 => ?_) (fun h2 => ?_) | refine cond rfl (fun h2 => ?_) (fun h2 => ?_)
    · refine region (mv rfl (co (Ev.makeFunc (f := 171) (.cons (.t rfl) .nil)) ?_))
      refine cons (buildSlice (E := (ovE nilFn)) Tryz.underlying192 ty249 z249 (.cons (.t rfl) .nil) rfl rfl (fun v6 => ?_))
      refine cons (app (E := (ovE nilFn)) Tryz.underlying192 ty249 zb249 zs249 (.t rfl) (.t rfl) (fun v7 => ?_) (hby := ⟨by first | ((show _ ≤ 9223372036854775807); simp; done) | ((show _ ≤ 9223372036854775807); simp [closL]; omega), by first | (simp; done) | (simp [closL]; omega)⟩))
      refine asn rfl (nP (mt (X := OV × (List Nat)) (_, l2 ++ [2]) ⟨?_, ?_⟩ (hL := (by first | exact List.Sublist.refl _ | (simp only [closL, List.map_append, List.map_cons, List.map_nil]; repeat first | exact List.Sublist.refl _ | apply List.Sublist.cons_cons | apply List.Sublist.cons)))))
      · try dsimp only
        unfold ksA; simp_all [asksB]
      · try dsimp only
        first | omega | (simp; omega) | simp
    · refine skip (pN (mt (X := OV × (List Nat)) (o2, l2) ⟨?_, ?_⟩ (hL := (by first | exact List.Sublist.refl _ | (simp only [closL, List.map_append, List.map_cons, List.map_nil]; repeat first | exact List.Sublist.refl _ | apply List.Sublist.cons_cons | apply List.Sublist.cons)))))
      · try dsimp only
        unfold ksA; simp_all [asksB]
      · try dsimp only
        first | omega | (simp; omega) | simp
  obtain ⟨o3, l3⟩ := x
  obtain ⟨hl3, hn3⟩ : (l3 = ksA (asksB m 2) 2 l2) ∧ (l3.length ≤ 3) := hx
  show Sat _ _ [(1, true, .pointer (some ⟨b1, 0, none⟩)), (3, true, o3.v)] [OwnS o3.v (ovE nilFn) (closL b1 l3) 249, Var b1 eMatch m 74]
  refine cut (X := OV × (List Nat)) (fun x : OV × (List Nat) => (x.2 = ksA (asksB m 4) 3 l3) ∧ (x.2.length ≤ 4)) (fun x : OV × (List Nat) => [(1, true, .pointer (some ⟨b1, 0, none⟩)), (3, true, x.1.v)]) (fun x : OV × (List Nat) => [OwnS x.1.v (ovE nilFn) (closL b1 x.2) 249, Var b1 eMatch m 74]) ?_ (fun x hx => ?_)
  · refine sg (co (Ev.ldx m ty74 (.t rfl) (Lens.id _)) ?_)
    refine cons (callv en153 (.cons (.t rfl) (.cons (.c (v := U8 4) rfl) .nil)) (fun w I => asks_ok _ _ w) ?_)
    refine nP ?_
    first | refine condD rfl (fun h3 => ?_) (fun h3 => ?_) | refine cond rfl (fun h3 => ?_) (fun h3 => ?_)
    · refine region (mv rfl (co (Ev.makeFunc (f := 173) (.cons (.t rfl) .nil)) ?_))
      refine cons (buildSlice (E := (ovE nilFn)) Tryz.underlying192 ty249 z249 (.cons (.t rfl) .nil) rfl rfl (fun v8 => ?_))
      refine cons (app (E := (ovE nilFn)) Tryz.underlying192 ty249 zb249 zs249 (.t rfl) (.t rfl) (fun v9 => ?_) (hby := ⟨by first | ((show _ ≤ 9223372036854775807); simp; done) | ((show _ ≤ 9223372036854775807); simp [closL]; omega), by first | (simp; done) | (simp [closL]; omega)⟩))
      refine asn rfl (nP (mt (X := OV × (List Nat)) (_, l3 ++ [3]) ⟨?_, ?_⟩ (hL := (by first | exact List.Sublist.refl _ | (simp only [closL, List.map_append, List.map_cons, List.map_nil]; repeat first | exact List.Sublist.refl _ | apply List.Sublist.cons_cons | apply List.Sublist.cons)))))
      · try dsimp only
        unfold ksA; simp_all [asksB]
      · try dsimp only
        first | omega | (simp; omega) | simp
    · refine skip (pN (mt (X := OV × (List Nat)) (o3, l3) ⟨?_, ?_⟩ (hL := (by first | exact List.Sublist.refl _ | (simp only [closL, List.map_append, List.map_cons, List.map_nil]; repeat first | exact List.Sublist.refl _ | apply List.Sublist.cons_cons | apply List.Sublist.cons)))))
      · try dsimp only
        unfold ksA; simp_all [asksB]
      · try dsimp only
        first | omega | (simp; omega) | simp
  obtain ⟨o4, l4⟩ := x
  obtain ⟨hl4, hn4⟩ : (l4 = ksA (asksB m 4) 3 l3) ∧ (l4.length ≤ 4) := hx
  show Sat _ _ [(1, true, .pointer (some ⟨b1, 0, none⟩)), (3, true, o4.v)] [OwnS o4.v (ovE nilFn) (closL b1 l4) 249, Var b1 eMatch m 74]
  refine cut (X := OV × (List Nat)) (fun x : OV × (List Nat) => (x.2 = ksA (asksB m 16) 4 l4) ∧ (x.2.length ≤ 5)) (fun x : OV × (List Nat) => [(1, true, .pointer (some ⟨b1, 0, none⟩)), (3, true, x.1.v)]) (fun x : OV × (List Nat) => [OwnS x.1.v (ovE nilFn) (closL b1 x.2) 249, Var b1 eMatch m 74]) ?_ (fun x hx => ?_)
  · refine sg (co (Ev.ldx m ty74 (.t rfl) (Lens.id _)) ?_)
    refine cons (callv en153 (.cons (.t rfl) (.cons (.c (v := U8 16) rfl) .nil)) (fun w I => asks_ok _ _ w) ?_)
    refine nP ?_
    first | refine condD rfl (fun h4 => ?_) (fun h4 => ?_) | refine cond rfl (fun h4 => ?_) (fun h4 => ?_)
    · refine region (mv rfl (co (Ev.makeFunc (f := 174) (.cons (.t rfl) .nil)) ?_))
      refine cons (buildSlice (E := (ovE nilFn)) Tryz.underlying192 ty249 z249 (.cons (.t rfl) .nil) rfl rfl (fun v10 => ?_))
      refine cons (app (E := (ovE nilFn)) Tryz.underlying192 ty249 zb249 zs249 (.t rfl) (.t rfl) (fun v11 => ?_) (hby := ⟨by first | ((show _ ≤ 9223372036854775807); simp; done) | ((show _ ≤ 9223372036854775807); simp [closL]; omega), by first | (simp; done) | (simp [closL]; omega)⟩))
      refine asn rfl (nP (mt (X := OV × (List Nat)) (_, l4 ++ [4]) ⟨?_, ?_⟩ (hL := (by first | exact List.Sublist.refl _ | (simp only [closL, List.map_append, List.map_cons, List.map_nil]; repeat first | exact List.Sublist.refl _ | apply List.Sublist.cons_cons | apply List.Sublist.cons)))))
      · try dsimp only
        unfold ksA; simp_all [asksB]
      · try dsimp only
        first | omega | (simp; omega) | simp
    · refine skip (pN (mt (X := OV × (List Nat)) (o4, l4) ⟨?_, ?_⟩ (hL := (by first | exact List.Sublist.refl _ | (simp only [closL, List.map_append, List.map_cons, List.map_nil]; repeat first | exact List.Sublist.refl _ | apply List.Sublist.cons_cons | apply List.Sublist.cons)))))
      · try dsimp only
        unfold ksA; simp_all [asksB]
      · try dsimp only
        first | omega | (simp; omega) | simp
  obtain ⟨o5, l5⟩ := x
  obtain ⟨hl5, hn5⟩ : (l5 = ksA (asksB m 16) 4 l4) ∧ (l5.length ≤ 5) := hx
  show Sat _ _ [(1, true, .pointer (some ⟨b1, 0, none⟩)), (3, true, o5.v)] [OwnS o5.v (ovE nilFn) (closL b1 l5) 249, Var b1 eMatch m 74]
  refine cut (X := OV × (List Nat)) (fun x : OV × (List Nat) => (x.2 = ksA (asksB m 32) 5 l5) ∧ (x.2.length ≤ 6)) (fun x : OV × (List Nat) => [(1, true, .pointer (some ⟨b1, 0, none⟩)), (3, true, x.1.v)]) (fun x : OV × (List Nat) => [OwnS x.1.v (ovE nilFn) (closL b1 x.2) 249, Var b1 eMatch m 74]) ?_ (fun x hx => ?_)
  · refine sg (co (Ev.ldx m ty74 (.t rfl) (Lens.id _)) ?_)
    refine cons (callv en153 (.cons (.t rfl) (.cons (.c (v := U8 32) rfl) .nil)) (fun w I => asks_ok _ _ w) ?_)
    refine nP ?_
    first | refine condD rfl (fun h5 => ?_) (fun h5 => ?_) | refine cond rfl (fun h5 => ?_) (fun h5 => ?_)
    · refine region (mv rfl (co (Ev.makeFunc (f := 175) (.cons (.t rfl) .nil)) ?_))
      refine cons (buildSlice (E := (ovE nilFn)) Tryz.underlying192 ty249 z249 (.cons (.t rfl) .nil) rfl rfl (fun v12 => ?_))
      refine cons (app (E := (ovE nilFn)) Tryz.underlying192 ty249 zb249 zs249 (.t rfl) (.t rfl) (fun v13 => ?_) (hby := ⟨by first | ((show _ ≤ 9223372036854775807); simp; done) | ((show _ ≤ 9223372036854775807); simp [closL]; omega), by first | (simp; done) | (simp [closL]; omega)⟩))
      refine asn rfl (nP (mt (X := OV × (List Nat)) (_, l5 ++ [5]) ⟨?_, ?_⟩ (hL := (by first | exact List.Sublist.refl _ | (simp only [closL, List.map_append, List.map_cons, List.map_nil]; repeat first | exact List.Sublist.refl _ | apply List.Sublist.cons_cons | apply List.Sublist.cons)))))
      · try dsimp only
        unfold ksA; simp_all [asksB]
      · try dsimp only
        first | omega | (simp; omega) | simp
    · refine skip (pN (mt (X := OV × (List Nat)) (o5, l5) ⟨?_, ?_⟩ (hL := (by first | exact List.Sublist.refl _ | (simp only [closL, List.map_append, List.map_cons, List.map_nil]; repeat first | exact List.Sublist.refl _ | apply List.Sublist.cons_cons | apply List.Sublist.cons)))))
      · try dsimp only
        unfold ksA; simp_all [asksB]
      · try dsimp only
        first | omega | (simp; omega) | simp
  obtain ⟨o6, l6⟩ := x
  obtain ⟨hl6, hn6⟩ : (l6 = ksA (asksB m 32) 5 l5) ∧ (l6.length ≤ 6) := hx
  show Sat _ _ [(1, true, .pointer (some ⟨b1, 0, none⟩)), (3, true, o6.v)] [OwnS o6.v (ovE nilFn) (closL b1 l6) 249, Var b1 eMatch m 74]
  refine sg (mv rfl (asn rfl (nP (ret (done rfl (.tmp rfl .nil) (fun w I => ?_))))))
  exact retN (o6, b1) trivial rfl (by unfold clos ks; rw [← hl1, ← hl2, ← hl3, ← hl4, ← hl5, ← hl6]; exact List.Sublist.refl _) w I
theorem getD_mem {α : Type} (l : List α) (i : Nat) (d : α) (h : i < l.length) : l.getD i d ∈ l := by simp [List.getD, h]
end Go.Proofs.YtnoobdijbpmjkaaGreat
