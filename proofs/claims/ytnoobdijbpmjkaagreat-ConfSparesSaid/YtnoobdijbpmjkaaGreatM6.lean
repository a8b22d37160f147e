/- Part. -/
import Derived.Test.YtnoobdijbpmjkaaGreatM5
set_option linter.unusedVariables false
set_option linter.unusedSimpArgs false
namespace Go.Proofs.YtnoobdijbpmjkaaGreat
open Go Go.Gx
theorem en98 : Gx.Enters Tryz.prog 98 := Gx.Enters.mk' (by kernel_rfl)
theorem en101 : Gx.Enters Tryz.prog 101 := Gx.Enters.mk' (by kernel_rfl)
theorem en96 : Gx.Enters Tryz.prog 96 := Gx.Enters.mk' (by kernel_rfl)
theorem en100 : Gx.Enters Tryz.prog 100 := Gx.Enters.mk' (by kernel_rfl)
theorem en94 : Gx.Enters Tryz.prog 94 := Gx.Enters.mk' (by kernel_rfl)
theorem en95 : Gx.Enters Tryz.prog 95 := Gx.Enters.mk' (by kernel_rfl)
theorem en99 : Gx.Enters Tryz.prog 99 := Gx.Enters.mk' (by kernel_rfl)
theorem en102 : Gx.Enters Tryz.prog 102 := Gx.Enters.mk' (by kernel_rfl)
theorem spare_ok (c : SConf) (l : CL) (w : World) (hc : ConfAt w c l) (hn : l.Names) (hz : l.n ≤ 4611686018427387904) : Calls Tryz.prog 29 #[eConf.val c] w (RetN w (fun _ : OV × OV × OV => True) (fun x => .tuple #[x.1.v, x.2.1.v, x.2.2.v, I (spE l c.default)]) (fun x => [OwnS x.1.v iE (spL l c.default (spareA l)) 3, OwnS x.2.1.v iE (spL l c.default (spareB l)) 3, OwnS x.2.2.v iE (spL l c.default (deadB (mtL l))) 3])) := by
  have hle := hc.us.le
  refine en0 49 Tryz.func29 ?_
  refine sg (cons (box (E := eConf) (.t rfl) (fun b1 => ?_)))
  refine co (Ev.assign (.c (v := (Go.Value.slice none 0 0)) rfl)) ?_
  refine co (Ev.assign (.c (v := (Go.Value.slice none 0 0)) rfl)) ?_
  refine co (Ev.assign (.c (v := (Go.Value.slice none 0 0)) rfl)) ?_
  refine co (Ev.assign (.c (v := I 0) rfl)) ?_
  refine nP (seq (sg (co (Ev.ldx c ty28 (.t rfl) (Lens.id _)) ?_)))
  refine cons (callv en15 (.cons (.t rfl) .nil) (fun w I => may_ok c l w (hc.keep0 I.keeps) hn hz) ?_)
  refine co (Ev.not (.t rfl)) ?_
  refine nP ?_
  first | refine condD rfl (fun h0 => ?_) (fun h0 => ?_) | refine cond rfl (fun h0 => ?_) (fun h0 => ?_)
  · have hmay : mayB l c.default = false := by simpa using h0
    refine seq (takeNil iE 3 ?_)
    refine takeNil iE 3 ?_
    refine takeNil iE 3 ?_
    refine region (co (Ev.assign (.c (v := (Go.Value.slice none 0 0)) rfl)) ?_)
    refine co (Ev.assign (.c (v := (Go.Value.slice none 0 0)) rfl)) ?_
    refine co (Ev.assign (.c (v := (Go.Value.slice none 0 0)) rfl)) ?_
    refine co (Ev.assign (.c (v := I 210) rfl)) ?_
    refine nP (ret (pR (done rfl (.tmp rfl (.tmp rfl (.tmp rfl (.tmp rfl .nil)))) (fun w I => ?_))))
    refine retNP (nilSl, nilSl, nilSl) trivial ?_ ?_ w I
    · unfold spE; rw [hmay]; rfl
    · unfold spL; rw [hmay]; exact (by repeat first | exact SubP.nil | refine SubP.cons (by repeat first | exact Rem.head | apply Rem.tail) ?_)
  · have hmay : mayB l c.default = true := by simpa using h0
    have hlens := may_lens hmay
    have hcomp := may_comp hmay
    refine skip (pN (sg (co (Ev.assign (.c (v := (Go.Value.slice none 0 0)) rfl)) ?_)))
    refine takeNil eMatch 74 ?_
    refine nP (seq (sg (co (fA 2 (.t rfl)) ?_)))
    refine co (Ev.ldx c.rules ty24 (.t rfl) SConf.l_rules) ?_
    refine co (Ev.len Tryz.underlying24 (.t rfl) (fun w I => (hc.keep0 I.keeps).us)) ?_
    refine co (Ev.move (.c (v := I 0) rfl)) ?_
    refine nP (block (lp (X := Int × OV) (fun x : Int × OV => (0 ≤ x.1 ∧ x.1 ≤ l.us.length)) (fun x : Int × OV => [(1, true, .pointer (some ⟨b1, 0, none⟩)), (6, true, x.2.v), (14, true, c.rules.v), (15, true, I l.us.length), (16, true, I x.1)]) (fun x : Int × OV => [OwnS x.2.v eMatch ((l.us.take x.1.toNat).map (fun r => r.match_)) 74, Var b1 eConf c 28]) (fun x : Int × OV => ((l.us.length : Int) - x.1).toNat) (0, nilSl) ?_ (fun x hx => ?_)))
    · omega
    obtain ⟨i, q⟩ := x
    have hi : 0 ≤ i ∧ i ≤ l.us.length := hx
    clear hx
    show Sat _ _ [(1, true, .pointer (some ⟨b1, 0, none⟩)), (6, true, q.v), (14, true, c.rules.v), (15, true, I l.us.length), (16, true, I i)] [OwnS q.v eMatch ((l.us.take i.toNat).map (fun r => r.match_)) 74, Var b1 eConf c 28]
    have hql : ((l.us.take i.toNat).map (fun r => r.match_)).length ≤ 256 := by simp; omega
    refine sg (co (Ev.lss_i (.t rfl) (.t rfl)) ?_)
    refine nP (seq ?_)
    first | refine condD rfl (fun h1 => ?_) (fun h1 => ?_) | refine cond rfl (fun h1 => ?_) (fun h1 => ?_)
    · try simp only [nb] at h1
      refine skip (pN (seq (block (sg (co (Ev.indexAddr Tryz.underlying24 ty76 (.t rfl) (.t rfl) (fun w I => (hc.keep0 I.keeps).us) (fun _ => by omega)) ?_)))))
      refine co (Ev.loadS0 ty76 (.t rfl) (fun w I => (hc.keep0 I.keeps).us) (fun _ => by omega)) ?_
      refine cons (alloc z76 (fun b2 => ?_))
      refine cons (stv ty76 (Lens.id _) (.t rfl) (.t rfl) ?_)
      refine nP (region (mv rfl (co (fA 1 (.t rfl)) ?_)))
      refine co (Ev.ldv ty74 (.t rfl) SRule.l_match_) ?_
      refine cons (buildSlice (E := eMatch) Tryz.underlying143 ty74 z74 (.cons (.t rfl) .nil) rfl rfl (fun v3 => ?_))
      refine cons (app (E := eMatch) Tryz.underlying143 ty74 zb74 zs74 (.t rfl) (.t rfl) (fun v4 => ?_) (hby := ⟨by (show _ ≤ 9223372036854775807); first | omega | (simp; done) | (simp; omega), by first | omega | (simp; done) | (simp; omega)⟩))
      refine asn rfl (nil (bN (pN (region (co (Ev.add_i (.t rfl) (.c (v := I 1) rfl) (fun _ => by omega)) ?_)))))
      refine mv rfl (nP (nx (X := Int × OV) (i + 1, _) ?_ ?_ (hL := (by rw [take_snoc l.us i hi.1 (by omega) eRule.zero, List.map_append]; repeat first | exact sR | exact sN | apply sC | apply sS | apply sA))))
      · try dsimp only
        omega
      · try dsimp only
        omega
    · try simp only [nb] at h1
      refine exit (pX (pX (bX (pN (seq ?_)))))
      have hq : (l.us.take i.toNat).map (fun r => r.match_) = mtL l := by rw [List.take_of_length_le (by omega)]; rfl
      rw [hq]
      refine region (mv rfl (cons (calln (X := Nat × List Res) (CompJ (mtL l)) (compV (mtL l)) (fun x => x.2) en94 (.cons (.t rfl) .nil) (fun w I => compile_ok _ (mtL l) w (io w I)) (fun x1 hx1 => ?_))))
      refine mv rfl (co (Ev.to (v' := .pointer (some ⟨x1.1, 0, none⟩)) (Ev.extract (.t rfl) rfl) (congrArg Value.pointer (ptrO_ok x1.1 hcomp))) ?_)
      refine co (Ev.to (v' := I 0) (Ev.extract (.t rfl) rfl) (congrArg I hcomp)) ?_
      refine asn rfl (asn rfl (nP (seq (sg (mv rfl (co (Ev.neq_i (.t rfl) (.c (v := I 0) rfl)) ?_))))))
      refine nP (condF rfl (rfl) ?_)
      refine skip (pN (seq (draw' (by kernel_rfl) ?_)))
      refine tk 0 rfl (fA 3 (.t rfl)) ?_
      refine tk 1 rfl (Ev.ldx c.meters ty25 (.t rfl) SConf.l_meters) ?_
      refine tk 2 rfl (fA 2 (.t rfl)) ?_
      refine tk 3 rfl (Ev.ldx c.rules ty24 (.t rfl) SConf.l_rules) ?_
      refine al1 4 rfl ((calln (X := Nat) (fun _ => True) (fun b => .map (some b)) (fun b => [MapR b sE iE (firstN eqs (fun a : SRule => a.meter) l.us l.us.length)]) en97 (.cons (.t rfl) (.cons .f .nil)) (fun w I => first_9_76 98 [] _ _ l.us w en98 (hc.keep0 I.keeps).us (skey2_at _ w)) (fun m1 _ => ?_)))
      refine hdn (al1 5 rfl ((callo en95 (.cons (.t rfl) (.cons .f (.cons (.t rfl) .nil))) (fun w I => unnamed_57 96 m1 _ _ _ l.ms w en96 (hc.keep0 I.keeps).ms (mapAt_own (by repeat first | exact mH | apply mT | apply mA) w I) (skey1_at _ w) (by omega)) (fun o1 => ?_))))
      refine hdn (tk 6 rfl (Ev.assign (.t rfl)) ?_)
      refine ovr (pN (seq (draw' (by kernel_rfl) ?_)))
      refine tk 0 rfl (fA 4 (.t rfl)) ?_
      refine tk 1 rfl (Ev.ldx c.mirrors ty26 (.t rfl) SConf.l_mirrors) ?_
      refine tk 2 rfl (fA 2 (.t rfl)) ?_
      refine tk 3 rfl (Ev.ldx c.rules ty24 (.t rfl) SConf.l_rules) ?_
      refine al1 4 rfl ((calln (X := Nat) (fun _ => True) (fun b => .map (some b)) (fun b => [MapR b sE iE (firstN eqs (fun a : SRule => a.mirror) l.us l.us.length)]) en97 (.cons (.t rfl) (.cons .f .nil)) (fun w I => first_9_76 101 [] _ _ l.us w en101 (hc.keep0 I.keeps).us (skey4_at _ w)) (fun m2 _ => ?_)))
      refine hdn (al1 5 rfl ((callo en99 (.cons (.t rfl) (.cons .f (.cons (.t rfl) .nil))) (fun w I => unnamed_59 100 m2 _ _ _ l.xs w en100 (hc.keep0 I.keeps).xs (mapAt_own (by repeat first | exact mH | apply mT | apply mA) w I) (skey3_at _ w) (by omega)) (fun o2 => ?_))))
      refine hdn (tk 6 rfl (Ev.assign (.t rfl)) ?_)
      refine ovr (pN (sg (mv rfl (mv rfl (mv rfl (cons (callo en102 (.cons (.t rfl) .nil) (fun w I => dead_ok x1.1 (mtL l) w (hx1 hcomp w (fun r hr => (I.own r (by repeat first | exact List.mem_append_left _ hr | apply List.Mem.tail | (apply List.mem_append_right []; exact List.mem_append_left _ hr))).1)) (by rw [show (mtL l).length = l.us.length by simp [mtL]]; omega)) (fun v5 => ?_))))))))
      refine asn rfl (asn rfl (asn rfl (co (Ev.assign (.c (v := I 0) rfl)) ?_)))
      refine nP (ret (done rfl (.tmp rfl (.tmp rfl (.tmp rfl (.tmp rfl .nil)))) (fun w I => ?_)))
      refine retNP (o1, o2, v5) trivial ?_ ?_ w I
      · unfold spE; rw [hmay]; rfl
      · unfold spL; rw [hmay]; exact (by repeat first | exact SubP.nil | refine SubP.cons (by repeat first | exact Rem.head | apply Rem.tail) ?_)
theorem whereT_congr {p q : Nat → Bool} {n : Nat} (h : ∀ k, p k = q k) : whereT p n = whereT q n := by
  have e : p = q := funext h
  rw [e]
theorem any_idx {α : Type} (p : α → Bool) (l : List α) : decide (idxF p l < 0) = !l.any p := by
  rw [Bool.eq_iff_iff, decide_eq_true_iff, Bool.not_eq_true', List.any_eq_false]
  constructor
  · intro h x hx
    rw [idxF_neg h x hx]
    exact Bool.false_ne_true
  · intro h
    rcases Int.lt_or_le (idxF p l) 0 with g | g
    · exact g
    · obtain ⟨A, y, B, e1, e2, _⟩ := idx_split g
      exact absurd e2 (h y (by rw [e1]; simp))
theorem none_any (f : SRule → ByteArray) (l : List SRule) (k : ByteArray) : (findV eqs k (firstN eqs f l l.length)).isNone = !l.any (fun r => decide (f r = k)) := by
  have e := none_idx eqs_iff f l k
  simp only [eqs_dec] at e
  rw [e, any_idx]
def usedA (l : CL) (k : Nat) : Bool := l.us.any fun r => decide (r.meter = (l.ms.getD k eMeterConf.zero).name)
def usedB (l : CL) (k : Nat) : Bool := l.us.any fun r => decide (r.mirror = (l.xs.getD k eMirrorConf.zero).name)
theorem spareA_any (l : CL) : spareA l = whereT (fun k => !usedA l k) l.ms.length := whereT_congr fun k => none_any _ _ _
theorem spareB_any (l : CL) : spareB l = whereT (fun k => !usedB l k) l.xs.length := whereT_congr fun k => none_any _ _ _
theorem en103 : Gx.Enters Tryz.prog 103 := Gx.Enters.mk' (by kernel_rfl)
theorem rspare_ok (c : SConf) (l : CL) (w : World) (hc : ConfAt w c l) (hn : l.Names) (hz : l.n ≤ 4611686018427387904) : Calls Tryz.prog 30 #[eConf.val c] w (RetN w (fun _ : OV × OV × OV => True) (fun x => .tuple #[x.1.v, x.2.1.v, x.2.2.v, I (spE l c.default)]) (fun x => [OwnS x.1.v iE (spL l c.default (spareA l)) 3, OwnS x.2.1.v iE (spL l c.default (spareB l)) 3, OwnS x.2.2.v iE (spL l c.default (deadB (mtL l))) 3])) := by
  have hle := hc.us.le
  have hle2 := hc.ms.le
  have hle3 := hc.xs.le
  refine en0 111 Tryz.func30 ?_
  refine sg (cons (box (E := eConf) (.t rfl) (fun b1 => ?_)))
  refine co (Ev.assign (.c (v := (Go.Value.slice none 0 0)) rfl)) ?_
  refine co (Ev.assign (.c (v := (Go.Value.slice none 0 0)) rfl)) ?_
  refine co (Ev.assign (.c (v := (Go.Value.slice none 0 0)) rfl)) ?_
  refine co (Ev.assign (.c (v := I 0) rfl)) ?_
  refine nP (seq (sg (co (Ev.ldx c ty28 (.t rfl) (Lens.id _)) ?_)))
  refine cons (callv en89 (.cons (.t rfl) .nil) (fun w I => rmay_ok c l w (hc.keep0 I.keeps) hn hz) ?_)
  refine co (Ev.not (.t rfl)) ?_
  refine nP ?_
  first | refine condD rfl (fun h0 => ?_) (fun h0 => ?_) | refine cond rfl (fun h0 => ?_) (fun h0 => ?_)
  · have hmay : mayB l c.default = false := by simpa using h0
    refine seq (takeNil iE 3 ?_)
    refine takeNil iE 3 ?_
    refine takeNil iE 3 ?_
    refine region (co (Ev.assign (.c (v := (Go.Value.slice none 0 0)) rfl)) ?_)
    refine co (Ev.assign (.c (v := (Go.Value.slice none 0 0)) rfl)) ?_
    refine co (Ev.assign (.c (v := (Go.Value.slice none 0 0)) rfl)) ?_
    refine co (Ev.assign (.c (v := I 210) rfl)) ?_
    refine nP (ret (pR (done rfl (.tmp rfl (.tmp rfl (.tmp rfl (.tmp rfl .nil)))) (fun w I => ?_))))
    refine retNP (nilSl, nilSl, nilSl) trivial ?_ ?_ w I
    · unfold spE; rw [hmay]; rfl
    · unfold spL; rw [hmay]; exact (by repeat first | exact SubP.nil | refine SubP.cons (by repeat first | exact Rem.head | apply Rem.tail) ?_)
  · have hmay : mayB l c.default = true := by simpa using h0
    have hlens := may_lens hmay
    have hcomp := may_comp hmay
    refine skip (pN (sg (co (Ev.assign (.c (v := (Go.Value.slice none 0 0)) rfl)) ?_)))
    refine takeNil iE 3 ?_
    refine co (Ev.assign (.c (v := (Go.Value.slice none 0 0)) rfl)) ?_
    refine takeNil iE 3 ?_
    refine nP (seq (sg (co (Ev.assign (.c (v := I 0) rfl)) ?_)))
    refine nP (block (lp (X := Int × OV × (List Int)) (fun x : Int × OV × (List Int) => (0 ≤ x.1 ∧ x.1 ≤ l.ms.length) ∧ (x.2.2 = whereT (fun k => !usedA l k) x.1.toNat)) (fun x : Int × OV × (List Int) => [(1, true, .pointer (some ⟨b1, 0, none⟩)), (6, true, x.2.1.v), (7, true, .slice none 0 0), (8, true, I x.1)]) (fun x : Int × OV × (List Int) => [OwnS (.slice none 0 0) iE [] 3, OwnS x.2.1.v iE x.2.2 3, Var b1 eConf c 28]) (fun x : Int × OV × (List Int) => ((l.ms.length : Int) - x.1).toNat) (0, nilSl, []) ⟨?_, ?_⟩ (fun x hx => ?_)))
    · omega
    · rfl
    obtain ⟨i, o, ds⟩ := x
    obtain ⟨hii, hdi⟩ : (0 ≤ i ∧ i ≤ l.ms.length) ∧ (ds = whereT (fun k => !usedA l k) i.toNat) := hx
    show Sat _ _ [(1, true, .pointer (some ⟨b1, 0, none⟩)), (6, true, o.v), (7, true, .slice none 0 0), (8, true, I i)] [OwnS (.slice none 0 0) iE [] 3, OwnS o.v iE ds 3, Var b1 eConf c 28]
    have hli := whereT_len (fun k => !usedA l k) i.toNat
    rw [← hdi] at hli
    refine seq (sg (mv rfl (co (fA 3 (.t rfl)) ?_)))
    refine co (Ev.ldx c.meters ty25 (.t rfl) SConf.l_meters) ?_
    refine co (Ev.len Tryz.underlying25 (.t rfl) (fun w I => (hc.keep0 I.keeps).ms)) ?_
    refine co (Ev.lss_i (.t rfl) (.t rfl)) ?_
    refine nP ?_
    first | refine condD rfl (fun h1 => ?_) (fun h1 => ?_) | refine cond rfl (fun h1 => ?_) (fun h1 => ?_)
    · try simp only [nb] at h1
      refine skip (pN (seq (block (sg (co (Ev.assign (.c (v := .bool false) rfl)) ?_)))))
      refine nP (seq (sg (co (Ev.assign (.c (v := I 0) rfl)) ?_)))
      refine nP (block (lp (X := Int × Bool) (fun x : Int × Bool => (0 ≤ x.1 ∧ x.1 ≤ l.us.length) ∧ (x.2 = (l.us.take x.1.toNat).any (fun r : SRule => decide (r.meter = (l.ms.getD i.toNat eMeterConf.zero).name)))) (fun x : Int × Bool => [(1, true, .pointer (some ⟨b1, 0, none⟩)), (6, true, o.v), (7, true, .slice none 0 0), (8, true, I i), (9, true, .bool x.2), (10, true, I x.1)]) (fun x : Int × Bool => [OwnS (.slice none 0 0) iE [] 3, OwnS o.v iE ds 3, Var b1 eConf c 28]) (fun x : Int × Bool => ((l.us.length : Int) - x.1).toNat) (0, false) ⟨?_, ?_⟩ (fun x hx => ?_)))
      · omega
      · rfl
      obtain ⟨j, d⟩ := x
      obtain ⟨hj, hdd⟩ : (0 ≤ j ∧ j ≤ l.us.length) ∧ (d = (l.us.take j.toNat).any (fun r : SRule => decide (r.meter = (l.ms.getD i.toNat eMeterConf.zero).name))) := hx
      show Sat _ _ [(1, true, .pointer (some ⟨b1, 0, none⟩)), (6, true, o.v), (7, true, .slice none 0 0), (8, true, I i), (9, true, .bool d), (10, true, I j)] [OwnS (.slice none 0 0) iE [] 3, OwnS o.v iE ds 3, Var b1 eConf c 28]
      refine seq (sg (mv rfl (co (fA 2 (.t rfl)) ?_)))
      refine co (Ev.ldx c.rules ty24 (.t rfl) SConf.l_rules) ?_
      refine co (Ev.len Tryz.underlying24 (.t rfl) (fun w I => (hc.keep0 I.keeps).us)) ?_
      refine co (Ev.lss_i (.t rfl) (.t rfl)) ?_
      refine nP ?_
      first | refine condD rfl (fun h2 => ?_) (fun h2 => ?_) | refine cond rfl (fun h2 => ?_) (fun h2 => ?_)
      · try simp only [nb] at h2
        refine skip (pN (seq (block (draw' (by kernel_rfl) ?_))))
        refine tk 0 rfl (Ev.move (.t rfl)) ?_
        refine tk 1 rfl (Ev.move (.t rfl)) ?_
        refine tkg 2 rfl rfl rfl (fA 2 (.t rfl)) ?_
        refine tkg 3 rfl rfl rfl (Ev.ldx c.rules ty24 (.g rfl id) SConf.l_rules) ?_
        refine tkg 4 rfl rfl rfl (Ev.move (.t rfl)) ?_
        refine tkg 5 rfl rfl rfl (Ev.indexAddr Tryz.underlying24 ty76 (.g rfl id) (.g rfl id) (fun w I => (hc.keep0 I.keeps).us) (fun _ => by first | omega | (rename_i hg; simp at hg; omega))) ?_
        refine tkg 6 rfl rfl rfl (Ev.fieldAddrS (o := 47) (i := j) (.g rfl id) (fun w I => (hc.keep0 I.keeps).us) (fun _ => by first | omega | (rename_i hg; simp at hg; omega)) (by kernel_rfl)) ?_
        refine tkg 7 rfl rfl rfl (Ev.loadS ty9 SRule.l_meter rfl (.g rfl id) (fun w I => (hc.keep0 I.keeps).us) (fun _ => by first | omega | (rename_i hg; simp at hg; omega))) ?_
        refine tkg 8 rfl rfl rfl (fA 3 (.t rfl)) ?_
        refine tkg 9 rfl rfl rfl (Ev.ldx c.meters ty25 (.g rfl id) SConf.l_meters) ?_
        refine tkg 10 rfl rfl rfl (Ev.move (.t rfl)) ?_
        refine tkg 11 rfl rfl rfl (Ev.indexAddr Tryz.underlying25 ty57 (.g rfl id) (.g rfl id) (fun w I => (hc.keep0 I.keeps).ms) (fun _ => by first | omega | (rename_i hg; simp at hg; omega))) ?_
        refine tkg 12 rfl rfl rfl (Ev.fieldAddrS (o := 0) (i := i) (.g rfl id) (fun w I => (hc.keep0 I.keeps).ms) (fun _ => by first | omega | (rename_i hg; simp at hg; omega)) (by kernel_rfl)) ?_
        refine tkg 13 rfl rfl rfl (Ev.loadS ty9 SMeterConf.l_name rfl (.g rfl id) (fun w I => (hc.keep0 I.keeps).ms) (fun _ => by first | omega | (rename_i hg; simp at hg; omega))) ?_
        refine tkg 14 rfl rfl rfl (Ev.eql_s (.g rfl id) (.g rfl id)) ?_
        refine tk 15 rfl (Ev.pkO (.t rfl) rfl) ?_
        refine tk 16 rfl (Ev.assign (.t rfl)) ?_
        refine ovr (bN (pN (region (mv rfl (co (Ev.add_i (.t rfl) (.c (v := I 1) rfl) (fun _ => by omega)) ?_)))))
        refine asn rfl (nP (nx (X := Int × Bool) (j + 1, _) ⟨?_, ?_⟩ ?_))
        · try dsimp only
          omega
        · try dsimp only
          rw [take_snoc l.us j hj.1 (by omega) eRule.zero, List.any_append, ← hdd]
          cases d <;> simp
        · try dsimp only
          omega
      · try simp only [nb] at h2
        have hdu : d = usedA l i.toNat := by
          rw [hdd, List.take_of_length_le (by omega)]; rfl
        refine exit (pX (pX (bX (pN (sg (mv rfl (co (Ev.not (.t rfl)) ?_)))))))
        refine nP ?_
        first | refine condD rfl (fun h3 => ?_) (fun h3 => ?_) | refine cond rfl (fun h3 => ?_) (fun h3 => ?_)
        · have hst : whereT (fun k => !usedA l k) (i + 1).toNat = whereT (fun k => !usedA l k) i.toNat ++ [i] := whereT_yes (p := (fun k => !usedA l k)) hii.1 (by show (!usedA l i.toNat) = true; rw [← hdu]; exact h3)
          refine region (mv rfl (mv rfl (cons (buildSlice (E := iE) Tryz.underlying22 ty3 z3 (.cons (.t rfl) .nil) rfl rfl (fun v2 => ?_)))))
          refine cons (app (E := iE) Tryz.underlying22 ty3 zb3 zs3 (.t rfl) (.t rfl) (fun v3 => ?_) (hby := ⟨by (show _ ≤ 9223372036854775807); first | omega | (simp; done) | (simp; omega), by first | omega | (simp; done) | (simp; omega)⟩))
          refine asn rfl (nil (bN (pN (region (mv rfl (co (Ev.add_i (.t rfl) (.c (v := I 1) rfl) (fun _ => by omega)) ?_))))))
          refine asn rfl (nP (nx (X := Int × OV × (List Int)) (i + 1, _, _) ⟨?_, ?_⟩ ?_))
          · try dsimp only
            omega
          · try dsimp only
            rw [hst, ← hdi]
          · try dsimp only
            omega
        · have hst : whereT (fun k => !usedA l k) (i + 1).toNat = whereT (fun k => !usedA l k) i.toNat := whereT_no (p := (fun k => !usedA l k)) hii.1 (by show (!usedA l i.toNat) = false; rw [← hdu]; exact h3)
          refine skip (bN (pN (region (mv rfl (co (Ev.add_i (.t rfl) (.c (v := I 1) rfl) (fun _ => by omega)) ?_)))))
          refine asn rfl (nP (nx (X := Int × OV × (List Int)) (i + 1, _, _) ⟨?_, ?_⟩ ?_))
          · try dsimp only
            omega
          · try dsimp only
            rw [hst, ← hdi]
          · try dsimp only
            omega
    · try simp only [nb] at h1
      refine exit (pX (pX (bX (pN (seq (sg (co (Ev.assign (.c (v := I 0) rfl)) ?_)))))))
      refine nP (block (lp (X := Int × OV × (List Int)) (fun x : Int × OV × (List Int) => (0 ≤ x.1 ∧ x.1 ≤ l.xs.length) ∧ (x.2.2 = whereT (fun k => !usedB l k) x.1.toNat)) (fun x : Int × OV × (List Int) => [(1, true, .pointer (some ⟨b1, 0, none⟩)), (6, true, o.v), (7, true, x.2.1.v), (11, true, I x.1)]) (fun x : Int × OV × (List Int) => [OwnS x.2.1.v iE x.2.2 3, OwnS o.v iE ds 3, Var b1 eConf c 28]) (fun x : Int × OV × (List Int) => ((l.xs.length : Int) - x.1).toNat) (0, nilSl, []) ⟨?_, ?_⟩ (fun x hx => ?_)))
      · omega
      · rfl
      obtain ⟨i2, q, es⟩ := x
      obtain ⟨hii2, hdi2⟩ : (0 ≤ i2 ∧ i2 ≤ l.xs.length) ∧ (es = whereT (fun k => !usedB l k) i2.toNat) := hx
      show Sat _ _ [(1, true, .pointer (some ⟨b1, 0, none⟩)), (6, true, o.v), (7, true, q.v), (11, true, I i2)] [OwnS q.v iE es 3, OwnS o.v iE ds 3, Var b1 eConf c 28]
      have hli2 := whereT_len (fun k => !usedB l k) i2.toNat
      rw [← hdi2] at hli2
      refine seq (sg (mv rfl (co (fA 4 (.t rfl)) ?_)))
      refine co (Ev.ldx c.mirrors ty26 (.t rfl) SConf.l_mirrors) ?_
      refine co (Ev.len Tryz.underlying26 (.t rfl) (fun w I => (hc.keep0 I.keeps).xs)) ?_
      refine co (Ev.lss_i (.t rfl) (.t rfl)) ?_
      refine nP ?_
      first | refine condD rfl (fun h4 => ?_) (fun h4 => ?_) | refine cond rfl (fun h4 => ?_) (fun h4 => ?_)
      · try simp only [nb] at h4
        refine skip (pN (seq (block (sg (co (Ev.assign (.c (v := .bool false) rfl)) ?_)))))
        refine nP (seq (sg (co (Ev.assign (.c (v := I 0) rfl)) ?_)))
        refine nP (block (lp (X := Int × Bool) (fun x : Int × Bool => (0 ≤ x.1 ∧ x.1 ≤ l.us.length) ∧ (x.2 = (l.us.take x.1.toNat).any (fun r : SRule => decide (r.mirror = (l.xs.getD i2.toNat eMirrorConf.zero).name)))) (fun x : Int × Bool => [(1, true, .pointer (some ⟨b1, 0, none⟩)), (6, true, o.v), (7, true, q.v), (11, true, I i2), (12, true, .bool x.2), (13, true, I x.1)]) (fun x : Int × Bool => [OwnS q.v iE es 3, OwnS o.v iE ds 3, Var b1 eConf c 28]) (fun x : Int × Bool => ((l.us.length : Int) - x.1).toNat) (0, false) ⟨?_, ?_⟩ (fun x hx => ?_)))
        · omega
        · rfl
        obtain ⟨j, d⟩ := x
        obtain ⟨hj, hdd⟩ : (0 ≤ j ∧ j ≤ l.us.length) ∧ (d = (l.us.take j.toNat).any (fun r : SRule => decide (r.mirror = (l.xs.getD i2.toNat eMirrorConf.zero).name))) := hx
        show Sat _ _ [(1, true, .pointer (some ⟨b1, 0, none⟩)), (6, true, o.v), (7, true, q.v), (11, true, I i2), (12, true, .bool d), (13, true, I j)] [OwnS q.v iE es 3, OwnS o.v iE ds 3, Var b1 eConf c 28]
        refine seq (sg (mv rfl (co (fA 2 (.t rfl)) ?_)))
        refine co (Ev.ldx c.rules ty24 (.t rfl) SConf.l_rules) ?_
        refine co (Ev.len Tryz.underlying24 (.t rfl) (fun w I => (hc.keep0 I.keeps).us)) ?_
        refine co (Ev.lss_i (.t rfl) (.t rfl)) ?_
        refine nP ?_
        first | refine condD rfl (fun h5 => ?_) (fun h5 => ?_) | refine cond rfl (fun h5 => ?_) (fun h5 => ?_)
        · try simp only [nb] at h5
          refine skip (pN (seq (block (draw' (by kernel_rfl) ?_))))
          refine tk 0 rfl (Ev.move (.t rfl)) ?_
          refine tk 1 rfl (Ev.move (.t rfl)) ?_
          refine tkg 2 rfl rfl rfl (fA 2 (.t rfl)) ?_
          refine tkg 3 rfl rfl rfl (Ev.ldx c.rules ty24 (.g rfl id) SConf.l_rules) ?_
          refine tkg 4 rfl rfl rfl (Ev.move (.t rfl)) ?_
          refine tkg 5 rfl rfl rfl (Ev.indexAddr Tryz.underlying24 ty76 (.g rfl id) (.g rfl id) (fun w I => (hc.keep0 I.keeps).us) (fun _ => by first | omega | (rename_i hg; simp at hg; omega))) ?_
          refine tkg 6 rfl rfl rfl (Ev.fieldAddrS (o := 48) (i := j) (.g rfl id) (fun w I => (hc.keep0 I.keeps).us) (fun _ => by first | omega | (rename_i hg; simp at hg; omega)) (by kernel_rfl)) ?_
          refine tkg 7 rfl rfl rfl (Ev.loadS ty9 SRule.l_mirror rfl (.g rfl id) (fun w I => (hc.keep0 I.keeps).us) (fun _ => by first | omega | (rename_i hg; simp at hg; omega))) ?_
          refine tkg 8 rfl rfl rfl (fA 4 (.t rfl)) ?_
          refine tkg 9 rfl rfl rfl (Ev.ldx c.mirrors ty26 (.g rfl id) SConf.l_mirrors) ?_
          refine tkg 10 rfl rfl rfl (Ev.move (.t rfl)) ?_
          refine tkg 11 rfl rfl rfl (Ev.indexAddr Tryz.underlying26 ty59 (.g rfl id) (.g rfl id) (fun w I => (hc.keep0 I.keeps).xs) (fun _ => by first | omega | (rename_i hg; simp at hg; omega))) ?_
          refine tkg 12 rfl rfl rfl (Ev.fieldAddrS (o := 0) (i := i2) (.g rfl id) (fun w I => (hc.keep0 I.keeps).xs) (fun _ => by first | omega | (rename_i hg; simp at hg; omega)) (by kernel_rfl)) ?_
          refine tkg 13 rfl rfl rfl (Ev.loadS ty9 SMirrorConf.l_name rfl (.g rfl id) (fun w I => (hc.keep0 I.keeps).xs) (fun _ => by first | omega | (rename_i hg; simp at hg; omega))) ?_
          refine tkg 14 rfl rfl rfl (Ev.eql_s (.g rfl id) (.g rfl id)) ?_
          refine tk 15 rfl (Ev.pkO (.t rfl) rfl) ?_
          refine tk 16 rfl (Ev.assign (.t rfl)) ?_
          refine ovr (bN (pN (region (mv rfl (co (Ev.add_i (.t rfl) (.c (v := I 1) rfl) (fun _ => by omega)) ?_)))))
          refine asn rfl (nP (nx (X := Int × Bool) (j + 1, _) ⟨?_, ?_⟩ ?_))
          · try dsimp only
            omega
          · try dsimp only
            rw [take_snoc l.us j hj.1 (by omega) eRule.zero, List.any_append, ← hdd]
            cases d <;> simp
          · try dsimp only
            omega
        · try simp only [nb] at h5
          have hdu : d = usedB l i2.toNat := by
            rw [hdd, List.take_of_length_le (by omega)]; rfl
          refine exit (pX (pX (bX (pN (sg (mv rfl (co (Ev.not (.t rfl)) ?_)))))))
          refine nP ?_
          first | refine condD rfl (fun h6 => ?_) (fun h6 => ?_) | refine cond rfl (fun h6 => ?_) (fun h6 => ?_)
          · have hst : whereT (fun k => !usedB l k) (i2 + 1).toNat = whereT (fun k => !usedB l k) i2.toNat ++ [i2] := whereT_yes (p := (fun k => !usedB l k)) hii2.1 (by show (!usedB l i2.toNat) = true; rw [← hdu]; exact h6)
            refine region (mv rfl (mv rfl (cons (buildSlice (E := iE) Tryz.underlying22 ty3 z3 (.cons (.t rfl) .nil) rfl rfl (fun v4 => ?_)))))
            refine cons (app (E := iE) Tryz.underlying22 ty3 zb3 zs3 (.t rfl) (.t rfl) (fun v5 => ?_) (hby := ⟨by (show _ ≤ 9223372036854775807); first | omega | (simp; done) | (simp; omega), by first | omega | (simp; done) | (simp; omega)⟩))
            refine asn rfl (nil (bN (pN (region (mv rfl (co (Ev.add_i (.t rfl) (.c (v := I 1) rfl) (fun _ => by omega)) ?_))))))
            refine asn rfl (nP (nx (X := Int × OV × (List Int)) (i2 + 1, _, _) ⟨?_, ?_⟩ ?_))
            · try dsimp only
              omega
            · try dsimp only
              rw [hst, ← hdi2]
            · try dsimp only
              omega
          · have hst : whereT (fun k => !usedB l k) (i2 + 1).toNat = whereT (fun k => !usedB l k) i2.toNat := whereT_no (p := (fun k => !usedB l k)) hii2.1 (by show (!usedB l i2.toNat) = false; rw [← hdu]; exact h6)
            refine skip (bN (pN (region (mv rfl (co (Ev.add_i (.t rfl) (.c (v := I 1) rfl) (fun _ => by omega)) ?_)))))
            refine asn rfl (nP (nx (X := Int × OV × (List Int)) (i2 + 1, _, _) ⟨?_, ?_⟩ ?_))
            · try dsimp only
              omega
            · try dsimp only
              rw [hst, ← hdi2]
            · try dsimp only
              omega
      · try simp only [nb] at h4
        refine exit (pX (pX (bX (pN (sg (co (Ev.assign (.c (v := (Go.Value.slice none 0 0)) rfl)) ?_))))))
        refine takeNil eMatch 74 ?_
        refine nP (seq (sg (co (Ev.assign (.c (v := I 0) rfl)) ?_)))
        refine nP (block (lp (X := Int × OV) (fun x : Int × OV => (0 ≤ x.1 ∧ x.1 ≤ l.us.length)) (fun x : Int × OV => [(1, true, .pointer (some ⟨b1, 0, none⟩)), (6, true, o.v), (7, true, q.v), (14, true, x.2.v), (15, true, I x.1)]) (fun x : Int × OV => [OwnS x.2.v eMatch ((l.us.take x.1.toNat).map (fun r => r.match_)) 74, OwnS q.v iE es 3, OwnS o.v iE ds 3, Var b1 eConf c 28]) (fun x : Int × OV => ((l.us.length : Int) - x.1).toNat) (0, nilSl) ?_ (fun x hx => ?_)))
        · omega
        obtain ⟨k, mq⟩ := x
        have hk : 0 ≤ k ∧ k ≤ l.us.length := hx
        clear hx
        show Sat _ _ [(1, true, .pointer (some ⟨b1, 0, none⟩)), (6, true, o.v), (7, true, q.v), (14, true, mq.v), (15, true, I k)] [OwnS mq.v eMatch ((l.us.take k.toNat).map (fun r => r.match_)) 74, OwnS q.v iE es 3, OwnS o.v iE ds 3, Var b1 eConf c 28]
        have hql : ((l.us.take k.toNat).map (fun r => r.match_)).length ≤ 256 := by simp; omega
        refine seq (sg (mv rfl (co (fA 2 (.t rfl)) ?_)))
        refine co (Ev.ldx c.rules ty24 (.t rfl) SConf.l_rules) ?_
        refine co (Ev.len Tryz.underlying24 (.t rfl) (fun w I => (hc.keep0 I.keeps).us)) ?_
        refine co (Ev.lss_i (.t rfl) (.t rfl)) ?_
        refine nP ?_
        first | refine condD rfl (fun h7 => ?_) (fun h7 => ?_) | refine cond rfl (fun h7 => ?_) (fun h7 => ?_)
        · try simp only [nb] at h7
          refine skip (pN (seq (block (region (mv rfl (co (fA 2 (.t rfl)) ?_))))))
          refine co (Ev.ldx c.rules ty24 (.t rfl) SConf.l_rules) ?_
          refine mv rfl (co (Ev.indexAddr Tryz.underlying24 ty76 (.t rfl) (.t rfl) (fun w I => (hc.keep0 I.keeps).us) (fun _ => by omega)) ?_)
          refine co (Ev.fieldAddrS (o := 1) (i := k) (.t rfl) (fun w I => (hc.keep0 I.keeps).us) (fun _ => by omega) (by kernel_rfl)) ?_
          refine co (Ev.loadS ty74 SRule.l_match_ rfl (.t rfl) (fun w I => (hc.keep0 I.keeps).us) (fun _ => by omega)) ?_
          refine cons (buildSlice (E := eMatch) Tryz.underlying143 ty74 z74 (.cons (.t rfl) .nil) rfl rfl (fun v6 => ?_))
          refine cons (app (E := eMatch) Tryz.underlying143 ty74 zb74 zs74 (.t rfl) (.t rfl) (fun v7 => ?_) (hby := ⟨by (show _ ≤ 9223372036854775807); first | omega | (simp; done) | (simp; omega), by first | omega | (simp; done) | (simp; omega)⟩))
          refine asn rfl (nil (bN (pN (region (mv rfl (co (Ev.add_i (.t rfl) (.c (v := I 1) rfl) (fun _ => by omega)) ?_))))))
          refine asn rfl (nP (nx (X := Int × OV) (k + 1, _) ?_ ?_ (hL := (by rw [take_snoc l.us k hk.1 (by omega) eRule.zero, List.map_append]; repeat first | exact sR | exact sN | apply sC | apply sS | apply sA))))
          · try dsimp only
            omega
          · try dsimp only
            omega
        · try simp only [nb] at h7
          refine exit (pX (pX (bX (pN (seq ?_)))))
          have hq : (l.us.take k.toNat).map (fun r => r.match_) = mtL l := by rw [List.take_of_length_le (by omega)]; rfl
          rw [hq]
          refine region (mv rfl (mv rfl (mv rfl (cons (callo en103 (.cons (.t rfl) .nil) (fun w I => rdead_ok _ (mtL l) w (by first | exact io w I | exact IsSl.keep0 (by assumption) I.keeps) (by rw [show (mtL l).length = l.us.length by simp [mtL]]; omega)) (fun v8 => ?_))))))
          refine asn rfl (asn rfl (asn rfl (co (Ev.assign (.c (v := I 0) rfl)) ?_)))
          refine nP (ret (done rfl (.tmp rfl (.tmp rfl (.tmp rfl (.tmp rfl .nil)))) (fun w I => ?_)))
          have ea : spareA l = ds := by rw [spareA_any, hdi]; congr 1; omega
          have eb : spareB l = es := by rw [spareB_any, hdi2]; congr 1; omega
          refine retNP (o, q, v8) trivial ?_ ?_ w I
          · unfold spE; rw [hmay]; rfl
          · unfold spL; rw [hmay, ea, eb]; exact (by repeat first | exact SubP.nil | refine SubP.cons (by repeat first | exact Rem.head | apply Rem.tail) ?_)
theorem en29 : Gx.Enters Tryz.prog 29 := Gx.Enters.mk' (by kernel_rfl)
theorem en30 : Gx.Enters Tryz.prog 30 := Gx.Enters.mk' (by kernel_rfl)
theorem en31 : Gx.Enters Tryz.prog 31 := Gx.Enters.mk' (by kernel_rfl)
theorem ConfSpares_walk (a : SConf) (l : CL) (w : World) (ha : ConfAt w a l) (hna : l.Names) : Calls Tryz.prog 7 #[eConf.val a] w (RetV w (.bool true)) := by
  have hsa := takeC_small l (n := 60) (by decide)
  refine en0 61 Tryz.func7 ?_
  refine sg (cons (box (E := eConf) (.t rfl) (fun b1 => ?_)))
  refine co (Ev.assign (.c (v := .bool false) rfl)) ?_
  refine nP (sg (co (Ev.ldx a ty28 (.t rfl) (Lens.id _)) ?_))
  refine cons (calln (X := CB) (fun _ => True) (fun x => eConf.val ((subC x (takeC l 60)).c a.default)) (fun x => x.R (markL (takeC l 60))) en10 (.cons (.t rfl) (.cons (.c (v := I 60) rfl) .nil)) (fun w I => cut_ok a l 60 w (ha.keep0 I.keeps) (by decide)) (fun x0 _ => ?_))
  refine cons (alloc z28 (fun b2 => ?_))
  refine cons (stv ty28 (Lens.id _) (.t rfl) (.t rfl) ?_)
  refine nP (sg (co (Ev.to (v' := eConf.val ((subC x0 (takeC l 60)).c a.default)) (Ev.ldv ty28 (.t rfl) (Lens.id _)) (rfl)) ?_))
  refine cons (calln (X := CB) (fun _ => True) (fun x => eConf.val (x.c a.default)) (fun x => x.R (takeC l 60)) en11 (.cons (.t rfl) .nil) (fun w I => rcopy_ok ((subC x0 (takeC l 60)).c a.default) (takeC l 60) w (mo5 (x := x0) (l := (takeC l 60)) w I) hsa) (fun y0 _ => ?_))
  refine cons (alloc z28 (fun b3 => ?_))
  refine cons (stv ty28 (Lens.id _) (.t rfl) (.t rfl) ?_)
  refine nP (sg (co (Ev.to (v' := eConf.val ((subC x0 (takeC l 60)).c a.default)) (Ev.ldv ty28 (.t rfl) (Lens.id _)) (rfl)) ?_))
  refine cons (calln (X := OV × OV × OV) (fun _ => True) (fun x => .tuple #[x.1.v, x.2.1.v, x.2.2.v, I (spE (takeC l 60) a.default)]) (fun x => [OwnS x.1.v iE (spL (takeC l 60) a.default (spareA (takeC l 60))) 3, OwnS x.2.1.v iE (spL (takeC l 60) a.default (spareB (takeC l 60))) 3, OwnS x.2.2.v iE (spL (takeC l 60) a.default (deadB (mtL (takeC l 60)))) 3]) en29 (.cons (.t rfl) .nil) (fun w I => spare_ok ((subC x0 (takeC l 60)).c a.default) (takeC l 60) w (mo5 (x := x0) (l := (takeC l 60)) w I) (takeC_names hna 60) hsa.n) (fun s1 _ => ?_))
  refine mv rfl (co (Ev.extract (.t rfl) rfl) (co (Ev.extract (.t rfl) rfl) (co (Ev.extract (.t rfl) rfl) (co (Ev.extract (.t rfl) rfl) (asn rfl (asn rfl (asn rfl (asn rfl (nP (sg (co (Ev.to (v' := eConf.val (y0.c a.default)) (Ev.ldv ty28 (.t rfl) (Lens.id _)) (rfl)) ?_)))))))))))
  refine cons (calln (X := OV × OV × OV) (fun _ => True) (fun x => .tuple #[x.1.v, x.2.1.v, x.2.2.v, I (spE (takeC l 60) a.default)]) (fun x => [OwnS x.1.v iE (spL (takeC l 60) a.default (spareA (takeC l 60))) 3, OwnS x.2.1.v iE (spL (takeC l 60) a.default (spareB (takeC l 60))) 3, OwnS x.2.2.v iE (spL (takeC l 60) a.default (deadB (mtL (takeC l 60)))) 3]) en30 (.cons (.t rfl) .nil) (fun w I => rspare_ok (y0.c a.default) (takeC l 60) w (co5 (x := y0) (l := (takeC l 60)) w I) (takeC_names hna 60) hsa.n) (fun s2 _ => ?_))
  refine mv rfl (co (Ev.extract (.t rfl) rfl) (co (Ev.extract (.t rfl) rfl) (co (Ev.extract (.t rfl) rfl) (co (Ev.extract (.t rfl) rfl) (asn rfl (asn rfl (asn rfl (asn rfl (nP (sg (mv rfl (mv rfl (co (Ev.to (v' := .bool true) (Ev.eql_i (.t rfl) (.t rfl)) (congrArg Value.bool (decide_eq_true rfl))) ?_)))))))))))))
  refine mv rfl (cg rfl rfl (Ev.move (.t rfl)) ?_)
  refine cg rfl rfl (Ev.move (.t rfl)) ?_
  refine cons (callg rfl rfl en31 (.cons (.g rfl id) (.cons (.g rfl id) .nil)) (fun hg w I => sameInts_ok _ _ _ _ w (io w I) (io w I)) ?_)
  refine co (Ev.to (v' := .bool true) (Ev.pkA (.t rfl) rfl) (congrArg Value.bool (decide_eq_true rfl))) ?_
  refine mv rfl (cg rfl rfl (Ev.move (.t rfl)) ?_)
  refine cg rfl rfl (Ev.move (.t rfl)) ?_
  refine cons (callg rfl rfl en31 (.cons (.g rfl id) (.cons (.g rfl id) .nil)) (fun hg w I => sameInts_ok _ _ _ _ w (io w I) (io w I)) ?_)
  refine co (Ev.to (v' := .bool true) (Ev.pkA (.t rfl) rfl) (congrArg Value.bool (decide_eq_true rfl))) ?_
  refine mv rfl (cg rfl rfl (Ev.move (.t rfl)) ?_)
  refine cg rfl rfl (Ev.move (.t rfl)) ?_
  refine cons (callg rfl rfl en31 (.cons (.g rfl id) (.cons (.g rfl id) .nil)) (fun hg w I => sameInts_ok _ _ _ _ w (io w I) (io w I)) ?_)
  refine co (Ev.to (v' := .bool true) (Ev.pkA (.t rfl) rfl) (congrArg Value.bool (decide_eq_true rfl))) ?_
  refine mv rfl (cg rfl rfl (Ev.to (v' := eConf.val ((subC x0 (takeC l 60)).c a.default)) (Ev.ldv ty28 (.t rfl) (Lens.id _)) (rfl)) ?_)
  refine cg rfl rfl (Ev.to (v' := eConf.val (y0.c a.default)) (Ev.ldv ty28 (.t rfl) (Lens.id _)) (rfl)) ?_
  refine cons (callg rfl rfl en17 (.cons (.g rfl id) (.cons (.g rfl id) .nil)) (fun hg w I => rexact_ok ((subC x0 (takeC l 60)).c a.default) (y0.c a.default) (takeC l 60) (takeC l 60) w (mo5 (x := x0) (l := (takeC l 60)) w I) (co5 (x := y0) (l := (takeC l 60)) w I)) ?_)
  refine co (Ev.to (v' := .bool true) (Ev.pkA (.t rfl) rfl) (congrArg Value.bool (exactB_self (takeC l 60) a.default))) ?_
  refine mv rfl (cg rfl rfl (Ev.to (v' := eConf.val ((subC x0 (takeC l 60)).c a.default)) (Ev.ldv ty28 (.t rfl) (Lens.id _)) (rfl)) ?_)
  refine cons (callg rfl rfl en19 (.cons (.g rfl id) .nil) (fun hg w I => marked_ok x0 (takeC l 60) a.default w (co5 (x := x0) (l := (markL (takeC l 60))) w I)) ?_)
  refine co (Ev.to (v' := .bool true) (Ev.pkA (.t rfl) rfl) (rfl)) ?_
  refine mv rfl (cons (callg rfl rfl en20 .nil (fun hg w I => works_ok w) ?_))
  refine co (Ev.to (v' := .bool true) (Ev.pkA (.t rfl) rfl) (rfl)) ?_
  refine asn rfl (nP (ret (done rfl (.tmp rfl .nil) (retE ?_))))
  rfl
end Go.Proofs.YtnoobdijbpmjkaaGreat
