/- Part of the texts. -/
import Derived.Test.YtnoobdijbpmjkaaGreatM4
set_option linter.unusedVariables false
set_option linter.unusedSimpArgs false
/- conf -/
namespace Go.Proofs.YtnoobdijbpmjkaaGreat
open Go Go.Gx

theorem none_count {α : Type} {q : α → α → Bool} (hi : ∀ x y, q x y = true ↔ x = y) (l : List α) (x : α) : (findV q x (firstN q (fun a => a) l l.length)).isNone = decide (l.countP (q x) = 0) := by
  rw [find_all hi]
  rw [Bool.eq_iff_iff, decide_eq_true_iff, Option.isNone_iff_eq_none, Option.map_eq_none_iff, List.findIdx?_eq_none_iff, List.countP_eq_zero]
  constructor
  · intro h y hy hq
    have := h y hy
    rw [(hi _ _).2 ((hi _ _).1 hq).symm] at this
    cases this
  · intro h y hy
    rw [Bool.eq_false_iff]
    intro hq
    exact h y hy ((hi _ _).2 ((hi _ _).1 hq).symm)
theorem none_idx {α κ : Type} {q : κ → κ → Bool} (hi : ∀ x y, q x y = true ↔ x = y) (f : α → κ) (l : List α) (k : κ) : (findV q k (firstN q f l l.length)).isNone = decide (idxF (fun x => q (f x) k) l < 0) := by
  have h := find_idx hi f l k
  rw [Bool.eq_iff_iff, decide_eq_true_iff, Option.isNone_iff_eq_none, ← Option.not_isSome_iff_eq_none, h]
  simp
theorem none_port (l : CL) (p : Int) : (findV eqd p (portsM l)).isNone = !portB l p := by
  unfold portB
  cases findV eqd p (portsM l) <;> rfl
structure CL.Few (l : CL) : Prop where
  ps : l.ps.length ≤ 2000
  rs : l.rs.length ≤ 2000
  us : l.us.length ≤ 2000
  ms : l.ms.length ≤ 2000
  xs : l.xs.length ≤ 2000
theorem may_few {l : CL} {d : Int} (h : mayB l d = true) : l.Few := by
  obtain ⟨h1, h2, h3, h4, h5⟩ := may_lens h
  exact ⟨by omega, by omega, by omega, by omega, by omega⟩

theorem rmay_ok (c : SConf) (l : CL) (w : World) (hc : ConfAt w c l) (hn : l.Names) (hz : l.n ≤ 4611686018427387904) : Calls Tryz.prog 89 #[eConf.val c] w (RetV w (.bool (mayB l c.default))) := by
  refine enter0 7 Tryz.func89 rfl rfl (Nat.le_of_ble_eq_true rfl) ?_
  refine seq (region (cons (box (E := eConf) (.t rfl) (fun b1 => ?_))))
  refine cons (opv (Ev.assign (.c (v := .bool false) rfl)) ?_)
  refine nil (pN (seq (region (cons (opv (Ev.ldx c ty28 (.t rfl) (Lens.id _)) ?_)))))
  refine cons (callo en13 (.cons (.t rfl) .nil) (fun w I => rcheck_conf c l w (hc.keep0 I.keeps) hn hz) (fun v2 => ?_))
  refine cons (opv (Ev.len Tryz.underlying31 (.t rfl) (by first | exact isSl_own (by repeat first | exact mH | apply mT | apply mA) | exact fun w I => IsSl.keep0 (by assumption) I.keeps)) ?_)
  refine cons (opv (Ev.eql_i (.t rfl) (.c (v := I 0) rfl)) ?_)
  refine cons (opv (Ev.assign (.t rfl)) (nil (pN (ret (done rfl (.tmp rfl .nil) (retE ?_))))))
  unfold mayB
  refine congrArg Value.bool ?_
  rw [Bool.eq_iff_iff, decide_eq_true_iff, decide_eq_true_iff, ← List.length_eq_zero_iff]
  omega

theorem rsets_ok (a b : SConf) (l k : CL) (w : World) (ha : ConfAt w a l) (hb : ConfAt w b k) (hl : l.Few) (hk : k.Few) : Calls Tryz.prog 90 #[eConf.val a, eConf.val b] w (RetO w eChange (((([] ++ goneL eqd (fun a => a) (portsM l) (fun x => chPort 1 x) k.ps) ++ goneL SMeterConf.eqb (fun a => a) (firstN SMeterConf.eqb (fun a => a) l.ms l.ms.length) (fun x => chMeter 5 x) k.ms) ++ goneL SMirrorConf.eqb (fun a => a) (firstN SMirrorConf.eqb (fun a => a) l.xs l.xs.length) (fun x => chMirror 7 x) k.xs) ++ goneL SRoute.eqb (fun a => a) (firstN SRoute.eqb (fun a => a) l.rs l.rs.length) (fun x => chRoute 3 x) k.rs) 61) := by
  obtain ⟨hl1, hl2, hl3, hl4, hl5⟩ := hl
  obtain ⟨hk1, hk2, hk3, hk4, hk5⟩ := hk
  refine enter0 110 Tryz.func90 rfl rfl (Nat.le_of_ble_eq_true rfl) ?_
  refine seq (region (cons (box (E := eConf) (.t rfl) (fun b1 => ?_))))
  refine cons (box (E := eConf) (.t rfl) (fun b2 => ?_))
  refine cons (opv (Ev.assign (.c (v := (Go.Value.slice none 0 0)) rfl)) ?_)
  refine nil (pN (seq (takeNil eChange 61 ?_)))
  refine region (cons (opv (Ev.assign (.c (v := (Go.Value.slice none 0 0)) rfl)) ?_))
  refine takeNil eChange 61 ?_
  refine nil (pN (seq (seq (region (cons (opv (Ev.assign (.c (v := I 0) rfl)) ?_))))))
  refine nil (pN (block (lp (X := Int × OV) (fun x : Int × OV => (0 ≤ x.1 ∧ x.1 ≤ k.ps.length)) (fun x : Int × OV => [(2, true, .pointer (some ⟨b1, 0, none⟩)), (3, true, .pointer (some ⟨b2, 0, none⟩)), (5, true, x.2.v), (6, true, I x.1)]) (fun x : Int × OV => [OwnS x.2.v eChange ([] ++ goneL eqd (fun a => a) (portsM l) (fun x => chPort 1 x) (k.ps.take x.1.toNat)) 61, Var b2 eConf b 28, Var b1 eConf a 28]) (fun x : Int × OV => (k.ps.length - x.1).toNat) (0, nilSl) ?_ (fun x hx => ?_) (hL := (by simp only [show (0 : Int).toNat = 0 from rfl, List.take_zero, goneL, List.filter_nil, List.map_nil, List.append_nil]; repeat first | exact sR | exact sN | apply sC | apply sS | apply sA)))))
  · omega
  obtain ⟨i0, q0⟩ := x
  have hi0 : 0 ≤ i0 ∧ i0 ≤ k.ps.length := hx
  clear hx
  show Sat _ _ [(2, true, .pointer (some ⟨b1, 0, none⟩)), (3, true, .pointer (some ⟨b2, 0, none⟩)), (5, true, q0.v), (6, true, I i0)] [OwnS q0.v eChange ([] ++ goneL eqd (fun a => a) (portsM l) (fun x => chPort 1 x) (k.ps.take i0.toNat)) 61, Var b2 eConf b 28, Var b1 eConf a 28]
  refine seq (seq (region (cons (opv (Ev.move (.t rfl)) (cons (opv (Ev.fieldAddr (o := 0) (.t rfl) (by kernel_rfl)) ?_))))))
  refine cons (opv (Ev.ldx b.ports ty22 (.t rfl) SConf.l_ports) ?_)
  refine cons (opv (Ev.len Tryz.underlying22 (.t rfl) (fun w I => (hb.keep0 I.keeps).ps)) ?_)
  refine cons (opv (Ev.lss_i (.t rfl) (.t rfl)) ?_)
  refine nil (pN ?_)
  first | refine condD rfl (fun h0 => ?_) (fun h0 => ?_) | refine cond rfl (fun h0 => ?_) (fun h0 => ?_)
  · try simp only [nb] at h0
    refine skip (pN (seq (block (seq (draw' (by kernel_rfl) ?_)))))
    refine tk 0 rfl (Ev.ldx a ty28 (.t rfl) (Lens.id _)) ?_
    refine tk 1 rfl (Ev.fieldAddr (o := 0) (.t rfl) (by kernel_rfl)) ?_
    refine tk 2 rfl (Ev.ldx b.ports ty22 (.t rfl) SConf.l_ports) ?_
    refine tk 3 rfl (Ev.move (.t rfl)) ?_
    refine tk 4 rfl (Ev.indexAddr Tryz.underlying22 ty3 (.t rfl) (.t rfl) (fun w I => (hb.keep0 I.keeps).ps) (fun _ => by omega)) ?_
    refine tk 5 rfl (Ev.loadS0 ty3 (.t rfl) (fun w I => (hb.keep0 I.keeps).ps) (fun _ => by omega)) ?_
    refine al1 6 rfl ((callv en124 (.cons (.t rfl) (.cons (.t rfl) .nil)) (fun w I => rport_ok a l _ w (ha.keep0 I.keeps)) ?_))
    refine hdn (tk 7 rfl (Ev.not (.t rfl)) ?_)
    refine ovr (pN ?_)
    first | refine condD rfl (fun h1 => ?_) (fun h1 => ?_) | refine cond rfl (fun h1 => ?_) (fun h1 => ?_)
    · have hst0 := goneL_step eqd (fun a => a) (portsM l) (fun x => chPort 1 x) k.ps iE.zero (i := i0) (by omega)
      have hcd0 : (findV eqd ((fun a => a) (k.ps.getD i0.toNat iE.zero)) (portsM l)).isNone = !portB l (k.ps.getD i0.toNat iE.zero) := by
        have e := none_port l (k.ps.getD i0.toNat iE.zero)
        exact e
      have hq0 : (findV eqd ((fun a => a) (k.ps.getD i0.toNat iE.zero)) (portsM l)).isNone = true := by
        rw [hcd0]
        first | exact h1 | exact decide_eq_true h1 | exact decide_eq_true (by omega)
      refine region (cons (opv (Ev.move (.t rfl)) (cons (opv (Ev.fieldAddr (o := 0) (.t rfl) (by kernel_rfl)) ?_))))
      refine cons (opv (Ev.ldx b.ports ty22 (.t rfl) SConf.l_ports) ?_)
      refine cons (opv (Ev.move (.t rfl)) (cons (opv (Ev.indexAddr Tryz.underlying22 ty3 (.t rfl) (.t rfl) (fun w I => (hb.keep0 I.keeps).ps) (fun _ => by omega)) ?_)))
      refine cons (opv (Ev.loadS0 ty3 (.t rfl) (fun w I => (hb.keep0 I.keeps).ps) (fun _ => by omega)) ?_)
      refine cons (opv (Ev.buildS (fs := _) (places := [(0, 1), (1, 1), (2, 19), (21, 4), (25, 3), (28, 1), (29, 1)]) z61 rfl Tryz.underlying61 (by kernel_rfl) (.cons (.c (v := I 1) rfl) (.cons (.t rfl) .nil)) (Fills.cons SChange.l_kind rfl (Fills.cons SChange.l_port rfl Fills.nil))) ?_)
      refine cons (buildSlice (E := eChange) Tryz.underlying41 ty61 z61 (.cons (.t rfl) .nil) rfl rfl (fun v3 => ?_))
      refine cons (app (E := eChange) Tryz.underlying41 ty61 zb61 zs61 (.t rfl) (.t rfl) (fun v4 => ?_) (hby := ⟨by (show _ ≤ 9223372036854775807); simp only [List.length_append, List.length_nil, List.length_cons];  have glx := goneL_len eqd (fun a => a) (portsM l) (fun x => chPort 1 x) (k.ps.take i0.toNat); rw [List.length_take] at glx; omega, by simp only [List.length_append, List.length_nil, List.length_cons];  have glx := goneL_len eqd (fun a => a) (portsM l) (fun x => chPort 1 x) (k.ps.take i0.toNat); rw [List.length_take] at glx; omega⟩))
      refine cons (opv (Ev.assign (.t rfl)) (nil (bN (pN (region (cons (opv (Ev.move (.t rfl)) (cons (opv (Ev.add_i (.t rfl) (.c (v := I 1) rfl) (fun _ => by omega)) ?_)))))))))
      refine cons (opv (Ev.assign (.t rfl)) (nil (pN (nx (X := Int × OV) (i0 + 1, _) ?_ ?_ (hL := (by rw [hst0]; (first | rw [if_pos hq0, ← List.append_assoc] | rw [if_neg hq0, List.append_nil]); repeat first | exact sR | exact sN | apply sC | apply sS | apply sA))))))
      · try dsimp only
        omega
      · try dsimp only
        omega
    · have hst0 := goneL_step eqd (fun a => a) (portsM l) (fun x => chPort 1 x) k.ps iE.zero (i := i0) (by omega)
      have hcd0 : (findV eqd ((fun a => a) (k.ps.getD i0.toNat iE.zero)) (portsM l)).isNone = !portB l (k.ps.getD i0.toNat iE.zero) := by
        have e := none_port l (k.ps.getD i0.toNat iE.zero)
        exact e
      have hq0 : ¬ (findV eqd ((fun a => a) (k.ps.getD i0.toNat iE.zero)) (portsM l)).isNone = true := by
        rw [hcd0]
        first | exact ne_true_of_eq_false h1 | exact fun e => h1 (of_decide_eq_true e) | exact fun e => absurd (of_decide_eq_true e) (by omega)
      refine skip (bN (pN (region (cons (opv (Ev.move (.t rfl)) (cons (opv (Ev.add_i (.t rfl) (.c (v := I 1) rfl) (fun _ => by omega)) ?_)))))))
      refine cons (opv (Ev.assign (.t rfl)) (nil (pN (nx (X := Int × OV) (i0 + 1, _) ?_ ?_ (hL := (by rw [hst0]; (first | rw [if_pos hq0, ← List.append_assoc] | rw [if_neg hq0, List.append_nil]); repeat first | exact sR | exact sN | apply sC | apply sS | apply sA))))))
      · try dsimp only
        omega
      · try dsimp only
        omega
  · try simp only [nb] at h0
    refine exit (pX (pX (bX (pN (seq (seq ?_))))))
    have et0 : k.ps.take i0.toNat = k.ps := List.take_of_length_le (by omega)
    rw [et0]
    refine region (cons (opv (Ev.assign (.c (v := I 0) rfl)) ?_))
    refine nil (pN (block (lp (X := Int × OV) (fun x : Int × OV => (0 ≤ x.1 ∧ x.1 ≤ k.ms.length)) (fun x : Int × OV => [(2, true, .pointer (some ⟨b1, 0, none⟩)), (3, true, .pointer (some ⟨b2, 0, none⟩)), (5, true, x.2.v), (7, true, I x.1)]) (fun x : Int × OV => [OwnS x.2.v eChange (([] ++ goneL eqd (fun a => a) (portsM l) (fun x => chPort 1 x) k.ps) ++ goneL SMeterConf.eqb (fun a => a) (firstN SMeterConf.eqb (fun a => a) l.ms l.ms.length) (fun x => chMeter 5 x) (k.ms.take x.1.toNat)) 61, Var b2 eConf b 28, Var b1 eConf a 28]) (fun x : Int × OV => (k.ms.length - x.1).toNat) (0, q0) ?_ (fun x hx => ?_) (hL := (by rw [show (0 : Int).toNat = 0 from rfl, List.take_zero]; (try rw [show goneL SMeterConf.eqb (fun a => a) (firstN SMeterConf.eqb (fun a => a) l.ms l.ms.length) (fun x => chMeter 5 x) [] = [] from rfl, List.append_nil]); repeat first | exact sR | exact sN | apply sC | apply sS | apply sA)))))
    · omega
    obtain ⟨i1, q1⟩ := x
    have hi1 : 0 ≤ i1 ∧ i1 ≤ k.ms.length := hx
    clear hx
    show Sat _ _ [(2, true, .pointer (some ⟨b1, 0, none⟩)), (3, true, .pointer (some ⟨b2, 0, none⟩)), (5, true, q1.v), (7, true, I i1)] [OwnS q1.v eChange (([] ++ goneL eqd (fun a => a) (portsM l) (fun x => chPort 1 x) k.ps) ++ goneL SMeterConf.eqb (fun a => a) (firstN SMeterConf.eqb (fun a => a) l.ms l.ms.length) (fun x => chMeter 5 x) (k.ms.take i1.toNat)) 61, Var b2 eConf b 28, Var b1 eConf a 28]
    refine seq (seq (region (cons (opv (Ev.move (.t rfl)) (cons (opv (Ev.fieldAddr (o := 3) (.t rfl) (by kernel_rfl)) ?_))))))
    refine cons (opv (Ev.ldx b.meters ty25 (.t rfl) SConf.l_meters) ?_)
    refine cons (opv (Ev.len Tryz.underlying25 (.t rfl) (fun w I => (hb.keep0 I.keeps).ms)) ?_)
    refine cons (opv (Ev.lss_i (.t rfl) (.t rfl)) ?_)
    refine nil (pN ?_)
    first | refine condD rfl (fun h2 => ?_) (fun h2 => ?_) | refine cond rfl (fun h2 => ?_) (fun h2 => ?_)
    · try simp only [nb] at h2
      refine skip (pN (seq (block (seq (draw' (by kernel_rfl) ?_)))))
      refine tk 0 rfl (Ev.fieldAddr (o := 3) (.t rfl) (by kernel_rfl)) ?_
      refine tk 1 rfl (Ev.ldx a.meters ty25 (.t rfl) SConf.l_meters) ?_
      refine tk 2 rfl (Ev.fieldAddr (o := 3) (.t rfl) (by kernel_rfl)) ?_
      refine tk 3 rfl (Ev.ldx b.meters ty25 (.t rfl) SConf.l_meters) ?_
      refine tk 4 rfl (Ev.move (.t rfl)) ?_
      refine tk 5 rfl (Ev.indexAddr Tryz.underlying25 ty57 (.t rfl) (.t rfl) (fun w I => (hb.keep0 I.keeps).ms) (fun _ => by omega)) ?_
      refine tk 6 rfl (Ev.loadS0 ty57 (.t rfl) (fun w I => (hb.keep0 I.keeps).ms) (fun _ => by omega)) ?_
      refine al1 7 rfl ((callv en61 (.cons (.t rfl) (.cons (.t rfl) .nil)) (fun w I => rmeters_n _ _ _ w ((ha.keep0 I.keeps).ms)) ?_))
      refine hdn (tk 8 rfl (Ev.eql_i (.t rfl) (.c (v := I 0) rfl)) ?_)
      refine ovr (pN ?_)
      first | refine condD rfl (fun h3 => ?_) (fun h3 => ?_) | refine cond rfl (fun h3 => ?_) (fun h3 => ?_)
      · have hst1 := goneL_step SMeterConf.eqb (fun a => a) (firstN SMeterConf.eqb (fun a => a) l.ms l.ms.length) (fun x => chMeter 5 x) k.ms eMeterConf.zero (i := i1) (by omega)
        have hcd1 : (findV SMeterConf.eqb ((fun a => a) (k.ms.getD i1.toNat eMeterConf.zero)) (firstN SMeterConf.eqb (fun a => a) l.ms l.ms.length)).isNone = decide (l.ms.countP (SMeterConf.eqb (k.ms.getD i1.toNat eMeterConf.zero)) = 0) := by
          have e := none_count SMeterConf.eqb_iff l.ms (k.ms.getD i1.toNat eMeterConf.zero)
          exact e
        have hq1 : (findV SMeterConf.eqb ((fun a => a) (k.ms.getD i1.toNat eMeterConf.zero)) (firstN SMeterConf.eqb (fun a => a) l.ms l.ms.length)).isNone = true := by
          rw [hcd1]
          first | exact h3 | exact decide_eq_true h3 | exact decide_eq_true (by omega)
        refine region (cons (opv (Ev.move (.t rfl)) (cons (opv (Ev.fieldAddr (o := 3) (.t rfl) (by kernel_rfl)) ?_))))
        refine cons (opv (Ev.ldx b.meters ty25 (.t rfl) SConf.l_meters) ?_)
        refine cons (opv (Ev.move (.t rfl)) (cons (opv (Ev.indexAddr Tryz.underlying25 ty57 (.t rfl) (.t rfl) (fun w I => (hb.keep0 I.keeps).ms) (fun _ => by omega)) ?_)))
        refine cons (opv (Ev.loadS0 ty57 (.t rfl) (fun w I => (hb.keep0 I.keeps).ms) (fun _ => by omega)) ?_)
        refine cons (opv (Ev.buildS (fs := _) (places := [(0, 1), (1, 1), (2, 19), (21, 4), (25, 3), (28, 1), (29, 1)]) z61 rfl Tryz.underlying61 (by kernel_rfl) (.cons (.c (v := I 5) rfl) (.cons (.t rfl) .nil)) (Fills.cons SChange.l_kind rfl (Fills.cons SChange.l_meter rfl Fills.nil))) ?_)
        refine cons (buildSlice (E := eChange) Tryz.underlying41 ty61 z61 (.cons (.t rfl) .nil) rfl rfl (fun v5 => ?_))
        refine cons (app (E := eChange) Tryz.underlying41 ty61 zb61 zs61 (.t rfl) (.t rfl) (fun v6 => ?_) (hby := ⟨by (show _ ≤ 9223372036854775807); simp only [List.length_append, List.length_nil, List.length_cons]; have gl0 := goneL_len eqd (fun a => a) (portsM l) (fun x => chPort 1 x) k.ps; have glx := goneL_len SMeterConf.eqb (fun a => a) (firstN SMeterConf.eqb (fun a => a) l.ms l.ms.length) (fun x => chMeter 5 x) (k.ms.take i1.toNat); rw [List.length_take] at glx; omega, by simp only [List.length_append, List.length_nil, List.length_cons]; have gl0 := goneL_len eqd (fun a => a) (portsM l) (fun x => chPort 1 x) k.ps; have glx := goneL_len SMeterConf.eqb (fun a => a) (firstN SMeterConf.eqb (fun a => a) l.ms l.ms.length) (fun x => chMeter 5 x) (k.ms.take i1.toNat); rw [List.length_take] at glx; omega⟩))
        refine cons (opv (Ev.assign (.t rfl)) (nil (bN (pN (region (cons (opv (Ev.move (.t rfl)) (cons (opv (Ev.add_i (.t rfl) (.c (v := I 1) rfl) (fun _ => by omega)) ?_)))))))))
        refine cons (opv (Ev.assign (.t rfl)) (nil (pN (nx (X := Int × OV) (i1 + 1, _) ?_ ?_ (hL := (by rw [hst1]; (first | rw [if_pos hq1, ← List.append_assoc] | rw [if_neg hq1, List.append_nil]); repeat first | exact sR | exact sN | apply sC | apply sS | apply sA))))))
        · try dsimp only
          omega
        · try dsimp only
          omega
      · have hst1 := goneL_step SMeterConf.eqb (fun a => a) (firstN SMeterConf.eqb (fun a => a) l.ms l.ms.length) (fun x => chMeter 5 x) k.ms eMeterConf.zero (i := i1) (by omega)
        have hcd1 : (findV SMeterConf.eqb ((fun a => a) (k.ms.getD i1.toNat eMeterConf.zero)) (firstN SMeterConf.eqb (fun a => a) l.ms l.ms.length)).isNone = decide (l.ms.countP (SMeterConf.eqb (k.ms.getD i1.toNat eMeterConf.zero)) = 0) := by
          have e := none_count SMeterConf.eqb_iff l.ms (k.ms.getD i1.toNat eMeterConf.zero)
          exact e
        have hq1 : ¬ (findV SMeterConf.eqb ((fun a => a) (k.ms.getD i1.toNat eMeterConf.zero)) (firstN SMeterConf.eqb (fun a => a) l.ms l.ms.length)).isNone = true := by
          rw [hcd1]
          first | exact ne_true_of_eq_false h3 | exact fun e => h3 (of_decide_eq_true e) | exact fun e => absurd (of_decide_eq_true e) (by omega)
        refine skip (bN (pN (region (cons (opv (Ev.move (.t rfl)) (cons (opv (Ev.add_i (.t rfl) (.c (v := I 1) rfl) (fun _ => by omega)) ?_)))))))
        refine cons (opv (Ev.assign (.t rfl)) (nil (pN (nx (X := Int × OV) (i1 + 1, _) ?_ ?_ (hL := (by rw [hst1]; (first | rw [if_pos hq1, ← List.append_assoc] | rw [if_neg hq1, List.append_nil]); repeat first | exact sR | exact sN | apply sC | apply sS | apply sA))))))
        · try dsimp only
          omega
        · try dsimp only
          omega
    · try simp only [nb] at h2
      refine exit (pX (pX (bX (pN (seq (seq ?_))))))
      have et1 : k.ms.take i1.toNat = k.ms := List.take_of_length_le (by omega)
      rw [et1]
      refine region (cons (opv (Ev.assign (.c (v := I 0) rfl)) ?_))
      refine nil (pN (block (lp (X := Int × OV) (fun x : Int × OV => (0 ≤ x.1 ∧ x.1 ≤ k.xs.length)) (fun x : Int × OV => [(2, true, .pointer (some ⟨b1, 0, none⟩)), (3, true, .pointer (some ⟨b2, 0, none⟩)), (5, true, x.2.v), (8, true, I x.1)]) (fun x : Int × OV => [OwnS x.2.v eChange ((([] ++ goneL eqd (fun a => a) (portsM l) (fun x => chPort 1 x) k.ps) ++ goneL SMeterConf.eqb (fun a => a) (firstN SMeterConf.eqb (fun a => a) l.ms l.ms.length) (fun x => chMeter 5 x) k.ms) ++ goneL SMirrorConf.eqb (fun a => a) (firstN SMirrorConf.eqb (fun a => a) l.xs l.xs.length) (fun x => chMirror 7 x) (k.xs.take x.1.toNat)) 61, Var b2 eConf b 28, Var b1 eConf a 28]) (fun x : Int × OV => (k.xs.length - x.1).toNat) (0, q1) ?_ (fun x hx => ?_) (hL := (by rw [show (0 : Int).toNat = 0 from rfl, List.take_zero]; (try rw [show goneL SMirrorConf.eqb (fun a => a) (firstN SMirrorConf.eqb (fun a => a) l.xs l.xs.length) (fun x => chMirror 7 x) [] = [] from rfl, List.append_nil]); repeat first | exact sR | exact sN | apply sC | apply sS | apply sA)))))
      · omega
      obtain ⟨i2, q2⟩ := x
      have hi2 : 0 ≤ i2 ∧ i2 ≤ k.xs.length := hx
      clear hx
      show Sat _ _ [(2, true, .pointer (some ⟨b1, 0, none⟩)), (3, true, .pointer (some ⟨b2, 0, none⟩)), (5, true, q2.v), (8, true, I i2)] [OwnS q2.v eChange ((([] ++ goneL eqd (fun a => a) (portsM l) (fun x => chPort 1 x) k.ps) ++ goneL SMeterConf.eqb (fun a => a) (firstN SMeterConf.eqb (fun a => a) l.ms l.ms.length) (fun x => chMeter 5 x) k.ms) ++ goneL SMirrorConf.eqb (fun a => a) (firstN SMirrorConf.eqb (fun a => a) l.xs l.xs.length) (fun x => chMirror 7 x) (k.xs.take i2.toNat)) 61, Var b2 eConf b 28, Var b1 eConf a 28]
      refine seq (seq (region (cons (opv (Ev.move (.t rfl)) (cons (opv (Ev.fieldAddr (o := 4) (.t rfl) (by kernel_rfl)) ?_))))))
      refine cons (opv (Ev.ldx b.mirrors ty26 (.t rfl) SConf.l_mirrors) ?_)
      refine cons (opv (Ev.len Tryz.underlying26 (.t rfl) (fun w I => (hb.keep0 I.keeps).xs)) ?_)
      refine cons (opv (Ev.lss_i (.t rfl) (.t rfl)) ?_)
      refine nil (pN ?_)
      first | refine condD rfl (fun h4 => ?_) (fun h4 => ?_) | refine cond rfl (fun h4 => ?_) (fun h4 => ?_)
      · try simp only [nb] at h4
        refine skip (pN (seq (block (seq (draw' (by kernel_rfl) ?_)))))
        refine tk 0 rfl (Ev.fieldAddr (o := 4) (.t rfl) (by kernel_rfl)) ?_
        refine tk 1 rfl (Ev.ldx a.mirrors ty26 (.t rfl) SConf.l_mirrors) ?_
        refine tk 2 rfl (Ev.fieldAddr (o := 4) (.t rfl) (by kernel_rfl)) ?_
        refine tk 3 rfl (Ev.ldx b.mirrors ty26 (.t rfl) SConf.l_mirrors) ?_
        refine tk 4 rfl (Ev.move (.t rfl)) ?_
        refine tk 5 rfl (Ev.indexAddr Tryz.underlying26 ty59 (.t rfl) (.t rfl) (fun w I => (hb.keep0 I.keeps).xs) (fun _ => by omega)) ?_
        refine tk 6 rfl (Ev.loadS0 ty59 (.t rfl) (fun w I => (hb.keep0 I.keeps).xs) (fun _ => by omega)) ?_
        refine al1 7 rfl ((callv en62 (.cons (.t rfl) (.cons (.t rfl) .nil)) (fun w I => rmirrors_n _ _ _ w ((ha.keep0 I.keeps).xs)) ?_))
        refine hdn (tk 8 rfl (Ev.eql_i (.t rfl) (.c (v := I 0) rfl)) ?_)
        refine ovr (pN ?_)
        first | refine condD rfl (fun h5 => ?_) (fun h5 => ?_) | refine cond rfl (fun h5 => ?_) (fun h5 => ?_)
        · have hst2 := goneL_step SMirrorConf.eqb (fun a => a) (firstN SMirrorConf.eqb (fun a => a) l.xs l.xs.length) (fun x => chMirror 7 x) k.xs eMirrorConf.zero (i := i2) (by omega)
          have hcd2 : (findV SMirrorConf.eqb ((fun a => a) (k.xs.getD i2.toNat eMirrorConf.zero)) (firstN SMirrorConf.eqb (fun a => a) l.xs l.xs.length)).isNone = decide (l.xs.countP (SMirrorConf.eqb (k.xs.getD i2.toNat eMirrorConf.zero)) = 0) := by
            have e := none_count SMirrorConf.eqb_iff l.xs (k.xs.getD i2.toNat eMirrorConf.zero)
            exact e
          have hq2 : (findV SMirrorConf.eqb ((fun a => a) (k.xs.getD i2.toNat eMirrorConf.zero)) (firstN SMirrorConf.eqb (fun a => a) l.xs l.xs.length)).isNone = true := by
            rw [hcd2]
            first | exact h5 | exact decide_eq_true h5 | exact decide_eq_true (by omega)
          refine region (cons (opv (Ev.move (.t rfl)) (cons (opv (Ev.fieldAddr (o := 4) (.t rfl) (by kernel_rfl)) ?_))))
          refine cons (opv (Ev.ldx b.mirrors ty26 (.t rfl) SConf.l_mirrors) ?_)
          refine cons (opv (Ev.move (.t rfl)) (cons (opv (Ev.indexAddr Tryz.underlying26 ty59 (.t rfl) (.t rfl) (fun w I => (hb.keep0 I.keeps).xs) (fun _ => by omega)) ?_)))
          refine cons (opv (Ev.loadS0 ty59 (.t rfl) (fun w I => (hb.keep0 I.keeps).xs) (fun _ => by omega)) ?_)
          refine cons (opv (Ev.buildS (fs := _) (places := [(0, 1), (1, 1), (2, 19), (21, 4), (25, 3), (28, 1), (29, 1)]) z61 rfl Tryz.underlying61 (by kernel_rfl) (.cons (.c (v := I 7) rfl) (.cons (.t rfl) .nil)) (Fills.cons SChange.l_kind rfl (Fills.cons SChange.l_mirror rfl Fills.nil))) ?_)
          refine cons (buildSlice (E := eChange) Tryz.underlying41 ty61 z61 (.cons (.t rfl) .nil) rfl rfl (fun v7 => ?_))
          refine cons (app (E := eChange) Tryz.underlying41 ty61 zb61 zs61 (.t rfl) (.t rfl) (fun v8 => ?_) (hby := ⟨by (show _ ≤ 9223372036854775807); simp only [List.length_append, List.length_nil, List.length_cons]; have gl0 := goneL_len eqd (fun a => a) (portsM l) (fun x => chPort 1 x) k.ps; have gl1 := goneL_len SMeterConf.eqb (fun a => a) (firstN SMeterConf.eqb (fun a => a) l.ms l.ms.length) (fun x => chMeter 5 x) k.ms; have glx := goneL_len SMirrorConf.eqb (fun a => a) (firstN SMirrorConf.eqb (fun a => a) l.xs l.xs.length) (fun x => chMirror 7 x) (k.xs.take i2.toNat); rw [List.length_take] at glx; omega, by simp only [List.length_append, List.length_nil, List.length_cons]; have gl0 := goneL_len eqd (fun a => a) (portsM l) (fun x => chPort 1 x) k.ps; have gl1 := goneL_len SMeterConf.eqb (fun a => a) (firstN SMeterConf.eqb (fun a => a) l.ms l.ms.length) (fun x => chMeter 5 x) k.ms; have glx := goneL_len SMirrorConf.eqb (fun a => a) (firstN SMirrorConf.eqb (fun a => a) l.xs l.xs.length) (fun x => chMirror 7 x) (k.xs.take i2.toNat); rw [List.length_take] at glx; omega⟩))
          refine cons (opv (Ev.assign (.t rfl)) (nil (bN (pN (region (cons (opv (Ev.move (.t rfl)) (cons (opv (Ev.add_i (.t rfl) (.c (v := I 1) rfl) (fun _ => by omega)) ?_)))))))))
          refine cons (opv (Ev.assign (.t rfl)) (nil (pN (nx (X := Int × OV) (i2 + 1, _) ?_ ?_ (hL := (by rw [hst2]; (first | rw [if_pos hq2, ← List.append_assoc] | rw [if_neg hq2, List.append_nil]); repeat first | exact sR | exact sN | apply sC | apply sS | apply sA))))))
          · try dsimp only
            omega
          · try dsimp only
            omega
        · have hst2 := goneL_step SMirrorConf.eqb (fun a => a) (firstN SMirrorConf.eqb (fun a => a) l.xs l.xs.length) (fun x => chMirror 7 x) k.xs eMirrorConf.zero (i := i2) (by omega)
          have hcd2 : (findV SMirrorConf.eqb ((fun a => a) (k.xs.getD i2.toNat eMirrorConf.zero)) (firstN SMirrorConf.eqb (fun a => a) l.xs l.xs.length)).isNone = decide (l.xs.countP (SMirrorConf.eqb (k.xs.getD i2.toNat eMirrorConf.zero)) = 0) := by
            have e := none_count SMirrorConf.eqb_iff l.xs (k.xs.getD i2.toNat eMirrorConf.zero)
            exact e
          have hq2 : ¬ (findV SMirrorConf.eqb ((fun a => a) (k.xs.getD i2.toNat eMirrorConf.zero)) (firstN SMirrorConf.eqb (fun a => a) l.xs l.xs.length)).isNone = true := by
            rw [hcd2]
            first | exact ne_true_of_eq_false h5 | exact fun e => h5 (of_decide_eq_true e) | exact fun e => absurd (of_decide_eq_true e) (by omega)
          refine skip (bN (pN (region (cons (opv (Ev.move (.t rfl)) (cons (opv (Ev.add_i (.t rfl) (.c (v := I 1) rfl) (fun _ => by omega)) ?_)))))))
          refine cons (opv (Ev.assign (.t rfl)) (nil (pN (nx (X := Int × OV) (i2 + 1, _) ?_ ?_ (hL := (by rw [hst2]; (first | rw [if_pos hq2, ← List.append_assoc] | rw [if_neg hq2, List.append_nil]); repeat first | exact sR | exact sN | apply sC | apply sS | apply sA))))))
          · try dsimp only
            omega
          · try dsimp only
            omega
      · try simp only [nb] at h4
        refine exit (pX (pX (bX (pN (seq (seq ?_))))))
        have et2 : k.xs.take i2.toNat = k.xs := List.take_of_length_le (by omega)
        rw [et2]
        refine region (cons (opv (Ev.assign (.c (v := I 0) rfl)) ?_))
        refine nil (pN (block (lp (X := Int × OV) (fun x : Int × OV => (0 ≤ x.1 ∧ x.1 ≤ k.rs.length)) (fun x : Int × OV => [(2, true, .pointer (some ⟨b1, 0, none⟩)), (3, true, .pointer (some ⟨b2, 0, none⟩)), (5, true, x.2.v), (9, true, I x.1)]) (fun x : Int × OV => [OwnS x.2.v eChange (((([] ++ goneL eqd (fun a => a) (portsM l) (fun x => chPort 1 x) k.ps) ++ goneL SMeterConf.eqb (fun a => a) (firstN SMeterConf.eqb (fun a => a) l.ms l.ms.length) (fun x => chMeter 5 x) k.ms) ++ goneL SMirrorConf.eqb (fun a => a) (firstN SMirrorConf.eqb (fun a => a) l.xs l.xs.length) (fun x => chMirror 7 x) k.xs) ++ goneL SRoute.eqb (fun a => a) (firstN SRoute.eqb (fun a => a) l.rs l.rs.length) (fun x => chRoute 3 x) (k.rs.take x.1.toNat)) 61, Var b2 eConf b 28, Var b1 eConf a 28]) (fun x : Int × OV => (k.rs.length - x.1).toNat) (0, q2) ?_ (fun x hx => ?_) (hL := (by rw [show (0 : Int).toNat = 0 from rfl, List.take_zero]; (try rw [show goneL SRoute.eqb (fun a => a) (firstN SRoute.eqb (fun a => a) l.rs l.rs.length) (fun x => chRoute 3 x) [] = [] from rfl, List.append_nil]); repeat first | exact sR | exact sN | apply sC | apply sS | apply sA)))))
        · omega
        obtain ⟨i3, q3⟩ := x
        have hi3 : 0 ≤ i3 ∧ i3 ≤ k.rs.length := hx
        clear hx
        show Sat _ _ [(2, true, .pointer (some ⟨b1, 0, none⟩)), (3, true, .pointer (some ⟨b2, 0, none⟩)), (5, true, q3.v), (9, true, I i3)] [OwnS q3.v eChange (((([] ++ goneL eqd (fun a => a) (portsM l) (fun x => chPort 1 x) k.ps) ++ goneL SMeterConf.eqb (fun a => a) (firstN SMeterConf.eqb (fun a => a) l.ms l.ms.length) (fun x => chMeter 5 x) k.ms) ++ goneL SMirrorConf.eqb (fun a => a) (firstN SMirrorConf.eqb (fun a => a) l.xs l.xs.length) (fun x => chMirror 7 x) k.xs) ++ goneL SRoute.eqb (fun a => a) (firstN SRoute.eqb (fun a => a) l.rs l.rs.length) (fun x => chRoute 3 x) (k.rs.take i3.toNat)) 61, Var b2 eConf b 28, Var b1 eConf a 28]
        refine seq (seq (region (cons (opv (Ev.move (.t rfl)) (cons (opv (Ev.fieldAddr (o := 1) (.t rfl) (by kernel_rfl)) ?_))))))
        refine cons (opv (Ev.ldx b.routes ty23 (.t rfl) SConf.l_routes) ?_)
        refine cons (opv (Ev.len Tryz.underlying23 (.t rfl) (fun w I => (hb.keep0 I.keeps).rs)) ?_)
        refine cons (opv (Ev.lss_i (.t rfl) (.t rfl)) ?_)
        refine nil (pN ?_)
        first | refine condD rfl (fun h6 => ?_) (fun h6 => ?_) | refine cond rfl (fun h6 => ?_) (fun h6 => ?_)
        · try simp only [nb] at h6
          refine skip (pN (seq (block (seq (draw' (by kernel_rfl) ?_)))))
          refine tk 0 rfl (Ev.fieldAddr (o := 1) (.t rfl) (by kernel_rfl)) ?_
          refine tk 1 rfl (Ev.ldx a.routes ty23 (.t rfl) SConf.l_routes) ?_
          refine tk 2 rfl (Ev.fieldAddr (o := 1) (.t rfl) (by kernel_rfl)) ?_
          refine tk 3 rfl (Ev.ldx b.routes ty23 (.t rfl) SConf.l_routes) ?_
          refine tk 4 rfl (Ev.move (.t rfl)) ?_
          refine tk 5 rfl (Ev.indexAddr Tryz.underlying23 ty52 (.t rfl) (.t rfl) (fun w I => (hb.keep0 I.keeps).rs) (fun _ => by omega)) ?_
          refine tk 6 rfl (Ev.loadS0 ty52 (.t rfl) (fun w I => (hb.keep0 I.keeps).rs) (fun _ => by omega)) ?_
          refine al1 7 rfl ((callv en60 (.cons (.t rfl) (.cons (.t rfl) .nil)) (fun w I => rroutes_n _ _ _ w ((ha.keep0 I.keeps).rs)) ?_))
          refine hdn (tk 8 rfl (Ev.eql_i (.t rfl) (.c (v := I 0) rfl)) ?_)
          refine ovr (pN ?_)
          first | refine condD rfl (fun h7 => ?_) (fun h7 => ?_) | refine cond rfl (fun h7 => ?_) (fun h7 => ?_)
          · have hst3 := goneL_step SRoute.eqb (fun a => a) (firstN SRoute.eqb (fun a => a) l.rs l.rs.length) (fun x => chRoute 3 x) k.rs eRoute.zero (i := i3) (by omega)
            have hcd3 : (findV SRoute.eqb ((fun a => a) (k.rs.getD i3.toNat eRoute.zero)) (firstN SRoute.eqb (fun a => a) l.rs l.rs.length)).isNone = decide (l.rs.countP (SRoute.eqb (k.rs.getD i3.toNat eRoute.zero)) = 0) := by
              have e := none_count SRoute.eqb_iff l.rs (k.rs.getD i3.toNat eRoute.zero)
              exact e
            have hq3 : (findV SRoute.eqb ((fun a => a) (k.rs.getD i3.toNat eRoute.zero)) (firstN SRoute.eqb (fun a => a) l.rs l.rs.length)).isNone = true := by
              rw [hcd3]
              first | exact h7 | exact decide_eq_true h7 | exact decide_eq_true (by omega)
            refine region (cons (opv (Ev.move (.t rfl)) (cons (opv (Ev.fieldAddr (o := 1) (.t rfl) (by kernel_rfl)) ?_))))
            refine cons (opv (Ev.ldx b.routes ty23 (.t rfl) SConf.l_routes) ?_)
            refine cons (opv (Ev.move (.t rfl)) (cons (opv (Ev.indexAddr Tryz.underlying23 ty52 (.t rfl) (.t rfl) (fun w I => (hb.keep0 I.keeps).rs) (fun _ => by omega)) ?_)))
            refine cons (opv (Ev.loadS0 ty52 (.t rfl) (fun w I => (hb.keep0 I.keeps).rs) (fun _ => by omega)) ?_)
            refine cons (opv (Ev.buildS (fs := _) (places := [(0, 1), (1, 1), (2, 19), (21, 4), (25, 3), (28, 1), (29, 1)]) z61 rfl Tryz.underlying61 (by kernel_rfl) (.cons (.c (v := I 3) rfl) (.cons (.t rfl) .nil)) (Fills.cons SChange.l_kind rfl (Fills.cons SChange.l_route rfl Fills.nil))) ?_)
            refine cons (buildSlice (E := eChange) Tryz.underlying41 ty61 z61 (.cons (.t rfl) .nil) rfl rfl (fun v9 => ?_))
            refine cons (app (E := eChange) Tryz.underlying41 ty61 zb61 zs61 (.t rfl) (.t rfl) (fun v10 => ?_) (hby := ⟨by (show _ ≤ 9223372036854775807); simp only [List.length_append, List.length_nil, List.length_cons]; have gl0 := goneL_len eqd (fun a => a) (portsM l) (fun x => chPort 1 x) k.ps; have gl1 := goneL_len SMeterConf.eqb (fun a => a) (firstN SMeterConf.eqb (fun a => a) l.ms l.ms.length) (fun x => chMeter 5 x) k.ms; have gl2 := goneL_len SMirrorConf.eqb (fun a => a) (firstN SMirrorConf.eqb (fun a => a) l.xs l.xs.length) (fun x => chMirror 7 x) k.xs; have glx := goneL_len SRoute.eqb (fun a => a) (firstN SRoute.eqb (fun a => a) l.rs l.rs.length) (fun x => chRoute 3 x) (k.rs.take i3.toNat); rw [List.length_take] at glx; omega, by simp only [List.length_append, List.length_nil, List.length_cons]; have gl0 := goneL_len eqd (fun a => a) (portsM l) (fun x => chPort 1 x) k.ps; have gl1 := goneL_len SMeterConf.eqb (fun a => a) (firstN SMeterConf.eqb (fun a => a) l.ms l.ms.length) (fun x => chMeter 5 x) k.ms; have gl2 := goneL_len SMirrorConf.eqb (fun a => a) (firstN SMirrorConf.eqb (fun a => a) l.xs l.xs.length) (fun x => chMirror 7 x) k.xs; have glx := goneL_len SRoute.eqb (fun a => a) (firstN SRoute.eqb (fun a => a) l.rs l.rs.length) (fun x => chRoute 3 x) (k.rs.take i3.toNat); rw [List.length_take] at glx; omega⟩))
            refine cons (opv (Ev.assign (.t rfl)) (nil (bN (pN (region (cons (opv (Ev.move (.t rfl)) (cons (opv (Ev.add_i (.t rfl) (.c (v := I 1) rfl) (fun _ => by omega)) ?_)))))))))
            refine cons (opv (Ev.assign (.t rfl)) (nil (pN (nx (X := Int × OV) (i3 + 1, _) ?_ ?_ (hL := (by rw [hst3]; (first | rw [if_pos hq3, ← List.append_assoc] | rw [if_neg hq3, List.append_nil]); repeat first | exact sR | exact sN | apply sC | apply sS | apply sA))))))
            · try dsimp only
              omega
            · try dsimp only
              omega
          · have hst3 := goneL_step SRoute.eqb (fun a => a) (firstN SRoute.eqb (fun a => a) l.rs l.rs.length) (fun x => chRoute 3 x) k.rs eRoute.zero (i := i3) (by omega)
            have hcd3 : (findV SRoute.eqb ((fun a => a) (k.rs.getD i3.toNat eRoute.zero)) (firstN SRoute.eqb (fun a => a) l.rs l.rs.length)).isNone = decide (l.rs.countP (SRoute.eqb (k.rs.getD i3.toNat eRoute.zero)) = 0) := by
              have e := none_count SRoute.eqb_iff l.rs (k.rs.getD i3.toNat eRoute.zero)
              exact e
            have hq3 : ¬ (findV SRoute.eqb ((fun a => a) (k.rs.getD i3.toNat eRoute.zero)) (firstN SRoute.eqb (fun a => a) l.rs l.rs.length)).isNone = true := by
              rw [hcd3]
              first | exact ne_true_of_eq_false h7 | exact fun e => h7 (of_decide_eq_true e) | exact fun e => absurd (of_decide_eq_true e) (by omega)
            refine skip (bN (pN (region (cons (opv (Ev.move (.t rfl)) (cons (opv (Ev.add_i (.t rfl) (.c (v := I 1) rfl) (fun _ => by omega)) ?_)))))))
            refine cons (opv (Ev.assign (.t rfl)) (nil (pN (nx (X := Int × OV) (i3 + 1, _) ?_ ?_ (hL := (by rw [hst3]; (first | rw [if_pos hq3, ← List.append_assoc] | rw [if_neg hq3, List.append_nil]); repeat first | exact sR | exact sN | apply sC | apply sS | apply sA))))))
            · try dsimp only
              omega
            · try dsimp only
              omega
        · try simp only [nb] at h6
          refine exit (pX (pX (bX (pN (seq ?_)))))
          have et3 : k.rs.take i3.toNat = k.rs := List.take_of_length_le (by omega)
          rw [et3]
          refine region (cons (opv (Ev.move (.t rfl)) (cons (opv (Ev.assign (.t rfl)) (nil (pN (ret (done rfl (.tmp rfl .nil) (retOE (by repeat first | exact mH | apply mT | apply mA) ?_)))))))))
          rfl

theorem rcuts_ok (a b : SConf) (l k : CL) (w : World) (ha : ConfAt w a l) (hb : ConfAt w b k) (hl : l.Few) (hk : k.Few) : Calls Tryz.prog 91 #[eConf.val a, eConf.val b] w (RetO w eChange (((([] ++ goneL SPrefix.eqb (fun a => a.to_) (routesM k) (fun x => chRoute 4 (onlyR x)) l.rs) ++ goneL eqs (fun a => a.name) (metersM k) (fun x => chMeter 6 (onlyM x)) l.ms) ++ goneL eqs (fun a => a.name) (mirrorsM k) (fun x => chMirror 8 (onlyX x)) l.xs) ++ goneL eqd (fun a => a) (portsM k) (fun x => chPort 2 x) l.ps) 61) := by
  obtain ⟨hl1, hl2, hl3, hl4, hl5⟩ := hl
  obtain ⟨hk1, hk2, hk3, hk4, hk5⟩ := hk
  refine enter0 116 Tryz.func91 rfl rfl (Nat.le_of_ble_eq_true rfl) ?_
  refine seq (region (cons (box (E := eConf) (.t rfl) (fun b1 => ?_))))
  refine cons (box (E := eConf) (.t rfl) (fun b2 => ?_))
  refine cons (opv (Ev.assign (.c (v := (Go.Value.slice none 0 0)) rfl)) ?_)
  refine nil (pN (seq (takeNil eChange 61 ?_)))
  refine region (cons (opv (Ev.assign (.c (v := (Go.Value.slice none 0 0)) rfl)) ?_))
  refine takeNil eChange 61 ?_
  refine nil (pN (seq (seq (region (cons (opv (Ev.assign (.c (v := I 0) rfl)) ?_))))))
  refine nil (pN (block (lp (X := Int × OV) (fun x : Int × OV => (0 ≤ x.1 ∧ x.1 ≤ l.rs.length)) (fun x : Int × OV => [(2, true, .pointer (some ⟨b1, 0, none⟩)), (3, true, .pointer (some ⟨b2, 0, none⟩)), (5, true, x.2.v), (6, true, I x.1)]) (fun x : Int × OV => [OwnS x.2.v eChange ([] ++ goneL SPrefix.eqb (fun a => a.to_) (routesM k) (fun x => chRoute 4 (onlyR x)) (l.rs.take x.1.toNat)) 61, Var b2 eConf b 28, Var b1 eConf a 28]) (fun x : Int × OV => (l.rs.length - x.1).toNat) (0, nilSl) ?_ (fun x hx => ?_) (hL := (by simp only [show (0 : Int).toNat = 0 from rfl, List.take_zero, goneL, List.filter_nil, List.map_nil, List.append_nil]; repeat first | exact sR | exact sN | apply sC | apply sS | apply sA)))))
  · omega
  obtain ⟨i0, q0⟩ := x
  have hi0 : 0 ≤ i0 ∧ i0 ≤ l.rs.length := hx
  clear hx
  show Sat _ _ [(2, true, .pointer (some ⟨b1, 0, none⟩)), (3, true, .pointer (some ⟨b2, 0, none⟩)), (5, true, q0.v), (6, true, I i0)] [OwnS q0.v eChange ([] ++ goneL SPrefix.eqb (fun a => a.to_) (routesM k) (fun x => chRoute 4 (onlyR x)) (l.rs.take i0.toNat)) 61, Var b2 eConf b 28, Var b1 eConf a 28]
  refine seq (seq (region (cons (opv (Ev.move (.t rfl)) (cons (opv (Ev.fieldAddr (o := 1) (.t rfl) (by kernel_rfl)) ?_))))))
  refine cons (opv (Ev.ldx a.routes ty23 (.t rfl) SConf.l_routes) ?_)
  refine cons (opv (Ev.len Tryz.underlying23 (.t rfl) (fun w I => (ha.keep0 I.keeps).rs)) ?_)
  refine cons (opv (Ev.lss_i (.t rfl) (.t rfl)) ?_)
  refine nil (pN ?_)
  first | refine condD rfl (fun h0 => ?_) (fun h0 => ?_) | refine cond rfl (fun h0 => ?_) (fun h0 => ?_)
  · try simp only [nb] at h0
    refine skip (pN (seq (block (seq (draw' (by kernel_rfl) ?_)))))
    refine tk 0 rfl (Ev.ldx b ty28 (.t rfl) (Lens.id _)) ?_
    refine tk 1 rfl (Ev.fieldAddr (o := 1) (.t rfl) (by kernel_rfl)) ?_
    refine tk 2 rfl (Ev.ldx a.routes ty23 (.t rfl) SConf.l_routes) ?_
    refine tk 3 rfl (Ev.move (.t rfl)) ?_
    refine tk 4 rfl (Ev.indexAddr Tryz.underlying23 ty52 (.t rfl) (.t rfl) (fun w I => (ha.keep0 I.keeps).rs) (fun _ => by omega)) ?_
    refine tk 5 rfl (Ev.fieldAddrS (o := 0) (i := i0) (.t rfl) (fun w I => (ha.keep0 I.keeps).rs) (fun _ => by omega) (by kernel_rfl)) ?_
    refine tk 6 rfl (Ev.loadS ty50 SRoute.l_to_ rfl (.t rfl) (fun w I => (ha.keep0 I.keeps).rs) (fun _ => by omega)) ?_
    refine al1 7 rfl ((callv en125 (.cons (.t rfl) (.cons (.t rfl) .nil)) (fun w I => rroute_ix b k _ w (hb.keep0 I.keeps)) ?_))
    refine hdn (tk 8 rfl (Ev.lss_i (.t rfl) (.c (v := I 0) rfl)) ?_)
    refine ovr (pN ?_)
    first | refine condD rfl (fun h1 => ?_) (fun h1 => ?_) | refine cond rfl (fun h1 => ?_) (fun h1 => ?_)
    · have hst0 := goneL_step SPrefix.eqb (fun a => a.to_) (routesM k) (fun x => chRoute 4 (onlyR x)) l.rs eRoute.zero (i := i0) (by omega)
      have hcd0 : (findV SPrefix.eqb ((fun a => a.to_) (l.rs.getD i0.toNat eRoute.zero)) (routesM k)).isNone = decide (idxF (fun x => SPrefix.eqb x.to_ (l.rs.getD i0.toNat eRoute.zero).to_) k.rs < 0) := by
        have e := none_idx SPrefix.eqb_iff (fun a => a.to_) k.rs ((fun a => a.to_) (l.rs.getD i0.toNat eRoute.zero))
        exact e
      have hq0 : (findV SPrefix.eqb ((fun a => a.to_) (l.rs.getD i0.toNat eRoute.zero)) (routesM k)).isNone = true := by
        rw [hcd0]
        first | exact h1 | exact decide_eq_true h1 | exact decide_eq_true (by omega)
      refine region (cons (opv (Ev.move (.t rfl)) (cons (opv (Ev.fieldAddr (o := 1) (.t rfl) (by kernel_rfl)) ?_))))
      refine cons (opv (Ev.ldx a.routes ty23 (.t rfl) SConf.l_routes) ?_)
      refine cons (opv (Ev.move (.t rfl)) (cons (opv (Ev.indexAddr Tryz.underlying23 ty52 (.t rfl) (.t rfl) (fun w I => (ha.keep0 I.keeps).rs) (fun _ => by omega)) ?_)))
      refine cons (opv (Ev.fieldAddrS (o := 0) (i := i0) (.t rfl) (fun w I => (ha.keep0 I.keeps).rs) (fun _ => by omega) (by kernel_rfl)) ?_)
      refine cons (opv (Ev.loadS ty50 SRoute.l_to_ rfl (.t rfl) (fun w I => (ha.keep0 I.keeps).rs) (fun _ => by omega)) ?_)
      refine cons (opv (Ev.buildS (fs := _) (places := [(0, 18), (18, 1)]) z52 rfl Tryz.underlying52 (by kernel_rfl) (.cons (.t rfl) .nil) (Fills.cons SRoute.l_to_ rfl Fills.nil)) ?_)
      refine cons (opv (Ev.buildS (fs := _) (places := [(0, 1), (1, 1), (2, 19), (21, 4), (25, 3), (28, 1), (29, 1)]) z61 rfl Tryz.underlying61 (by kernel_rfl) (.cons (.c (v := I 4) rfl) (.cons (.t rfl) .nil)) (Fills.cons SChange.l_kind rfl (Fills.cons SChange.l_route rfl Fills.nil))) ?_)
      refine cons (buildSlice (E := eChange) Tryz.underlying41 ty61 z61 (.cons (.t rfl) .nil) rfl rfl (fun v3 => ?_))
      refine cons (app (E := eChange) Tryz.underlying41 ty61 zb61 zs61 (.t rfl) (.t rfl) (fun v4 => ?_) (hby := ⟨by (show _ ≤ 9223372036854775807); simp only [List.length_append, List.length_nil, List.length_cons];  have glx := goneL_len SPrefix.eqb (fun a => a.to_) (routesM k) (fun x => chRoute 4 (onlyR x)) (l.rs.take i0.toNat); rw [List.length_take] at glx; omega, by simp only [List.length_append, List.length_nil, List.length_cons];  have glx := goneL_len SPrefix.eqb (fun a => a.to_) (routesM k) (fun x => chRoute 4 (onlyR x)) (l.rs.take i0.toNat); rw [List.length_take] at glx; omega⟩))
      refine cons (opv (Ev.assign (.t rfl)) (nil (bN (pN (region (cons (opv (Ev.move (.t rfl)) (cons (opv (Ev.add_i (.t rfl) (.c (v := I 1) rfl) (fun _ => by omega)) ?_)))))))))
      refine cons (opv (Ev.assign (.t rfl)) (nil (pN (nx (X := Int × OV) (i0 + 1, _) ?_ ?_ (hL := (by rw [hst0]; (first | rw [if_pos hq0, ← List.append_assoc] | rw [if_neg hq0, List.append_nil]); repeat first | exact sR | exact sN | apply sC | apply sS | apply sA))))))
      · try dsimp only
        omega
      · try dsimp only
        omega
    · have hst0 := goneL_step SPrefix.eqb (fun a => a.to_) (routesM k) (fun x => chRoute 4 (onlyR x)) l.rs eRoute.zero (i := i0) (by omega)
      have hcd0 : (findV SPrefix.eqb ((fun a => a.to_) (l.rs.getD i0.toNat eRoute.zero)) (routesM k)).isNone = decide (idxF (fun x => SPrefix.eqb x.to_ (l.rs.getD i0.toNat eRoute.zero).to_) k.rs < 0) := by
        have e := none_idx SPrefix.eqb_iff (fun a => a.to_) k.rs ((fun a => a.to_) (l.rs.getD i0.toNat eRoute.zero))
        exact e
      have hq0 : ¬ (findV SPrefix.eqb ((fun a => a.to_) (l.rs.getD i0.toNat eRoute.zero)) (routesM k)).isNone = true := by
        rw [hcd0]
        first | exact ne_true_of_eq_false h1 | exact fun e => h1 (of_decide_eq_true e) | exact fun e => absurd (of_decide_eq_true e) (by omega)
      refine skip (bN (pN (region (cons (opv (Ev.move (.t rfl)) (cons (opv (Ev.add_i (.t rfl) (.c (v := I 1) rfl) (fun _ => by omega)) ?_)))))))
      refine cons (opv (Ev.assign (.t rfl)) (nil (pN (nx (X := Int × OV) (i0 + 1, _) ?_ ?_ (hL := (by rw [hst0]; (first | rw [if_pos hq0, ← List.append_assoc] | rw [if_neg hq0, List.append_nil]); repeat first | exact sR | exact sN | apply sC | apply sS | apply sA))))))
      · try dsimp only
        omega
      · try dsimp only
        omega
  · try simp only [nb] at h0
    refine exit (pX (pX (bX (pN (seq (seq ?_))))))
    have et0 : l.rs.take i0.toNat = l.rs := List.take_of_length_le (by omega)
    rw [et0]
    refine region (cons (opv (Ev.assign (.c (v := I 0) rfl)) ?_))
    refine nil (pN (block (lp (X := Int × OV) (fun x : Int × OV => (0 ≤ x.1 ∧ x.1 ≤ l.ms.length)) (fun x : Int × OV => [(2, true, .pointer (some ⟨b1, 0, none⟩)), (3, true, .pointer (some ⟨b2, 0, none⟩)), (5, true, x.2.v), (7, true, I x.1)]) (fun x : Int × OV => [OwnS x.2.v eChange (([] ++ goneL SPrefix.eqb (fun a => a.to_) (routesM k) (fun x => chRoute 4 (onlyR x)) l.rs) ++ goneL eqs (fun a => a.name) (metersM k) (fun x => chMeter 6 (onlyM x)) (l.ms.take x.1.toNat)) 61, Var b2 eConf b 28, Var b1 eConf a 28]) (fun x : Int × OV => (l.ms.length - x.1).toNat) (0, q0) ?_ (fun x hx => ?_) (hL := (by rw [show (0 : Int).toNat = 0 from rfl, List.take_zero]; (try rw [show goneL eqs (fun a => a.name) (metersM k) (fun x => chMeter 6 (onlyM x)) [] = [] from rfl, List.append_nil]); repeat first | exact sR | exact sN | apply sC | apply sS | apply sA)))))
    · omega
    obtain ⟨i1, q1⟩ := x
    have hi1 : 0 ≤ i1 ∧ i1 ≤ l.ms.length := hx
    clear hx
    show Sat _ _ [(2, true, .pointer (some ⟨b1, 0, none⟩)), (3, true, .pointer (some ⟨b2, 0, none⟩)), (5, true, q1.v), (7, true, I i1)] [OwnS q1.v eChange (([] ++ goneL SPrefix.eqb (fun a => a.to_) (routesM k) (fun x => chRoute 4 (onlyR x)) l.rs) ++ goneL eqs (fun a => a.name) (metersM k) (fun x => chMeter 6 (onlyM x)) (l.ms.take i1.toNat)) 61, Var b2 eConf b 28, Var b1 eConf a 28]
    refine seq (seq (region (cons (opv (Ev.move (.t rfl)) (cons (opv (Ev.fieldAddr (o := 3) (.t rfl) (by kernel_rfl)) ?_))))))
    refine cons (opv (Ev.ldx a.meters ty25 (.t rfl) SConf.l_meters) ?_)
    refine cons (opv (Ev.len Tryz.underlying25 (.t rfl) (fun w I => (ha.keep0 I.keeps).ms)) ?_)
    refine cons (opv (Ev.lss_i (.t rfl) (.t rfl)) ?_)
    refine nil (pN ?_)
    first | refine condD rfl (fun h2 => ?_) (fun h2 => ?_) | refine cond rfl (fun h2 => ?_) (fun h2 => ?_)
    · try simp only [nb] at h2
      refine skip (pN (seq (block (seq (draw' (by kernel_rfl) ?_)))))
      refine tk 0 rfl (Ev.ldx b ty28 (.t rfl) (Lens.id _)) ?_
      refine tk 1 rfl (Ev.fieldAddr (o := 3) (.t rfl) (by kernel_rfl)) ?_
      refine tk 2 rfl (Ev.ldx a.meters ty25 (.t rfl) SConf.l_meters) ?_
      refine tk 3 rfl (Ev.move (.t rfl)) ?_
      refine tk 4 rfl (Ev.indexAddr Tryz.underlying25 ty57 (.t rfl) (.t rfl) (fun w I => (ha.keep0 I.keeps).ms) (fun _ => by omega)) ?_
      refine tk 5 rfl (Ev.fieldAddrS (o := 0) (i := i1) (.t rfl) (fun w I => (ha.keep0 I.keeps).ms) (fun _ => by omega) (by kernel_rfl)) ?_
      refine tk 6 rfl (Ev.loadS ty9 SMeterConf.l_name rfl (.t rfl) (fun w I => (ha.keep0 I.keeps).ms) (fun _ => by omega)) ?_
      refine al1 7 rfl ((callv en126 (.cons (.t rfl) (.cons (.t rfl) .nil)) (fun w I => rmeter_ix b k _ w (hb.keep0 I.keeps)) ?_))
      refine hdn (tk 8 rfl (Ev.lss_i (.t rfl) (.c (v := I 0) rfl)) ?_)
      refine ovr (pN ?_)
      first | refine condD rfl (fun h3 => ?_) (fun h3 => ?_) | refine cond rfl (fun h3 => ?_) (fun h3 => ?_)
      · have hst1 := goneL_step eqs (fun a => a.name) (metersM k) (fun x => chMeter 6 (onlyM x)) l.ms eMeterConf.zero (i := i1) (by omega)
        have hcd1 : (findV eqs ((fun a => a.name) (l.ms.getD i1.toNat eMeterConf.zero)) (metersM k)).isNone = decide (idxF (fun x => decide (x.name = (l.ms.getD i1.toNat eMeterConf.zero).name)) k.ms < 0) := by
          have e := none_idx eqs_iff (fun a => a.name) k.ms ((fun a => a.name) (l.ms.getD i1.toNat eMeterConf.zero))
          simp only [eqs_dec] at e
          exact e
        have hq1 : (findV eqs ((fun a => a.name) (l.ms.getD i1.toNat eMeterConf.zero)) (metersM k)).isNone = true := by
          rw [hcd1]
          first | exact h3 | exact decide_eq_true h3 | exact decide_eq_true (by omega)
        refine region (cons (opv (Ev.move (.t rfl)) (cons (opv (Ev.fieldAddr (o := 3) (.t rfl) (by kernel_rfl)) ?_))))
        refine cons (opv (Ev.ldx a.meters ty25 (.t rfl) SConf.l_meters) ?_)
        refine cons (opv (Ev.move (.t rfl)) (cons (opv (Ev.indexAddr Tryz.underlying25 ty57 (.t rfl) (.t rfl) (fun w I => (ha.keep0 I.keeps).ms) (fun _ => by omega)) ?_)))
        refine cons (opv (Ev.fieldAddrS (o := 0) (i := i1) (.t rfl) (fun w I => (ha.keep0 I.keeps).ms) (fun _ => by omega) (by kernel_rfl)) ?_)
        refine cons (opv (Ev.loadS ty9 SMeterConf.l_name rfl (.t rfl) (fun w I => (ha.keep0 I.keeps).ms) (fun _ => by omega)) ?_)
        refine cons (opv (Ev.buildS (fs := _) (places := [(0, 1), (1, 3)]) z57 rfl Tryz.underlying57 (by kernel_rfl) (.cons (.t rfl) .nil) (Fills.cons SMeterConf.l_name rfl Fills.nil)) ?_)
        refine cons (opv (Ev.buildS (fs := _) (places := [(0, 1), (1, 1), (2, 19), (21, 4), (25, 3), (28, 1), (29, 1)]) z61 rfl Tryz.underlying61 (by kernel_rfl) (.cons (.c (v := I 6) rfl) (.cons (.t rfl) .nil)) (Fills.cons SChange.l_kind rfl (Fills.cons SChange.l_meter rfl Fills.nil))) ?_)
        refine cons (buildSlice (E := eChange) Tryz.underlying41 ty61 z61 (.cons (.t rfl) .nil) rfl rfl (fun v5 => ?_))
        refine cons (app (E := eChange) Tryz.underlying41 ty61 zb61 zs61 (.t rfl) (.t rfl) (fun v6 => ?_) (hby := ⟨by (show _ ≤ 9223372036854775807); simp only [List.length_append, List.length_nil, List.length_cons]; have gl0 := goneL_len SPrefix.eqb (fun a => a.to_) (routesM k) (fun x => chRoute 4 (onlyR x)) l.rs; have glx := goneL_len eqs (fun a => a.name) (metersM k) (fun x => chMeter 6 (onlyM x)) (l.ms.take i1.toNat); rw [List.length_take] at glx; omega, by simp only [List.length_append, List.length_nil, List.length_cons]; have gl0 := goneL_len SPrefix.eqb (fun a => a.to_) (routesM k) (fun x => chRoute 4 (onlyR x)) l.rs; have glx := goneL_len eqs (fun a => a.name) (metersM k) (fun x => chMeter 6 (onlyM x)) (l.ms.take i1.toNat); rw [List.length_take] at glx; omega⟩))
        refine cons (opv (Ev.assign (.t rfl)) (nil (bN (pN (region (cons (opv (Ev.move (.t rfl)) (cons (opv (Ev.add_i (.t rfl) (.c (v := I 1) rfl) (fun _ => by omega)) ?_)))))))))
        refine cons (opv (Ev.assign (.t rfl)) (nil (pN (nx (X := Int × OV) (i1 + 1, _) ?_ ?_ (hL := (by rw [hst1]; (first | rw [if_pos hq1, ← List.append_assoc] | rw [if_neg hq1, List.append_nil]); repeat first | exact sR | exact sN | apply sC | apply sS | apply sA))))))
        · try dsimp only
          omega
        · try dsimp only
          omega
      · have hst1 := goneL_step eqs (fun a => a.name) (metersM k) (fun x => chMeter 6 (onlyM x)) l.ms eMeterConf.zero (i := i1) (by omega)
        have hcd1 : (findV eqs ((fun a => a.name) (l.ms.getD i1.toNat eMeterConf.zero)) (metersM k)).isNone = decide (idxF (fun x => decide (x.name = (l.ms.getD i1.toNat eMeterConf.zero).name)) k.ms < 0) := by
          have e := none_idx eqs_iff (fun a => a.name) k.ms ((fun a => a.name) (l.ms.getD i1.toNat eMeterConf.zero))
          simp only [eqs_dec] at e
          exact e
        have hq1 : ¬ (findV eqs ((fun a => a.name) (l.ms.getD i1.toNat eMeterConf.zero)) (metersM k)).isNone = true := by
          rw [hcd1]
          first | exact ne_true_of_eq_false h3 | exact fun e => h3 (of_decide_eq_true e) | exact fun e => absurd (of_decide_eq_true e) (by omega)
        refine skip (bN (pN (region (cons (opv (Ev.move (.t rfl)) (cons (opv (Ev.add_i (.t rfl) (.c (v := I 1) rfl) (fun _ => by omega)) ?_)))))))
        refine cons (opv (Ev.assign (.t rfl)) (nil (pN (nx (X := Int × OV) (i1 + 1, _) ?_ ?_ (hL := (by rw [hst1]; (first | rw [if_pos hq1, ← List.append_assoc] | rw [if_neg hq1, List.append_nil]); repeat first | exact sR | exact sN | apply sC | apply sS | apply sA))))))
        · try dsimp only
          omega
        · try dsimp only
          omega
    · try simp only [nb] at h2
      refine exit (pX (pX (bX (pN (seq (seq ?_))))))
      have et1 : l.ms.take i1.toNat = l.ms := List.take_of_length_le (by omega)
      rw [et1]
      refine region (cons (opv (Ev.assign (.c (v := I 0) rfl)) ?_))
      refine nil (pN (block (lp (X := Int × OV) (fun x : Int × OV => (0 ≤ x.1 ∧ x.1 ≤ l.xs.length)) (fun x : Int × OV => [(2, true, .pointer (some ⟨b1, 0, none⟩)), (3, true, .pointer (some ⟨b2, 0, none⟩)), (5, true, x.2.v), (8, true, I x.1)]) (fun x : Int × OV => [OwnS x.2.v eChange ((([] ++ goneL SPrefix.eqb (fun a => a.to_) (routesM k) (fun x => chRoute 4 (onlyR x)) l.rs) ++ goneL eqs (fun a => a.name) (metersM k) (fun x => chMeter 6 (onlyM x)) l.ms) ++ goneL eqs (fun a => a.name) (mirrorsM k) (fun x => chMirror 8 (onlyX x)) (l.xs.take x.1.toNat)) 61, Var b2 eConf b 28, Var b1 eConf a 28]) (fun x : Int × OV => (l.xs.length - x.1).toNat) (0, q1) ?_ (fun x hx => ?_) (hL := (by rw [show (0 : Int).toNat = 0 from rfl, List.take_zero]; (try rw [show goneL eqs (fun a => a.name) (mirrorsM k) (fun x => chMirror 8 (onlyX x)) [] = [] from rfl, List.append_nil]); repeat first | exact sR | exact sN | apply sC | apply sS | apply sA)))))
      · omega
      obtain ⟨i2, q2⟩ := x
      have hi2 : 0 ≤ i2 ∧ i2 ≤ l.xs.length := hx
      clear hx
      show Sat _ _ [(2, true, .pointer (some ⟨b1, 0, none⟩)), (3, true, .pointer (some ⟨b2, 0, none⟩)), (5, true, q2.v), (8, true, I i2)] [OwnS q2.v eChange ((([] ++ goneL SPrefix.eqb (fun a => a.to_) (routesM k) (fun x => chRoute 4 (onlyR x)) l.rs) ++ goneL eqs (fun a => a.name) (metersM k) (fun x => chMeter 6 (onlyM x)) l.ms) ++ goneL eqs (fun a => a.name) (mirrorsM k) (fun x => chMirror 8 (onlyX x)) (l.xs.take i2.toNat)) 61, Var b2 eConf b 28, Var b1 eConf a 28]
      refine seq (seq (region (cons (opv (Ev.move (.t rfl)) (cons (opv (Ev.fieldAddr (o := 4) (.t rfl) (by kernel_rfl)) ?_))))))
      refine cons (opv (Ev.ldx a.mirrors ty26 (.t rfl) SConf.l_mirrors) ?_)
      refine cons (opv (Ev.len Tryz.underlying26 (.t rfl) (fun w I => (ha.keep0 I.keeps).xs)) ?_)
      refine cons (opv (Ev.lss_i (.t rfl) (.t rfl)) ?_)
      refine nil (pN ?_)
      first | refine condD rfl (fun h4 => ?_) (fun h4 => ?_) | refine cond rfl (fun h4 => ?_) (fun h4 => ?_)
      · try simp only [nb] at h4
        refine skip (pN (seq (block (seq (draw' (by kernel_rfl) ?_)))))
        refine tk 0 rfl (Ev.ldx b ty28 (.t rfl) (Lens.id _)) ?_
        refine tk 1 rfl (Ev.fieldAddr (o := 4) (.t rfl) (by kernel_rfl)) ?_
        refine tk 2 rfl (Ev.ldx a.mirrors ty26 (.t rfl) SConf.l_mirrors) ?_
        refine tk 3 rfl (Ev.move (.t rfl)) ?_
        refine tk 4 rfl (Ev.indexAddr Tryz.underlying26 ty59 (.t rfl) (.t rfl) (fun w I => (ha.keep0 I.keeps).xs) (fun _ => by omega)) ?_
        refine tk 5 rfl (Ev.fieldAddrS (o := 0) (i := i2) (.t rfl) (fun w I => (ha.keep0 I.keeps).xs) (fun _ => by omega) (by kernel_rfl)) ?_
        refine tk 6 rfl (Ev.loadS ty9 SMirrorConf.l_name rfl (.t rfl) (fun w I => (ha.keep0 I.keeps).xs) (fun _ => by omega)) ?_
        refine al1 7 rfl ((callv en127 (.cons (.t rfl) (.cons (.t rfl) .nil)) (fun w I => rmirror_ix b k _ w (hb.keep0 I.keeps)) ?_))
        refine hdn (tk 8 rfl (Ev.lss_i (.t rfl) (.c (v := I 0) rfl)) ?_)
        refine ovr (pN ?_)
        first | refine condD rfl (fun h5 => ?_) (fun h5 => ?_) | refine cond rfl (fun h5 => ?_) (fun h5 => ?_)
        · have hst2 := goneL_step eqs (fun a => a.name) (mirrorsM k) (fun x => chMirror 8 (onlyX x)) l.xs eMirrorConf.zero (i := i2) (by omega)
          have hcd2 : (findV eqs ((fun a => a.name) (l.xs.getD i2.toNat eMirrorConf.zero)) (mirrorsM k)).isNone = decide (idxF (fun x => decide (x.name = (l.xs.getD i2.toNat eMirrorConf.zero).name)) k.xs < 0) := by
            have e := none_idx eqs_iff (fun a => a.name) k.xs ((fun a => a.name) (l.xs.getD i2.toNat eMirrorConf.zero))
            simp only [eqs_dec] at e
            exact e
          have hq2 : (findV eqs ((fun a => a.name) (l.xs.getD i2.toNat eMirrorConf.zero)) (mirrorsM k)).isNone = true := by
            rw [hcd2]
            first | exact h5 | exact decide_eq_true h5 | exact decide_eq_true (by omega)
          refine region (cons (opv (Ev.move (.t rfl)) (cons (opv (Ev.fieldAddr (o := 4) (.t rfl) (by kernel_rfl)) ?_))))
          refine cons (opv (Ev.ldx a.mirrors ty26 (.t rfl) SConf.l_mirrors) ?_)
          refine cons (opv (Ev.move (.t rfl)) (cons (opv (Ev.indexAddr Tryz.underlying26 ty59 (.t rfl) (.t rfl) (fun w I => (ha.keep0 I.keeps).xs) (fun _ => by omega)) ?_)))
          refine cons (opv (Ev.fieldAddrS (o := 0) (i := i2) (.t rfl) (fun w I => (ha.keep0 I.keeps).xs) (fun _ => by omega) (by kernel_rfl)) ?_)
          refine cons (opv (Ev.loadS ty9 SMirrorConf.l_name rfl (.t rfl) (fun w I => (ha.keep0 I.keeps).xs) (fun _ => by omega)) ?_)
          refine cons (opv (Ev.buildS (fs := _) (places := [(0, 1), (1, 1), (2, 1)]) z59 rfl Tryz.underlying59 (by kernel_rfl) (.cons (.t rfl) .nil) (Fills.cons SMirrorConf.l_name rfl Fills.nil)) ?_)
          refine cons (opv (Ev.buildS (fs := _) (places := [(0, 1), (1, 1), (2, 19), (21, 4), (25, 3), (28, 1), (29, 1)]) z61 rfl Tryz.underlying61 (by kernel_rfl) (.cons (.c (v := I 8) rfl) (.cons (.t rfl) .nil)) (Fills.cons SChange.l_kind rfl (Fills.cons SChange.l_mirror rfl Fills.nil))) ?_)
          refine cons (buildSlice (E := eChange) Tryz.underlying41 ty61 z61 (.cons (.t rfl) .nil) rfl rfl (fun v7 => ?_))
          refine cons (app (E := eChange) Tryz.underlying41 ty61 zb61 zs61 (.t rfl) (.t rfl) (fun v8 => ?_) (hby := ⟨by (show _ ≤ 9223372036854775807); simp only [List.length_append, List.length_nil, List.length_cons]; have gl0 := goneL_len SPrefix.eqb (fun a => a.to_) (routesM k) (fun x => chRoute 4 (onlyR x)) l.rs; have gl1 := goneL_len eqs (fun a => a.name) (metersM k) (fun x => chMeter 6 (onlyM x)) l.ms; have glx := goneL_len eqs (fun a => a.name) (mirrorsM k) (fun x => chMirror 8 (onlyX x)) (l.xs.take i2.toNat); rw [List.length_take] at glx; omega, by simp only [List.length_append, List.length_nil, List.length_cons]; have gl0 := goneL_len SPrefix.eqb (fun a => a.to_) (routesM k) (fun x => chRoute 4 (onlyR x)) l.rs; have gl1 := goneL_len eqs (fun a => a.name) (metersM k) (fun x => chMeter 6 (onlyM x)) l.ms; have glx := goneL_len eqs (fun a => a.name) (mirrorsM k) (fun x => chMirror 8 (onlyX x)) (l.xs.take i2.toNat); rw [List.length_take] at glx; omega⟩))
          refine cons (opv (Ev.assign (.t rfl)) (nil (bN (pN (region (cons (opv (Ev.move (.t rfl)) (cons (opv (Ev.add_i (.t rfl) (.c (v := I 1) rfl) (fun _ => by omega)) ?_)))))))))
          refine cons (opv (Ev.assign (.t rfl)) (nil (pN (nx (X := Int × OV) (i2 + 1, _) ?_ ?_ (hL := (by rw [hst2]; (first | rw [if_pos hq2, ← List.append_assoc] | rw [if_neg hq2, List.append_nil]); repeat first | exact sR | exact sN | apply sC | apply sS | apply sA))))))
          · try dsimp only
            omega
          · try dsimp only
            omega
        · have hst2 := goneL_step eqs (fun a => a.name) (mirrorsM k) (fun x => chMirror 8 (onlyX x)) l.xs eMirrorConf.zero (i := i2) (by omega)
          have hcd2 : (findV eqs ((fun a => a.name) (l.xs.getD i2.toNat eMirrorConf.zero)) (mirrorsM k)).isNone = decide (idxF (fun x => decide (x.name = (l.xs.getD i2.toNat eMirrorConf.zero).name)) k.xs < 0) := by
            have e := none_idx eqs_iff (fun a => a.name) k.xs ((fun a => a.name) (l.xs.getD i2.toNat eMirrorConf.zero))
            simp only [eqs_dec] at e
            exact e
          have hq2 : ¬ (findV eqs ((fun a => a.name) (l.xs.getD i2.toNat eMirrorConf.zero)) (mirrorsM k)).isNone = true := by
            rw [hcd2]
            first | exact ne_true_of_eq_false h5 | exact fun e => h5 (of_decide_eq_true e) | exact fun e => absurd (of_decide_eq_true e) (by omega)
          refine skip (bN (pN (region (cons (opv (Ev.move (.t rfl)) (cons (opv (Ev.add_i (.t rfl) (.c (v := I 1) rfl) (fun _ => by omega)) ?_)))))))
          refine cons (opv (Ev.assign (.t rfl)) (nil (pN (nx (X := Int × OV) (i2 + 1, _) ?_ ?_ (hL := (by rw [hst2]; (first | rw [if_pos hq2, ← List.append_assoc] | rw [if_neg hq2, List.append_nil]); repeat first | exact sR | exact sN | apply sC | apply sS | apply sA))))))
          · try dsimp only
            omega
          · try dsimp only
            omega
      · try simp only [nb] at h4
        refine exit (pX (pX (bX (pN (seq (seq ?_))))))
        have et2 : l.xs.take i2.toNat = l.xs := List.take_of_length_le (by omega)
        rw [et2]
        refine region (cons (opv (Ev.assign (.c (v := I 0) rfl)) ?_))
        refine nil (pN (block (lp (X := Int × OV) (fun x : Int × OV => (0 ≤ x.1 ∧ x.1 ≤ l.ps.length)) (fun x : Int × OV => [(2, true, .pointer (some ⟨b1, 0, none⟩)), (3, true, .pointer (some ⟨b2, 0, none⟩)), (5, true, x.2.v), (9, true, I x.1)]) (fun x : Int × OV => [OwnS x.2.v eChange (((([] ++ goneL SPrefix.eqb (fun a => a.to_) (routesM k) (fun x => chRoute 4 (onlyR x)) l.rs) ++ goneL eqs (fun a => a.name) (metersM k) (fun x => chMeter 6 (onlyM x)) l.ms) ++ goneL eqs (fun a => a.name) (mirrorsM k) (fun x => chMirror 8 (onlyX x)) l.xs) ++ goneL eqd (fun a => a) (portsM k) (fun x => chPort 2 x) (l.ps.take x.1.toNat)) 61, Var b2 eConf b 28, Var b1 eConf a 28]) (fun x : Int × OV => (l.ps.length - x.1).toNat) (0, q2) ?_ (fun x hx => ?_) (hL := (by rw [show (0 : Int).toNat = 0 from rfl, List.take_zero]; (try rw [show goneL eqd (fun a => a) (portsM k) (fun x => chPort 2 x) [] = [] from rfl, List.append_nil]); repeat first | exact sR | exact sN | apply sC | apply sS | apply sA)))))
        · omega
        obtain ⟨i3, q3⟩ := x
        have hi3 : 0 ≤ i3 ∧ i3 ≤ l.ps.length := hx
        clear hx
        show Sat _ _ [(2, true, .pointer (some ⟨b1, 0, none⟩)), (3, true, .pointer (some ⟨b2, 0, none⟩)), (5, true, q3.v), (9, true, I i3)] [OwnS q3.v eChange (((([] ++ goneL SPrefix.eqb (fun a => a.to_) (routesM k) (fun x => chRoute 4 (onlyR x)) l.rs) ++ goneL eqs (fun a => a.name) (metersM k) (fun x => chMeter 6 (onlyM x)) l.ms) ++ goneL eqs (fun a => a.name) (mirrorsM k) (fun x => chMirror 8 (onlyX x)) l.xs) ++ goneL eqd (fun a => a) (portsM k) (fun x => chPort 2 x) (l.ps.take i3.toNat)) 61, Var b2 eConf b 28, Var b1 eConf a 28]
        refine seq (seq (region (cons (opv (Ev.move (.t rfl)) (cons (opv (Ev.fieldAddr (o := 0) (.t rfl) (by kernel_rfl)) ?_))))))
        refine cons (opv (Ev.ldx a.ports ty22 (.t rfl) SConf.l_ports) ?_)
        refine cons (opv (Ev.len Tryz.underlying22 (.t rfl) (fun w I => (ha.keep0 I.keeps).ps)) ?_)
        refine cons (opv (Ev.lss_i (.t rfl) (.t rfl)) ?_)
        refine nil (pN ?_)
        first | refine condD rfl (fun h6 => ?_) (fun h6 => ?_) | refine cond rfl (fun h6 => ?_) (fun h6 => ?_)
        · try simp only [nb] at h6
          refine skip (pN (seq (block (seq (draw' (by kernel_rfl) ?_)))))
          refine tk 0 rfl (Ev.ldx b ty28 (.t rfl) (Lens.id _)) ?_
          refine tk 1 rfl (Ev.fieldAddr (o := 0) (.t rfl) (by kernel_rfl)) ?_
          refine tk 2 rfl (Ev.ldx a.ports ty22 (.t rfl) SConf.l_ports) ?_
          refine tk 3 rfl (Ev.move (.t rfl)) ?_
          refine tk 4 rfl (Ev.indexAddr Tryz.underlying22 ty3 (.t rfl) (.t rfl) (fun w I => (ha.keep0 I.keeps).ps) (fun _ => by omega)) ?_
          refine tk 5 rfl (Ev.loadS0 ty3 (.t rfl) (fun w I => (ha.keep0 I.keeps).ps) (fun _ => by omega)) ?_
          refine al1 6 rfl ((callv en124 (.cons (.t rfl) (.cons (.t rfl) .nil)) (fun w I => rport_ok b k _ w (hb.keep0 I.keeps)) ?_))
          refine hdn (tk 7 rfl (Ev.not (.t rfl)) ?_)
          refine ovr (pN ?_)
          first | refine condD rfl (fun h7 => ?_) (fun h7 => ?_) | refine cond rfl (fun h7 => ?_) (fun h7 => ?_)
          · have hst3 := goneL_step eqd (fun a => a) (portsM k) (fun x => chPort 2 x) l.ps iE.zero (i := i3) (by omega)
            have hcd3 : (findV eqd ((fun a => a) (l.ps.getD i3.toNat iE.zero)) (portsM k)).isNone = !portB k (l.ps.getD i3.toNat iE.zero) := by
              have e := none_port k (l.ps.getD i3.toNat iE.zero)
              exact e
            have hq3 : (findV eqd ((fun a => a) (l.ps.getD i3.toNat iE.zero)) (portsM k)).isNone = true := by
              rw [hcd3]
              first | exact h7 | exact decide_eq_true h7 | exact decide_eq_true (by omega)
            refine region (cons (opv (Ev.move (.t rfl)) (cons (opv (Ev.fieldAddr (o := 0) (.t rfl) (by kernel_rfl)) ?_))))
            refine cons (opv (Ev.ldx a.ports ty22 (.t rfl) SConf.l_ports) ?_)
            refine cons (opv (Ev.move (.t rfl)) (cons (opv (Ev.indexAddr Tryz.underlying22 ty3 (.t rfl) (.t rfl) (fun w I => (ha.keep0 I.keeps).ps) (fun _ => by omega)) ?_)))
            refine cons (opv (Ev.loadS0 ty3 (.t rfl) (fun w I => (ha.keep0 I.keeps).ps) (fun _ => by omega)) ?_)
            refine cons (opv (Ev.buildS (fs := _) (places := [(0, 1), (1, 1), (2, 19), (21, 4), (25, 3), (28, 1), (29, 1)]) z61 rfl Tryz.underlying61 (by kernel_rfl) (.cons (.c (v := I 2) rfl) (.cons (.t rfl) .nil)) (Fills.cons SChange.l_kind rfl (Fills.cons SChange.l_port rfl Fills.nil))) ?_)
            refine cons (buildSlice (E := eChange) Tryz.underlying41 ty61 z61 (.cons (.t rfl) .nil) rfl rfl (fun v9 => ?_))
            refine cons (app (E := eChange) Tryz.underlying41 ty61 zb61 zs61 (.t rfl) (.t rfl) (fun v10 => ?_) (hby := ⟨by (show _ ≤ 9223372036854775807); simp only [List.length_append, List.length_nil, List.length_cons]; have gl0 := goneL_len SPrefix.eqb (fun a => a.to_) (routesM k) (fun x => chRoute 4 (onlyR x)) l.rs; have gl1 := goneL_len eqs (fun a => a.name) (metersM k) (fun x => chMeter 6 (onlyM x)) l.ms; have gl2 := goneL_len eqs (fun a => a.name) (mirrorsM k) (fun x => chMirror 8 (onlyX x)) l.xs; have glx := goneL_len eqd (fun a => a) (portsM k) (fun x => chPort 2 x) (l.ps.take i3.toNat); rw [List.length_take] at glx; omega, by simp only [List.length_append, List.length_nil, List.length_cons]; have gl0 := goneL_len SPrefix.eqb (fun a => a.to_) (routesM k) (fun x => chRoute 4 (onlyR x)) l.rs; have gl1 := goneL_len eqs (fun a => a.name) (metersM k) (fun x => chMeter 6 (onlyM x)) l.ms; have gl2 := goneL_len eqs (fun a => a.name) (mirrorsM k) (fun x => chMirror 8 (onlyX x)) l.xs; have glx := goneL_len eqd (fun a => a) (portsM k) (fun x => chPort 2 x) (l.ps.take i3.toNat); rw [List.length_take] at glx; omega⟩))
            refine cons (opv (Ev.assign (.t rfl)) (nil (bN (pN (region (cons (opv (Ev.move (.t rfl)) (cons (opv (Ev.add_i (.t rfl) (.c (v := I 1) rfl) (fun _ => by omega)) ?_)))))))))
            refine cons (opv (Ev.assign (.t rfl)) (nil (pN (nx (X := Int × OV) (i3 + 1, _) ?_ ?_ (hL := (by rw [hst3]; (first | rw [if_pos hq3, ← List.append_assoc] | rw [if_neg hq3, List.append_nil]); repeat first | exact sR | exact sN | apply sC | apply sS | apply sA))))))
            · try dsimp only
              omega
            · try dsimp only
              omega
          · have hst3 := goneL_step eqd (fun a => a) (portsM k) (fun x => chPort 2 x) l.ps iE.zero (i := i3) (by omega)
            have hcd3 : (findV eqd ((fun a => a) (l.ps.getD i3.toNat iE.zero)) (portsM k)).isNone = !portB k (l.ps.getD i3.toNat iE.zero) := by
              have e := none_port k (l.ps.getD i3.toNat iE.zero)
              exact e
            have hq3 : ¬ (findV eqd ((fun a => a) (l.ps.getD i3.toNat iE.zero)) (portsM k)).isNone = true := by
              rw [hcd3]
              first | exact ne_true_of_eq_false h7 | exact fun e => h7 (of_decide_eq_true e) | exact fun e => absurd (of_decide_eq_true e) (by omega)
            refine skip (bN (pN (region (cons (opv (Ev.move (.t rfl)) (cons (opv (Ev.add_i (.t rfl) (.c (v := I 1) rfl) (fun _ => by omega)) ?_)))))))
            refine cons (opv (Ev.assign (.t rfl)) (nil (pN (nx (X := Int × OV) (i3 + 1, _) ?_ ?_ (hL := (by rw [hst3]; (first | rw [if_pos hq3, ← List.append_assoc] | rw [if_neg hq3, List.append_nil]); repeat first | exact sR | exact sN | apply sC | apply sS | apply sA))))))
            · try dsimp only
              omega
            · try dsimp only
              omega
        · try simp only [nb] at h6
          refine exit (pX (pX (bX (pN (seq ?_)))))
          have et3 : l.ps.take i3.toNat = l.ps := List.take_of_length_le (by omega)
          rw [et3]
          refine region (cons (opv (Ev.move (.t rfl)) (cons (opv (Ev.assign (.t rfl)) (nil (pN (ret (done rfl (.tmp rfl .nil) (retOE (by repeat first | exact mH | apply mT | apply mA) ?_)))))))))
          rfl
end Go.Proofs.YtnoobdijbpmjkaaGreat

/- conf -/
namespace Go.Proofs.YtnoobdijbpmjkaaGreat
open Go Go.Gx

theorem en89 : Gx.Enters Tryz.prog 89 := Gx.Enters.mk' (by kernel_rfl)

theorem en90 : Gx.Enters Tryz.prog 90 := Gx.Enters.mk' (by kernel_rfl)

theorem en91 : Gx.Enters Tryz.prog 91 := Gx.Enters.mk' (by kernel_rfl)

theorem rdiff_ok (a b : SConf) (l k : CL) (w : World) (ha : ConfAt w a l) (hb : ConfAt w b k) (hln : l.Names) (hkn : k.Names) (hlz : l.n ≤ 4611686018427387904) (hkz : k.n ≤ 4611686018427387904) : Calls Tryz.prog 24 #[eConf.val a, eConf.val b] w (RetN w (fun _ : OV × OV => True) (fun x => .tuple #[x.1.v, I (diffE l k a.default b.default)]) (fun x => [OwnS x.1.v eChange (diffL l k a.default b.default x.2) 61, OwnS x.2.v eRule (diffR l k a.default b.default) 76])) := by
  refine enter0 49 Tryz.func24 rfl rfl (Nat.le_of_ble_eq_true rfl) ?_
  refine seq (region (cons (box (E := eConf) (.t rfl) (fun b1 => ?_))))
  refine cons (box (E := eConf) (.t rfl) (fun b2 => ?_))
  refine cons (opv (Ev.assign (.c (v := (Go.Value.slice none 0 0)) rfl)) ?_)
  refine cons (opv (Ev.assign (.c (v := I 0) rfl)) ?_)
  refine nil (pN (seq (seq (region (cons (opv (Ev.ldx a ty28 (.t rfl) (Lens.id _)) ?_))))))
  refine cons (callv en89 (.cons (.t rfl) .nil) (fun w I => rmay_ok a l w (ha.keep0 I.keeps) hln hlz) ?_)
  refine cons (opv (Ev.not (.t rfl)) ?_)
  refine cons (opv (Ev.move (.t rfl)) (cons (opg rfl rfl (Ev.ldx b ty28 (.t rfl) (Lens.id _)) ?_)))
  refine cons (callg rfl rfl en89 (.cons (.g rfl id) .nil) (fun hg w I => rmay_ok b k w (hb.keep0 I.keeps) hkn hkz) ?_)
  refine cons (opg rfl rfl (Ev.not (.g rfl id)) ?_)
  refine cons (opv (Ev.pickO (.t rfl) (.c (v := .bool true) rfl) (fun {_} h => by cases h; rfl) ⟨_, rfl⟩ (by intro h1 h; first | (rw [h] <;> rfl) | (rw [h1, h] <;> rfl) | (rw [h, h1] <;> rfl) | simp_all)) ?_)
  refine nil (pN ?_)
  first | refine condD rfl (fun h0 => ?_) (fun h0 => ?_) | refine cond rfl (fun h0 => ?_) (fun h0 => ?_)
  · have hbo : bothB l k a.default b.default = false := by
      unfold bothB
      rw [Bool.and_eq_false_iff]
      simpa using h0
    refine seq (takeNil eRule 76 ?_)
    refine takeNil eChange 61 ?_
    refine region (cons (opv (Ev.assign (.c (v := (Go.Value.slice none 0 0)) rfl)) ?_))
    refine cons (opv (Ev.assign (.c (v := I 210) rfl)) ?_)
    refine nil (pN (ret (pR (done rfl (.tmp rfl (.tmp rfl .nil)) (fun w I => ?_)))))
    exact retNP (nilSl, nilSl) trivial (by unfold diffE; rw [hbo]; rfl) (by unfold diffL diffR; rw [hbo]; exact (by repeat first | exact SubP.nil | refine SubP.cons (by repeat first | exact Rem.head | apply Rem.tail) ?_)) w I
  · have hbo : bothB l k a.default b.default = true := by
      unfold bothB
      simpa using h0
    have hbl := may_lens (Bool.and_eq_true_iff.1 hbo).1
    have hbk := may_lens (Bool.and_eq_true_iff.1 hbo).2
    have hfl := may_few (Bool.and_eq_true_iff.1 hbo).1
    have hfk := may_few (Bool.and_eq_true_iff.1 hbo).2
    refine skip (pN (seq (region (cons (opv (Ev.ldx a ty28 (.t rfl) (Lens.id _)) ?_)))))
    refine cons (opv (Ev.ldx b ty28 (.t rfl) (Lens.id _)) ?_)
    refine cons (callo en90 (.cons (.t rfl) (.cons (.t rfl) .nil)) (fun w I => rsets_ok a b l k w (ha.keep0 I.keeps) (hb.keep0 I.keeps) hfl hfk) (fun o4 => ?_))
    refine cons (opv (Ev.assign (.t rfl)) (nil (pN (cut (X := OV × OV) (fun x : OV × OV => True) (fun x : OV × OV => [(2, true, .pointer (some ⟨b1, 0, none⟩)), (3, true, .pointer (some ⟨b2, 0, none⟩)), (6, true, x.1.v)]) (fun x : OV × OV => [OwnS x.1.v eChange ((((([] ++ goneL eqd (fun a => a) (portsM l) (fun x => chPort 1 x) k.ps) ++ goneL SMeterConf.eqb (fun a => a) (firstN SMeterConf.eqb (fun a => a) l.ms l.ms.length) (fun x => chMeter 5 x) k.ms) ++ goneL SMirrorConf.eqb (fun a => a) (firstN SMirrorConf.eqb (fun a => a) l.xs l.xs.length) (fun x => chMirror 7 x) k.xs) ++ goneL SRoute.eqb (fun a => a) (firstN SRoute.eqb (fun a => a) l.rs l.rs.length) (fun x => chRoute 3 x) k.rs) ++ (if l.us = k.us then [] else [chRules x.2])) 61, OwnS x.2.v eRule (if l.us = k.us then [] else k.us) 76, Var b2 eConf b 28, Var b1 eConf a 28]) ?_ (fun x hx => ?_)))))
    · refine seq (region (cons (opv (Ev.fieldAddr (o := 2) (.t rfl) (by kernel_rfl)) ?_)))
      refine cons (opv (Ev.ldx a.rules ty24 (.t rfl) SConf.l_rules) ?_)
      refine cons (opv (Ev.fieldAddr (o := 2) (.t rfl) (by kernel_rfl)) ?_)
      refine cons (opv (Ev.ldx b.rules ty24 (.t rfl) SConf.l_rules) ?_)
      refine cons (callv en59 (.cons (.t rfl) (.cons (.t rfl) .nil)) (fun w I => sameRules_ok _ _ _ _ w (ha.keep0 I.keeps).us (hb.keep0 I.keeps).us) ?_)
      refine cons (opv (Ev.not (.t rfl)) ?_)
      refine nil (pN ?_)
      first | refine condD rfl (fun h1 => ?_) (fun h1 => ?_) | refine cond rfl (fun h1 => ?_) (fun h1 => ?_)
      · try simp only [nb] at h1
        refine seq (region (cons (opv (Ev.assign (.c (v := (Go.Value.slice none 0 0)) rfl)) ?_)))
        refine takeNil eRule 76 ?_
        refine nil (pN (takeNil eRule 76 ?_))
        refine region (cons (opv (Ev.move (.t rfl)) (cons (opv (Ev.move (.t rfl)) (cons (opv (Ev.fieldAddr (o := 2) (.t rfl) (by kernel_rfl)) ?_))))))
        refine cons (opv (Ev.ldx b.rules ty24 (.t rfl) SConf.l_rules) ?_)
        refine cons (app (E := eRule) Tryz.underlying24 ty76 zb76 zs76 (.t rfl) (.t rfl) (fun v3 => ?_) (hsrc := (fun w I => (hb.keep0 I.keeps).us)) (hby := ⟨by (show _ ≤ 9223372036854775807); simp only [List.length_nil]; omega, by simp only [List.length_nil]; omega⟩))
        refine cons (opv (Ev.buildS (fs := _) (places := [(0, 1), (1, 1), (2, 19), (21, 4), (25, 3), (28, 1), (29, 1)]) z61 rfl Tryz.underlying61 (by kernel_rfl) (.cons (.c (v := I 9) rfl) (.cons (.t rfl) .nil)) (Fills.cons SChange.l_kind rfl (Fills.cons SChange.l_rules rfl Fills.nil))) ?_)
        refine cons (buildSlice (E := eChange) Tryz.underlying41 ty61 z61 (.cons (.t rfl) .nil) rfl rfl (fun v4 => ?_))
        refine cons (app (E := eChange) Tryz.underlying41 ty61 zb61 zs61 (.t rfl) (.t rfl) (fun v5 => ?_) (hby := ⟨by (show _ ≤ 9223372036854775807); simp only [List.length_cons]; simp only [List.length_append, List.length_nil]; have g1 := goneL_len eqd (fun a => a) (portsM l) (fun x => chPort 1 x) k.ps; have g2 := goneL_len SMeterConf.eqb (fun a => a) (firstN SMeterConf.eqb (fun a => a) l.ms l.ms.length) (fun x => chMeter 5 x) k.ms; have g3 := goneL_len SMirrorConf.eqb (fun a => a) (firstN SMirrorConf.eqb (fun a => a) l.xs l.xs.length) (fun x => chMirror 7 x) k.xs; have g4 := goneL_len SRoute.eqb (fun a => a) (firstN SRoute.eqb (fun a => a) l.rs l.rs.length) (fun x => chRoute 3 x) k.rs; omega, by simp only [List.length_cons]; simp only [List.length_append, List.length_nil]; have g1 := goneL_len eqd (fun a => a) (portsM l) (fun x => chPort 1 x) k.ps; have g2 := goneL_len SMeterConf.eqb (fun a => a) (firstN SMeterConf.eqb (fun a => a) l.ms l.ms.length) (fun x => chMeter 5 x) k.ms; have g3 := goneL_len SMirrorConf.eqb (fun a => a) (firstN SMirrorConf.eqb (fun a => a) l.xs l.xs.length) (fun x => chMirror 7 x) k.xs; have g4 := goneL_len SRoute.eqb (fun a => a) (firstN SRoute.eqb (fun a => a) l.rs l.rs.length) (fun x => chRoute 3 x) k.rs; omega⟩))
        refine cons (opv (Ev.assign (.t rfl)) (nil (pN (mtP (X := OV × OV) (_, v3) trivial (hL := (by (first | rw [if_pos h1, if_pos h1, List.append_nil] | rw [if_neg h1, if_neg h1]); repeat first | exact SubP.nil | refine SubP.cons (by repeat first | exact Rem.head | apply Rem.tail) ?_))))))
      · try simp only [nb] at h1
        refine takeNil eRule 76 ?_
        refine skip (pN (mtP (X := OV × OV) (_, nilSl) trivial (hL := (by (first | rw [if_pos h1, if_pos h1, List.append_nil] | rw [if_neg h1, if_neg h1]); repeat first | exact SubP.nil | refine SubP.cons (by repeat first | exact Rem.head | apply Rem.tail) ?_))))
    obtain ⟨q1, rv⟩ := x
    show Sat _ _ [(2, true, .pointer (some ⟨b1, 0, none⟩)), (3, true, .pointer (some ⟨b2, 0, none⟩)), (6, true, q1.v)] [OwnS q1.v eChange ((((([] ++ goneL eqd (fun a => a) (portsM l) (fun x => chPort 1 x) k.ps) ++ goneL SMeterConf.eqb (fun a => a) (firstN SMeterConf.eqb (fun a => a) l.ms l.ms.length) (fun x => chMeter 5 x) k.ms) ++ goneL SMirrorConf.eqb (fun a => a) (firstN SMirrorConf.eqb (fun a => a) l.xs l.xs.length) (fun x => chMirror 7 x) k.xs) ++ goneL SRoute.eqb (fun a => a) (firstN SRoute.eqb (fun a => a) l.rs l.rs.length) (fun x => chRoute 3 x) k.rs) ++ (if l.us = k.us then [] else [chRules rv])) 61, OwnS rv.v eRule (if l.us = k.us then [] else k.us) 76, Var b2 eConf b 28, Var b1 eConf a 28]
    refine cut (X := OV) (fun x : OV => True) (fun x : OV => [(2, true, .pointer (some ⟨b1, 0, none⟩)), (3, true, .pointer (some ⟨b2, 0, none⟩)), (6, true, x.v)]) (fun x : OV => [OwnS x.v eChange (((((([] ++ goneL eqd (fun a => a) (portsM l) (fun x => chPort 1 x) k.ps) ++ goneL SMeterConf.eqb (fun a => a) (firstN SMeterConf.eqb (fun a => a) l.ms l.ms.length) (fun x => chMeter 5 x) k.ms) ++ goneL SMirrorConf.eqb (fun a => a) (firstN SMirrorConf.eqb (fun a => a) l.xs l.xs.length) (fun x => chMirror 7 x) k.xs) ++ goneL SRoute.eqb (fun a => a) (firstN SRoute.eqb (fun a => a) l.rs l.rs.length) (fun x => chRoute 3 x) k.rs) ++ (if l.us = k.us then [] else [chRules rv])) ++ (if a.default = b.default then [] else [chDefault b.default])) 61, OwnS rv.v eRule (if l.us = k.us then [] else k.us) 76, Var b2 eConf b 28, Var b1 eConf a 28]) ?_ (fun x hx => ?_)
    · refine seq (region (cons (opv (Ev.fieldAddr (o := 5) (.t rfl) (by kernel_rfl)) ?_)))
      refine cons (opv (Ev.ldx a.default ty3 (.t rfl) SConf.l_default) ?_)
      refine cons (opv (Ev.fieldAddr (o := 5) (.t rfl) (by kernel_rfl)) ?_)
      refine cons (opv (Ev.ldx b.default ty3 (.t rfl) SConf.l_default) ?_)
      refine cons (opv (Ev.neq_i (.t rfl) (.t rfl)) ?_)
      refine nil (pN ?_)
      first | refine condD rfl (fun h2 => ?_) (fun h2 => ?_) | refine cond rfl (fun h2 => ?_) (fun h2 => ?_)
      · try simp only [nb] at h2
        refine region (cons (opv (Ev.move (.t rfl)) (cons (opv (Ev.fieldAddr (o := 5) (.t rfl) (by kernel_rfl)) ?_))))
        refine cons (opv (Ev.ldx b.default ty3 (.t rfl) SConf.l_default) ?_)
        refine cons (opv (Ev.buildS (fs := _) (places := [(0, 1), (1, 1), (2, 19), (21, 4), (25, 3), (28, 1), (29, 1)]) z61 rfl Tryz.underlying61 (by kernel_rfl) (.cons (.c (v := I 10) rfl) (.cons (.t rfl) .nil)) (Fills.cons SChange.l_kind rfl (Fills.cons SChange.l_default rfl Fills.nil))) ?_)
        refine cons (buildSlice (E := eChange) Tryz.underlying41 ty61 z61 (.cons (.t rfl) .nil) rfl rfl (fun v6 => ?_))
        refine cons (app (E := eChange) Tryz.underlying41 ty61 zb61 zs61 (.t rfl) (.t rfl) (fun v7 => ?_) (hby := ⟨by (show _ ≤ 9223372036854775807); simp only [List.length_cons]; simp only [List.length_append, List.length_nil]; have g1 := goneL_len eqd (fun a => a) (portsM l) (fun x => chPort 1 x) k.ps; have g2 := goneL_len SMeterConf.eqb (fun a => a) (firstN SMeterConf.eqb (fun a => a) l.ms l.ms.length) (fun x => chMeter 5 x) k.ms; have g3 := goneL_len SMirrorConf.eqb (fun a => a) (firstN SMirrorConf.eqb (fun a => a) l.xs l.xs.length) (fun x => chMirror 7 x) k.xs; have g4 := goneL_len SRoute.eqb (fun a => a) (firstN SRoute.eqb (fun a => a) l.rs l.rs.length) (fun x => chRoute 3 x) k.rs; have g5 := ite_len (p := l.us = k.us) (chRules rv); omega, by simp only [List.length_cons]; simp only [List.length_append, List.length_nil]; have g1 := goneL_len eqd (fun a => a) (portsM l) (fun x => chPort 1 x) k.ps; have g2 := goneL_len SMeterConf.eqb (fun a => a) (firstN SMeterConf.eqb (fun a => a) l.ms l.ms.length) (fun x => chMeter 5 x) k.ms; have g3 := goneL_len SMirrorConf.eqb (fun a => a) (firstN SMirrorConf.eqb (fun a => a) l.xs l.xs.length) (fun x => chMirror 7 x) k.xs; have g4 := goneL_len SRoute.eqb (fun a => a) (firstN SRoute.eqb (fun a => a) l.rs l.rs.length) (fun x => chRoute 3 x) k.rs; have g5 := ite_len (p := l.us = k.us) (chRules rv); omega⟩))
        refine cons (opv (Ev.assign (.t rfl)) (nil (pN (mtP (X := OV) (_) trivial (hL := (by (first | rw [if_pos h2, List.append_nil] | rw [if_neg h2]); repeat first | exact SubP.nil | refine SubP.cons (by repeat first | exact Rem.head | apply Rem.tail) ?_))))))
      · try simp only [nb] at h2
        refine skip (pN (mtP (X := OV) (_) trivial (hL := (by (first | rw [if_pos h2, List.append_nil] | rw [if_neg h2]); repeat first | exact SubP.nil | refine SubP.cons (by repeat first | exact Rem.head | apply Rem.tail) ?_))))
    obtain ⟨q2, rfl⟩ : ∃ y, y = x := ⟨x, rfl⟩
    show Sat _ _ [(2, true, .pointer (some ⟨b1, 0, none⟩)), (3, true, .pointer (some ⟨b2, 0, none⟩)), (6, true, q2.v)] [OwnS q2.v eChange (((((([] ++ goneL eqd (fun a => a) (portsM l) (fun x => chPort 1 x) k.ps) ++ goneL SMeterConf.eqb (fun a => a) (firstN SMeterConf.eqb (fun a => a) l.ms l.ms.length) (fun x => chMeter 5 x) k.ms) ++ goneL SMirrorConf.eqb (fun a => a) (firstN SMirrorConf.eqb (fun a => a) l.xs l.xs.length) (fun x => chMirror 7 x) k.xs) ++ goneL SRoute.eqb (fun a => a) (firstN SRoute.eqb (fun a => a) l.rs l.rs.length) (fun x => chRoute 3 x) k.rs) ++ (if l.us = k.us then [] else [chRules rv])) ++ (if a.default = b.default then [] else [chDefault b.default])) 61, OwnS rv.v eRule (if l.us = k.us then [] else k.us) 76, Var b2 eConf b 28, Var b1 eConf a 28]
    refine seq (region (cons (opv (Ev.move (.t rfl)) (cons (opv (Ev.ldx a ty28 (.t rfl) (Lens.id _)) ?_)))))
    refine cons (opv (Ev.ldx b ty28 (.t rfl) (Lens.id _)) ?_)
    refine cons (callo en91 (.cons (.t rfl) (.cons (.t rfl) .nil)) (fun w I => rcuts_ok a b l k w (ha.keep0 I.keeps) (hb.keep0 I.keeps) hfl hfk) (fun o5 => ?_))
    refine cons (app (E := eChange) Tryz.underlying41 ty61 zb61 zs61 (.t rfl) (.t rfl) (fun v8 => ?_) (hby := ⟨by (show _ ≤ 9223372036854775807); simp only [List.length_append, List.length_nil]; have g1 := goneL_len eqd (fun a => a) (portsM l) (fun x => chPort 1 x) k.ps; have g2 := goneL_len SMeterConf.eqb (fun a => a) (firstN SMeterConf.eqb (fun a => a) l.ms l.ms.length) (fun x => chMeter 5 x) k.ms; have g3 := goneL_len SMirrorConf.eqb (fun a => a) (firstN SMirrorConf.eqb (fun a => a) l.xs l.xs.length) (fun x => chMirror 7 x) k.xs; have g4 := goneL_len SRoute.eqb (fun a => a) (firstN SRoute.eqb (fun a => a) l.rs l.rs.length) (fun x => chRoute 3 x) k.rs; have g5 := ite_len (p := l.us = k.us) (chRules rv); have g6 := ite_len (p := a.default = b.default) (chDefault b.default); have gm4 := goneL_len SPrefix.eqb (fun a => a.to_) (routesM k) (fun x => chRoute 4 (onlyR x)) l.rs; have gm5 := goneL_len eqs (fun a => a.name) (metersM k) (fun x => chMeter 6 (onlyM x)) l.ms; have gm6 := goneL_len eqs (fun a => a.name) (mirrorsM k) (fun x => chMirror 8 (onlyX x)) l.xs; have gm7 := goneL_len eqd (fun a => a) (portsM k) (fun x => chPort 2 x) l.ps; omega, by simp only [List.length_append, List.length_nil]; have g1 := goneL_len eqd (fun a => a) (portsM l) (fun x => chPort 1 x) k.ps; have g2 := goneL_len SMeterConf.eqb (fun a => a) (firstN SMeterConf.eqb (fun a => a) l.ms l.ms.length) (fun x => chMeter 5 x) k.ms; have g3 := goneL_len SMirrorConf.eqb (fun a => a) (firstN SMirrorConf.eqb (fun a => a) l.xs l.xs.length) (fun x => chMirror 7 x) k.xs; have g4 := goneL_len SRoute.eqb (fun a => a) (firstN SRoute.eqb (fun a => a) l.rs l.rs.length) (fun x => chRoute 3 x) k.rs; have g5 := ite_len (p := l.us = k.us) (chRules rv); have g6 := ite_len (p := a.default = b.default) (chDefault b.default); have gm4 := goneL_len SPrefix.eqb (fun a => a.to_) (routesM k) (fun x => chRoute 4 (onlyR x)) l.rs; have gm5 := goneL_len eqs (fun a => a.name) (metersM k) (fun x => chMeter 6 (onlyM x)) l.ms; have gm6 := goneL_len eqs (fun a => a.name) (mirrorsM k) (fun x => chMirror 8 (onlyX x)) l.xs; have gm7 := goneL_len eqd (fun a => a) (portsM k) (fun x => chPort 2 x) l.ps; omega⟩))
    refine cons (opv (Ev.assign (.t rfl)) (cons (opv (Ev.assign (.c (v := I 0) rfl)) ?_)))
    refine nil (pN (ret (done rfl (.tmp rfl (.tmp rfl .nil)) (fun w I => ?_))))
    have e : (((((([] ++ goneL eqd (fun a => a) (portsM l) (fun x => chPort 1 x) k.ps) ++ goneL SMeterConf.eqb (fun a => a) (firstN SMeterConf.eqb (fun a => a) l.ms l.ms.length) (fun x => chMeter 5 x) k.ms) ++ goneL SMirrorConf.eqb (fun a => a) (firstN SMirrorConf.eqb (fun a => a) l.xs l.xs.length) (fun x => chMirror 7 x) k.xs) ++ goneL SRoute.eqb (fun a => a) (firstN SRoute.eqb (fun a => a) l.rs l.rs.length) (fun x => chRoute 3 x) k.rs) ++ (if l.us = k.us then [] else [chRules rv])) ++ (if a.default = b.default then [] else [chDefault b.default])) ++ (((([] ++ goneL SPrefix.eqb (fun a => a.to_) (routesM k) (fun x => chRoute 4 (onlyR x)) l.rs) ++ goneL eqs (fun a => a.name) (metersM k) (fun x => chMeter 6 (onlyM x)) l.ms) ++ goneL eqs (fun a => a.name) (mirrorsM k) (fun x => chMirror 8 (onlyX x)) l.xs) ++ goneL eqd (fun a => a) (portsM k) (fun x => chPort 2 x) l.ps) = diffs l k a.default b.default rv := by
      unfold diffs
      simp only [List.append_assoc, List.nil_append]
    rw [e] at I
    exact retNP (_, rv) trivial (by unfold diffE; rw [hbo]; rfl) (by unfold diffL diffR; rw [hbo, if_pos rfl, if_pos rfl]; exact (by repeat first | exact SubP.nil | refine SubP.cons (by repeat first | exact Rem.head | apply Rem.tail) ?_)) w I

/-- Two changes, but for their rules. -/
def ChSame (c d : SChange) : Prop := c.kind = d.kind ∧ c.port = d.port ∧ c.route = d.route ∧ c.meter = d.meter ∧ c.mirror = d.mirror ∧ c.default = d.default
theorem ChSame.refl (c : SChange) : ChSame c c := ⟨rfl, rfl, rfl, rfl, rfl, rfl⟩
structure ChsSame (cs ds : List SChange) (rl rm : List (List SRule)) : Prop where
  n : cs.length = ds.length
  ch : ∀ i, i < cs.length → ChSame (cs.getD i eChange.zero) (ds.getD i eChange.zero)
  r : ∀ i, i < cs.length → rl.getD i [] = rm.getD i []

theorem sameCh_ok (u v : Value) (cs ds : List SChange) (rl rm : List (List SRule)) (w : World) (hu : IsSl eChange w u cs) (hv : IsSl eChange w v ds) (hcs : ChsAt w cs rl) (hds : ChsAt w ds rm) (hss : ChsSame cs ds rl rm) : Calls Tryz.prog 25 #[u, v] w (RetV w (.bool true)) := by
  have hle := hu.le
  have hle2 := hv.le
  have hnn := hss.n
  refine enter0 75 Tryz.func25 rfl rfl (Nat.le_of_ble_eq_true rfl) ?_
  refine seq (region (cons (opv (Ev.assign (.c (v := .bool false) rfl)) ?_)))
  refine nil (pN (seq (seq (region (cons (opv (Ev.move (.t rfl)) (cons (opv (Ev.len Tryz.underlying41 (.t rfl) (fun w I => hu.keep0 I.keeps)) ?_))))))))
  refine cons (opv (Ev.move (.t rfl)) (cons (opv (Ev.len Tryz.underlying41 (.t rfl) (fun w I => hv.keep0 I.keeps)) ?_)))
  refine cons (opv (Ev.to (v' := .bool false) (Ev.neq_i (.t rfl) (.t rfl)) (congrArg Value.bool (decide_eq_false (fun h => h (by rw [hss.n]))))) ?_)
  refine nil (pN (condF rfl (rfl) ?_))
  refine skip (pN (seq (seq (region (cons (opv (Ev.assign (.c (v := I 0) rfl)) ?_))))))
  refine nil (pN (block (lp (X := Int) (fun x : Int => (0 ≤ x ∧ x ≤ cs.length)) (fun x : Int => [(0, true, u), (1, true, v), (5, true, I x)]) (fun x : Int => []) (fun x : Int => (cs.length - x).toNat) (0) ?_ (fun x hx => ?_))))
  · omega
  obtain ⟨i, rfl⟩ : ∃ y, y = x := ⟨x, rfl⟩
  have hi : 0 ≤ i ∧ i ≤ cs.length := hx
  clear hx
  show Sat _ _ [(0, true, u), (1, true, v), (5, true, I i)] []
  refine seq (seq (region (cons (opv (Ev.move (.t rfl)) (cons (opv (Ev.move (.t rfl)) (cons (opv (Ev.len Tryz.underlying41 (.t rfl) (fun w I => hu.keep0 I.keeps)) ?_))))))))
  refine cons (opv (Ev.lss_i (.t rfl) (.t rfl)) ?_)
  refine nil (pN ?_)
  first | refine condD rfl (fun h1 => ?_) (fun h1 => ?_) | refine cond rfl (fun h1 => ?_) (fun h1 => ?_)
  · try simp only [nb] at h1
    refine skip (pN (seq (block (cut (X := Nat × Nat) (fun x : Nat × Nat => True) (fun x : Nat × Nat => [(0, true, u), (1, true, v), (5, true, I i), (6, true, .pointer (some ⟨x.1, 0, none⟩)), (7, true, .pointer (some ⟨x.2, 0, none⟩))]) (fun x : Nat × Nat => [Var x.1 eChange (cs.getD i.toNat eChange.zero) 61, Var x.2 eChange (ds.getD i.toNat eChange.zero) 61]) ?_ (fun x hx => ?_)))))
    · refine draw' (by kernel_rfl) ?_
      refine tk 0 rfl (Ev.move (.t rfl)) ?_
      refine tk 1 rfl (Ev.move (.t rfl)) ?_
      refine tk 2 rfl (Ev.indexAddr Tryz.underlying41 ty61 (.t rfl) (.t rfl) (fun w I => hu.keep0 I.keeps) (fun _ => by omega)) ?_
      refine tk 3 rfl (Ev.loadS0 ty61 (.t rfl) (fun w I => hu.keep0 I.keeps) (fun _ => by omega)) ?_
      refine tk 4 rfl (Ev.move (.t rfl)) ?_
      refine tk 5 rfl (Ev.move (.t rfl)) ?_
      refine tk 6 rfl (Ev.indexAddr Tryz.underlying41 ty61 (.t rfl) (.t rfl) (fun w I => hv.keep0 I.keeps) (fun _ => by omega)) ?_
      refine tk 7 rfl (Ev.loadS0 ty61 (.t rfl) (fun w I => hv.keep0 I.keeps) (fun _ => by omega)) ?_
      refine all [8, 9] (by kernel_rfl) (by decide) (.cons rfl ?_ (.cons rfl ?_ .nil))
      · refine (alloc z61 (fun b1 => ?_))
        refine hdn (al1 9 rfl ((alloc z61 (fun b2 => ?_))))
        refine hdn (al1 10 rfl ((stv ty61 (Lens.id _) (.t rfl) (.t rfl) ?_)))
        refine hdn (al1 11 rfl ((stv ty61 (Lens.id _) (.t rfl) (.t rfl) ?_)))
        refine hdn (ovr (pN (mtP (X := Nat × Nat) (_, _) trivial)))
      · refine (alloc z61 (fun b3 => ?_))
        refine hdn (al1 8 rfl ((alloc z61 (fun b4 => ?_))))
        refine hdn (al1 10 rfl ((stv ty61 (Lens.id _) (.t rfl) (.t rfl) ?_)))
        refine hdn (al1 11 rfl ((stv ty61 (Lens.id _) (.t rfl) (.t rfl) ?_)))
        refine hdn (ovr (pN (mtP (X := Nat × Nat) (_, _) trivial)))
    obtain ⟨p6, p7⟩ := x
    show Sat _ _ [(0, true, u), (1, true, v), (5, true, I i), (6, true, .pointer (some ⟨p6, 0, none⟩)), (7, true, .pointer (some ⟨p7, 0, none⟩))] [Var p6 eChange (cs.getD i.toNat eChange.zero) 61, Var p7 eChange (ds.getD i.toNat eChange.zero) 61]
    have he := hss.ch i.toNat (by omega)
    have hrr := hss.r i.toNat (by omega)
    refine seq (region (cons (opv (Ev.fieldAddr (o := 0) (.t rfl) (by kernel_rfl)) ?_)))
    refine cons (opv (Ev.ldv ty3 (.t rfl) SChange.l_kind) ?_)
    refine cons (opv (Ev.fieldAddr (o := 0) (.t rfl) (by kernel_rfl)) ?_)
    refine cons (opv (Ev.ldv ty3 (.t rfl) SChange.l_kind) ?_)
    refine cons (opv (Ev.to (v' := .bool false) (Ev.neq_i (.t rfl) (.t rfl)) (congrArg Value.bool (decide_eq_false (fun h => h he.1)))) ?_)
    refine cons (opv (Ev.move (.t rfl)) (cons (opg rfl rfl (Ev.fieldAddr (o := 1) (.t rfl) (by kernel_rfl)) ?_)))
    refine cons (opg rfl rfl (Ev.ldv ty3 (.g rfl id) SChange.l_port) ?_)
    refine cons (opg rfl rfl (Ev.fieldAddr (o := 1) (.t rfl) (by kernel_rfl)) ?_)
    refine cons (opg rfl rfl (Ev.ldv ty3 (.g rfl id) SChange.l_port) ?_)
    refine cons (opg rfl rfl (Ev.to (v' := .bool false) (Ev.neq_i (.g rfl id) (.g rfl id)) (congrArg Value.bool (decide_eq_false (fun h => h he.2.1)))) ?_)
    refine cons (opv (Ev.to (v' := .bool false) (Ev.pickO (.t rfl) (.c (v := .bool true) rfl) (fun {_} h => by cases h; rfl) ⟨_, rfl⟩ (by intro h1 h; first | (rw [h] <;> rfl) | (rw [h1, h] <;> rfl) | (rw [h, h1] <;> rfl) | simp_all)) (rfl)) ?_)
    refine cons (opv (Ev.move (.t rfl)) (cons (opg rfl rfl (Ev.fieldAddr (o := 2) (.t rfl) (by kernel_rfl)) ?_)))
    refine cons (opg rfl rfl (Ev.ldv ty52 (.g rfl id) SChange.l_route) ?_)
    refine cons (opg rfl rfl (Ev.fieldAddr (o := 2) (.t rfl) (by kernel_rfl)) ?_)
    refine cons (opg rfl rfl (Ev.ldv ty52 (.g rfl id) SChange.l_route) ?_)
    refine cons (opg rfl rfl (Ev.to (v' := .bool false) (Ev.neqS rfl eqok52 rfl (by kernel_rfl) (.g rfl id) (.g rfl id)) (congrArg Value.bool (by show (!SRoute.eqb (cs.getD i.toNat eChange.zero).route (ds.getD i.toNat eChange.zero).route) = false; rw [he.2.2.1, SRoute.eqb_self]; rfl))) ?_)
    refine cons (opv (Ev.to (v' := .bool false) (Ev.pickO (.t rfl) (.c (v := .bool true) rfl) (fun {_} h => by cases h; rfl) ⟨_, rfl⟩ (by intro h1 h; first | (rw [h] <;> rfl) | (rw [h1, h] <;> rfl) | (rw [h, h1] <;> rfl) | simp_all)) (rfl)) ?_)
    refine cons (opv (Ev.move (.t rfl)) (cons (opg rfl rfl (Ev.fieldAddr (o := 21) (.t rfl) (by kernel_rfl)) ?_)))
    refine cons (opg rfl rfl (Ev.ldv ty57 (.g rfl id) SChange.l_meter) ?_)
    refine cons (opg rfl rfl (Ev.fieldAddr (o := 21) (.t rfl) (by kernel_rfl)) ?_)
    refine cons (opg rfl rfl (Ev.ldv ty57 (.g rfl id) SChange.l_meter) ?_)
    refine cons (opg rfl rfl (Ev.to (v' := .bool false) (Ev.neqS rfl eqok57 rfl (by kernel_rfl) (.g rfl id) (.g rfl id)) (congrArg Value.bool (by show (!SMeterConf.eqb (cs.getD i.toNat eChange.zero).meter (ds.getD i.toNat eChange.zero).meter) = false; rw [he.2.2.2.1, SMeterConf.eqb_self]; rfl))) ?_)
    refine cons (opv (Ev.to (v' := .bool false) (Ev.pickO (.t rfl) (.c (v := .bool true) rfl) (fun {_} h => by cases h; rfl) ⟨_, rfl⟩ (by intro h1 h; first | (rw [h] <;> rfl) | (rw [h1, h] <;> rfl) | (rw [h, h1] <;> rfl) | simp_all)) (rfl)) ?_)
    refine cons (opv (Ev.move (.t rfl)) (cons (opg rfl rfl (Ev.fieldAddr (o := 25) (.t rfl) (by kernel_rfl)) ?_)))
    refine cons (opg rfl rfl (Ev.ldv ty59 (.g rfl id) SChange.l_mirror) ?_)
    refine cons (opg rfl rfl (Ev.fieldAddr (o := 25) (.t rfl) (by kernel_rfl)) ?_)
    refine cons (opg rfl rfl (Ev.ldv ty59 (.g rfl id) SChange.l_mirror) ?_)
    refine cons (opg rfl rfl (Ev.to (v' := .bool false) (Ev.neqS rfl eqok59 rfl (by kernel_rfl) (.g rfl id) (.g rfl id)) (congrArg Value.bool (by show (!SMirrorConf.eqb (cs.getD i.toNat eChange.zero).mirror (ds.getD i.toNat eChange.zero).mirror) = false; rw [he.2.2.2.2.1, SMirrorConf.eqb_self]; rfl))) ?_)
    refine cons (opv (Ev.to (v' := .bool false) (Ev.pickO (.t rfl) (.c (v := .bool true) rfl) (fun {_} h => by cases h; rfl) ⟨_, rfl⟩ (by intro h1 h; first | (rw [h] <;> rfl) | (rw [h1, h] <;> rfl) | (rw [h, h1] <;> rfl) | simp_all)) (rfl)) ?_)
    refine cons (opv (Ev.move (.t rfl)) (cons (opg rfl rfl (Ev.fieldAddr (o := 29) (.t rfl) (by kernel_rfl)) ?_)))
    refine cons (opg rfl rfl (Ev.ldv ty3 (.g rfl id) SChange.l_default) ?_)
    refine cons (opg rfl rfl (Ev.fieldAddr (o := 29) (.t rfl) (by kernel_rfl)) ?_)
    refine cons (opg rfl rfl (Ev.ldv ty3 (.g rfl id) SChange.l_default) ?_)
    refine cons (opg rfl rfl (Ev.to (v' := .bool false) (Ev.neq_i (.g rfl id) (.g rfl id)) (congrArg Value.bool (decide_eq_false (fun h => h he.2.2.2.2.2)))) ?_)
    refine cons (opv (Ev.to (v' := .bool false) (Ev.pickO (.t rfl) (.c (v := .bool true) rfl) (fun {_} h => by cases h; rfl) ⟨_, rfl⟩ (by intro h1 h; first | (rw [h] <;> rfl) | (rw [h1, h] <;> rfl) | (rw [h, h1] <;> rfl) | simp_all)) (rfl)) ?_)
    refine cons (opv (Ev.move (.t rfl)) (cons (opg rfl rfl (Ev.fieldAddr (o := 28) (.t rfl) (by kernel_rfl)) ?_)))
    refine cons (opg rfl rfl (Ev.ldv ty24 (.g rfl id) SChange.l_rules) ?_)
    refine cons (opg rfl rfl (Ev.fieldAddr (o := 28) (.t rfl) (by kernel_rfl)) ?_)
    refine cons (opg rfl rfl (Ev.ldv ty24 (.g rfl id) SChange.l_rules) ?_)
    refine cons (callg rfl rfl en59 (.cons (.g rfl id) (.cons (.g rfl id) .nil)) (fun hg w I => sameRules_ok _ _ (rl.getD i.toNat []) (rm.getD i.toNat []) w ((hcs.keep0 I.keeps).sl i.toNat (by omega)) ((hds.keep0 I.keeps).sl i.toNat (by omega))) ?_)
    refine cons (opg rfl rfl (Ev.to (v' := .bool false) (Ev.not (.g rfl id)) (congrArg Value.bool (by show (!decide (rl.getD i.toNat [] = rm.getD i.toNat [])) = false; rw [hrr]; simp))) ?_)
    refine cons (opv (Ev.to (v' := .bool false) (Ev.pickO (.t rfl) (.c (v := .bool true) rfl) (fun {_} h => by cases h; rfl) ⟨_, rfl⟩ (by intro h1 h; first | (rw [h] <;> rfl) | (rw [h1, h] <;> rfl) | (rw [h, h1] <;> rfl) | simp_all)) (rfl)) ?_)
    refine nil (pN (condF rfl (rfl) ?_))
    refine skip (bN (pN (region (cons (opv (Ev.move (.t rfl)) (cons (opv (Ev.add_i (.t rfl) (.c (v := I 1) rfl) (fun _ => by omega)) ?_)))))))
    refine cons (opv (Ev.assign (.t rfl)) (nil (pN (nx (X := Int) (i + 1) ?_ ?_))))
    · try dsimp only
      omega
    · try dsimp only
      omega
  · try simp only [nb] at h1
    refine exit (pX (pX (bX (pN (seq (region (cons (opv (Ev.assign (.c (v := .bool true) rfl)) ?_))))))))
    refine nil (pN (ret (done rfl (.tmp rfl .nil) (retE ?_))))
    rfl
end Go.Proofs.YtnoobdijbpmjkaaGreat

/- conf -/
namespace Go.Proofs.YtnoobdijbpmjkaaGreat
open Go Go.Gx

def OptR (b : Bool) (r : Res) : Res := bif b then r else Emp
theorem emp_in {K : Ctx} {F : Fr} {L M : List Res} {r : Res} {X : Act → World → Prop} (next : Sat K X F (r :: Emp :: M)) (h : L = r :: M) : Sat K X F L := fun a w G => by
  subst h
  refine next a w (G.world ?_)
  obtain ⟨h1, h2, h3⟩ := G.inv
  rw [List.pairwise_cons] at h3
  refine ⟨h1, ?_, List.pairwise_cons.2 ⟨?_, List.pairwise_cons.2 ⟨fun s _ b hb _ => hb.elim, h3.2⟩⟩⟩
  · intro s hs
    rcases List.mem_cons.1 hs with rfl | hs
    · exact h2 _ List.mem_cons_self
    · rcases List.mem_cons.1 hs with rfl | hs
      · exact ⟨trivial, fun b hb => hb.elim⟩
      · exact h2 _ (List.mem_cons_of_mem _ hs)
  · intro s hs
    rcases List.mem_cons.1 hs with rfl | hs
    · exact fun b _ hb => hb.elim
    · exact h3.1 s hs
theorem opt_open {K : Ctx} {F : Fr} {M : List Res} {X : Act → World → Prop} (i : Int) (j : Nat) (c rv : OV) (us : List SRule) (h1 : i = j → c = rv) (h2 : i ≠ j → c = nilSl)
    (next : ∀ ys : List SRule, ys.length ≤ us.length → Sat K X F (OwnS c.v eRule ys 76 :: OptR (decide (i + 1 ≤ j)) (OwnS rv.v eRule us 76) :: M)) : Sat K X F (OptR (decide (i ≤ j)) (OwnS rv.v eRule us 76) :: M) := by
  rcases Int.lt_trichotomy i j with h | h | h
  · rw [h2 (by omega)] at next
    rw [decide_eq_true (show i ≤ (j : Int) by omega)]
    rw [decide_eq_true (show i + 1 ≤ (j : Int) by omega)] at next
    exact takeNil eRule 76 (next [] (Nat.zero_le _))
  · rw [h1 h] at next
    rw [decide_eq_true (show i ≤ (j : Int) by omega)]
    rw [decide_eq_false (show ¬ i + 1 ≤ (j : Int) by omega)] at next
    exact emp_in (next us (Nat.le_refl _)) rfl
  · rw [h2 (by omega)] at next
    rw [decide_eq_false (show ¬ i ≤ (j : Int) by omega)]
    rw [decide_eq_false (show ¬ i + 1 ≤ (j : Int) by omega)] at next
    exact takeNil eRule 76 (next [] (Nat.zero_le _))
theorem getD_set_self {α : Type} (l : List α) (i : Nat) (x z : α) (h : i < l.length) : (l.set i x).getD i z = x := by simp [List.getD, h]
theorem getD_set_ne {α : Type} (l : List α) (i m : Nat) (x z : α) (h : i ≠ m) : (l.set i x).getD m z = l.getD m z := by simp [List.getD, List.getElem?_set_ne h]

theorem spoilCh_ok (u rv : OV) (cs : List SChange) (us : List SRule) (j : Nat) (w : World) (h : At (Sep (OwnS u.v eChange cs 61) (OwnS rv.v eRule us 76)) w) (hj : ∀ i, i < cs.length → i ≠ j → (cs.getD i eChange.zero).rules = nilSl) (hj2 : j < cs.length → (cs.getD j eChange.zero).rules = rv) (hul : us.length ≤ 2000) : Calls Tryz.prog 26 #[u.v] w (RetR w (Sep (OwnS u.v eChange cs 61) (OwnS rv.v eRule us 76)) (fun _ : Unit => True) (fun _ => .tuple #[]) (fun _ => Emp)) := by
  have hle := (IsSl.of_own h.1.1).le
  refine enter (Sep (OwnS u.v eChange cs 61) (OwnS rv.v eRule us 76)).foot 49 [_] Tryz.func26 rfl rfl (Nat.le_of_ble_eq_true rfl) (start_at h) ?_
  refine sepOut Rem.head ?_
  refine seq (region (cons (opv (Ev.assign (.c (v := I 0) rfl)) ?_)))
  refine nil (pN (block (lp (X := Int × (List SChange)) (fun x : Int × (List SChange) => (0 ≤ x.1 ∧ x.1 ≤ cs.length) ∧ (x.2.length = cs.length) ∧ (∀ m : Nat, x.1 ≤ m → x.2.getD m eChange.zero = cs.getD m eChange.zero)) (fun x : Int × (List SChange) => [(0, true, u.v), (2, true, I x.1)]) (fun x : Int × (List SChange) => [OwnS u.v eChange x.2 61, OptR (decide (x.1 ≤ j)) (OwnS rv.v eRule us 76)]) (fun x : Int × (List SChange) => (cs.length - x.1).toNat) (0, cs) ⟨?_, ?_, ?_⟩ (fun x hx => ?_) (hL := (by rw [decide_eq_true (show (0 : Int) ≤ (j : Int) by omega)]; repeat first | exact sR | exact sN | apply sC | apply sS | apply sA)))))
  · omega
  · rfl
  · intro m hm; rfl
  obtain ⟨i, ds⟩ := x
  obtain ⟨hi, hd, hs⟩ : (0 ≤ i ∧ i ≤ cs.length) ∧ (ds.length = cs.length) ∧ (∀ m : Nat, i ≤ m → ds.getD m eChange.zero = cs.getD m eChange.zero) := hx
  show Sat _ _ [(0, true, u.v), (2, true, I i)] [OwnS u.v eChange ds 61, OptR (decide (i ≤ j)) (OwnS rv.v eRule us 76)]
  refine seq (seq (region (cons (opv (Ev.move (.t rfl)) (cons (opv (Ev.move (.t rfl)) (cons (opv (Ev.len Tryz.underlying41 (.t rfl) (by first | exact isSl_own (by repeat first | exact mH | apply mT | apply mA) | exact fun w I => IsSl.keep0 (by assumption) I.keeps)) ?_))))))))
  refine cons (opv (Ev.lss_i (.t rfl) (.t rfl)) ?_)
  refine nil (pN ?_)
  first | refine condD rfl (fun h0 => ?_) (fun h0 => ?_) | refine cond rfl (fun h0 => ?_) (fun h0 => ?_)
  · try simp only [nb] at h0
    refine skip (pN (seq (block (seq (seq (arr (L' := [OptR (decide (i ≤ j)) (OwnS rv.v eRule us 76), OwnS u.v eChange ds 61]) (.cons (.tail .head) (.cons .head .nil)) ?_))))))
    refine opt_open i j (ds.getD i.toNat eChange.zero).rules rv us (fun e => ?_) (fun e => ?_) (fun ys hys => ?_)
    · rw [hs _ (by omega), show i.toNat = j by omega]; exact hj2 (by omega)
    · rw [hs _ (by omega)]; exact hj _ (by omega) (by omega)
    refine arr (L' := [OwnS u.v eChange ds 61, OwnS (ds.getD i.toNat eChange.zero).rules.v eRule ys 76, OptR (decide (i + 1 ≤ j)) (OwnS rv.v eRule us 76)]) (.cons (.tail (.tail .head)) (.cons .head (.cons .head .nil))) ?_
    refine region (cons (opv (Ev.assign (.c (v := I 0) rfl)) ?_))
    refine nil (pN (block (lp (X := Int × (List SRule)) (fun x : Int × (List SRule) => (0 ≤ x.1 ∧ x.1 ≤ ys.length) ∧ (x.2.length = ys.length)) (fun x : Int × (List SRule) => [(0, true, u.v), (2, true, I i), (3, true, I x.1)]) (fun x : Int × (List SRule) => [OwnS u.v eChange ds 61, OwnS (ds.getD i.toNat eChange.zero).rules.v eRule x.2 76, OptR (decide (i + 1 ≤ j)) (OwnS rv.v eRule us 76)]) (fun x : Int × (List SRule) => (ys.length - x.1).toNat) (0, ys) ⟨?_, ?_⟩ (fun x hx => ?_) (hL := (by repeat first | exact sR | exact sN | apply sC | apply sS)))))
    · omega
    · rfl
    obtain ⟨k, zs⟩ := x
    obtain ⟨hk, hz⟩ : (0 ≤ k ∧ k ≤ ys.length) ∧ (zs.length = ys.length) := hx
    show Sat _ _ [(0, true, u.v), (2, true, I i), (3, true, I k)] [OwnS u.v eChange ds 61, OwnS (ds.getD i.toNat eChange.zero).rules.v eRule zs 76, OptR (decide (i + 1 ≤ j)) (OwnS rv.v eRule us 76)]
    refine seq (seq (region (cons (opv (Ev.move (.t rfl)) (cons (opv (Ev.move (.t rfl)) (cons (opv (Ev.move (.t rfl)) (cons (opv (Ev.indexAddr Tryz.underlying41 ty61 (.t rfl) (.t rfl) (by first | exact isSl_own (by repeat first | exact mH | apply mT | apply mA) | exact fun w I => IsSl.keep0 (by assumption) I.keeps) (fun _ => by omega)) ?_))))))))))
    refine cons (opv (Ev.fieldAddrS (o := 28) (i := i) (.t rfl) (by first | exact isSl_own (by repeat first | exact mH | apply mT | apply mA) | exact fun w I => IsSl.keep0 (by assumption) I.keeps) (fun _ => by omega) (by kernel_rfl)) ?_)
    refine cons (opv (Ev.loadS ty24 SChange.l_rules rfl (.t rfl) (by first | exact isSl_own (by repeat first | exact mH | apply mT | apply mA) | exact fun w I => IsSl.keep0 (by assumption) I.keeps) (fun _ => by omega)) ?_)
    refine cons (opv (Ev.len Tryz.underlying24 (.t rfl) (by first | exact isSl_own (by repeat first | exact mH | apply mT | apply mA) | exact fun w I => IsSl.keep0 (by assumption) I.keeps)) ?_)
    refine cons (opv (Ev.lss_i (.t rfl) (.t rfl)) ?_)
    refine nil (pN ?_)
    first | refine condD rfl (fun h1 => ?_) (fun h1 => ?_) | refine cond rfl (fun h1 => ?_) (fun h1 => ?_)
    · try simp only [nb] at h1
      refine skip (pN (seq (block (region (cons (opv (Ev.move (.t rfl)) (cons (opv (Ev.move (.t rfl)) (cons (opv (Ev.indexAddr Tryz.underlying41 ty61 (.t rfl) (.t rfl) (by first | exact isSl_own (by repeat first | exact mH | apply mT | apply mA) | exact fun w I => IsSl.keep0 (by assumption) I.keeps) (fun _ => by omega)) ?_))))))))))
      refine cons (opv (Ev.fieldAddrS (o := 28) (i := i) (.t rfl) (by first | exact isSl_own (by repeat first | exact mH | apply mT | apply mA) | exact fun w I => IsSl.keep0 (by assumption) I.keeps) (fun _ => by omega) (by kernel_rfl)) ?_)
      refine cons (opv (Ev.loadS ty24 SChange.l_rules rfl (.t rfl) (by first | exact isSl_own (by repeat first | exact mH | apply mT | apply mA) | exact fun w I => IsSl.keep0 (by assumption) I.keeps) (fun _ => by omega)) ?_)
      refine cons (opv (Ev.move (.t rfl)) (cons (opv (Ev.buildS (fs := _) (places := [(0, 1), (1, 44), (45, 1), (46, 1), (47, 1), (48, 1)]) z76 rfl Tryz.underlying76 (by kernel_rfl) (.cons (.c (v := I (-9)) rfl) .nil) (Fills.cons SRule.l_out rfl Fills.nil)) ?_)))
      refine cons (opv (Ev.indexAddr Tryz.underlying24 ty76 (.t rfl) (.t rfl) (by first | exact isSl_own (by repeat first | exact mH | apply mT | apply mA) | exact fun w I => IsSl.keep0 (by assumption) I.keeps) (fun _ => by omega)) ?_)
      refine cons (storeS0 ty76 (.t rfl) (.t rfl) (by repeat first | exact Upd.head | apply Upd.tail | apply Upd.right) (by omega) ?_)
      refine nil (bN (pN (region (cons (opv (Ev.move (.t rfl)) (cons (opv (Ev.add_i (.t rfl) (.c (v := I 1) rfl) (fun _ => by omega)) ?_)))))))
      refine cons (opv (Ev.assign (.t rfl)) (nil (pN (nx (X := Int × (List SRule)) (k + 1, _) ⟨?_, ?_⟩ ?_))))
      · try dsimp only
        omega
      · try dsimp only
        rw [List.length_set]; exact hz
      · try dsimp only
        omega
    · try simp only [nb] at h1
      refine exit (pX (pX (bX (pN (seq (seq (region (cons (opv (Ev.assign (.c (v := I 0) rfl)) ?_)))))))))
      refine nil (pN (block (lp (X := Int × OV × (List SRule) × (List SChange)) (fun x : Int × OV × (List SRule) × (List SChange) => (0 ≤ x.1 ∧ x.1 ≤ 9) ∧ ((x.2.2.1.length : Int) = ys.length + x.1) ∧ (x.2.2.2.length = cs.length) ∧ (∀ m : Nat, i < m → x.2.2.2.getD m eChange.zero = cs.getD m eChange.zero) ∧ ((x.2.2.2.getD i.toNat eChange.zero).rules = x.2.1)) (fun x : Int × OV × (List SRule) × (List SChange) => [(0, true, u.v), (2, true, I i), (4, true, I x.1)]) (fun x : Int × OV × (List SRule) × (List SChange) => [OwnS u.v eChange x.2.2.2 61, OwnS x.2.1.v eRule x.2.2.1 76, OptR (decide (i + 1 ≤ j)) (OwnS rv.v eRule us 76)]) (fun x : Int × OV × (List SRule) × (List SChange) => (9 - x.1).toNat) (0, _, zs, ds) ⟨?_, ?_, ?_, ?_, ?_⟩ (fun x hx => ?_))))
      · omega
      · dsimp only; omega
      · exact hd
      · intro m hm; exact hs m (by first | omega | (dsimp only at hm; omega))
      · rfl
      obtain ⟨q, o, zs2, ds2⟩ := x
      obtain ⟨hq, hz2, hd2, hs2, ho⟩ : (0 ≤ q ∧ q ≤ 9) ∧ ((zs2.length : Int) = ys.length + q) ∧ (ds2.length = cs.length) ∧ (∀ m : Nat, i < m → ds2.getD m eChange.zero = cs.getD m eChange.zero) ∧ ((ds2.getD i.toNat eChange.zero).rules = o) := hx
      show Sat _ _ [(0, true, u.v), (2, true, I i), (4, true, I q)] [OwnS u.v eChange ds2 61, OwnS o.v eRule zs2 76, OptR (decide (i + 1 ≤ j)) (OwnS rv.v eRule us 76)]
      refine seq (seq (region (cons (opv (Ev.move (.t rfl)) (cons (opv (Ev.lss_i (.t rfl) (.c (v := I 9) rfl)) ?_))))))
      refine nil (pN ?_)
      first | refine condD rfl (fun h2 => ?_) (fun h2 => ?_) | refine cond rfl (fun h2 => ?_) (fun h2 => ?_)
      · try simp only [nb] at h2
        refine skip (pN (seq (block (region (cons (opv (Ev.move (.t rfl)) (cons (opv (Ev.move (.t rfl)) (cons (opv (Ev.move (.t rfl)) (cons (opv (Ev.move (.t rfl)) (cons (opv (Ev.indexAddr Tryz.underlying41 ty61 (.t rfl) (.t rfl) (by first | exact isSl_own (by repeat first | exact mH | apply mT | apply mA) | exact fun w I => IsSl.keep0 (by assumption) I.keeps) (fun _ => by omega)) ?_))))))))))))))
        refine cons (opv (Ev.fieldAddrS (o := 28) (i := i) (.t rfl) (by first | exact isSl_own (by repeat first | exact mH | apply mT | apply mA) | exact fun w I => IsSl.keep0 (by assumption) I.keeps) (fun _ => by omega) (by kernel_rfl)) ?_)
        refine cons (opv (Ev.to (v' := o.v) (Ev.loadS ty24 SChange.l_rules rfl (.t rfl) (by first | exact isSl_own (by repeat first | exact mH | apply mT | apply mA) | exact fun w I => IsSl.keep0 (by assumption) I.keeps) (fun _ => by omega)) (congrArg OV.v ho)) ?_)
        refine cons (opv (Ev.buildS (fs := _) (places := [(0, 1), (1, 44), (45, 1), (46, 1), (47, 1), (48, 1)]) z76 rfl Tryz.underlying76 (by kernel_rfl) (.cons (.c (v := I (-8)) rfl) .nil) (Fills.cons SRule.l_out rfl Fills.nil)) ?_)
        refine cons (buildSlice (E := eRule) Tryz.underlying24 ty76 z76 (.cons (.t rfl) .nil) rfl rfl (fun v1 => ?_))
        refine cons (app (E := eRule) Tryz.underlying24 ty76 zb76 zs76 (.t rfl) (.t rfl) (fun v2 => ?_) (hby := ⟨by (show _ ≤ 9223372036854775807); simp only [List.length_cons, List.length_nil]; omega, by simp only [List.length_cons, List.length_nil]; omega⟩))
        refine cons (opv (Ev.indexAddr Tryz.underlying41 ty61 (.t rfl) (.t rfl) (by first | exact isSl_own (by repeat first | exact mH | apply mT | apply mA) | exact fun w I => IsSl.keep0 (by assumption) I.keeps) (fun _ => by omega)) ?_)
        refine cons (opv (Ev.fieldAddrS (o := 28) (i := i) (.t rfl) (by first | exact isSl_own (by repeat first | exact mH | apply mT | apply mA) | exact fun w I => IsSl.keep0 (by assumption) I.keeps) (fun _ => by omega) (by kernel_rfl)) ?_)
        refine cons (storeS ty24 SChange.l_rules rfl (.t rfl) (.t rfl) (by repeat first | exact Upd.head | apply Upd.tail | apply Upd.right) (by omega) ?_)
        refine nil (bN (pN (region (cons (opv (Ev.move (.t rfl)) (cons (opv (Ev.add_i (.t rfl) (.c (v := I 1) rfl) (fun _ => by omega)) ?_)))))))
        refine cons (opv (Ev.assign (.t rfl)) (nil (pN (nxP (X := Int × OV × (List SRule) × (List SChange)) (q + 1, v2, _, _) ⟨?_, ?_, ?_, ?_, ?_⟩ ?_))))
        · try dsimp only
          omega
        · try dsimp only
          simp only [List.length_append, List.length_cons, List.length_nil]; omega
        · try dsimp only
          rw [List.length_set]; exact hd2
        · try dsimp only
          intro m hm
          rw [getD_set_ne _ _ _ _ _ (by omega)]
          exact hs2 m hm
        · try dsimp only
          rw [getD_set_self _ _ _ _ (by omega)]
          rfl
        · try dsimp only
          omega
      · try simp only [nb] at h2
        refine exit (pX (pX (bX (pN (region (cons (opv (Ev.move (.t rfl)) (cons (opv (Ev.move (.t rfl)) (cons (opv (Ev.buildS (fs := _) (places := [(0, 1), (1, 1), (2, 19), (21, 4), (25, 3), (28, 1), (29, 1)]) z61 rfl Tryz.underlying61 (by kernel_rfl) (.cons (.c (v := I (-9)) rfl) .nil) (Fills.cons SChange.l_kind rfl Fills.nil)) ?_)))))))))))
        refine cons (opv (Ev.indexAddr Tryz.underlying41 ty61 (.t rfl) (.t rfl) (by first | exact isSl_own (by repeat first | exact mH | apply mT | apply mA) | exact fun w I => IsSl.keep0 (by assumption) I.keeps) (fun _ => by omega)) ?_)
        refine cons (storeS0 ty61 (.t rfl) (.t rfl) (by repeat first | exact Upd.head | apply Upd.tail | apply Upd.right) (by omega) ?_)
        refine nil (bN (pN (region (cons (opv (Ev.move (.t rfl)) (cons (opv (Ev.add_i (.t rfl) (.c (v := I 1) rfl) (fun _ => by omega)) ?_)))))))
        refine cons (opv (Ev.assign (.t rfl)) (nil (pN (nxP (X := Int × (List SChange)) (i + 1, _) ⟨?_, ?_, ?_⟩ ?_))))
        · try dsimp only
          omega
        · try dsimp only
          rw [List.length_set]; exact hd2
        · try dsimp only
          intro m hm
          rw [getD_set_ne _ _ _ _ _ (by omega)]
          exact hs2 m (by omega)
        · try dsimp only
          omega
  · try simp only [nb] at h0
    refine exit (pX (pX (bX (done' rfl .nil (fun w I => ?_)))))
    exact retD (n := 49) rfl w I
end Go.Proofs.YtnoobdijbpmjkaaGreat

/- conf -/
namespace Go.Proofs.YtnoobdijbpmjkaaGreat
open Go Go.Gx

/-- What the rules of changes read as. -/
def rlC (cs : List SChange) (us : List SRule) : List (List SRule) := cs.map (fun c => if c.kind = 9 then us else [])
theorem rlC_get (cs : List SChange) (us : List SRule) (i : Nat) (h : i < cs.length) : (rlC cs us).getD i [] = if (cs.getD i eChange.zero).kind = 9 then us else [] := by
  unfold rlC
  simp [List.getD, h]
def ChK (rv : OV) (c : SChange) : Prop := (c.kind = 9 ∧ c.rules = rv) ∨ (c.kind ≠ 9 ∧ c.rules = nilSl)
theorem gone_k {α κ : Type} {q : κ → κ → Bool} {f : α → κ} {m : List (κ × Int)} {mk : α → SChange} {l : List α} (h : ∀ x, (mk x).kind ≠ 9 ∧ (mk x).rules = nilSl) : ∀ c ∈ goneL q f m mk l, c.kind ≠ 9 ∧ c.rules = nilSl := by
  intro c hc
  unfold goneL at hc
  obtain ⟨x, _, rfl⟩ := List.mem_map.1 hc
  exact h x
theorem chPort_k (k : Int) (h : k ≠ 9) (x : Int) : (chPort k x).kind ≠ 9 ∧ (chPort k x).rules = nilSl := ⟨h, rfl⟩
theorem chRoute_k (k : Int) (h : k ≠ 9) (x : SRoute) : (chRoute k x).kind ≠ 9 ∧ (chRoute k x).rules = nilSl := ⟨h, rfl⟩
theorem chMeter_k (k : Int) (h : k ≠ 9) (x : SMeterConf) : (chMeter k x).kind ≠ 9 ∧ (chMeter k x).rules = nilSl := ⟨h, rfl⟩
theorem chMirror_k (k : Int) (h : k ≠ 9) (x : SMirrorConf) : (chMirror k x).kind ≠ 9 ∧ (chMirror k x).rules = nilSl := ⟨h, rfl⟩
theorem diffs_k (l k : CL) (da db : Int) (rv : OV) : ∀ c ∈ diffs l k da db rv, ChK rv c := by
  intro c hc
  unfold diffs at hc
  simp only [List.mem_append, List.not_mem_nil, false_or] at hc
  rcases hc with ((((((((hc | hc) | hc) | hc) | hc) | hc) | hc) | hc) | hc) | hc
  · exact .inr (gone_k (fun x => chPort_k 1 (by decide) x) c hc)
  · exact .inr (gone_k (fun x => chMeter_k 5 (by decide) x) c hc)
  · exact .inr (gone_k (fun x => chMirror_k 7 (by decide) x) c hc)
  · exact .inr (gone_k (fun x => chRoute_k 3 (by decide) x) c hc)
  · split at hc
    · cases hc
    · rw [List.mem_singleton.1 hc]; exact .inl ⟨rfl, rfl⟩
  · split at hc
    · cases hc
    · rw [List.mem_singleton.1 hc]; exact .inr ⟨(by decide : (10 : Int) ≠ 9), rfl⟩
  · exact .inr (gone_k (fun x => chRoute_k 4 (by decide) (onlyR x)) c hc)
  · exact .inr (gone_k (fun x => chMeter_k 6 (by decide) (onlyM x)) c hc)
  · exact .inr (gone_k (fun x => chMirror_k 8 (by decide) (onlyX x)) c hc)
  · exact .inr (gone_k (fun x => chPort_k 2 (by decide) x) c hc)
def is9 (c : SChange) : Bool := decide (c.kind = 9)
theorem gone_9 {α κ : Type} {q : κ → κ → Bool} {f : α → κ} {m : List (κ × Int)} {mk : α → SChange} {l : List α} (h : ∀ x, (mk x).kind ≠ 9 ∧ (mk x).rules = nilSl) : (goneL q f m mk l).countP is9 = 0 := by
  rw [List.countP_eq_zero]
  intro c hc
  have := (gone_k h c hc).1
  unfold is9
  simpa using this
theorem diffs_9 (l k : CL) (da db : Int) (rv : OV) : (diffs l k da db rv).countP is9 ≤ 1 := by
  unfold diffs
  simp only [List.countP_append, List.countP_nil]
  rw [gone_9 (fun x => chPort_k 1 (by decide) x), gone_9 (fun x => chMeter_k 5 (by decide) x), gone_9 (fun x => chMirror_k 7 (by decide) x), gone_9 (fun x => chRoute_k 3 (by decide) x), gone_9 (fun x => chRoute_k 4 (by decide) (onlyR x)), gone_9 (fun x => chMeter_k 6 (by decide) (onlyM x)), gone_9 (fun x => chMirror_k 8 (by decide) (onlyX x)), gone_9 (fun x => chPort_k 2 (by decide) x)]
  have h1 : (if l.us = k.us then [] else [chRules rv]).countP is9 ≤ 1 := by
    split
    · simp
    · exact Nat.le_trans List.countP_le_length (by simp)
  have h2 : (if da = db then [] else [chDefault db]).countP is9 = 0 := by
    split
    · rfl
    · rfl
  omega
theorem uniq9 {α : Type} {p : α → Bool} (z : α) : ∀ (l : List α), l.countP p ≤ 1 → ∀ i j, i < j → j < l.length → p (l.getD i z) = true → p (l.getD j z) = true → False
  | [], _, i, j, _, h, _, _ => by simp at h
  | x :: l, h, i, j, hij, hj, h1, h2 => by
    obtain ⟨j, rfl⟩ : ∃ j', j = j' + 1 := ⟨j - 1, by omega⟩
    have hj' : j < l.length := by simpa using hj
    have h2' : p (l.getD j z) = true := by simpa [List.getD] using h2
    cases i with
    | zero =>
      have h1' : p x = true := by simpa [List.getD] using h1
      rw [List.countP_cons_of_pos (p := p) h1'] at h
      have h0 : l.countP p = 0 := by omega
      exact List.countP_eq_zero.1 h0 _ (getD_in _ _ _ hj') h2'
    | succ i =>
      have h1' : p (l.getD i z) = true := by simpa [List.getD] using h1
      refine uniq9 z l (Nat.le_trans ?_ h) i j (by omega) hj' h1' h2'
      rw [List.countP_cons]
      omega
theorem diffL_k (l k : CL) (da db : Int) (rv : OV) : ∀ c ∈ diffL l k da db rv, ChK rv c := by
  unfold diffL
  split
  · exact diffs_k l k da db rv
  · intro c hc; cases hc
theorem diffL_9 (l k : CL) (da db : Int) (rv : OV) : (diffL l k da db rv).countP is9 ≤ 1 := by
  unfold diffL
  split
  · exact diffs_9 l k da db rv
  · simp
theorem chs_diff {w : World} {cs : List SChange} {rv : OV} {us : List SRule} (hk : ∀ c ∈ cs, ChK rv c) (h : IsSl eRule w rv.v us) : ChsAt w cs (rlC cs us) := ⟨fun i hi => by
  rw [rlC_get cs us i hi]
  rcases hk _ (getD_in cs i eChange.zero hi) with ⟨h1, h2⟩ | ⟨h1, h2⟩
  · rw [if_pos h1, h2]; exact h
  · rw [if_neg h1, h2]; exact IsSl.nil _ w⟩
def setR (rv : OV) (c : SChange) : SChange := if c.kind = 9 then { c with rules := rv } else c
theorem setR_same (rv : OV) (c : SChange) : ChSame c (setR rv c) := by
  unfold setR
  split <;> exact ⟨rfl, rfl, rfl, rfl, rfl, rfl⟩
theorem gone_set {α κ : Type} {q : κ → κ → Bool} {f : α → κ} {m : List (κ × Int)} {mk : α → SChange} {l : List α} (rv : OV) (h : ∀ x, (mk x).kind ≠ 9 ∧ (mk x).rules = nilSl) : (goneL q f m mk l).map (setR rv) = goneL q f m mk l := by
  conv => rhs; rw [← List.map_id (goneL q f m mk l)]
  refine List.map_congr_left fun c hc => ?_
  unfold setR
  rw [if_neg (gone_k h c hc).1]
  rfl
theorem diffs_set (l k : CL) (da db : Int) (rv rv2 : OV) : diffs l k da db rv2 = (diffs l k da db rv).map (setR rv2) := by
  unfold diffs
  simp only [List.map_append, List.map_nil]
  rw [gone_set rv2 (fun x => chPort_k 1 (by decide) x), gone_set rv2 (fun x => chMeter_k 5 (by decide) x), gone_set rv2 (fun x => chMirror_k 7 (by decide) x), gone_set rv2 (fun x => chRoute_k 3 (by decide) x), gone_set rv2 (fun x => chRoute_k 4 (by decide) (onlyR x)), gone_set rv2 (fun x => chMeter_k 6 (by decide) (onlyM x)), gone_set rv2 (fun x => chMirror_k 8 (by decide) (onlyX x)), gone_set rv2 (fun x => chPort_k 2 (by decide) x)]
  have h1 : (if l.us = k.us then [] else [chRules rv]).map (setR rv2) = (if l.us = k.us then [] else [chRules rv2]) := by
    split
    · rfl
    · rfl
  have h2 : (if da = db then [] else [chDefault db]).map (setR rv2) = (if da = db then [] else [chDefault db]) := by
    split
    · rfl
    · rfl
  rw [h1, h2]
theorem diffL_set (l k : CL) (da db : Int) (rv rv2 : OV) : diffL l k da db rv2 = (diffL l k da db rv).map (setR rv2) := by
  unfold diffL
  split
  · exact diffs_set l k da db rv rv2
  · rfl
theorem chs_same (l k : CL) (da db : Int) (rv rv2 : OV) (us : List SRule) : ChsSame (diffL l k da db rv) (diffL l k da db rv2) (rlC (diffL l k da db rv) us) (rlC (diffL l k da db rv2) us) := by
  rw [diffL_set l k da db rv rv2]
  generalize diffL l k da db rv = cs
  have hg : ∀ i, i < cs.length → (cs.map (setR rv2)).getD i eChange.zero = setR rv2 (cs.getD i eChange.zero) := fun i hi => by simp [List.getD, hi]
  refine ⟨by simp, fun i hi => by rw [hg i hi]; exact setR_same _ _, fun i hi => ?_⟩
  rw [rlC_get _ _ _ hi, rlC_get _ _ _ (by simpa using hi), hg i hi, (setR_same rv2 (cs.getD i eChange.zero)).1]
theorem diff_spoil (l k : CL) (da db : Int) (rv : OV) : ∃ j : Nat, (∀ i, i < (diffL l k da db rv).length → i ≠ j → ((diffL l k da db rv).getD i eChange.zero).rules = nilSl) ∧ (j < (diffL l k da db rv).length → ((diffL l k da db rv).getD j eChange.zero).rules = rv) := by
  have hk := diffL_k l k da db rv
  have h9 := diffL_9 l k da db rv
  generalize diffL l k da db rv = cs at hk h9
  refine ⟨cs.findIdx is9, fun i hi hne => ?_, fun hj => ?_⟩
  · rcases hk _ (getD_in cs i eChange.zero hi) with ⟨h1, _⟩ | ⟨_, h2⟩
    · exfalso
      have hp : is9 (cs.getD i eChange.zero) = true := decide_eq_true h1
      rcases Nat.lt_trichotomy i (cs.findIdx is9) with h | h | h
      · have := List.not_of_lt_findIdx h
        simp [List.getD, hi, this] at hp
      · exact hne h
      · have hj : cs.findIdx is9 < cs.length := by omega
        have h3 := List.findIdx_getElem (w := hj)
        exact uniq9 eChange.zero cs h9 _ i h hi (by simpa [List.getD, hj] using h3) hp
    · exact h2
  · have h3 := List.findIdx_getElem (w := hj)
    rcases hk _ (getD_in cs _ eChange.zero hj) with ⟨_, h2⟩ | ⟨h1, _⟩
    · exact h2
    · exfalso
      have h4 : is9 (cs.getD (cs.findIdx is9) eChange.zero) = true := by simpa [List.getD, hj] using h3
      exact h1 (of_decide_eq_true h4)
theorem diffR_len {l k : CL} {da db : Int} : (diffR l k da db).length ≤ 256 := by
  unfold diffR
  split
  · rename_i h
    split
    · simp
    · exact (may_lens (Bool.and_eq_true_iff.1 h).2).2.2.1
  · simp
theorem sameB_self (l : CL) (d : Int) : sameB l l d d = true := (sameB_perm l l d d).2 ⟨rfl, rfl, rfl, List.Perm.refl _, List.Perm.refl _, List.Perm.refl _⟩

theorem en24 : Gx.Enters Tryz.prog 24 := Gx.Enters.mk' (by kernel_rfl)

theorem en25 : Gx.Enters Tryz.prog 25 := Gx.Enters.mk' (by kernel_rfl)

theorem en26 : Gx.Enters Tryz.prog 26 := Gx.Enters.mk' (by kernel_rfl)

theorem ConfDiffs_walk (a b : SConf) (l k : CL) (w : World) (ha : ConfAt w a l) (hb : ConfAt w b k) (hna : l.Names) (hnb : k.Names) : Calls Tryz.prog 4 #[eConf.val a, eConf.val b] w (RetV w (.bool true)) := by
  have hsa := takeC_small l (n := 60) (by decide)
  have hsb := takeC_small k (n := 60) (by decide)
  refine enter0 104 Tryz.func4 rfl rfl (Nat.le_of_ble_eq_true rfl) ?_
  refine seq (region (cons (box (E := eConf) (.t rfl) (fun b1 => ?_))))
  refine cons (box (E := eConf) (.t rfl) (fun b2 => ?_))
  refine cons (opv (Ev.assign (.c (v := .bool false) rfl)) ?_)
  refine nil (pN (cut (X := CB × CB × Nat × Nat) (fun x : CB × CB × Nat × Nat => True) (fun x : CB × CB × Nat × Nat => [(5, true, .pointer (some ⟨x.2.2.1, 0, none⟩)), (6, true, .pointer (some ⟨x.2.2.2, 0, none⟩))]) (fun x : CB × CB × Nat × Nat => [Var x.2.2.1 eConf ((subC x.1 (takeC l 60)).c a.default) 28, Var x.2.2.2 eConf ((subC x.2.1 (takeC k 60)).c b.default) 28, OwnS x.1.o1.v iE (markL (takeC l 60)).ps 3, OwnS x.1.o2.v eRoute (markL (takeC l 60)).rs 52, OwnS x.1.o3.v eRule (markL (takeC l 60)).us 76, OwnS x.1.o4.v eMeterConf (markL (takeC l 60)).ms 57, OwnS x.1.o5.v eMirrorConf (markL (takeC l 60)).xs 59, OwnS x.2.1.o1.v iE (markL (takeC k 60)).ps 3, OwnS x.2.1.o2.v eRoute (markL (takeC k 60)).rs 52, OwnS x.2.1.o3.v eRule (markL (takeC k 60)).us 76, OwnS x.2.1.o4.v eMeterConf (markL (takeC k 60)).ms 57, OwnS x.2.1.o5.v eMirrorConf (markL (takeC k 60)).xs 59]) ?_ (fun x hx => ?_)))
  · refine draw' (by kernel_rfl) ?_
    refine tk 0 rfl (Ev.ldx a ty28 (.t rfl) (Lens.id _)) ?_
    refine tk 2 rfl (Ev.ldx b ty28 (.t rfl) (Lens.id _)) ?_
    refine all [1, 4, 5] (by kernel_rfl) (by decide) (.cons rfl ?_ (.cons rfl ?_ (.cons rfl ?_ .nil)))
    · refine (calln (X := CB) (fun _ => True) (fun x => eConf.val ((subC x (takeC l 60)).c a.default)) (fun x => x.R (markL (takeC l 60))) en10 (.cons (.t rfl) (.cons (.c (v := I 60) rfl) .nil)) (fun w I => cut_ok a l 60 w (ha.keep0 I.keeps) (by decide)) (fun x0 _ => ?_))
      refine hdn (all [3, 4, 5] (by kernel_rfl) (by decide) (.cons rfl ?_ (.cons rfl ?_ (.cons rfl ?_ .nil))))
      · refine (calln (X := CB) (fun _ => True) (fun x => eConf.val ((subC x (takeC k 60)).c b.default)) (fun x => x.R (markL (takeC k 60))) en10 (.cons (.t rfl) (.cons (.c (v := I 60) rfl) .nil)) (fun w I => cut_ok b k 60 w (hb.keep0 I.keeps) (by decide)) (fun x1 _ => ?_))
        refine hdn (all [4, 5] (by kernel_rfl) (by decide) (.cons rfl ?_ (.cons rfl ?_ .nil)))
        · refine (alloc z28 (fun b3 => ?_))
          refine hdn (al1 5 rfl ((alloc z28 (fun b4 => ?_))))
          refine hdn (al1 6 rfl ((stv ty28 (Lens.id _) (.t rfl) (.t rfl) ?_)))
          refine hdn (al1 7 rfl ((stv ty28 (Lens.id _) (.t rfl) (.t rfl) ?_)))
          refine hdn (ovr (pN (mtP (X := CB × CB × Nat × Nat) (_, _, _, _) trivial)))
        · refine (alloc z28 (fun b5 => ?_))
          refine hdn (al1 4 rfl ((alloc z28 (fun b6 => ?_))))
          refine hdn (al1 6 rfl ((stv ty28 (Lens.id _) (.t rfl) (.t rfl) ?_)))
          refine hdn (al1 7 rfl ((stv ty28 (Lens.id _) (.t rfl) (.t rfl) ?_)))
          refine hdn (ovr (pN (mtP (X := CB × CB × Nat × Nat) (_, _, _, _) trivial)))
      · refine (alloc z28 (fun b7 => ?_))
        refine hdn (all [3, 5] (by kernel_rfl) (by decide) (.cons rfl ?_ (.cons rfl ?_ .nil)))
        · refine (calln (X := CB) (fun _ => True) (fun x => eConf.val ((subC x (takeC k 60)).c b.default)) (fun x => x.R (markL (takeC k 60))) en10 (.cons (.t rfl) (.cons (.c (v := I 60) rfl) .nil)) (fun w I => cut_ok b k 60 w (hb.keep0 I.keeps) (by decide)) (fun x1 _ => ?_))
          refine hdn (al1 5 rfl ((alloc z28 (fun b8 => ?_))))
          refine hdn (al1 6 rfl ((stv ty28 (Lens.id _) (.t rfl) (.t rfl) ?_)))
          refine hdn (al1 7 rfl ((stv ty28 (Lens.id _) (.t rfl) (.t rfl) ?_)))
          refine hdn (ovr (pN (mtP (X := CB × CB × Nat × Nat) (_, _, _, _) trivial)))
        · refine (alloc z28 (fun b9 => ?_))
          refine hdn (al1 3 rfl ((calln (X := CB) (fun _ => True) (fun x => eConf.val ((subC x (takeC k 60)).c b.default)) (fun x => x.R (markL (takeC k 60))) en10 (.cons (.t rfl) (.cons (.c (v := I 60) rfl) .nil)) (fun w I => cut_ok b k 60 w (hb.keep0 I.keeps) (by decide)) (fun x1 _ => ?_))))
          refine hdn (al1 6 rfl ((stv ty28 (Lens.id _) (.t rfl) (.t rfl) ?_)))
          refine hdn (al1 7 rfl ((stv ty28 (Lens.id _) (.t rfl) (.t rfl) ?_)))
          refine hdn (ovr (pN (mtP (X := CB × CB × Nat × Nat) (_, _, _, _) trivial)))
      · refine (alloc z28 (fun b10 => ?_))
        refine hdn (all [3, 4] (by kernel_rfl) (by decide) (.cons rfl ?_ (.cons rfl ?_ .nil)))
        · refine (calln (X := CB) (fun _ => True) (fun x => eConf.val ((subC x (takeC k 60)).c b.default)) (fun x => x.R (markL (takeC k 60))) en10 (.cons (.t rfl) (.cons (.c (v := I 60) rfl) .nil)) (fun w I => cut_ok b k 60 w (hb.keep0 I.keeps) (by decide)) (fun x1 _ => ?_))
          refine hdn (al1 4 rfl ((alloc z28 (fun b11 => ?_))))
          refine hdn (al1 6 rfl ((stv ty28 (Lens.id _) (.t rfl) (.t rfl) ?_)))
          refine hdn (al1 7 rfl ((stv ty28 (Lens.id _) (.t rfl) (.t rfl) ?_)))
          refine hdn (ovr (pN (mtP (X := CB × CB × Nat × Nat) (_, _, _, _) trivial)))
        · refine (alloc z28 (fun b12 => ?_))
          refine hdn (al1 3 rfl ((calln (X := CB) (fun _ => True) (fun x => eConf.val ((subC x (takeC k 60)).c b.default)) (fun x => x.R (markL (takeC k 60))) en10 (.cons (.t rfl) (.cons (.c (v := I 60) rfl) .nil)) (fun w I => cut_ok b k 60 w (hb.keep0 I.keeps) (by decide)) (fun x1 _ => ?_))))
          refine hdn (al1 6 rfl ((stv ty28 (Lens.id _) (.t rfl) (.t rfl) ?_)))
          refine hdn (al1 7 rfl ((stv ty28 (Lens.id _) (.t rfl) (.t rfl) ?_)))
          refine hdn (ovr (pN (mtP (X := CB × CB × Nat × Nat) (_, _, _, _) trivial)))
    · refine (alloc z28 (fun b13 => ?_))
      refine hdn (all [1, 5] (by kernel_rfl) (by decide) (.cons rfl ?_ (.cons rfl ?_ .nil)))
      · refine (calln (X := CB) (fun _ => True) (fun x => eConf.val ((subC x (takeC l 60)).c a.default)) (fun x => x.R (markL (takeC l 60))) en10 (.cons (.t rfl) (.cons (.c (v := I 60) rfl) .nil)) (fun w I => cut_ok a l 60 w (ha.keep0 I.keeps) (by decide)) (fun x0 _ => ?_))
        refine hdn (all [3, 5] (by kernel_rfl) (by decide) (.cons rfl ?_ (.cons rfl ?_ .nil)))
        · refine (calln (X := CB) (fun _ => True) (fun x => eConf.val ((subC x (takeC k 60)).c b.default)) (fun x => x.R (markL (takeC k 60))) en10 (.cons (.t rfl) (.cons (.c (v := I 60) rfl) .nil)) (fun w I => cut_ok b k 60 w (hb.keep0 I.keeps) (by decide)) (fun x1 _ => ?_))
          refine hdn (al1 5 rfl ((alloc z28 (fun b14 => ?_))))
          refine hdn (al1 6 rfl ((stv ty28 (Lens.id _) (.t rfl) (.t rfl) ?_)))
          refine hdn (al1 7 rfl ((stv ty28 (Lens.id _) (.t rfl) (.t rfl) ?_)))
          refine hdn (ovr (pN (mtP (X := CB × CB × Nat × Nat) (_, _, _, _) trivial)))
        · refine (alloc z28 (fun b15 => ?_))
          refine hdn (al1 3 rfl ((calln (X := CB) (fun _ => True) (fun x => eConf.val ((subC x (takeC k 60)).c b.default)) (fun x => x.R (markL (takeC k 60))) en10 (.cons (.t rfl) (.cons (.c (v := I 60) rfl) .nil)) (fun w I => cut_ok b k 60 w (hb.keep0 I.keeps) (by decide)) (fun x1 _ => ?_))))
          refine hdn (al1 6 rfl ((stv ty28 (Lens.id _) (.t rfl) (.t rfl) ?_)))
          refine hdn (al1 7 rfl ((stv ty28 (Lens.id _) (.t rfl) (.t rfl) ?_)))
          refine hdn (ovr (pN (mtP (X := CB × CB × Nat × Nat) (_, _, _, _) trivial)))
      · refine (alloc z28 (fun b16 => ?_))
        refine hdn (al1 1 rfl ((calln (X := CB) (fun _ => True) (fun x => eConf.val ((subC x (takeC l 60)).c a.default)) (fun x => x.R (markL (takeC l 60))) en10 (.cons (.t rfl) (.cons (.c (v := I 60) rfl) .nil)) (fun w I => cut_ok a l 60 w (ha.keep0 I.keeps) (by decide)) (fun x0 _ => ?_))))
        refine hdn (al1 3 rfl ((calln (X := CB) (fun _ => True) (fun x => eConf.val ((subC x (takeC k 60)).c b.default)) (fun x => x.R (markL (takeC k 60))) en10 (.cons (.t rfl) (.cons (.c (v := I 60) rfl) .nil)) (fun w I => cut_ok b k 60 w (hb.keep0 I.keeps) (by decide)) (fun x1 _ => ?_))))
        refine hdn (al1 6 rfl ((stv ty28 (Lens.id _) (.t rfl) (.t rfl) ?_)))
        refine hdn (al1 7 rfl ((stv ty28 (Lens.id _) (.t rfl) (.t rfl) ?_)))
        refine hdn (ovr (pN (mtP (X := CB × CB × Nat × Nat) (_, _, _, _) trivial)))
    · refine (alloc z28 (fun b17 => ?_))
      refine hdn (all [1, 4] (by kernel_rfl) (by decide) (.cons rfl ?_ (.cons rfl ?_ .nil)))
      · refine (calln (X := CB) (fun _ => True) (fun x => eConf.val ((subC x (takeC l 60)).c a.default)) (fun x => x.R (markL (takeC l 60))) en10 (.cons (.t rfl) (.cons (.c (v := I 60) rfl) .nil)) (fun w I => cut_ok a l 60 w (ha.keep0 I.keeps) (by decide)) (fun x0 _ => ?_))
        refine hdn (all [3, 4] (by kernel_rfl) (by decide) (.cons rfl ?_ (.cons rfl ?_ .nil)))
        · refine (calln (X := CB) (fun _ => True) (fun x => eConf.val ((subC x (takeC k 60)).c b.default)) (fun x => x.R (markL (takeC k 60))) en10 (.cons (.t rfl) (.cons (.c (v := I 60) rfl) .nil)) (fun w I => cut_ok b k 60 w (hb.keep0 I.keeps) (by decide)) (fun x1 _ => ?_))
          refine hdn (al1 4 rfl ((alloc z28 (fun b18 => ?_))))
          refine hdn (al1 6 rfl ((stv ty28 (Lens.id _) (.t rfl) (.t rfl) ?_)))
          refine hdn (al1 7 rfl ((stv ty28 (Lens.id _) (.t rfl) (.t rfl) ?_)))
          refine hdn (ovr (pN (mtP (X := CB × CB × Nat × Nat) (_, _, _, _) trivial)))
        · refine (alloc z28 (fun b19 => ?_))
          refine hdn (al1 3 rfl ((calln (X := CB) (fun _ => True) (fun x => eConf.val ((subC x (takeC k 60)).c b.default)) (fun x => x.R (markL (takeC k 60))) en10 (.cons (.t rfl) (.cons (.c (v := I 60) rfl) .nil)) (fun w I => cut_ok b k 60 w (hb.keep0 I.keeps) (by decide)) (fun x1 _ => ?_))))
          refine hdn (al1 6 rfl ((stv ty28 (Lens.id _) (.t rfl) (.t rfl) ?_)))
          refine hdn (al1 7 rfl ((stv ty28 (Lens.id _) (.t rfl) (.t rfl) ?_)))
          refine hdn (ovr (pN (mtP (X := CB × CB × Nat × Nat) (_, _, _, _) trivial)))
      · refine (alloc z28 (fun b20 => ?_))
        refine hdn (al1 1 rfl ((calln (X := CB) (fun _ => True) (fun x => eConf.val ((subC x (takeC l 60)).c a.default)) (fun x => x.R (markL (takeC l 60))) en10 (.cons (.t rfl) (.cons (.c (v := I 60) rfl) .nil)) (fun w I => cut_ok a l 60 w (ha.keep0 I.keeps) (by decide)) (fun x0 _ => ?_))))
        refine hdn (al1 3 rfl ((calln (X := CB) (fun _ => True) (fun x => eConf.val ((subC x (takeC k 60)).c b.default)) (fun x => x.R (markL (takeC k 60))) en10 (.cons (.t rfl) (.cons (.c (v := I 60) rfl) .nil)) (fun w I => cut_ok b k 60 w (hb.keep0 I.keeps) (by decide)) (fun x1 _ => ?_))))
        refine hdn (al1 6 rfl ((stv ty28 (Lens.id _) (.t rfl) (.t rfl) ?_)))
        refine hdn (al1 7 rfl ((stv ty28 (Lens.id _) (.t rfl) (.t rfl) ?_)))
        refine hdn (ovr (pN (mtP (X := CB × CB × Nat × Nat) (_, _, _, _) trivial)))
  obtain ⟨x0, x1, p5, p6⟩ := x
  show Sat _ _ [(5, true, .pointer (some ⟨p5, 0, none⟩)), (6, true, .pointer (some ⟨p6, 0, none⟩))] [Var p5 eConf ((subC x0 (takeC l 60)).c a.default) 28, Var p6 eConf ((subC x1 (takeC k 60)).c b.default) 28, OwnS x0.o1.v iE (markL (takeC l 60)).ps 3, OwnS x0.o2.v eRoute (markL (takeC l 60)).rs 52, OwnS x0.o3.v eRule (markL (takeC l 60)).us 76, OwnS x0.o4.v eMeterConf (markL (takeC l 60)).ms 57, OwnS x0.o5.v eMirrorConf (markL (takeC l 60)).xs 59, OwnS x1.o1.v iE (markL (takeC k 60)).ps 3, OwnS x1.o2.v eRoute (markL (takeC k 60)).rs 52, OwnS x1.o3.v eRule (markL (takeC k 60)).us 76, OwnS x1.o4.v eMeterConf (markL (takeC k 60)).ms 57, OwnS x1.o5.v eMirrorConf (markL (takeC k 60)).xs 59]
  refine cut (X := CB × CB × Nat × Nat) (fun x : CB × CB × Nat × Nat => True) (fun x : CB × CB × Nat × Nat => [(5, true, .pointer (some ⟨p5, 0, none⟩)), (6, true, .pointer (some ⟨p6, 0, none⟩)), (7, true, .pointer (some ⟨x.2.2.1, 0, none⟩)), (8, true, .pointer (some ⟨x.2.2.2, 0, none⟩))]) (fun x : CB × CB × Nat × Nat => [Var x.2.2.1 eConf (x.1.c a.default) 28, Var x.2.2.2 eConf (x.2.1.c b.default) 28, OwnS x.1.o1.v iE (takeC l 60).ps 3, OwnS x.1.o2.v eRoute (takeC l 60).rs 52, OwnS x.1.o3.v eRule (takeC l 60).us 76, OwnS x.1.o4.v eMeterConf (takeC l 60).ms 57, OwnS x.1.o5.v eMirrorConf (takeC l 60).xs 59, OwnS x.2.1.o1.v iE (takeC k 60).ps 3, OwnS x.2.1.o2.v eRoute (takeC k 60).rs 52, OwnS x.2.1.o3.v eRule (takeC k 60).us 76, OwnS x.2.1.o4.v eMeterConf (takeC k 60).ms 57, OwnS x.2.1.o5.v eMirrorConf (takeC k 60).xs 59, Var p5 eConf ((subC x0 (takeC l 60)).c a.default) 28, Var p6 eConf ((subC x1 (takeC k 60)).c b.default) 28, OwnS x0.o1.v iE (markL (takeC l 60)).ps 3, OwnS x0.o2.v eRoute (markL (takeC l 60)).rs 52, OwnS x0.o3.v eRule (markL (takeC l 60)).us 76, OwnS x0.o4.v eMeterConf (markL (takeC l 60)).ms 57, OwnS x0.o5.v eMirrorConf (markL (takeC l 60)).xs 59, OwnS x1.o1.v iE (markL (takeC k 60)).ps 3, OwnS x1.o2.v eRoute (markL (takeC k 60)).rs 52, OwnS x1.o3.v eRule (markL (takeC k 60)).us 76, OwnS x1.o4.v eMeterConf (markL (takeC k 60)).ms 57, OwnS x1.o5.v eMirrorConf (markL (takeC k 60)).xs 59]) ?_ (fun x hx => ?_)
  · refine draw' (by kernel_rfl) ?_
    refine tk 0 rfl (Ev.to (v' := eConf.val ((subC x0 (takeC l 60)).c a.default)) (Ev.ldv ty28 (.t rfl) (Lens.id _)) (rfl)) ?_
    refine tk 2 rfl (Ev.to (v' := eConf.val ((subC x1 (takeC k 60)).c b.default)) (Ev.ldv ty28 (.t rfl) (Lens.id _)) (rfl)) ?_
    refine all [1, 4, 5] (by kernel_rfl) (by decide) (.cons rfl ?_ (.cons rfl ?_ (.cons rfl ?_ .nil)))
    · refine (calln (X := CB) (fun _ => True) (fun x => eConf.val (x.c a.default)) (fun x => x.R (takeC l 60)) en11 (.cons (.t rfl) .nil) (fun w I => rcopy_ok ((subC x0 (takeC l 60)).c a.default) (takeC l 60) w (mo5 (x := x0) (l := (takeC l 60)) w I) hsa) (fun y0 _ => ?_))
      refine hdn (all [3, 4, 5] (by kernel_rfl) (by decide) (.cons rfl ?_ (.cons rfl ?_ (.cons rfl ?_ .nil))))
      · refine (calln (X := CB) (fun _ => True) (fun x => eConf.val (x.c b.default)) (fun x => x.R (takeC k 60)) en11 (.cons (.t rfl) .nil) (fun w I => rcopy_ok ((subC x1 (takeC k 60)).c b.default) (takeC k 60) w (mo5 (x := x1) (l := (takeC k 60)) w I) hsb) (fun y1 _ => ?_))
        refine hdn (all [4, 5] (by kernel_rfl) (by decide) (.cons rfl ?_ (.cons rfl ?_ .nil)))
        · refine (alloc z28 (fun b21 => ?_))
          refine hdn (al1 5 rfl ((alloc z28 (fun b22 => ?_))))
          refine hdn (al1 6 rfl ((stv ty28 (Lens.id _) (.t rfl) (.t rfl) ?_)))
          refine hdn (al1 7 rfl ((stv ty28 (Lens.id _) (.t rfl) (.t rfl) ?_)))
          refine hdn (ovr (pN (mtP (X := CB × CB × Nat × Nat) (_, _, _, _) trivial)))
        · refine (alloc z28 (fun b23 => ?_))
          refine hdn (al1 4 rfl ((alloc z28 (fun b24 => ?_))))
          refine hdn (al1 6 rfl ((stv ty28 (Lens.id _) (.t rfl) (.t rfl) ?_)))
          refine hdn (al1 7 rfl ((stv ty28 (Lens.id _) (.t rfl) (.t rfl) ?_)))
          refine hdn (ovr (pN (mtP (X := CB × CB × Nat × Nat) (_, _, _, _) trivial)))
      · refine (alloc z28 (fun b25 => ?_))
        refine hdn (all [3, 5] (by kernel_rfl) (by decide) (.cons rfl ?_ (.cons rfl ?_ .nil)))
        · refine (calln (X := CB) (fun _ => True) (fun x => eConf.val (x.c b.default)) (fun x => x.R (takeC k 60)) en11 (.cons (.t rfl) .nil) (fun w I => rcopy_ok ((subC x1 (takeC k 60)).c b.default) (takeC k 60) w (mo5 (x := x1) (l := (takeC k 60)) w I) hsb) (fun y1 _ => ?_))
          refine hdn (al1 5 rfl ((alloc z28 (fun b26 => ?_))))
          refine hdn (al1 6 rfl ((stv ty28 (Lens.id _) (.t rfl) (.t rfl) ?_)))
          refine hdn (al1 7 rfl ((stv ty28 (Lens.id _) (.t rfl) (.t rfl) ?_)))
          refine hdn (ovr (pN (mtP (X := CB × CB × Nat × Nat) (_, _, _, _) trivial)))
        · refine (alloc z28 (fun b27 => ?_))
          refine hdn (al1 3 rfl ((calln (X := CB) (fun _ => True) (fun x => eConf.val (x.c b.default)) (fun x => x.R (takeC k 60)) en11 (.cons (.t rfl) .nil) (fun w I => rcopy_ok ((subC x1 (takeC k 60)).c b.default) (takeC k 60) w (mo5 (x := x1) (l := (takeC k 60)) w I) hsb) (fun y1 _ => ?_))))
          refine hdn (al1 6 rfl ((stv ty28 (Lens.id _) (.t rfl) (.t rfl) ?_)))
          refine hdn (al1 7 rfl ((stv ty28 (Lens.id _) (.t rfl) (.t rfl) ?_)))
          refine hdn (ovr (pN (mtP (X := CB × CB × Nat × Nat) (_, _, _, _) trivial)))
      · refine (alloc z28 (fun b28 => ?_))
        refine hdn (all [3, 4] (by kernel_rfl) (by decide) (.cons rfl ?_ (.cons rfl ?_ .nil)))
        · refine (calln (X := CB) (fun _ => True) (fun x => eConf.val (x.c b.default)) (fun x => x.R (takeC k 60)) en11 (.cons (.t rfl) .nil) (fun w I => rcopy_ok ((subC x1 (takeC k 60)).c b.default) (takeC k 60) w (mo5 (x := x1) (l := (takeC k 60)) w I) hsb) (fun y1 _ => ?_))
          refine hdn (al1 4 rfl ((alloc z28 (fun b29 => ?_))))
          refine hdn (al1 6 rfl ((stv ty28 (Lens.id _) (.t rfl) (.t rfl) ?_)))
          refine hdn (al1 7 rfl ((stv ty28 (Lens.id _) (.t rfl) (.t rfl) ?_)))
          refine hdn (ovr (pN (mtP (X := CB × CB × Nat × Nat) (_, _, _, _) trivial)))
        · refine (alloc z28 (fun b30 => ?_))
          refine hdn (al1 3 rfl ((calln (X := CB) (fun _ => True) (fun x => eConf.val (x.c b.default)) (fun x => x.R (takeC k 60)) en11 (.cons (.t rfl) .nil) (fun w I => rcopy_ok ((subC x1 (takeC k 60)).c b.default) (takeC k 60) w (mo5 (x := x1) (l := (takeC k 60)) w I) hsb) (fun y1 _ => ?_))))
          refine hdn (al1 6 rfl ((stv ty28 (Lens.id _) (.t rfl) (.t rfl) ?_)))
          refine hdn (al1 7 rfl ((stv ty28 (Lens.id _) (.t rfl) (.t rfl) ?_)))
          refine hdn (ovr (pN (mtP (X := CB × CB × Nat × Nat) (_, _, _, _) trivial)))
    · refine (alloc z28 (fun b31 => ?_))
      refine hdn (all [1, 5] (by kernel_rfl) (by decide) (.cons rfl ?_ (.cons rfl ?_ .nil)))
      · refine (calln (X := CB) (fun _ => True) (fun x => eConf.val (x.c a.default)) (fun x => x.R (takeC l 60)) en11 (.cons (.t rfl) .nil) (fun w I => rcopy_ok ((subC x0 (takeC l 60)).c a.default) (takeC l 60) w (mo5 (x := x0) (l := (takeC l 60)) w I) hsa) (fun y0 _ => ?_))
        refine hdn (all [3, 5] (by kernel_rfl) (by decide) (.cons rfl ?_ (.cons rfl ?_ .nil)))
        · refine (calln (X := CB) (fun _ => True) (fun x => eConf.val (x.c b.default)) (fun x => x.R (takeC k 60)) en11 (.cons (.t rfl) .nil) (fun w I => rcopy_ok ((subC x1 (takeC k 60)).c b.default) (takeC k 60) w (mo5 (x := x1) (l := (takeC k 60)) w I) hsb) (fun y1 _ => ?_))
          refine hdn (al1 5 rfl ((alloc z28 (fun b32 => ?_))))
          refine hdn (al1 6 rfl ((stv ty28 (Lens.id _) (.t rfl) (.t rfl) ?_)))
          refine hdn (al1 7 rfl ((stv ty28 (Lens.id _) (.t rfl) (.t rfl) ?_)))
          refine hdn (ovr (pN (mtP (X := CB × CB × Nat × Nat) (_, _, _, _) trivial)))
        · refine (alloc z28 (fun b33 => ?_))
          refine hdn (al1 3 rfl ((calln (X := CB) (fun _ => True) (fun x => eConf.val (x.c b.default)) (fun x => x.R (takeC k 60)) en11 (.cons (.t rfl) .nil) (fun w I => rcopy_ok ((subC x1 (takeC k 60)).c b.default) (takeC k 60) w (mo5 (x := x1) (l := (takeC k 60)) w I) hsb) (fun y1 _ => ?_))))
          refine hdn (al1 6 rfl ((stv ty28 (Lens.id _) (.t rfl) (.t rfl) ?_)))
          refine hdn (al1 7 rfl ((stv ty28 (Lens.id _) (.t rfl) (.t rfl) ?_)))
          refine hdn (ovr (pN (mtP (X := CB × CB × Nat × Nat) (_, _, _, _) trivial)))
      · refine (alloc z28 (fun b34 => ?_))
        refine hdn (al1 1 rfl ((calln (X := CB) (fun _ => True) (fun x => eConf.val (x.c a.default)) (fun x => x.R (takeC l 60)) en11 (.cons (.t rfl) .nil) (fun w I => rcopy_ok ((subC x0 (takeC l 60)).c a.default) (takeC l 60) w (mo5 (x := x0) (l := (takeC l 60)) w I) hsa) (fun y0 _ => ?_))))
        refine hdn (al1 3 rfl ((calln (X := CB) (fun _ => True) (fun x => eConf.val (x.c b.default)) (fun x => x.R (takeC k 60)) en11 (.cons (.t rfl) .nil) (fun w I => rcopy_ok ((subC x1 (takeC k 60)).c b.default) (takeC k 60) w (mo5 (x := x1) (l := (takeC k 60)) w I) hsb) (fun y1 _ => ?_))))
        refine hdn (al1 6 rfl ((stv ty28 (Lens.id _) (.t rfl) (.t rfl) ?_)))
        refine hdn (al1 7 rfl ((stv ty28 (Lens.id _) (.t rfl) (.t rfl) ?_)))
        refine hdn (ovr (pN (mtP (X := CB × CB × Nat × Nat) (_, _, _, _) trivial)))
    · refine (alloc z28 (fun b35 => ?_))
      refine hdn (all [1, 4] (by kernel_rfl) (by decide) (.cons rfl ?_ (.cons rfl ?_ .nil)))
      · refine (calln (X := CB) (fun _ => True) (fun x => eConf.val (x.c a.default)) (fun x => x.R (takeC l 60)) en11 (.cons (.t rfl) .nil) (fun w I => rcopy_ok ((subC x0 (takeC l 60)).c a.default) (takeC l 60) w (mo5 (x := x0) (l := (takeC l 60)) w I) hsa) (fun y0 _ => ?_))
        refine hdn (all [3, 4] (by kernel_rfl) (by decide) (.cons rfl ?_ (.cons rfl ?_ .nil)))
        · refine (calln (X := CB) (fun _ => True) (fun x => eConf.val (x.c b.default)) (fun x => x.R (takeC k 60)) en11 (.cons (.t rfl) .nil) (fun w I => rcopy_ok ((subC x1 (takeC k 60)).c b.default) (takeC k 60) w (mo5 (x := x1) (l := (takeC k 60)) w I) hsb) (fun y1 _ => ?_))
          refine hdn (al1 4 rfl ((alloc z28 (fun b36 => ?_))))
          refine hdn (al1 6 rfl ((stv ty28 (Lens.id _) (.t rfl) (.t rfl) ?_)))
          refine hdn (al1 7 rfl ((stv ty28 (Lens.id _) (.t rfl) (.t rfl) ?_)))
          refine hdn (ovr (pN (mtP (X := CB × CB × Nat × Nat) (_, _, _, _) trivial)))
        · refine (alloc z28 (fun b37 => ?_))
          refine hdn (al1 3 rfl ((calln (X := CB) (fun _ => True) (fun x => eConf.val (x.c b.default)) (fun x => x.R (takeC k 60)) en11 (.cons (.t rfl) .nil) (fun w I => rcopy_ok ((subC x1 (takeC k 60)).c b.default) (takeC k 60) w (mo5 (x := x1) (l := (takeC k 60)) w I) hsb) (fun y1 _ => ?_))))
          refine hdn (al1 6 rfl ((stv ty28 (Lens.id _) (.t rfl) (.t rfl) ?_)))
          refine hdn (al1 7 rfl ((stv ty28 (Lens.id _) (.t rfl) (.t rfl) ?_)))
          refine hdn (ovr (pN (mtP (X := CB × CB × Nat × Nat) (_, _, _, _) trivial)))
      · refine (alloc z28 (fun b38 => ?_))
        refine hdn (al1 1 rfl ((calln (X := CB) (fun _ => True) (fun x => eConf.val (x.c a.default)) (fun x => x.R (takeC l 60)) en11 (.cons (.t rfl) .nil) (fun w I => rcopy_ok ((subC x0 (takeC l 60)).c a.default) (takeC l 60) w (mo5 (x := x0) (l := (takeC l 60)) w I) hsa) (fun y0 _ => ?_))))
        refine hdn (al1 3 rfl ((calln (X := CB) (fun _ => True) (fun x => eConf.val (x.c b.default)) (fun x => x.R (takeC k 60)) en11 (.cons (.t rfl) .nil) (fun w I => rcopy_ok ((subC x1 (takeC k 60)).c b.default) (takeC k 60) w (mo5 (x := x1) (l := (takeC k 60)) w I) hsb) (fun y1 _ => ?_))))
        refine hdn (al1 6 rfl ((stv ty28 (Lens.id _) (.t rfl) (.t rfl) ?_)))
        refine hdn (al1 7 rfl ((stv ty28 (Lens.id _) (.t rfl) (.t rfl) ?_)))
        refine hdn (ovr (pN (mtP (X := CB × CB × Nat × Nat) (_, _, _, _) trivial)))
  obtain ⟨y0, y1, p7, p8⟩ := x
  show Sat _ _ [(5, true, .pointer (some ⟨p5, 0, none⟩)), (6, true, .pointer (some ⟨p6, 0, none⟩)), (7, true, .pointer (some ⟨p7, 0, none⟩)), (8, true, .pointer (some ⟨p8, 0, none⟩))] [Var p7 eConf (y0.c a.default) 28, Var p8 eConf (y1.c b.default) 28, OwnS y0.o1.v iE (takeC l 60).ps 3, OwnS y0.o2.v eRoute (takeC l 60).rs 52, OwnS y0.o3.v eRule (takeC l 60).us 76, OwnS y0.o4.v eMeterConf (takeC l 60).ms 57, OwnS y0.o5.v eMirrorConf (takeC l 60).xs 59, OwnS y1.o1.v iE (takeC k 60).ps 3, OwnS y1.o2.v eRoute (takeC k 60).rs 52, OwnS y1.o3.v eRule (takeC k 60).us 76, OwnS y1.o4.v eMeterConf (takeC k 60).ms 57, OwnS y1.o5.v eMirrorConf (takeC k 60).xs 59, Var p5 eConf ((subC x0 (takeC l 60)).c a.default) 28, Var p6 eConf ((subC x1 (takeC k 60)).c b.default) 28, OwnS x0.o1.v iE (markL (takeC l 60)).ps 3, OwnS x0.o2.v eRoute (markL (takeC l 60)).rs 52, OwnS x0.o3.v eRule (markL (takeC l 60)).us 76, OwnS x0.o4.v eMeterConf (markL (takeC l 60)).ms 57, OwnS x0.o5.v eMirrorConf (markL (takeC l 60)).xs 59, OwnS x1.o1.v iE (markL (takeC k 60)).ps 3, OwnS x1.o2.v eRoute (markL (takeC k 60)).rs 52, OwnS x1.o3.v eRule (markL (takeC k 60)).us 76, OwnS x1.o4.v eMeterConf (markL (takeC k 60)).ms 57, OwnS x1.o5.v eMirrorConf (markL (takeC k 60)).xs 59]
  refine seq (seq (draw' (by kernel_rfl) ?_))
  refine tk 0 rfl (Ev.to (v' := eConf.val ((subC x0 (takeC l 60)).c a.default)) (Ev.ldv ty28 (.t rfl) (Lens.id _)) (rfl)) ?_
  refine tk 1 rfl (Ev.to (v' := eConf.val ((subC x1 (takeC k 60)).c b.default)) (Ev.ldv ty28 (.t rfl) (Lens.id _)) (rfl)) ?_
  refine tk 3 rfl (Ev.to (v' := eConf.val (y0.c a.default)) (Ev.ldv ty28 (.t rfl) (Lens.id _)) (rfl)) ?_
  refine tk 4 rfl (Ev.to (v' := eConf.val (y1.c b.default)) (Ev.ldv ty28 (.t rfl) (Lens.id _)) (rfl)) ?_
  refine al1 2 rfl ((callv en21 (.cons (.t rfl) (.cons (.t rfl) .nil)) (fun w I => same_ok ((subC x0 (takeC l 60)).c a.default) ((subC x1 (takeC k 60)).c b.default) (takeC l 60) (takeC k 60) w (mo5 (x := x0) (l := (takeC l 60)) w I) (mo5 (x := x1) (l := (takeC k 60)) w I) hsa hsb) ?_))
  refine hdn (al1 5 rfl ((callv en22 (.cons (.t rfl) (.cons (.t rfl) .nil)) (fun w I => rsame_ok (y0.c a.default) (y1.c b.default) (takeC l 60) (takeC k 60) w (co5 (x := y0) (l := (takeC l 60)) w I) (co5 (x := y1) (l := (takeC k 60)) w I)) ?_)))
  refine hdn (tk 6 rfl (Ev.to (v' := .bool false) (Ev.neq_b Tryz.underlying4 (.t rfl) (.t rfl)) (congrArg Value.bool (decide_eq_false (fun h => h rfl)))) ?_)
  refine tk 7 rfl (Ev.move (.t rfl)) ?_
  refine tkg 8 rfl rfl rfl (Ev.to (v' := eConf.val ((subC x1 (takeC k 60)).c b.default)) (Ev.ldv ty28 (.t rfl) (Lens.id _)) (rfl)) ?_
  refine tkg 9 rfl rfl rfl (Ev.to (v' := eConf.val ((subC x0 (takeC l 60)).c a.default)) (Ev.ldv ty28 (.t rfl) (Lens.id _)) (rfl)) ?_
  refine tkg 11 rfl rfl rfl (Ev.to (v' := eConf.val (y1.c b.default)) (Ev.ldv ty28 (.t rfl) (Lens.id _)) (rfl)) ?_
  refine tkg 12 rfl rfl rfl (Ev.to (v' := eConf.val (y0.c a.default)) (Ev.ldv ty28 (.t rfl) (Lens.id _)) (rfl)) ?_
  refine al1 10 rfl ((callg rfl rfl en21 (.cons (.g rfl id) (.cons (.g rfl id) .nil)) (fun hg w I => same_ok ((subC x1 (takeC k 60)).c b.default) ((subC x0 (takeC l 60)).c a.default) (takeC k 60) (takeC l 60) w (mo5 (x := x1) (l := (takeC k 60)) w I) (mo5 (x := x0) (l := (takeC l 60)) w I) hsb hsa) ?_))
  refine hdn (al1 13 rfl ((callg rfl rfl en22 (.cons (.g rfl id) (.cons (.g rfl id) .nil)) (fun hg w I => rsame_ok (y1.c b.default) (y0.c a.default) (takeC k 60) (takeC l 60) w (co5 (x := y1) (l := (takeC k 60)) w I) (co5 (x := y0) (l := (takeC l 60)) w I)) ?_)))
  refine hdn (tkg 14 rfl rfl rfl (Ev.to (v' := .bool false) (Ev.neq_b Tryz.underlying4 (.g rfl id) (.g rfl id)) (congrArg Value.bool (decide_eq_false (fun h => h rfl)))) ?_)
  refine tk 15 rfl (Ev.to (v' := .bool false) (Ev.pickO (.t rfl) (.c (v := .bool true) rfl) (fun {_} h => by cases h; rfl) ⟨_, rfl⟩ (by intro h1 h; first | (rw [h] <;> rfl) | (rw [h1, h] <;> rfl) | (rw [h, h1] <;> rfl) | simp_all)) (rfl)) ?_
  refine tk 16 rfl (Ev.move (.t rfl)) ?_
  refine tkg 17 rfl rfl rfl (Ev.to (v' := eConf.val ((subC x0 (takeC l 60)).c a.default)) (Ev.ldv ty28 (.t rfl) (Lens.id _)) (rfl)) ?_
  refine tkg 18 rfl rfl rfl (Ev.to (v' := eConf.val (y0.c a.default)) (Ev.ldv ty28 (.t rfl) (Lens.id _)) (rfl)) ?_
  refine al1 19 rfl ((callg rfl rfl en21 (.cons (.g rfl id) (.cons (.g rfl id) .nil)) (fun hg w I => same_ok ((subC x0 (takeC l 60)).c a.default) (y0.c a.default) (takeC l 60) (takeC l 60) w (mo5 (x := x0) (l := (takeC l 60)) w I) (co5 (x := y0) (l := (takeC l 60)) w I) hsa hsa) ?_))
  refine hdn (tkg 20 rfl rfl rfl (Ev.to (v' := .bool false) (Ev.not (.g rfl id)) (congrArg Value.bool (by show (!sameB (takeC l 60) (takeC l 60) a.default a.default) = false; rw [sameB_self]; rfl))) ?_)
  refine tk 21 rfl (Ev.to (v' := .bool false) (Ev.pickO (.t rfl) (.c (v := .bool true) rfl) (fun {_} h => by cases h; rfl) ⟨_, rfl⟩ (by intro h1 h; first | (rw [h] <;> rfl) | (rw [h1, h] <;> rfl) | (rw [h, h1] <;> rfl) | simp_all)) (rfl)) ?_
  refine ovr (pN (condF rfl (rfl) ?_))
  refine skip (pN (seq (region (cons (opv (Ev.to (v' := eConf.val ((subC x0 (takeC l 60)).c a.default)) (Ev.ldv ty28 (.t rfl) (Lens.id _)) (rfl)) ?_)))))
  refine cons (opv (Ev.to (v' := eConf.val ((subC x1 (takeC k 60)).c b.default)) (Ev.ldv ty28 (.t rfl) (Lens.id _)) (rfl)) ?_)
  refine cons (calln (X := OV × OV) (fun _ => True) (fun x => .tuple #[x.1.v, I (diffE (takeC l 60) (takeC k 60) a.default b.default)]) (fun x => [OwnS x.1.v eChange (diffL (takeC l 60) (takeC k 60) a.default b.default x.2) 61, OwnS x.2.v eRule (diffR (takeC l 60) (takeC k 60) a.default b.default) 76]) en23 (.cons (.t rfl) (.cons (.t rfl) .nil)) (fun w I => diff_ok ((subC x0 (takeC l 60)).c a.default) ((subC x1 (takeC k 60)).c b.default) (takeC l 60) (takeC k 60) w (mo5 (x := x0) (l := (takeC l 60)) w I) (mo5 (x := x1) (l := (takeC k 60)) w I) (takeC_names hna 60) (takeC_names hnb 60) hsa.n hsb.n) (fun d1 _ => ?_))
  refine cons (opv (Ev.move (.t rfl)) (cons (opv (Ev.extract (.t rfl) rfl) (cons (opv (Ev.extract (.t rfl) rfl) (cons (opv (Ev.assign (.t rfl)) (cons (opv (Ev.assign (.t rfl)) (nil (pN (seq (region (cons (opv (Ev.to (v' := eConf.val ((subC x0 (takeC l 60)).c a.default)) (Ev.ldv ty28 (.t rfl) (Lens.id _)) (rfl)) ?_)))))))))))))))
  refine cons (opv (Ev.to (v' := eConf.val ((subC x1 (takeC k 60)).c b.default)) (Ev.ldv ty28 (.t rfl) (Lens.id _)) (rfl)) ?_)
  refine cons (calln (X := OV × OV) (fun _ => True) (fun x => .tuple #[x.1.v, I (diffE (takeC l 60) (takeC k 60) a.default b.default)]) (fun x => [OwnS x.1.v eChange (diffL (takeC l 60) (takeC k 60) a.default b.default x.2) 61, OwnS x.2.v eRule (diffR (takeC l 60) (takeC k 60) a.default b.default) 76]) en23 (.cons (.t rfl) (.cons (.t rfl) .nil)) (fun w I => diff_ok ((subC x0 (takeC l 60)).c a.default) ((subC x1 (takeC k 60)).c b.default) (takeC l 60) (takeC k 60) w (mo5 (x := x0) (l := (takeC l 60)) w I) (mo5 (x := x1) (l := (takeC k 60)) w I) (takeC_names hna 60) (takeC_names hnb 60) hsa.n hsb.n) (fun d2 _ => ?_))
  refine cons (opv (Ev.move (.t rfl)) (cons (opv (Ev.extract (.t rfl) rfl) (cons (opv (Ev.extract (.t rfl) rfl) (cons (opv (Ev.assign (.t rfl)) (cons (opv (Ev.assign (.t rfl)) (nil (pN (seq (region (cons (opv (Ev.to (v' := eConf.val (y0.c a.default)) (Ev.ldv ty28 (.t rfl) (Lens.id _)) (rfl)) ?_)))))))))))))))
  refine cons (opv (Ev.to (v' := eConf.val (y1.c b.default)) (Ev.ldv ty28 (.t rfl) (Lens.id _)) (rfl)) ?_)
  refine cons (calln (X := OV × OV) (fun _ => True) (fun x => .tuple #[x.1.v, I (diffE (takeC l 60) (takeC k 60) a.default b.default)]) (fun x => [OwnS x.1.v eChange (diffL (takeC l 60) (takeC k 60) a.default b.default x.2) 61, OwnS x.2.v eRule (diffR (takeC l 60) (takeC k 60) a.default b.default) 76]) en24 (.cons (.t rfl) (.cons (.t rfl) .nil)) (fun w I => rdiff_ok (y0.c a.default) (y1.c b.default) (takeC l 60) (takeC k 60) w (co5 (x := y0) (l := (takeC l 60)) w I) (co5 (x := y1) (l := (takeC k 60)) w I) (takeC_names hna 60) (takeC_names hnb 60) hsa.n hsb.n) (fun d3 _ => ?_))
  refine cons (opv (Ev.move (.t rfl)) (cons (opv (Ev.extract (.t rfl) rfl) (cons (opv (Ev.extract (.t rfl) rfl) (cons (opv (Ev.assign (.t rfl)) (cons (opv (Ev.assign (.t rfl)) (nil (pN (seq (seq (region (cons (opv (Ev.move (.t rfl)) (cons (opv (Ev.move (.t rfl)) (cons (opv (Ev.to (v' := .bool false) (Ev.neq_i (.t rfl) (.t rfl)) (congrArg Value.bool (decide_eq_false (fun h => h rfl)))) ?_))))))))))))))))))))
  refine cons (opv (Ev.move (.t rfl)) (cons (opg rfl rfl (Ev.move (.t rfl)) ?_)))
  refine cons (opg rfl rfl (Ev.move (.t rfl)) ?_)
  refine cons (callg rfl rfl en25 (.cons (.g rfl id) (.cons (.g rfl id) .nil)) (fun hg w I => sameCh_ok _ _ (diffL (takeC l 60) (takeC k 60) a.default b.default d1.2) (diffL (takeC l 60) (takeC k 60) a.default b.default d3.2) (rlC (diffL (takeC l 60) (takeC k 60) a.default b.default d1.2) (diffR (takeC l 60) (takeC k 60) a.default b.default)) (rlC (diffL (takeC l 60) (takeC k 60) a.default b.default d3.2) (diffR (takeC l 60) (takeC k 60) a.default b.default)) w (isSl_own (by repeat first | exact mH | apply mT | apply mA) w I) (isSl_own (by repeat first | exact mH | apply mT | apply mA) w I) (chs_diff (diffL_k _ _ _ _ _) (isSl_own (by repeat first | exact mH | apply mT | apply mA) w I)) (chs_diff (diffL_k _ _ _ _ _) (isSl_own (by repeat first | exact mH | apply mT | apply mA) w I)) (chs_same _ _ _ _ _ _ _)) ?_)
  refine cons (opg rfl rfl (Ev.to (v' := .bool false) (Ev.not (.g rfl id)) (rfl)) ?_)
  refine cons (opv (Ev.to (v' := .bool false) (Ev.pickO (.t rfl) (.c (v := .bool true) rfl) (fun {_} h => by cases h; rfl) ⟨_, rfl⟩ (by intro h1 h; first | (rw [h] <;> rfl) | (rw [h1, h] <;> rfl) | (rw [h, h1] <;> rfl) | simp_all)) (rfl)) ?_)
  refine cons (opv (Ev.move (.t rfl)) (cons (opg rfl rfl (Ev.move (.t rfl)) ?_)))
  refine cons (opg rfl rfl (Ev.move (.t rfl)) ?_)
  refine cons (callg rfl rfl en25 (.cons (.g rfl id) (.cons (.g rfl id) .nil)) (fun hg w I => sameCh_ok _ _ (diffL (takeC l 60) (takeC k 60) a.default b.default d2.2) (diffL (takeC l 60) (takeC k 60) a.default b.default d3.2) (rlC (diffL (takeC l 60) (takeC k 60) a.default b.default d2.2) (diffR (takeC l 60) (takeC k 60) a.default b.default)) (rlC (diffL (takeC l 60) (takeC k 60) a.default b.default d3.2) (diffR (takeC l 60) (takeC k 60) a.default b.default)) w (isSl_own (by repeat first | exact mH | apply mT | apply mA) w I) (isSl_own (by repeat first | exact mH | apply mT | apply mA) w I) (chs_diff (diffL_k _ _ _ _ _) (isSl_own (by repeat first | exact mH | apply mT | apply mA) w I)) (chs_diff (diffL_k _ _ _ _ _) (isSl_own (by repeat first | exact mH | apply mT | apply mA) w I)) (chs_same _ _ _ _ _ _ _)) ?_)
  refine cons (opg rfl rfl (Ev.to (v' := .bool false) (Ev.not (.g rfl id)) (rfl)) ?_)
  refine cons (opv (Ev.to (v' := .bool false) (Ev.pickO (.t rfl) (.c (v := .bool true) rfl) (fun {_} h => by cases h; rfl) ⟨_, rfl⟩ (by intro h1 h; first | (rw [h] <;> rfl) | (rw [h1, h] <;> rfl) | (rw [h, h1] <;> rfl) | simp_all)) (rfl)) ?_)
  refine nil (pN (condF rfl (rfl) ?_))
  refine skip (pN (seq ?_))
  obtain ⟨j, hj, hj2⟩ := diff_spoil (takeC l 60) (takeC k 60) a.default b.default d1.2
  refine sepIn (r := OwnS d1.1.v eChange (diffL (takeC l 60) (takeC k 60) a.default b.default d1.2) 61) (s := OwnS d1.2.v eRule (diffR (takeC l 60) (takeC k 60) a.default b.default) 76) (by repeat first | exact Rem.head | apply Rem.tail) (by repeat first | exact Rem.head | apply Rem.tail) ?_
  refine region (cons (opv (Ev.move (.t rfl)) (cons (callr (X := Unit) (r := Sep (OwnS d1.1.v eChange (diffL (takeC l 60) (takeC k 60) a.default b.default d1.2) 61) (OwnS d1.2.v eRule (diffR (takeC l 60) (takeC k 60) a.default b.default) 76)) (r' := fun _ => Emp) (fun _ => True) (fun _ => .tuple #[]) (fun _ => by repeat first | exact Upd.head | apply Upd.tail | apply Upd.right) (by repeat first | exact mH | apply mT | apply mA) en26 (.cons (.t rfl) .nil) (fun w I => spoilCh_ok d1.1 d1.2 (diffL (takeC l 60) (takeC k 60) a.default b.default d1.2) (diffR (takeC l 60) (takeC k 60) a.default b.default) j w (at_mem (by repeat first | exact mH | apply mT | apply mA) w I) hj hj2 (by have := diffR_len (l := (takeC l 60)) (k := (takeC k 60)) (da := a.default) (db := b.default); omega)) (fun _ _ => ?_)))))
  refine nil (pN (seq (region (cons (opv (Ev.move (.t rfl)) (cons (opv (Ev.move (.t rfl)) (cons (callv en25 (.cons (.t rfl) (.cons (.t rfl) .nil)) (fun w I => sameCh_ok _ _ (diffL (takeC l 60) (takeC k 60) a.default b.default d2.2) (diffL (takeC l 60) (takeC k 60) a.default b.default d3.2) (rlC (diffL (takeC l 60) (takeC k 60) a.default b.default d2.2) (diffR (takeC l 60) (takeC k 60) a.default b.default)) (rlC (diffL (takeC l 60) (takeC k 60) a.default b.default d3.2) (diffR (takeC l 60) (takeC k 60) a.default b.default)) w (isSl_own (by repeat first | exact mH | apply mT | apply mA) w I) (isSl_own (by repeat first | exact mH | apply mT | apply mA) w I) (chs_diff (diffL_k _ _ _ _ _) (isSl_own (by repeat first | exact mH | apply mT | apply mA) w I)) (chs_diff (diffL_k _ _ _ _ _) (isSl_own (by repeat first | exact mH | apply mT | apply mA) w I)) (chs_same _ _ _ _ _ _ _)) ?_)))))))))
  refine cons (opv (Ev.move (.t rfl)) (cons (opg rfl rfl (Ev.to (v' := eConf.val ((subC x0 (takeC l 60)).c a.default)) (Ev.ldv ty28 (.t rfl) (Lens.id _)) (rfl)) ?_)))
  refine cons (opg rfl rfl (Ev.to (v' := eConf.val (y0.c a.default)) (Ev.ldv ty28 (.t rfl) (Lens.id _)) (rfl)) ?_)
  refine cons (callg rfl rfl en17 (.cons (.g rfl id) (.cons (.g rfl id) .nil)) (fun hg w I => rexact_ok ((subC x0 (takeC l 60)).c a.default) (y0.c a.default) (takeC l 60) (takeC l 60) w (mo5 (x := x0) (l := (takeC l 60)) w I) (co5 (x := y0) (l := (takeC l 60)) w I)) ?_)
  refine cons (opv (Ev.to (v' := .bool true) (Ev.pickA (.t rfl) (fun {_} h => by cases h; rfl) ⟨_, rfl⟩ (by intro h1 h; first | (rw [h] <;> rfl) | (rw [h1, h] <;> rfl) | (rw [h, h1] <;> rfl) | simp_all) (.c (v := .bool false) rfl)) (congrArg Value.bool (exactB_self (takeC l 60) a.default))) ?_)
  refine cons (opv (Ev.move (.t rfl)) (cons (opg rfl rfl (Ev.to (v' := eConf.val ((subC x1 (takeC k 60)).c b.default)) (Ev.ldv ty28 (.t rfl) (Lens.id _)) (rfl)) ?_)))
  refine cons (opg rfl rfl (Ev.to (v' := eConf.val (y1.c b.default)) (Ev.ldv ty28 (.t rfl) (Lens.id _)) (rfl)) ?_)
  refine cons (callg rfl rfl en17 (.cons (.g rfl id) (.cons (.g rfl id) .nil)) (fun hg w I => rexact_ok ((subC x1 (takeC k 60)).c b.default) (y1.c b.default) (takeC k 60) (takeC k 60) w (mo5 (x := x1) (l := (takeC k 60)) w I) (co5 (x := y1) (l := (takeC k 60)) w I)) ?_)
  refine cons (opv (Ev.to (v' := .bool true) (Ev.pickA (.t rfl) (fun {_} h => by cases h; rfl) ⟨_, rfl⟩ (by intro h1 h; first | (rw [h] <;> rfl) | (rw [h1, h] <;> rfl) | (rw [h, h1] <;> rfl) | simp_all) (.c (v := .bool false) rfl)) (congrArg Value.bool (exactB_self (takeC k 60) b.default))) ?_)
  refine cons (opv (Ev.move (.t rfl)) (cons (opg rfl rfl (Ev.to (v' := eConf.val ((subC x0 (takeC l 60)).c a.default)) (Ev.ldv ty28 (.t rfl) (Lens.id _)) (rfl)) ?_)))
  refine cons (callg rfl rfl en19 (.cons (.g rfl id) .nil) (fun hg w I => marked_ok x0 (takeC l 60) a.default w (co5 (x := x0) (l := (markL (takeC l 60))) w I)) ?_)
  refine cons (opv (Ev.to (v' := .bool true) (Ev.pickA (.t rfl) (fun {_} h => by cases h; rfl) ⟨_, rfl⟩ (by intro h1 h; first | (rw [h] <;> rfl) | (rw [h1, h] <;> rfl) | (rw [h, h1] <;> rfl) | simp_all) (.c (v := .bool false) rfl)) (rfl)) ?_)
  refine cons (opv (Ev.move (.t rfl)) (cons (opg rfl rfl (Ev.to (v' := eConf.val ((subC x1 (takeC k 60)).c b.default)) (Ev.ldv ty28 (.t rfl) (Lens.id _)) (rfl)) ?_)))
  refine cons (callg rfl rfl en19 (.cons (.g rfl id) .nil) (fun hg w I => marked_ok x1 (takeC k 60) b.default w (co5 (x := x1) (l := (markL (takeC k 60))) w I)) ?_)
  refine cons (opv (Ev.to (v' := .bool true) (Ev.pickA (.t rfl) (fun {_} h => by cases h; rfl) ⟨_, rfl⟩ (by intro h1 h; first | (rw [h] <;> rfl) | (rw [h1, h] <;> rfl) | (rw [h, h1] <;> rfl) | simp_all) (.c (v := .bool false) rfl)) (rfl)) ?_)
  refine cons (opv (Ev.move (.t rfl)) (cons (callg rfl rfl en20 .nil (fun hg w I => works_ok w) ?_)))
  refine cons (opv (Ev.to (v' := .bool true) (Ev.pickA (.t rfl) (fun {_} h => by cases h; rfl) ⟨_, rfl⟩ (by intro h1 h; first | (rw [h] <;> rfl) | (rw [h1, h] <;> rfl) | (rw [h, h1] <;> rfl) | simp_all) (.c (v := .bool false) rfl)) (rfl)) ?_)
  refine cons (opv (Ev.assign (.t rfl)) (nil (pN (ret (done rfl (.tmp rfl .nil) (retE ?_))))))
  rfl
end Go.Proofs.YtnoobdijbpmjkaaGreat
