/- trie -/
import Derived.Test.YtjjlofjpdklbgaaT24
set_option linter.unusedVariables false
set_option linter.unusedSimpArgs false
namespace Go.Proofs.Ytjjlofjpdklbgaa
open Go Go.Gx

theorem zb38 : (Try.prog.info? 38).map (fun i => (i.zero, i.bytes)) = some (some (eRoute.val eRoute.zero), 40) := by kernel_rfl

theorem zs38 : (eRoute.val eRoute.zero).cells.size = eRoute.size := by rw [Enc.cells_val, List.size_toArray, Enc.len]

theorem en30 : Gx.Enters Try.prog 30 := Gx.Enters.mk' (by kernel_rfl)

theorem TrieWay_walk (u v : Value) (rs os : List SRoute) (sh : Int) (w : World) (hrs : IsSl eRoute w u rs) (hos : IsSl eRoute w v os) (hsh : Fit sh) : Calls Try.prog 6 #[u, v, I sh] w (RetV w (.bool true)) := by
  refine enter0 268 Try.func6 rfl rfl (Nat.le_of_ble_eq_true rfl) ?_
  refine seq (region (cons (opv (Ev.assign (.c (v := .bool false) rfl)) ?_)))
  refine nil (pN (seq (region (cons (opv (Ev.assign (.c (v := (Go.Value.slice none 0 0)) rfl)) ?_)))))
  refine takeNil eRoute 38 ?_
  refine nil (pN (seq (seq (region (cons (opv (Ev.assign (.c (v := I 0) rfl)) ?_))))))
  refine nil (pN (block (lp (X := Int × OV × (List SRoute)) (fun x : Int × OV × (List SRoute) => (0 ≤ x.1 ∧ x.1 ≤ 40) ∧ ((x.2.2.length : Int) ≤ x.1) ∧ ((x.2.2.map (·.to_)).Nodup) ∧ (∀ r ∈ x.2.2, checkP r.to_ = 0)) (fun x : Int × OV × (List SRoute) => [dz, (0, true, u), (1, true, v), (2, true, I sh), (6, true, .bool false), (7, true, x.2.1.v), (8, true, I x.1)]) (fun x : Int × OV × (List SRoute) => [OwnS x.2.1.v eRoute x.2.2 38]) (fun x : Int × OV × (List SRoute) => (40 - x.1).toNat) (0, nilSl, []) ⟨?_, ?_, ?_, ?_⟩ (fun x hx => ?_))))
  · omega
  · exact Int.le_refl 0
  · simp
  · intro r hr; simp at hr
  obtain ⟨i, o, good⟩ := x
  obtain ⟨hi, hgl, hg, hcg⟩ : (0 ≤ i ∧ i ≤ 40) ∧ ((good.length : Int) ≤ i) ∧ ((good.map (·.to_)).Nodup) ∧ (∀ r ∈ good, checkP r.to_ = 0) := hx
  show Sat _ _ [dz, (0, true, u), (1, true, v), (2, true, I sh), (6, true, .bool false), (7, true, o.v), (8, true, I i)] [OwnS o.v eRoute good 38]
  refine seq (seq (region (cons (opv (Ev.move (.t rfl)) (cons (opv (Ev.move (.t rfl)) (cons (opv (Ev.len Try.underlying22 (.t rfl) (fun w I => hrs.keep0 I.keeps)) ?_))))))))
  refine cons (opv (Ev.lss_i (.t rfl) (.t rfl)) ?_)
  refine cons (opv (Ev.move (.t rfl)) (cons (opg rfl rfl (Ev.move (.t rfl)) ?_)))
  refine cons (opg rfl rfl (Ev.lss_i (.g rfl id) (.c (v := I 40) rfl)) ?_)
  refine cons (opv (Ev.pickA (.t rfl) (fun {_} h => by cases h; rfl) ⟨_, rfl⟩ (by intro h1 h; first | (rw [h] <;> rfl) | (rw [h1, h] <;> rfl) | (rw [h, h1] <;> rfl) | simp_all) (.c (v := .bool false) rfl)) ?_)
  refine nil (pN ?_)
  first | refine condD rfl (fun h0 => ?_) (fun h0 => ?_) | refine cond rfl (fun h0 => ?_) (fun h0 => ?_)
  · try simp only [Gx.nb] at h0
    refine skip (pN (seq (block (seq (region (cons (opv (Ev.assign (.c (v := .bool false) rfl)) ?_)))))))
    refine nil (pN (seq (seq (region (cons (opv (Ev.assign (.c (v := I 0) rfl)) ?_))))))
    refine nil (pN (block (lp (X := Int × Bool) (fun x : Int × Bool => (0 ≤ x.1 ∧ x.1 ≤ good.length) ∧ (x.2 = (good.take x.1.toNat).any (fun r => decide (r.to_ = (rs.getD i.toNat eRoute.zero).to_)))) (fun x : Int × Bool => [dz, (0, true, u), (1, true, v), (2, true, I sh), (6, true, .bool false), (7, true, o.v), (8, true, I i), (9, true, .bool x.2), (10, true, I x.1)]) (fun x : Int × Bool => [OwnS o.v eRoute good 38]) (fun x : Int × Bool => ((good.length : Int) - x.1).toNat) (0, false) ⟨?_, ?_⟩ (fun x hx => ?_))))
    · omega
    · rfl
    obtain ⟨j, d⟩ := x
    obtain ⟨hj, hd⟩ : (0 ≤ j ∧ j ≤ good.length) ∧ (d = (good.take j.toNat).any (fun r => decide (r.to_ = (rs.getD i.toNat eRoute.zero).to_))) := hx
    show Sat _ _ [dz, (0, true, u), (1, true, v), (2, true, I sh), (6, true, .bool false), (7, true, o.v), (8, true, I i), (9, true, .bool d), (10, true, I j)] [OwnS o.v eRoute good 38]
    refine seq (seq (region (cons (opv (Ev.move (.t rfl)) (cons (opv (Ev.move (.t rfl)) (cons (opv (Ev.len Try.underlying22 (.t rfl) (by first | exact isSl_own (by repeat first | exact mH | apply mT | apply mA) | exact fun w I => IsSl.keep0 (by assumption) I.keeps)) ?_))))))))
    refine cons (opv (Ev.lss_i (.t rfl) (.t rfl)) ?_)
    refine nil (pN ?_)
    first | refine condD rfl (fun h1 => ?_) (fun h1 => ?_) | refine cond rfl (fun h1 => ?_) (fun h1 => ?_)
    · try simp only [Gx.nb] at h1
      refine skip (pN (seq (block (draw' (by kernel_rfl) ?_))))
      refine tk 0 rfl (Ev.move (.t rfl)) ?_
      refine tk 1 rfl (Ev.move (.t rfl)) ?_
      refine tkg 2 rfl rfl rfl (Ev.move (.t rfl)) ?_
      refine tkg 3 rfl rfl rfl (Ev.move (.t rfl)) ?_
      refine tkg 4 rfl rfl rfl (Ev.indexAddr Try.underlying22 ty38 (.g rfl id) (.g rfl id) (by first | exact isSl_own (by repeat first | exact mH | apply mT | apply mA) | exact fun w I => IsSl.keep0 (by assumption) I.keeps) (fun _ => by first | omega | (rename_i hg; simp at hg; omega))) ?_
      refine tkg 5 rfl rfl rfl (Ev.fieldAddrS (o := 0) (i := j) (.g rfl id) (by first | exact isSl_own (by repeat first | exact mH | apply mT | apply mA) | exact fun w I => IsSl.keep0 (by assumption) I.keeps) (fun _ => by first | omega | (rename_i hg; simp at hg; omega)) (by kernel_rfl)) ?_
      refine tkg 6 rfl rfl rfl (Ev.loadS ty36 SRoute.l_to_ rfl (.g rfl id) (by first | exact isSl_own (by repeat first | exact mH | apply mT | apply mA) | exact fun w I => IsSl.keep0 (by assumption) I.keeps) (fun _ => by first | omega | (rename_i hg; simp at hg; omega))) ?_
      refine tkg 7 rfl rfl rfl (Ev.move (.t rfl)) ?_
      refine tkg 8 rfl rfl rfl (Ev.move (.t rfl)) ?_
      refine tkg 9 rfl rfl rfl (Ev.indexAddr Try.underlying22 ty38 (.g rfl id) (.g rfl id) (fun w I => hrs.keep0 I.keeps) (fun _ => by first | omega | (rename_i hg; simp at hg; omega))) ?_
      refine tkg 10 rfl rfl rfl (Ev.fieldAddrS (o := 0) (i := i) (.g rfl id) (fun w I => hrs.keep0 I.keeps) (fun _ => by first | omega | (rename_i hg; simp at hg; omega)) (by kernel_rfl)) ?_
      refine tkg 11 rfl rfl rfl (Ev.loadS ty36 SRoute.l_to_ rfl (.g rfl id) (fun w I => hrs.keep0 I.keeps) (fun _ => by first | omega | (rename_i hg; simp at hg; omega))) ?_
      refine tkg 12 rfl rfl rfl (Ev.eqlS rfl eqok36 rfl (by kernel_rfl) (.g rfl id) (.g rfl id)) ?_
      refine tk 13 rfl (Ev.pickO (.t rfl) (.c (v := .bool true) rfl) (fun {_} h => by cases h; rfl) ⟨_, rfl⟩ (by intro h1 h; first | (rw [h] <;> rfl) | (rw [h1, h] <;> rfl) | (rw [h, h1] <;> rfl) | simp_all)) ?_
      refine tk 14 rfl (Ev.assign (.t rfl)) ?_
      refine ovr (bN (pN (region (cons (opv (Ev.move (.t rfl)) (cons (opv (Ev.add_i (.t rfl) (.c (v := I 1) rfl) (fun _ => by omega)) ?_)))))))
      refine cons (opv (Ev.assign (.t rfl)) (nil (pN (nx (X := Int × Bool) (j + 1, _) ⟨?_, ?_⟩ ?_))))
      · try dsimp only
        omega
      · try dsimp only
        rw [any_snoc hj.1 h1 eRoute.zero, ← hd]
        cases d <;> simp [-List.getD_eq_getElem?_getD]
      · try dsimp only
        omega
    · try simp only [Gx.nb] at h1
      refine exit (pX (pX (bX (pN (seq ?_)))))
      have hdv : d = good.any (fun r => decide (r.to_ = (rs.getD i.toNat eRoute.zero).to_)) := by rw [hd, show j.toNat = good.length by omega, List.take_length]
      refine region (cons (opv (Ev.move (.t rfl)) (cons (opv (Ev.not (.t rfl)) ?_))))
      refine cons (opv (Ev.move (.t rfl)) (cons (opg rfl rfl (Ev.move (.t rfl)) ?_)))
      refine cons (opg rfl rfl (Ev.move (.t rfl)) ?_)
      refine cons (opg rfl rfl (Ev.indexAddr Try.underlying22 ty38 (.g rfl id) (.g rfl id) (fun w I => hrs.keep0 I.keeps) (fun _ => by first | omega | (rename_i hg; simp at hg; omega))) ?_)
      refine cons (opg rfl rfl (Ev.fieldAddrS (o := 0) (i := i) (.g rfl id) (fun w I => hrs.keep0 I.keeps) (fun _ => by first | omega | (rename_i hg; simp at hg; omega)) (by kernel_rfl)) ?_)
      refine cons (opg rfl rfl (Ev.loadS ty36 SRoute.l_to_ rfl (.g rfl id) (fun w I => hrs.keep0 I.keeps) (fun _ => by first | omega | (rename_i hg; simp at hg; omega))) ?_)
      refine cons (callg rfl rfl en10 (.cons (.g rfl id) .nil) (fun hg w I => checkP_ok _ w) ?_)
      refine cons (opg rfl rfl (Ev.eql_i (.g rfl id) (.c (v := I 0) rfl)) ?_)
      refine cons (opv (Ev.pickA (.t rfl) (fun {_} h => by cases h; rfl) ⟨_, rfl⟩ (by intro h1 h; first | (rw [h] <;> rfl) | (rw [h1, h] <;> rfl) | (rw [h, h1] <;> rfl) | simp_all) (.c (v := .bool false) rfl)) ?_)
      refine nil (pN ?_)
      first | refine condD rfl (fun h2 => ?_) (fun h2 => ?_) | refine cond rfl (fun h2 => ?_) (fun h2 => ?_)
      · try simp only [Gx.nb] at h2
        refine region (cons (opv (Ev.move (.t rfl)) (cons (opv (Ev.move (.t rfl)) (cons (opv (Ev.move (.t rfl)) (cons (opv (Ev.indexAddr Try.underlying22 ty38 (.t rfl) (.t rfl) (fun w I => hrs.keep0 I.keeps) (fun _ => by omega)) ?_))))))))
        refine cons (opv (Ev.loadS0 ty38 (.t rfl) (fun w I => hrs.keep0 I.keeps) (fun _ => by omega)) ?_)
        refine cons (buildSlice (E := eRoute) Try.underlying22 ty38 z38 (.cons (.t rfl) .nil) rfl rfl (fun v1 => ?_))
        refine cons (app (E := eRoute) Try.underlying22 ty38 zb38 zs38 (.t rfl) (.t rfl) (fun v2 => ?_) (hby := ⟨by (show _ ≤ 9223372036854775807); first | omega | (simp; done) | (simp; omega), by first | omega | (simp; done) | (simp; omega)⟩))
        refine cons (opv (Ev.assign (.t rfl)) (nil (bN (pN (region (cons (opv (Ev.move (.t rfl)) (cons (opv (Ev.add_i (.t rfl) (.c (v := I 1) rfl) (fun _ => by omega)) ?_)))))))))
        refine cons (opv (Ev.assign (.t rfl)) (nil (pN (nx (X := Int × OV × (List SRoute)) (i + 1, v2, _) ⟨?_, ?_, ?_, ?_⟩ ?_))))
        · try dsimp only
          omega
        · try dsimp only
          simp; omega
        · try dsimp only
          exact good_snoc hg (by rw [← hdv]; exact h2.1)
        · try dsimp only
          intro r hr
          rcases List.mem_append.1 hr with hr | hr
          · exact hcg r hr
          · rw [List.mem_singleton.1 hr]; exact h2.2
        · try dsimp only
          omega
      · try simp only [Gx.nb] at h2
        refine skip (bN (pN (region (cons (opv (Ev.move (.t rfl)) (cons (opv (Ev.add_i (.t rfl) (.c (v := I 1) rfl) (fun _ => by omega)) ?_)))))))
        refine cons (opv (Ev.assign (.t rfl)) (nil (pN (nx (X := Int × OV × (List SRoute)) (i + 1, o, good) ⟨?_, ?_, ?_, ?_⟩ ?_))))
        · try dsimp only
          omega
        · try dsimp only
          omega
        · try dsimp only
          exact hg
        · try dsimp only
          exact hcg
        · try dsimp only
          omega
  · try simp only [Gx.nb] at h0
    refine exit (pX (pX (bX (pN (seq (emp0 ?_))))))
    refine region ?_
    have hof : ofR good = 0 := by
      unfold ofR
      rw [if_pos (List.all_eq_true.2 (fun r hr => decide_eq_true (hcg r hr)))]
    refine cons (opv (Ev.move (.t rfl)) (cons (calln (X := Tt × List Res) (TofJ good) (fun x => .tuple #[.pointer (pO (ofR good) x.1.b), I (ofR good)]) (fun x => x.2) en23 (.cons (.t rfl) .nil) (fun w I => tof_ok _ good w (by first | exact isSl_own (by repeat first | exact mH | apply mT | apply mA) w I | exact IsSl.keep0 (by assumption) I.keeps) (by omega)) (fun x1 hx1 => ?_))))
    refine cons (opv (Ev.move (.t rfl)) (cons (opv (Ev.to (v' := x1.1.ptr.v) (Ev.extract (.t rfl) rfl) (congrArg Value.pointer (if_pos hof))) ?_)))
    refine cons (opv (Ev.to (v' := I 0) (Ev.extract (.t rfl) rfl) (congrArg Gx.I hof)) ?_)
    refine cons (opv (Ev.assign (.t rfl)) (cons (opv (Ev.assign (.t rfl)) (nil (pN (seq (takeSeps (r := Emp) Rem.head ?_)))))))
    refine region (cons (calln (X := Tt) (fun x : Tt => x.OK ∧ x.ents = [] ∧ x.made = true ∧ x.n = 0 ∧ x.l = .nil ∧ x.r = .nil) (fun x => x.ptr.v) (fun x => [Var x.b eTrieTrie x.val 60]) en7 .nil (fun w I => new_ok w) (fun x0 hx0 => ?_)))
    refine cons (opv (Ev.assign (.t rfl)) (nil (pN (seq (seq ?_)))))
    replace hx1 := hx1 hof
    have xat : ∀ w1 : World, (Seps Emp x1.2).A w1 → x1.1.At w1 := fun w1 h => hx1.2.2.2 w1 (Seps.A _ _ h).2
    have hxe : ∀ y, y ∈ x1.1.ents ↔ ∃ r ∈ good, y = rp r := fun y => (hx1.2.1 y).trans (routes_distinct good y hg)
    refine region (cons (opv (Ev.move (.t rfl)) (cons (opv (Ev.neq_i (.t rfl) (.c (v := I 0) rfl)) ?_))))
    refine cons (opv (Ev.move (.t rfl)) (cons (opg rfl rfl (Ev.move (.t rfl)) ?_)))
    refine cons (opg rfl rfl (Ev.eql_p Try.underlying24 (.g rfl id) (.c rfl)) ?_)
    refine cons (opv (Ev.pickO (.t rfl) (.c (v := .bool true) rfl) (fun {_} h => by cases h; rfl) ⟨_, rfl⟩ (by intro h1 h; first | (rw [h] <;> rfl) | (rw [h1, h] <;> rfl) | (rw [h, h1] <;> rfl) | simp_all)) ?_)
    refine nil (pN (condF rfl (rfl) ?_))
    refine skip (pN (seq (region (cons (opv (Ev.move (.t rfl)) (cons (opv (Ev.len Try.underlying22 (.t rfl) (by first | exact isSl_own (by repeat first | exact mH | apply mT | apply mA) | exact fun w I => IsSl.keep0 (by assumption) I.keeps)) ?_)))))))
    refine cons (opv (Ev.assign (.t rfl)) (nil (pN (seq (seq (region (cons (opv (Ev.assign (.c (v := I 0) rfl)) ?_))))))))
    refine nil (pN (block (lp (X := Int × Tt × Res) (fun x : Int × Tt × Res => (0 ≤ x.1 ∧ x.1 ≤ good.length) ∧ (x.2.1.OK) ∧ (∀ w1 : World, x.2.2.A w1 → x.2.1.At w1) ∧ (x.2.1.n ≤ x.1) ∧ (∀ y, y ∈ x.2.1.ents ↔ ∃ j : Int, 0 ≤ j ∧ j < x.1 ∧ y = rp (good.getD (kk sh good.length j).toNat eRoute.zero))) (fun x : Int × Tt × Res => [dz, (0, true, u), (1, true, v), (2, true, I sh), (6, true, .bool false), (7, true, o.v), (11, true, x1.1.ptr.v), (13, true, x.2.1.ptr.v), (14, true, I good.length), (15, true, I x.1)]) (fun x : Int × Tt × Res => [x.2.2, Seps Emp x1.2, OwnS o.v eRoute good 38]) (fun x : Int × Tt × Res => ((good.length : Int) - x.1).toNat) (0, x0, Var x0.b eTrieTrie x0.val 60) ⟨?_, ?_, ?_, ?_, ?_⟩ (fun x hx => ?_))))
    · omega
    · exact hx0.1
    · exact fun w1 h => new_At hx0 h
    · show x0.n ≤ 0
      rw [hx0.2.2.2.1]; exact Int.le_refl _
    · intro y
      rw [hx0.2.1]
      exact ⟨fun h => (by simp at h), fun ⟨j, j0, j1, _⟩ => by exfalso; omega⟩
    obtain ⟨i2, bb, R⟩ := x
    obtain ⟨hi2, hok, hat, hn, hmm⟩ : (0 ≤ i2 ∧ i2 ≤ good.length) ∧ (bb.OK) ∧ (∀ w1 : World, R.A w1 → bb.At w1) ∧ (bb.n ≤ i2) ∧ (∀ y, y ∈ bb.ents ↔ ∃ j : Int, 0 ≤ j ∧ j < i2 ∧ y = rp (good.getD (kk sh good.length j).toNat eRoute.zero)) := hx
    show Sat _ _ [dz, (0, true, u), (1, true, v), (2, true, I sh), (6, true, .bool false), (7, true, o.v), (11, true, x1.1.ptr.v), (13, true, bb.ptr.v), (14, true, I good.length), (15, true, I i2)] [R, Seps Emp x1.2, OwnS o.v eRoute good 38]
    refine seq (seq (region (cons (opv (Ev.move (.t rfl)) (cons (opv (Ev.move (.t rfl)) (cons (opv (Ev.lss_i (.t rfl) (.t rfl)) ?_))))))))
    refine nil (pN ?_)
    first | refine condD rfl (fun h4 => ?_) (fun h4 => ?_) | refine cond rfl (fun h4 => ?_) (fun h4 => ?_)
    · try simp only [Gx.nb] at h4
      refine skip (pN (seq (block (seq ?_))))
      obtain ⟨kI, hkI⟩ : ∃ z, (i2 + sh.tmod good.length + good.length).tmod good.length = z := ⟨_, rfl⟩
      have hkm := (kk_m sh (n := good.length) (i := i2) (by omega) hi2.1 h4).1
      have hk0 := kk_in sh (n := good.length) (i := i2) (by omega) hi2.1 h4
      rw [show kk sh good.length i2 = kI from hkI] at hk0
      have hck2 : checkP (good.getD kI.toNat eRoute.zero).to_ = 0 := hcg _ (getD_in' good _ eRoute.zero (by omega))
      refine region (cons (opv (Ev.move (.t rfl)) (cons (opv (Ev.move (.t rfl)) (cons (opv (Ev.move (.t rfl)) (cons (opv (Ev.rem_i (.t rfl) (.t rfl) (fun _ => by omega)) ?_))))))))
      refine cons (opv (Ev.add_i (.t rfl) (.t rfl) (fun _ => by omega)) ?_)
      refine cons (opv (Ev.move (.t rfl)) (cons (opv (Ev.add_i (.t rfl) (.t rfl) (fun _ => by omega)) ?_)))
      refine cons (opv (Ev.move (.t rfl)) (cons (opv (Ev.to (v' := I kI) (Ev.rem_i (.t rfl) (.t rfl) (fun _ => by omega)) (congrArg Gx.I hkI)) ?_)))
      refine cons (opv (Ev.assign (.t rfl)) (nil (pN (cut (X := Tt × Res) (fun x : Tt × Res => (x.1.OK) ∧ (∀ w1 : World, x.2.A w1 → x.1.At w1) ∧ (∀ y, y ∈ x.1.ents ↔ y ∈ bb.ents)) (fun x : Tt × Res => [dz, (0, true, u), (1, true, v), (2, true, I sh), (6, true, .bool false), (7, true, o.v), (11, true, x1.1.ptr.v), (13, true, x.1.ptr.v), (14, true, I good.length), (15, true, I i2), (16, true, I kI)]) (fun x : Tt × Res => [x.2, Seps Emp x1.2, OwnS o.v eRoute good 38]) ?_ (fun x hx => ?_)))))
      · refine seq (region (cons (opv (Ev.move (.t rfl)) (cons (opv (Ev.move (.t rfl)) (cons (opv (Ev.len Try.underlying22 (.t rfl) (fun w I => hos.keep0 I.keeps)) ?_)))))))
        refine cons (opv (Ev.lss_i (.t rfl) (.t rfl)) ?_)
        refine cons (opv (Ev.move (.t rfl)) (cons (opg rfl rfl (Ev.move (.t rfl)) ?_)))
        refine cons (opg rfl rfl (Ev.move (.t rfl)) ?_)
        refine cons (opg rfl rfl (Ev.indexAddr Try.underlying22 ty38 (.g rfl id) (.g rfl id) (fun w I => hos.keep0 I.keeps) (fun _ => by first | omega | (rename_i hg; simp at hg; omega))) ?_)
        refine cons (opg rfl rfl (Ev.fieldAddrS (o := 0) (i := i2) (.g rfl id) (fun w I => hos.keep0 I.keeps) (fun _ => by first | omega | (rename_i hg; simp at hg; omega)) (by kernel_rfl)) ?_)
        refine cons (opg rfl rfl (Ev.loadS ty36 SRoute.l_to_ rfl (.g rfl id) (fun w I => hos.keep0 I.keeps) (fun _ => by first | omega | (rename_i hg; simp at hg; omega))) ?_)
        refine cons (callg rfl rfl en10 (.cons (.g rfl id) .nil) (fun hg w I => checkP_ok _ w) ?_)
        refine cons (opg rfl rfl (Ev.eql_i (.g rfl id) (.c (v := I 0) rfl)) ?_)
        refine cons (opv (Ev.pickA (.t rfl) (fun {_} h => by cases h; rfl) ⟨_, rfl⟩ (by intro h1 h; first | (rw [h] <;> rfl) | (rw [h1, h] <;> rfl) | (rw [h, h1] <;> rfl) | simp_all) (.c (v := .bool false) rfl)) ?_)
        refine nil (pN ?_)
        first | refine condD rfl (fun h5 => ?_) (fun h5 => ?_) | refine cond rfl (fun h5 => ?_) (fun h5 => ?_)
        · try simp only [Gx.nb] at h5
          have hck : checkP (os.getD i2.toNat eRoute.zero).to_ = 0 := h5.2
          refine seq (region (cons (opv (Ev.move (.t rfl)) (cons (opv (Ev.move (.t rfl)) (cons (opv (Ev.move (.t rfl)) (cons (opv (Ev.indexAddr Try.underlying22 ty38 (.t rfl) (.t rfl) (fun w I => hos.keep0 I.keeps) (fun _ => by omega)) ?_)))))))))
          refine cons (opv (Ev.fieldAddrS (o := 0) (i := i2) (.t rfl) (fun w I => hos.keep0 I.keeps) (fun _ => by omega) (by kernel_rfl)) ?_)
          refine cons (opv (Ev.loadS ty36 SRoute.l_to_ rfl (.t rfl) (fun w I => hos.keep0 I.keeps) (fun _ => by omega)) ?_)
          refine cons (callv en13 (.cons (.t rfl) (.cons (.t rfl) .nil)) (fun w I => get_ok bb (os.getD i2.toNat eRoute.zero).to_ w (hat w (at_mem (by repeat first | exact mH | apply mT | apply mA) w I).1) hok) ?_)
          refine cons (opv (Ev.move (.t rfl)) (cons (opv (Ev.extract (.t rfl) rfl) (cons (opv (Ev.extract (.t rfl) rfl) (cons (opv (Ev.assign (.t rfl)) (cons (opv (Ev.assign (.t rfl)) (nil (pN (seq (draw' (by kernel_rfl) ?_)))))))))))))
          refine tk 0 rfl (Ev.move (.t rfl)) ?_
          refine tk 1 rfl (Ev.move (.t rfl)) ?_
          refine tk 2 rfl (Ev.move (.t rfl)) ?_
          refine tk 3 rfl (Ev.indexAddr Try.underlying22 ty38 (.t rfl) (.t rfl) (fun w I => hos.keep0 I.keeps) (fun _ => by omega)) ?_
          refine tk 4 rfl (Ev.fieldAddrS (o := 0) (i := i2) (.t rfl) (fun w I => hos.keep0 I.keeps) (fun _ => by omega) (by kernel_rfl)) ?_
          refine tk 5 rfl (Ev.loadS ty36 SRoute.l_to_ rfl (.t rfl) (fun w I => hos.keep0 I.keeps) (fun _ => by omega)) ?_
          refine tk 6 rfl (Ev.move (.t rfl)) ?_
          refine tk 7 rfl (Ev.move (.t rfl)) ?_
          refine tk 8 rfl (Ev.indexAddr Try.underlying22 ty38 (.t rfl) (.t rfl) (fun w I => hos.keep0 I.keeps) (fun _ => by omega)) ?_
          refine tk 9 rfl (Ev.fieldAddrS (o := 18) (i := i2) (.t rfl) (fun w I => hos.keep0 I.keeps) (fun _ => by omega) (by kernel_rfl)) ?_
          refine tk 10 rfl (Ev.loadS ty3 SRoute.l_out rfl (.t rfl) (fun w I => hos.keep0 I.keeps) (fun _ => by omega)) ?_
          refine al1 11 rfl ((calln (X := Tt × List Res) (TputJ bb (os.getD i2.toNat eRoute.zero).to_ (os.getD i2.toNat eRoute.zero).out) (fun x => .tuple #[.pointer (pO (checkP (os.getD i2.toNat eRoute.zero).to_) x.1.b), I (checkP (os.getD i2.toNat eRoute.zero).to_)]) (fun x => x.2) en9 (.cons (.t rfl) (.cons (.t rfl) (.cons (.t rfl) .nil))) (fun w I => tput_ok bb _ _ w (hat w (at_mem (by repeat first | exact mH | apply mT | apply mA) w I).1) hok (by omega)) (fun x3 hx3 => ?_)))
          refine hdn (tk 12 rfl (Ev.move (.t rfl)) ?_)
          refine tk 13 rfl (Ev.to (v' := x3.1.ptr.v) (Ev.extract (.t rfl) rfl) (congrArg Value.pointer (if_pos hck))) ?_
          refine tk 14 rfl (Ev.to (v' := I 0) (Ev.extract (.t rfl) rfl) (congrArg Gx.I hck)) ?_
          refine tk 15 rfl (Ev.assign (.t rfl)) ?_
          refine tk 16 rfl (Ev.assign (.t rfl)) ?_
          refine ovr (pN (seq (seq (takeSeps (r := R) (by repeat first | exact Rem.head | apply Rem.tail) ?_))))
          replace hx3 := hx3 hck
          refine region (cons (opv (Ev.move (.t rfl)) (cons (opv (Ev.neq_i (.t rfl) (.c (v := I 0) rfl)) ?_))))
          refine nil (pN (condF rfl (rfl) ?_))
          refine skip (pN (seq (region (cons (opv (Ev.move (.t rfl)) (cons (opv (Ev.not (.t rfl)) ?_)))))))
          refine nil (pN ?_)
          first | refine condD rfl (fun h7 => ?_) (fun h7 => ?_) | refine cond rfl (fun h7 => ?_) (fun h7 => ?_)
          · try simp only [Gx.nb] at h7
            have wasF : (getV bb (os.getD i2.toNat eRoute.zero).to_).2 = false := by simpa using h7
            have wasN : ∀ {y : SPrefix × Int}, y ∈ bb.ents → y.1 = (os.getD i2.toNat eRoute.zero).to_ → False := fun {y} hy g => by
              have h9 := (getV_iff hok y.1 y.2).2 hy
              rw [g, wasF] at h9
              cases h9.1
            have hc4 : cutE x3.1 (os.getD i2.toNat eRoute.zero).to_ = 0 := by
              unfold cutE
              have h9 := (getV_iff hx3.1 (os.getD i2.toNat eRoute.zero).to_ (os.getD i2.toNat eRoute.zero).out).2 ((hx3.2.1 _).2 (.inl rfl))
              rw [if_neg (by rw [hck]; decide), if_neg (by rw [h9.1]; decide)]
            have h3n := put_n hok hx3.1 hx3.2.1
            refine seq (region (cons (opv (Ev.move (.t rfl)) (cons (opv (Ev.move (.t rfl)) (cons (opv (Ev.move (.t rfl)) (cons (opv (Ev.indexAddr Try.underlying22 ty38 (.t rfl) (.t rfl) (fun w I => hos.keep0 I.keeps) (fun _ => by omega)) ?_)))))))))
            refine cons (opv (Ev.fieldAddrS (o := 0) (i := i2) (.t rfl) (fun w I => hos.keep0 I.keeps) (fun _ => by omega) (by kernel_rfl)) ?_)
            refine cons (opv (Ev.loadS ty36 SRoute.l_to_ rfl (.t rfl) (fun w I => hos.keep0 I.keeps) (fun _ => by omega)) ?_)
            refine cons (calln (X := Tt × List Res) (TcutJ x3.1 (os.getD i2.toNat eRoute.zero).to_) (fun x => .tuple #[.pointer (pO (cutE x3.1 (os.getD i2.toNat eRoute.zero).to_) x.1.b), I (cutE x3.1 (os.getD i2.toNat eRoute.zero).to_)]) (fun x => x.2) en17 (.cons (.t rfl) (.cons (.t rfl) .nil)) (fun w I => tcut_ok x3.1 _ w (hx3.2.2 w (hat w (Seps.A _ _ (at_mem (by repeat first | exact mH | apply mT | apply mA) w I).1).1) (Seps.A x3.2 R (at_mem (by repeat first | exact mH | apply mT | apply mA) w I).1).2) hx3.1 (by omega)) (fun x4 hx4 => ?_))
            refine cons (opv (Ev.move (.t rfl)) (cons (opv (Ev.to (v' := x4.1.ptr.v) (Ev.extract (.t rfl) rfl) (congrArg Value.pointer (if_pos hc4))) ?_)))
            refine cons (opv (Ev.to (v' := I 0) (Ev.extract (.t rfl) rfl) (congrArg Gx.I hc4)) ?_)
            refine cons (opv (Ev.assign (.t rfl)) (cons (opv (Ev.assign (.t rfl)) (nil (pN (seq (seq (takeSeps (r := Seps R x3.2) (by repeat first | exact Rem.head | apply Rem.tail) ?_))))))))
            replace hx4 := hx4 hc4
            have hs4 : ∀ y, y ∈ x4.1.ents ↔ y ∈ bb.ents := fun y => by
              rw [hx4.2.1, hx3.2.1]
              constructor
              · rintro ⟨e | e, g⟩
                · exact (g (by rw [e])).elim
                · exact e.1
              · intro e
                refine ⟨.inr ⟨e, fun g => ?_⟩, fun g => ?_⟩
                · exact wasN e g
                · exact wasN e g
            refine region (cons (opv (Ev.move (.t rfl)) (cons (opv (Ev.neq_i (.t rfl) (.c (v := I 0) rfl)) ?_))))
            refine cons (opv (Ev.move (.t rfl)) (cons (opg rfl rfl (Ev.move (.t rfl)) ?_)))
            refine cons (opg rfl rfl (Ev.move (.t rfl)) ?_)
            refine cons (callg rfl rfl en22 (.cons (.g rfl id) (.cons (.g rfl id) .nil)) (fun hg w I => same_to bb x4.1 w true (same_of hok hx4.1 (fun y => (hs4 y).symm)) (hat w (Seps.A x3.2 R (Seps.A x4.2 (Seps R x3.2) (at_mem (by repeat first | exact mH | apply mT | apply mA) w I).1).1).1) (hx4.2.2 w (hx3.2.2 w (hat w (Seps.A x3.2 R (Seps.A x4.2 (Seps R x3.2) (at_mem (by repeat first | exact mH | apply mT | apply mA) w I).1).1).1) (Seps.A x3.2 R (Seps.A x4.2 (Seps R x3.2) (at_mem (by repeat first | exact mH | apply mT | apply mA) w I).1).1).2) (Seps.A x4.2 (Seps R x3.2) (at_mem (by repeat first | exact mH | apply mT | apply mA) w I).1).2) hok hx4.1) ?_)
            refine cons (opg rfl rfl (Ev.not (.g rfl id)) ?_)
            refine cons (opv (Ev.pickO (.t rfl) (.c (v := .bool true) rfl) (fun {_} h => by cases h; rfl) ⟨_, rfl⟩ (by intro h1 h; first | (rw [h] <;> rfl) | (rw [h1, h] <;> rfl) | (rw [h, h1] <;> rfl) | simp_all)) ?_)
            refine nil (pN (condF rfl (rfl) ?_))
            refine skip (pN (region (cons (opv (Ev.move (.t rfl)) (cons (opv (Ev.assign (.t rfl)) (nil (pN (mtP (X := Tt × Res) (x4.1, Seps (Seps R x3.2) x4.2) ⟨?_, ?_, ?_⟩)))))))))
            · try dsimp only
              exact hx4.1
            · try dsimp only
              exact fun w1 h => hx4.2.2 w1 (hx3.2.2 w1 (hat w1 (Seps.A _ _ (Seps.A _ _ h).1).1) (Seps.A _ _ (Seps.A _ _ h).1).2) (Seps.A _ _ h).2
            · try dsimp only
              exact hs4
          · try simp only [Gx.nb] at h7
            refine skip (pN (mtP (X := Tt × Res) (bb, Seps R x3.2) ⟨?_, ?_, ?_⟩))
            · try dsimp only
              exact hok
            · try dsimp only
              exact fun w1 h => hat w1 (Seps.A _ _ h).1
            · try dsimp only
              exact fun _ => Iff.rfl
        · try simp only [Gx.nb] at h5
          refine skip (pN (mtP (X := Tt × Res) (bb, R) ⟨?_, ?_, ?_⟩))
          · try dsimp only
            exact hok
          · try dsimp only
            exact hat
          · try dsimp only
            exact fun _ => Iff.rfl
      obtain ⟨b2, R2⟩ := x
      obtain ⟨hok2, hat2, hs2⟩ : (b2.OK) ∧ (∀ w1 : World, R2.A w1 → b2.At w1) ∧ (∀ y, y ∈ b2.ents ↔ y ∈ bb.ents) := hx
      show Sat _ _ [dz, (0, true, u), (1, true, v), (2, true, I sh), (6, true, .bool false), (7, true, o.v), (11, true, x1.1.ptr.v), (13, true, b2.ptr.v), (14, true, I good.length), (15, true, I i2), (16, true, I kI)] [R2, Seps Emp x1.2, OwnS o.v eRoute good 38]
      refine seq ?_
      have hb2n : b2.n = bb.n := (shape_uniq hok2 hok hs2).2.2
      refine draw' (by kernel_rfl) ?_
      refine tk 0 rfl (Ev.move (.t rfl)) ?_
      refine tk 1 rfl (Ev.move (.t rfl)) ?_
      refine tk 2 rfl (Ev.move (.t rfl)) ?_
      refine tk 3 rfl (Ev.indexAddr Try.underlying22 ty38 (.t rfl) (.t rfl) (by first | exact isSl_own (by repeat first | exact mH | apply mT | apply mA) | exact fun w I => IsSl.keep0 (by assumption) I.keeps) (fun _ => by omega)) ?_
      refine tk 4 rfl (Ev.fieldAddrS (o := 0) (i := kI) (.t rfl) (by first | exact isSl_own (by repeat first | exact mH | apply mT | apply mA) | exact fun w I => IsSl.keep0 (by assumption) I.keeps) (fun _ => by omega) (by kernel_rfl)) ?_
      refine tk 5 rfl (Ev.loadS ty36 SRoute.l_to_ rfl (.t rfl) (by first | exact isSl_own (by repeat first | exact mH | apply mT | apply mA) | exact fun w I => IsSl.keep0 (by assumption) I.keeps) (fun _ => by omega)) ?_
      refine tk 6 rfl (Ev.move (.t rfl)) ?_
      refine tk 7 rfl (Ev.move (.t rfl)) ?_
      refine tk 8 rfl (Ev.indexAddr Try.underlying22 ty38 (.t rfl) (.t rfl) (by first | exact isSl_own (by repeat first | exact mH | apply mT | apply mA) | exact fun w I => IsSl.keep0 (by assumption) I.keeps) (fun _ => by omega)) ?_
      refine tk 9 rfl (Ev.fieldAddrS (o := 18) (i := kI) (.t rfl) (by first | exact isSl_own (by repeat first | exact mH | apply mT | apply mA) | exact fun w I => IsSl.keep0 (by assumption) I.keeps) (fun _ => by omega) (by kernel_rfl)) ?_
      refine tk 10 rfl (Ev.loadS ty3 SRoute.l_out rfl (.t rfl) (by first | exact isSl_own (by repeat first | exact mH | apply mT | apply mA) | exact fun w I => IsSl.keep0 (by assumption) I.keeps) (fun _ => by omega)) ?_
      refine al1 11 rfl ((calln (X := Tt × List Res) (TputJ b2 (good.getD kI.toNat eRoute.zero).to_ (good.getD kI.toNat eRoute.zero).out) (fun x => .tuple #[.pointer (pO (checkP (good.getD kI.toNat eRoute.zero).to_) x.1.b), I (checkP (good.getD kI.toNat eRoute.zero).to_)]) (fun x => x.2) en9 (.cons (.t rfl) (.cons (.t rfl) (.cons (.t rfl) .nil))) (fun w I => tput_ok b2 _ _ w (hat2 w (at_mem (by repeat first | exact mH | apply mT | apply mA) w I).1) hok2 (by omega)) (fun x5 hx5 => ?_)))
      refine hdn (tk 12 rfl (Ev.move (.t rfl)) ?_)
      refine tk 13 rfl (Ev.to (v' := x5.1.ptr.v) (Ev.extract (.t rfl) rfl) (congrArg Value.pointer (if_pos hck2))) ?_
      refine tk 14 rfl (Ev.to (v' := I 0) (Ev.extract (.t rfl) rfl) (congrArg Gx.I hck2)) ?_
      refine tk 15 rfl (Ev.assign (.t rfl)) ?_
      refine tk 16 rfl (Ev.assign (.t rfl)) ?_
      refine ovr (pN (seq (seq (takeSeps (r := R2) (by repeat first | exact Rem.head | apply Rem.tail) ?_))))
      replace hx5 := hx5 hck2
      refine region (cons (opv (Ev.move (.t rfl)) (cons (opv (Ev.neq_i (.t rfl) (.c (v := I 0) rfl)) ?_))))
      refine nil (pN (condF rfl (rfl) ?_))
      refine skip (pN (region (cons (opv (Ev.move (.t rfl)) (cons (opv (Ev.assign (.t rfl)) (nil (bN (pN (region (cons (opv (Ev.move (.t rfl)) (cons (opv (Ev.add_i (.t rfl) (.c (v := I 1) rfl) (fun _ => by omega)) ?_))))))))))))))
      refine cons (opv (Ev.assign (.t rfl)) (nil (pN (nxP (X := Int × Tt × Res) (i2 + 1, x5.1, Seps R2 x5.2) ⟨?_, ?_, ?_, ?_, ?_⟩ ?_))))
      · try dsimp only
        omega
      · try dsimp only
        exact hx5.1
      · try dsimp only
        exact fun w1 h => hx5.2.2 w1 (hat2 w1 (Seps.A _ _ h).1) (Seps.A _ _ h).2
      · try dsimp only
        have h9 := put_n hok2 hx5.1 hx5.2.1
        omega
      · try dsimp only
        have hw := way_step hg (z := eRoute.zero) (sh := sh) (E := b2.ents) (E2 := x5.1.ents) hi2.1 h4 (fun y => (hs2 y).trans (hmm y)) (by rw [show kk sh good.length i2 = kI from hkI]; exact hx5.2.1)
        exact hw
      · try dsimp only
        omega
    · try simp only [Gx.nb] at h4
      refine exit (pX (pX (bX (pN (seq ?_)))))
      have hie : i2 = good.length := by omega
      subst hie
      have hbe := way_all hmm
      have heq : ∀ y, y ∈ x1.1.ents ↔ y ∈ bb.ents := fun y => (hxe y).trans (hbe y).symm
      have hsh2 := (shape_uniq hok hx1.1 (fun y => (heq y).symm)).1
      have hn1 := ents_good hx1.1 hg hxe
      have hn2 := ents_good hok hg hbe
      have hsm := shape_small hx1.1
      rw [hn1] at hsm
      have hsm9 : x1.1.shape.length ≤ 4000000000 := by
        by_cases h0 : (good.length : Int) = 0
        · rw [hsm.1 h0]; simp
        · have := hsm.2 (by omega)
          omega
      have hsm1 : (good.length : Int) = 0 → x1.1.shape.length = 0 := fun h => by rw [hsm.1 h]; rfl
      refine region (cons (opv (Ev.move (.t rfl)) (cons (callo en19 (.cons (.t rfl) .nil) (fun w I => shape_to x1.1 x1.1.shape rfl w (xat w (at_mem (by repeat first | exact mH | apply mT | apply mA) w I).1) hx1.1 hsm9) (fun v3 => ?_)))))
      refine cons (opv (Ev.move (.t rfl)) (cons (callo en19 (.cons (.t rfl) .nil) (fun w I => shape_to bb x1.1.shape hsh2 w (hat w (at_mem (by repeat first | exact mH | apply mT | apply mA) w I).1) hok hsm9) (fun v4 => ?_))))
      refine cons (opv (Ev.assign (.t rfl)) (cons (opv (Ev.assign (.t rfl)) (nil (pN (seq (seq (region (cons (opv (Ev.move (.t rfl)) (cons (opv (Ev.move (.t rfl)) (cons (callv en22 (.cons (.t rfl) (.cons (.t rfl) .nil)) (fun w I => same_to x1.1 bb w true (same_of hx1.1 hok heq) (xat w (at_mem (by repeat first | exact mH | apply mT | apply mA) w I).1) (hat w (at_mem (by repeat first | exact mH | apply mT | apply mA) w I).1) hx1.1 hok) ?_))))))))))))))
      refine cons (opv (Ev.not (.t rfl)) ?_)
      refine cons (opv (Ev.move (.t rfl)) (cons (opg rfl rfl (Ev.move (.t rfl)) ?_)))
      refine cons (opg rfl rfl (Ev.move (.t rfl)) ?_)
      refine cons (callg rfl rfl en22 (.cons (.g rfl id) (.cons (.g rfl id) .nil)) (fun hg w I => same_to bb x1.1 w true (same_of hok hx1.1 (fun y => (heq y).symm)) (hat w (at_mem (by repeat first | exact mH | apply mT | apply mA) w I).1) (xat w (at_mem (by repeat first | exact mH | apply mT | apply mA) w I).1) hok hx1.1) ?_)
      refine cons (opg rfl rfl (Ev.not (.g rfl id)) ?_)
      refine cons (opv (Ev.pickO (.t rfl) (.c (v := .bool true) rfl) (fun {_} h => by cases h; rfl) ⟨_, rfl⟩ (by intro h1 h; first | (rw [h] <;> rfl) | (rw [h1, h] <;> rfl) | (rw [h, h1] <;> rfl) | simp_all)) ?_)
      refine cons (opv (Ev.move (.t rfl)) (cons (opg rfl rfl (Ev.move (.t rfl)) ?_)))
      refine cons (opg rfl rfl (Ev.len Try.underlying51 (.g rfl id) (by first | exact isSl_own (by repeat first | exact mH | apply mT | apply mA) | exact fun w I => IsSl.keep0 (by assumption) I.keeps)) ?_)
      refine cons (opg rfl rfl (Ev.move (.t rfl)) ?_)
      refine cons (opg rfl rfl (Ev.len Try.underlying51 (.g rfl id) (by first | exact isSl_own (by repeat first | exact mH | apply mT | apply mA) | exact fun w I => IsSl.keep0 (by assumption) I.keeps)) ?_)
      refine cons (opg rfl rfl (Ev.neq_i (.g rfl id) (.g rfl id)) ?_)
      refine cons (opv (Ev.pickO (.t rfl) (.c (v := .bool true) rfl) (fun {_} h => by cases h; rfl) ⟨_, rfl⟩ (by intro h1 h; first | (rw [h] <;> rfl) | (rw [h1, h] <;> rfl) | (rw [h, h1] <;> rfl) | simp_all)) ?_)
      refine cons (opv (Ev.move (.t rfl)) (cons (opg rfl rfl (Ev.move (.t rfl)) ?_)))
      refine cons (opg rfl rfl (Ev.gtr_i (.g rfl id) (.c (v := I 0) rfl)) ?_)
      refine cons (opg rfl rfl (Ev.move (.g rfl id)) ?_)
      refine cons (opg rfl rfl (Ev.move (.t rfl)) ?_)
      refine cons (opg rfl rfl (Ev.len Try.underlying51 (.g rfl id) (by first | exact isSl_own (by repeat first | exact mH | apply mT | apply mA) | exact fun w I => IsSl.keep0 (by assumption) I.keeps)) ?_)
      refine cons (opg rfl rfl (Ev.move (.t rfl)) ?_)
      refine cons (opg rfl rfl (Ev.mul_i (.c (v := I 2) rfl) (.g rfl id) (fun _ => by first | omega | (rename_i hg; simp at hg; omega))) ?_)
      refine cons (opg rfl rfl (Ev.sub_i (.g rfl id) (.c (v := I 1) rfl) (fun _ => by first | omega | (rename_i hg; simp at hg; omega))) ?_)
      refine cons (opg rfl rfl (Ev.gtr_i (.g rfl id) (.g rfl id)) ?_)
      refine cons (opg rfl rfl (Ev.pickA (.g rfl id) (fun {_} h => by cases h; rfl) ⟨_, rfl⟩ (by intro h1 h; first | (rw [h] <;> rfl) | (rw [h1, h] <;> rfl) | (rw [h, h1] <;> rfl) | simp_all) (.c (v := .bool false) rfl)) ?_)
      refine cons (opv (Ev.pickO (.t rfl) (.c (v := .bool true) rfl) (fun {_} h => by cases h; rfl) ⟨_, rfl⟩ (by intro h1 h; first | (rw [h] <;> rfl) | (rw [h1, h] <;> rfl) | (rw [h, h1] <;> rfl) | simp_all)) ?_)
      refine cons (opv (Ev.move (.t rfl)) (cons (opg rfl rfl (Ev.move (.t rfl)) ?_)))
      refine cons (opg rfl rfl (Ev.eql_i (.g rfl id) (.c (v := I 0) rfl)) ?_)
      refine cons (opg rfl rfl (Ev.move (.g rfl id)) ?_)
      refine cons (opg rfl rfl (Ev.move (.t rfl)) ?_)
      refine cons (opg rfl rfl (Ev.len Try.underlying51 (.g rfl id) (by first | exact isSl_own (by repeat first | exact mH | apply mT | apply mA) | exact fun w I => IsSl.keep0 (by assumption) I.keeps)) ?_)
      refine cons (opg rfl rfl (Ev.gtr_i (.g rfl id) (.c (v := I 0) rfl)) ?_)
      refine cons (opg rfl rfl (Ev.pickA (.g rfl id) (fun {_} h => by cases h; rfl) ⟨_, rfl⟩ (by intro h1 h; first | (rw [h] <;> rfl) | (rw [h1, h] <;> rfl) | (rw [h, h1] <;> rfl) | simp_all) (.c (v := .bool false) rfl)) ?_)
      refine cons (opv (Ev.pickO (.t rfl) (.c (v := .bool true) rfl) (fun {_} h => by cases h; rfl) ⟨_, rfl⟩ (by intro h1 h; first | (rw [h] <;> rfl) | (rw [h1, h] <;> rfl) | (rw [h, h1] <;> rfl) | simp_all)) ?_)
      refine cons (opv (Ev.move (.t rfl)) (cons (opg rfl rfl (Ev.move (.t rfl)) ?_)))
      refine cons (callg rfl rfl en18 (.cons (.g rfl id) .nil) (fun hg w I => len_to x1.1 w good.length hn1 (xat w (at_mem (by repeat first | exact mH | apply mT | apply mA) w I).1) hx1.1) ?_)
      refine cons (opg rfl rfl (Ev.move (.t rfl)) ?_)
      refine cons (opg rfl rfl (Ev.neq_i (.g rfl id) (.g rfl id)) ?_)
      refine cons (opv (Ev.pickO (.t rfl) (.c (v := .bool true) rfl) (fun {_} h => by cases h; rfl) ⟨_, rfl⟩ (by intro h1 h; first | (rw [h] <;> rfl) | (rw [h1, h] <;> rfl) | (rw [h, h1] <;> rfl) | simp_all)) ?_)
      refine cons (opv (Ev.move (.t rfl)) (cons (opg rfl rfl (Ev.move (.t rfl)) ?_)))
      refine cons (callg rfl rfl en18 (.cons (.g rfl id) .nil) (fun hg w I => len_to bb w good.length hn2 (hat w (at_mem (by repeat first | exact mH | apply mT | apply mA) w I).1) hok) ?_)
      refine cons (opg rfl rfl (Ev.move (.t rfl)) ?_)
      refine cons (opg rfl rfl (Ev.neq_i (.g rfl id) (.g rfl id)) ?_)
      refine cons (opv (Ev.pickO (.t rfl) (.c (v := .bool true) rfl) (fun {_} h => by cases h; rfl) ⟨_, rfl⟩ (by intro h1 h; first | (rw [h] <;> rfl) | (rw [h1, h] <;> rfl) | (rw [h, h1] <;> rfl) | simp_all)) ?_)
      refine nil (pN (condF rfl (by simp; exact ⟨fun h => hsm.2 (by omega), fun h => hsm.1 (by rw [h]; rfl)⟩) ?_))
      refine skip (pN (seq (seq (region (cons (opv (Ev.assign (.c (v := I 0) rfl)) ?_))))))
      refine nil (pN (block (lp (X := Int) (fun x : Int => (0 ≤ x ∧ x ≤ x1.1.shape.length)) (fun x : Int => [dz, (6, true, .bool false), (23, true, v3.v), (24, true, v4.v), (25, true, I x)]) (fun x : Int => [OwnS v4.v ePrefix x1.1.shape 36, OwnS v3.v ePrefix x1.1.shape 36]) (fun x : Int => ((x1.1.shape.length : Int) - x).toNat) (0) ?_ (fun x hx => ?_))))
      · omega
      obtain ⟨i3, rfl⟩ : ∃ y, y = x := ⟨x, rfl⟩
      have hi3 : 0 ≤ i3 ∧ i3 ≤ x1.1.shape.length := hx
      clear hx
      show Sat _ _ [dz, (6, true, .bool false), (23, true, v3.v), (24, true, v4.v), (25, true, I i3)] [OwnS v4.v ePrefix x1.1.shape 36, OwnS v3.v ePrefix x1.1.shape 36]
      refine seq (seq (region (cons (opv (Ev.move (.t rfl)) (cons (opv (Ev.move (.t rfl)) (cons (opv (Ev.len Try.underlying51 (.t rfl) (by first | exact isSl_own (by repeat first | exact mH | apply mT | apply mA) | exact fun w I => IsSl.keep0 (by assumption) I.keeps)) ?_))))))))
      refine cons (opv (Ev.lss_i (.t rfl) (.t rfl)) ?_)
      refine nil (pN ?_)
      first | refine condD rfl (fun h11 => ?_) (fun h11 => ?_) | refine cond rfl (fun h11 => ?_) (fun h11 => ?_)
      · try simp only [Gx.nb] at h11
        refine skip (pN (seq (block (seq (draw' (by kernel_rfl) ?_)))))
        refine tk 0 rfl (Ev.move (.t rfl)) ?_
        refine tk 1 rfl (Ev.move (.t rfl)) ?_
        refine tk 2 rfl (Ev.indexAddr Try.underlying51 ty36 (.t rfl) (.t rfl) (by first | exact isSl_own (by repeat first | exact mH | apply mT | apply mA) | exact fun w I => IsSl.keep0 (by assumption) I.keeps) (fun _ => by omega)) ?_
        refine tk 3 rfl (Ev.loadS0 ty36 (.t rfl) (by first | exact isSl_own (by repeat first | exact mH | apply mT | apply mA) | exact fun w I => IsSl.keep0 (by assumption) I.keeps) (fun _ => by omega)) ?_
        refine tk 4 rfl (Ev.move (.t rfl)) ?_
        refine tk 5 rfl (Ev.move (.t rfl)) ?_
        refine tk 6 rfl (Ev.indexAddr Try.underlying51 ty36 (.t rfl) (.t rfl) (by first | exact isSl_own (by repeat first | exact mH | apply mT | apply mA) | exact fun w I => IsSl.keep0 (by assumption) I.keeps) (fun _ => by omega)) ?_
        refine tk 7 rfl (Ev.loadS0 ty36 (.t rfl) (by first | exact isSl_own (by repeat first | exact mH | apply mT | apply mA) | exact fun w I => IsSl.keep0 (by assumption) I.keeps) (fun _ => by omega)) ?_
        refine tk 8 rfl (Ev.neqS rfl eqok36 rfl (by kernel_rfl) (.t rfl) (.t rfl)) ?_
        refine tk 9 rfl (Ev.move (.t rfl)) ?_
        refine tkg 10 rfl rfl rfl (Ev.move (.t rfl)) ?_
        refine tkg 11 rfl rfl rfl (Ev.gtr_i (.g rfl id) (.c (v := I 0) rfl)) ?_
        refine tkg 12 rfl rfl rfl (Ev.move (.g rfl id)) ?_
        refine tkg 13 rfl rfl rfl (Ev.move (.t rfl)) ?_
        refine tkg 14 rfl rfl rfl (Ev.move (.t rfl)) ?_
        refine tkg 15 rfl rfl rfl (Ev.sub_i (.g rfl id) (.c (v := I 1) rfl) (fun _ => by first | omega | (rename_i hg; simp at hg; omega))) ?_
        refine tkg 16 rfl rfl rfl (Ev.indexAddr Try.underlying51 ty36 (.g rfl id) (.g rfl id) (by first | exact isSl_own (by repeat first | exact mH | apply mT | apply mA) | exact fun w I => IsSl.keep0 (by assumption) I.keeps) (fun _ => by first | omega | (rename_i hg; simp at hg; omega))) ?_
        refine tkg 17 rfl rfl rfl (Ev.loadS0 ty36 (.g rfl id) (by first | exact isSl_own (by repeat first | exact mH | apply mT | apply mA) | exact fun w I => IsSl.keep0 (by assumption) I.keeps) (fun _ => by first | omega | (rename_i hg; simp at hg; omega))) ?_
        refine tkg 18 rfl rfl rfl (Ev.move (.t rfl)) ?_
        refine tkg 19 rfl rfl rfl (Ev.move (.t rfl)) ?_
        refine tkg 20 rfl rfl rfl (Ev.indexAddr Try.underlying51 ty36 (.g rfl id) (.g rfl id) (by first | exact isSl_own (by repeat first | exact mH | apply mT | apply mA) | exact fun w I => IsSl.keep0 (by assumption) I.keeps) (fun _ => by first | omega | (rename_i hg; simp at hg; omega))) ?_
        refine tkg 21 rfl rfl rfl (Ev.loadS0 ty36 (.g rfl id) (by first | exact isSl_own (by repeat first | exact mH | apply mT | apply mA) | exact fun w I => IsSl.keep0 (by assumption) I.keeps) (fun _ => by first | omega | (rename_i hg; simp at hg; omega))) ?_
        refine al1 22 rfl ((callg rfl rfl en30 (.cons (.g rfl id) (.cons (.g rfl id) .nil)) (fun hg w I => cmpP_ok _ _ w) ?_))
        refine hdn (tkg 23 rfl rfl rfl (Ev.neq_i (.g rfl id) (.c (v := I (-1)) rfl)) ?_)
        refine tkg 24 rfl rfl rfl (Ev.pickA (.g rfl id) (fun {_} h => by cases h; rfl) ⟨_, rfl⟩ (by intro h1 h; first | (rw [h] <;> rfl) | (rw [h1, h] <;> rfl) | (rw [h, h1] <;> rfl) | simp_all) (.c (v := .bool false) rfl)) ?_
        refine tk 25 rfl (Ev.pickO (.t rfl) (.c (v := .bool true) rfl) (fun {_} h => by cases h; rfl) ⟨_, rfl⟩ (by intro h1 h; first | (rw [h] <;> rfl) | (rw [h1, h] <;> rfl) | (rw [h, h1] <;> rfl) | simp_all)) ?_
        refine ovr (pN (condF rfl (by rcases Classical.em (0 < i3) with hb | hb <;> first | (simp [-List.getD_eq_getElem?_getD, hb]; done) | (have h9 := pair_at (z := ePrefix.zero) (shape_sorted hx1.1) hb h11; rw [show (i3 - 1).toNat = i3.toNat - 1 by omega] at h9; simp [-List.getD_eq_getElem?_getD, hb, h9]; done)) ?_))
        refine skip (bN (pN (region (cons (opv (Ev.move (.t rfl)) (cons (opv (Ev.add_i (.t rfl) (.c (v := I 1) rfl) (fun _ => by omega)) ?_)))))))
        refine cons (opv (Ev.assign (.t rfl)) (nil (pN (nx (X := Int) (i3 + 1) ?_ ?_))))
        · try dsimp only
          omega
        · try dsimp only
          omega
      · try simp only [Gx.nb] at h11
        refine exit (pX (pX (bX (pN (seq (region (cons (callv en16 .nil (fun w I => works_ok w) ?_))))))))
        refine cons (opv (Ev.assign (.t rfl)) (nil (pN (ret (done rfl (.tmp rfl .nil) (retE ?_))))))
        rfl
end Go.Proofs.Ytjjlofjpdklbgaa
