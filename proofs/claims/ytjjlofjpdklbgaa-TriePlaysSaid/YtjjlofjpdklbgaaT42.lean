/- trie -/
import Derived.Test.YtjjlofjpdklbgaaT41
set_option linter.unusedVariables false
set_option linter.unusedSimpArgs false
namespace Go.Proofs.Ytjjlofjpdklbgaa
open Go Go.Gx

theorem tof_t (u : Value) (rs : List SRoute) (E : Int) (hE : ofR rs = E) (w : World) (hs : IsSl eRoute w u rs) (hl : rs.length ≤ 4611686018427387) : Calls Try.prog 23 #[u] w (RetN w (TofJ rs) (fun x => .tuple #[.pointer (pO E x.1.b), I E]) (fun x => x.2)) := by
  subst hE
  exact tof_ok u rs w hs hl
theorem rof_e (u : Value) (rs : List SRoute) (E : Int) (hE : ofR rs = E) (w : World) (hs : IsSl eRoute w u rs) (hn : rs.length ≤ 1000) : Calls Try.prog 24 #[u] w (RetN w (RJ E (refL rs)) (fun x : OV × List Res => .tuple #[eRef18Trie.val ⟨x.1⟩, I E]) (fun x => x.2)) := by
  subst hE
  exact rof_ok u rs w hs hn

theorem map_at {α β : Type} (f : α → β) {l : List α} {k : Nat} (h : k < l.length) (z : β) (y : α) : (l.map f).getD k z = f (l.getD k y) := by simp [List.getD, h]

theorem en24 : Gx.Enters Try.prog 24 := Gx.Enters.mk' (by kernel_rfl)

theorem z24 : (Try.prog.info? 24).bind (·.zero) = some ((ovE nilPtr).val (ovE nilPtr).zero) := by kernel_rfl

theorem ty70 : TyOK Try.prog 70 eLaw18Do := TyOK.mk' (by kernel_rfl) (by kernel_rfl)

theorem z70 : (Try.prog.info? 70).bind (·.zero) = some (eLaw18Do.val eLaw18Do.zero) := by kernel_rfl

theorem en25 : Gx.Enters Try.prog 25 := Gx.Enters.mk' (by kernel_rfl)

theorem en26 : Gx.Enters Try.prog 26 := Gx.Enters.mk' (by kernel_rfl)

theorem zb24 : (Try.prog.info? 24).map (fun i => (i.zero, i.bytes)) = some (some ((ovE nilPtr).val (ovE nilPtr).zero), 8) := by kernel_rfl

theorem zs24 : ((ovE nilPtr).val (ovE nilPtr).zero).cells.size = (ovE nilPtr).size := by rw [Enc.cells_val, List.size_toArray, Enc.len]

theorem zb64 : (Try.prog.info? 64).map (fun i => (i.zero, i.bytes)) = some (some (eRef18Trie.val eRef18Trie.zero), 24) := by kernel_rfl

theorem zs64 : (eRef18Trie.val eRef18Trie.zero).cells.size = eRef18Trie.size := by rw [Enc.cells_val, List.size_toArray, Enc.len]

theorem en27 : Gx.Enters Try.prog 27 := Gx.Enters.mk' (by kernel_rfl)

theorem en28 : Gx.Enters Try.prog 28 := Gx.Enters.mk' (by kernel_rfl)

theorem TriePlays_walk (u v : Value) (rs : List SRoute) (ds : List SLaw18Do) (w : World) (hrs : IsSl eRoute w u rs) (hds : IsSl eLaw18Do w v ds) : Calls Try.prog 5 #[u, v] w (RetV w (.bool true)) := by
  refine enter0 179 Try.func5 rfl rfl (Nat.le_of_ble_eq_true rfl) ?_
  refine seq (region (cons (opv (Ev.assign (.c (v := .bool false) rfl)) ?_)))
  refine nil (pN (seq ?_))
  obtain ⟨m, hm⟩ : ∃ m : Nat, min ((rs.length : Nat) : Int) 30 = ((m : Nat) : Int) := ⟨min rs.length 30, by omega⟩
  refine region (cons (opv (Ev.move (.t rfl)) (cons (opv (Ev.move (.t rfl)) (cons (opv (Ev.len Try.underlying22 (.t rfl) (fun w I => hrs.keep0 I.keeps)) ?_))))))
  refine cons (opv (Ev.to (v' := I ((m : Nat) : Int)) (Ev.min_i (.t rfl) (.c (v := I 30) rfl)) (by rw [hm])) ?_)
  refine cons (opv (Ev.sliceH Try.underlying22 ty38 (.t rfl) (.t rfl) (fun w I => hrs.keep0 I.keeps) (fun _ => by omega)) ?_)
  refine cons (opv (Ev.assign (.t rfl)) (nil (pN (seq ?_))))
  obtain ⟨E0, hE0⟩ : ∃ z, ofR (rs.take m) = z := ⟨_, rfl⟩
  refine emp0 ?_
  refine region (cons (opv (Ev.move (.t rfl)) (cons (calln (X := Tt × List Res) (TofJ (rs.take m)) (fun x => .tuple #[.pointer (pO E0 x.1.b), I E0]) (fun x => x.2) en23 (.cons (.t rfl) .nil) (fun w I => tof_t _ (rs.take m) E0 hE0 w (by have := (hrs.keep0 I.keeps).sub (l := 0) (k := m) (by omega) (by omega); simpa using this) (by simp; omega)) (fun x1 hx1 => ?_)))))
  refine takeSeps (r := Emp) (by repeat first | exact Rem.head | apply Rem.tail) ?_
  refine cons (opv (Ev.move (.t rfl)) (cons (opv (Ev.extract (.t rfl) rfl) (cons (opv (Ev.extract (.t rfl) rfl) (cons (opv (Ev.assign (.t rfl)) (cons (opv (Ev.assign (.t rfl)) (nil (pN (seq (region (cons (opv (Ev.move (.t rfl)) (cons (calln (X := OV × List Res) (RJ E0 (refL (rs.take m))) (fun x : OV × List Res => .tuple #[eRef18Trie.val ⟨x.1⟩, I E0]) (fun x => x.2) en24 (.cons (.t rfl) .nil) (fun w I => rof_e _ (rs.take m) E0 hE0 w (by have := (hrs.keep0 I.keeps).sub (l := 0) (k := m) (by omega) (by omega); simpa using this) (by simp; omega)) (fun x2 hx2 => ?_))))))))))))))))))
  refine takeSeps (r := Seps Emp x1.2) (by repeat first | exact Rem.head | apply Rem.tail) ?_
  refine cons (opv (Ev.move (.t rfl)) (cons (opv (Ev.extract (.t rfl) rfl) (cons (opv (Ev.extract (.t rfl) rfl) (cons (alloc z64 (fun b1 => ?_))))))))
  refine cons (stv ty64 (Lens.id _) (.t rfl) (.t rfl) ?_)
  refine cons (opv (Ev.assign (.t rfl)) (nil (pN (seq (seq (region (cons (opv (Ev.move (.t rfl)) (cons (opv (Ev.move (.t rfl)) (cons (opv (Ev.neq_i (.t rfl) (.t rfl)) ?_))))))))))))
  refine cons (opv (Ev.move (.t rfl)) (cons (opg rfl rfl (Ev.move (.t rfl)) ?_)))
  refine cons (opg rfl rfl (Ev.eql_p Try.underlying24 (.g rfl id) (.c rfl)) ?_)
  refine cons (opg rfl rfl (Ev.move (.t rfl)) ?_)
  refine cons (opg rfl rfl (Ev.neq_i (.g rfl id) (.c (v := I 0) rfl)) ?_)
  refine cons (opg rfl rfl (Ev.neq_b Try.underlying4 (.g rfl id) (.g rfl id)) ?_)
  refine cons (opv (Ev.pickO (.t rfl) (.c (v := .bool true) rfl) (fun {_} h => by cases h; rfl) ⟨_, rfl⟩ (by intro h1 h; first | (rw [h] <;> rfl) | (rw [h1, h] <;> rfl) | (rw [h, h1] <;> rfl) | simp_all)) ?_)
  refine nil (pN (condF rfl (by unfold pO; by_cases h : E0 = 0 <;> simp [h]) ?_))
  refine skip (pN (seq (seq (region (cons (opv (Ev.move (.t rfl)) (cons (opv (Ev.neq_i (.t rfl) (.c (v := I 0) rfl)) ?_))))))))
  refine nil (pN ?_)
  first | refine condD rfl (fun h1 => ?_) (fun h1 => ?_) | refine cond rfl (fun h1 => ?_) (fun h1 => ?_)
  · try simp only [Gx.nb] at h1
    refine seq (region (cons (callv en16 .nil (fun w I => works_ok w) ?_)))
    refine cons (opv (Ev.assign (.t rfl)) (nil (pN (ret (pR (done rfl (.tmp rfl .nil) (retE ?_)))))))
    rfl
  · try simp only [Gx.nb] at h1
    refine skip (pN (seq ?_))
    subst h1
    have hof : ofR (rs.take m) = 0 := hE0
    replace hx1 := hx1 hof
    have hp0 : ∀ w1 : World, (Seps (Seps Emp x1.2) x2.2).A w1 → PairAt w1 (x1.1, x2.1) := fun w1 h => by
      have hs := Seps.A _ _ h
      have hs2 := Seps.A _ _ hs.1
      exact ⟨hx1.2.2.2 w1 hs2.2, by rw [← row_routes hx1.1 hx1.2.1]; exact hx2 rfl w1 hs.2⟩
    refine region (cons (opv (Ev.to (v' := x1.1.ptr.v) (Ev.move (.t rfl)) (rfl)) ?_))
    refine cons (buildSlice (E := (ovE nilPtr)) Try.underlying67 ty24 z24 (.cons (.t rfl) .nil) rfl rfl (fun v2 => ?_))
    refine cons (opv (Ev.assign (.t rfl)) (nil (pN (seq (region (cons (opv (Ev.ldv ty64 (.t rfl) (Lens.id _)) ?_)))))))
    refine cons (buildSlice (E := eRef18Trie) Try.underlying68 ty64 z64 (.cons (.t rfl) .nil) rfl rfl (fun v3 => ?_))
    refine cons (opv (Ev.assign (.t rfl)) (nil (pN (seq (seq (region (cons (opv (Ev.assign (.c (v := I 0) rfl)) ?_))))))))
    refine nil (pN (block (lp (X := Int × (Tt × OV) × (List (Tt × OV)) × Res × OV × OV) (fun x : Int × (Tt × OV) × (List (Tt × OV)) × Res × OV × OV => (0 ≤ x.1 ∧ x.1 ≤ 30) ∧ (x.2.1 ∈ x.2.2.1) ∧ (∀ e ∈ x.2.2.1, e.1.OK ∧ e.1.n ≤ 30 + x.1) ∧ (∀ w1 : World, x.2.2.2.1.A w1 → ∀ e ∈ x.2.2.1, PairAt w1 e) ∧ ((x.2.2.1.length : Int) ≤ x.1 + 1)) (fun x : Int × (Tt × OV) × (List (Tt × OV)) × Res × OV × OV => [dz, (1, true, v), (4, true, .bool false), (5, true, x.2.1.1.ptr.v), (7, true, .pointer (some ⟨b1, 0, none⟩)), (9, true, x.2.2.2.2.1.v), (10, true, x.2.2.2.2.2.v), (11, true, I x.1)]) (fun x : Int × (Tt × OV) × (List (Tt × OV)) × Res × OV × OV => [OwnS x.2.2.2.2.2.v eRef18Trie (x.2.2.1.map (fun e => (⟨e.2⟩ : SRef18Trie))) 64, OwnS x.2.2.2.2.1.v (ovE nilPtr) (x.2.2.1.map (fun e => e.1.ptr)) 24, Var b1 eRef18Trie ⟨x.2.1.2⟩ 64, x.2.2.2.1]) (fun x : Int × (Tt × OV) × (List (Tt × OV)) × Res × OV × OV => (30 - x.1).toNat) (0, (x1.1, x2.1), [(x1.1, x2.1)], Seps (Seps Emp x1.2) x2.2, v2, v3) ⟨?_, ?_, ?_, ?_, ?_⟩ (fun x hx => ?_))))
    · omega
    · exact List.mem_singleton_self _
    · intro e he
      rw [List.mem_singleton.1 he]
      exact ⟨hx1.1, by have := hx1.2.2.1; simp at this; show x1.1.n ≤ 30 + 0; omega⟩
    · intro w1 h e he
      rw [List.mem_singleton.1 he]
      exact hp0 w1 h
    · exact Int.le_refl 1
    obtain ⟨i, c, es, R, o9, o10⟩ := x
    obtain ⟨hi, hc, hok, hat, hel⟩ : (0 ≤ i ∧ i ≤ 30) ∧ (c ∈ es) ∧ (∀ e ∈ es, e.1.OK ∧ e.1.n ≤ 30 + i) ∧ (∀ w1 : World, R.A w1 → ∀ e ∈ es, PairAt w1 e) ∧ ((es.length : Int) ≤ i + 1) := hx
    show Sat _ _ [dz, (1, true, v), (4, true, .bool false), (5, true, c.1.ptr.v), (7, true, .pointer (some ⟨b1, 0, none⟩)), (9, true, o9.v), (10, true, o10.v), (11, true, I i)] [OwnS o10.v eRef18Trie (es.map (fun e => (⟨e.2⟩ : SRef18Trie))) 64, OwnS o9.v (ovE nilPtr) (es.map (fun e => e.1.ptr)) 24, Var b1 eRef18Trie ⟨c.2⟩ 64, R]
    refine seq (seq (region (cons (opv (Ev.move (.t rfl)) (cons (opv (Ev.move (.t rfl)) (cons (opv (Ev.len Try.underlying62 (.t rfl) (fun w I => hds.keep0 I.keeps)) ?_))))))))
    refine cons (opv (Ev.lss_i (.t rfl) (.t rfl)) ?_)
    refine cons (opv (Ev.move (.t rfl)) (cons (opg rfl rfl (Ev.move (.t rfl)) ?_)))
    refine cons (opg rfl rfl (Ev.lss_i (.g rfl id) (.c (v := I 30) rfl)) ?_)
    refine cons (opv (Ev.pickA (.t rfl) (fun {_} h => by cases h; rfl) ⟨_, rfl⟩ (by intro h1 h; first | (rw [h] <;> rfl) | (rw [h1, h] <;> rfl) | (rw [h, h1] <;> rfl) | simp_all) (.c (v := .bool false) rfl)) ?_)
    refine nil (pN ?_)
    first | refine condD rfl (fun h2 => ?_) (fun h2 => ?_) | refine cond rfl (fun h2 => ?_) (fun h2 => ?_)
    · try simp only [Gx.nb] at h2
      refine skip (pN (seq (block (seq (region (cons (opv (Ev.move (.t rfl)) (cons (opv (Ev.move (.t rfl)) (cons (opv (Ev.indexAddr Try.underlying62 ty70 (.t rfl) (.t rfl) (fun w I => hds.keep0 I.keeps) (fun _ => by omega)) ?_)))))))))))
      refine cons (opv (Ev.loadS0 ty70 (.t rfl) (fun w I => hds.keep0 I.keeps) (fun _ => by omega)) ?_)
      refine cons (alloc z70 (fun b4 => ?_))
      refine cons (stv ty70 (Lens.id _) (.t rfl) (.t rfl) ?_)
      refine nil (pN (seq (region (cons (opv (Ev.ldv ty64 (.t rfl) (Lens.id _)) ?_)))))
      refine cons (alloc z64 (fun b5 => ?_))
      refine cons (stv ty64 (Lens.id _) (.t rfl) (.t rfl) ?_)
      refine cons (opv (Ev.assign (.c (v := I 0) rfl)) ?_)
      refine nil (pN (seq (region (cons (opv (Ev.move (.t rfl)) (cons (opv (Ev.assign (.t rfl)) (nil (pN (cut (X := Int × (Tt × OV) × Res) (fun x : Int × (Tt × OV) × Res => (x.1 = 0 → x.2.1.1.OK ∧ x.2.1.1.n ≤ 31 + i ∧ ∀ w1 : World, x.2.2.A w1 → PairAt w1 x.2.1) ∧ (∀ w1 : World, x.2.2.A w1 → R.A w1)) (fun x : Int × (Tt × OV) × Res => [dz, (1, true, v), (4, true, .bool false), (5, true, c.1.ptr.v), (6, true, I x.1), (7, true, .pointer (some ⟨b1, 0, none⟩)), (9, true, o9.v), (10, true, o10.v), (11, true, I i), (12, true, .pointer (some ⟨b4, 0, none⟩)), (13, true, .pointer (some ⟨b5, 0, none⟩)), (14, true, I x.1), (15, true, .pointer (pO x.1 x.2.1.1.b))]) (fun x : Int × (Tt × OV) × Res => [x.2.2, Var b5 eRef18Trie ⟨x.2.1.2⟩ 64, Var b4 eLaw18Do (ds.getD i.toNat eLaw18Do.zero) 70, OwnS o10.v eRef18Trie (es.map (fun e => (⟨e.2⟩ : SRef18Trie))) 64, OwnS o9.v (ovE nilPtr) (es.map (fun e => e.1.ptr)) 24, Var b1 eRef18Trie ⟨c.2⟩ 64]) ?_ (fun x hx => ?_)))))))))))
      · refine seq ?_
        have hk3 : -3 < (ds.getD i.toNat eLaw18Do.zero).kind.tmod 3 ∧ (ds.getD i.toNat eLaw18Do.zero).kind.tmod 3 < 3 := ⟨Int.lt_tmod_of_pos _ (by decide), Int.tmod_lt_of_pos _ (by decide)⟩
        refine region (cons (opv (Ev.fieldAddr (o := 0) (.t rfl) (by kernel_rfl)) ?_))
        refine cons (opv (Ev.to (v' := I (ds.getD i.toNat eLaw18Do.zero).kind) (Ev.ldv ty3 (.t rfl) SLaw18Do.l_kind) (rfl)) ?_)
        refine cons (opv (Ev.rem_i (.t rfl) (.c (v := I 3) rfl) (fun _ => by decide)) ?_)
        refine cons (opv (Ev.add_i (.t rfl) (.c (v := I 3) rfl) (fun _ => by omega)) ?_)
        refine cons (opv (Ev.rem_i (.t rfl) (.c (v := I 3) rfl) (fun _ => by decide)) ?_)
        refine nil (pN (block (seq (region (cons (opv (Ev.eql_i (.t rfl) (.c (v := I 0) rfl)) ?_))))))
        refine cons (opv (Ev.assign (.t rfl)) (nil (pN ?_)))
        first | refine condD rfl (fun h3 => ?_) (fun h3 => ?_) | refine cond rfl (fun h3 => ?_) (fun h3 => ?_)
        · try simp only [Gx.nb] at h3
          refine seq (region (cons (opv (Ev.move (.t rfl)) (cons (opv (Ev.fieldAddr (o := 1) (.t rfl) (by kernel_rfl)) ?_)))))
          refine cons (opv (Ev.ldv ty36 (.t rfl) SLaw18Do.l_p) ?_)
          refine cons (opv (Ev.fieldAddr (o := 19) (.t rfl) (by kernel_rfl)) ?_)
          refine cons (opv (Ev.ldv ty3 (.t rfl) SLaw18Do.l_v) ?_)
          refine cons (calln (X := Tt × List Res) (TputJ c.1 (ds.getD i.toNat eLaw18Do.zero).p (ds.getD i.toNat eLaw18Do.zero).v) (fun x => .tuple #[.pointer (pO (checkP (ds.getD i.toNat eLaw18Do.zero).p) x.1.b), I (checkP (ds.getD i.toNat eLaw18Do.zero).p)]) (fun x => x.2) en9 (.cons (.t rfl) (.cons (.t rfl) (.cons (.t rfl) .nil))) (fun w I => tput_ok c.1 _ _ w (hat w (at_mem (by repeat first | exact mH | apply mT | apply mA) w I).1 c hc).1 (hok c hc).1 (by have := (hok c hc).2; omega)) (fun x3 hx3 => ?_))
          refine takeSeps (r := R) (by repeat first | exact Rem.head | apply Rem.tail) ?_
          refine cons (opv (Ev.move (.t rfl)) (cons (opv (Ev.extract (.t rfl) rfl) (cons (opv (Ev.extract (.t rfl) rfl) (cons (opv (Ev.assign (.t rfl)) (cons (opv (Ev.assign (.t rfl)) (nil (pN (region (cons (opv (Ev.ldv ty64 (.t rfl) (Lens.id _)) ?_))))))))))))))
          refine cons (opv (Ev.fieldAddr (o := 1) (.t rfl) (by kernel_rfl)) ?_)
          refine cons (opv (Ev.ldv ty36 (.t rfl) SLaw18Do.l_p) ?_)
          refine cons (opv (Ev.fieldAddr (o := 19) (.t rfl) (by kernel_rfl)) ?_)
          refine cons (opv (Ev.ldv ty3 (.t rfl) SLaw18Do.l_v) ?_)
          refine cons (calln (X := OV × List Res) (RJ (checkP (ds.getD i.toNat eLaw18Do.zero).p) (insK fE (rowT c.1) ⟨(ds.getD i.toNat eLaw18Do.zero).p, (ds.getD i.toNat eLaw18Do.zero).v⟩)) (fun x : OV × List Res => .tuple #[eRef18Trie.val ⟨x.1⟩, I (checkP (ds.getD i.toNat eLaw18Do.zero).p)]) (fun x => x.2) en25 (.cons (.t rfl) (.cons (.t rfl) (.cons (.t rfl) .nil))) (fun w I => rput_t ⟨c.2⟩ c.1 _ _ w (hat w (Seps.A x3.2 R (at_mem (by repeat first | exact mH | apply mT | apply mA) w I).1).1 c hc).2 (by have := (row_small (hok c hc).1 (hok c hc).2 (by omega)).1; omega)) (fun x4 hx4 => ?_))
          refine takeSeps (r := Seps R x3.2) (by repeat first | exact Rem.head | apply Rem.tail) ?_
          refine cons (opv (Ev.move (.t rfl)) (cons (opv (Ev.extract (.t rfl) rfl) (cons (opv (Ev.extract (.t rfl) rfl) (cons (stv ty64 (Lens.id _) (.t rfl) (.t rfl) ?_)))))))
          refine cons (opv (Ev.assign (.t rfl)) (nil (bN (pN (mtP (X := Int × (Tt × OV) × Res) (checkP (ds.getD i.toNat eLaw18Do.zero).p, (x3.1, x4.1), Seps (Seps R x3.2) x4.2) ⟨?_, ?_⟩)))))
          · try dsimp only
            intro hE0
            obtain ⟨q1, q2, q3⟩ := hx3 hE0
            refine ⟨q1, by have := put_n (hok c hc).1 q1 q2; have := (hok c hc).2; show x3.1.n ≤ 31 + i; omega, fun w1 h => ?_⟩
            have hs := Seps.A _ _ h
            have hs2 := Seps.A _ _ hs.1
            exact ⟨q3 w1 (hat w1 hs2.1 c hc).1 hs2.2, by rw [← row_put (hok c hc).1 q1 q2]; exact hx4 hE0 w1 hs.2⟩
          · try dsimp only
            exact fun w1 h => (Seps.A _ _ (Seps.A _ _ h).1).1
        · try simp only [Gx.nb] at h3
          refine seq (region (cons (opv (Ev.eql_i (.t rfl) (.c (v := I 1) rfl)) ?_)))
          refine cons (opv (Ev.assign (.t rfl)) (nil (pN ?_)))
          first | refine condD rfl (fun h4 => ?_) (fun h4 => ?_) | refine cond rfl (fun h4 => ?_) (fun h4 => ?_)
          · try simp only [Gx.nb] at h4
            refine seq (region (cons (opv (Ev.move (.t rfl)) (cons (opv (Ev.fieldAddr (o := 1) (.t rfl) (by kernel_rfl)) ?_)))))
            refine cons (opv (Ev.ldv ty36 (.t rfl) SLaw18Do.l_p) ?_)
            refine cons (calln (X := Tt × List Res) (TcutJ c.1 (ds.getD i.toNat eLaw18Do.zero).p) (fun x => .tuple #[.pointer (pO (cutE c.1 (ds.getD i.toNat eLaw18Do.zero).p) x.1.b), I (cutE c.1 (ds.getD i.toNat eLaw18Do.zero).p)]) (fun x => x.2) en17 (.cons (.t rfl) (.cons (.t rfl) .nil)) (fun w I => tcut_ok c.1 _ w (hat w (at_mem (by repeat first | exact mH | apply mT | apply mA) w I).1 c hc).1 (hok c hc).1 (by have := (hok c hc).2; omega)) (fun x5 hx5 => ?_))
            refine takeSeps (r := R) (by repeat first | exact Rem.head | apply Rem.tail) ?_
            refine cons (opv (Ev.move (.t rfl)) (cons (opv (Ev.extract (.t rfl) rfl) (cons (opv (Ev.extract (.t rfl) rfl) (cons (opv (Ev.assign (.t rfl)) (cons (opv (Ev.assign (.t rfl)) (nil (pN (region (cons (opv (Ev.ldv ty64 (.t rfl) (Lens.id _)) ?_))))))))))))))
            refine cons (opv (Ev.fieldAddr (o := 1) (.t rfl) (by kernel_rfl)) ?_)
            refine cons (opv (Ev.ldv ty36 (.t rfl) SLaw18Do.l_p) ?_)
            refine cons (calln (X := OV × List Res) (RJ (cutE c.1 (ds.getD i.toNat eLaw18Do.zero).p) (rcutL (rowT c.1) (ds.getD i.toNat eLaw18Do.zero).p)) (fun x : OV × List Res => .tuple #[eRef18Trie.val ⟨x.1⟩, I (cutE c.1 (ds.getD i.toNat eLaw18Do.zero).p)]) (fun x => x.2) en26 (.cons (.t rfl) (.cons (.t rfl) .nil)) (fun w I => rcut_t ⟨c.2⟩ c.1 (hok c hc).1 _ w (hat w (Seps.A x5.2 R (at_mem (by repeat first | exact mH | apply mT | apply mA) w I).1).1 c hc).2 (by have := (row_small (hok c hc).1 (hok c hc).2 (by omega)).1; omega)) (fun x6 hx6 => ?_))
            refine takeSeps (r := Seps R x5.2) (by repeat first | exact Rem.head | apply Rem.tail) ?_
            refine cons (opv (Ev.move (.t rfl)) (cons (opv (Ev.extract (.t rfl) rfl) (cons (opv (Ev.extract (.t rfl) rfl) (cons (stv ty64 (Lens.id _) (.t rfl) (.t rfl) ?_)))))))
            refine cons (opv (Ev.assign (.t rfl)) (nil (bN (pN (mtP (X := Int × (Tt × OV) × Res) (cutE c.1 (ds.getD i.toNat eLaw18Do.zero).p, (x5.1, x6.1), Seps (Seps R x5.2) x6.2) ⟨?_, ?_⟩)))))
            · try dsimp only
              intro hE0
              obtain ⟨q1, q2, q3⟩ := hx5 hE0
              refine ⟨q1, by have := cut_n (hok c hc).1 q1 q2; have := (hok c hc).2; show x5.1.n ≤ 31 + i; omega, fun w1 h => ?_⟩
              have hs := Seps.A _ _ h
              have hs2 := Seps.A _ _ hs.1
              exact ⟨q3 w1 (hat w1 hs2.1 c hc).1 hs2.2, by rw [← row_cut (hok c hc).1 q1 (cutE_has hE0) q2]; exact hx6 hE0 w1 hs.2⟩
            · try dsimp only
              exact fun w1 h => (Seps.A _ _ (Seps.A _ _ h).1).1
          · try simp only [Gx.nb] at h4
            refine seq ?_
            have hes := List.length_pos_of_mem hc
            refine region (cons (opv (Ev.move (.t rfl)) (cons (opv (Ev.indexAddr Try.underlying67 ty24 (.t rfl) (.c (v := I 0) rfl) (by first | exact isSl_own (by repeat first | exact mH | apply mT | apply mA) | exact fun w I => IsSl.keep0 (by assumption) I.keeps) (fun _ => by simp only [List.length_map]; omega)) ?_))))
            refine cons (opv (Ev.to (v' := (es.getD 0 c).1.ptr.v) (Ev.loadS0 (i := 0) ty24 (.t rfl) (by first | exact isSl_own (by repeat first | exact mH | apply mT | apply mA) | exact fun w I => IsSl.keep0 (by assumption) I.keeps) (fun _ => by simp only [List.length_map]; omega)) (congrArg OV.v (map_at _ (by omega) _ c))) ?_)
            refine cons (opv (Ev.assign (.t rfl)) (nil (pN (seq (region (cons (opv (Ev.move (.t rfl)) (cons (opv (Ev.indexAddr Try.underlying68 ty64 (.t rfl) (.c (v := I 0) rfl) (by first | exact isSl_own (by repeat first | exact mH | apply mT | apply mA) | exact fun w I => IsSl.keep0 (by assumption) I.keeps) (fun _ => by simp only [List.length_map]; omega)) ?_)))))))))
            refine cons (opv (Ev.to (v' := eRef18Trie.val ⟨(es.getD 0 c).2⟩) (Ev.loadS0 (i := 0) ty64 (.t rfl) (by first | exact isSl_own (by repeat first | exact mH | apply mT | apply mA) | exact fun w I => IsSl.keep0 (by assumption) I.keeps) (fun _ => by simp only [List.length_map]; omega)) (congrArg eRef18Trie.val (map_at _ (by omega) _ c))) ?_)
            refine cons (stv ty64 (Lens.id _) (.t rfl) (.t rfl) ?_)
            refine nil (pN (region (cons (opv (Ev.assign (.c (v := I 0) rfl)) ?_))))
            refine nil (bN (pN (mtP (X := Int × (Tt × OV) × Res) (0, (es.getD 0 c), R) ⟨?_, ?_⟩)))
            · try dsimp only
              intro _
              have h9 := getD_in' es 0 c (List.length_pos_of_mem hc)
              exact ⟨(hok _ h9).1, by have := (hok _ h9).2; omega, fun w1 h => hat w1 h _ h9⟩
            · try dsimp only
              exact fun w1 h => h
      obtain ⟨E, nx, R2⟩ := x
      obtain ⟨hE, hR2⟩ : (E = 0 → nx.1.OK ∧ nx.1.n ≤ 31 + i ∧ ∀ w1 : World, R2.A w1 → PairAt w1 nx) ∧ (∀ w1 : World, R2.A w1 → R.A w1) := hx
      show Sat _ _ [dz, (1, true, v), (4, true, .bool false), (5, true, c.1.ptr.v), (6, true, I E), (7, true, .pointer (some ⟨b1, 0, none⟩)), (9, true, o9.v), (10, true, o10.v), (11, true, I i), (12, true, .pointer (some ⟨b4, 0, none⟩)), (13, true, .pointer (some ⟨b5, 0, none⟩)), (14, true, I E), (15, true, .pointer (pO E nx.1.b))] [R2, Var b5 eRef18Trie ⟨nx.2⟩ 64, Var b4 eLaw18Do (ds.getD i.toNat eLaw18Do.zero) 70, OwnS o10.v eRef18Trie (es.map (fun e => (⟨e.2⟩ : SRef18Trie))) 64, OwnS o9.v (ovE nilPtr) (es.map (fun e => e.1.ptr)) 24, Var b1 eRef18Trie ⟨c.2⟩ 64]
      refine seq (seq (region (cons (opv (Ev.move (.t rfl)) (cons (opv (Ev.move (.t rfl)) (cons (opv (Ev.neq_i (.t rfl) (.t rfl)) ?_))))))))
      refine cons (opv (Ev.move (.t rfl)) (cons (opg rfl rfl (Ev.move (.t rfl)) ?_)))
      refine cons (opg rfl rfl (Ev.eql_p Try.underlying24 (.g rfl id) (.c rfl)) ?_)
      refine cons (opg rfl rfl (Ev.move (.t rfl)) ?_)
      refine cons (opg rfl rfl (Ev.neq_i (.g rfl id) (.c (v := I 0) rfl)) ?_)
      refine cons (opg rfl rfl (Ev.neq_b Try.underlying4 (.g rfl id) (.g rfl id)) ?_)
      refine cons (opv (Ev.pickO (.t rfl) (.c (v := .bool true) rfl) (fun {_} h => by cases h; rfl) ⟨_, rfl⟩ (by intro h1 h; first | (rw [h] <;> rfl) | (rw [h1, h] <;> rfl) | (rw [h, h1] <;> rfl) | simp_all)) ?_)
      refine nil (pN (condF rfl (by unfold pO; by_cases h : E = 0 <;> simp [h]) ?_))
      refine skip (pN (cut (X := (Tt × OV) × (List (Tt × OV)) × Res × OV × OV) (fun x : (Tt × OV) × (List (Tt × OV)) × Res × OV × OV => (x.1 ∈ x.2.1) ∧ (∀ e ∈ x.2.1, e.1.OK ∧ e.1.n ≤ 31 + i) ∧ (∀ w1 : World, x.2.2.1.A w1 → ∀ e ∈ x.2.1, PairAt w1 e) ∧ ((x.2.1.length : Int) ≤ i + 2)) (fun x : (Tt × OV) × (List (Tt × OV)) × Res × OV × OV => [dz, (1, true, v), (4, true, .bool false), (5, true, x.1.1.ptr.v), (7, true, .pointer (some ⟨b1, 0, none⟩)), (9, true, x.2.2.2.1.v), (10, true, x.2.2.2.2.v), (11, true, I i), (12, true, .pointer (some ⟨b4, 0, none⟩))]) (fun x : (Tt × OV) × (List (Tt × OV)) × Res × OV × OV => [x.2.2.1, Var b4 eLaw18Do (ds.getD i.toNat eLaw18Do.zero) 70, OwnS x.2.2.2.2.v eRef18Trie (x.2.1.map (fun e => (⟨e.2⟩ : SRef18Trie))) 64, OwnS x.2.2.2.1.v (ovE nilPtr) (x.2.1.map (fun e => e.1.ptr)) 24, Var b1 eRef18Trie ⟨x.1.2⟩ 64]) ?_ (fun x hx => ?_)))
      · refine seq (region (cons (opv (Ev.move (.t rfl)) (cons (opv (Ev.eql_i (.t rfl) (.c (v := I 0) rfl)) ?_)))))
        refine nil (pN ?_)
        first | refine condD rfl (fun h6 => ?_) (fun h6 => ?_) | refine cond rfl (fun h6 => ?_) (fun h6 => ?_)
        · try simp only [Gx.nb] at h6
          refine seq (region (cons (opv (Ev.to (v' := nx.1.ptr.v) (Ev.move (.t rfl)) (congrArg Value.pointer (if_pos h6))) ?_)))
          refine cons (opv (Ev.assign (.t rfl)) (nil (pN (seq (region (cons (opv (Ev.ldv ty64 (.t rfl) (Lens.id _)) ?_)))))))
          refine cons (stv ty64 (Lens.id _) (.t rfl) (.t rfl) ?_)
          refine nil (pN (seq (region (cons (opv (Ev.move (.t rfl)) (cons (opv (Ev.move (.t rfl)) (cons (buildSlice (E := (ovE nilPtr)) Try.underlying67 ty24 z24 (.cons (.t rfl) .nil) rfl rfl (fun v6 => ?_))))))))))
          refine cons (app (E := (ovE nilPtr)) Try.underlying67 ty24 zb24 zs24 (.t rfl) (.t rfl) (fun v7 => ?_) (hby := ⟨by (show _ ≤ 9223372036854775807); first | omega | (simp; done) | (simp; omega), by first | omega | (simp; done) | (simp; omega)⟩))
          refine cons (opv (Ev.assign (.t rfl)) (nil (pN (region (cons (opv (Ev.move (.t rfl)) (cons (opv (Ev.ldv ty64 (.t rfl) (Lens.id _)) ?_))))))))
          refine cons (buildSlice (E := eRef18Trie) Try.underlying68 ty64 z64 (.cons (.t rfl) .nil) rfl rfl (fun v8 => ?_))
          refine cons (app (E := eRef18Trie) Try.underlying68 ty64 zb64 zs64 (.t rfl) (.t rfl) (fun v9 => ?_) (hby := ⟨by (show _ ≤ 9223372036854775807); first | omega | (simp; done) | (simp; omega), by first | omega | (simp; done) | (simp; omega)⟩))
          refine cons (opv (Ev.assign (.t rfl)) (nil (pN (mtP (X := (Tt × OV) × (List (Tt × OV)) × Res × OV × OV) (nx, es ++ [nx], R2, v7, v9) ⟨?_, ?_, ?_, ?_⟩ (hL := (by rw [List.map_append, List.map_append]; exact (by repeat first | exact SubP.nil | refine SubP.cons (by repeat first | exact Rem.head | apply Rem.tail) ?_)))))))
          · try dsimp only
            exact List.mem_append_right _ List.mem_cons_self
          · try dsimp only
            intro e he
            rcases List.mem_append.1 he with he | he
            · have := hok e he; exact ⟨this.1, by omega⟩
            · rw [List.mem_singleton.1 he]; exact ⟨(hE h6).1, (hE h6).2.1⟩
          · try dsimp only
            intro w1 h e he
            rcases List.mem_append.1 he with he | he
            · exact hat w1 (hR2 w1 h) e he
            · rw [List.mem_singleton.1 he]; exact (hE h6).2.2 w1 h
          · try dsimp only
            simp; omega
        · try simp only [Gx.nb] at h6
          refine skip (pN (mtP (X := (Tt × OV) × (List (Tt × OV)) × Res × OV × OV) (c, es, R2, o9, o10) ⟨?_, ?_, ?_, ?_⟩))
          · try dsimp only
            exact hc
          · try dsimp only
            intro e he; have := hok e he; exact ⟨this.1, by omega⟩
          · try dsimp only
            exact fun w1 h => hat w1 (hR2 w1 h)
          · try dsimp only
            omega
      obtain ⟨c2, es2, R3, p9, p10⟩ := x
      obtain ⟨hc2, hok2, hat3, hel2⟩ : (c2 ∈ es2) ∧ (∀ e ∈ es2, e.1.OK ∧ e.1.n ≤ 31 + i) ∧ (∀ w1 : World, R3.A w1 → ∀ e ∈ es2, PairAt w1 e) ∧ ((es2.length : Int) ≤ i + 2) := hx
      show Sat _ _ [dz, (1, true, v), (4, true, .bool false), (5, true, c2.1.ptr.v), (7, true, .pointer (some ⟨b1, 0, none⟩)), (9, true, p9.v), (10, true, p10.v), (11, true, I i), (12, true, .pointer (some ⟨b4, 0, none⟩))] [R3, Var b4 eLaw18Do (ds.getD i.toNat eLaw18Do.zero) 70, OwnS p10.v eRef18Trie (es2.map (fun e => (⟨e.2⟩ : SRef18Trie))) 64, OwnS p9.v (ovE nilPtr) (es2.map (fun e => e.1.ptr)) 24, Var b1 eRef18Trie ⟨c2.2⟩ 64]
      refine seq (region (cons (opv (Ev.move (.t rfl)) (cons (opv (Ev.ldv ty64 (.t rfl) (Lens.id _)) ?_)))))
      refine cons (opv (Ev.ldv ty70 (.t rfl) (Lens.id _)) ?_)
      refine cons (callv en27 (.cons (.t rfl) (.cons (.t rfl) (.cons (.t rfl) .nil))) (fun w I => asks_ok c2.1 ⟨c2.2⟩ (ds.getD i.toNat eLaw18Do.zero) w (hat3 w (at_mem (by repeat first | exact mH | apply mT | apply mA) w I).1 c2 hc2).1 (hok2 c2 hc2).1 (hat3 w (at_mem (by repeat first | exact mH | apply mT | apply mA) w I).1 c2 hc2).2 (row_small (hok2 c2 hc2).1 (hok2 c2 hc2).2 (by omega)).1) ?_)
      refine cons (opv (Ev.not (.t rfl)) ?_)
      refine cons (opv (Ev.move (.t rfl)) (cons (opg rfl rfl (Ev.move (.t rfl)) ?_)))
      refine cons (opg rfl rfl (Ev.ldv ty64 (.t rfl) (Lens.id _)) ?_)
      refine cons (callg rfl rfl en28 (.cons (.g rfl id) (.cons (.g rfl id) .nil)) (fun hg w I => like_ok c2.1 ⟨c2.2⟩ w (hat3 w (at_mem (by repeat first | exact mH | apply mT | apply mA) w I).1 c2 hc2).1 (hok2 c2 hc2).1 (hat3 w (at_mem (by repeat first | exact mH | apply mT | apply mA) w I).1 c2 hc2).2 (row_small (hok2 c2 hc2).1 (hok2 c2 hc2).2 (by omega)).1 (row_small (hok2 c2 hc2).1 (hok2 c2 hc2).2 (by omega)).2) ?_)
      refine cons (opg rfl rfl (Ev.not (.g rfl id)) ?_)
      refine cons (opv (Ev.pickO (.t rfl) (.c (v := .bool true) rfl) (fun {_} h => by cases h; rfl) ⟨_, rfl⟩ (by intro h1 h; first | (rw [h] <;> rfl) | (rw [h1, h] <;> rfl) | (rw [h, h1] <;> rfl) | simp_all)) ?_)
      refine nil (pN (condF rfl (rfl) ?_))
      refine skip (bN (pN (region (cons (opv (Ev.move (.t rfl)) (cons (opv (Ev.add_i (.t rfl) (.c (v := I 1) rfl) (fun _ => by omega)) ?_)))))))
      refine cons (opv (Ev.assign (.t rfl)) (nil (pN (nxP (X := Int × (Tt × OV) × (List (Tt × OV)) × Res × OV × OV) (i + 1, c2, es2, R3, p9, p10) ⟨?_, ?_, ?_, ?_, ?_⟩ ?_))))
      · try dsimp only
        omega
      · try dsimp only
        exact hc2
      · try dsimp only
        intro e he; have := hok2 e he; exact ⟨this.1, by omega⟩
      · try dsimp only
        exact hat3
      · try dsimp only
        omega
      · try dsimp only
        omega
    · try simp only [Gx.nb] at h2
      refine exit (pX (pX (bX (pN (seq (seq (region (cons (opv (Ev.assign (.c (v := I 0) rfl)) ?_)))))))))
      refine nil (pN (block (lp (X := Int) (fun x : Int => (0 ≤ x ∧ x ≤ es.length)) (fun x : Int => [dz, (4, true, .bool false), (5, true, c.1.ptr.v), (7, true, .pointer (some ⟨b1, 0, none⟩)), (9, true, o9.v), (10, true, o10.v), (16, true, I x)]) (fun x : Int => [OwnS o10.v eRef18Trie (es.map (fun e => (⟨e.2⟩ : SRef18Trie))) 64, OwnS o9.v (ovE nilPtr) (es.map (fun e => e.1.ptr)) 24, Var b1 eRef18Trie ⟨c.2⟩ 64, R]) (fun x : Int => ((es.length : Int) - x).toNat) (0) ?_ (fun x hx => ?_))))
      · omega
      obtain ⟨j, rfl⟩ : ∃ y, y = x := ⟨x, rfl⟩
      have hj : 0 ≤ j ∧ j ≤ es.length := hx
      clear hx
      show Sat _ _ [dz, (4, true, .bool false), (5, true, c.1.ptr.v), (7, true, .pointer (some ⟨b1, 0, none⟩)), (9, true, o9.v), (10, true, o10.v), (16, true, I j)] [OwnS o10.v eRef18Trie (es.map (fun e => (⟨e.2⟩ : SRef18Trie))) 64, OwnS o9.v (ovE nilPtr) (es.map (fun e => e.1.ptr)) 24, Var b1 eRef18Trie ⟨c.2⟩ 64, R]
      refine seq (seq (region (cons (opv (Ev.move (.t rfl)) (cons (opv (Ev.move (.t rfl)) (cons (opv (Ev.len Try.underlying67 (.t rfl) (by first | exact isSl_own (by repeat first | exact mH | apply mT | apply mA) | exact fun w I => IsSl.keep0 (by assumption) I.keeps)) ?_))))))))
      refine cons (opv (Ev.lss_i (.t rfl) (.t rfl)) ?_)
      refine nil (pN ?_)
      first | refine condD rfl (fun h8 => ?_) (fun h8 => ?_) | refine cond rfl (fun h8 => ?_) (fun h8 => ?_)
      · try simp only [Gx.nb] at h8
        refine skip (pN (seq (block (seq ?_))))
        simp only [List.length_map] at h8
        obtain ⟨ej, hejd⟩ : ∃ z, es.getD j.toNat c = z := ⟨_, rfl⟩
        have hej : ej ∈ es := hejd ▸ getD_in' es _ c (by omega)
        refine draw' (by kernel_rfl) ?_
        refine tk 0 rfl (Ev.move (.t rfl)) ?_
        refine tk 1 rfl (Ev.move (.t rfl)) ?_
        refine tk 2 rfl (Ev.indexAddr Try.underlying67 ty24 (.t rfl) (.t rfl) (by first | exact isSl_own (by repeat first | exact mH | apply mT | apply mA) | exact fun w I => IsSl.keep0 (by assumption) I.keeps) (fun _ => by simp only [List.length_map]; omega)) ?_
        refine tk 3 rfl (Ev.to (v' := ej.1.ptr.v) (Ev.loadS0 ty24 (.t rfl) (by first | exact isSl_own (by repeat first | exact mH | apply mT | apply mA) | exact fun w I => IsSl.keep0 (by assumption) I.keeps) (fun _ => by simp only [List.length_map]; omega)) ((congrArg OV.v (map_at _ (by omega) _ c)).trans (by rw [hejd]))) ?_
        refine tk 4 rfl (Ev.move (.t rfl)) ?_
        refine tk 5 rfl (Ev.move (.t rfl)) ?_
        refine tk 6 rfl (Ev.indexAddr Try.underlying68 ty64 (.t rfl) (.t rfl) (by first | exact isSl_own (by repeat first | exact mH | apply mT | apply mA) | exact fun w I => IsSl.keep0 (by assumption) I.keeps) (fun _ => by simp only [List.length_map]; omega)) ?_
        refine tk 7 rfl (Ev.to (v' := eRef18Trie.val ⟨ej.2⟩) (Ev.loadS0 ty64 (.t rfl) (by first | exact isSl_own (by repeat first | exact mH | apply mT | apply mA) | exact fun w I => IsSl.keep0 (by assumption) I.keeps) (fun _ => by simp only [List.length_map]; omega)) ((congrArg eRef18Trie.val (map_at _ (by omega) _ c)).trans (by rw [hejd]))) ?_
        refine al1 8 rfl ((callv en28 (.cons (.t rfl) (.cons (.t rfl) .nil)) (fun w I => like_ok ej.1 ⟨ej.2⟩ w (hat w (at_mem (by repeat first | exact mH | apply mT | apply mA) w I).1 ej hej).1 (hok ej hej).1 (hat w (at_mem (by repeat first | exact mH | apply mT | apply mA) w I).1 ej hej).2 (row_small (hok ej hej).1 (hok ej hej).2 (by omega)).1 (row_small (hok ej hej).1 (hok ej hej).2 (by omega)).2) ?_))
        refine hdn (tk 9 rfl (Ev.not (.t rfl)) ?_)
        refine tk 10 rfl (Ev.move (.t rfl)) ?_
        refine tkg 11 rfl rfl rfl (Ev.move (.t rfl)) ?_
        refine tkg 12 rfl rfl rfl (Ev.move (.t rfl)) ?_
        refine tkg 13 rfl rfl rfl (Ev.indexAddr Try.underlying67 ty24 (.g rfl id) (.g rfl id) (by first | exact isSl_own (by repeat first | exact mH | apply mT | apply mA) | exact fun w I => IsSl.keep0 (by assumption) I.keeps) (fun _ => by simp only [List.length_map]; omega)) ?_
        refine tkg 14 rfl rfl rfl (Ev.to (v' := ej.1.ptr.v) (Ev.loadS0 ty24 (.g rfl id) (by first | exact isSl_own (by repeat first | exact mH | apply mT | apply mA) | exact fun w I => IsSl.keep0 (by assumption) I.keeps) (fun _ => by simp only [List.length_map]; omega)) ((congrArg OV.v (map_at _ (by omega) _ c)).trans (by rw [hejd]))) ?_
        refine tkg 15 rfl rfl rfl (Ev.move (.t rfl)) ?_
        refine tkg 17 rfl rfl rfl (Ev.move (.t rfl)) ?_
        refine tkg 18 rfl rfl rfl (Ev.move (.t rfl)) ?_
        refine tkg 19 rfl rfl rfl (Ev.indexAddr Try.underlying68 ty64 (.g rfl id) (.g rfl id) (by first | exact isSl_own (by repeat first | exact mH | apply mT | apply mA) | exact fun w I => IsSl.keep0 (by assumption) I.keeps) (fun _ => by simp only [List.length_map]; omega)) ?_
        refine tkg 20 rfl rfl rfl (Ev.fieldAddrS (o := 0) (i := j) (.g rfl id) (by first | exact isSl_own (by repeat first | exact mH | apply mT | apply mA) | exact fun w I => IsSl.keep0 (by assumption) I.keeps) (fun _ => by simp only [List.length_map]; omega) (by kernel_rfl)) ?_
        refine tkg 21 rfl rfl rfl (Ev.to (v' := ej.2.v) (Ev.loadS ty53 SRef18Trie.l_l rfl (.g rfl id) (by first | exact isSl_own (by repeat first | exact mH | apply mT | apply mA) | exact fun w I => IsSl.keep0 (by assumption) I.keeps) (fun _ => by simp only [List.length_map]; omega)) ((congrArg (fun q : SRef18Trie => q.l.v) (map_at (fun e : Tt × OV => (⟨e.2⟩ : SRef18Trie)) (by omega) _ c)).trans (by rw [hejd]))) ?_
        refine tkg 22 rfl rfl rfl (Ev.fieldAddr (o := 0) (.t rfl) (by kernel_rfl)) ?_
        refine tkg 23 rfl rfl rfl (Ev.ldv ty53 (.g rfl id) SRef18Trie.l_l) ?_
        refine al1 16 rfl ((callg rfl rfl en22 (.cons (.g rfl id) (.cons (.g rfl id) .nil)) (fun hg w I => same_ok ej.1 c.1 w (hat w (at_mem (by repeat first | exact mH | apply mT | apply mA) w I).1 ej hej).1 (hat w (at_mem (by repeat first | exact mH | apply mT | apply mA) w I).1 c hc).1 (hok ej hej).1 (hok c hc).1) ?_))
        refine hdn (al1 24 rfl ((callg rfl rfl en29 (.cons (.g rfl id) (.cons (.g rfl id) .nil)) (fun hg w I => r18same_ok _ _ (rowT ej.1) (rowT c.1) w (hat w (at_mem (by repeat first | exact mH | apply mT | apply mA) w I).1 ej hej).2 (hat w (at_mem (by repeat first | exact mH | apply mT | apply mA) w I).1 c hc).2) ?_)))
        refine hdn (tkg 25 rfl rfl rfl (Ev.neq_b Try.underlying4 (.g rfl id) (.g rfl id)) ?_)
        refine tk 26 rfl (Ev.pickO (.t rfl) (.c (v := .bool true) rfl) (fun {_} h => by cases h; rfl) ⟨_, rfl⟩ (by intro h1 h; first | (rw [h] <;> rfl) | (rw [h1, h] <;> rfl) | (rw [h, h1] <;> rfl) | simp_all)) ?_
        refine ovr (pN (condF rfl (by rw [row_same (hok ej hej).1 (hok c hc).1]; simp) ?_))
        refine skip (bN (pN (region (cons (opv (Ev.move (.t rfl)) (cons (opv (Ev.add_i (.t rfl) (.c (v := I 1) rfl) (fun _ => by omega)) ?_)))))))
        refine cons (opv (Ev.assign (.t rfl)) (nil (pN (nx (X := Int) (j + 1) ?_ ?_))))
        · try dsimp only
          omega
        · try dsimp only
          omega
      · try simp only [Gx.nb] at h8
        refine exit (pX (pX (bX (pN (seq (region (cons (callv en16 .nil (fun w I => works_ok w) ?_))))))))
        refine cons (opv (Ev.assign (.t rfl)) (nil (pN (ret (done rfl (.tmp rfl .nil) (retE ?_))))))
        rfl
end Go.Proofs.Ytjjlofjpdklbgaa
