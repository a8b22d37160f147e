/- trie -/
import Derived.Test.YtjjlofjpdklbgaaT15
set_option linter.unusedVariables false
set_option linter.unusedSimpArgs false
namespace Go.Proofs.Ytjjlofjpdklbgaa
open Go Go.Gx

theorem Seps.A {w : World} : ∀ (l : List Res) (r : Res), (Seps r l).A w → r.A w ∧ ∀ q ∈ l, q.A w
  | [], r, h => ⟨h, fun q hq => by simp at hq⟩
  | s :: l, r, h => by
    have h1 : r.A w ∧ (Seps s l).A w ∧ _ := h
    obtain ⟨h2, h3⟩ := Seps.A l s h1.2.1
    exact ⟨h1.1, fun q hq => by
      rcases List.mem_cons.1 hq with rfl | hq
      · exact h2
      · exact h3 q hq⟩
theorem takeSeps {K : Ctx} {F : Fr} {l L0 M : List Res} {r : Res} {X : Act → World → Prop} (h : Rem L0 r M) (next : Sat K X F (Seps r l :: M)) : Sat K X F (l ++ L0) :=
  sepsIn ⟨r :: (l ++ M), (List.perm_middle.symm).trans (List.Perm.append_left l h.perm), List.Sublist.refl _⟩ next
theorem found_to (t : Tt) (a : SAddr) (w : World) (z : SPrefix × Int × Bool) (hz : findV t a = z) (ht : t.At w) (ho : t.OK) : Calls Try.prog 12 #[t.ptr.v, eAddr.val a] w (RetV w (.tuple #[ePrefix.val z.1, I z.2.1, .bool z.2.2])) := by
  subst hz
  rw [find_found ho]
  exact found_ok t a w ht ho
theorem find_got {t : Tt} (ho : t.OK) {a : SAddr} {z : SPrefix × Int × Bool} (hz : findV t a = z) : (z.2.2 = true → (getV t z.1).2 = true ∧ (getV t z.1).1 = z.2.1 ∧ hasP z.1 a = true) ∧ ∀ x ∈ t.ents, hasP x.1 a = true → z.2.2 = true ∧ coversP x.1 z.1 = true := by
  subst hz
  rcases find_spec ho a with ⟨x, h1, h2, h3, h4⟩ | ⟨h1, h2⟩
  · rw [h3]
    have h5 := (getV_iff ho x.1 x.2).2 h1
    exact ⟨fun _ => ⟨h5.1, h5.2, h2⟩, fun y hy hh => ⟨rfl, h4 y hy hh⟩⟩
  · rw [h1]
    exact ⟨fun h => (by cases h), fun y hy hh => (by rw [h2 y hy] at hh; cases hh)⟩

theorem z23 : (Try.prog.info? 23).bind (·.zero) = some ((ovE nilSl).val (ovE nilSl).zero) := by kernel_rfl

theorem ty23 : TyOK Try.prog 23 (ovE nilSl) := TyOK.mk' (by kernel_rfl) (by kernel_rfl)

theorem zb31 : (Try.prog.info? 31).map (fun i => (i.zero, i.bytes)) = some (some (eAddr.val eAddr.zero), 17) := by kernel_rfl

theorem zs31 : (eAddr.val eAddr.zero).cells.size = eAddr.size := by rw [Enc.cells_val, List.size_toArray, Enc.len]

theorem en12 : Gx.Enters Try.prog 12 := Gx.Enters.mk' (by kernel_rfl)

theorem en16 : Gx.Enters Try.prog 16 := Gx.Enters.mk' (by kernel_rfl)

theorem TrieLongest_walk (u v : Value) (rs : List SRoute) (as_ : List SAddr) (w : World) (hrs : IsSl eRoute w u rs) (has : IsSl eAddr w v as_) : Calls Try.prog 3 #[u, v] w (RetV w (.bool true)) := by
  refine enterM0 185 Try.func3 rfl rfl (Nat.le_of_ble_eq_true rfl) ?_
  refine seq (region (cons (alloc z4 (fun b1 => ?_))))
  refine nil (pN (seq (region (cons (calln (X := Tt) (fun x : Tt => x.OK ∧ x.ents = [] ∧ x.made = true ∧ x.n = 0 ∧ x.l = .nil ∧ x.r = .nil) (fun x => x.ptr.v) (fun x => [Var x.b eTrieTrie x.val 60]) en7 .nil (fun w I => new_ok w) (fun x0 hx0 => ?_))))))
  refine cons (opv (Ev.assign (.t rfl)) (nil (pN (seq (seq (region (cons (opv (Ev.move (.t rfl)) (cons (opv (Ev.eql_p Try.underlying24 (.t rfl) (.c rfl)) ?_))))))))))
  refine cons (opv (Ev.move (.t rfl)) (cons (opg rfl rfl (Ev.move (.t rfl)) ?_)))
  refine cons (opgT rfl rfl rfl ?_)
  refine (calln (X := Nat × Nat) (fun _ => True) (fun x => (bnd 56 [] [.pointer (some ⟨x.1, 0, none⟩), .pointer (some ⟨x.2, 0, none⟩)]).v) (fun x => [Var x.2 (ovE nilFn) (clo 32 []) 80, Var x.1 (ovE nilPtr) x0.ptr 24]) en8 (.cons (.g rfl id) .nil) (fun w I => all_ok x0 w) (fun y0 _ => ?_))
  refine cons (opg rfl rfl (Ev.eql_fn Try.underlying27 (.g rfl id) (.c rfl)) ?_)
  refine cons (opv (Ev.pickO (.t rfl) (.c (v := .bool true) rfl) (fun {_} h => by cases h; rfl) ⟨_, rfl⟩ (by intro h1 h; first | (rw [h] <;> rfl) | (rw [h1, h] <;> rfl) | (rw [h, h1] <;> rfl) | simp_all)) ?_)
  refine nil (pN (condF rfl (rfl) ?_))
  refine skip (pN (seq (region (cons (alloc z23 (fun b2 => ?_))))))
  refine nil (pN (seq (seq (takeNil eAddr 31 ?_))))
  refine region (cons (opv (Ev.assign (.c (v := I 0) rfl)) ?_))
  refine nil (pN (block (lp (X := Int × OV × (List SAddr)) (fun x : Int × OV × (List SAddr) => (0 ≤ x.1 ∧ x.1 ≤ 30) ∧ ((x.2.2.length : Int) ≤ x.1)) (fun x : Int × OV × (List SAddr) => [dz, (0, true, u), (1, true, v), (4, true, .pointer (some ⟨b1, 0, none⟩)), (5, true, x0.ptr.v), (6, true, .pointer (some ⟨b2, 0, none⟩)), (7, true, I x.1)]) (fun x : Int × OV × (List SAddr) => [OwnS x.2.1.v eAddr x.2.2 31, Var b2 (ovE nilSl) x.2.1 23, Var x0.b eTrieTrie x0.val 60, Var b1 bE false 4, Dm []]) (fun x : Int × OV × (List SAddr) => (30 - x.1).toNat) (0, nilSl, []) ⟨?_, ?_⟩ (fun x hx => ?_))))
  · omega
  · exact Int.le_refl 0
  obtain ⟨i, o, zs⟩ := x
  obtain ⟨hi, hz⟩ : (0 ≤ i ∧ i ≤ 30) ∧ ((zs.length : Int) ≤ i) := hx
  show Sat _ _ [dz, (0, true, u), (1, true, v), (4, true, .pointer (some ⟨b1, 0, none⟩)), (5, true, x0.ptr.v), (6, true, .pointer (some ⟨b2, 0, none⟩)), (7, true, I i)] [OwnS o.v eAddr zs 31, Var b2 (ovE nilSl) o 23, Var x0.b eTrieTrie x0.val 60, Var b1 bE false 4, Dm []]
  refine seq (seq (region (cons (opv (Ev.move (.t rfl)) (cons (opv (Ev.move (.t rfl)) (cons (opv (Ev.len Try.underlying23 (.t rfl) (fun w I => has.keep0 I.keeps)) ?_))))))))
  refine cons (opv (Ev.lss_i (.t rfl) (.t rfl)) ?_)
  refine cons (opv (Ev.move (.t rfl)) (cons (opg rfl rfl (Ev.move (.t rfl)) ?_)))
  refine cons (opg rfl rfl (Ev.lss_i (.g rfl id) (.c (v := I 30) rfl)) ?_)
  refine cons (opv (Ev.pickA (.t rfl) (fun {_} h => by cases h; rfl) ⟨_, rfl⟩ (by intro h1 h; first | (rw [h] <;> rfl) | (rw [h1, h] <;> rfl) | (rw [h, h1] <;> rfl) | simp_all) (.c (v := .bool false) rfl)) ?_)
  refine nil (pN ?_)
  first | refine condD rfl (fun h1 => ?_) (fun h1 => ?_) | refine cond rfl (fun h1 => ?_) (fun h1 => ?_)
  · try simp only [Gx.nb] at h1
    refine skip (pN (seq (block (draw [] (by kernel_rfl) ?_))))
    refine tk 1 rfl (Ev.move (.t rfl)) ?_
    refine tk 2 rfl (Ev.move (.t rfl)) ?_
    refine tk 3 rfl (Ev.indexAddr Try.underlying23 ty31 (.t rfl) (.t rfl) (fun w I => has.keep0 I.keeps) (fun _ => by omega)) ?_
    refine tk 4 rfl (Ev.loadS0 ty31 (.t rfl) (fun w I => has.keep0 I.keeps) (fun _ => by omega)) ?_
    refine all [0, 5] (by kernel_rfl) (by decide) (.cons rfl ?_ (.cons rfl ?_ .nil))
    · refine (opv (Ev.ldv ty23 (.t rfl) (Lens.id _)) ?_)
      refine hdn (al1 5 rfl ((buildSlice (E := eAddr) Try.underlying23 ty31 z31 (.cons (.t rfl) .nil) rfl rfl (fun v3 => ?_))))
      refine hdn (al1 6 rfl ((app (E := eAddr) Try.underlying23 ty31 zb31 zs31 (.t rfl) (.t rfl) (fun v4 => ?_) (hby := ⟨by (show _ ≤ 9223372036854775807); first | omega | (simp; done) | (simp; omega), by first | omega | (simp; done) | (simp; omega)⟩))))
      refine hdn (al1 7 rfl ((stv ty23 (Lens.id _) (.t rfl) (.t rfl) ?_)))
      refine hdn (ovr (bN (pN (region (cons (opv (Ev.move (.t rfl)) (cons (opv (Ev.add_i (.t rfl) (.c (v := I 1) rfl) (fun _ => by omega)) ?_))))))))
      refine cons (opv (Ev.assign (.t rfl)) (nil (pN (nxP (X := Int × OV × (List SAddr)) (i + 1, v4, _) ⟨?_, ?_⟩ ?_))))
      · try dsimp only
        omega
      · try dsimp only
        simp; omega
      · try dsimp only
        omega
    · refine (buildSlice (E := eAddr) Try.underlying23 ty31 z31 (.cons (.t rfl) .nil) rfl rfl (fun v5 => ?_))
      refine hdn (al1 0 rfl ((opv (Ev.ldv ty23 (.t rfl) (Lens.id _)) ?_)))
      refine hdn (al1 6 rfl ((app (E := eAddr) Try.underlying23 ty31 zb31 zs31 (.t rfl) (.t rfl) (fun v6 => ?_) (hby := ⟨by (show _ ≤ 9223372036854775807); first | omega | (simp; done) | (simp; omega), by first | omega | (simp; done) | (simp; omega)⟩))))
      refine hdn (al1 7 rfl ((stv ty23 (Lens.id _) (.t rfl) (.t rfl) ?_)))
      refine hdn (ovr (bN (pN (region (cons (opv (Ev.move (.t rfl)) (cons (opv (Ev.add_i (.t rfl) (.c (v := I 1) rfl) (fun _ => by omega)) ?_))))))))
      refine cons (opv (Ev.assign (.t rfl)) (nil (pN (nxP (X := Int × OV × (List SAddr)) (i + 1, v6, _) ⟨?_, ?_⟩ ?_))))
      · try dsimp only
        omega
      · try dsimp only
        simp; omega
      · try dsimp only
        omega
  · try simp only [Gx.nb] at h1
    refine exit (pX (pX (bX (pN (seq (seq (region (cons (opv (Ev.assign (.c (v := I 0) rfl)) ?_)))))))))
    refine nil (pN (block (lp (X := Int × Tt × Res × OV × (List SAddr)) (fun x : Int × Tt × Res × OV × (List SAddr) => (0 ≤ x.1 ∧ x.1 ≤ 60) ∧ (x.2.1.OK) ∧ (x.2.1.n ≤ x.1) ∧ (∀ w1 : World, x.2.2.1.A w1 → x.2.1.At w1) ∧ ((x.2.2.2.2.length : Int) ≤ 30 + x.1)) (fun x : Int × Tt × Res × OV × (List SAddr) => [dz, (0, true, u), (1, true, v), (4, true, .pointer (some ⟨b1, 0, none⟩)), (5, true, x.2.1.ptr.v), (6, true, .pointer (some ⟨b2, 0, none⟩)), (8, true, I x.1)]) (fun x : Int × Tt × Res × OV × (List SAddr) => [OwnS x.2.2.2.1.v eAddr x.2.2.2.2 31, Var b2 (ovE nilSl) x.2.2.2.1 23, x.2.2.1, Var b1 bE false 4, Dm []]) (fun x : Int × Tt × Res × OV × (List SAddr) => (60 - x.1).toNat) (0, x0, Var x0.b eTrieTrie x0.val 60, o, zs) ⟨?_, ?_, ?_, ?_, ?_⟩ (fun x hx => ?_))))
    · omega
    · exact hx0.1
    · show x0.n ≤ 0
      rw [hx0.2.2.2.1]; exact Int.le_refl _
    · exact fun w1 h => ⟨pts_of_block h, by rw [hx0.2.2.2.2.1]; trivial, by rw [hx0.2.2.2.2.2]; trivial⟩
    · show (zs.length : Int) ≤ 30 + 0; omega
    obtain ⟨i2, tt, R, o, zs⟩ := x
    obtain ⟨hi2, hok, hn, hat, hz⟩ : (0 ≤ i2 ∧ i2 ≤ 60) ∧ (tt.OK) ∧ (tt.n ≤ i2) ∧ (∀ w1 : World, R.A w1 → tt.At w1) ∧ ((zs.length : Int) ≤ 30 + i2) := hx
    show Sat _ _ [dz, (0, true, u), (1, true, v), (4, true, .pointer (some ⟨b1, 0, none⟩)), (5, true, tt.ptr.v), (6, true, .pointer (some ⟨b2, 0, none⟩)), (8, true, I i2)] [OwnS o.v eAddr zs 31, Var b2 (ovE nilSl) o 23, R, Var b1 bE false 4, Dm []]
    refine seq (seq (region (cons (opv (Ev.move (.t rfl)) (cons (opv (Ev.move (.t rfl)) (cons (opv (Ev.len Try.underlying22 (.t rfl) (fun w I => hrs.keep0 I.keeps)) ?_))))))))
    refine cons (opv (Ev.lss_i (.t rfl) (.t rfl)) ?_)
    refine cons (opv (Ev.move (.t rfl)) (cons (opg rfl rfl (Ev.move (.t rfl)) ?_)))
    refine cons (opg rfl rfl (Ev.lss_i (.g rfl id) (.c (v := I 60) rfl)) ?_)
    refine cons (opv (Ev.pickA (.t rfl) (fun {_} h => by cases h; rfl) ⟨_, rfl⟩ (by intro h1 h; first | (rw [h] <;> rfl) | (rw [h1, h] <;> rfl) | (rw [h, h1] <;> rfl) | simp_all) (.c (v := .bool false) rfl)) ?_)
    refine nil (pN ?_)
    first | refine condD rfl (fun h2 => ?_) (fun h2 => ?_) | refine cond rfl (fun h2 => ?_) (fun h2 => ?_)
    · try simp only [Gx.nb] at h2
      refine skip (pN (seq (block (seq (draw [] (by kernel_rfl) ?_)))))
      refine tk 0 rfl (Ev.move (.t rfl)) ?_
      refine tk 1 rfl (Ev.move (.t rfl)) ?_
      refine tk 2 rfl (Ev.move (.t rfl)) ?_
      refine tk 3 rfl (Ev.indexAddr Try.underlying22 ty38 (.t rfl) (.t rfl) (fun w I => hrs.keep0 I.keeps) (fun _ => by omega)) ?_
      refine tk 4 rfl (Ev.fieldAddrS (o := 0) (i := i2) (.t rfl) (fun w I => hrs.keep0 I.keeps) (fun _ => by omega) (by kernel_rfl)) ?_
      refine tk 5 rfl (Ev.loadS ty36 SRoute.l_to_ rfl (.t rfl) (fun w I => hrs.keep0 I.keeps) (fun _ => by omega)) ?_
      refine tk 6 rfl (Ev.move (.t rfl)) ?_
      refine tk 7 rfl (Ev.move (.t rfl)) ?_
      refine tk 8 rfl (Ev.indexAddr Try.underlying22 ty38 (.t rfl) (.t rfl) (fun w I => hrs.keep0 I.keeps) (fun _ => by omega)) ?_
      refine tk 9 rfl (Ev.fieldAddrS (o := 18) (i := i2) (.t rfl) (fun w I => hrs.keep0 I.keeps) (fun _ => by omega) (by kernel_rfl)) ?_
      refine tk 10 rfl (Ev.loadS ty3 SRoute.l_out rfl (.t rfl) (fun w I => hrs.keep0 I.keeps) (fun _ => by omega)) ?_
      refine al1 11 rfl ((calln (X := Tt × List Res) (TputJ tt (rs.getD i2.toNat eRoute.zero).to_ (rs.getD i2.toNat eRoute.zero).out) (fun x => .tuple #[.pointer (pO (checkP (rs.getD i2.toNat eRoute.zero).to_) x.1.b), I (checkP (rs.getD i2.toNat eRoute.zero).to_)]) (fun x => x.2) en9 (.cons (.t rfl) (.cons (.t rfl) (.cons (.t rfl) .nil))) (fun w I => tput_ok tt _ _ w (hat w (at_mem (by repeat first | exact mH | apply mT | apply mA) w I).1) hok (by omega)) (fun x1 hx1 => ?_)))
      refine hdn (tk 12 rfl (Ev.move (.t rfl)) ?_)
      refine tk 13 rfl (Ev.extract (.t rfl) rfl) ?_
      refine tk 14 rfl (Ev.extract (.t rfl) rfl) ?_
      refine tk 15 rfl (Ev.assign (.t rfl)) ?_
      refine tk 16 rfl (Ev.assign (.t rfl)) ?_
      refine ovr (pN (seq (seq (takeSeps (r := R) (by repeat first | exact Rem.head | apply Rem.tail) ?_))))
      refine region (cons (opv (Ev.move (.t rfl)) (cons (opv (Ev.move (.t rfl)) (cons (opv (Ev.move (.t rfl)) (cons (opv (Ev.indexAddr Try.underlying22 ty38 (.t rfl) (.t rfl) (fun w I => hrs.keep0 I.keeps) (fun _ => by omega)) ?_))))))))
      refine cons (opv (Ev.fieldAddrS (o := 0) (i := i2) (.t rfl) (fun w I => hrs.keep0 I.keeps) (fun _ => by omega) (by kernel_rfl)) ?_)
      refine cons (opv (Ev.loadS ty36 SRoute.l_to_ rfl (.t rfl) (fun w I => hrs.keep0 I.keeps) (fun _ => by omega)) ?_)
      refine cons (callv en10 (.cons (.t rfl) .nil) (fun w I => checkP_ok _ w) ?_)
      refine cons (opv (Ev.neq_i (.t rfl) (.t rfl)) ?_)
      refine nil (pN (condF rfl (by simp) ?_))
      refine skip (pN (seq (region (cons (opv (Ev.move (.t rfl)) (cons (opv (Ev.eql_i (.t rfl) (.c (v := I 0) rfl)) ?_)))))))
      refine nil (pN ?_)
      first | refine condD rfl (fun h4 => ?_) (fun h4 => ?_) | refine cond rfl (fun h4 => ?_) (fun h4 => ?_)
      · try simp only [Gx.nb] at h4
        have hck : checkP (rs.getD i2.toNat eRoute.zero).to_ = 0 := h4
        replace hx1 := hx1 hck
        refine seq (seq (region (cons (opv (Ev.to (v' := x1.1.ptr.v) (Ev.move (.t rfl)) (congrArg Value.pointer (if_pos hck))) ?_))))
        refine cons (opv (Ev.eql_p Try.underlying24 (.t rfl) (.c rfl)) ?_)
        refine nil (pN (condF rfl (rfl) ?_))
        refine skip (pN (seq (region (cons (opv (Ev.to (v' := x1.1.ptr.v) (Ev.move (.t rfl)) (congrArg Value.pointer (if_pos hck))) ?_)))))
        refine cons (opv (Ev.assign (.t rfl)) (nil (pN (draw [] (by kernel_rfl) ?_))))
        refine tk 1 rfl (Ev.move (.t rfl)) ?_
        refine tk 2 rfl (Ev.move (.t rfl)) ?_
        refine tk 3 rfl (Ev.indexAddr Try.underlying22 ty38 (.t rfl) (.t rfl) (fun w I => hrs.keep0 I.keeps) (fun _ => by omega)) ?_
        refine tk 4 rfl (Ev.fieldAddrS (o := 0) (i := i2) (.t rfl) (fun w I => hrs.keep0 I.keeps) (fun _ => by omega) (by kernel_rfl)) ?_
        refine tk 5 rfl (Ev.fieldAddrS (o := 0) (i := i2) (.t rfl) (fun w I => hrs.keep0 I.keeps) (fun _ => by omega) (by kernel_rfl)) ?_
        refine tk 6 rfl (Ev.loadS ty31 (Lens.comp SRoute.l_to_ SPrefix.l_addr) rfl (.t rfl) (fun w I => hrs.keep0 I.keeps) (fun _ => by omega)) ?_
        refine all [0, 7] (by kernel_rfl) (by decide) (.cons rfl ?_ (.cons rfl ?_ .nil))
        · refine (opv (Ev.ldv ty23 (.t rfl) (Lens.id _)) ?_)
          refine hdn (al1 7 rfl ((buildSlice (E := eAddr) Try.underlying23 ty31 z31 (.cons (.t rfl) .nil) rfl rfl (fun v7 => ?_))))
          refine hdn (al1 8 rfl ((app (E := eAddr) Try.underlying23 ty31 zb31 zs31 (.t rfl) (.t rfl) (fun v8 => ?_) (hby := ⟨by (show _ ≤ 9223372036854775807); first | omega | (simp; done) | (simp; omega), by first | omega | (simp; done) | (simp; omega)⟩))))
          refine hdn (al1 9 rfl ((stv ty23 (Lens.id _) (.t rfl) (.t rfl) ?_)))
          refine hdn (ovr (bN (pN (region (cons (opv (Ev.move (.t rfl)) (cons (opv (Ev.add_i (.t rfl) (.c (v := I 1) rfl) (fun _ => by omega)) ?_))))))))
          refine cons (opv (Ev.assign (.t rfl)) (nil (pN (nxP (X := Int × Tt × Res × OV × (List SAddr)) (i2 + 1, x1.1, Seps R x1.2, v8, _) ⟨?_, ?_, ?_, ?_, ?_⟩ ?_))))
          · try dsimp only
            omega
          · try dsimp only
            exact hx1.1
          · try dsimp only
            have := put_n hok hx1.1 hx1.2.1; omega
          · try dsimp only
            exact fun w1 h => hx1.2.2 w1 (hat w1 (Seps.A _ _ h).1) (Seps.A _ _ h).2
          · try dsimp only
            simp; omega
          · try dsimp only
            omega
        · refine (buildSlice (E := eAddr) Try.underlying23 ty31 z31 (.cons (.t rfl) .nil) rfl rfl (fun v9 => ?_))
          refine hdn (al1 0 rfl ((opv (Ev.ldv ty23 (.t rfl) (Lens.id _)) ?_)))
          refine hdn (al1 8 rfl ((app (E := eAddr) Try.underlying23 ty31 zb31 zs31 (.t rfl) (.t rfl) (fun v10 => ?_) (hby := ⟨by (show _ ≤ 9223372036854775807); first | omega | (simp; done) | (simp; omega), by first | omega | (simp; done) | (simp; omega)⟩))))
          refine hdn (al1 9 rfl ((stv ty23 (Lens.id _) (.t rfl) (.t rfl) ?_)))
          refine hdn (ovr (bN (pN (region (cons (opv (Ev.move (.t rfl)) (cons (opv (Ev.add_i (.t rfl) (.c (v := I 1) rfl) (fun _ => by omega)) ?_))))))))
          refine cons (opv (Ev.assign (.t rfl)) (nil (pN (nxP (X := Int × Tt × Res × OV × (List SAddr)) (i2 + 1, x1.1, Seps R x1.2, v10, _) ⟨?_, ?_, ?_, ?_, ?_⟩ ?_))))
          · try dsimp only
            omega
          · try dsimp only
            exact hx1.1
          · try dsimp only
            have := put_n hok hx1.1 hx1.2.1; omega
          · try dsimp only
            exact fun w1 h => hx1.2.2 w1 (hat w1 (Seps.A _ _ h).1) (Seps.A _ _ h).2
          · try dsimp only
            simp; omega
          · try dsimp only
            omega
      · try simp only [Gx.nb] at h4
        refine skip (bN (pN (region (cons (opv (Ev.move (.t rfl)) (cons (opv (Ev.add_i (.t rfl) (.c (v := I 1) rfl) (fun _ => by omega)) ?_)))))))
        refine cons (opv (Ev.assign (.t rfl)) (nil (pN (nxP (X := Int × Tt × Res × OV × (List SAddr)) (i2 + 1, tt, Seps R x1.2, o, zs) ⟨?_, ?_, ?_, ?_, ?_⟩ ?_))))
        · try dsimp only
          omega
        · try dsimp only
          exact hok
        · try dsimp only
          omega
        · try dsimp only
          exact fun w1 h => hat w1 (Seps.A _ _ h).1
        · try dsimp only
          omega
        · try dsimp only
          omega
    · try simp only [Gx.nb] at h2
      refine exit (pX (pX (bX (pN (seq (seq (region (cons (alloc z3 (fun b11 => ?_))))))))))
      refine cons (stv ty3 (Lens.id _) (.t rfl) (.c (v := I 0) rfl) ?_)
      refine nil (pN (block (lp (X := Int × Nat × (List Nat)) (fun x : Int × Nat × (List Nat) => (0 ≤ x.1 ∧ x.1 ≤ zs.length)) (fun x : Int × Nat × (List Nat) => [dm x.2.2, (0, true, u), (1, true, v), (4, true, .pointer (some ⟨b1, 0, none⟩)), (5, true, tt.ptr.v), (6, true, .pointer (some ⟨b2, 0, none⟩)), (11, true, .pointer (some ⟨x.2.1, 0, none⟩))]) (fun x : Int × Nat × (List Nat) => [Var x.2.1 iE x.1 3, OwnS o.v eAddr zs 31, Var b2 (ovE nilSl) o 23, R, Var b1 bE false 4, Dm x.2.2]) (fun x : Int × Nat × (List Nat) => ((zs.length : Int) - x.1).toNat) (0, b11, []) ?_ (fun x hx => ?_))))
      · omega
      obtain ⟨i, bi, m⟩ := x
      have hi : 0 ≤ i ∧ i ≤ zs.length := hx
      clear hx
      show Sat _ _ [dm m, (0, true, u), (1, true, v), (4, true, .pointer (some ⟨b1, 0, none⟩)), (5, true, tt.ptr.v), (6, true, .pointer (some ⟨b2, 0, none⟩)), (11, true, .pointer (some ⟨bi, 0, none⟩))] [Var bi iE i 3, OwnS o.v eAddr zs 31, Var b2 (ovE nilSl) o 23, R, Var b1 bE false 4, Dm m]
      refine seq (seq (region (cons (opv (Ev.to (v' := I i) (Ev.ldv ty3 (.t rfl) (Lens.id _)) (rfl)) ?_))))
      refine cons (opv (Ev.ldv ty23 (.t rfl) (Lens.id _)) ?_)
      refine cons (opv (Ev.len Try.underlying23 (.t rfl) (by first | exact isSl_own (by repeat first | exact mH | apply mT | apply mA) | exact fun w I => IsSl.keep0 (by assumption) I.keeps)) ?_)
      refine cons (opv (Ev.lss_i (.t rfl) (.t rfl)) ?_)
      refine nil (pN ?_)
      first | refine condD rfl (fun h6 => ?_) (fun h6 => ?_) | refine cond rfl (fun h6 => ?_) (fun h6 => ?_)
      · try simp only [Gx.nb] at h6
        refine skip (pN (seq (block (seq ?_))))
        obtain ⟨zf, hzf⟩ : ∃ z, findV tt (zs.getD i.toNat eAddr.zero) = z := ⟨_, rfl⟩
        obtain ⟨hg1, hg2⟩ := find_got hok hzf
        refine region (cons (opv (Ev.move (.t rfl)) (cons (opv (Ev.ldv ty23 (.t rfl) (Lens.id _)) ?_))))
        refine cons (opv (Ev.to (v' := I i) (Ev.ldv ty3 (.t rfl) (Lens.id _)) (rfl)) ?_)
        refine cons (opv (Ev.indexAddr Try.underlying23 ty31 (.t rfl) (.t rfl) (by first | exact isSl_own (by repeat first | exact mH | apply mT | apply mA) | exact fun w I => IsSl.keep0 (by assumption) I.keeps) (fun _ => by omega)) ?_)
        refine cons (opv (Ev.loadS0 ty31 (.t rfl) (by first | exact isSl_own (by repeat first | exact mH | apply mT | apply mA) | exact fun w I => IsSl.keep0 (by assumption) I.keeps) (fun _ => by omega)) ?_)
        refine cons (callv en11 (.cons (.t rfl) (.cons (.t rfl) .nil)) (fun w I => find_to tt (zs.getD i.toNat eAddr.zero) w zf hzf (hat w (at_mem (by repeat first | exact mH | apply mT | apply mA) w I).1) hok) ?_)
        refine cons (opv (Ev.move (.t rfl)) (cons (opv (Ev.extract (.t rfl) rfl) (cons (opv (Ev.extract (.t rfl) rfl) (cons (opv (Ev.extract (.t rfl) rfl) (cons (alloc z36 (fun b12 => ?_))))))))))
        refine cons (alloc z4 (fun b13 => ?_))
        refine cons (stv ty36 (Lens.id _) (.t rfl) (.t rfl) ?_)
        refine cons (opv (Ev.assign (.t rfl)) (cons (stv ty4 (Lens.id _) (.t rfl) (.t rfl) ?_)))
        refine nil (pN (seq (region (cons (opv (Ev.move (.t rfl)) (cons (opv (Ev.ldv ty23 (.t rfl) (Lens.id _)) ?_)))))))
        refine cons (opv (Ev.to (v' := I i) (Ev.ldv ty3 (.t rfl) (Lens.id _)) (rfl)) ?_)
        refine cons (opv (Ev.indexAddr Try.underlying23 ty31 (.t rfl) (.t rfl) (by first | exact isSl_own (by repeat first | exact mH | apply mT | apply mA) | exact fun w I => IsSl.keep0 (by assumption) I.keeps) (fun _ => by omega)) ?_)
        refine cons (opv (Ev.loadS0 ty31 (.t rfl) (by first | exact isSl_own (by repeat first | exact mH | apply mT | apply mA) | exact fun w I => IsSl.keep0 (by assumption) I.keeps) (fun _ => by omega)) ?_)
        refine cons (callv en12 (.cons (.t rfl) (.cons (.t rfl) .nil)) (fun w I => found_to tt (zs.getD i.toNat eAddr.zero) w zf hzf (hat w (at_mem (by repeat first | exact mH | apply mT | apply mA) w I).1) hok) ?_)
        refine cons (opv (Ev.move (.t rfl)) (cons (opv (Ev.extract (.t rfl) rfl) (cons (opv (Ev.extract (.t rfl) rfl) (cons (opv (Ev.extract (.t rfl) rfl) (cons (alloc z36 (fun b14 => ?_))))))))))
        refine cons (stv ty36 (Lens.id _) (.t rfl) (.t rfl) ?_)
        refine cons (opv (Ev.assign (.t rfl)) (cons (opv (Ev.assign (.t rfl)) (nil (pN (seq (seq (region (cons (opv (Ev.ldv ty36 (.t rfl) (Lens.id _)) ?_))))))))))
        refine cons (opv (Ev.ldv ty36 (.t rfl) (Lens.id _)) ?_)
        refine cons (opv (Ev.neqS rfl eqok36 rfl (by kernel_rfl) (.t rfl) (.t rfl)) ?_)
        refine cons (opv (Ev.move (.t rfl)) (cons (opg rfl rfl (Ev.move (.t rfl)) ?_)))
        refine cons (opg rfl rfl (Ev.move (.t rfl)) ?_)
        refine cons (opg rfl rfl (Ev.neq_i (.g rfl id) (.g rfl id)) ?_)
        refine cons (opv (Ev.pickO (.t rfl) (.c (v := .bool true) rfl) (fun {_} h => by cases h; rfl) ⟨_, rfl⟩ (by intro h1 h; first | (rw [h] <;> rfl) | (rw [h1, h] <;> rfl) | (rw [h, h1] <;> rfl) | simp_all)) ?_)
        refine cons (opv (Ev.move (.t rfl)) (cons (opg rfl rfl (Ev.ldv ty4 (.t rfl) (Lens.id _)) ?_)))
        refine cons (opg rfl rfl (Ev.move (.t rfl)) ?_)
        refine cons (opg rfl rfl (Ev.neq_b Try.underlying4 (.g rfl id) (.g rfl id)) ?_)
        refine cons (opv (Ev.pickO (.t rfl) (.c (v := .bool true) rfl) (fun {_} h => by cases h; rfl) ⟨_, rfl⟩ (by intro h1 h; first | (rw [h] <;> rfl) | (rw [h1, h] <;> rfl) | (rw [h, h1] <;> rfl) | simp_all)) ?_)
        refine nil (pN (condF rfl (by simp) ?_))
        refine skip (pN (seq (region (cons (opv (Ev.move (.t rfl)) (cons (opv (Ev.ldv ty36 (.t rfl) (Lens.id _)) ?_)))))))
        refine cons (callv en13 (.cons (.t rfl) (.cons (.t rfl) .nil)) (fun w I => get_ok tt zf.1 w (hat w (at_mem (by repeat first | exact mH | apply mT | apply mA) w I).1) hok) ?_)
        refine cons (opv (Ev.move (.t rfl)) (cons (opv (Ev.extract (.t rfl) rfl) (cons (opv (Ev.extract (.t rfl) rfl) (cons (opv (Ev.assign (.t rfl)) (cons (opv (Ev.assign (.t rfl)) (nil (pN (seq (region (cons (opv (Ev.move (.t rfl)) (cons (calln (X := Nat × Nat) (fun _ => True) (fun x => (bnd 56 [] [.pointer (some ⟨x.1, 0, none⟩), .pointer (some ⟨x.2, 0, none⟩)]).v) (fun x => [Var x.2 (ovE nilFn) (clo 32 []) 80, Var x.1 (ovE nilPtr) tt.ptr 24]) en8 (.cons (.t rfl) .nil) (fun w I => all_ok tt w) (fun x5 _ => ?_))))))))))))))))))
        refine cons (opv (Ev.assign (.t rfl)) (nil (pN (seq (seq (draw' (by kernel_rfl) ?_))))))
        refine tk 0 rfl (Ev.move (.t rfl)) ?_
        refine tk 1 rfl (Ev.eql_fn Try.underlying27 (.t rfl) (.c rfl)) ?_
        refine tk 2 rfl (Ev.move (.t rfl)) ?_
        refine tkg 3 rfl rfl rfl (Ev.ldv ty4 (.t rfl) (Lens.id _)) ?_
        refine tkg 4 rfl rfl rfl (Ev.move (.g rfl id)) ?_
        refine tkg 5 rfl rfl rfl (Ev.move (.t rfl)) ?_
        refine tkg 6 rfl rfl rfl (Ev.not (.g rfl id)) ?_
        refine tkg 7 rfl rfl rfl (Ev.move (.g rfl id)) ?_
        refine tkg 8 rfl rfl rfl (Ev.move (.t rfl)) ?_
        refine tkg 9 rfl rfl rfl (Ev.move (.t rfl)) ?_
        refine tkg 10 rfl rfl rfl (Ev.neq_i (.g rfl id) (.g rfl id)) ?_
        refine tkg 11 rfl rfl rfl (Ev.pickO (.g rfl id) (.c (v := .bool true) rfl) (fun {_} h => by cases h; rfl) ⟨_, rfl⟩ (by intro h1 h; first | (rw [h] <;> rfl) | (rw [h1, h] <;> rfl) | (rw [h, h1] <;> rfl) | simp_all)) ?_
        refine tkg 12 rfl rfl rfl (Ev.move (.g rfl id)) ?_
        refine tkg 13 rfl rfl rfl (Ev.ldv ty36 (.t rfl) (Lens.id _)) ?_
        refine tkg 14 rfl rfl rfl (Ev.ldv ty23 (.t rfl) (Lens.id _)) ?_
        refine tkg 15 rfl rfl rfl (Ev.to (v' := I i) (Ev.ldv ty3 (.t rfl) (Lens.id _)) (rfl)) ?_
        refine tkg 16 rfl rfl rfl (Ev.indexAddr Try.underlying23 ty31 (.g rfl id) (.g rfl id) (by first | exact isSl_own (by repeat first | exact mH | apply mT | apply mA) | exact fun w I => IsSl.keep0 (by assumption) I.keeps) (fun _ => by first | omega | (rename_i hg; simp at hg; omega))) ?_
        refine tkg 17 rfl rfl rfl (Ev.loadS0 ty31 (.g rfl id) (by first | exact isSl_own (by repeat first | exact mH | apply mT | apply mA) | exact fun w I => IsSl.keep0 (by assumption) I.keeps) (fun _ => by first | omega | (rename_i hg; simp at hg; omega))) ?_
        refine al1 18 rfl ((callg rfl rfl en14 (.cons (.g rfl id) (.cons (.g rfl id) .nil)) (fun hg w I => hasP_ok _ _ w) ?_))
        refine hdn (tkg 19 rfl rfl rfl (Ev.not (.g rfl id)) ?_)
        refine tkg 20 rfl rfl rfl (Ev.pickO (.g rfl id) (.c (v := .bool true) rfl) (fun {_} h => by cases h; rfl) ⟨_, rfl⟩ (by intro h1 h; first | (rw [h] <;> rfl) | (rw [h1, h] <;> rfl) | (rw [h, h1] <;> rfl) | simp_all)) ?_
        refine tkg 21 rfl rfl rfl (Ev.pickA (.g rfl id) (fun {_} h => by cases h; rfl) ⟨_, rfl⟩ (by intro h1 h; first | (rw [h] <;> rfl) | (rw [h1, h] <;> rfl) | (rw [h, h1] <;> rfl) | simp_all) (.c (v := .bool false) rfl)) ?_
        refine tk 22 rfl (Ev.pickO (.t rfl) (.c (v := .bool true) rfl) (fun {_} h => by cases h; rfl) ⟨_, rfl⟩ (by intro h1 h; first | (rw [h] <;> rfl) | (rw [h1, h] <;> rfl) | (rw [h, h1] <;> rfl) | simp_all)) ?_
        refine ovr (pN (condF rfl (by rcases Bool.eq_false_or_eq_true zf.2.2 with hb | hb <;> first | (simp [-List.getD_eq_getElem?_getD, hb]; done) | (obtain ⟨a1, a2, a3⟩ := hg1 hb; simp [-List.getD_eq_getElem?_getD, hb, a1, a2, a3]; done)) ?_))
        refine skip (pN (seq (region (cons (opv (Ev.move (.t rfl)) (nil (pN (block (emp0 ?_)))))))))
        refine rangeF (ζ := Nat) (m := m) (ps := [165, 166]) encE (fun _ : Unit => Emp) () tt.ents (fun _ _ _ => True) (fun _ _ _ _ => False) (fun x z => [dz, (4, true, .pointer (some ⟨b1, 0, none⟩)), (6, true, .pointer (some ⟨b2, 0, none⟩)), (11, true, .pointer (some ⟨bi, 0, none⟩)), (12, true, .pointer (some ⟨b12, 0, none⟩)), (14, true, .pointer (some ⟨b13, 0, none⟩)), (21, true, .pointer (some ⟨z, 0, none⟩))]) (fun x z => [Var z ePrefix x.1 36]) (fun _ => True) trivial (fun _ _ _ _ _ => trivial) (by repeat first | exact Rem.head | apply Rem.tail) (by repeat first | exact Rem.head | apply Rem.tail) rfl (.t rfl) ⟨56, [], [.pointer (some ⟨x5.1, 0, none⟩), .pointer (some ⟨x5.2, 0, none⟩)], rfl⟩ (fun _ => rfl) rfl (fun w I hb => all_iter tt hok x5.1 x5.2 w _ (fun w1 k => ⟨hat w1 (at_mem (by repeat first | exact mH | apply mT | apply mA) w1 (hb w1 k)).1, ptsVar (E' := ovE nilPtr) (by repeat first | exact mH | apply mT | apply mA) (Lens.id _) w1 (hb w1 k), ptsVar (E' := ovE nilFn) (by repeat first | exact mH | apply mT | apply mA) (Lens.id _) w1 (hb w1 k)⟩)) (fun l x w => ?_) (fun l x s zv n0 w hx hn0 hinv hft hb => ?_) (fun s D hr => ?_) (fun c s D hr => ?_)
        · refine regionI (consT (alloc z36 (fun b15 => ?_)))
          refine consT (stv ty36 (Lens.id _) (.t rfl) (.t rfl) ?_)
          refine nilI (gd b15 (by repeat first | exact Sub.nil | refine Sub.cons rfl ?_) (by repeat first | exact sR | exact sN | apply sC | apply sS | apply sA))
        · refine blockI (seqI (drawI' (by kernel_rfl) ?_))
          refine tkI 0 rfl (Ev.ldv ty36 (.t rfl) (Lens.id _)) ?_
          refine tkI 1 rfl (Ev.load ty23 (.t rfl) (fun w I => ptsVar (by repeat first | exact mH | apply mT | apply mA) (Lens.id _) w (hb w I.keeps))) ?_
          refine tkI 2 rfl (Ev.to (v' := I i) (Ev.load ty3 (.t rfl) (fun w I => ptsVar (by repeat first | exact mH | apply mT | apply mA) (Lens.id _) w (hb w I.keeps))) (rfl)) ?_
          refine tkI 3 rfl (Ev.indexAddr Try.underlying23 ty31 (.t rfl) (.t rfl) (fun w I => isSl_own (by repeat first | exact mH | apply mT | apply mA) w (hb w I.keeps)) (fun _ => by omega)) ?_
          refine tkI 4 rfl (Ev.loadS0 ty31 (.t rfl) (fun w I => isSl_own (by repeat first | exact mH | apply mT | apply mA) w (hb w I.keeps)) (fun _ => by omega)) ?_
          refine al1I 5 rfl (opT (callv en14 (.cons (.t rfl) (.cons (.t rfl) .nil)) (fun w I => hasP_ok _ _ w) ?_))
          refine hdnI (tkI 6 rfl (Ev.move (.t rfl)) ?_)
          refine tkgI 7 rfl rfl rfl (Ev.load ty4 (.t rfl) (fun w I => ptsVar (by repeat first | exact mH | apply mT | apply mA) (Lens.id _) w (hb w I.keeps))) ?_
          refine tkgI 8 rfl rfl rfl (Ev.not (.g rfl id)) ?_
          refine tkgI 9 rfl rfl rfl (Ev.move (.g rfl id)) ?_
          refine tkgI 10 rfl rfl rfl (Ev.ldv ty36 (.t rfl) (Lens.id _)) ?_
          refine tkgI 11 rfl rfl rfl (Ev.load ty36 (.t rfl) (fun w I => ptsVar (by repeat first | exact mH | apply mT | apply mA) (Lens.id _) w (hb w I.keeps))) ?_
          refine al1I 12 rfl (opT (callg rfl rfl en15 (.cons (.g rfl id) (.cons (.g rfl id) .nil)) (fun hg w I => coversP_ok _ _ w) ?_))
          refine hdnI (tkgI 13 rfl rfl rfl (Ev.not (.g rfl id)) ?_)
          refine tkgI 14 rfl rfl rfl (Ev.pickO (.g rfl id) (.c (v := .bool true) rfl) (fun {_} h => by cases h; rfl) ⟨_, rfl⟩ (by intro h1 h; first | (rw [h] <;> rfl) | (rw [h1, h] <;> rfl) | (rw [h, h1] <;> rfl) | simp_all)) ?_
          refine tkI 15 rfl (Ev.pickA (.t rfl) (fun {_} h => by cases h; rfl) ⟨_, rfl⟩ (by intro h1 h; first | (rw [h] <;> rfl) | (rw [h1, h] <;> rfl) | (rw [h, h1] <;> rfl) | simp_all) (.c (v := .bool false) rfl)) ?_
          refine ovrI (pN (iteFI rfl (by rcases Bool.eq_false_or_eq_true (hasP x.1 (zs.getD i.toNat eAddr.zero)) with hb | hb <;> first | (simp [-List.getD_eq_getElem?_getD, hb]; done) | (obtain ⟨a1, a2⟩ := hg2 x hx hb; simp [-List.getD_eq_getElem?_getD, hb, a1, a2]; done)) ?_))
          refine skipI (bN ?_)
          exact rdN hn0 () trivial mH
        · refine bN (bN (pN (seq (seq (region (cons (opv (Ev.to (v' := I i) (Ev.ldv ty3 (.t rfl) (Lens.id _)) (rfl)) ?_)))))))
          refine nil (pN (region (cons (alloc z3 (fun b16 => ?_)))))
          refine cons (stv ty3 (Lens.id _) (.t rfl) (.t rfl) ?_)
          refine nil (pN (region (cons (opv (Ev.to (v' := I i) (Ev.ldv ty3 (.t rfl) (Lens.id _)) (rfl)) ?_))))
          refine cons (opv (Ev.add_i (.t rfl) (.c (v := I 1) rfl) (fun _ => by omega)) ?_)
          refine cons (stv ty3 (Lens.id _) (.t rfl) (.t rfl) ?_)
          refine nil (pN (nxP (X := Int × Nat × (List Nat)) (i + 1, b16, D :: m) ?_ ?_))
          · try dsimp only
            omega
          · try dsimp only
            omega
        · exact (runsX_false hr).elim
      · try simp only [Gx.nb] at h6
        refine exit (pX (pX (bX (pN (seq (region (cons (callv en16 .nil (fun w I => works_ok w) ?_))))))))
        refine cons (stv ty4 (Lens.id _) (.t rfl) (.t rfl) ?_)
        refine nil (pN (ret (doneM (by repeat first | exact Rem.head | apply Rem.tail) rfl rfl (.cell rfl (fun w I => run_loadVar_pts ty4 (ptsVar (by repeat first | exact mH | apply mT | apply mA) (Lens.id _) w I)) .nil) (retE ?_))))
        rfl
end Go.Proofs.Ytjjlofjpdklbgaa
