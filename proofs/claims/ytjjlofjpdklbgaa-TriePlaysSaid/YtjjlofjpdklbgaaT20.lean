/- trie -/
import Derived.Test.YtjjlofjpdklbgaaT19
set_option linter.unusedVariables false
set_option linter.unusedSimpArgs false
namespace Go.Proofs.Ytjjlofjpdklbgaa
open Go Go.Gx

theorem new_At {x : Tt} {w : World} (hx : x.OK ∧ x.ents = [] ∧ x.made = true ∧ x.n = 0 ∧ x.l = .nil ∧ x.r = .nil) (h : (Var x.b eTrieTrie x.val 60).A w) : x.At w :=
  ⟨pts_of_block h, by rw [hx.2.2.2.2.1]; trivial, by rw [hx.2.2.2.2.2]; trivial⟩
theorem find_empty {t : Tt} (ho : t.OK) (he : ∀ y, ¬ y ∈ t.ents) (a : SAddr) : findV t a = (ePrefix.zero, 0, false) := by
  rcases find_spec ho a with ⟨x, h1, _⟩ | ⟨h1, _⟩
  · exact (he x h1).elim
  · exact h1
theorem same_to (t u : Tt) (w : World) (b : Bool) (hb : sameV t u = b) (ht : t.At w) (hu : u.At w) (ho : t.OK) (hou : u.OK) : Calls Try.prog 22 #[t.ptr.v, u.ptr.v] w (RetV w (.bool b)) := by
  subst hb
  exact same_ok t u w ht hu ho hou
theorem dead_box {b : Nat} {w : World} (h : (Var b eTrieTrie eTrieTrie.zero 60).A w) : Dead ⟨.pointer (some ⟨b, 0, none⟩), rfl⟩ w := .inr ⟨b, rfl, pts_of_block h⟩

theorem en19 : Gx.Enters Try.prog 19 := Gx.Enters.mk' (by kernel_rfl)

theorem en20 : Gx.Enters Try.prog 20 := Gx.Enters.mk' (by kernel_rfl)

theorem en21 : Gx.Enters Try.prog 21 := Gx.Enters.mk' (by kernel_rfl)

theorem en22 : Gx.Enters Try.prog 22 := Gx.Enters.mk' (by kernel_rfl)

theorem TrieNames_walk (w : World) : Calls Try.prog 4 #[] w (RetV w (.bool true)) := by
  refine enter0 163 Try.func4 rfl rfl (Nat.le_of_ble_eq_true rfl) ?_
  refine seq (region (cons (opv (Ev.assign (.c (v := .bool false) rfl)) ?_)))
  refine nil (pN (seq (region (cons (opv (Ev.assign (.c (v := (Go.Value.pointer none)) rfl)) ?_)))))
  refine nil (pN (seq (region (cons (opv (Ev.buildS (fs := _) (places := [(0, 1), (1, 16)]) z31 rfl Try.underlying31 (by kernel_rfl) .nil Fills.nil) ?_)))))
  refine cons (alloc z31 (fun b1 => ?_))
  refine cons (stv ty31 (Lens.id _) (.t rfl) (.t rfl) ?_)
  refine nil (pN (seq (seq (emp0 ?_))))
  refine region (cons (opv (Ev.assign (.c (v := I 0) rfl)) ?_))
  refine nil (pN (block (lp (X := Int × OV × Res) (fun x : Int × OV × Res => (0 ≤ x.1 ∧ x.1 ≤ 2) ∧ (∀ w1 : World, x.2.2.A w1 → Dead x.2.1 w1)) (fun x : Int × OV × Res => [dz, (0, true, .bool false), (1, true, x.2.1.v), (2, true, .pointer (some ⟨b1, 0, none⟩)), (3, true, I x.1)]) (fun x : Int × OV × Res => [x.2.2, Var b1 eAddr eAddr.zero 31]) (fun x : Int × OV × Res => (2 - x.1).toNat) (0, nilPtr, Emp) ⟨?_, ?_⟩ (fun x hx => ?_))))
  · omega
  · exact fun w1 _ => .inl rfl
  obtain ⟨i, tv, R⟩ := x
  obtain ⟨hi, hR⟩ : (0 ≤ i ∧ i ≤ 2) ∧ (∀ w1 : World, R.A w1 → Dead tv w1) := hx
  show Sat _ _ [dz, (0, true, .bool false), (1, true, tv.v), (2, true, .pointer (some ⟨b1, 0, none⟩)), (3, true, I i)] [R, Var b1 eAddr eAddr.zero 31]
  refine seq (seq (region (cons (opv (Ev.move (.t rfl)) (cons (opv (Ev.lss_i (.t rfl) (.c (v := I 2) rfl)) ?_))))))
  refine nil (pN ?_)
  first | refine condD rfl (fun h0 => ?_) (fun h0 => ?_) | refine cond rfl (fun h0 => ?_) (fun h0 => ?_)
  · try simp only [Gx.nb] at h0
    refine skip (pN (seq (block (seq (region (cons (opv (Ev.move (.t rfl)) (cons (opv (Ev.buildS (fs := _) (places := [(0, 17), (17, 1)]) z36 rfl Try.underlying36 (by kernel_rfl) (.cons (.c (v := I 99) rfl) .nil) (Fills.cons SPrefix.l_bits rfl Fills.nil)) ?_)))))))))
    refine cons (callv en9 (.cons (.t rfl) (.cons (.t rfl) (.cons (.c (v := I 1) rfl) .nil))) (fun w I => put_dead tv w (hR w (at_mem (by repeat first | exact mH | apply mT | apply mA) w I).1) _ _) ?_)
    refine cons (opv (Ev.move (.t rfl)) (cons (opv (Ev.extract (.t rfl) rfl) (cons (opv (Ev.extract (.t rfl) rfl) (cons (opv (Ev.assign (.t rfl)) (cons (opv (Ev.assign (.t rfl)) (nil (pN (seq (region (cons (opv (Ev.move (.t rfl)) (cons (opv (Ev.buildS (fs := _) (places := [(0, 17), (17, 1)]) z36 rfl Try.underlying36 (by kernel_rfl) .nil Fills.nil) ?_)))))))))))))))))
    refine cons (callv en17 (.cons (.t rfl) (.cons (.t rfl) .nil)) (fun w I => cut_dead tv w (hR w (at_mem (by repeat first | exact mH | apply mT | apply mA) w I).1) _) ?_)
    refine cons (opv (Ev.move (.t rfl)) (cons (opv (Ev.extract (.t rfl) rfl) (cons (opv (Ev.extract (.t rfl) rfl) (cons (opv (Ev.assign (.t rfl)) (cons (opv (Ev.assign (.t rfl)) (nil (pN (seq (region (cons (opv (Ev.move (.t rfl)) (cons (opv (Ev.buildS (fs := _) (places := [(0, 17), (17, 1)]) z36 rfl Try.underlying36 (by kernel_rfl) .nil Fills.nil) ?_)))))))))))))))))
    refine cons (callv en13 (.cons (.t rfl) (.cons (.t rfl) .nil)) (fun w I => get_dead tv w (hR w (at_mem (by repeat first | exact mH | apply mT | apply mA) w I).1) _) ?_)
    refine cons (opv (Ev.move (.t rfl)) (cons (opv (Ev.extract (.t rfl) rfl) (cons (opv (Ev.extract (.t rfl) rfl) (cons (opv (Ev.assign (.t rfl)) (cons (opv (Ev.assign (.t rfl)) (nil (pN (seq (region (cons (opv (Ev.move (.t rfl)) (cons (opv (Ev.ldv ty31 (.t rfl) (Lens.id _)) ?_)))))))))))))))))
    refine cons (callv en11 (.cons (.t rfl) (.cons (.t rfl) .nil)) (fun w I => find_dead tv w (hR w (at_mem (by repeat first | exact mH | apply mT | apply mA) w I).1) _) ?_)
    refine cons (opv (Ev.move (.t rfl)) (cons (opv (Ev.extract (.t rfl) rfl) (cons (opv (Ev.extract (.t rfl) rfl) (cons (opv (Ev.extract (.t rfl) rfl) (cons (alloc z36 (fun b2 => ?_))))))))))
    refine cons (stv ty36 (Lens.id _) (.t rfl) (.t rfl) ?_)
    refine cons (opv (Ev.assign (.t rfl)) (cons (opv (Ev.assign (.t rfl)) (nil (pN (seq (seq (region (cons (opv (Ev.move (.t rfl)) (cons (opv (Ev.neq_p Try.underlying24 (.t rfl) (.c rfl)) ?_))))))))))))
    refine cons (opv (Ev.move (.t rfl)) (cons (opg rfl rfl (Ev.move (.t rfl)) ?_)))
    refine cons (opg rfl rfl (Ev.neq_p Try.underlying24 (.g rfl id) (.c rfl)) ?_)
    refine cons (opv (Ev.pickO (.t rfl) (.c (v := .bool true) rfl) (fun {_} h => by cases h; rfl) ⟨_, rfl⟩ (by intro h1 h; first | (rw [h] <;> rfl) | (rw [h1, h] <;> rfl) | (rw [h, h1] <;> rfl) | simp_all)) ?_)
    refine cons (opv (Ev.move (.t rfl)) (cons (opg rfl rfl (Ev.move (.t rfl)) ?_)))
    refine cons (opg rfl rfl (Ev.neq_i (.g rfl id) (.c (v := I 1) rfl)) ?_)
    refine cons (opv (Ev.pickO (.t rfl) (.c (v := .bool true) rfl) (fun {_} h => by cases h; rfl) ⟨_, rfl⟩ (by intro h1 h; first | (rw [h] <;> rfl) | (rw [h1, h] <;> rfl) | (rw [h, h1] <;> rfl) | simp_all)) ?_)
    refine cons (opv (Ev.move (.t rfl)) (cons (opg rfl rfl (Ev.move (.t rfl)) ?_)))
    refine cons (opg rfl rfl (Ev.neq_i (.g rfl id) (.c (v := I 1) rfl)) ?_)
    refine cons (opv (Ev.pickO (.t rfl) (.c (v := .bool true) rfl) (fun {_} h => by cases h; rfl) ⟨_, rfl⟩ (by intro h1 h; first | (rw [h] <;> rfl) | (rw [h1, h] <;> rfl) | (rw [h, h1] <;> rfl) | simp_all)) ?_)
    refine cons (opv (Ev.move (.t rfl)) (cons (opg rfl rfl (Ev.move (.t rfl)) ?_)))
    refine cons (opg rfl rfl (Ev.neq_i (.g rfl id) (.c (v := I 0) rfl)) ?_)
    refine cons (opv (Ev.pickO (.t rfl) (.c (v := .bool true) rfl) (fun {_} h => by cases h; rfl) ⟨_, rfl⟩ (by intro h1 h; first | (rw [h] <;> rfl) | (rw [h1, h] <;> rfl) | (rw [h, h1] <;> rfl) | simp_all)) ?_)
    refine cons (opv (Ev.move (.t rfl)) (cons (opg rfl rfl (Ev.move (.t rfl)) ?_)))
    refine cons (opv (Ev.pickO (.t rfl) (.c (v := .bool true) rfl) (fun {_} h => by cases h; rfl) ⟨_, rfl⟩ (by intro h1 h; first | (rw [h] <;> rfl) | (rw [h1, h] <;> rfl) | (rw [h, h1] <;> rfl) | simp_all)) ?_)
    refine cons (opv (Ev.move (.t rfl)) (cons (opg rfl rfl (Ev.ldv ty36 (.t rfl) (Lens.id _)) ?_)))
    refine cons (opg rfl rfl (Ev.buildS (fs := _) (places := [(0, 17), (17, 1)]) z36 rfl Try.underlying36 (by kernel_rfl) .nil Fills.nil) ?_)
    refine cons (opg rfl rfl (Ev.neqS rfl eqok36 rfl (by kernel_rfl) (.g rfl id) (.g rfl id)) ?_)
    refine cons (opv (Ev.pickO (.t rfl) (.c (v := .bool true) rfl) (fun {_} h => by cases h; rfl) ⟨_, rfl⟩ (by intro h1 h; first | (rw [h] <;> rfl) | (rw [h1, h] <;> rfl) | (rw [h, h1] <;> rfl) | simp_all)) ?_)
    refine cons (opv (Ev.move (.t rfl)) (cons (opg rfl rfl (Ev.move (.t rfl)) ?_)))
    refine cons (opg rfl rfl (Ev.neq_i (.g rfl id) (.c (v := I 0) rfl)) ?_)
    refine cons (opv (Ev.pickO (.t rfl) (.c (v := .bool true) rfl) (fun {_} h => by cases h; rfl) ⟨_, rfl⟩ (by intro h1 h; first | (rw [h] <;> rfl) | (rw [h1, h] <;> rfl) | (rw [h, h1] <;> rfl) | simp_all)) ?_)
    refine cons (opv (Ev.move (.t rfl)) (cons (opg rfl rfl (Ev.move (.t rfl)) ?_)))
    refine cons (opv (Ev.pickO (.t rfl) (.c (v := .bool true) rfl) (fun {_} h => by cases h; rfl) ⟨_, rfl⟩ (by intro h1 h; first | (rw [h] <;> rfl) | (rw [h1, h] <;> rfl) | (rw [h, h1] <;> rfl) | simp_all)) ?_)
    refine cons (opv (Ev.move (.t rfl)) (cons (opg rfl rfl (Ev.move (.t rfl)) ?_)))
    refine cons (callg rfl rfl en18 (.cons (.g rfl id) .nil) (fun hg w I => len_dead tv w (hR w (at_mem (by repeat first | exact mH | apply mT | apply mA) w I).1)) ?_)
    refine cons (opg rfl rfl (Ev.neq_i (.g rfl id) (.c (v := I 0) rfl)) ?_)
    refine cons (opv (Ev.pickO (.t rfl) (.c (v := .bool true) rfl) (fun {_} h => by cases h; rfl) ⟨_, rfl⟩ (by intro h1 h; first | (rw [h] <;> rfl) | (rw [h1, h] <;> rfl) | (rw [h, h1] <;> rfl) | simp_all)) ?_)
    refine cons (opv (Ev.move (.t rfl)) (cons (opg rfl rfl (Ev.move (.t rfl)) ?_)))
    refine cons (opgT rfl rfl rfl ?_)
    refine (callo en19 (.cons (.g rfl id) .nil) (fun w I => shape_dead tv w (hR w (at_mem (by repeat first | exact mH | apply mT | apply mA) w I).1)) (fun v3 => ?_))
    refine cons (opg rfl rfl (Ev.len Try.underlying51 (.t rfl) (by first | exact isSl_own (by repeat first | exact mH | apply mT | apply mA) | exact fun w I => IsSl.keep0 (by assumption) I.keeps)) ?_)
    refine cons (opg rfl rfl (Ev.neq_i (.g rfl id) (.c (v := I 0) rfl)) ?_)
    refine cons (opv (Ev.pickO (.t rfl) (.c (v := .bool true) rfl) (fun {_} h => by cases h; rfl) ⟨_, rfl⟩ (by intro h1 h; first | (rw [h] <;> rfl) | (rw [h1, h] <;> rfl) | (rw [h, h1] <;> rfl) | simp_all)) ?_)
    refine cons (opv (Ev.move (.t rfl)) (cons (opg rfl rfl (Ev.move (.t rfl)) ?_)))
    refine cons (opgT rfl rfl rfl ?_)
    refine (calln (X := Nat × Nat) (fun _ => True) (fun x => (bnd 56 [] [.pointer (some ⟨x.1, 0, none⟩), .pointer (some ⟨x.2, 0, none⟩)]).v) (fun x => [Var x.2 (ovE nilFn) (clo 32 []) 80, Var x.1 (ovE nilPtr) tv 24]) en8 (.cons (.g rfl id) .nil) (fun w I => all_o tv w) (fun y1 _ => ?_))
    refine cons (opgT rfl rfl rfl ?_)
    refine (callo en20 (.cons (.t rfl) (.cons (.c (v := I 9) rfl) .nil)) (fun w I => told_ok 56 [] [.pointer (some ⟨y1.1, 0, none⟩), .pointer (some ⟨y1.2, 0, none⟩)] [] 9 w (by omega) (fun w1 M k => ent_dead_iter tv y1.1 y1.2 w1 M (fun w2 k2 => ⟨(hR w (at_mem (by repeat first | exact mH | apply mT | apply mA) w I).1).keep (k w2 k2), (ptsVar (E' := ovE nilPtr) (by repeat first | exact mH | apply mT | apply mA) (Lens.id _) w I).keep (k w2 k2)⟩))) (fun v4 => ?_))
    refine cons (opg rfl rfl (Ev.len Try.underlying53 (.t rfl) (by first | exact isSl_own (by repeat first | exact mH | apply mT | apply mA) | exact fun w I => IsSl.keep0 (by assumption) I.keeps)) ?_)
    refine cons (opg rfl rfl (Ev.neq_i (.g rfl id) (.c (v := I 0) rfl)) ?_)
    refine cons (opv (Ev.pickO (.t rfl) (.c (v := .bool true) rfl) (fun {_} h => by cases h; rfl) ⟨_, rfl⟩ (by intro h1 h; first | (rw [h] <;> rfl) | (rw [h1, h] <;> rfl) | (rw [h, h1] <;> rfl) | simp_all)) ?_)
    refine cons (opv (Ev.move (.t rfl)) (cons (opg rfl rfl (Ev.move (.t rfl)) ?_)))
    refine cons (opg rfl rfl (Ev.buildS (fs := _) (places := [(0, 17), (17, 1)]) z36 rfl Try.underlying36 (by kernel_rfl) .nil Fills.nil) ?_)
    refine cons (opgT rfl rfl rfl ?_)
    refine (calln (X := (Nat × Nat) × Nat) (fun _ => True) (fun x => (bnd 56 [] [.pointer (some ⟨x.1.1, 0, none⟩), .pointer (some ⟨x.1.2, 0, none⟩)]).v) (fun x => [Var x.1.2 (ovE nilFn) (bnd 44 [] [.pointer (some ⟨x.2, 0, none⟩)]) 80, Var x.1.1 (ovE nilPtr) tv 24, Var x.2 ePrefix ePrefix.zero 36]) en21 (.cons (.g rfl id) (.cons (.g rfl id) .nil)) (fun w I => under_o tv _ w) (fun y2 _ => ?_))
    refine cons (opgT rfl rfl rfl ?_)
    refine (callo en20 (.cons (.t rfl) (.cons (.c (v := I 9) rfl) .nil)) (fun w I => told_ok 56 [] [.pointer (some ⟨y2.1.1, 0, none⟩), .pointer (some ⟨y2.1.2, 0, none⟩)] [] 9 w (by omega) (fun w1 M k => ent_dead_iter tv y2.1.1 y2.1.2 w1 M (fun w2 k2 => ⟨(hR w (at_mem (by repeat first | exact mH | apply mT | apply mA) w I).1).keep (k w2 k2), (ptsVar (E' := ovE nilPtr) (by repeat first | exact mH | apply mT | apply mA) (Lens.id _) w I).keep (k w2 k2)⟩))) (fun v5 => ?_))
    refine cons (opg rfl rfl (Ev.len Try.underlying53 (.t rfl) (by first | exact isSl_own (by repeat first | exact mH | apply mT | apply mA) | exact fun w I => IsSl.keep0 (by assumption) I.keeps)) ?_)
    refine cons (opg rfl rfl (Ev.neq_i (.g rfl id) (.c (v := I 0) rfl)) ?_)
    refine cons (opv (Ev.pickO (.t rfl) (.c (v := .bool true) rfl) (fun {_} h => by cases h; rfl) ⟨_, rfl⟩ (by intro h1 h; first | (rw [h] <;> rfl) | (rw [h1, h] <;> rfl) | (rw [h, h1] <;> rfl) | simp_all)) ?_)
    refine cons (opv (Ev.move (.t rfl)) (cons (opg rfl rfl (Ev.move (.t rfl)) ?_)))
    refine cons (opg rfl rfl (Ev.move (.t rfl)) ?_)
    refine cons (callg rfl rfl en22 (.cons (.g rfl id) (.cons (.g rfl id) .nil)) (fun hg w I => same_dead tv tv w (hR w (at_mem (by repeat first | exact mH | apply mT | apply mA) w I).1)) ?_)
    refine cons (opv (Ev.pickO (.t rfl) (.c (v := .bool true) rfl) (fun {_} h => by cases h; rfl) ⟨_, rfl⟩ (by intro h1 h; first | (rw [h] <;> rfl) | (rw [h1, h] <;> rfl) | (rw [h, h1] <;> rfl) | simp_all)) ?_)
    refine cons (opv (Ev.move (.t rfl)) (cons (opg rfl rfl (Ev.move (.t rfl)) ?_)))
    refine cons (opgT rfl rfl rfl ?_)
    refine (calln (X := Tt) (fun x : Tt => x.OK ∧ x.ents = [] ∧ x.made = true ∧ x.n = 0 ∧ x.l = .nil ∧ x.r = .nil) (fun x => x.ptr.v) (fun x => [Var x.b eTrieTrie x.val 60]) en7 .nil (fun w I => new_ok w) (fun x5 hx5 => ?_))
    refine cons (callg rfl rfl en22 (.cons (.g rfl id) (.cons (.t rfl) .nil)) (fun hg w I => same_dead tv x5.ptr w (hR w (at_mem (by repeat first | exact mH | apply mT | apply mA) w I).1)) ?_)
    refine cons (opv (Ev.pickO (.t rfl) (.c (v := .bool true) rfl) (fun {_} h => by cases h; rfl) ⟨_, rfl⟩ (by intro h1 h; first | (rw [h] <;> rfl) | (rw [h1, h] <;> rfl) | (rw [h, h1] <;> rfl) | simp_all)) ?_)
    refine cons (opv (Ev.move (.t rfl)) (cons (opgT rfl rfl rfl ?_)))
    refine (calln (X := Tt) (fun x : Tt => x.OK ∧ x.ents = [] ∧ x.made = true ∧ x.n = 0 ∧ x.l = .nil ∧ x.r = .nil) (fun x => x.ptr.v) (fun x => [Var x.b eTrieTrie x.val 60]) en7 .nil (fun w I => new_ok w) (fun x6 hx6 => ?_))
    refine cons (opg rfl rfl (Ev.move (.t rfl)) ?_)
    refine cons (callg rfl rfl en22 (.cons (.t rfl) (.cons (.g rfl id) .nil)) (fun hg w I => same_dead2 x6 tv w (new_At hx6 (at_mem (by repeat first | exact mH | apply mT | apply mA) w I).1) hx6.1 (hR w (at_mem (by repeat first | exact mH | apply mT | apply mA) w I).1)) ?_)
    refine cons (opv (Ev.pickO (.t rfl) (.c (v := .bool true) rfl) (fun {_} h => by cases h; rfl) ⟨_, rfl⟩ (by intro h1 h; first | (rw [h] <;> rfl) | (rw [h1, h] <;> rfl) | (rw [h, h1] <;> rfl) | simp_all)) ?_)
    refine nil (pN (condF rfl (rfl) ?_))
    refine skip (pN (region (cons (opv (Ev.buildS (fs := _) (places := [(0, 1), (1, 1), (2, 2)]) z60 rfl Try.underlying60 (by kernel_rfl) .nil Fills.nil) ?_))))
    refine cons (box (E := eTrieTrie) (.t rfl) (fun b6 => ?_))
    refine cons (opv (Ev.assign (.t rfl)) (nil (bN (pN (region (cons (opv (Ev.move (.t rfl)) (cons (opv (Ev.add_i (.t rfl) (.c (v := I 1) rfl) (fun _ => by omega)) ?_)))))))))
    refine cons (opv (Ev.assign (.t rfl)) (nil (pN (nxP (X := Int × OV × Res) (i + 1, ⟨.pointer (some ⟨b6, 0, none⟩), rfl⟩, Var b6 eTrieTrie eTrieTrie.zero 60) ⟨?_, ?_⟩ ?_))))
    · try dsimp only
      omega
    · try dsimp only
      exact fun w1 h => dead_box h
    · try dsimp only
      omega
  · try simp only [Gx.nb] at h0
    refine exit (pX (pX (bX (pN (seq (region (cons (opv (Ev.buildS (fs := _) (places := [(0, 18), (18, 1)]) z38 rfl Try.underlying38 (by kernel_rfl) .nil Fills.nil) ?_))))))))
    refine cons (opv (Ev.buildS (fs := _) (places := [(0, 17), (17, 1)]) z36 rfl Try.underlying36 (by kernel_rfl) (.cons (.c (v := I 33) rfl) .nil) (Fills.cons SPrefix.l_bits rfl Fills.nil)) ?_)
    refine cons (opv (Ev.buildS (fs := _) (places := [(0, 18), (18, 1)]) z38 rfl Try.underlying38 (by kernel_rfl) (.cons (.t rfl) .nil) (Fills.cons SRoute.l_to_ rfl Fills.nil)) ?_)
    refine cons (buildSlice (E := eRoute) Try.underlying22 ty38 z38 (.cons (.t rfl) (.cons (.t rfl) .nil)) rfl rfl (fun v7 => ?_))
    refine cons (calln (X := Tt × List Res) (TofJ [eRoute.zero, { eRoute.zero with to_ := { ePrefix.zero with bits := 33 } }]) (fun x => .tuple #[.pointer (pO (ofR [eRoute.zero, { eRoute.zero with to_ := { ePrefix.zero with bits := 33 } }]) x.1.b), I (ofR [eRoute.zero, { eRoute.zero with to_ := { ePrefix.zero with bits := 33 } }])]) (fun x => x.2) en23 (.cons (.t rfl) .nil) (fun w I => tof_ok _ [eRoute.zero, { eRoute.zero with to_ := { ePrefix.zero with bits := 33 } }] w (by first | exact isSl_own (by repeat first | exact mH | apply mT | apply mA) w I | exact IsSl.keep0 (by assumption) I.keeps) (by simp)) (fun x1 hx1 => ?_))
    refine cons (opv (Ev.move (.t rfl)) (cons (opv (Ev.extract (.t rfl) rfl) (cons (opv (Ev.to (v' := I 151) (Ev.extract (.t rfl) rfl) (congrArg Gx.I (show ofR [eRoute.zero, { eRoute.zero with to_ := { ePrefix.zero with bits := 33 } }] = 151 from by decide +kernel))) ?_)))))
    refine cons (opv (Ev.assign (.t rfl)) (cons (opv (Ev.assign (.t rfl)) (nil (pN (seq (region (cons (calln (X := Tt × List Res) (TofJ ([] : List SRoute)) (fun x => .tuple #[.pointer (pO (ofR ([] : List SRoute)) x.1.b), I (ofR ([] : List SRoute))]) (fun x => x.2) en23 (.cons (.c (v := (Go.Value.slice none 0 0)) rfl) .nil) (fun w I => tof_ok _ ([] : List SRoute) w (IsSl.nil _ w) (by simp)) (fun x2 hx2 => ?_))))))))))
    refine cons (opv (Ev.move (.t rfl)) (cons (opv (Ev.extract (.t rfl) rfl) (cons (opv (Ev.extract (.t rfl) rfl) (cons (opv (Ev.assign (.t rfl)) (cons (opv (Ev.assign (.t rfl)) (nil (pN (seq ?_))))))))))))
    obtain ⟨q1, q2, q3, q4⟩ := hx2 rfl
    refine draw' (by kernel_rfl) ?_
    refine tk 1 rfl (Ev.ldv ty31 (.t rfl) (Lens.id _)) ?_
    refine all [0, 7] (by kernel_rfl) (by decide) (.cons rfl ?_ (.cons rfl ?_ .nil))
    · refine (calln (X := Tt) (fun x : Tt => x.OK ∧ x.ents = [] ∧ x.made = true ∧ x.n = 0 ∧ x.l = .nil ∧ x.r = .nil) (fun x => x.ptr.v) (fun x => [Var x.b eTrieTrie x.val 60]) en7 .nil (fun w I => new_ok w) (fun x3 hx3 => ?_))
      refine hdn (all [2, 7] (by kernel_rfl) (by decide) (.cons rfl ?_ (.cons rfl ?_ .nil)))
      · refine (callv en11 (.cons (.t rfl) (.cons (.t rfl) .nil)) (fun w I => find_to x3 _ w (ePrefix.zero, 0, false) (find_empty hx3.1 (fun y hy => by rw [hx3.2.1] at hy; cases hy) _) (new_At hx3 (at_mem (by repeat first | exact mH | apply mT | apply mA) w I).1) hx3.1) ?_)
        refine hdn (tk 3 rfl (Ev.move (.t rfl)) ?_)
        refine tk 4 rfl (Ev.extract (.t rfl) rfl) ?_
        refine tk 5 rfl (Ev.extract (.t rfl) rfl) ?_
        refine tk 6 rfl (Ev.extract (.t rfl) rfl) ?_
        refine al1 7 rfl ((alloc z36 (fun b8 => ?_)))
        refine hdn (al1 8 rfl ((stv ty36 (Lens.id _) (.t rfl) (.t rfl) ?_)))
        refine hdn (tk 9 rfl (Ev.assign (.t rfl)) ?_)
        refine tk 10 rfl (Ev.assign (.t rfl)) ?_
        refine ovr (pN (seq ?_))
        have he2 : x2.1.n = 0 := by rw [q1.n]; rw [List.eq_nil_iff_forall_not_mem.2 (fun y hy => ((q2 y).1 hy).elim)]; rfl
        refine region (cons (opv (Ev.move (.t rfl)) (cons (opv (Ev.eql_i (.t rfl) (.c (v := I 151) rfl)) ?_))))
        refine cons (opv (Ev.move (.t rfl)) (cons (opg rfl rfl (Ev.move (.t rfl)) ?_)))
        refine cons (opg rfl rfl (Ev.eql_i (.g rfl id) (.c (v := I 0) rfl)) ?_)
        refine cons (opv (Ev.pickA (.t rfl) (fun {_} h => by cases h; rfl) ⟨_, rfl⟩ (by intro h1 h; first | (rw [h] <;> rfl) | (rw [h1, h] <;> rfl) | (rw [h, h1] <;> rfl) | simp_all) (.c (v := .bool false) rfl)) ?_)
        refine cons (opv (Ev.move (.t rfl)) (cons (opg rfl rfl (Ev.move (.t rfl)) ?_)))
        refine cons (opg rfl rfl (Ev.not (.g rfl id)) ?_)
        refine cons (opv (Ev.pickA (.t rfl) (fun {_} h => by cases h; rfl) ⟨_, rfl⟩ (by intro h1 h; first | (rw [h] <;> rfl) | (rw [h1, h] <;> rfl) | (rw [h, h1] <;> rfl) | simp_all) (.c (v := .bool false) rfl)) ?_)
        refine cons (opv (Ev.move (.t rfl)) (cons (opg rfl rfl (Ev.move (.t rfl)) ?_)))
        refine cons (opgT rfl rfl rfl ?_)
        refine (calln (X := Tt) (fun x : Tt => x.OK ∧ x.ents = [] ∧ x.made = true ∧ x.n = 0 ∧ x.l = .nil ∧ x.r = .nil) (fun x => x.ptr.v) (fun x => [Var x.b eTrieTrie x.val 60]) en7 .nil (fun w I => new_ok w) (fun x4 hx4 => ?_))
        refine cons (callg rfl rfl en22 (.cons (.g rfl id) (.cons (.t rfl) .nil)) (fun hg w I => same_to x2.1 x4 w true (by unfold sameV; rw [he2, hx4.2.2.2.1, List.eq_nil_iff_forall_not_mem.2 (fun y hy => ((q2 y).1 hy).elim)]; rfl) (q4 w (fun r hr => (I.own r (by repeat first | exact hr | exact List.mem_append_left _ hr | apply List.Mem.tail | apply List.mem_append_right)).1)) (new_At hx4 (at_mem (by repeat first | exact mH | apply mT | apply mA) w I).1) q1 hx4.1) ?_)
        refine cons (opv (Ev.pickA (.t rfl) (fun {_} h => by cases h; rfl) ⟨_, rfl⟩ (by intro h1 h; first | (rw [h] <;> rfl) | (rw [h1, h] <;> rfl) | (rw [h, h1] <;> rfl) | simp_all) (.c (v := .bool false) rfl)) ?_)
        refine cons (opv (Ev.move (.t rfl)) (cons (callg rfl rfl en16 .nil (fun hg w I => works_ok w) ?_)))
        refine cons (opv (Ev.pickA (.t rfl) (fun {_} h => by cases h; rfl) ⟨_, rfl⟩ (by intro h1 h; first | (rw [h] <;> rfl) | (rw [h1, h] <;> rfl) | (rw [h, h1] <;> rfl) | simp_all) (.c (v := .bool false) rfl)) ?_)
        refine cons (opv (Ev.assign (.t rfl)) (nil (pN (ret (done rfl (.tmp rfl .nil) (retE ?_))))))
        rfl
      · refine (alloc z36 (fun b9 => ?_))
        refine hdn (al1 2 rfl ((callv en11 (.cons (.t rfl) (.cons (.t rfl) .nil)) (fun w I => find_to x3 _ w (ePrefix.zero, 0, false) (find_empty hx3.1 (fun y hy => by rw [hx3.2.1] at hy; cases hy) _) (new_At hx3 (at_mem (by repeat first | exact mH | apply mT | apply mA) w I).1) hx3.1) ?_)))
        refine hdn (tk 3 rfl (Ev.move (.t rfl)) ?_)
        refine tk 4 rfl (Ev.extract (.t rfl) rfl) ?_
        refine tk 5 rfl (Ev.extract (.t rfl) rfl) ?_
        refine tk 6 rfl (Ev.extract (.t rfl) rfl) ?_
        refine al1 8 rfl ((stv ty36 (Lens.id _) (.t rfl) (.t rfl) ?_))
        refine hdn (tk 9 rfl (Ev.assign (.t rfl)) ?_)
        refine tk 10 rfl (Ev.assign (.t rfl)) ?_
        refine ovr (pN (seq ?_))
        have he2 : x2.1.n = 0 := by rw [q1.n]; rw [List.eq_nil_iff_forall_not_mem.2 (fun y hy => ((q2 y).1 hy).elim)]; rfl
        refine region (cons (opv (Ev.move (.t rfl)) (cons (opv (Ev.eql_i (.t rfl) (.c (v := I 151) rfl)) ?_))))
        refine cons (opv (Ev.move (.t rfl)) (cons (opg rfl rfl (Ev.move (.t rfl)) ?_)))
        refine cons (opg rfl rfl (Ev.eql_i (.g rfl id) (.c (v := I 0) rfl)) ?_)
        refine cons (opv (Ev.pickA (.t rfl) (fun {_} h => by cases h; rfl) ⟨_, rfl⟩ (by intro h1 h; first | (rw [h] <;> rfl) | (rw [h1, h] <;> rfl) | (rw [h, h1] <;> rfl) | simp_all) (.c (v := .bool false) rfl)) ?_)
        refine cons (opv (Ev.move (.t rfl)) (cons (opg rfl rfl (Ev.move (.t rfl)) ?_)))
        refine cons (opg rfl rfl (Ev.not (.g rfl id)) ?_)
        refine cons (opv (Ev.pickA (.t rfl) (fun {_} h => by cases h; rfl) ⟨_, rfl⟩ (by intro h1 h; first | (rw [h] <;> rfl) | (rw [h1, h] <;> rfl) | (rw [h, h1] <;> rfl) | simp_all) (.c (v := .bool false) rfl)) ?_)
        refine cons (opv (Ev.move (.t rfl)) (cons (opg rfl rfl (Ev.move (.t rfl)) ?_)))
        refine cons (opgT rfl rfl rfl ?_)
        refine (calln (X := Tt) (fun x : Tt => x.OK ∧ x.ents = [] ∧ x.made = true ∧ x.n = 0 ∧ x.l = .nil ∧ x.r = .nil) (fun x => x.ptr.v) (fun x => [Var x.b eTrieTrie x.val 60]) en7 .nil (fun w I => new_ok w) (fun x4 hx4 => ?_))
        refine cons (callg rfl rfl en22 (.cons (.g rfl id) (.cons (.t rfl) .nil)) (fun hg w I => same_to x2.1 x4 w true (by unfold sameV; rw [he2, hx4.2.2.2.1, List.eq_nil_iff_forall_not_mem.2 (fun y hy => ((q2 y).1 hy).elim)]; rfl) (q4 w (fun r hr => (I.own r (by repeat first | exact hr | exact List.mem_append_left _ hr | apply List.Mem.tail | apply List.mem_append_right)).1)) (new_At hx4 (at_mem (by repeat first | exact mH | apply mT | apply mA) w I).1) q1 hx4.1) ?_)
        refine cons (opv (Ev.pickA (.t rfl) (fun {_} h => by cases h; rfl) ⟨_, rfl⟩ (by intro h1 h; first | (rw [h] <;> rfl) | (rw [h1, h] <;> rfl) | (rw [h, h1] <;> rfl) | simp_all) (.c (v := .bool false) rfl)) ?_)
        refine cons (opv (Ev.move (.t rfl)) (cons (callg rfl rfl en16 .nil (fun hg w I => works_ok w) ?_)))
        refine cons (opv (Ev.pickA (.t rfl) (fun {_} h => by cases h; rfl) ⟨_, rfl⟩ (by intro h1 h; first | (rw [h] <;> rfl) | (rw [h1, h] <;> rfl) | (rw [h, h1] <;> rfl) | simp_all) (.c (v := .bool false) rfl)) ?_)
        refine cons (opv (Ev.assign (.t rfl)) (nil (pN (ret (done rfl (.tmp rfl .nil) (retE ?_))))))
        rfl
    · refine (alloc z36 (fun b10 => ?_))
      refine hdn (al1 0 rfl ((calln (X := Tt) (fun x : Tt => x.OK ∧ x.ents = [] ∧ x.made = true ∧ x.n = 0 ∧ x.l = .nil ∧ x.r = .nil) (fun x => x.ptr.v) (fun x => [Var x.b eTrieTrie x.val 60]) en7 .nil (fun w I => new_ok w) (fun x3 hx3 => ?_))))
      refine hdn (al1 2 rfl ((callv en11 (.cons (.t rfl) (.cons (.t rfl) .nil)) (fun w I => find_to x3 _ w (ePrefix.zero, 0, false) (find_empty hx3.1 (fun y hy => by rw [hx3.2.1] at hy; cases hy) _) (new_At hx3 (at_mem (by repeat first | exact mH | apply mT | apply mA) w I).1) hx3.1) ?_)))
      refine hdn (tk 3 rfl (Ev.move (.t rfl)) ?_)
      refine tk 4 rfl (Ev.extract (.t rfl) rfl) ?_
      refine tk 5 rfl (Ev.extract (.t rfl) rfl) ?_
      refine tk 6 rfl (Ev.extract (.t rfl) rfl) ?_
      refine al1 8 rfl ((stv ty36 (Lens.id _) (.t rfl) (.t rfl) ?_))
      refine hdn (tk 9 rfl (Ev.assign (.t rfl)) ?_)
      refine tk 10 rfl (Ev.assign (.t rfl)) ?_
      refine ovr (pN (seq ?_))
      have he2 : x2.1.n = 0 := by rw [q1.n]; rw [List.eq_nil_iff_forall_not_mem.2 (fun y hy => ((q2 y).1 hy).elim)]; rfl
      refine region (cons (opv (Ev.move (.t rfl)) (cons (opv (Ev.eql_i (.t rfl) (.c (v := I 151) rfl)) ?_))))
      refine cons (opv (Ev.move (.t rfl)) (cons (opg rfl rfl (Ev.move (.t rfl)) ?_)))
      refine cons (opg rfl rfl (Ev.eql_i (.g rfl id) (.c (v := I 0) rfl)) ?_)
      refine cons (opv (Ev.pickA (.t rfl) (fun {_} h => by cases h; rfl) ⟨_, rfl⟩ (by intro h1 h; first | (rw [h] <;> rfl) | (rw [h1, h] <;> rfl) | (rw [h, h1] <;> rfl) | simp_all) (.c (v := .bool false) rfl)) ?_)
      refine cons (opv (Ev.move (.t rfl)) (cons (opg rfl rfl (Ev.move (.t rfl)) ?_)))
      refine cons (opg rfl rfl (Ev.not (.g rfl id)) ?_)
      refine cons (opv (Ev.pickA (.t rfl) (fun {_} h => by cases h; rfl) ⟨_, rfl⟩ (by intro h1 h; first | (rw [h] <;> rfl) | (rw [h1, h] <;> rfl) | (rw [h, h1] <;> rfl) | simp_all) (.c (v := .bool false) rfl)) ?_)
      refine cons (opv (Ev.move (.t rfl)) (cons (opg rfl rfl (Ev.move (.t rfl)) ?_)))
      refine cons (opgT rfl rfl rfl ?_)
      refine (calln (X := Tt) (fun x : Tt => x.OK ∧ x.ents = [] ∧ x.made = true ∧ x.n = 0 ∧ x.l = .nil ∧ x.r = .nil) (fun x => x.ptr.v) (fun x => [Var x.b eTrieTrie x.val 60]) en7 .nil (fun w I => new_ok w) (fun x4 hx4 => ?_))
      refine cons (callg rfl rfl en22 (.cons (.g rfl id) (.cons (.t rfl) .nil)) (fun hg w I => same_to x2.1 x4 w true (by unfold sameV; rw [he2, hx4.2.2.2.1, List.eq_nil_iff_forall_not_mem.2 (fun y hy => ((q2 y).1 hy).elim)]; rfl) (q4 w (fun r hr => (I.own r (by repeat first | exact hr | exact List.mem_append_left _ hr | apply List.Mem.tail | apply List.mem_append_right)).1)) (new_At hx4 (at_mem (by repeat first | exact mH | apply mT | apply mA) w I).1) q1 hx4.1) ?_)
      refine cons (opv (Ev.pickA (.t rfl) (fun {_} h => by cases h; rfl) ⟨_, rfl⟩ (by intro h1 h; first | (rw [h] <;> rfl) | (rw [h1, h] <;> rfl) | (rw [h, h1] <;> rfl) | simp_all) (.c (v := .bool false) rfl)) ?_)
      refine cons (opv (Ev.move (.t rfl)) (cons (callg rfl rfl en16 .nil (fun hg w I => works_ok w) ?_)))
      refine cons (opv (Ev.pickA (.t rfl) (fun {_} h => by cases h; rfl) ⟨_, rfl⟩ (by intro h1 h; first | (rw [h] <;> rfl) | (rw [h1, h] <;> rfl) | (rw [h, h1] <;> rfl) | simp_all) (.c (v := .bool false) rfl)) ?_)
      refine cons (opv (Ev.assign (.t rfl)) (nil (pN (ret (done rfl (.tmp rfl .nil) (retE ?_))))))
      rfl
end Go.Proofs.Ytjjlofjpdklbgaa
