/- trie -/
import Derived.Test.YtjjlofjpdklbgaaT14
set_option linter.unusedVariables false
set_option linter.unusedSimpArgs false
namespace Go.Proofs.Ytjjlofjpdklbgaa
open Go Go.Gx

theorem ents_len {t : Tt} (ho : t.OK) {l : List (SPrefix × Int)} (hl : (l.map (·.1)).Nodup) (h : ∀ y, y ∈ t.ents ↔ y ∈ l) : t.n = l.length := by
  rw [ho.n]
  have h1 : t.ents.Nodup := (List.pairwise_map.1 ho.nodup).imp (fun hn e => hn (congrArg _ e))
  have h2 : l.Nodup := (List.pairwise_map.1 hl).imp (fun hn e => hn (congrArg _ e))
  exact congrArg Nat.cast ((List.perm_ext_iff_of_nodup h1 h2).2 h).length_eq
theorem find_to (t : Tt) (a : SAddr) (w : World) (z : SPrefix × Int × Bool) (hz : findV t a = z) (ht : t.At w) (ho : t.OK) : Calls Try.prog 11 #[t.ptr.v, eAddr.val a] w (RetV w (.tuple #[ePrefix.val z.1, I z.2.1, .bool z.2.2])) := by
  subst hz
  exact find_ok t a w ht ho
theorem len_to (t : Tt) (w : World) (n : Int) (hn : t.n = n) (ht : t.At w) (ho : t.OK) : Calls Try.prog 18 #[t.ptr.v] w (RetV w (I n)) := by
  subst hn
  exact len_ok t w ht ho
def aW : SAddr := { eAddr.zero with b := (((((Vector.replicate 16 0).set 0 10).set 1 1).set 2 2).set 3 3) }
theorem aW_ok : (ofE aW 8 = 0 ∧ ofE aW 16 = 0 ∧ checkP (ofV aW 8) = 0 ∧ checkP (ofV aW 16) = 0 ∧ ofV aW 8 ≠ ofV aW 16) ∧ hasP (ofV aW 8) aW = true ∧ hasP (ofV aW 16) aW = true ∧ (ofV aW 8).bits = 8 ∧ (ofV aW 16).bits = 16 := by decide +kernel

theorem z29 : (Try.prog.info? 29).bind (·.zero) = some ((arrE 16 u8E).val (arrE 16 u8E).zero) := by kernel_rfl

theorem en23 : Gx.Enters Try.prog 23 := Gx.Enters.mk' (by kernel_rfl)

theorem en17 : Gx.Enters Try.prog 17 := Gx.Enters.mk' (by kernel_rfl)

theorem en11 : Gx.Enters Try.prog 11 := Gx.Enters.mk' (by kernel_rfl)

theorem en18 : Gx.Enters Try.prog 18 := Gx.Enters.mk' (by kernel_rfl)

theorem works_ok (w : World) : Calls Try.prog 16 #[] w (RetV w (.bool true)) := by
  obtain ⟨p, hp⟩ : ∃ z, ofV aW 8 = z := ⟨_, rfl⟩
  obtain ⟨q, hq⟩ : ∃ z, ofV aW 16 = z := ⟨_, rfl⟩
  obtain ⟨⟨e1, e2, c1, c2, npq⟩, s1, s2, r1, r2⟩ := aW_ok
  rw [hp] at c1 npq s1 r1
  rw [hq] at c2 npq s2 r2
  have hof : ofR [(⟨p, 1⟩ : SRoute), ⟨q, 2⟩] = 0 := by simp [ofR, c1, c2]
  refine enter0 109 Try.func16 rfl rfl (Nat.le_of_ble_eq_true rfl) ?_
  refine seq (region (cons (opv (Ev.assign (.c (v := .bool false) rfl)) ?_)))
  refine nil (pN (seq (region (cons (opv (Ev.buildA z29 Try.underlying29 ty5 (.cons (.c (v := U8 10) rfl) (.cons (.c (v := U8 1) rfl) (.cons (.c (v := U8 2) rfl) (.cons (.c (v := U8 3) rfl) .nil)))) (Fills.cons (lArr u8E 0 (by decide)) rfl (Fills.cons (lArr u8E 1 (by decide)) rfl (Fills.cons (lArr u8E 2 (by decide)) rfl (Fills.cons (lArr u8E 3 (by decide)) rfl Fills.nil))))) ?_)))))
  refine cons (opv (Ev.buildS (fs := _) (places := [(0, 1), (1, 16)]) z31 rfl Try.underlying31 (by kernel_rfl) (.cons (.t rfl) .nil) (Fills.cons SAddr.l_b rfl Fills.nil)) ?_)
  refine cons (alloc z31 (fun b1 => ?_))
  refine cons (stv ty31 (Lens.id _) (.t rfl) (.t rfl) ?_)
  refine nil (pN (seq (region (cons (opv (Ev.ldv ty31 (.t rfl) (Lens.id _)) ?_)))))
  refine cons (callv en38 (.cons (.t rfl) (.cons (.c (v := I 8) rfl) .nil)) (fun w I => of_g aW 8 w p 0 hp e1) ?_)
  refine cons (opv (Ev.move (.t rfl)) (cons (opv (Ev.extract (.t rfl) rfl) (cons (opv (Ev.extract (.t rfl) rfl) (cons (alloc z36 (fun b2 => ?_))))))))
  refine cons (stv ty36 (Lens.id _) (.t rfl) (.t rfl) ?_)
  refine cons (opv (Ev.assign (.t rfl)) (nil (pN (seq (region (cons (opv (Ev.ldv ty31 (.t rfl) (Lens.id _)) ?_)))))))
  refine cons (callv en38 (.cons (.t rfl) (.cons (.c (v := I 16) rfl) .nil)) (fun w I => of_g aW 16 w q 0 hq e2) ?_)
  refine cons (opv (Ev.move (.t rfl)) (cons (opv (Ev.extract (.t rfl) rfl) (cons (opv (Ev.extract (.t rfl) rfl) (cons (alloc z36 (fun b3 => ?_))))))))
  refine cons (stv ty36 (Lens.id _) (.t rfl) (.t rfl) ?_)
  refine cons (opv (Ev.assign (.t rfl)) (nil (pN (seq (region (cons (opv (Ev.ldv ty36 (.t rfl) (Lens.id _)) ?_)))))))
  refine cons (opv (Ev.buildS (fs := _) (places := [(0, 18), (18, 1)]) z38 rfl Try.underlying38 (by kernel_rfl) (.cons (.t rfl) (.cons (.c (v := I 1) rfl) .nil)) (Fills.cons SRoute.l_to_ rfl (Fills.cons SRoute.l_out rfl Fills.nil))) ?_)
  refine cons (opv (Ev.ldv ty36 (.t rfl) (Lens.id _)) ?_)
  refine cons (opv (Ev.buildS (fs := _) (places := [(0, 18), (18, 1)]) z38 rfl Try.underlying38 (by kernel_rfl) (.cons (.t rfl) (.cons (.c (v := I 2) rfl) .nil)) (Fills.cons SRoute.l_to_ rfl (Fills.cons SRoute.l_out rfl Fills.nil))) ?_)
  refine cons (buildSlice (E := eRoute) Try.underlying22 ty38 z38 (.cons (.t rfl) (.cons (.t rfl) .nil)) rfl rfl (fun v4 => ?_))
  refine cons (calln (X := Tt × List Res) (TofJ [(⟨p, 1⟩ : SRoute), ⟨q, 2⟩]) (fun x => .tuple #[.pointer (pO (ofR [(⟨p, 1⟩ : SRoute), ⟨q, 2⟩]) x.1.b), I (ofR [(⟨p, 1⟩ : SRoute), ⟨q, 2⟩])]) (fun x => x.2) en23 (.cons (.t rfl) .nil) (fun w I => tof_ok _ [(⟨p, 1⟩ : SRoute), ⟨q, 2⟩] w (by first | exact isSl_own (by repeat first | exact mH | apply mT | apply mA) w I | exact IsSl.keep0 (by assumption) I.keeps) (by simp)) (fun x1 hx1 => ?_))
  refine cons (opv (Ev.move (.t rfl)) (cons (opv (Ev.to (v' := x1.1.ptr.v) (Ev.extract (.t rfl) rfl) (congrArg Value.pointer (if_pos hof))) ?_)))
  refine cons (opv (Ev.to (v' := I 0) (Ev.extract (.t rfl) rfl) (congrArg Gx.I hof)) ?_)
  refine cons (opv (Ev.assign (.t rfl)) (cons (opv (Ev.assign (.t rfl)) (nil (pN (seq (seq ?_)))))))
  obtain ⟨j1, j2, j3, j4⟩ := hx1 hof
  have he1 : ∀ y, y ∈ x1.1.ents ↔ (y = (q, 2) ∨ y = (p, 1)) := fun y => by
    rw [j2]
    constructor
    · rintro (h | ⟨h | h, _⟩)
      · exact .inl h
      · exact .inr h
      · exact h.1.elim
    · rintro (h | h)
      · exact .inl h
      · exact .inr ⟨.inl h, by rw [h]; exact npq⟩
  have nn1 : x1.1.n = 2 := ents_len j1 (l := [(q, 2), (p, 1)]) (by simpa using fun e => npq e.symm) (fun y => by rw [he1]; simp)
  have gq := (getV_iff j1 q 2).2 ((he1 _).2 (.inl rfl))
  have hc0 : cutE x1.1 q = 0 := by
    unfold cutE
    rw [if_neg (by rw [c2]; decide), if_neg (by rw [gq.1]; decide)]
  have fi1 : findV x1.1 aW = (q, 2, true) := find_of j1 ((he1 (q, 2)).2 (.inl rfl)) s2 (fun y hy _ => by
    rcases (he1 y).1 hy with rfl | rfl
    · exact Int.le_refl _
    · show p.bits ≤ q.bits
      omega)
  refine region (cons (opv (Ev.move (.t rfl)) (cons (opv (Ev.neq_i (.t rfl) (.c (v := I 0) rfl)) ?_))))
  refine cons (opv (Ev.move (.t rfl)) (cons (opg rfl rfl (Ev.move (.t rfl)) ?_)))
  refine cons (opg rfl rfl (Ev.neq_i (.g rfl id) (.c (v := I 0) rfl)) ?_)
  refine cons (opv (Ev.pickO (.t rfl) (.c (v := .bool true) rfl) (fun {_} h => by cases h; rfl) ⟨_, rfl⟩ (by intro h1 h; first | (rw [h] <;> rfl) | (rw [h1, h] <;> rfl) | (rw [h, h1] <;> rfl) | simp_all)) ?_)
  refine cons (opv (Ev.move (.t rfl)) (cons (opg rfl rfl (Ev.move (.t rfl)) ?_)))
  refine cons (opg rfl rfl (Ev.neq_i (.g rfl id) (.c (v := I 0) rfl)) ?_)
  refine cons (opv (Ev.pickO (.t rfl) (.c (v := .bool true) rfl) (fun {_} h => by cases h; rfl) ⟨_, rfl⟩ (by intro h1 h; first | (rw [h] <;> rfl) | (rw [h1, h] <;> rfl) | (rw [h, h1] <;> rfl) | simp_all)) ?_)
  refine cons (opv (Ev.move (.t rfl)) (cons (opg rfl rfl (Ev.move (.t rfl)) ?_)))
  refine cons (opg rfl rfl (Ev.eql_p Try.underlying24 (.g rfl id) (.c rfl)) ?_)
  refine cons (opv (Ev.pickO (.t rfl) (.c (v := .bool true) rfl) (fun {_} h => by cases h; rfl) ⟨_, rfl⟩ (by intro h1 h; first | (rw [h] <;> rfl) | (rw [h1, h] <;> rfl) | (rw [h, h1] <;> rfl) | simp_all)) ?_)
  refine nil (pN (condF rfl (rfl) ?_))
  refine skip (pN (seq (region (cons (opv (Ev.move (.t rfl)) (cons (opv (Ev.ldv ty36 (.t rfl) (Lens.id _)) ?_)))))))
  refine cons (calln (X := Tt × List Res) (TcutJ x1.1 q) (fun x => .tuple #[.pointer (pO (cutE x1.1 q) x.1.b), I (cutE x1.1 q)]) (fun x => x.2) en17 (.cons (.t rfl) (.cons (.t rfl) .nil)) (fun w I => tcut_ok x1.1 q w (j4 w (fun r hr => (I.own r (by repeat first | exact hr | exact List.mem_append_left _ hr | apply List.Mem.tail | apply List.mem_append_right)).1)) j1 (by omega)) (fun x2 hx2 => ?_))
  refine cons (opv (Ev.move (.t rfl)) (cons (opv (Ev.to (v' := x2.1.ptr.v) (Ev.extract (.t rfl) rfl) (congrArg Value.pointer (if_pos hc0))) ?_)))
  refine cons (opv (Ev.to (v' := I 0) (Ev.extract (.t rfl) rfl) (congrArg Gx.I hc0)) ?_)
  refine cons (opv (Ev.assign (.t rfl)) (cons (opv (Ev.assign (.t rfl)) (nil (pN (seq (seq ?_)))))))
  obtain ⟨k1, k2, k3⟩ := hx2 hc0
  have he2 : ∀ y, y ∈ x2.1.ents ↔ y = (p, 1) := fun y => by
    rw [k2, he1]
    constructor
    · rintro ⟨h | h, g⟩
      · exact (g (by rw [h])).elim
      · exact h
    · intro h
      exact ⟨.inr h, by rw [h]; exact npq⟩
  have nn2 : x2.1.n = 1 := ents_len k1 (l := [(p, 1)]) (by simp) (fun y => by rw [he2]; simp)
  have fi2 : findV x2.1 aW = (p, 1, true) := find_of k1 ((he2 (p, 1)).2 rfl) s1 (fun y hy _ => by
    rcases (he2 y).1 hy with rfl
    exact Int.le_refl _)
  refine region (cons (opv (Ev.move (.t rfl)) (cons (opv (Ev.neq_i (.t rfl) (.c (v := I 0) rfl)) ?_))))
  refine cons (opv (Ev.move (.t rfl)) (cons (opg rfl rfl (Ev.move (.t rfl)) ?_)))
  refine cons (opg rfl rfl (Ev.eql_p Try.underlying24 (.g rfl id) (.c rfl)) ?_)
  refine cons (opv (Ev.pickO (.t rfl) (.c (v := .bool true) rfl) (fun {_} h => by cases h; rfl) ⟨_, rfl⟩ (by intro h1 h; first | (rw [h] <;> rfl) | (rw [h1, h] <;> rfl) | (rw [h, h1] <;> rfl) | simp_all)) ?_)
  refine nil (pN (condF rfl (rfl) ?_))
  refine skip (pN (seq (region (cons (opv (Ev.move (.t rfl)) (cons (opv (Ev.ldv ty31 (.t rfl) (Lens.id _)) ?_)))))))
  refine cons (callv en11 (.cons (.t rfl) (.cons (.t rfl) .nil)) (fun w I => find_to x1.1 aW w (q, 2, true) fi1 (j4 w (fun r hr => (I.own r (by repeat first | exact hr | exact List.mem_append_left _ hr | apply List.Mem.tail | apply List.mem_append_right)).1)) j1) ?_)
  refine cons (opv (Ev.move (.t rfl)) (cons (opv (Ev.extract (.t rfl) rfl) (cons (opv (Ev.extract (.t rfl) rfl) (cons (opv (Ev.extract (.t rfl) rfl) (cons (alloc z36 (fun b5 => ?_))))))))))
  refine cons (stv ty36 (Lens.id _) (.t rfl) (.t rfl) ?_)
  refine cons (opv (Ev.assign (.t rfl)) (cons (opv (Ev.assign (.t rfl)) (nil (pN (seq (region (cons (opv (Ev.move (.t rfl)) (cons (opv (Ev.ldv ty31 (.t rfl) (Lens.id _)) ?_)))))))))))
  refine cons (callv en11 (.cons (.t rfl) (.cons (.t rfl) .nil)) (fun w I => find_to x2.1 aW w (p, 1, true) fi2 (k3 w (j4 w (fun r hr => (I.own r (by repeat first | exact hr | exact List.mem_append_left _ hr | apply List.Mem.tail | apply List.mem_append_right)).1)) (fun r hr => (I.own r (by repeat first | exact hr | exact List.mem_append_left _ hr | apply List.Mem.tail | apply List.mem_append_right)).1)) k1) ?_)
  refine cons (opv (Ev.move (.t rfl)) (cons (opv (Ev.extract (.t rfl) rfl) (cons (opv (Ev.extract (.t rfl) rfl) (cons (opv (Ev.extract (.t rfl) rfl) (cons (alloc z36 (fun b6 => ?_))))))))))
  refine cons (stv ty36 (Lens.id _) (.t rfl) (.t rfl) ?_)
  refine cons (opv (Ev.assign (.t rfl)) (cons (opv (Ev.assign (.t rfl)) (nil (pN (seq (region (cons (opv (Ev.move (.t rfl)) (cons (opv (Ev.move (.t rfl)) (cons (opg rfl rfl (Ev.move (.t rfl)) ?_)))))))))))))
  refine cons (opv (Ev.pickA (.t rfl) (fun {_} h => by cases h; rfl) ⟨_, rfl⟩ (by intro h1 h; first | (rw [h] <;> rfl) | (rw [h1, h] <;> rfl) | (rw [h, h1] <;> rfl) | simp_all) (.c (v := .bool false) rfl)) ?_)
  refine cons (opv (Ev.move (.t rfl)) (cons (opg rfl rfl (Ev.ldv ty36 (.t rfl) (Lens.id _)) ?_)))
  refine cons (opg rfl rfl (Ev.ldv ty36 (.t rfl) (Lens.id _)) ?_)
  refine cons (opg rfl rfl (Ev.eqlS rfl eqok36 rfl (by kernel_rfl) (.g rfl id) (.g rfl id)) ?_)
  refine cons (opv (Ev.pickA (.t rfl) (fun {_} h => by cases h; rfl) ⟨_, rfl⟩ (by intro h1 h; first | (rw [h] <;> rfl) | (rw [h1, h] <;> rfl) | (rw [h, h1] <;> rfl) | simp_all) (.c (v := .bool false) rfl)) ?_)
  refine cons (opv (Ev.move (.t rfl)) (cons (opg rfl rfl (Ev.move (.t rfl)) ?_)))
  refine cons (opg rfl rfl (Ev.eql_i (.g rfl id) (.c (v := I 2) rfl)) ?_)
  refine cons (opv (Ev.pickA (.t rfl) (fun {_} h => by cases h; rfl) ⟨_, rfl⟩ (by intro h1 h; first | (rw [h] <;> rfl) | (rw [h1, h] <;> rfl) | (rw [h, h1] <;> rfl) | simp_all) (.c (v := .bool false) rfl)) ?_)
  refine cons (opv (Ev.move (.t rfl)) (cons (opg rfl rfl (Ev.ldv ty36 (.t rfl) (Lens.id _)) ?_)))
  refine cons (opg rfl rfl (Ev.ldv ty36 (.t rfl) (Lens.id _)) ?_)
  refine cons (opg rfl rfl (Ev.eqlS rfl eqok36 rfl (by kernel_rfl) (.g rfl id) (.g rfl id)) ?_)
  refine cons (opv (Ev.pickA (.t rfl) (fun {_} h => by cases h; rfl) ⟨_, rfl⟩ (by intro h1 h; first | (rw [h] <;> rfl) | (rw [h1, h] <;> rfl) | (rw [h, h1] <;> rfl) | simp_all) (.c (v := .bool false) rfl)) ?_)
  refine cons (opv (Ev.move (.t rfl)) (cons (opg rfl rfl (Ev.move (.t rfl)) ?_)))
  refine cons (opg rfl rfl (Ev.eql_i (.g rfl id) (.c (v := I 1) rfl)) ?_)
  refine cons (opv (Ev.pickA (.t rfl) (fun {_} h => by cases h; rfl) ⟨_, rfl⟩ (by intro h1 h; first | (rw [h] <;> rfl) | (rw [h1, h] <;> rfl) | (rw [h, h1] <;> rfl) | simp_all) (.c (v := .bool false) rfl)) ?_)
  refine cons (opv (Ev.move (.t rfl)) (cons (opg rfl rfl (Ev.move (.t rfl)) ?_)))
  refine cons (callg rfl rfl en18 (.cons (.g rfl id) .nil) (fun hg w I => len_to x1.1 w 2 nn1 (j4 w (fun r hr => (I.own r (by repeat first | exact hr | exact List.mem_append_left _ hr | apply List.Mem.tail | apply List.mem_append_right)).1)) j1) ?_)
  refine cons (opg rfl rfl (Ev.eql_i (.g rfl id) (.c (v := I 2) rfl)) ?_)
  refine cons (opv (Ev.pickA (.t rfl) (fun {_} h => by cases h; rfl) ⟨_, rfl⟩ (by intro h1 h; first | (rw [h] <;> rfl) | (rw [h1, h] <;> rfl) | (rw [h, h1] <;> rfl) | simp_all) (.c (v := .bool false) rfl)) ?_)
  refine cons (opv (Ev.move (.t rfl)) (cons (opg rfl rfl (Ev.move (.t rfl)) ?_)))
  refine cons (callg rfl rfl en18 (.cons (.g rfl id) .nil) (fun hg w I => len_to x2.1 w 1 nn2 (k3 w (j4 w (fun r hr => (I.own r (by repeat first | exact hr | exact List.mem_append_left _ hr | apply List.Mem.tail | apply List.mem_append_right)).1)) (fun r hr => (I.own r (by repeat first | exact hr | exact List.mem_append_left _ hr | apply List.Mem.tail | apply List.mem_append_right)).1)) k1) ?_)
  refine cons (opg rfl rfl (Ev.eql_i (.g rfl id) (.c (v := I 1) rfl)) ?_)
  refine cons (opv (Ev.pickA (.t rfl) (fun {_} h => by cases h; rfl) ⟨_, rfl⟩ (by intro h1 h; first | (rw [h] <;> rfl) | (rw [h1, h] <;> rfl) | (rw [h, h1] <;> rfl) | simp_all) (.c (v := .bool false) rfl)) ?_)
  refine cons (opv (Ev.assign (.t rfl)) (nil (pN (ret (done rfl (.tmp rfl .nil) (retE ?_))))))
  simp
end Go.Proofs.Ytjjlofjpdklbgaa
