/- trie -/
import Derived.Test.YtjjlofjpdklbgaaT18
set_option linter.unusedVariables false
set_option linter.unusedSimpArgs false
namespace Go.Proofs.Ytjjlofjpdklbgaa
open Go Go.Gx

def sameK (u : Tt) (x : SPrefix × Int) : Bool := (getV u x.1).2 && decide ((getV u x.1).1 = x.2)
def sameV (t u : Tt) : Bool := decide (t.n = u.n) && t.ents.all (sameK u)
abbrev sameJ (u : Tt) : SPrefix × Int → Bool → Bool → Prop := fun x s s' => sameK u x = true ∧ s' = s
abbrev sameX (u : Tt) : SPrefix × Int → Bool → Code → Bool → Prop := fun x s c s' => c = .ret ∧ sameK u x = false ∧ s' = false
theorem sameN {u : Tt} : ∀ {xs : List (SPrefix × Int)} {s t : Bool}, RunsN (sameJ u) xs s t → t = s ∧ xs.all (sameK u) = true
  | [], s, t, h => ⟨h, rfl⟩
  | x :: xs, s, t, ⟨q, ⟨h1, h2⟩, h⟩ => by
    obtain ⟨h3, h4⟩ := sameN h
    exact ⟨h3.trans h2, by rw [List.all_cons, h1, h4]; rfl⟩
theorem sameE {u : Tt} {c : Code} : ∀ {xs : List (SPrefix × Int)} {s t : Bool}, RunsX (sameJ u) (sameX u) c xs s t → c = .ret ∧ t = false ∧ xs.all (sameK u) = false
  | [], s, t, h => h.elim
  | x :: xs, s, t, .inl ⟨h1, h2, h3⟩ => ⟨h1, h3, by rw [List.all_cons, h2]; rfl⟩
  | x :: xs, s, t, .inr ⟨q, ⟨h1, h2⟩, h⟩ => by
    obtain ⟨h3, h4, h5⟩ := sameE h
    exact ⟨h3, h4, by rw [List.all_cons, h5, Bool.and_false]⟩
theorem there_live (t : Tt) (w : World) (ht : t.At w) (ho : t.OK) : Calls Try.prog 33 #[t.ptr.v] w (RetV w (.bool true)) := by
  have h := there_ok t w ht.1
  rw [ho.made] at h
  exact h

theorem same_dead (tv sv : OV) (w : World) (h : Dead tv w) : Calls Try.prog 22 #[tv.v, sv.v] w (RetV w (.bool false)) := by
  refine enterM0 45 Try.func22 rfl rfl (Nat.le_of_ble_eq_true rfl) ?_
  refine seq (region (cons (box (E := (ovE nilPtr)) (.t rfl) (fun b1 => ?_))))
  refine cons (alloc z4 (fun b2 => ?_))
  refine nil (pN (seq (seq (draw' (by kernel_rfl) ?_))))
  refine tk 0 rfl (Ev.move (.t rfl)) ?_
  refine al1 1 rfl ((callv en33 (.cons (.t rfl) .nil) (fun w I => there_dead tv w (h.keep I.keeps)) ?_))
  refine hdn (tk 2 rfl (Ev.not (.t rfl)) ?_)
  refine tk 3 rfl (Ev.move (.t rfl)) ?_
  refine tkg 4 rfl rfl rfl (Ev.vac (v := .bool false) rfl) ?_
  refine tkg 5 rfl rfl rfl (Ev.vac (v := .bool false) rfl) ?_
  refine tkg 6 rfl rfl rfl (Ev.vac (v := .bool false) rfl) ?_
  refine tk 7 rfl (Ev.pickO (.t rfl) (.c (v := .bool true) rfl) (fun {_} h => by cases h; rfl) ⟨_, rfl⟩ (by intro h1 h; first | (rw [h] <;> rfl) | (rw [h1, h] <;> rfl) | (rw [h, h1] <;> rfl) | simp_all)) ?_
  refine tk 8 rfl (Ev.move (.t rfl)) ?_
  refine tkg 9 rfl rfl rfl (Ev.vac (v := .bool false) rfl) ?_
  refine tkg 10 rfl rfl rfl (Ev.vac (v := .bool false) rfl) ?_
  refine tkg 11 rfl rfl rfl (Ev.vac (v := .bool false) rfl) ?_
  refine tkg 12 rfl rfl rfl (Ev.vac (v := .bool false) rfl) ?_
  refine tkg 13 rfl rfl rfl (Ev.vac (v := .bool false) rfl) ?_
  refine tkg 14 rfl rfl rfl (Ev.vac (v := .bool false) rfl) ?_
  refine tkg 15 rfl rfl rfl (Ev.vac (v := .bool false) rfl) ?_
  refine tkg 16 rfl rfl rfl (Ev.vac (v := .bool false) rfl) ?_
  refine tkg 17 rfl rfl rfl (Ev.vac (v := .bool false) rfl) ?_
  refine tk 18 rfl (Ev.pickO (.t rfl) (.c (v := .bool true) rfl) (fun {_} h => by cases h; rfl) ⟨_, rfl⟩ (by intro h1 h; first | (rw [h] <;> rfl) | (rw [h1, h] <;> rfl) | (rw [h, h1] <;> rfl) | simp_all)) ?_
  refine ovr (pN (condT rfl (rfl) ?_))
  refine seq (region (cons (stv ty4 (Lens.id _) (.t rfl) (.c (v := .bool false) rfl) ?_)))
  refine nil (pN (ret (pR (doneM (by repeat first | exact Rem.head | apply Rem.tail) rfl rfl (.cell rfl (fun w I => run_loadVar_pts ty4 (ptsVar (by repeat first | exact mH | apply mT | apply mA) (Lens.id _) w I)) .nil) (retE ?_)))))
  rfl

theorem same_dead2 (t : Tt) (tv : OV) (w : World) (ht : t.At w) (ho : t.OK) (h : Dead tv w) : Calls Try.prog 22 #[t.ptr.v, tv.v] w (RetV w (.bool false)) := by
  refine enterM0 45 Try.func22 rfl rfl (Nat.le_of_ble_eq_true rfl) ?_
  refine seq (region (cons (box (E := (ovE nilPtr)) (.t rfl) (fun b1 => ?_))))
  refine cons (alloc z4 (fun b2 => ?_))
  refine nil (pN (seq (seq (draw' (by kernel_rfl) ?_))))
  refine tk 0 rfl (Ev.move (.t rfl)) ?_
  refine al1 1 rfl ((callv en33 (.cons (.t rfl) .nil) (fun w I => there_live t w (ht.keep I.keeps) ho) ?_))
  refine hdn (tk 2 rfl (Ev.not (.t rfl)) ?_)
  refine tk 3 rfl (Ev.move (.t rfl)) ?_
  refine tkg 4 rfl rfl rfl (Ev.to (v' := tv.v) (Ev.ldv ty24 (.t rfl) (Lens.id _)) (rfl)) ?_
  refine al1 5 rfl ((callg rfl rfl en33 (.cons (.g rfl id) .nil) (fun hg w I => there_dead tv w (h.keep I.keeps)) ?_))
  refine hdn (tkg 6 rfl rfl rfl (Ev.not (.g rfl id)) ?_)
  refine tk 7 rfl (Ev.pickO (.t rfl) (.c (v := .bool true) rfl) (fun {_} h => by cases h; rfl) ⟨_, rfl⟩ (by intro h1 h; first | (rw [h] <;> rfl) | (rw [h1, h] <;> rfl) | (rw [h, h1] <;> rfl) | simp_all)) ?_
  refine tk 8 rfl (Ev.move (.t rfl)) ?_
  refine tkg 9 rfl rfl rfl (Ev.vac (v := .bool false) rfl) ?_
  refine tkg 10 rfl rfl rfl (Ev.vac (v := .bool false) rfl) ?_
  refine tkg 11 rfl rfl rfl (Ev.vac (v := .bool false) rfl) ?_
  refine tkg 12 rfl rfl rfl (Ev.vac (v := .bool false) rfl) ?_
  refine tkg 13 rfl rfl rfl (Ev.vac (v := .bool false) rfl) ?_
  refine tkg 14 rfl rfl rfl (Ev.vac (v := .bool false) rfl) ?_
  refine tkg 15 rfl rfl rfl (Ev.vac (v := .bool false) rfl) ?_
  refine tkg 16 rfl rfl rfl (Ev.vac (v := .bool false) rfl) ?_
  refine tkg 17 rfl rfl rfl (Ev.vac (v := .bool false) rfl) ?_
  refine tk 18 rfl (Ev.pickO (.t rfl) (.c (v := .bool true) rfl) (fun {_} h => by cases h; rfl) ⟨_, rfl⟩ (by intro h1 h; first | (rw [h] <;> rfl) | (rw [h1, h] <;> rfl) | (rw [h, h1] <;> rfl) | simp_all)) ?_
  refine ovr (pN (condT rfl (rfl) ?_))
  refine seq (region (cons (stv ty4 (Lens.id _) (.t rfl) (.c (v := .bool false) rfl) ?_)))
  refine nil (pN (ret (pR (doneM (by repeat first | exact Rem.head | apply Rem.tail) rfl rfl (.cell rfl (fun w I => run_loadVar_pts ty4 (ptsVar (by repeat first | exact mH | apply mT | apply mA) (Lens.id _) w I)) .nil) (retE ?_)))))
  rfl

theorem same_ok (t u : Tt) (w : World) (ht : t.At w) (hu : u.At w) (ho : t.OK) (hou : u.OK) : Calls Try.prog 22 #[t.ptr.v, u.ptr.v] w (RetV w (.bool (sameV t u))) := by
  refine enterM0 45 Try.func22 rfl rfl (Nat.le_of_ble_eq_true rfl) ?_
  refine seq (region (cons (box (E := (ovE nilPtr)) (.t rfl) (fun b1 => ?_))))
  refine cons (alloc z4 (fun b2 => ?_))
  refine nil (pN (seq (seq (draw' (by kernel_rfl) ?_))))
  refine tk 0 rfl (Ev.move (.t rfl)) ?_
  refine al1 1 rfl ((callv en33 (.cons (.t rfl) .nil) (fun w I => there_live t w (ht.keep I.keeps) ho) ?_))
  refine hdn (tk 2 rfl (Ev.not (.t rfl)) ?_)
  refine tk 3 rfl (Ev.move (.t rfl)) ?_
  refine tkg 4 rfl rfl rfl (Ev.to (v' := u.ptr.v) (Ev.ldv ty24 (.t rfl) (Lens.id _)) (rfl)) ?_
  refine al1 5 rfl ((callg rfl rfl en33 (.cons (.g rfl id) .nil) (fun hg w I => there_live u w (hu.keep I.keeps) hou) ?_))
  refine hdn (tkg 6 rfl rfl rfl (Ev.not (.g rfl id)) ?_)
  refine tk 7 rfl (Ev.pickO (.t rfl) (.c (v := .bool true) rfl) (fun {_} h => by cases h; rfl) ⟨_, rfl⟩ (by intro h1 h; first | (rw [h] <;> rfl) | (rw [h1, h] <;> rfl) | (rw [h, h1] <;> rfl) | simp_all)) ?_
  refine tk 8 rfl (Ev.move (.t rfl)) ?_
  refine tkg 9 rfl rfl rfl (Ev.to (v' := .pointer (some ⟨t.b, 0, none⟩)) (Ev.move (.t rfl)) (rfl)) ?_
  refine tkg 10 rfl rfl rfl (Ev.nilCheck (.g rfl id)) ?_
  refine tkg 11 rfl rfl rfl (Ev.fieldAddr (o := 1) (.g rfl id) (by kernel_rfl)) ?_
  refine tkg 12 rfl rfl rfl (Ev.load ty3 (.g rfl id) (ptsL (fun w I => ((ht).1).keep I.keeps) STrieTrie.l_n)) ?_
  refine tkg 13 rfl rfl rfl (Ev.to (v' := .pointer (some ⟨u.b, 0, none⟩)) (Ev.ldv ty24 (.t rfl) (Lens.id _)) (rfl)) ?_
  refine tkg 14 rfl rfl rfl (Ev.nilCheck (.g rfl id)) ?_
  refine tkg 15 rfl rfl rfl (Ev.fieldAddr (o := 1) (.g rfl id) (by kernel_rfl)) ?_
  refine tkg 16 rfl rfl rfl (Ev.load ty3 (.g rfl id) (ptsL (fun w I => ((hu).1).keep I.keeps) STrieTrie.l_n)) ?_
  refine tkg 17 rfl rfl rfl (Ev.neq_i (.g rfl id) (.g rfl id)) ?_
  refine tk 18 rfl (Ev.pickO (.t rfl) (.c (v := .bool true) rfl) (fun {_} h => by cases h; rfl) ⟨_, rfl⟩ (by intro h1 h; first | (rw [h] <;> rfl) | (rw [h1, h] <;> rfl) | (rw [h, h1] <;> rfl) | simp_all)) ?_
  refine ovr (pN ?_)
  first | refine condD rfl (fun h0 => ?_) (fun h0 => ?_) | refine cond rfl (fun h0 => ?_) (fun h0 => ?_)
  · refine seq (region (cons (stv ty4 (Lens.id _) (.t rfl) (.c (v := .bool false) rfl) ?_)))
    refine nil (pN (ret (pR (doneM (by repeat first | exact Rem.head | apply Rem.tail) rfl rfl (.cell rfl (fun w I => run_loadVar_pts ty4 (ptsVar (by repeat first | exact mH | apply mT | apply mA) (Lens.id _) w I)) .nil) (retE ?_)))))
    have hne : t.n ≠ u.n := show t.val.n ≠ u.val.n from by simpa using h0
    unfold sameV; rw [decide_eq_false hne]; rfl
  · have hnn : t.n = u.n := show t.val.n = u.val.n from by simpa using h0
    refine skip (pN (seq (seq (region (cons (opv (Ev.move (.t rfl)) (cons (calln (X := Nat × Nat) (fun _ => True) (fun x => (bnd 56 [] [.pointer (some ⟨x.1, 0, none⟩), .pointer (some ⟨x.2, 0, none⟩)]).v) (fun x => [Var x.2 (ovE nilFn) (clo 32 []) 80, Var x.1 (ovE nilPtr) t.ptr 24]) en8 (.cons (.t rfl) .nil) (fun w I => all_ok t w) (fun x1 _ => ?_)))))))))
    refine nil (pN (block (rangeF (ζ := Nat) (m := []) (ps := [30, 31]) encE (fun s : Bool => Var b2 bE s 4) false t.ents (sameJ u) (sameX u) (fun x z => [dz, (3, true, .pointer (some ⟨b1, 0, none⟩)), (4, true, .pointer (some ⟨b2, 0, none⟩)), (5, true, .pointer (some ⟨z, 0, none⟩)), (6, true, I x.2)]) (fun x z => [Var z ePrefix x.1 36]) (fun _ => True) trivial (fun _ _ _ _ _ => trivial) (by repeat first | exact Rem.head | apply Rem.tail) (by repeat first | exact Rem.head | apply Rem.tail) rfl (.t rfl) ⟨56, [], [.pointer (some ⟨x1.1, 0, none⟩), .pointer (some ⟨x1.2, 0, none⟩)], rfl⟩ (fun _ => rfl) rfl (fun w I hb => all_iter t ho x1.1 x1.2 w _ (fun w1 k => ⟨ht.keep (hb w1 k).keeps, ptsVar (E' := ovE nilPtr) (by repeat first | exact mH | apply mT | apply mA) (Lens.id _) w1 (hb w1 k), ptsVar (E' := ovE nilFn) (by repeat first | exact mH | apply mT | apply mA) (Lens.id _) w1 (hb w1 k)⟩)) (fun l x w => ?_) (fun l x s zv n0 w hx hn0 hinv hft hb => ?_) (fun s D hr => ?_) (fun c s D hr => ?_))))
    · refine seqI (regionI (consT (alloc z36 (fun b3 => ?_))))
      refine consT (stv ty36 (Lens.id _) (.t rfl) (.t rfl) ?_)
      refine nilI (pN (regionI (consT (opv (Ev.assign (.t rfl)) (nilI (gd b3 (by repeat first | exact Sub.nil | refine Sub.cons rfl ?_) (by repeat first | exact sR | exact sN | apply sC | apply sS | apply sA)))))))
    · refine blockI (seqI (regionI (consT (opv (Ev.to (v' := u.ptr.v) (Ev.load ty24 (.t rfl) (fun w I => ptsVar (by repeat first | exact mH | apply mT | apply mA) (Lens.id _) w (hb w I.keeps))) (rfl)) ?_))))
      refine consT (opv (Ev.ldv ty36 (.t rfl) (Lens.id _)) ?_)
      refine consT (callv en13 (.cons (.t rfl) (.cons (.t rfl) .nil)) (fun w I => get_ok u x.1 w (hu.keep (hb w I.keeps).keeps) hou) ?_)
      refine consT (opv (Ev.move (.t rfl)) (consT (opv (Ev.extract (.t rfl) rfl) (consT (opv (Ev.extract (.t rfl) rfl) (consT (opv (Ev.assign (.t rfl)) (consT (opv (Ev.assign (.t rfl)) (nilI (pN (seqI (regionI (consT (opv (Ev.move (.t rfl)) (consT (opv (Ev.not (.t rfl)) ?_)))))))))))))))))
      refine consT (opv (Ev.move (.t rfl)) (consT (opg rfl rfl (Ev.move (.t rfl)) ?_)))
      refine consT (opg rfl rfl (Ev.move (.t rfl)) ?_)
      refine consT (opg rfl rfl (Ev.neq_i (.g rfl id) (.g rfl id)) ?_)
      refine consT (opv (Ev.pickO (.t rfl) (.c (v := .bool true) rfl) (fun {_} h => by cases h; rfl) ⟨_, rfl⟩ (by intro h1 h; first | (rw [h] <;> rfl) | (rw [h1, h] <;> rfl) | (rw [h, h1] <;> rfl) | simp_all)) ?_)
      refine nilI (pN ?_)
      first | refine iteDI rfl (fun h1 => ?_) (fun h1 => ?_) | refine iteI rfl (fun h1 => ?_) (fun h1 => ?_)
      · refine seqI (regionI (consT (stv ty4 (Lens.id _) (.t rfl) (.c (v := .bool false) rfl) ?_)))
        refine nilI (pN (retI (bR ?_)))
        have hk : sameK u x = false := by
          unfold sameK
          rw [Bool.and_eq_false_iff]
          simpa using h1
        exact rdR hn0 false ⟨rfl, hk, rfl⟩ mH
      · refine skipI (bN ?_)
        have hk : sameK u x = true := by
          unfold sameK
          simpa using h1
        exact rdN hn0 s ⟨hk, rfl⟩ mH
    · obtain ⟨rfl, hall⟩ := sameN hr
      refine bN (pN (seq (region (cons (stv ty4 (Lens.id _) (.t rfl) (.c (v := .bool true) rfl) ?_)))))
      refine nil (pN (ret (doneM (by repeat first | exact Rem.head | apply Rem.tail) rfl rfl (.cell rfl (fun w I => run_loadVar_pts ty4 (ptsVar (by repeat first | exact mH | apply mT | apply mA) (Lens.id _) w I)) .nil) (retE ?_))))
      unfold sameV; rw [decide_eq_true hnn, hall]; rfl
    · obtain ⟨rfl, rfl, hall⟩ := sameE hr
      refine ret (bR (pR (doneM (by repeat first | exact Rem.head | apply Rem.tail) rfl rfl (.cell rfl (fun w I => run_loadVar_pts ty4 (ptsVar (by repeat first | exact mH | apply mT | apply mA) (Lens.id _) w I)) .nil) (retE ?_))))
      unfold sameV; rw [decide_eq_true hnn, hall]; rfl
end Go.Proofs.Ytjjlofjpdklbgaa
