/- trie -/
import Derived.Test.YtjjlofjpdklbgaaT9
set_option linter.unusedVariables false
set_option linter.unusedSimpArgs false
namespace Go.Proofs.Ytjjlofjpdklbgaa
open Go Go.Gx

theorem findN : ∀ {xs : List PT} {s t : PT}, RunsN (fun x s s' => s' = if x.key.2.2 = true then x else s) xs s t → t = ((xs.filter (fun x => x.key.2.2)).getLast?).getD s
  | [], s, t, h => h
  | x :: xs, s, t, ⟨q, h1, h⟩ => by
    have h2 := findN h
    rw [h2, List.filter_cons]
    by_cases hx : x.key.2.2 = true
    · rw [if_pos hx, List.getLast?_cons, h1, if_pos hx]
      rfl
    · rw [if_neg hx, h1, if_neg hx]
/-- The longest one that has an address. -/
def Tt.find (t : Tt) (a : SAddr) : Option (SPrefix × Int) := (PT.kid a.v6 t.l t.r).tr.best coversP ltP bitP (full a)
def findV (t : Tt) (a : SAddr) : SPrefix × Int × Bool := if checkA a = 0 then (match t.find a with | some x => (x.1, x.2, true) | none => (ePrefix.zero, 0, false)) else (ePrefix.zero, 0, false)
theorem find_way (t : Tt) (a : SAddr) : t.find a = (((PT.way (full a) (PT.kid a.v6 t.l t.r)).filter (fun x => x.key.2.2)).getLast?).map (fun x => (x.key.1, x.key.2.1)) := by
  unfold Tt.find Tr.best
  rw [← PT.way_map, List.filter_map, List.getLast?_map, Option.map_map]
  rfl
theorem ofE_wd (a : SAddr) : ofE a (wd a) = checkA a := by
  have := wd_le a
  unfold ofE
  split
  · rfl
  · rename_i h
    rw [if_neg (by omega)]
    exact (Decidable.not_not.1 h).symm
theorem ofV_wd {a : SAddr} (h : checkA a = 0) : ofV a (wd a) = full a := by
  have h2 : maskV (wd a) a.b = a.b := by
    unfold checkA at h
    split at h
    · assumption
    · cases h
  unfold ofV
  rw [ofE_wd, if_pos h, h2]
  rfl
theorem find_none {t : Tt} {a : SAddr} {z s : PT} (hz : z = .nil) (h : s = (((PT.way (full a) (PT.kid a.v6 t.l t.r)).filter (fun x => x.key.2.2)).getLast?).getD z) : (s = .nil ∧ t.find a = none) ∨ (s ∈ PT.way (full a) (PT.kid a.v6 t.l t.r) ∧ t.find a = some (s.key.1, s.key.2.1)) := by
  rw [find_way]
  cases hl : ((PT.way (full a) (PT.kid a.v6 t.l t.r)).filter (fun x => x.key.2.2)).getLast? with
  | none => rw [hl] at h; exact .inl ⟨h.trans hz, rfl⟩
  | some x =>
    rw [hl] at h
    have h : s = x := h
    subst h
    refine .inr ⟨?_, rfl⟩
    obtain ⟨A, hA⟩ := List.getLast?_eq_some_iff.1 hl
    have : s ∈ (PT.way (full a) (PT.kid a.v6 t.l t.r)).filter (fun x => x.key.2.2) := by rw [hA]; simp
    exact (List.mem_filter.1 this).1

theorem z57 : (Try.prog.info? 57).bind (·.zero) = some ((ovE nilPtr).val (ovE nilPtr).zero) := by kernel_rfl

theorem find_ok (t : Tt) (a : SAddr) (w : World) (ht : t.At w) (ho : t.OK) : Calls Try.prog 11 #[t.ptr.v, eAddr.val a] w (RetV w (.tuple #[ePrefix.val (findV t a).1, I (findV t a).2.1, .bool (findV t a).2.2])) := by
  refine enterM0 48 Try.func11 rfl rfl (Nat.le_of_ble_eq_true rfl) ?_
  refine seq (region (cons (box (E := eAddr) (.t rfl) (fun b1 => ?_))))
  refine cons (alloc z36 (fun b2 => ?_))
  refine cons (opv (Ev.assign (.c (v := I 0) rfl)) ?_)
  refine cons (opv (Ev.assign (.c (v := .bool false) rfl)) ?_)
  refine nil (pN (seq (region (cons (opv (Ev.assign (.c (v := I 32) rfl)) ?_)))))
  refine nil (pN (cut (X := Int) (fun x : Int => (x = wd a)) (fun x : Int => [dz, (0, true, .pointer (some ⟨t.b, 0, none⟩)), (3, true, .pointer (some ⟨b1, 0, none⟩)), (4, true, .pointer (some ⟨b2, 0, none⟩)), (5, true, I 0), (6, true, .bool false), (7, true, I x)]) (fun x : Int => [Var b2 ePrefix ePrefix.zero 36, Var b1 eAddr a 31, Dm []]) ?_ (fun x hx => ?_)))
  · refine seq (region (cons (opv (Ev.fieldAddr (o := 0) (.t rfl) (by kernel_rfl)) ?_)))
    refine cons (opv (Ev.ldx a.v6 ty4 (.t rfl) SAddr.l_v6) ?_)
    refine nil (pN ?_)
    first | refine condD rfl (fun h0 => ?_) (fun h0 => ?_) | refine cond rfl (fun h0 => ?_) (fun h0 => ?_)
    · try simp only [nb] at h0
      refine region (cons (opv (Ev.assign (.c (v := I 128) rfl)) ?_))
      refine nil (pN (mt (X := Int) (_) ?_))
      · try dsimp only
        unfold wd; rw [show a.v6 = _ from h0]; rfl
    · try simp only [nb] at h0
      refine skip (pN (mt (X := Int) (_) ?_))
      · try dsimp only
        unfold wd; rw [show a.v6 = _ from h0]; rfl
  obtain ⟨n, rfl⟩ : ∃ y, y = x := ⟨x, rfl⟩
  have hn : n = wd a := hx
  clear hx
  show Sat _ _ [dz, (0, true, .pointer (some ⟨t.b, 0, none⟩)), (3, true, .pointer (some ⟨b1, 0, none⟩)), (4, true, .pointer (some ⟨b2, 0, none⟩)), (5, true, I 0), (6, true, .bool false), (7, true, I n)] [Var b2 ePrefix ePrefix.zero 36, Var b1 eAddr a 31, Dm []]
  refine seq ?_
  obtain ⟨z, hz⟩ : ∃ z, ofV a n = z := ⟨_, rfl⟩
  obtain ⟨e0, he⟩ : ∃ z, ofE a n = z := ⟨_, rfl⟩
  refine region (cons (opv (Ev.ldx a ty31 (.t rfl) (Lens.id _)) ?_))
  refine cons (opv (Ev.move (.t rfl)) (cons (callv en38 (.cons (.t rfl) (.cons (.t rfl) .nil)) (fun w I => of_g _ _ w z e0 hz he) ?_)))
  refine cons (opv (Ev.move (.t rfl)) (cons (opv (Ev.extract (.t rfl) rfl) (cons (opv (Ev.extract (.t rfl) rfl) (cons (alloc z36 (fun b3 => ?_))))))))
  refine cons (stv ty36 (Lens.id _) (.t rfl) (.t rfl) ?_)
  refine cons (opv (Ev.assign (.t rfl)) (nil (pN (seq (seq (region (cons (opv (Ev.move (.t rfl)) (cons (callv en33 (.cons (.t rfl) .nil) (fun w I => there_ok t w (ht.1.keep I.keeps)) ?_))))))))))
  refine cons (opv (Ev.not (.t rfl)) ?_)
  refine cons (opv (Ev.move (.t rfl)) (cons (opg rfl rfl (Ev.move (.t rfl)) ?_)))
  refine cons (opg rfl rfl (Ev.neq_i (.g rfl id) (.c (v := I 0) rfl)) ?_)
  refine cons (opv (Ev.pickO (.t rfl) (.c (v := .bool true) rfl) (fun {_} h => by cases h; rfl) ⟨_, rfl⟩ (by intro h1 h; first | (rw [h] <;> rfl) | (rw [h1, h] <;> rfl) | (rw [h, h1] <;> rfl) | simp_all)) ?_)
  refine nil (pN ?_)
  first | refine condD rfl (fun h1 => ?_) (fun h1 => ?_) | refine cond rfl (fun h1 => ?_) (fun h1 => ?_)
  · refine seq (region (cons (opv (Ev.buildS (fs := _) (places := [(0, 17), (17, 1)]) z36 rfl Try.underlying36 (by kernel_rfl) .nil Fills.nil) ?_)))
    refine cons (stv ty36 (Lens.id _) (.t rfl) (.t rfl) ?_)
    refine cons (opv (Ev.assign (.c (v := I 0) rfl)) ?_)
    refine cons (opv (Ev.assign (.c (v := .bool false) rfl)) ?_)
    refine nil (pN (ret (pR (doneM (by repeat first | exact Rem.head | apply Rem.tail) rfl rfl (.cell rfl (fun w I => run_loadVar_pts ty36 (ptsVar (by repeat first | exact mH | apply mT | apply mA) (Lens.id _) w I)) (.tmp rfl (.tmp rfl .nil))) (retE ?_)))))
    have hc : checkA a ≠ 0 := by
      have h9 : (!t.made) = true ∨ e0 ≠ 0 := by simpa using h1
      rw [ho.made] at h9
      rcases h9 with h9 | h9
      · cases h9
      · rw [← he, hn, ofE_wd] at h9; exact h9
    unfold findV; rw [if_neg hc]; rfl
  · have hca : checkA a = 0 := by
      have h9 : (!t.made) = false ∧ e0 = 0 := by simpa using h1
      rw [← ofE_wd, ← hn, he]; exact h9.2
    have hzf : z = full a := by rw [← hz, hn]; exact ofV_wd hca
    have hzc : checkP z = 0 := by rw [hzf]; exact (full_ok hca).1
    refine skip (pN (seq (region (cons (alloc z57 (fun b4 => ?_))))))
    refine nil (pN (seq (seq (region (cons (opv (Ev.move (.t rfl)) (cons (opv (Ev.ldv ty36 (.t rfl) (Lens.id _)) ?_))))))))
    refine cons (calln (X := Nat × Nat) (fun _ => True) (fun x => (bnd 59 [] [.pointer (some ⟨x.1, 0, none⟩), .pointer (some ⟨x.2, 0, none⟩)]).v) (fun x => [Var x.2 ePrefix z 36, Var x.1 (ovE nilPtr) t.ptr 24]) en39 (.cons (.t rfl) (.cons (.t rfl) .nil)) (fun w I => down_ok t z w) (fun x1 _ => ?_))
    refine nil (pN (block (rangeF (ζ := Unit) (m := []) (ps := [31]) encN (fun s : PT => Var b4 (ovE nilPtr) s.ptr 57) PT.nil (PT.way z (PT.kid z.addr.v6 t.l t.r)) (fun x s s' => s' = if x.key.2.2 = true then x else s) (fun _ _ _ _ => False) (fun x z => [dz, (10, true, .pointer (some ⟨b4, 0, none⟩)), (11, true, x.ptr.v)]) (fun x z => ([] : List Res)) (fun _ => True) trivial (fun _ _ _ _ _ => trivial) (by repeat first | exact Rem.head | apply Rem.tail) (by repeat first | exact Rem.head | apply Rem.tail) rfl (.t rfl) ⟨59, [], [.pointer (some ⟨x1.1, 0, none⟩), .pointer (some ⟨x1.2, 0, none⟩)], rfl⟩ (fun _ => rfl) rfl (fun w I hb => down_iter t z hzc x1.1 x1.2 w _ (fun w1 k => ⟨ht.keep (hb w1 k).keeps, ptsVar (E' := ovE nilPtr) (by repeat first | exact mH | apply mT | apply mA) (Lens.id _) w1 (hb w1 k), ptsVar (E' := ePrefix) (by repeat first | exact mH | apply mT | apply mA) (Lens.id _) w1 (hb w1 k)⟩)) (fun l x w => ?_) (fun l x s zv n0 w hx hn0 hinv hft hb => ?_) (fun s D hr => ?_) (fun c s D hr => ?_))))
    · refine regionI (consT (opv (Ev.assign (.t rfl)) (nilI (gd () (by repeat first | exact Sub.nil | refine Sub.cons rfl ?_) (by repeat first | exact sR | exact sN | apply sC | apply sS | apply sA)))))
    · obtain ⟨b, q, u, h, l, r, rfl⟩ := PT.way_node hx
      refine blockI (seqI (regionI (consT (opv (Ev.to (v' := .pointer (some ⟨b, 0, none⟩)) (Ev.move (.t rfl)) (rfl)) ?_))))
      refine consT (opv (Ev.nilCheck (.t rfl)) ?_)
      refine consT (opv (Ev.fieldAddr (o := 19) (.t rfl) (by kernel_rfl)) ?_)
      refine consT (opv (Ev.load ty4 (.t rfl) (ptsL (fun w I => (PT.way_at ((ht.keep (hb w I.keeps).keeps).kid z.addr.v6) hx).1) STrieNode.l_has)) ?_)
      refine nilI (pN ?_)
      first | refine iteDI rfl (fun h2 => ?_) (fun h2 => ?_) | refine iteI rfl (fun h2 => ?_) (fun h2 => ?_)
      · refine regionI (consT (opv (Ev.move (.t rfl)) (consT (stv ty57 (Lens.id _) (.t rfl) (.t rfl) ?_))))
        refine nilI (bN ?_)
        exact rdN hn0 (PT.node b q u h l r) (by rw [if_pos (show (PT.node b q u h l r).key.2.2 = true from h2)]) mH
      · refine skipI (bN ?_)
        exact rdN hn0 s (by rw [if_neg (show ¬ (PT.node b q u h l r).key.2.2 = true from by rw [show (PT.node b q u h l r).key.2.2 = h from rfl, show h = false from h2]; exact Bool.false_ne_true)]) mH
    · have hfd := findN hr
      rw [hzf] at hfd
      have hfn := find_none (t := t) (a := a) rfl hfd
      refine bN (pN (seq (seq (region (cons (opv (Ev.to (v' := .pointer s.adr) (Ev.ldv ty57 (.t rfl) (Lens.id _)) (rfl)) ?_))))))
      refine cons (opv (Ev.eql_p Try.underlying57 (.t rfl) (.c rfl)) ?_)
      refine nil (pN ?_)
      first | refine condD rfl (fun h3 => ?_) (fun h3 => ?_) | refine cond rfl (fun h3 => ?_) (fun h3 => ?_)
      · refine seq (region (cons (opv (Ev.buildS (fs := _) (places := [(0, 17), (17, 1)]) z36 rfl Try.underlying36 (by kernel_rfl) .nil Fills.nil) ?_)))
        refine cons (stv ty36 (Lens.id _) (.t rfl) (.t rfl) ?_)
        refine cons (opv (Ev.assign (.c (v := I 0) rfl)) ?_)
        refine cons (opv (Ev.assign (.c (v := .bool false) rfl)) ?_)
        refine nil (pN (ret (pR (doneM (by repeat first | exact Rem.head | apply Rem.tail) rfl rfl (.cell rfl (fun w I => run_loadVar_pts ty36 (ptsVar (by repeat first | exact mH | apply mT | apply mA) (Lens.id _) w I)) (.tmp rfl (.tmp rfl .nil))) (retE ?_)))))
        have hg : t.find a = none := by
          rcases hfn with g | ⟨g, _⟩
          · exact g.2
          · obtain ⟨b, q, u, h, l, r, rfl⟩ := PT.way_node g
            cases h3
        unfold findV; rw [if_pos hca, hg]; rfl
      · refine skip (pN (seq ?_))
        replace hfn := hfn.resolve_left (fun g => by rw [g.1] at h3; cases h3)
        obtain ⟨b, q, u, h, l, r, rfl⟩ := PT.way_node hfn.1
        have hsx : PT.node b q u h l r ∈ PT.way z (PT.kid z.addr.v6 t.l t.r) := by rw [hzf]; exact hfn.1
        refine drawS 4 rfl (by repeat first | exact Rem.head | apply Rem.tail) (by kernel_rfl) ?_
        refine tk 0 rfl (Ev.to (v' := .pointer (some ⟨b, 0, none⟩)) (Ev.ldv ty57 (.t rfl) (Lens.id _)) (rfl)) ?_
        refine tk 1 rfl (Ev.nilCheck (.t rfl)) ?_
        refine tk 2 rfl (Ev.fieldAddr (o := 0) (.t rfl) (by kernel_rfl)) ?_
        refine tk 3 rfl (Ev.load ty36 (.t rfl) (ptsL (fun w I => (PT.way_at ((ht.keep I.keeps).kid z.addr.v6) hsx).1) STrieNode.l_p)) ?_
        refine tk 4 rfl (Ev.to (v' := .pointer (some ⟨b, 0, none⟩)) (Ev.ldv ty57 (.t rfl) (Lens.id _)) (rfl)) ?_
        refine tk 5 rfl (Ev.nilCheck (.t rfl)) ?_
        refine tk 6 rfl (Ev.fieldAddr (o := 18) (.t rfl) (by kernel_rfl)) ?_
        refine tk 7 rfl (Ev.load ty3 (.t rfl) (ptsL (fun w I => (PT.way_at ((ht.keep I.keeps).kid z.addr.v6) hsx).1) STrieNode.l_v)) ?_
        refine al1 8 rfl ((stv ty36 (Lens.id _) (.t rfl) (.t rfl) ?_))
        refine hdn (tk 9 rfl (Ev.assign (.t rfl)) ?_)
        refine tk 10 rfl (Ev.assign (.c (v := .bool true) rfl)) ?_
        refine ovr (pN (ret (doneM (by repeat first | exact Rem.head | apply Rem.tail) rfl rfl (.cell rfl (fun w I => run_loadVar_pts ty36 (ptsVar (by repeat first | exact mH | apply mT | apply mA) (Lens.id _) w I)) (.tmp rfl (.tmp rfl .nil))) (retE ?_))))
        unfold findV; rw [if_pos hca, hfn.2]; rfl
    · exfalso
      have : ∀ (xs : List PT) (s0 s : PT), RunsX (fun x s s' => s' = if x.key.2.2 = true then x else s) (fun _ _ _ _ => False) c xs s0 s → False := by
        intro xs
        induction xs with
        | nil => intro _ _ h; exact h
        | cons x xs ih => rintro s0 s (h | ⟨q, _, h⟩)
                          · exact h
                          · exact ih _ _ h
      exact this _ _ _ hr
end Go.Proofs.Ytjjlofjpdklbgaa
