/- trie -/
import Derived.Test.YtjjlofjpdklbgaaT37
set_option linter.unusedVariables false
set_option linter.unusedSimpArgs false
namespace Go.Proofs.Ytjjlofjpdklbgaa
open Go Go.Gx

/-! ### A trie and the document's row -/
abbrev fE : SRef18Entry → SPrefix := fun e => e.p
/-- The row of a trie. -/
def rowT (t : Tt) : List SRef18Entry := t.ents.map enE
theorem prE_enE (l : List (SPrefix × Int)) : (l.map enE).map prE = l := by
  rw [List.map_map]
  exact List.map_id' l
theorem mem_row {l : List (SPrefix × Int)} {e : SRef18Entry} : e ∈ l.map enE ↔ prE e ∈ l := by
  rw [List.mem_map]
  exact ⟨fun ⟨x, hx, h⟩ => h ▸ hx, fun h => ⟨prE e, h, rfl⟩⟩
theorem keys_sub (t : Tt) : (t.ents.map (·.1)).Sublist t.shape := by
  rw [shape_eq]
  unfold Tt.ents
  rw [List.map_append]
  exact List.Sublist.append (t.l.tr.ents_sub) (t.r.tr.ents_sub)
theorem row_srt {t : Tt} (ho : t.OK) : Srt fE (rowT t) := by
  have h := (shape_sorted ho).sublist (keys_sub t)
  unfold rowT
  rw [Srt, List.pairwise_map]
  exact List.pairwise_map.1 h
theorem row_of {t : Tt} (ho : t.OK) {l : List SRef18Entry} (hl : Srt fE l) (h : ∀ e, e ∈ l ↔ prE e ∈ t.ents) : l = rowT t :=
  Srt.ext hl (row_srt ho) (fun e => (h e).trans mem_row.symm)
theorem prE_eq {e : SRef18Entry} {p : SPrefix} {v : Int} : prE e = (p, v) ↔ e = ⟨p, v⟩ := by
  cases e
  simp [prE]
theorem row_put {t u : Tt} (ho : t.OK) (hu : u.OK) {p : SPrefix} {v : Int} (h : ∀ y, y ∈ u.ents ↔ (y = (p, v) ∨ (y ∈ t.ents ∧ y.1 ≠ p))) : insK fE (rowT t) ⟨p, v⟩ = rowT u := by
  obtain ⟨h1, h2⟩ := insK_sorted (row_srt ho) (⟨p, v⟩ : SRef18Entry)
  refine row_of hu h1 (fun e => ?_)
  rw [h2, h, prE_eq]
  unfold rowT
  rw [mem_row]
theorem refL_srt : ∀ (n : Nat) (rs : List SRoute), rs.length = n → Srt fE (refL rs) ∧ ∀ e, e ∈ refL rs ↔ routesL rs (prE e)
  | 0, rs, hn => by
    obtain rfl := List.eq_nil_of_length_eq_zero hn
    exact ⟨List.Pairwise.nil, fun e => ⟨fun h => by simp [refL] at h, fun h => h.elim⟩⟩
  | n + 1, rs, hn => by
    obtain ⟨k, r, rfl⟩ : ∃ k r, rs = k ++ [r] := ⟨rs.dropLast, rs.getLast (by intro e; rw [e] at hn; simp at hn), (List.dropLast_concat_getLast _).symm⟩
    obtain ⟨a, b⟩ := refL_srt n k (by simpa using hn)
    rw [refL_snoc]
    obtain ⟨h1, h2⟩ := insK_sorted a (⟨r.to_, r.out⟩ : SRef18Entry)
    refine ⟨h1, fun e => ?_⟩
    rw [h2, routesL_snoc, prE_eq, b]
theorem row_routes {t : Tt} (ho : t.OK) {rs : List SRoute} (h : ∀ y, y ∈ t.ents ↔ routesL rs y) : refL rs = rowT t := by
  obtain ⟨a, b⟩ := refL_srt _ rs rfl
  exact row_of ho a (fun e => by rw [b, h])
theorem at_iff {l : List SRef18Entry} (h : Srt fE l) (p : SPrefix) : isAt fE l p = true ↔ ∃ e ∈ l, e.p = p := by
  obtain ⟨a, b⟩ := place_split fE p l h
  have irr : ∀ p : SPrefix, ¬ cmpP p p = -1 := fun p e => by rw [(cmpP_zero _ _).2 rfl] at e; cases e
  constructor
  · intro hi
    rcases b with ⟨b1, _⟩ | ⟨_, e, r, hd, he, _⟩
    · rw [b1] at hi; cases hi
    · exact ⟨e, List.mem_of_mem_drop (hd ▸ List.mem_cons_self), he⟩
  · rintro ⟨e, he, rfl⟩
    rcases b with ⟨b1, b2⟩ | ⟨b1, _⟩
    · rw [← List.take_append_drop (placeN fE l e.p) l] at he
      rcases List.mem_append.1 he with he | he
      · exact absurd (a e he) (irr _)
      · exact absurd (b2 e he) (irr _)
    · exact b1
theorem row_get {t : Tt} (ho : t.OK) (p : SPrefix) : rgetV (rowT t) p = getV t p := by
  have hs := row_srt ho
  unfold rgetV
  by_cases hi : isAt fE (rowT t) p = true
  · rw [if_pos hi]
    obtain ⟨a, b⟩ := place_split fE p _ hs
    rcases b with ⟨b1, _⟩ | ⟨_, e, r, hd, he, _⟩
    · rw [b1] at hi; cases hi
    · have hlt := place_lt hi
      have hg : (rowT t).getD (placeN fE (rowT t) p) eRef18Entry.zero = e := by
        rw [getD_at hlt]
        have h9 := List.drop_eq_getElem_cons hlt
        rw [hd] at h9
        exact (List.cons.inj h9).1.symm
      have hm : e ∈ rowT t := List.mem_of_mem_drop (hd ▸ List.mem_cons_self)
      have hm2 : (p, e.v) ∈ t.ents := by
        have h9 := mem_row.1 hm
        rwa [show prE e = (p, e.v) from by rw [← he]] at h9
      have h9 := (getV_iff ho p e.v).2 hm2
      rw [hg]
      exact (Prod.ext h9.2 h9.1).symm
  · rw [if_neg hi]
    have hn : (getV t p).2 = false := by
      cases hb : (getV t p).2 with
      | false => rfl
      | true =>
        have h9 := (getV_iff ho p _).1 ⟨hb, rfl⟩
        exact absurd ((at_iff hs p).2 ⟨⟨p, (getV t p).1⟩, mem_row.2 h9, rfl⟩) hi
    unfold getV at hn ⊢
    split at hn
    · rename_i hc
      rw [if_pos hc]
      cases hg : t.get p with
      | none => rfl
      | some v => rw [hg] at hn; cases hn
    · rename_i hc
      rw [if_neg hc]
theorem row_at {t : Tt} (ho : t.OK) (p : SPrefix) : isAt fE (rowT t) p = (getV t p).2 := by
  have h := row_get ho p
  rw [← h]
  unfold rgetV
  by_cases hi : isAt fE (rowT t) p = true
  · rw [if_pos hi, hi]
  · rw [if_neg hi]
    exact Bool.eq_false_iff.2 hi
theorem row_cutE {t : Tt} (ho : t.OK) (p : SPrefix) : rcutE (rowT t) p = cutE t p := by
  have h := row_at ho p
  unfold rcutE cutE
  by_cases hc : checkP p ≠ 0
  · rw [if_pos hc, if_pos hc]
    exact ((checkP_or p).resolve_left hc).symm
  · rw [if_neg hc, if_neg hc, h]
    cases (getV t p).2 <;> rfl
theorem row_cut {t u : Tt} (ho : t.OK) (hu : u.OK) {p : SPrefix} (hi : (getV t p).2 = true) (h : ∀ y, y ∈ u.ents ↔ (y ∈ t.ents ∧ y.1 ≠ p)) : rcutL (rowT t) p = rowT u := by
  have hs := row_srt ho
  rw [← row_at ho p] at hi
  obtain ⟨a, b⟩ := place_split fE p _ hs
  have irr : ∀ p : SPrefix, ¬ cmpP p p = -1 := fun p e => by rw [(cmpP_zero _ _).2 rfl] at e; cases e
  rcases b with ⟨b1, _⟩ | ⟨_, e, r, hd, he, b⟩
  · rw [b1] at hi; cases hi
  · have hd2 : (rowT t).drop (placeN fE (rowT t) p + 1) = r := by
      rw [← List.drop_drop, hd]
      rfl
    have hsp : rowT t = (rowT t).take (placeN fE (rowT t) p) ++ e :: r := by rw [← hd, List.take_append_drop]
    unfold rcutL
    rw [hd2]
    refine row_of hu ?_ (fun z => ?_)
    · have h9 := hs
      rw [hsp] at h9
      exact h9.sublist (List.Sublist.append (List.Sublist.refl _) (List.sublist_cons_self e r))
    · rw [h, ← mem_row, List.mem_append]
      show _ ↔ z ∈ rowT t ∧ z.p ≠ p
      constructor
      · rintro (g | g)
        · exact ⟨List.mem_of_mem_take g, fun q => irr _ (by have := a z g; rwa [show fE z = p from q] at this)⟩
        · exact ⟨by rw [hsp]; simp [g], fun q => irr _ (by have := b z g; rwa [show fE z = p from q] at this)⟩
      · rintro ⟨g, q⟩
        rw [hsp] at g
        rcases List.mem_append.1 g with g | g
        · exact .inl g
        · rcases List.mem_cons.1 g with rfl | g
          · exact absurd he q
          · exact .inr g
theorem row_find {t : Tt} (ho : t.OK) (a : SAddr) : foundV a ((rowT t).map prE) = findV t a := by
  unfold rowT
  rw [prE_enE, find_found ho]
theorem row_ok {t : Tt} (ho : t.OK) : ∀ e ∈ rowT t, checkP e.p = 0 := fun e he => by
  have h := mem_row.1 he
  unfold Tt.ents at h
  rcases List.mem_append.1 h with h | h
  · exact (ho.l.ents_in _ h).1.1
  · exact (ho.r.ents_in _ h).1.1
theorem row_len {t : Tt} (ho : t.OK) : t.n = (rowT t).length := by
  rw [ho.n]
  unfold rowT
  rw [List.length_map]
theorem row_shape {t : Tt} (ho : t.OK) : Srt id t.shape ∧ ∀ y, y ∈ t.shape ↔ (y ∈ kyS (rowT t) ∨ y ∈ adjS (kyS (rowT t))) := by
  refine ⟨shape_sorted ho, fun y => ?_⟩
  have e : kyS (rowT t) = t.ents.map (·.1) := by
    unfold kyS rowT
    rw [List.map_map]
    rfl
  rw [e]
  exact shape_keys ho y
theorem row_inj {t u : Tt} (h : rowT t = rowT u) : t.ents = u.ents := by
  have h1 := congrArg (List.map prE) h
  unfold rowT at h1
  rwa [prE_enE, prE_enE] at h1
theorem row_same {t u : Tt} (ho : t.OK) (hu : u.OK) : sameV t u = decide (rowT t = rowT u) := by
  by_cases h : rowT t = rowT u
  · rw [decide_eq_true h, same_of ho hu (fun y => by rw [row_inj h])]
  · rw [decide_eq_false h]
    cases hs : sameV t u with
    | false => rfl
    | true =>
      exfalso
      unfold sameV at hs
      obtain ⟨h1, h2⟩ := Bool.and_eq_true_iff.1 hs
      have hn := of_decide_eq_true h1
      rw [List.all_eq_true] at h2
      have hsub : ∀ y ∈ t.ents, y ∈ u.ents := fun y hy => by
        have h3 := h2 y hy
        unfold sameK at h3
        obtain ⟨h4, h5⟩ := Bool.and_eq_true_iff.1 h3
        exact (getV_iff hu y.1 y.2).1 ⟨h4, of_decide_eq_true h5⟩
      apply h
      have hsubl : t.ents.Sublist u.ents := by
        have : ∀ (l k : List SRef18Entry), Srt fE l → Srt fE k → (∀ x ∈ l, x ∈ k) → l.Sublist k := by
          intro l k
          induction k generalizing l with
          | nil =>
            intro _ _ hm
            cases l with
            | nil => exact List.Sublist.refl _
            | cons x l => have := hm x List.mem_cons_self; simp at this
          | cons y k ih =>
            intro hl hk hm
            cases l with
            | nil => exact List.nil_sublist _
            | cons x l =>
              rw [Srt, List.pairwise_cons] at hl hk
              have irr : ∀ p : SPrefix, ¬ cmpP p p = -1 := fun p e => by rw [(cmpP_zero _ _).2 rfl] at e; cases e
              rcases List.mem_cons.1 (hm x List.mem_cons_self) with e | e
              · subst e
                refine List.Sublist.cons_cons x (ih l hl.2 hk.2 (fun z hz => ?_))
                rcases List.mem_cons.1 (hm z (List.mem_cons_of_mem _ hz)) with e | e
                · exact absurd (hl.1 z hz) (by rw [e]; exact irr _)
                · exact e
              · refine List.Sublist.cons y (ih (x :: l) (List.pairwise_cons.2 hl) hk.2 (fun z hz => ?_))
                rcases List.mem_cons.1 (hm z hz) with e2 | e2
                · rcases List.mem_cons.1 hz with e3 | e3
                  · rw [e3]; exact e
                  · subst e2
                    have g1 := hl.1 z e3
                    have g2 := hk.1 x e
                    rw [show fE z = z.p from rfl, show fE x = x.p from rfl] at g1 g2
                    rw [cmpP_anti, g2] at g1
                    cases g1
                · exact e2
        have h9 := (this (rowT t) (rowT u) (row_srt ho) (row_srt hu) (fun e he => mem_row.2 (hsub _ (mem_row.1 he)))).map prE
        unfold rowT at h9
        rwa [prE_enE, prE_enE] at h9
      have heq : t.ents = u.ents := hsubl.eq_of_length (by
        have a := ho.n
        have b := hu.n
        omega)
      unfold rowT
      rw [heq]
end Go.Proofs.Ytjjlofjpdklbgaa
/- trie -/
set_option linter.unusedVariables false
set_option linter.unusedSimpArgs false
namespace Go.Proofs.Ytjjlofjpdklbgaa
open Go Go.Gx

theorem r18same_t (u v : Value) (xs ys : List SRef18Entry) (he : xs = ys) (w : World) (hx : IsSl eRef18Entry w u xs) (hy : IsSl eRef18Entry w v ys) : Calls Try.prog 29 #[u, v] w (RetV w (.bool true)) := by
  have h := r18same_ok u v xs ys w hx hy
  rwa [decide_eq_true he] at h
theorem r15same_t (u v : Value) (xs ys : List SPrefix) (he : xs = ys) (w : World) (hx : IsSl ePrefix w u xs) (hy : IsSl ePrefix w v ys) : Calls Try.prog 52 #[u, v] w (RetV w (.bool true)) := by
  have h := r15same_ok u v xs ys w hx hy
  rwa [decide_eq_true he] at h
theorem take_all (l : List SRef18Entry) : l.take ((l.length : Int) + 1).toNat = l := List.take_of_length_le (by omega)
theorem take_half (l : List SRef18Entry) {k : Int} : l.take k.toNat = List.drop 0 (List.take k.toNat l) := rfl

theorem en51 : Gx.Enters Try.prog 51 := Gx.Enters.mk' (by kernel_rfl)

theorem en29 : Gx.Enters Try.prog 29 := Gx.Enters.mk' (by kernel_rfl)

theorem en52 : Gx.Enters Try.prog 52 := Gx.Enters.mk' (by kernel_rfl)

theorem like_ok (t : Tt) (tr : SRef18Trie) (w : World) (ht : t.At w) (ho : t.OK) (hx : IsSl eRef18Entry w tr.l.v (rowT t)) (hn : (rowT t).length ≤ 1000) (hsn : t.shape.length ≤ 100000) : Calls Try.prog 28 #[t.ptr.v, eRef18Trie.val tr] w (RetV w (.bool true)) := by
  refine enter0 96 Try.func28 rfl rfl (Nat.le_of_ble_eq_true rfl) ?_
  refine seq (region (cons (box (E := eRef18Trie) (.t rfl) (fun b1 => ?_))))
  refine cons (opv (Ev.assign (.c (v := .bool false) rfl)) ?_)
  refine nil (pN (seq (region (cons (opv (Ev.move (.t rfl)) (cons (calln (X := Nat × Nat) (fun _ => True) (fun x => (bnd 56 [] [.pointer (some ⟨x.1, 0, none⟩), .pointer (some ⟨x.2, 0, none⟩)]).v) (fun x => [Var x.2 (ovE nilFn) (clo 32 []) 80, Var x.1 (ovE nilPtr) t.ptr 24]) en8 (.cons (.t rfl) .nil) (fun w I => all_ok t w) (fun x1 _ => ?_))))))))
  refine cons (opv (Ev.assign (.t rfl)) (nil (pN (seq (region (cons (opv (Ev.move (.t rfl)) (cons (callo en19 (.cons (.t rfl) .nil) (fun w I => shape_to t t.shape rfl w (ht.keep I.keeps) ho (by omega)) (fun v2 => ?_))))))))))
  refine cons (opv (Ev.move (.t rfl)) (cons (callo en19 (.cons (.t rfl) .nil) (fun w I => shape_to t t.shape rfl w (ht.keep I.keeps) ho (by omega)) (fun v3 => ?_))))
  refine cons (opv (Ev.assign (.t rfl)) (cons (opv (Ev.assign (.t rfl)) (nil (pN (seq (region (cons (opv (Ev.ldv ty64 (.t rfl) (Lens.id _)) ?_)))))))))
  refine cons (callo en51 (.cons (.t rfl) .nil) (fun w I => rshape_ok tr (rowT t) w (hx.keep0 I.keeps) (row_ok ho) (by omega) t.shape (row_shape ho).1 (row_shape ho).2) (fun v4 => ?_))
  refine cons (opv (Ev.assign (.t rfl)) (nil (pN (seq (seq (draw' (by kernel_rfl) ?_))))))
  refine tk 0 rfl (Ev.move (.t rfl)) ?_
  refine tk 2 rfl (Ev.fieldAddr (o := 0) (.t rfl) (by kernel_rfl)) ?_
  refine tk 3 rfl (Ev.ldv ty53 (.t rfl) SRef18Trie.l_l) ?_
  refine tk 4 rfl (Ev.len Try.underlying53 (.t rfl) (fun w I => hx.keep0 I.keeps)) ?_
  refine al1 1 rfl ((callv en18 (.cons (.t rfl) .nil) (fun w I => len_to t w ((rowT t).length : Int) (row_len ho) (ht.keep I.keeps) ho) ?_))
  refine hdn (tk 5 rfl (Ev.to (v' := .bool false) (Ev.neq_i (.t rfl) (.t rfl)) (congrArg Value.bool (by simp))) ?_)
  refine tk 6 rfl (Ev.move (.t rfl)) ?_
  refine tkg 7 rfl rfl rfl (Ev.move (.t rfl)) ?_
  refine tkg 8 rfl rfl rfl (Ev.fieldAddr (o := 0) (.t rfl) (by kernel_rfl)) ?_
  refine tkg 9 rfl rfl rfl (Ev.ldv ty53 (.g rfl id) SRef18Trie.l_l) ?_
  refine tkg 10 rfl rfl rfl (Ev.len Try.underlying53 (.g rfl id) (fun w I => hx.keep0 I.keeps)) ?_
  refine tkg 11 rfl rfl rfl (Ev.add_i (.g rfl id) (.c (v := I 1) rfl) (fun _ => by first | omega | (rename_i hg; simp at hg; omega))) ?_
  refine tkg 13 rfl rfl rfl (Ev.fieldAddr (o := 0) (.t rfl) (by kernel_rfl)) ?_
  refine tkg 14 rfl rfl rfl (Ev.ldv ty53 (.g rfl id) SRef18Trie.l_l) ?_
  refine al1 12 rfl ((opgT rfl rfl rfl ?_))
  refine (callo en20 (.cons (.g rfl id) (.cons (.g rfl id) .nil)) (fun w I => told_ok 56 [] [.pointer (some ⟨x1.1, 0, none⟩), .pointer (some ⟨x1.2, 0, none⟩)] t.ents (((rowT t).length : Int) + 1) w (by omega) (fun w1 M k => all_iter t ho x1.1 x1.2 w1 M (fun w2 k2 => ⟨(ht.keep I.keeps).keep (k w2 k2), (ptsVar (E' := ovE nilPtr) (by repeat first | exact mH | apply mT | apply mA) (Lens.id _) w I).keep (k w2 k2), (ptsVar (E' := ovE nilFn) (by repeat first | exact mH | apply mT | apply mA) (Lens.id _) w I).keep (k w2 k2)⟩))) (fun v5 => ?_))
  refine hdn (al1 15 rfl ((callg rfl rfl en29 (.cons (.t rfl) (.cons (.g rfl id) .nil)) (fun hg w I => r18same_t _ _ _ (rowT t) (take_all _) w (by first | exact isSl_own (by repeat first | exact mH | apply mT | apply mA) w I | exact IsSl.keep0 (by assumption) I.keeps) (hx.keep0 I.keeps)) ?_)))
  refine hdn (tkg 16 rfl rfl rfl (Ev.not (.g rfl id)) ?_)
  refine tk 17 rfl (Ev.pickO (.t rfl) (.c (v := .bool true) rfl) (fun {_} h => by cases h; rfl) ⟨_, rfl⟩ (by intro h1 h; first | (rw [h] <;> rfl) | (rw [h1, h] <;> rfl) | (rw [h, h1] <;> rfl) | simp_all)) ?_
  refine tk 18 rfl (Ev.move (.t rfl)) ?_
  refine tkg 19 rfl rfl rfl (Ev.move (.t rfl)) ?_
  refine tkg 20 rfl rfl rfl (Ev.fieldAddr (o := 0) (.t rfl) (by kernel_rfl)) ?_
  refine tkg 21 rfl rfl rfl (Ev.ldv ty53 (.g rfl id) SRef18Trie.l_l) ?_
  refine tkg 22 rfl rfl rfl (Ev.len Try.underlying53 (.g rfl id) (fun w I => hx.keep0 I.keeps)) ?_
  refine tkg 23 rfl rfl rfl (Ev.quo_n (.g rfl id) (.c (v := I 2) rfl) (fun _ => by first | omega | (rename_i hg; simp at hg; omega)) (fun _ => by first | omega | (rename_i hg; simp at hg; omega)) (fun _ => by first | omega | (rename_i hg; simp at hg; omega))) ?_
  refine tkg 25 rfl rfl rfl (Ev.fieldAddr (o := 0) (.t rfl) (by kernel_rfl)) ?_
  refine tkg 26 rfl rfl rfl (Ev.ldv ty53 (.g rfl id) SRef18Trie.l_l) ?_
  refine tkg 27 rfl rfl rfl (Ev.fieldAddr (o := 0) (.t rfl) (by kernel_rfl)) ?_
  refine tkg 28 rfl rfl rfl (Ev.ldv ty53 (.g rfl id) SRef18Trie.l_l) ?_
  refine tkg 29 rfl rfl rfl (Ev.len Try.underlying53 (.g rfl id) (fun w I => hx.keep0 I.keeps)) ?_
  refine tkg 30 rfl rfl rfl (Ev.quo_n (.g rfl id) (.c (v := I 2) rfl) (fun _ => by first | omega | (rename_i hg; simp at hg; omega)) (fun _ => by first | omega | (rename_i hg; simp at hg; omega)) (fun _ => by first | omega | (rename_i hg; simp at hg; omega))) ?_
  refine tkg 31 rfl rfl rfl (Ev.sliceH Try.underlying53 ty97 (.g rfl id) (.g rfl id) (fun w I => hx.keep0 I.keeps) (fun _ => by omega)) ?_
  refine al1 24 rfl ((opgT rfl rfl rfl ?_))
  refine (callo en20 (.cons (.g rfl id) (.cons (.g rfl id) .nil)) (fun w I => told_ok 56 [] [.pointer (some ⟨x1.1, 0, none⟩), .pointer (some ⟨x1.2, 0, none⟩)] t.ents (((rowT t).length : Int) / 2) w (by omega) (fun w1 M k => all_iter t ho x1.1 x1.2 w1 M (fun w2 k2 => ⟨(ht.keep I.keeps).keep (k w2 k2), (ptsVar (E' := ovE nilPtr) (by repeat first | exact mH | apply mT | apply mA) (Lens.id _) w I).keep (k w2 k2), (ptsVar (E' := ovE nilFn) (by repeat first | exact mH | apply mT | apply mA) (Lens.id _) w I).keep (k w2 k2)⟩))) (fun v6 => ?_))
  refine hdn (al1 32 rfl ((callg rfl rfl en29 (.cons (.t rfl) (.cons (.g rfl id) .nil)) (fun hg w I => r18same_t _ _ _ _ (take_half _) w (by first | exact isSl_own (by repeat first | exact mH | apply mT | apply mA) w I | exact IsSl.keep0 (by assumption) I.keeps) (IsSl.sub (w := w) (hx.keep0 I.keeps) (by omega) (by omega))) ?_)))
  refine hdn (tkg 33 rfl rfl rfl (Ev.not (.g rfl id)) ?_)
  refine tk 34 rfl (Ev.pickO (.t rfl) (.c (v := .bool true) rfl) (fun {_} h => by cases h; rfl) ⟨_, rfl⟩ (by intro h1 h; first | (rw [h] <;> rfl) | (rw [h1, h] <;> rfl) | (rw [h, h1] <;> rfl) | simp_all)) ?_
  refine tk 35 rfl (Ev.move (.t rfl)) ?_
  refine tkg 36 rfl rfl rfl (Ev.move (.t rfl)) ?_
  refine tkg 37 rfl rfl rfl (Ev.fieldAddr (o := 0) (.t rfl) (by kernel_rfl)) ?_
  refine tkg 38 rfl rfl rfl (Ev.ldv ty53 (.g rfl id) SRef18Trie.l_l) ?_
  refine tkg 39 rfl rfl rfl (Ev.len Try.underlying53 (.g rfl id) (fun w I => hx.keep0 I.keeps)) ?_
  refine tkg 40 rfl rfl rfl (Ev.add_i (.g rfl id) (.c (v := I 1) rfl) (fun _ => by first | omega | (rename_i hg; simp at hg; omega))) ?_
  refine tkg 42 rfl rfl rfl (Ev.fieldAddr (o := 0) (.t rfl) (by kernel_rfl)) ?_
  refine tkg 43 rfl rfl rfl (Ev.ldv ty53 (.g rfl id) SRef18Trie.l_l) ?_
  refine al1 41 rfl ((opgT rfl rfl rfl ?_))
  refine (callo en20 (.cons (.g rfl id) (.cons (.g rfl id) .nil)) (fun w I => told_ok 56 [] [.pointer (some ⟨x1.1, 0, none⟩), .pointer (some ⟨x1.2, 0, none⟩)] t.ents (((rowT t).length : Int) + 1) w (by omega) (fun w1 M k => all_iter t ho x1.1 x1.2 w1 M (fun w2 k2 => ⟨(ht.keep I.keeps).keep (k w2 k2), (ptsVar (E' := ovE nilPtr) (by repeat first | exact mH | apply mT | apply mA) (Lens.id _) w I).keep (k w2 k2), (ptsVar (E' := ovE nilFn) (by repeat first | exact mH | apply mT | apply mA) (Lens.id _) w I).keep (k w2 k2)⟩))) (fun v7 => ?_))
  refine hdn (al1 44 rfl ((callg rfl rfl en29 (.cons (.t rfl) (.cons (.g rfl id) .nil)) (fun hg w I => r18same_t _ _ _ (rowT t) (take_all _) w (by first | exact isSl_own (by repeat first | exact mH | apply mT | apply mA) w I | exact IsSl.keep0 (by assumption) I.keeps) (hx.keep0 I.keeps)) ?_)))
  refine hdn (tkg 45 rfl rfl rfl (Ev.not (.g rfl id)) ?_)
  refine tk 46 rfl (Ev.pickO (.t rfl) (.c (v := .bool true) rfl) (fun {_} h => by cases h; rfl) ⟨_, rfl⟩ (by intro h1 h; first | (rw [h] <;> rfl) | (rw [h1, h] <;> rfl) | (rw [h, h1] <;> rfl) | simp_all)) ?_
  refine tk 47 rfl (Ev.move (.t rfl)) ?_
  refine tkg 48 rfl rfl rfl (Ev.move (.t rfl)) ?_
  refine tkg 49 rfl rfl rfl (Ev.move (.t rfl)) ?_
  refine al1 50 rfl ((callg rfl rfl en52 (.cons (.g rfl id) (.cons (.g rfl id) .nil)) (fun hg w I => r15same_t _ _ t.shape t.shape rfl w (by first | exact isSl_own (by repeat first | exact mH | apply mT | apply mA) w I | exact IsSl.keep0 (by assumption) I.keeps) (by first | exact isSl_own (by repeat first | exact mH | apply mT | apply mA) w I | exact IsSl.keep0 (by assumption) I.keeps)) ?_))
  refine hdn (tkg 51 rfl rfl rfl (Ev.not (.g rfl id)) ?_)
  refine tk 52 rfl (Ev.pickO (.t rfl) (.c (v := .bool true) rfl) (fun {_} h => by cases h; rfl) ⟨_, rfl⟩ (by intro h1 h; first | (rw [h] <;> rfl) | (rw [h1, h] <;> rfl) | (rw [h, h1] <;> rfl) | simp_all)) ?_
  refine tk 53 rfl (Ev.move (.t rfl)) ?_
  refine tkg 54 rfl rfl rfl (Ev.move (.t rfl)) ?_
  refine tkg 55 rfl rfl rfl (Ev.move (.t rfl)) ?_
  refine al1 56 rfl ((callg rfl rfl en52 (.cons (.g rfl id) (.cons (.g rfl id) .nil)) (fun hg w I => r15same_t _ _ t.shape t.shape rfl w (by first | exact isSl_own (by repeat first | exact mH | apply mT | apply mA) w I | exact IsSl.keep0 (by assumption) I.keeps) (by first | exact isSl_own (by repeat first | exact mH | apply mT | apply mA) w I | exact IsSl.keep0 (by assumption) I.keeps)) ?_))
  refine hdn (tkg 57 rfl rfl rfl (Ev.not (.g rfl id)) ?_)
  refine tk 58 rfl (Ev.pickO (.t rfl) (.c (v := .bool true) rfl) (fun {_} h => by cases h; rfl) ⟨_, rfl⟩ (by intro h1 h; first | (rw [h] <;> rfl) | (rw [h1, h] <;> rfl) | (rw [h, h1] <;> rfl) | simp_all)) ?_
  refine ovr (pN (condF rfl (rfl) ?_))
  refine skip (pN (seq (seq (region (cons (opv (Ev.assign (.c (v := I 0) rfl)) ?_))))))
  refine nil (pN (block (arr (L' := [OwnS v2.v ePrefix t.shape 36, OwnS v3.v ePrefix t.shape 36, OwnS v4.v ePrefix t.shape 36]) (by repeat first | exact SubP.nil | refine SubP.cons (by repeat first | exact Rem.head | apply Rem.tail) ?_) ?_)))
  refine lp (X := Int × (List SPrefix)) (fun x : Int × (List SPrefix) => (0 ≤ x.1 ∧ x.1 ≤ t.shape.length) ∧ (x.2.length = t.shape.length)) (fun x : Int × (List SPrefix) => [dz, (0, true, t.ptr.v), (6, true, v2.v), (7, true, v3.v), (8, true, v4.v), (9, true, I x.1)]) (fun x : Int × (List SPrefix) => [OwnS v2.v ePrefix x.2 36, OwnS v3.v ePrefix t.shape 36, OwnS v4.v ePrefix t.shape 36]) (fun x : Int × (List SPrefix) => ((t.shape.length : Int) - x.1).toNat) (0, t.shape) ⟨?_, ?_⟩ (fun x hx => ?_)
  · omega
  · rfl
  obtain ⟨i, sa⟩ := x
  obtain ⟨hi, hsa⟩ : (0 ≤ i ∧ i ≤ t.shape.length) ∧ (sa.length = t.shape.length) := hx
  show Sat _ _ [dz, (0, true, t.ptr.v), (6, true, v2.v), (7, true, v3.v), (8, true, v4.v), (9, true, I i)] [OwnS v2.v ePrefix sa 36, OwnS v3.v ePrefix t.shape 36, OwnS v4.v ePrefix t.shape 36]
  refine seq (seq (region (cons (opv (Ev.move (.t rfl)) (cons (opv (Ev.move (.t rfl)) (cons (opv (Ev.len Try.underlying51 (.t rfl) (by first | exact isSl_own (by repeat first | exact mH | apply mT | apply mA) | exact fun w I => IsSl.keep0 (by assumption) I.keeps)) ?_))))))))
  refine cons (opv (Ev.lss_i (.t rfl) (.t rfl)) ?_)
  refine nil (pN ?_)
  first | refine condD rfl (fun h1 => ?_) (fun h1 => ?_) | refine cond rfl (fun h1 => ?_) (fun h1 => ?_)
  · try simp only [Gx.nb] at h1
    refine skip (pN (seq (block (region (cons (opv (Ev.move (.t rfl)) (cons (opv (Ev.move (.t rfl)) (cons (opv (Ev.buildS (fs := _) (places := [(0, 17), (17, 1)]) z36 rfl Try.underlying36 (by kernel_rfl) (.cons (.c (v := I 99) rfl) .nil) (Fills.cons SPrefix.l_bits rfl Fills.nil)) ?_))))))))))
    refine cons (opv (Ev.indexAddr Try.underlying51 ty36 (.t rfl) (.t rfl) (by first | exact isSl_own (by repeat first | exact mH | apply mT | apply mA) | exact fun w I => IsSl.keep0 (by assumption) I.keeps) (fun _ => by omega)) ?_)
    refine cons (storeS0 ty36 (.t rfl) (.t rfl) (by repeat first | exact Upd.head | apply Upd.tail | apply Upd.right) (by omega) ?_)
    refine nil (bN (pN (region (cons (opv (Ev.move (.t rfl)) (cons (opv (Ev.add_i (.t rfl) (.c (v := I 1) rfl) (fun _ => by omega)) ?_)))))))
    refine cons (opv (Ev.assign (.t rfl)) (nil (pN (nxP (X := Int × (List SPrefix)) (i + 1, _) ⟨?_, ?_⟩ ?_))))
    · try dsimp only
      omega
    · try dsimp only
      simp [hsa]
    · try dsimp only
      omega
  · try simp only [Gx.nb] at h1
    refine exit (pX (pX (bX (pN (seq (region (cons (opv (Ev.move (.t rfl)) (cons (opv (Ev.move (.t rfl)) (cons (callv en52 (.cons (.t rfl) (.cons (.t rfl) .nil)) (fun w I => r15same_t _ _ t.shape t.shape rfl w (by first | exact isSl_own (by repeat first | exact mH | apply mT | apply mA) w I | exact IsSl.keep0 (by assumption) I.keeps) (by first | exact isSl_own (by repeat first | exact mH | apply mT | apply mA) w I | exact IsSl.keep0 (by assumption) I.keeps)) ?_))))))))))))
    refine cons (opv (Ev.move (.t rfl)) (cons (opg rfl rfl (Ev.move (.t rfl)) ?_)))
    refine cons (opgT rfl rfl rfl ?_)
    refine (callo en19 (.cons (.g rfl id) .nil) (fun w I => shape_to t t.shape rfl w (ht.keep I.keeps) ho (by omega)) (fun v8 => ?_))
    refine cons (opg rfl rfl (Ev.move (.t rfl)) ?_)
    refine cons (callg rfl rfl en52 (.cons (.t rfl) (.cons (.g rfl id) .nil)) (fun hg w I => r15same_t _ _ t.shape t.shape rfl w (by first | exact isSl_own (by repeat first | exact mH | apply mT | apply mA) w I | exact IsSl.keep0 (by assumption) I.keeps) (by first | exact isSl_own (by repeat first | exact mH | apply mT | apply mA) w I | exact IsSl.keep0 (by assumption) I.keeps)) ?_)
    refine cons (opv (Ev.pickA (.t rfl) (fun {_} h => by cases h; rfl) ⟨_, rfl⟩ (by intro h1 h; first | (rw [h] <;> rfl) | (rw [h1, h] <;> rfl) | (rw [h, h1] <;> rfl) | simp_all) (.c (v := .bool false) rfl)) ?_)
    refine cons (opv (Ev.assign (.t rfl)) (nil (pN (ret (done rfl (.tmp rfl .nil) (retE ?_))))))
    rfl
end Go.Proofs.Ytjjlofjpdklbgaa
/- trie -/
set_option linter.unusedVariables false
set_option linter.unusedSimpArgs false
namespace Go.Proofs.Ytjjlofjpdklbgaa
open Go Go.Gx

structure SLaw18Do where
  kind : Int
  p : SPrefix
  v : Int
  a : SAddr

def SLaw18Do.to : (Int × (SPrefix × (Int × SAddr))) → SLaw18Do := fun x => ⟨x.1, x.2.1, x.2.2.1, x.2.2.2⟩

def SLaw18Do.of : SLaw18Do → (Int × (SPrefix × (Int × SAddr))) := fun x => (x.kind, x.p, x.v, x.a)

def eLaw18Do : Enc SLaw18Do := isoE (prodE iE (prodE ePrefix (prodE iE eAddr))) SLaw18Do.to SLaw18Do.of

def SLaw18Do.l_kind : Lens eLaw18Do iE 0 := lIso _ SLaw18Do.to SLaw18Do.of (fun _ => rfl) (lFst iE (prodE ePrefix (prodE iE eAddr)))

@[simp] theorem SLaw18Do.get_kind (x : SLaw18Do) : SLaw18Do.l_kind.get x = x.kind := rfl

@[simp] theorem SLaw18Do.set_kind (x : SLaw18Do) (y : Int) : SLaw18Do.l_kind.set x y = { x with kind := y } := rfl

def SLaw18Do.l_p : Lens eLaw18Do ePrefix 1 := lIso _ SLaw18Do.to SLaw18Do.of (fun _ => rfl) (Lens.comp (lSnd iE (prodE ePrefix (prodE iE eAddr))) (lFst ePrefix (prodE iE eAddr)))

@[simp] theorem SLaw18Do.get_p (x : SLaw18Do) : SLaw18Do.l_p.get x = x.p := rfl

@[simp] theorem SLaw18Do.set_p (x : SLaw18Do) (y : SPrefix) : SLaw18Do.l_p.set x y = { x with p := y } := rfl

def SLaw18Do.l_v : Lens eLaw18Do iE 19 := lIso _ SLaw18Do.to SLaw18Do.of (fun _ => rfl) (Lens.comp (lSnd iE (prodE ePrefix (prodE iE eAddr))) (Lens.comp (lSnd ePrefix (prodE iE eAddr)) (lFst iE eAddr)))

@[simp] theorem SLaw18Do.get_v (x : SLaw18Do) : SLaw18Do.l_v.get x = x.v := rfl

@[simp] theorem SLaw18Do.set_v (x : SLaw18Do) (y : Int) : SLaw18Do.l_v.set x y = { x with v := y } := rfl

def SLaw18Do.l_a : Lens eLaw18Do eAddr 20 := lIso _ SLaw18Do.to SLaw18Do.of (fun _ => rfl) (Lens.comp (lSnd iE (prodE ePrefix (prodE iE eAddr))) (Lens.comp (lSnd ePrefix (prodE iE eAddr)) (Lens.comp (lSnd iE eAddr) (Lens.id eAddr))))

@[simp] theorem SLaw18Do.get_a (x : SLaw18Do) : SLaw18Do.l_a.get x = x.a := rfl

@[simp] theorem SLaw18Do.set_a (x : SLaw18Do) (y : SAddr) : SLaw18Do.l_a.set x y = { x with a := y } := rfl

theorem under1_ok (b : Nat) (q : SPrefix) (u : Int) (h : Bool) (l r : PT) (p : SPrefix) (bp : Nat) (w : World) (hat : (PT.node b q u h l r).At w) (hp : PtsTo ePrefix w bp 0 p) : Calls Try.prog 44 #[(PT.node b q u h l r).ptr.v, .pointer (some ⟨bp, 0, none⟩)] w (RetV w (.bool (coversP p q))) := by
  refine enter0 10 Try.func44 rfl rfl (Nat.le_of_ble_eq_true rfl) ?_
  refine seq (region (cons (opv (Ev.assign (.c (v := .bool false) rfl)) ?_)))
  refine nil (pN (seq (draw' (by kernel_rfl) ?_)))
  refine tk 0 rfl (Ev.to (v' := ePrefix.val p) (Ev.load ty36 (.t rfl) (ptsL (fun w I => hp.keep I.keeps) (Lens.id _))) (rfl)) ?_
  refine tk 1 rfl (Ev.to (v' := .pointer (some ⟨b, 0, none⟩)) (Ev.move (.t rfl)) (rfl)) ?_
  refine tk 2 rfl (Ev.nilCheck (.t rfl)) ?_
  refine tk 3 rfl (Ev.fieldAddr (o := 0) (.t rfl) (by kernel_rfl)) ?_
  refine tk 4 rfl (Ev.to (v' := ePrefix.val q) (Ev.load ty36 (.t rfl) (ptsL (fun w I => (hat.1).keep I.keeps) STrieNode.l_p)) (rfl)) ?_
  refine al1 5 rfl ((callv en15 (.cons (.t rfl) (.cons (.t rfl) .nil)) (fun w I => coversP_ok p q w) ?_))
  refine hdn (tk 6 rfl (Ev.assign (.t rfl)) ?_)
  refine ovr (pN (ret (done rfl (.tmp rfl .nil) (retE ?_))))
  rfl

def unP (t : Tt) (p : SPrefix) : List (SPrefix × Int) := t.ents.filter (fun y => coversP p y.1)
theorem filter_map' {α β : Type} (f : α → β) (g : α → Bool) (k : β → Bool) : ∀ l : List α, (∀ x ∈ l, k (f x) = g x) → (l.filter g).map f = (l.map f).filter k
  | [], _ => rfl
  | x :: l, h => by
    have ih := filter_map' f g k l (fun y hy => h y (List.mem_cons_of_mem _ hy))
    have hx := h x List.mem_cons_self
    rw [List.map_cons, List.filter_cons, List.filter_cons, hx]
    by_cases hg : g x = true
    · rw [if_pos hg, if_pos hg, List.map_cons, ih]
    · rw [if_neg hg, if_neg hg, ih]
theorem entsG_un (t : Tt) (p : SPrefix) : entsG (fun x => coversP p x.key.1) (t.l.pre ++ t.r.pre) = unP t p := by
  unfold unP
  rw [← entsG_all t]
  unfold entsG
  simp only [Bool.and_true]
  rw [← filter_map' (fun x : PT => (x.key.1, x.key.2.1)) (fun x => coversP p x.key.1) (fun y => coversP p y.1) _ (fun _ _ => rfl), List.filter_filter]
  congr 1
  apply List.filter_congr
  intro x _
  exact Bool.and_comm _ _
theorem row_under (t : Tt) (p : SPrefix) : (unP t p).map enE = (rowT t).filter (fun e => coversP p e.p) := by
  unfold unP rowT
  exact filter_map' enE _ _ _ (fun _ _ => rfl)
theorem un_iter (t : Tt) (ho : t.OK) (p : SPrefix) (bt bk bp : Nat) (w0 : World) (M : Nat → Prop) (hf : ∀ w', Keeps M w0 w' → EntAt t (bnd 44 [] [.pointer (some ⟨bp, 0, none⟩)]) bt bk w' ∧ PtsTo ePrefix w' bp 0 p) : IterAt Try.prog (bnd 56 [] [.pointer (some ⟨bt, 0, none⟩), .pointer (some ⟨bk, 0, none⟩)]).v encE w0 M (unP t p) := by
  rw [← entsG_un t p]
  exact ent_iter t ho 44 [.pointer (some ⟨bp, 0, none⟩)] (fun x => coversP p x.key.1) (Gx.Enters.mk' (by kernel_rfl)) bt bk w0 M (fun w' k => ⟨(hf w' k).1, fun x hx hat => by
    obtain ⟨b, q, u, h, l, r, rfl⟩ : ∃ b q u h l r, x = PT.node b q u h l r := by
      rcases List.mem_append.1 hx with hx | hx
      · exact PT.pre_node hx
      · exact PT.pre_node hx
    exact under1_ok b q u h l r p bp w' hat (hf w' k).2⟩)
theorem rget_t (tr : SRef18Trie) (t : Tt) (ho : t.OK) (p : SPrefix) (w : World) (hx : IsSl eRef18Entry w tr.l.v (rowT t)) : Calls Try.prog 48 #[eRef18Trie.val tr, ePrefix.val p] w (RetV w (.tuple #[I (getV t p).1, .bool (getV t p).2])) := by
  have h := rget_ok tr (rowT t) p w hx
  rwa [row_get ho] at h
theorem un_all (t : Tt) (p : SPrefix) {l : List SRef18Entry} (hl : l = (rowT t).filter (fun e => coversP p e.p)) : ((unP t p).map enE).take ((l.length : Int) + 1).toNat = l := by
  rw [row_under, ← hl]
  exact take_all l
theorem un_half (t : Tt) (p : SPrefix) {l : List SRef18Entry} (hl : l = (rowT t).filter (fun e => coversP p e.p)) {k : Int} : ((unP t p).map enE).take k.toNat = List.drop 0 (List.take k.toNat l) := by
  rw [row_under, ← hl]
  rfl

theorem en48 : Gx.Enters Try.prog 48 := Gx.Enters.mk' (by kernel_rfl)

theorem en49 : Gx.Enters Try.prog 49 := Gx.Enters.mk' (by kernel_rfl)

theorem en50 : Gx.Enters Try.prog 50 := Gx.Enters.mk' (by kernel_rfl)

theorem asks_ok (t : Tt) (tr : SRef18Trie) (d : SLaw18Do) (w : World) (ht : t.At w) (ho : t.OK) (hx : IsSl eRef18Entry w tr.l.v (rowT t)) (hn : (rowT t).length ≤ 1000) : Calls Try.prog 27 #[t.ptr.v, eRef18Trie.val tr, eLaw18Do.val d] w (RetV w (.bool true)) := by
  refine enter0 103 Try.func27 rfl rfl (Nat.le_of_ble_eq_true rfl) ?_
  refine seq (region (cons (box (E := eRef18Trie) (.t rfl) (fun b1 => ?_))))
  refine cons (box (E := eLaw18Do) (.t rfl) (fun b2 => ?_))
  refine cons (opv (Ev.assign (.c (v := .bool false) rfl)) ?_)
  refine nil (pN (seq (region (cons (opv (Ev.move (.t rfl)) (cons (opv (Ev.fieldAddr (o := 1) (.t rfl) (by kernel_rfl)) ?_)))))))
  refine cons (opv (Ev.ldx d.p ty36 (.t rfl) SLaw18Do.l_p) ?_)
  refine cons (callv en13 (.cons (.t rfl) (.cons (.t rfl) .nil)) (fun w I => get_ok t d.p w (ht.keep I.keeps) ho) ?_)
  refine cons (opv (Ev.move (.t rfl)) (cons (opv (Ev.extract (.t rfl) rfl) (cons (opv (Ev.extract (.t rfl) rfl) (cons (opv (Ev.assign (.t rfl)) (cons (opv (Ev.assign (.t rfl)) (nil (pN (seq (region (cons (opv (Ev.ldx tr ty64 (.t rfl) (Lens.id _)) ?_)))))))))))))))
  refine cons (opv (Ev.fieldAddr (o := 1) (.t rfl) (by kernel_rfl)) ?_)
  refine cons (opv (Ev.ldx d.p ty36 (.t rfl) SLaw18Do.l_p) ?_)
  refine cons (callv en48 (.cons (.t rfl) (.cons (.t rfl) .nil)) (fun w I => rget_t tr t ho d.p w (hx.keep0 I.keeps)) ?_)
  refine cons (opv (Ev.move (.t rfl)) (cons (opv (Ev.extract (.t rfl) rfl) (cons (opv (Ev.extract (.t rfl) rfl) (cons (opv (Ev.assign (.t rfl)) (cons (opv (Ev.assign (.t rfl)) (nil (pN (seq ?_))))))))))))
  obtain ⟨zf, hzf⟩ : ∃ z, findV t d.a = z := ⟨_, rfl⟩
  refine region (cons (opv (Ev.move (.t rfl)) (cons (opv (Ev.fieldAddr (o := 20) (.t rfl) (by kernel_rfl)) ?_))))
  refine cons (opv (Ev.ldx d.a ty31 (.t rfl) SLaw18Do.l_a) ?_)
  refine cons (callv en11 (.cons (.t rfl) (.cons (.t rfl) .nil)) (fun w I => find_to t d.a w zf hzf (ht.keep I.keeps) ho) ?_)
  refine cons (opv (Ev.move (.t rfl)) (cons (opv (Ev.extract (.t rfl) rfl) (cons (opv (Ev.extract (.t rfl) rfl) (cons (opv (Ev.extract (.t rfl) rfl) (cons (alloc z36 (fun b3 => ?_))))))))))
  refine cons (stv ty36 (Lens.id _) (.t rfl) (.t rfl) ?_)
  refine cons (opv (Ev.assign (.t rfl)) (cons (opv (Ev.assign (.t rfl)) (nil (pN (seq (region (cons (opv (Ev.ldx tr ty64 (.t rfl) (Lens.id _)) ?_)))))))))
  refine cons (opv (Ev.fieldAddr (o := 20) (.t rfl) (by kernel_rfl)) ?_)
  refine cons (opv (Ev.ldx d.a ty31 (.t rfl) SLaw18Do.l_a) ?_)
  refine cons (callv en49 (.cons (.t rfl) (.cons (.t rfl) .nil)) (fun w I => rfind_ok tr (rowT t) d.a w (hx.keep0 I.keeps) zf (by rw [row_find ho]; exact hzf)) ?_)
  refine cons (opv (Ev.move (.t rfl)) (cons (opv (Ev.extract (.t rfl) rfl) (cons (opv (Ev.extract (.t rfl) rfl) (cons (opv (Ev.extract (.t rfl) rfl) (cons (alloc z36 (fun b4 => ?_))))))))))
  refine cons (stv ty36 (Lens.id _) (.t rfl) (.t rfl) ?_)
  refine cons (opv (Ev.assign (.t rfl)) (cons (opv (Ev.assign (.t rfl)) (nil (pN (seq ?_))))))
  obtain ⟨uu, huu⟩ : ∃ z, z = (rowT t).filter (fun e => coversP d.p e.p) := ⟨_, rfl⟩
  have hul : uu.length ≤ 1000 := by rw [huu]; exact Nat.le_trans (List.length_filter_le _ _) hn
  refine region (cons (opv (Ev.ldx tr ty64 (.t rfl) (Lens.id _)) ?_))
  refine cons (opv (Ev.fieldAddr (o := 1) (.t rfl) (by kernel_rfl)) ?_)
  refine cons (opv (Ev.ldx d.p ty36 (.t rfl) SLaw18Do.l_p) ?_)
  refine cons (callo en50 (.cons (.t rfl) (.cons (.t rfl) .nil)) (fun w I => huu ▸ runder_ok tr (rowT t) d.p w (hx.keep0 I.keeps) (by omega)) (fun v5 => ?_))
  refine cons (opv (Ev.assign (.t rfl)) (nil (pN (seq (draw' (by kernel_rfl) ?_)))))
  refine tk 0 rfl (Ev.move (.t rfl)) ?_
  refine tk 1 rfl (Ev.move (.t rfl)) ?_
  refine tk 2 rfl (Ev.to (v' := .bool true) (Ev.eql_i (.t rfl) (.t rfl)) (congrArg Value.bool (by simp))) ?_
  refine tk 3 rfl (Ev.move (.t rfl)) ?_
  refine tkg 4 rfl rfl rfl (Ev.move (.t rfl)) ?_
  refine tkg 5 rfl rfl rfl (Ev.move (.t rfl)) ?_
  refine tkg 6 rfl rfl rfl (Ev.to (v' := .bool true) (Ev.eql_b Try.underlying4 (.g rfl id) (.g rfl id)) (congrArg Value.bool (by simp))) ?_
  refine tk 7 rfl (Ev.pickA (.t rfl) (fun {_} h => by cases h; rfl) ⟨_, rfl⟩ (by intro h1 h; first | (rw [h] <;> rfl) | (rw [h1, h] <;> rfl) | (rw [h, h1] <;> rfl) | simp_all) (.c (v := .bool false) rfl)) ?_
  refine tk 8 rfl (Ev.move (.t rfl)) ?_
  refine tkg 9 rfl rfl rfl (Ev.ldv ty36 (.t rfl) (Lens.id _)) ?_
  refine tkg 10 rfl rfl rfl (Ev.ldv ty36 (.t rfl) (Lens.id _)) ?_
  refine tkg 11 rfl rfl rfl (Ev.to (v' := .bool true) (Ev.eqlS rfl eqok36 rfl (by kernel_rfl) (.g rfl id) (.g rfl id)) (congrArg Value.bool (by simp))) ?_
  refine tk 12 rfl (Ev.pickA (.t rfl) (fun {_} h => by cases h; rfl) ⟨_, rfl⟩ (by intro h1 h; first | (rw [h] <;> rfl) | (rw [h1, h] <;> rfl) | (rw [h, h1] <;> rfl) | simp_all) (.c (v := .bool false) rfl)) ?_
  refine tk 13 rfl (Ev.move (.t rfl)) ?_
  refine tkg 14 rfl rfl rfl (Ev.move (.t rfl)) ?_
  refine tkg 15 rfl rfl rfl (Ev.move (.t rfl)) ?_
  refine tkg 16 rfl rfl rfl (Ev.to (v' := .bool true) (Ev.eql_i (.g rfl id) (.g rfl id)) (congrArg Value.bool (by simp))) ?_
  refine tk 17 rfl (Ev.pickA (.t rfl) (fun {_} h => by cases h; rfl) ⟨_, rfl⟩ (by intro h1 h; first | (rw [h] <;> rfl) | (rw [h1, h] <;> rfl) | (rw [h, h1] <;> rfl) | simp_all) (.c (v := .bool false) rfl)) ?_
  refine tk 18 rfl (Ev.move (.t rfl)) ?_
  refine tkg 19 rfl rfl rfl (Ev.move (.t rfl)) ?_
  refine tkg 20 rfl rfl rfl (Ev.move (.t rfl)) ?_
  refine tkg 21 rfl rfl rfl (Ev.to (v' := .bool true) (Ev.eql_b Try.underlying4 (.g rfl id) (.g rfl id)) (congrArg Value.bool (by simp))) ?_
  refine tk 22 rfl (Ev.pickA (.t rfl) (fun {_} h => by cases h; rfl) ⟨_, rfl⟩ (by intro h1 h; first | (rw [h] <;> rfl) | (rw [h1, h] <;> rfl) | (rw [h, h1] <;> rfl) | simp_all) (.c (v := .bool false) rfl)) ?_
  refine tk 23 rfl (Ev.move (.t rfl)) ?_
  refine tkg 24 rfl rfl rfl (Ev.move (.t rfl)) ?_
  refine tkg 25 rfl rfl rfl (Ev.fieldAddr (o := 1) (.t rfl) (by kernel_rfl)) ?_
  refine tkg 26 rfl rfl rfl (Ev.ldx d.p ty36 (.g rfl id) SLaw18Do.l_p) ?_
  refine tkg 28 rfl rfl rfl (Ev.move (.t rfl)) ?_
  refine tkg 29 rfl rfl rfl (Ev.len Try.underlying53 (.g rfl id) (by first | exact isSl_own (by repeat first | exact mH | apply mT | apply mA) | exact fun w I => IsSl.keep0 (by assumption) I.keeps)) ?_
  refine tkg 30 rfl rfl rfl (Ev.add_i (.g rfl id) (.c (v := I 1) rfl) (fun _ => by first | omega | (rename_i hg; simp at hg; omega))) ?_
  refine tkg 32 rfl rfl rfl (Ev.move (.t rfl)) ?_
  refine al1 27 rfl ((opgT rfl rfl rfl ?_))
  refine (calln (X := (Nat × Nat) × Nat) (fun _ => True) (fun x => (bnd 56 [] [.pointer (some ⟨x.1.1, 0, none⟩), .pointer (some ⟨x.1.2, 0, none⟩)]).v) (fun x => [Var x.1.2 (ovE nilFn) (bnd 44 [] [.pointer (some ⟨x.2, 0, none⟩)]) 80, Var x.1.1 (ovE nilPtr) t.ptr 24, Var x.2 ePrefix d.p 36]) en21 (.cons (.g rfl id) (.cons (.g rfl id) .nil)) (fun w I => under_o t.ptr d.p w) (fun y1 _ => ?_))
  refine hdn (al1 31 rfl ((opgT rfl rfl rfl ?_)))
  refine (callo en20 (.cons (.t rfl) (.cons (.g rfl id) .nil)) (fun w I => told_ok 56 [] [.pointer (some ⟨y1.1.1, 0, none⟩), .pointer (some ⟨y1.1.2, 0, none⟩)] (unP t d.p) ((uu.length : Int) + 1) w (by omega) (fun w1 M k => un_iter t ho d.p y1.1.1 y1.1.2 y1.2 w1 M (fun w2 k2 => ⟨⟨(ht.keep I.keeps).keep (k w2 k2), (ptsVar (E' := ovE nilPtr) (by repeat first | exact mH | apply mT | apply mA) (Lens.id _) w I).keep (k w2 k2), (ptsVar (E' := ovE nilFn) (by repeat first | exact mH | apply mT | apply mA) (Lens.id _) w I).keep (k w2 k2)⟩, (ptsVar (E' := ePrefix) (by repeat first | exact mH | apply mT | apply mA) (Lens.id _) w I).keep (k w2 k2)⟩))) (fun v6 => ?_))
  refine hdn (al1 33 rfl ((callg rfl rfl en29 (.cons (.t rfl) (.cons (.g rfl id) .nil)) (fun hg w I => r18same_t _ _ _ uu (un_all t d.p huu) w (by first | exact isSl_own (by repeat first | exact mH | apply mT | apply mA) w I | exact IsSl.keep0 (by assumption) I.keeps) (by first | exact isSl_own (by repeat first | exact mH | apply mT | apply mA) w I | exact IsSl.keep0 (by assumption) I.keeps)) ?_)))
  refine hdn (tk 34 rfl (Ev.pickA (.t rfl) (fun {_} h => by cases h; rfl) ⟨_, rfl⟩ (by intro h1 h; first | (rw [h] <;> rfl) | (rw [h1, h] <;> rfl) | (rw [h, h1] <;> rfl) | simp_all) (.c (v := .bool false) rfl)) ?_)
  refine tk 35 rfl (Ev.move (.t rfl)) ?_
  refine tkg 36 rfl rfl rfl (Ev.move (.t rfl)) ?_
  refine tkg 37 rfl rfl rfl (Ev.fieldAddr (o := 1) (.t rfl) (by kernel_rfl)) ?_
  refine tkg 38 rfl rfl rfl (Ev.ldx d.p ty36 (.g rfl id) SLaw18Do.l_p) ?_
  refine tkg 40 rfl rfl rfl (Ev.move (.t rfl)) ?_
  refine tkg 41 rfl rfl rfl (Ev.len Try.underlying53 (.g rfl id) (by first | exact isSl_own (by repeat first | exact mH | apply mT | apply mA) | exact fun w I => IsSl.keep0 (by assumption) I.keeps)) ?_
  refine tkg 42 rfl rfl rfl (Ev.quo_n (.g rfl id) (.c (v := I 2) rfl) (fun _ => by first | omega | (rename_i hg; simp at hg; omega)) (fun _ => by first | omega | (rename_i hg; simp at hg; omega)) (fun _ => by first | omega | (rename_i hg; simp at hg; omega))) ?_
  refine tkg 44 rfl rfl rfl (Ev.move (.t rfl)) ?_
  refine tkg 45 rfl rfl rfl (Ev.move (.t rfl)) ?_
  refine tkg 46 rfl rfl rfl (Ev.len Try.underlying53 (.g rfl id) (by first | exact isSl_own (by repeat first | exact mH | apply mT | apply mA) | exact fun w I => IsSl.keep0 (by assumption) I.keeps)) ?_
  refine tkg 47 rfl rfl rfl (Ev.quo_n (.g rfl id) (.c (v := I 2) rfl) (fun _ => by first | omega | (rename_i hg; simp at hg; omega)) (fun _ => by first | omega | (rename_i hg; simp at hg; omega)) (fun _ => by first | omega | (rename_i hg; simp at hg; omega))) ?_
  refine tkg 48 rfl rfl rfl (Ev.sliceH Try.underlying53 ty97 (.g rfl id) (.g rfl id) (by first | exact isSl_own (by repeat first | exact mH | apply mT | apply mA) | exact fun w I => IsSl.keep0 (by assumption) I.keeps) (fun _ => by omega)) ?_
  refine al1 39 rfl ((opgT rfl rfl rfl ?_))
  refine (calln (X := (Nat × Nat) × Nat) (fun _ => True) (fun x => (bnd 56 [] [.pointer (some ⟨x.1.1, 0, none⟩), .pointer (some ⟨x.1.2, 0, none⟩)]).v) (fun x => [Var x.1.2 (ovE nilFn) (bnd 44 [] [.pointer (some ⟨x.2, 0, none⟩)]) 80, Var x.1.1 (ovE nilPtr) t.ptr 24, Var x.2 ePrefix d.p 36]) en21 (.cons (.g rfl id) (.cons (.g rfl id) .nil)) (fun w I => under_o t.ptr d.p w) (fun y2 _ => ?_))
  refine hdn (al1 43 rfl ((opgT rfl rfl rfl ?_)))
  refine (callo en20 (.cons (.t rfl) (.cons (.g rfl id) .nil)) (fun w I => told_ok 56 [] [.pointer (some ⟨y2.1.1, 0, none⟩), .pointer (some ⟨y2.1.2, 0, none⟩)] (unP t d.p) ((uu.length : Int) / 2) w (by omega) (fun w1 M k => un_iter t ho d.p y2.1.1 y2.1.2 y2.2 w1 M (fun w2 k2 => ⟨⟨(ht.keep I.keeps).keep (k w2 k2), (ptsVar (E' := ovE nilPtr) (by repeat first | exact mH | apply mT | apply mA) (Lens.id _) w I).keep (k w2 k2), (ptsVar (E' := ovE nilFn) (by repeat first | exact mH | apply mT | apply mA) (Lens.id _) w I).keep (k w2 k2)⟩, (ptsVar (E' := ePrefix) (by repeat first | exact mH | apply mT | apply mA) (Lens.id _) w I).keep (k w2 k2)⟩))) (fun v7 => ?_))
  refine hdn (al1 49 rfl ((callg rfl rfl en29 (.cons (.t rfl) (.cons (.g rfl id) .nil)) (fun hg w I => r18same_t _ _ _ _ (un_half t d.p huu) w (by first | exact isSl_own (by repeat first | exact mH | apply mT | apply mA) w I | exact IsSl.keep0 (by assumption) I.keeps) (IsSl.sub (w := w) (by first | exact isSl_own (by repeat first | exact mH | apply mT | apply mA) w I | exact IsSl.keep0 (by assumption) I.keeps) (by omega) (by omega))) ?_)))
  refine hdn (tk 50 rfl (Ev.pickA (.t rfl) (fun {_} h => by cases h; rfl) ⟨_, rfl⟩ (by intro h1 h; first | (rw [h] <;> rfl) | (rw [h1, h] <;> rfl) | (rw [h, h1] <;> rfl) | simp_all) (.c (v := .bool false) rfl)) ?_)
  refine tk 51 rfl (Ev.assign (.t rfl)) ?_
  refine ovr (pN (ret (done rfl (.tmp rfl .nil) (retE ?_))))
  rfl
end Go.Proofs.Ytjjlofjpdklbgaa
/- trie -/
set_option linter.unusedVariables false
set_option linter.unusedSimpArgs false
namespace Go.Proofs.Ytjjlofjpdklbgaa
open Go Go.Gx

/-! ### What TriePlays keeps -/
/-- A trie and the document's row, where they lie. -/
def PairAt (w : World) (e : Tt × OV) : Prop := e.1.At w ∧ IsSl eRef18Entry w e.2.v (rowT e.1)
theorem rput_t (tr : SRef18Trie) (t : Tt) (p : SPrefix) (n : Int) (w : World) (hx : IsSl eRef18Entry w tr.l.v (rowT t)) (hn : (rowT t).length ≤ 1000000) : Calls Try.prog 25 #[eRef18Trie.val tr, ePrefix.val p, I n] w (RetN w (RJ (checkP p) (insK fE (rowT t) ⟨p, n⟩)) (fun x : OV × List Res => .tuple #[eRef18Trie.val ⟨x.1⟩, I (checkP p)]) (fun x => x.2)) := rput_ok tr (rowT t) p n w hx hn
theorem rcut_t (tr : SRef18Trie) (t : Tt) (ho : t.OK) (p : SPrefix) (w : World) (hx : IsSl eRef18Entry w tr.l.v (rowT t)) (hn : (rowT t).length ≤ 1000000) : Calls Try.prog 26 #[eRef18Trie.val tr, ePrefix.val p] w (RetN w (RJ (cutE t p) (rcutL (rowT t) p)) (fun x : OV × List Res => .tuple #[eRef18Trie.val ⟨x.1⟩, I (cutE t p)]) (fun x => x.2)) := by
  have h := rcut_ok tr (rowT t) p w hx hn
  rwa [row_cutE ho] at h
theorem rof_t (u : Value) (rs : List SRoute) (w : World) (hs : IsSl eRoute w u rs) (hn : rs.length ≤ 1000) : Calls Try.prog 24 #[u] w (RetN w (RJ (ofR rs) (refL rs)) (fun x : OV × List Res => .tuple #[eRef18Trie.val ⟨x.1⟩, I (ofR rs)]) (fun x => x.2)) := rof_ok u rs w hs hn
theorem cut_n {t x : Tt} {p : SPrefix} (ho : t.OK) (hx : x.OK) (h : ∀ y, y ∈ x.ents ↔ (y ∈ t.ents ∧ y.1 ≠ p)) : x.n ≤ t.n := by
  rw [ho.n, hx.n]
  rcases Classical.em (∃ y ∈ t.ents, y.1 = p) with g | g
  · have := len_less ho.nodup hx.nodup h g
    omega
  · have h2 : ∀ y, y ∈ x.ents ↔ y ∈ t.ents := fun y => by
      rw [h]
      exact ⟨fun e => e.1, fun e => ⟨e, fun q => g ⟨y, e, q⟩⟩⟩
    have h3 := (shape_uniq hx ho h2).2.1
    rw [h3]
    exact Int.le_refl _
theorem cutE_has {t : Tt} {p : SPrefix} (h : cutE t p = 0) : (getV t p).2 = true := by
  unfold cutE at h
  split at h
  · rename_i g; exact absurd h g
  · split at h
    · cases h
    · rename_i g
      cases hb : (getV t p).2 with
      | true => rfl
      | false => exact absurd hb g
theorem row_small {t : Tt} (ho : t.OK) {n : Int} (h : t.n ≤ n) (hn : n ≤ 100) : (rowT t).length ≤ 1000 ∧ t.shape.length ≤ 100000 := by
  have h1 := row_len ho
  have h2 := shape_small ho
  refine ⟨by omega, ?_⟩
  by_cases h0 : t.n = 0
  · rw [h2.1 h0]; simp
  · have := h2.2 (by have := ho.n; omega)
    omega
end Go.Proofs.Ytjjlofjpdklbgaa
