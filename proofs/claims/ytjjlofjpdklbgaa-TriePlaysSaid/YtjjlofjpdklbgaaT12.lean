/- trie -/
import Derived.Test.YtjjlofjpdklbgaaT11
set_option linter.unusedVariables false
set_option linter.unusedSimpArgs false
namespace Go.Proofs.Ytjjlofjpdklbgaa
open Go Go.Gx

theorem z80 : (Try.prog.info? 80).bind (·.zero) = some ((ovE nilFn).val (ovE nilFn).zero) := by kernel_rfl

theorem nodes_walk {σ : Type} (S : σ → Res) (ok : PT → σ → Prop) (J : PT → σ → Bool × σ → Prop) (yv : OV) (t : Tt) (s : σ) (w : World) (ho : t.OK) (ht : ∀ w1, Keeps (S s).foot w w1 → t.At w1) (hl : Okay ok J (t.l.pre ++ t.r.pre) s) (hat : At (S s) w) (hY : YieldAt Try.prog yv.v encN w (S s).foot ok S J) : Calls Try.prog 43 #[t.ptr.v, yv.v] w (RetR w (S s) (RunsY J (t.l.pre ++ t.r.pre) s) (fun _ => .tuple #[]) S) := by
  refine enter (S s).foot 25 [S s] Try.func43 rfl rfl (Nat.le_of_ble_eq_true rfl) (start_at hat) ?_
  refine seq (region (cons (box (E := (ovE nilFn)) (.t rfl) (fun b1 => ?_))))
  refine nil (pN (seq (seq (region (cons (opv (Ev.move (.t rfl)) (cons (callv en33 (.cons (.t rfl) .nil) (fun w I => there_ok t w (ht w I.keeps).1) ?_))))))))
  refine cons (opv (Ev.not (.t rfl)) ?_)
  refine nil (pN (condF rfl (by rw [ho.made]; rfl) ?_))
  refine skip (pN (seq (region (cons (alloc z80 (fun b2 => ?_))))))
  refine nil (pN (seq (region (cons (opv (Ev.makeFunc (f := 62) (.cons (.t rfl) (.cons (.t rfl) .nil))) ?_)))))
  refine cons (stv ty80 (Lens.id _) (.t rfl) (.t rfl) ?_)
  refine nil (pN (drawR (show Rem _ (S s) _ from (by repeat first | exact Rem.head | apply Rem.tail)) (by kernel_rfl) ?_))
  refine tk 0 rfl (Ev.ldv ty80 (.t rfl) (Lens.id _)) ?_
  refine tk 1 rfl (Ev.to (v' := .pointer (some ⟨t.b, 0, none⟩)) (Ev.move (.t rfl)) (rfl)) ?_
  refine tk 2 rfl (Ev.nilCheck (.t rfl)) ?_
  refine tk 3 rfl (Ev.fieldAddr (o := 2) (.t rfl) (by kernel_rfl)) ?_
  refine tk 4 rfl (Ev.indexAddrA Try.underlying58 ty57 (.t rfl) (.c (v := I 0) rfl) (fun _ => by omega)) ?_
  refine tk 5 rfl (Ev.to (v' := t.l.ptr.v) (Ev.load ty57 (.t rfl) (ptsL (fun w I => (ht w I.keeps).1) (Lens.comp STrieTrie.l_roots (lArr (n := 2) (ovE nilPtr) _ (by omega))))) (rfl)) ?_
  refine al1 6 rfl ((callcr (X := Bool × σ) (f := 62) (cap := [.pointer (some ⟨b1, 0, none⟩), .pointer (some ⟨b2, 0, none⟩)]) (vs := [t.l.ptr.v]) (r := S s) (r' := fun q => S q.2) (RunsB J t.l.pre s) (fun q => .bool q.1) (fun _ => by repeat first | exact Upd.head | apply Upd.tail | apply Upd.right) (.t rfl) (Gx.Enters.mk' (by kernel_rfl)) (.cons (.t rfl) .nil) (fun w I => walk_ok S ok J yv b1 b2 t.l w s (fun w1 k => ⟨(ht w1 (I.later (by repeat first | exact mH | apply mT | apply mA) k)).2.1, ptsVar (E' := ovE nilFn) (L := [Var b2 (ovE nilFn) (wclo b1 b2) 80, Var b1 (ovE nilFn) yv 80]) (by repeat first | exact mH | apply mT | apply mA) (Lens.id _) w1 (I.but (by repeat first | exact Rem.head | apply Rem.tail) k), ptsVar (E' := ovE nilFn) (L := [Var b2 (ovE nilFn) (wclo b1 b2) 80, Var b1 (ovE nilFn) yv 80]) (by repeat first | exact mH | apply mT | apply mA) (Lens.id _) w1 (I.but (by repeat first | exact Rem.head | apply Rem.tail) k)⟩) hl.left (at_mem (by repeat first | exact mH | apply mT | apply mA) w I) (hY.later (K := ⟨25, _, (S s).foot⟩) (by repeat first | exact mH | apply mT | apply mA) w I)) (fun q1 hq1 => ?_)))
  refine hdn ?_
  obtain ⟨c1, s1⟩ := q1
  cases c1
  · refine tk 7 rfl (Ev.to (v' := .bool false) (Ev.move (.t rfl)) (rfl)) ?_
    refine tkg 8 rfl rfl rfl (Ev.vac (v := .bool false) rfl) ?_
    refine tkg 9 rfl rfl rfl (Ev.vac (v := .bool false) rfl) ?_
    refine tkg 10 rfl rfl rfl (Ev.vac (v := .bool false) rfl) ?_
    refine tkg 11 rfl rfl rfl (Ev.vac (v := .bool false) rfl) ?_
    refine tkg 12 rfl rfl rfl (Ev.vac (v := .bool false) rfl) ?_
    refine tkg 13 rfl rfl rfl (Ev.vac (v := .bool false) rfl) ?_
    refine tkg 14 rfl rfl rfl (Ev.vac (v := .bool false) rfl) ?_
    refine tk 15 rfl (Ev.to (v' := .bool false) (Ev.pickA (.t rfl) (fun {_} h => by cases h; rfl) ⟨_, rfl⟩ (by intro h1 h; first | (rw [h] <;> rfl) | (rw [h1, h] <;> rfl) | (rw [h, h1] <;> rfl) | simp_all) (.c (v := .bool false) rfl)) (rfl)) ?_
    refine ovr (done' rfl .nil (fun w I => ?_))
    exact retR (X := σ) s1 (RunsB.append hq1 (q := (false, s1)) (by rw [if_neg Bool.false_ne_true])).runs rfl (by repeat first | exact mH | apply mT | apply mA) w I
  · have hl1 : Okay ok J t.r.pre s1 := hl.right hq1 rfl
    refine tk 7 rfl (Ev.to (v' := .bool true) (Ev.move (.t rfl)) (rfl)) ?_
    refine tkg 8 rfl rfl rfl (Ev.ldv ty80 (.t rfl) (Lens.id _)) ?_
    refine tkg 9 rfl rfl rfl (Ev.to (v' := .pointer (some ⟨t.b, 0, none⟩)) (Ev.move (.t rfl)) (rfl)) ?_
    refine tkg 10 rfl rfl rfl (Ev.nilCheck (.g rfl id)) ?_
    refine tkg 11 rfl rfl rfl (Ev.fieldAddr (o := 2) (.g rfl id) (by kernel_rfl)) ?_
    refine tkg 12 rfl rfl rfl (Ev.indexAddrA Try.underlying58 ty57 (.g rfl id) (.c (v := I 1) rfl) (fun _ => by first | omega | (rename_i hg; simp at hg; omega))) ?_
    refine tkg 13 rfl rfl rfl (Ev.to (v' := t.r.ptr.v) (Ev.load ty57 (.g rfl id) (ptsL (fun w I => (ht w I.keeps).1) (Lens.comp STrieTrie.l_roots (lArr (n := 2) (ovE nilPtr) _ (by first | omega | (rename_i hg; simp at hg; omega)))))) (rfl)) ?_
    refine al1 14 rfl ((opgT rfl rfl rfl (callcr (X := Bool × σ) (f := 62) (cap := [.pointer (some ⟨b1, 0, none⟩), .pointer (some ⟨b2, 0, none⟩)]) (vs := [t.r.ptr.v]) (r := S s1) (r' := fun q => S q.2) (RunsB J t.r.pre s1) (fun q => .bool q.1) (fun _ => by repeat first | exact Upd.head | apply Upd.tail | apply Upd.right) (.t rfl) (Gx.Enters.mk' (by kernel_rfl)) (.cons (.t rfl) .nil) (fun w I => walk_ok S ok J yv b1 b2 t.r w s1 (fun w1 k => ⟨(ht w1 (I.later (by repeat first | exact mH | apply mT | apply mA) k)).2.2, ptsVar (E' := ovE nilFn) (L := [Var b2 (ovE nilFn) (wclo b1 b2) 80, Var b1 (ovE nilFn) yv 80]) (by repeat first | exact mH | apply mT | apply mA) (Lens.id _) w1 (I.but (by repeat first | exact Rem.head | apply Rem.tail) k), ptsVar (E' := ovE nilFn) (L := [Var b2 (ovE nilFn) (wclo b1 b2) 80, Var b1 (ovE nilFn) yv 80]) (by repeat first | exact mH | apply mT | apply mA) (Lens.id _) w1 (I.but (by repeat first | exact Rem.head | apply Rem.tail) k)⟩) hl1 (at_mem (by repeat first | exact mH | apply mT | apply mA) w I) (hY.later (K := ⟨25, _, (S s).foot⟩) (by repeat first | exact mH | apply mT | apply mA) w I)) (fun q2 hq2 => ?_))))
    refine hdn (tk 15 rfl (Ev.to (v' := .bool q2.1) (Ev.pickA (.t rfl) (fun {_} h => by cases h; rfl) ⟨_, rfl⟩ (by intro h1 h; first | (rw [h] <;> rfl) | (rw [h1, h] <;> rfl) | (rw [h, h1] <;> rfl) | simp_all) (.c (v := .bool false) rfl)) (rfl)) ?_)
    refine ovr (done' rfl .nil (fun w I => ?_))
    exact retR (X := σ) q2.2 (RunsB.append hq1 (q := q2) (by rw [if_pos rfl]; exact hq2)).runs rfl (by repeat first | exact mH | apply mT | apply mA) w I

theorem nodes_iter (t : Tt) (ho : t.OK) (w0 : World) (M : Nat → Prop) (hf : ∀ w', Keeps M w0 w' → t.At w') : IterAt Try.prog (bnd 43 [t.ptr.v] []).v encN w0 M (t.l.pre ++ t.r.pre) := fun σ S ok J yv w s hl hk hfo hat hY =>
  CallsV.of (Gx.Enters.mk' (by kernel_rfl)) (nodes_walk S ok J yv t s w ho (fun w' k => hf w' (hk.trans' k (fun i hi hm => (hfo i hm).resolve_left (by omega)))) hl hat hY)
abbrev encE : SPrefix × Int → List Value := fun x => [ePrefix.val x.1, I x.2]
def entsG (g : PT → Bool) (xs : List PT) : List (SPrefix × Int) := (xs.filter (fun x => x.key.2.2 && g x)).map (fun x => (x.key.1, x.key.2.1))
theorem entsG_app (g : PT → Bool) (xs ys : List PT) : entsG g (xs ++ ys) = entsG g xs ++ entsG g ys := by
  unfold entsG
  rw [List.filter_append, List.map_append]
abbrev EntJn {σ : Type} (g : PT → Bool) (J : SPrefix × Int → σ → Bool × σ → Prop) : PT → σ → σ → Prop := fun x s s' => (x.key.2.2 && g x) = false ∧ s' = s ∨ (x.key.2.2 && g x) = true ∧ ∃ q, J (x.key.1, x.key.2.1) s q ∧ q.1 = true ∧ s' = q.2
abbrev EntJx {σ : Type} (g : PT → Bool) (J : SPrefix × Int → σ → Bool × σ → Prop) : PT → σ → Code → σ → Prop := fun x s c s' => c = .ret ∧ (x.key.2.2 && g x) = true ∧ ∃ q, J (x.key.1, x.key.2.1) s q ∧ q.1 = false ∧ s' = q.2
theorem entN {σ : Type} {g : PT → Bool} {J : SPrefix × Int → σ → Bool × σ → Prop} : ∀ {xs : List PT} {s t : σ}, RunsN (EntJn g J) xs s t → RunsB J (entsG g xs) s (true, t)
  | [], s, t, h => by rw [show t = s from h]; rfl
  | x :: xs, s, t, ⟨q, h1, h⟩ => by
    have h2 := entN h
    unfold entsG at h2 ⊢
    rcases h1 with ⟨h1, h3⟩ | ⟨h1, z, h3, h4, h5⟩
    · rw [List.filter_cons, if_neg (by rw [h1]; exact Bool.false_ne_true), ← h3]; exact h2
    · rw [List.filter_cons, if_pos h1, List.map_cons]
      exact ⟨z, h3, by rw [if_pos h4, ← h5]; exact h2⟩
theorem entX {σ : Type} {g : PT → Bool} {J : SPrefix × Int → σ → Bool × σ → Prop} {c : Code} : ∀ {xs : List PT} {s t : σ}, RunsX (EntJn g J) (EntJx g J) c xs s t → c = .ret ∧ RunsB J (entsG g xs) s (false, t)
  | [], s, t, h => h.elim
  | x :: xs, s, t, .inl ⟨h1, h2, z, h3, h4, h5⟩ => ⟨h1, by
    unfold entsG
    rw [List.filter_cons, if_pos h2, List.map_cons]
    exact ⟨z, h3, by rw [if_neg (by rw [h4]; exact Bool.false_ne_true), h5]⟩⟩
  | x :: xs, s, t, .inr ⟨q, h1, h⟩ => by
    obtain ⟨e, h2⟩ := entX h
    refine ⟨e, ?_⟩
    unfold entsG at h2 ⊢
    rcases h1 with ⟨h1, h3⟩ | ⟨h1, z, h3, h4, h5⟩
    · rw [List.filter_cons, if_neg (by rw [h1]; exact Bool.false_ne_true), ← h3]; exact h2
    · rw [List.filter_cons, if_pos h1, List.map_cons]
      exact ⟨z, h3, by rw [if_pos h4, ← h5]; exact h2⟩
def EntAt (t : Tt) (tk : OV) (bt bk : Nat) (w : World) : Prop := t.At w ∧ PtsTo (ovE nilPtr) w bt 0 t.ptr ∧ PtsTo (ovE nilFn) w bk 0 tk
def TakeAt (f : FuncId) (cap : List Value) (g : PT → Bool) (xs : List PT) (w : World) : Prop := ∀ x ∈ xs, x.At w → Calls Try.prog f ([x.ptr.v] ++ cap).toArray w (RetV w (.bool (g x)))

theorem ty103 : TyOK Try.prog 103 (ovE nilFn) := TyOK.mk' (by kernel_rfl) (by kernel_rfl)

theorem ent_walk {σ : Type} (S : σ → Res) (ok : SPrefix × Int → σ → Prop) (J : SPrefix × Int → σ → Bool × σ → Prop) (yv : OV) (t : Tt) (f : FuncId) (cap : List Value) (g : PT → Bool) (bt bk : Nat) (s : σ) (w : World) (ho : t.OK) (henf : Gx.Enters Try.prog f) (hf : ∀ w1, Keeps (S s).foot w w1 → EntAt t (clo f cap) bt bk w1 ∧ TakeAt f cap g (t.l.pre ++ t.r.pre) w1) (hl : Okay ok J (entsG g (t.l.pre ++ t.r.pre)) s) (hat : At (S s) w) (hY : YieldAt Try.prog yv.v encE w (S s).foot ok S J) : Calls Try.prog 56 #[yv.v, .pointer (some ⟨bt, 0, none⟩), .pointer (some ⟨bk, 0, none⟩)] w (RetR w (S s) (RunsY J (entsG g (t.l.pre ++ t.r.pre)) s) (fun _ => .tuple #[]) S) := by
  refine enterM (S s).foot 30 [S s] Try.func56 rfl rfl (Nat.le_of_ble_eq_true rfl) (start_at hat) ?_
  refine seq (region (cons (box (E := (ovE nilFn)) (.t rfl) (fun b1 => ?_))))
  refine nil (pN (seq (region (cons (opv (Ev.to (v' := t.ptr.v) (Ev.load ty24 (.t rfl) (ptsL (fun w I => (hf w I.keeps).1.2.1) (Lens.id _))) (rfl)) ?_)))))
  refine cons (opv (Ev.makeBound (f := 43) (.cons (.t rfl) .nil) .nil) ?_)
  refine nil (pN (block (rangeF2 (ζ := Unit) (m := []) (ps := [7]) encN S s (t.l.pre ++ t.r.pre) (EntJn g J) (EntJx g J) (fun x z => [dz, (2, true, .pointer (some ⟨bk, 0, none⟩)), (3, true, .pointer (some ⟨b1, 0, none⟩)), (4, true, x.ptr.v)]) (fun x z => ([] : List Res)) (by repeat first | exact Rem.head | apply Rem.tail) (by repeat first | exact Rem.head | apply Rem.tail) rfl (.t rfl) ⟨43, [t.ptr.v], [], rfl⟩ (fun _ => rfl) rfl (fun w I hb => nodes_iter t ho w _ (fun w1 k => (hf w1 (I.later (by repeat first | exact mH | apply mT | apply mA) k)).1.1)) (fun l x w => ?_) (fun l x s zv n0 w hx hn0 hft hb => ?_) (fun s D hr => ?_) (fun c s D hr => ?_))))
  · refine regionI (consT (opv (Ev.assign (.t rfl)) (nilI (gd () (by repeat first | exact Sub.nil | refine Sub.cons rfl ?_) (by repeat first | exact sR | exact sN | apply sC | apply sS | apply sA)))))
  · obtain ⟨pre, post, hxe, hxr⟩ := hx
    have hx : x ∈ t.l.pre ++ t.r.pre := by rw [hxe]; simp
    have hxm := hx
    obtain ⟨b, q, u, h, l, r, rfl⟩ : ∃ b q u h l r, x = PT.node b q u h l r := by
      rcases List.mem_append.1 hx with hx | hx
      · exact PT.pre_node hx
      · exact PT.pre_node hx
    have hxat : ∀ w1, Keeps (MS S s n0) w w1 → (PT.node b q u h l r).At w1 := fun w1 k => by
      have h9 := (hf w1 (hb w1 k).keeps).1.1
      rcases List.mem_append.1 hx with hx | hx
      · exact PT.pre_at h9.2.1 hx
      · exact PT.pre_at h9.2.2 hx
    refine blockI (seqI ?_)
    rcases (show h = false ∨ (h = true ∧ g (PT.node b q u h l r) = false) ∨ (h = true ∧ g (PT.node b q u h l r) = true) from by cases h <;> cases g _ <;> simp) with hh | ⟨hh, hg⟩ | ⟨hh, hg⟩
    · refine drawIn ([] : List Res) (by kernel_rfl) ?_
      refine tkI 0 rfl (Ev.to (v' := .pointer (some ⟨b, 0, none⟩)) (Ev.move (.t rfl)) (rfl)) ?_
      refine tkI 1 rfl (Ev.nilCheck (.t rfl)) ?_
      refine tkI 2 rfl (Ev.fieldAddr (o := 19) (.t rfl) (by kernel_rfl)) ?_
      refine tkI 3 rfl (Ev.to (v' := .bool false) (Ev.load ty4 (.t rfl) (ptsL (fun w I => (hxat w I.keeps).1) STrieNode.l_has)) (congrArg Value.bool hh)) ?_
      refine tkI 4 rfl (Ev.move (.t rfl)) ?_
      refine tkgI 5 rfl rfl rfl (Ev.vac (v := .bool false) rfl) ?_
      refine tkgI 6 rfl rfl rfl (Ev.vac (v := .bool false) rfl) ?_
      refine tkgI 7 rfl rfl rfl (Ev.vac (v := .bool false) rfl) ?_
      refine tkI 8 rfl (Ev.to (v' := .bool false) (Ev.pickA (.t rfl) (fun {_} h => by cases h; rfl) ⟨_, rfl⟩ (by intro h1 h; first | (rw [h] <;> rfl) | (rw [h1, h] <;> rfl) | (rw [h, h1] <;> rfl) | simp_all) (.c (v := .bool false) rfl)) (rfl)) ?_
      refine tkI 9 rfl (Ev.move (.t rfl)) ?_
      refine tkgI 10 rfl rfl rfl (Ev.vac (v := .bool false) rfl) ?_
      refine tkgI 11 rfl rfl rfl (Ev.vac (v := .bool false) rfl) ?_
      refine tkgI 12 rfl rfl rfl (Ev.vac (v := .bool false) rfl) ?_
      refine tkgI 13 rfl rfl rfl (Ev.vac (v := .bool false) rfl) ?_
      refine tkgI 14 rfl rfl rfl (Ev.vac (v := .bool false) rfl) ?_
      refine tkgI 15 rfl rfl rfl (Ev.vac (v := .bool false) rfl) ?_
      refine tkgI 16 rfl rfl rfl (Ev.vac (v := .bool false) rfl) ?_
      refine tkgI 17 rfl rfl rfl (Ev.vac (v := .bool false) rfl) ?_
      refine tkgI 18 rfl rfl rfl (Ev.vac (v := .bool false) rfl) ?_
      refine tkgI 19 rfl rfl rfl (Ev.vac (v := .bool false) rfl) ?_
      refine tkgI 20 rfl rfl rfl (Ev.vac (v := .bool false) rfl) ?_
      refine tkI 21 rfl (Ev.to (v' := .bool false) (Ev.pickA (.t rfl) (fun {_} h => by cases h; rfl) ⟨_, rfl⟩ (by intro h1 h; first | (rw [h] <;> rfl) | (rw [h1, h] <;> rfl) | (rw [h, h1] <;> rfl) | simp_all) (.c (v := .bool false) rfl)) (rfl)) ?_
      refine ovrI (pN (iteFI rfl (rfl) ?_))
      refine skipI (bN ?_)
      exact rdN hn0 s (.inl ⟨by show (h && g _) = false; rw [hh]; rfl, rfl⟩) mH
    · refine drawIn ([] : List Res) (by kernel_rfl) ?_
      refine tkI 0 rfl (Ev.to (v' := .pointer (some ⟨b, 0, none⟩)) (Ev.move (.t rfl)) (rfl)) ?_
      refine tkI 1 rfl (Ev.nilCheck (.t rfl)) ?_
      refine tkI 2 rfl (Ev.fieldAddr (o := 19) (.t rfl) (by kernel_rfl)) ?_
      refine tkI 3 rfl (Ev.to (v' := .bool true) (Ev.load ty4 (.t rfl) (ptsL (fun w I => (hxat w I.keeps).1) STrieNode.l_has)) (congrArg Value.bool hh)) ?_
      refine tkI 4 rfl (Ev.move (.t rfl)) ?_
      refine tkgI 5 rfl rfl rfl (Ev.to (v' := (clo f cap).v) (Ev.load ty80 (.t rfl) (ptsL (fun w I => (hf w (hb w I.keeps).keeps).1.2.2) (Lens.id _))) (rfl)) ?_
      refine tkgI 6 rfl rfl rfl (Ev.to (v' := (PT.node b q u h l r).ptr.v) (Ev.move (.t rfl)) (rfl)) ?_
      refine al1I 7 rfl (opT (callcg rfl rfl (.g rfl id) henf (.cons (.g rfl id) .nil) (fun hg w I => (hf w (hb w I.keeps).keeps).2 _ hxm (hxat w I.keeps)) ?_))
      refine hdnI (tkI 8 rfl (Ev.to (v' := .bool false) (Ev.pickA (.t rfl) (fun {_} h => by cases h; rfl) ⟨_, rfl⟩ (by intro h1 h; first | (rw [h] <;> rfl) | (rw [h1, h] <;> rfl) | (rw [h, h1] <;> rfl) | simp_all) (.c (v := .bool false) rfl)) (congrArg Value.bool hg)) ?_)
      refine tkI 9 rfl (Ev.move (.t rfl)) ?_
      refine tkgI 10 rfl rfl rfl (Ev.vac (v := .bool false) rfl) ?_
      refine tkgI 11 rfl rfl rfl (Ev.vac (v := .bool false) rfl) ?_
      refine tkgI 12 rfl rfl rfl (Ev.vac (v := .bool false) rfl) ?_
      refine tkgI 13 rfl rfl rfl (Ev.vac (v := .bool false) rfl) ?_
      refine tkgI 14 rfl rfl rfl (Ev.vac (v := .bool false) rfl) ?_
      refine tkgI 15 rfl rfl rfl (Ev.vac (v := .bool false) rfl) ?_
      refine tkgI 16 rfl rfl rfl (Ev.vac (v := .bool false) rfl) ?_
      refine tkgI 17 rfl rfl rfl (Ev.vac (v := .bool false) rfl) ?_
      refine tkgI 18 rfl rfl rfl (Ev.vac (v := .bool false) rfl) ?_
      refine tkgI 19 rfl rfl rfl (Ev.vac (v := .bool false) rfl) ?_
      refine tkgI 20 rfl rfl rfl (Ev.vac (v := .bool false) rfl) ?_
      refine tkI 21 rfl (Ev.to (v' := .bool false) (Ev.pickA (.t rfl) (fun {_} h => by cases h; rfl) ⟨_, rfl⟩ (by intro h1 h; first | (rw [h] <;> rfl) | (rw [h1, h] <;> rfl) | (rw [h, h1] <;> rfl) | simp_all) (.c (v := .bool false) rfl)) (rfl)) ?_
      refine ovrI (pN (iteFI rfl (rfl) ?_))
      refine skipI (bN ?_)
      exact rdN hn0 s (.inl ⟨by show (h && g _) = false; rw [hg, Bool.and_false], rfl⟩) mH
    · have hhg : ((PT.node b q u h l r).key.2.2 && g (PT.node b q u h l r)) = true := by show (h && g _) = true; rw [hg, hh]; rfl
      have hin : ok (q, u) s := by
        have h8 := hl
        rw [hxe, entsG_app] at h8
        have h9 := h8.right (entN hxr) rfl
        unfold entsG at h9
        rw [List.filter_cons, if_pos hhg, List.map_cons] at h9
        exact h9.1
      refine drawIn ([] : List Res) (by kernel_rfl) ?_
      refine tkI 0 rfl (Ev.to (v' := .pointer (some ⟨b, 0, none⟩)) (Ev.move (.t rfl)) (rfl)) ?_
      refine tkI 1 rfl (Ev.nilCheck (.t rfl)) ?_
      refine tkI 2 rfl (Ev.fieldAddr (o := 19) (.t rfl) (by kernel_rfl)) ?_
      refine tkI 3 rfl (Ev.to (v' := .bool true) (Ev.load ty4 (.t rfl) (ptsL (fun w I => (hxat w I.keeps).1) STrieNode.l_has)) (congrArg Value.bool hh)) ?_
      refine tkI 4 rfl (Ev.move (.t rfl)) ?_
      refine tkgI 5 rfl rfl rfl (Ev.to (v' := (clo f cap).v) (Ev.load ty80 (.t rfl) (ptsL (fun w I => (hf w (hb w I.keeps).keeps).1.2.2) (Lens.id _))) (rfl)) ?_
      refine tkgI 6 rfl rfl rfl (Ev.to (v' := (PT.node b q u h l r).ptr.v) (Ev.move (.t rfl)) (rfl)) ?_
      refine al1I 7 rfl (opT (callcg rfl rfl (.g rfl id) henf (.cons (.g rfl id) .nil) (fun hg w I => (hf w (hb w I.keeps).keeps).2 _ hxm (hxat w I.keeps)) ?_))
      refine hdnI (tkI 8 rfl (Ev.to (v' := .bool true) (Ev.pickA (.t rfl) (fun {_} h => by cases h; rfl) ⟨_, rfl⟩ (by intro h1 h; first | (rw [h] <;> rfl) | (rw [h1, h] <;> rfl) | (rw [h, h1] <;> rfl) | simp_all) (.c (v := .bool false) rfl)) (congrArg Value.bool hg)) ?_)
      refine tkI 9 rfl (Ev.move (.t rfl)) ?_
      refine tkgI 10 rfl rfl rfl (Ev.to (v' := yv.v) (Ev.load ty103 (.t rfl) (fun w I => ptsVar (by repeat first | exact mH | apply mT | apply mA) (Lens.id _) w (hb w I.keeps))) (rfl)) ?_
      refine tkgI 11 rfl rfl rfl (Ev.to (v' := .pointer (some ⟨b, 0, none⟩)) (Ev.move (.t rfl)) (rfl)) ?_
      refine tkgI 12 rfl rfl rfl (Ev.nilCheck (.g rfl id)) ?_
      refine tkgI 13 rfl rfl rfl (Ev.fieldAddr (o := 0) (.g rfl id) (by kernel_rfl)) ?_
      refine tkgI 14 rfl rfl rfl (Ev.load ty36 (.g rfl id) (ptsL (fun w I => (hxat w I.keeps).1) STrieNode.l_p)) ?_
      refine tkgI 15 rfl rfl rfl (Ev.to (v' := .pointer (some ⟨b, 0, none⟩)) (Ev.move (.t rfl)) (rfl)) ?_
      refine tkgI 16 rfl rfl rfl (Ev.nilCheck (.g rfl id)) ?_
      refine tkgI 17 rfl rfl rfl (Ev.fieldAddr (o := 18) (.g rfl id) (by kernel_rfl)) ?_
      refine tkgI 18 rfl rfl rfl (Ev.load ty3 (.g rfl id) (ptsL (fun w I => (hxat w I.keeps).1) STrieNode.l_v)) ?_
      refine al1I 19 rfl (opgTI rfl rfl rfl (callY (X := Bool × σ) (r := S s) (r' := fun q => S q.2) (L' := fun q => [S q.2]) (vs := encE (q, u)) (J (q, u) s) (fun q => .bool q.1) (fun q => Upd.head) (.t rfl) (.cons (.t rfl) (.cons (.t rfl) .nil)) (fun w I => hY (q, u) s w hin (hb w I.keeps).keeps (at_mem (by repeat first | exact mH | apply mT | apply mA) w I) hft) (fun q1 hq1 => ?_)))
      refine hdnI (tkgI 20 rfl rfl rfl (Ev.not (.g rfl id)) ?_)
      refine tkI 21 rfl (Ev.to (v' := .bool (!q1.1)) (Ev.pickA (.t rfl) (fun {_} h => by cases h; rfl) ⟨_, rfl⟩ (by intro h1 h; first | (rw [h] <;> rfl) | (rw [h1, h] <;> rfl) | (rw [h, h1] <;> rfl) | simp_all) (.c (v := .bool false) rfl)) (rfl)) ?_
      refine ovrI (pN ?_)
      first | refine iteDI rfl (fun h0 => ?_) (fun h0 => ?_) | refine iteI rfl (fun h0 => ?_) (fun h0 => ?_)
      · refine retI (bR ?_)
        have hqb : q1.1 = false := by simpa using h0
        exact rdR hn0 q1.2 ⟨rfl, hhg, q1, hq1, hqb, rfl⟩ mH
      · refine skipI (bN ?_)
        have hqb : q1.1 = true := by simpa using h0
        exact rdN hn0 q1.2 (.inr ⟨hhg, q1, hq1, hqb, rfl⟩) mH
  · have hen := (entN hr).runs
    refine bN (doneM' (by repeat first | exact Rem.head | apply Rem.tail) rfl rfl .nil (fun w I => ?_))
    exact retR (X := σ) _ hen rfl (by repeat first | exact mH | apply mT | apply mA) w I
  · obtain ⟨rfl, hen0⟩ := entX hr
    have hen := hen0.runs
    refine ret (bR (doneM (by repeat first | exact Rem.head | apply Rem.tail) rfl rfl .nil (fun w I => ?_)))
    exact retR (X := σ) _ hen rfl (by repeat first | exact mH | apply mT | apply mA) w I
end Go.Proofs.Ytjjlofjpdklbgaa
