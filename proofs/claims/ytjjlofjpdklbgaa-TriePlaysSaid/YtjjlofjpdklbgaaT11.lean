/- trie -/
import Derived.Test.YtjjlofjpdklbgaaT10
set_option linter.unusedVariables false
set_option linter.unusedSimpArgs false
namespace Go.Proofs.Ytjjlofjpdklbgaa
open Go Go.Gx

/-- All nodes, in order. -/
def PT.pre : PT → List PT
  | .nil => []
  | .node b q u h l r => .node b q u h l r :: (l.pre ++ r.pre)
theorem PT.pre_node : ∀ {t : PT} {x : PT}, x ∈ t.pre → ∃ b q u h l r, x = .node b q u h l r
  | .nil, x, hx => by simp [PT.pre] at hx
  | .node b q u h l r, x, hx => by
    simp only [PT.pre, List.mem_cons, List.mem_append] at hx
    rcases hx with rfl | hx | hx
    · exact ⟨b, q, u, h, l, r, rfl⟩
    · exact PT.pre_node hx
    · exact PT.pre_node hx
theorem PT.pre_at {w : World} : ∀ {t : PT} {x : PT}, t.At w → x ∈ t.pre → x.At w
  | .nil, x, _, hx => by simp [PT.pre] at hx
  | .node b q u h l r, x, hat, hx => by
    simp only [PT.pre, List.mem_cons, List.mem_append] at hx
    rcases hx with rfl | hx | hx
    · exact hat
    · exact PT.pre_at hat.2.1 hx
    · exact PT.pre_at hat.2.2 hx
theorem PT.pre_shp : ∀ t : PT, t.pre.map (fun x => x.key.1) = t.tr.shp
  | .nil => rfl
  | .node b q u h l r => by
    simp only [PT.pre, PT.tr, Tr.shp, List.map_cons, List.map_append, PT.pre_shp l, PT.pre_shp r]
    rfl
theorem PT.pre_ents : ∀ t : PT, (t.pre.filter (fun x => x.key.2.2)).map (fun x => (x.key.1, x.key.2.1)) = t.tr.ents
  | .nil => rfl
  | .node b q u h l r => by
    simp only [PT.pre, PT.tr, Tr.ents, List.filter_cons, List.filter_append]
    have e : (PT.node b q u h l r).key.2.2 = h := rfl
    rw [e]
    cases h with
    | true => simp only [if_true, List.map_cons, List.map_append, PT.pre_ents l, PT.pre_ents r]; rfl
    | false => simp only [Bool.false_eq_true, if_false, List.map_append, PT.pre_ents l, PT.pre_ents r]; rfl
def wclo (by_ bw : Nat) : OV := bnd 62 [] [.pointer (some ⟨by_, 0, none⟩), .pointer (some ⟨bw, 0, none⟩)]
def WalkAt (yv : OV) (by_ bw : Nat) (w : World) : Prop := PtsTo (ovE nilFn) w by_ 0 yv ∧ PtsTo (ovE nilFn) w bw 0 (wclo by_ bw)
abbrev WalkR {σ : Type} (S : σ → Res) (J : PT → σ → Bool × σ → Prop) (xs : List PT) (s : σ) (w : World) : Ending → World → Prop := RetR w (S s) (RunsB J xs s) (fun q => .bool q.1) (fun q => S q.2)

theorem walk_nil {σ : Type} (S : σ → Res) (ok : PT → σ → Prop) (J : PT → σ → Bool × σ → Prop) (yv : OV) (by_ bw : Nat) (s : σ) (w : World) (hat : At (S s) w) : Calls Try.prog 62 #[PT.nil.ptr.v, .pointer (some ⟨by_, 0, none⟩), .pointer (some ⟨bw, 0, none⟩)] w (WalkR S J PT.nil.pre s w) := by
  refine enter (S s).foot 30 [S s] Try.func62 rfl rfl (Nat.le_of_ble_eq_true rfl) (start_at hat) ?_
  refine seq (region (cons (opv (Ev.assign (.c (v := .bool false) rfl)) ?_)))
  refine nil (pN (seq (draw' (by kernel_rfl) ?_)))
  refine tk 0 rfl (Ev.move (.t rfl)) ?_
  refine tk 1 rfl (Ev.to (v' := .bool true) (Ev.eql_p Try.underlying57 (.t rfl) (.c rfl)) (rfl)) ?_
  refine tk 2 rfl (Ev.move (.t rfl)) ?_
  refine tkg 3 rfl rfl rfl (Ev.vac (v := .bool false) rfl) ?_
  refine tkg 4 rfl rfl rfl (Ev.vac (v := .bool false) rfl) ?_
  refine tkg 5 rfl rfl rfl (Ev.vac (v := .bool false) rfl) ?_
  refine tkg 6 rfl rfl rfl (Ev.vac (v := .bool false) rfl) ?_
  refine tkg 7 rfl rfl rfl (Ev.vac (v := .bool false) rfl) ?_
  refine tkg 8 rfl rfl rfl (Ev.vac (v := .bool false) rfl) ?_
  refine tkg 9 rfl rfl rfl (Ev.vac (v := .bool false) rfl) ?_
  refine tkg 10 rfl rfl rfl (Ev.vac (v := .bool false) rfl) ?_
  refine tkg 11 rfl rfl rfl (Ev.vac (v := .bool false) rfl) ?_
  refine tkg 12 rfl rfl rfl (Ev.vac (v := .bool false) rfl) ?_
  refine tkg 13 rfl rfl rfl (Ev.vac (v := .bool false) rfl) ?_
  refine tkg 14 rfl rfl rfl (Ev.vac (v := .bool false) rfl) ?_
  refine tkg 15 rfl rfl rfl (Ev.vac (v := .bool false) rfl) ?_
  refine tkg 16 rfl rfl rfl (Ev.vac (v := .bool false) rfl) ?_
  refine tkg 17 rfl rfl rfl (Ev.vac (v := .bool false) rfl) ?_
  refine tkg 18 rfl rfl rfl (Ev.vac (v := .bool false) rfl) ?_
  refine tkg 19 rfl rfl rfl (Ev.vac (v := .bool false) rfl) ?_
  refine tkg 20 rfl rfl rfl (Ev.vac (v := .bool false) rfl) ?_
  refine tkg 21 rfl rfl rfl (Ev.vac (v := .bool false) rfl) ?_
  refine tkg 22 rfl rfl rfl (Ev.vac (v := .bool false) rfl) ?_
  refine tkg 23 rfl rfl rfl (Ev.vac (v := .bool false) rfl) ?_
  refine tk 24 rfl (Ev.to (v' := .bool true) (Ev.pickO (.t rfl) (.c (v := .bool true) rfl) (fun {_} h => by cases h; rfl) ⟨_, rfl⟩ (by intro h1 h; first | (rw [h] <;> rfl) | (rw [h1, h] <;> rfl) | (rw [h, h1] <;> rfl) | simp_all)) (rfl)) ?_
  refine tk 25 rfl (Ev.assign (.t rfl)) ?_
  refine ovr (pN (ret (done rfl (.tmp rfl .nil) (fun w I => ?_))))
  exact retR (X := Bool × σ) (J := RunsB J PT.nil.pre s) (val := fun q => .bool q.1) (r' := fun q => S q.2) (true, s) rfl rfl (by repeat first | exact mH | apply mT | apply mA) w I

theorem ty80 : TyOK Try.prog 80 (ovE nilFn) := TyOK.mk' (by kernel_rfl) (by kernel_rfl)

theorem walk_node {σ : Type} (S : σ → Res) (ok : PT → σ → Prop) (J : PT → σ → Bool × σ → Prop) (yv : OV) (by_ bw : Nat) (b : Nat) (q : SPrefix) (u : Int) (h : Bool) (l r : PT) (s : σ) (w : World) (hf : ∀ w1, Keeps (S s).foot w w1 → (PT.node b q u h l r).At w1 ∧ WalkAt yv by_ bw w1) (hl0 : Okay ok J (PT.node b q u h l r).pre s) (hat : At (S s) w) (hY : YieldAt Try.prog yv.v encN w (S s).foot ok S J) (ihl : ∀ (w' : World) (s' : σ), (∀ w1, Keeps (S s').foot w' w1 → l.At w1 ∧ WalkAt yv by_ bw w1) → Okay ok J l.pre s' → At (S s') w' → YieldAt Try.prog yv.v encN w' (S s').foot ok S J → Calls Try.prog 62 #[l.ptr.v, .pointer (some ⟨by_, 0, none⟩), .pointer (some ⟨bw, 0, none⟩)] w' (WalkR S J l.pre s' w')) (ihr : ∀ (w' : World) (s' : σ), (∀ w1, Keeps (S s').foot w' w1 → r.At w1 ∧ WalkAt yv by_ bw w1) → Okay ok J r.pre s' → At (S s') w' → YieldAt Try.prog yv.v encN w' (S s').foot ok S J → Calls Try.prog 62 #[r.ptr.v, .pointer (some ⟨by_, 0, none⟩), .pointer (some ⟨bw, 0, none⟩)] w' (WalkR S J r.pre s' w')) : Calls Try.prog 62 #[(PT.node b q u h l r).ptr.v, .pointer (some ⟨by_, 0, none⟩), .pointer (some ⟨bw, 0, none⟩)] w (WalkR S J (PT.node b q u h l r).pre s w) := by
  refine enter (S s).foot 30 [S s] Try.func62 rfl rfl (Nat.le_of_ble_eq_true rfl) (start_at hat) ?_
  refine seq (region (cons (opv (Ev.assign (.c (v := .bool false) rfl)) ?_)))
  refine nil (pN (seq (wideI (drawIn ([] : List Res) (by kernel_rfl) ?_))))
  refine tkI 0 rfl (Ev.to (v' := .pointer (some ⟨b, 0, none⟩)) (Ev.move (.t rfl)) (rfl)) ?_
  refine tkI 1 rfl (Ev.to (v' := .bool false) (Ev.eql_p Try.underlying57 (.t rfl) (.c rfl)) (rfl)) ?_
  refine tkI 2 rfl (Ev.move (.t rfl)) ?_
  refine tkgI 3 rfl rfl rfl (Ev.to (v' := yv.v) (Ev.load ty80 (.t rfl) (ptsL (fun w I => (hf w I.keeps).2.1) (Lens.id _))) (rfl)) ?_
  refine tkgI 4 rfl rfl rfl (Ev.to (v' := (PT.node b q u h l r).ptr.v) (Ev.move (.t rfl)) (rfl)) ?_
  refine al1I 5 rfl (opgTI rfl rfl rfl (callY (X := Bool × σ) (r := S s) (r' := fun q => S q.2) (L' := fun q => [S q.2]) (vs := encN (PT.node b q u h l r)) (J (PT.node b q u h l r) s) (fun q => .bool q.1) (fun q => Upd.head) (.t rfl) (.cons (.t rfl) .nil) (fun w I => hY.call (x := PT.node b q u h l r) hl0.1 (by repeat first | exact mH | apply mT | apply mA) w I) (fun q1 hq1 => ?_)))
  refine hdnI ?_
  obtain ⟨c1, s1⟩ := q1
  cases c1
  · refine tkgI 6 rfl rfl rfl (Ev.to (v' := .bool false) (Ev.move (.g rfl id)) (rfl)) ?_
    refine tkgI 7 rfl rfl rfl (Ev.vac (v := .bool false) rfl) ?_
    refine tkgI 8 rfl rfl rfl (Ev.vac (v := .bool false) rfl) ?_
    refine tkgI 9 rfl rfl rfl (Ev.vac (v := .bool false) rfl) ?_
    refine tkgI 10 rfl rfl rfl (Ev.vac (v := .bool false) rfl) ?_
    refine tkgI 11 rfl rfl rfl (Ev.vac (v := .bool false) rfl) ?_
    refine tkgI 12 rfl rfl rfl (Ev.vac (v := .bool false) rfl) ?_
    refine tkgI 13 rfl rfl rfl (Ev.vac (v := .bool false) rfl) ?_
    refine tkgI 14 rfl rfl rfl (Ev.to (v' := .bool false) (Ev.pickA (.g rfl id) (fun {_} h => by cases h; rfl) ⟨_, rfl⟩ (by intro h1 h; first | (rw [h] <;> rfl) | (rw [h1, h] <;> rfl) | (rw [h, h1] <;> rfl) | simp_all) (.c (v := .bool false) rfl)) (rfl)) ?_
    refine tkgI 15 rfl rfl rfl (Ev.to (v' := .bool false) (Ev.move (.g rfl id)) (rfl)) ?_
    refine tkgI 16 rfl rfl rfl (Ev.vac (v := .bool false) rfl) ?_
    refine tkgI 17 rfl rfl rfl (Ev.vac (v := .bool false) rfl) ?_
    refine tkgI 18 rfl rfl rfl (Ev.vac (v := .bool false) rfl) ?_
    refine tkgI 19 rfl rfl rfl (Ev.vac (v := .bool false) rfl) ?_
    refine tkgI 20 rfl rfl rfl (Ev.vac (v := .bool false) rfl) ?_
    refine tkgI 21 rfl rfl rfl (Ev.vac (v := .bool false) rfl) ?_
    refine tkgI 22 rfl rfl rfl (Ev.vac (v := .bool false) rfl) ?_
    refine tkgI 23 rfl rfl rfl (Ev.to (v' := .bool false) (Ev.pickA (.g rfl id) (fun {_} h => by cases h; rfl) ⟨_, rfl⟩ (by intro h1 h; first | (rw [h] <;> rfl) | (rw [h1, h] <;> rfl) | (rw [h, h1] <;> rfl) | simp_all) (.c (v := .bool false) rfl)) (rfl)) ?_
    refine tkI 24 rfl (Ev.to (v' := .bool false) (Ev.pickO (.t rfl) (.c (v := .bool true) rfl) (fun {_} h => by cases h; rfl) ⟨_, rfl⟩ (by intro h1 h; first | (rw [h] <;> rfl) | (rw [h1, h] <;> rfl) | (rw [h, h1] <;> rfl) | simp_all)) (rfl)) ?_
    refine tkI 25 rfl (Ev.assign (.t rfl)) ?_
    refine ovrI (pN (ret (done rfl (.tmp rfl .nil) (fun w I => ?_))))
    exact retR (X := Bool × σ) (false, s1) ⟨_, hq1, by rw [if_neg Bool.false_ne_true]⟩ rfl (by repeat first | exact mH | apply mT | apply mA) w I
  · have hl1 : Okay ok J l.pre s1 := (hl0.2 _ hq1 rfl).left
    refine tkgI 6 rfl rfl rfl (Ev.to (v' := .bool true) (Ev.move (.g rfl id)) (rfl)) ?_
    refine tkgI 7 rfl rfl rfl (Ev.to (v' := (wclo by_ bw).v) (Ev.load ty80 (.t rfl) (ptsL (fun w I => (hf w I.keeps).2.2) (Lens.id _))) (rfl)) ?_
    refine tkgI 8 rfl rfl rfl (Ev.to (v' := .pointer (some ⟨b, 0, none⟩)) (Ev.move (.t rfl)) (rfl)) ?_
    refine tkgI 9 rfl rfl rfl (Ev.nilCheck (.g rfl id)) ?_
    refine tkgI 10 rfl rfl rfl (Ev.fieldAddr (o := 20) (.g rfl id) (by kernel_rfl)) ?_
    refine tkgI 11 rfl rfl rfl (Ev.indexAddrA Try.underlying58 ty57 (.g rfl id) (.c (v := I 0) rfl) (fun _ => by first | omega | (rename_i hg; simp at hg; omega))) ?_
    refine tkgI 12 rfl rfl rfl (Ev.to (v' := l.ptr.v) (Ev.load ty57 (.g rfl id) (ptsL (fun w I => (hf w I.keeps).1.1) (Lens.comp STrieNode.l_kids (lArr (n := 2) (ovE nilPtr) _ (by first | omega | (rename_i hg; simp at hg; omega)))))) (rfl)) ?_
    refine al1I 13 rfl (opT (opgT rfl rfl rfl (callcr (X := Bool × σ) (f := 62) (cap := [.pointer (some ⟨by_, 0, none⟩), .pointer (some ⟨bw, 0, none⟩)]) (vs := [l.ptr.v]) (r := S s1) (r' := fun q => S q.2) (L' := fun q => [S q.2]) (RunsB J l.pre s1) (fun q => .bool q.1) (fun q => Upd.head) (.t rfl) (Gx.Enters.mk' (by kernel_rfl)) (.cons (.t rfl) .nil) (fun w I => ihl w s1 (fun w1 k => ⟨(hf w1 (I.later (by repeat first | exact mH | apply mT | apply mA) k)).1.2.1, (hf w1 (I.later (by repeat first | exact mH | apply mT | apply mA) k)).2⟩) hl1 (at_mem (by repeat first | exact mH | apply mT | apply mA) w I) (hY.later (K := ⟨30, _, (S s).foot⟩) (by repeat first | exact mH | apply mT | apply mA) w I)) (fun q2 hq2 => ?_))))
    refine hdnI ?_
    obtain ⟨c2, s2⟩ := q2
    cases c2
    · refine tkgI 14 rfl rfl rfl (Ev.to (v' := .bool false) (Ev.pickA (.g rfl id) (fun {_} h => by cases h; rfl) ⟨_, rfl⟩ (by intro h1 h; first | (rw [h] <;> rfl) | (rw [h1, h] <;> rfl) | (rw [h, h1] <;> rfl) | simp_all) (.c (v := .bool false) rfl)) (rfl)) ?_
      refine tkgI 15 rfl rfl rfl (Ev.to (v' := .bool false) (Ev.move (.g rfl id)) (rfl)) ?_
      refine tkgI 16 rfl rfl rfl (Ev.vac (v := .bool false) rfl) ?_
      refine tkgI 17 rfl rfl rfl (Ev.vac (v := .bool false) rfl) ?_
      refine tkgI 18 rfl rfl rfl (Ev.vac (v := .bool false) rfl) ?_
      refine tkgI 19 rfl rfl rfl (Ev.vac (v := .bool false) rfl) ?_
      refine tkgI 20 rfl rfl rfl (Ev.vac (v := .bool false) rfl) ?_
      refine tkgI 21 rfl rfl rfl (Ev.vac (v := .bool false) rfl) ?_
      refine tkgI 22 rfl rfl rfl (Ev.vac (v := .bool false) rfl) ?_
      refine tkgI 23 rfl rfl rfl (Ev.to (v' := .bool false) (Ev.pickA (.g rfl id) (fun {_} h => by cases h; rfl) ⟨_, rfl⟩ (by intro h1 h; first | (rw [h] <;> rfl) | (rw [h1, h] <;> rfl) | (rw [h, h1] <;> rfl) | simp_all) (.c (v := .bool false) rfl)) (rfl)) ?_
      refine tkI 24 rfl (Ev.to (v' := .bool false) (Ev.pickO (.t rfl) (.c (v := .bool true) rfl) (fun {_} h => by cases h; rfl) ⟨_, rfl⟩ (by intro h1 h; first | (rw [h] <;> rfl) | (rw [h1, h] <;> rfl) | (rw [h, h1] <;> rfl) | simp_all)) (rfl)) ?_
      refine tkI 25 rfl (Ev.assign (.t rfl)) ?_
      refine ovrI (pN (ret (done rfl (.tmp rfl .nil) (fun w I => ?_))))
      exact retR (X := Bool × σ) (false, s2) ⟨_, hq1, by rw [if_pos rfl]; exact RunsB.append hq2 (by rw [if_neg Bool.false_ne_true])⟩ rfl (by repeat first | exact mH | apply mT | apply mA) w I
    · have hl2 : Okay ok J r.pre s2 := (hl0.2 _ hq1 rfl).right hq2 rfl
      refine tkgI 14 rfl rfl rfl (Ev.to (v' := .bool true) (Ev.pickA (.g rfl id) (fun {_} h => by cases h; rfl) ⟨_, rfl⟩ (by intro h1 h; first | (rw [h] <;> rfl) | (rw [h1, h] <;> rfl) | (rw [h, h1] <;> rfl) | simp_all) (.c (v := .bool false) rfl)) (rfl)) ?_
      refine tkgI 15 rfl rfl rfl (Ev.to (v' := .bool true) (Ev.move (.g rfl id)) (rfl)) ?_
      refine tkgI 16 rfl rfl rfl (Ev.to (v' := (wclo by_ bw).v) (Ev.load ty80 (.t rfl) (ptsL (fun w I => (hf w I.keeps).2.2) (Lens.id _))) (rfl)) ?_
      refine tkgI 17 rfl rfl rfl (Ev.to (v' := .pointer (some ⟨b, 0, none⟩)) (Ev.move (.t rfl)) (rfl)) ?_
      refine tkgI 18 rfl rfl rfl (Ev.nilCheck (.g rfl id)) ?_
      refine tkgI 19 rfl rfl rfl (Ev.fieldAddr (o := 20) (.g rfl id) (by kernel_rfl)) ?_
      refine tkgI 20 rfl rfl rfl (Ev.indexAddrA Try.underlying58 ty57 (.g rfl id) (.c (v := I 1) rfl) (fun _ => by first | omega | (rename_i hg; simp at hg; omega))) ?_
      refine tkgI 21 rfl rfl rfl (Ev.to (v' := r.ptr.v) (Ev.load ty57 (.g rfl id) (ptsL (fun w I => (hf w I.keeps).1.1) (Lens.comp STrieNode.l_kids (lArr (n := 2) (ovE nilPtr) _ (by first | omega | (rename_i hg; simp at hg; omega)))))) (rfl)) ?_
      refine al1I 22 rfl (opT (opgT rfl rfl rfl (callcr (X := Bool × σ) (f := 62) (cap := [.pointer (some ⟨by_, 0, none⟩), .pointer (some ⟨bw, 0, none⟩)]) (vs := [r.ptr.v]) (r := S s2) (r' := fun q => S q.2) (L' := fun q => [S q.2]) (RunsB J r.pre s2) (fun q => .bool q.1) (fun q => Upd.head) (.t rfl) (Gx.Enters.mk' (by kernel_rfl)) (.cons (.t rfl) .nil) (fun w I => ihr w s2 (fun w1 k => ⟨(hf w1 (I.later (by repeat first | exact mH | apply mT | apply mA) k)).1.2.2, (hf w1 (I.later (by repeat first | exact mH | apply mT | apply mA) k)).2⟩) hl2 (at_mem (by repeat first | exact mH | apply mT | apply mA) w I) (hY.later (K := ⟨30, _, (S s).foot⟩) (by repeat first | exact mH | apply mT | apply mA) w I)) (fun q3 hq3 => ?_))))
      refine hdnI (tkgI 23 rfl rfl rfl (Ev.to (v' := .bool q3.1) (Ev.pickA (.g rfl id) (fun {_} h => by cases h; rfl) ⟨_, rfl⟩ (by intro h1 h; first | (rw [h] <;> rfl) | (rw [h1, h] <;> rfl) | (rw [h, h1] <;> rfl) | simp_all) (.c (v := .bool false) rfl)) (rfl)) ?_)
      refine tkI 24 rfl (Ev.to (v' := .bool q3.1) (Ev.pickO (.t rfl) (.c (v := .bool true) rfl) (fun {_} h => by cases h; rfl) ⟨_, rfl⟩ (by intro h1 h; first | (rw [h] <;> rfl) | (rw [h1, h] <;> rfl) | (rw [h, h1] <;> rfl) | simp_all)) (rfl)) ?_
      refine tkI 25 rfl (Ev.assign (.t rfl)) ?_
      refine ovrI (pN (ret (done rfl (.tmp rfl .nil) (fun w I => ?_))))
      exact retR (X := Bool × σ) q3 ⟨_, hq1, by rw [if_pos rfl]; exact RunsB.append hq2 (by rw [if_pos rfl]; exact hq3)⟩ rfl (by repeat first | exact mH | apply mT | apply mA) w I

theorem walk_ok {σ : Type} (S : σ → Res) (ok : PT → σ → Prop) (J : PT → σ → Bool × σ → Prop) (yv : OV) (by_ bw : Nat) : ∀ (t : PT) (w : World) (s : σ), (∀ w1, Keeps (S s).foot w w1 → t.At w1 ∧ WalkAt yv by_ bw w1) → Okay ok J t.pre s → At (S s) w → YieldAt Try.prog yv.v encN w (S s).foot ok S J → Calls Try.prog 62 #[t.ptr.v, .pointer (some ⟨by_, 0, none⟩), .pointer (some ⟨bw, 0, none⟩)] w (WalkR S J t.pre s w)
  | .nil, w, s, _, _, hat, _ => walk_nil S ok J yv by_ bw s w hat
  | .node b q u h l r, w, s, hf, hl, hat, hY => walk_node S ok J yv by_ bw b q u h l r s w hf hl hat hY (walk_ok S ok J yv by_ bw l) (walk_ok S ok J yv by_ bw r)
end Go.Proofs.Ytjjlofjpdklbgaa
