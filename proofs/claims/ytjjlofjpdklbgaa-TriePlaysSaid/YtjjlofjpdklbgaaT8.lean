/- trie -/
import Derived.Test.YtjjlofjpdklbgaaT7
set_option linter.unusedVariables false
set_option linter.unusedSimpArgs false
namespace Go.Proofs.Ytjjlofjpdklbgaa
open Go Go.Gx

/-- The nodes on the way to p that cover it. -/
def PT.way (p : SPrefix) : PT → List PT
  | .nil => []
  | .node b q u h l r => if coversP q p = true then .node b q u h l r :: (if ltP q p = true then (if bitP q p = true then r.way p else l.way p) else []) else []
def PT.key : PT → SPrefix × Int × Bool
  | .nil => (ePrefix.zero, 0, false)
  | .node _ q u h _ _ => (q, u, h)
def PT.size : PT → Nat
  | .nil => 0
  | .node _ _ _ _ l r => l.size + r.size + 1
theorem PT.kid_size (bb : Bool) (b : Nat) (q : SPrefix) (u : Int) (h : Bool) (l r : PT) : (PT.kid bb l r).size < (PT.node b q u h l r).size := by cases bb <;> simp only [kid, size, cond_true, cond_false] <;> omega
theorem PT.way_nil (p : SPrefix) : PT.way p .nil = [] := rfl
theorem PT.way_no {p : SPrefix} {b : Nat} {q : SPrefix} {u : Int} {h : Bool} {l r : PT} (hc : coversP q p = false) : PT.way p (.node b q u h l r) = [] := by rw [PT.way, if_neg (by rw [hc]; exact Bool.false_ne_true)]
theorem PT.way_end {p : SPrefix} {b : Nat} {q : SPrefix} {u : Int} {h : Bool} {l r : PT} (hc : coversP q p = true) (hl : ¬ q.bits < p.bits) : PT.way p (.node b q u h l r) = [.node b q u h l r] := by
  have e : ¬ ltP q p = true := fun e => hl (of_decide_eq_true e)
  rw [PT.way, if_pos hc, if_neg e]
theorem PT.way_more {p : SPrefix} {b : Nat} {q : SPrefix} {u : Int} {h : Bool} {l r : PT} {bb : Bool} (hc : coversP q p = true) (hl : q.bits < p.bits) (hb : bitP q p = bb) : PT.way p (.node b q u h l r) = .node b q u h l r :: PT.way p (PT.kid bb l r) := by
  have e : ltP q p = true := decide_eq_true hl
  subst hb
  rw [PT.way, if_pos hc, if_pos e]
  cases bitP q p <;> rfl
theorem PT.way_map (p : SPrefix) : ∀ t : PT, (t.way p).map PT.key = t.tr.path coversP ltP bitP p
  | .nil => rfl
  | .node b q u h l r => by
    have h1 := PT.way_map p l
    have h2 := PT.way_map p r
    simp only [PT.way, PT.tr, Tr.path]
    split
    · split
      · split
        · rw [List.map_cons, h2]; rfl
        · rw [List.map_cons, h1]; rfl
      · rfl
    · rfl
theorem PT.way_node {p : SPrefix} : ∀ {t : PT} {x : PT}, x ∈ t.way p → ∃ b q u h l r, x = .node b q u h l r
  | .nil, x, hx => by simp [PT.way] at hx
  | .node b q u h l r, x, hx => by
    simp only [PT.way] at hx
    split at hx
    · rcases List.mem_cons.1 hx with rfl | hx
      · exact ⟨b, q, u, h, l, r, rfl⟩
      · split at hx
        · split at hx
          · exact PT.way_node hx
          · exact PT.way_node hx
        · simp at hx
    · simp at hx
theorem PT.way_at {p : SPrefix} {w : World} : ∀ {t : PT} {x : PT}, t.At w → x ∈ t.way p → x.At w
  | .nil, x, _, hx => by simp [PT.way] at hx
  | .node b q u h l r, x, hat, hx => by
    simp only [PT.way] at hx
    split at hx
    · rcases List.mem_cons.1 hx with rfl | hx
      · exact hat
      · split at hx
        · split at hx
          · exact PT.way_at hat.2.2 hx
          · exact PT.way_at hat.2.1 hx
        · simp at hx
    · simp at hx
theorem PT.split (p : SPrefix) (t : PT) : t = .nil ∨ (∃ b q u h l r, t = .node b q u h l r ∧ coversP q p = false) ∨ (∃ b q u h l r, t = .node b q u h l r ∧ coversP q p = true) := by
  cases t with
  | nil => exact .inl rfl
  | node b q u h l r =>
    cases hc : coversP q p with
    | false => exact .inr (.inl ⟨b, q, u, h, l, r, rfl, hc⟩)
    | true => exact .inr (.inr ⟨b, q, u, h, l, r, rfl, hc⟩)
def DownAt (t : Tt) (p : SPrefix) (bt bp : Nat) (w : World) : Prop := t.At w ∧ PtsTo (ovE nilPtr) w bt 0 t.ptr ∧ PtsTo ePrefix w bp 0 p
abbrev encN : PT → List Value := fun x => [x.ptr.v]

theorem ty24 : TyOK Try.prog 24 (ovE nilPtr) := TyOK.mk' (by kernel_rfl) (by kernel_rfl)

theorem en15 : Gx.Enters Try.prog 15 := Gx.Enters.mk' (by kernel_rfl)

theorem down_walk {σ : Type} (S : σ → Res) (ok : PT → σ → Prop) (J : PT → σ → Bool × σ → Prop) (yv : Value) (w : World) (s : σ) (t : Tt) (p : SPrefix) (bt bp : Nat) (hp : checkP p = 0) (hf : ∀ w', Keeps (S s).foot w w' → DownAt t p bt bp w') (hl : Okay ok J (PT.way p (PT.kid p.addr.v6 t.l t.r)) s) (hat : At (S s) w) (hY : YieldAt Try.prog yv encN w (S s).foot ok S J) : Calls Try.prog 59 #[yv, .pointer (some ⟨bt, 0, none⟩), .pointer (some ⟨bp, 0, none⟩)] w (RetR w (S s) (RunsY J (PT.way p (PT.kid p.addr.v6 t.l t.r)) s) (fun _ => .tuple #[]) S) := by
  refine enter (S s).foot 51 [S s] Try.func59 rfl rfl (Nat.le_of_ble_eq_true rfl) (start_at hat) ?_
  refine seq ?_
  have hbn := bI_nn p.addr.v6
  have hbt : (bI p.addr.v6).toNat < 2 := by omega
  refine draw' (by kernel_rfl) ?_
  refine tk 0 rfl (Ev.to (v' := .pointer (some ⟨t.b, 0, none⟩)) (Ev.load ty24 (.t rfl) (ptsL (fun w I => (hf w I.keeps).2.1) (Lens.id _))) (rfl)) ?_
  refine tk 1 rfl (Ev.fieldAddr (o := 0) (.t rfl) (by kernel_rfl)) ?_
  refine tk 2 rfl (Ev.load ty31 (.t rfl) (ptsL (fun w I => (hf w I.keeps).2.2) SPrefix.l_addr)) ?_
  refine tk 4 rfl (Ev.nilCheck (.t rfl)) ?_
  refine tk 5 rfl (Ev.fieldAddr (o := 2) (.t rfl) (by kernel_rfl)) ?_
  refine al1 3 rfl ((callv en34 (.cons (.t rfl) .nil) (fun w I => kind_ok p.addr w) ?_))
  refine hdn (tk 6 rfl (Ev.indexAddrA Try.underlying58 ty57 (.t rfl) (.t rfl) (fun _ => by omega)) ?_)
  refine tk 7 rfl (Ev.to (v' := (PT.kid p.addr.v6 t.l t.r).ptr.v) (Ev.load ty57 (.t rfl) (ptsL (fun w I => (hf w I.keeps).1.1) (Lens.comp STrieTrie.l_roots (lArr (n := 2) (ovE nilPtr) _ (by omega))))) (congrArg OV.v (kids_at t.l t.r p.addr.v6 hbt))) ?_
  refine tk 8 rfl (Ev.assign (.t rfl)) ?_
  refine ovr (pN (block (lp (X := PT × σ) (fun x : PT × σ => (∀ w', Keeps (S s).foot w w' → x.1.At w') ∧ (∀ z, RunsY J (PT.way p x.1) x.2 z → RunsY J (PT.way p (PT.kid p.addr.v6 t.l t.r)) s z) ∧ (Okay ok J (PT.way p x.1) x.2)) (fun x : PT × σ => [dz, (0, true, yv), (1, true, .pointer (some ⟨bt, 0, none⟩)), (2, true, .pointer (some ⟨bp, 0, none⟩)), (4, true, x.1.ptr.v)]) (fun x : PT × σ => [S x.2]) (fun x : PT × σ => x.1.size) ((PT.kid p.addr.v6 t.l t.r), s) ⟨?_, ?_, ?_⟩ (fun x hx => ?_))))
  · exact fun w1 k => (hf w1 k).1.kid _
  · exact fun z h => h
  · exact hl
  obtain ⟨cur, s1⟩ := x
  obtain ⟨hc, hr, hlv⟩ : (∀ w', Keeps (S s).foot w w' → cur.At w') ∧ (∀ z, RunsY J (PT.way p cur) s1 z → RunsY J (PT.way p (PT.kid p.addr.v6 t.l t.r)) s z) ∧ (Okay ok J (PT.way p cur) s1) := hx
  show Sat _ _ [dz, (0, true, yv), (1, true, .pointer (some ⟨bt, 0, none⟩)), (2, true, .pointer (some ⟨bp, 0, none⟩)), (4, true, cur.ptr.v)] [S s1]
  refine seq (seq ?_)
  rcases PT.split p cur with rfl | ⟨b, q, u, h, l, r, rfl, hcv⟩ | ⟨b, q, u, h, l, r, rfl, hcv⟩
  · refine wideI (drawIn ([] : List Res) (by kernel_rfl) ?_)
    refine tkI 0 rfl (Ev.move (.t rfl)) ?_
    refine tkI 1 rfl (Ev.to (v' := .bool false) (Ev.neq_p Try.underlying57 (.t rfl) (.c rfl)) (rfl)) ?_
    refine tkI 2 rfl (Ev.move (.t rfl)) ?_
    refine tkgI 3 rfl rfl rfl (Ev.vac (v := .bool false) rfl) ?_
    refine tkgI 4 rfl rfl rfl (Ev.vac (v := .bool false) rfl) ?_
    refine tkgI 5 rfl rfl rfl (Ev.vac (v := .bool false) rfl) ?_
    refine tkgI 6 rfl rfl rfl (Ev.vac (v := .bool false) rfl) ?_
    refine tkgI 7 rfl rfl rfl (Ev.vac (v := .bool false) rfl) ?_
    refine tkgI 8 rfl rfl rfl (Ev.vac (v := .bool false) rfl) ?_
    refine tkI 9 rfl (Ev.to (v' := .bool false) (Ev.pickA (.t rfl) (fun {_} h => by cases h; rfl) ⟨_, rfl⟩ (by intro h1 h; first | (rw [h] <;> rfl) | (rw [h1, h] <;> rfl) | (rw [h, h1] <;> rfl) | simp_all) (.c (v := .bool false) rfl)) (rfl)) ?_
    refine tkI 10 rfl (Ev.move (.t rfl)) ?_
    refine tkgI 11 rfl rfl rfl (Ev.vac (v := .bool false) rfl) ?_
    refine tkgI 12 rfl rfl rfl (Ev.vac (v := .bool false) rfl) ?_
    refine tkgI 13 rfl rfl rfl (Ev.vac (v := .bool false) rfl) ?_
    refine tkI 14 rfl (Ev.to (v' := .bool false) (Ev.pickA (.t rfl) (fun {_} h => by cases h; rfl) ⟨_, rfl⟩ (by intro h1 h; first | (rw [h] <;> rfl) | (rw [h1, h] <;> rfl) | (rw [h, h1] <;> rfl) | simp_all) (.c (v := .bool false) rfl)) (rfl)) ?_
    refine tkI 15 rfl (Ev.move (.t rfl)) ?_
    refine tkgI 16 rfl rfl rfl (Ev.vac (v := .bool false) rfl) ?_
    refine tkgI 17 rfl rfl rfl (Ev.vac (v := .bool false) rfl) ?_
    refine tkgI 18 rfl rfl rfl (Ev.vac (v := .bool false) rfl) ?_
    refine tkgI 19 rfl rfl rfl (Ev.vac (v := .bool false) rfl) ?_
    refine tkgI 20 rfl rfl rfl (Ev.vac (v := .bool false) rfl) ?_
    refine tkgI 21 rfl rfl rfl (Ev.vac (v := .bool false) rfl) ?_
    refine tkgI 22 rfl rfl rfl (Ev.vac (v := .bool false) rfl) ?_
    refine tkgI 23 rfl rfl rfl (Ev.vac (v := .bool false) rfl) ?_
    refine tkI 24 rfl (Ev.to (v' := .bool false) (Ev.pickA (.t rfl) (fun {_} h => by cases h; rfl) ⟨_, rfl⟩ (by intro h1 h; first | (rw [h] <;> rfl) | (rw [h1, h] <;> rfl) | (rw [h, h1] <;> rfl) | simp_all) (.c (v := .bool false) rfl)) (rfl)) ?_
    refine ovrI (pN (condF rfl (rfl) ?_))
    refine exit (pX (pX (bX (done' rfl .nil (fun w I => ?_)))))
    exact retR (X := σ) s1 (hr _ rfl) rfl (by repeat first | exact mH | apply mT | apply mA) w I
  · refine wideI (drawIn ([] : List Res) (by kernel_rfl) ?_)
    refine tkI 0 rfl (Ev.to (v' := .pointer (some ⟨b, 0, none⟩)) (Ev.move (.t rfl)) (rfl)) ?_
    refine tkI 1 rfl (Ev.to (v' := .bool true) (Ev.neq_p Try.underlying57 (.t rfl) (.c rfl)) (rfl)) ?_
    refine tkI 2 rfl (Ev.move (.t rfl)) ?_
    refine tkgI 3 rfl rfl rfl (Ev.to (v' := .pointer (some ⟨b, 0, none⟩)) (Ev.move (.t rfl)) (rfl)) ?_
    refine tkgI 4 rfl rfl rfl (Ev.nilCheck (.g rfl id)) ?_
    refine tkgI 5 rfl rfl rfl (Ev.fieldAddr (o := 0) (.g rfl id) (by kernel_rfl)) ?_
    refine tkgI 6 rfl rfl rfl (Ev.load ty36 (.g rfl id) (ptsL (fun w I => (hc w I.keeps).1) STrieNode.l_p)) ?_
    refine tkgI 7 rfl rfl rfl (Ev.load ty36 (.t rfl) (ptsL (fun w I => (hf w I.keeps).2.2) (Lens.id _))) ?_
    refine al1I 8 rfl (opT (callg rfl rfl en15 (.cons (.g rfl id) (.cons (.g rfl id) .nil)) (fun hg w I => coversP_ok _ _ w) ?_))
    refine hdnI (tkI 9 rfl (Ev.to (v' := .bool false) (Ev.pickA (.t rfl) (fun {_} h => by cases h; rfl) ⟨_, rfl⟩ (by intro h1 h; first | (rw [h] <;> rfl) | (rw [h1, h] <;> rfl) | (rw [h, h1] <;> rfl) | simp_all) (.c (v := .bool false) rfl)) (congrArg Value.bool hcv)) ?_)
    refine tkI 10 rfl (Ev.move (.t rfl)) ?_
    refine tkgI 11 rfl rfl rfl (Ev.vac (v := .bool false) rfl) ?_
    refine tkgI 12 rfl rfl rfl (Ev.vac (v := .bool false) rfl) ?_
    refine tkgI 13 rfl rfl rfl (Ev.vac (v := .bool false) rfl) ?_
    refine tkI 14 rfl (Ev.to (v' := .bool false) (Ev.pickA (.t rfl) (fun {_} h => by cases h; rfl) ⟨_, rfl⟩ (by intro h1 h; first | (rw [h] <;> rfl) | (rw [h1, h] <;> rfl) | (rw [h, h1] <;> rfl) | simp_all) (.c (v := .bool false) rfl)) (rfl)) ?_
    refine tkI 15 rfl (Ev.move (.t rfl)) ?_
    refine tkgI 16 rfl rfl rfl (Ev.vac (v := .bool false) rfl) ?_
    refine tkgI 17 rfl rfl rfl (Ev.vac (v := .bool false) rfl) ?_
    refine tkgI 18 rfl rfl rfl (Ev.vac (v := .bool false) rfl) ?_
    refine tkgI 19 rfl rfl rfl (Ev.vac (v := .bool false) rfl) ?_
    refine tkgI 20 rfl rfl rfl (Ev.vac (v := .bool false) rfl) ?_
    refine tkgI 21 rfl rfl rfl (Ev.vac (v := .bool false) rfl) ?_
    refine tkgI 22 rfl rfl rfl (Ev.vac (v := .bool false) rfl) ?_
    refine tkgI 23 rfl rfl rfl (Ev.vac (v := .bool false) rfl) ?_
    refine tkI 24 rfl (Ev.to (v' := .bool false) (Ev.pickA (.t rfl) (fun {_} h => by cases h; rfl) ⟨_, rfl⟩ (by intro h1 h; first | (rw [h] <;> rfl) | (rw [h1, h] <;> rfl) | (rw [h, h1] <;> rfl) | simp_all) (.c (v := .bool false) rfl)) (rfl)) ?_
    refine ovrI (pN (condF rfl (rfl) ?_))
    refine exit (pX (pX (bX (done' rfl .nil (fun w I => ?_)))))
    exact retR (X := σ) s1 (hr _ (by rw [PT.way_no hcv]; rfl)) rfl (by repeat first | exact mH | apply mT | apply mA) w I
  · have hxin : ok (PT.node b q u h l r) s1 := by
      have h9 := hlv
      rw [PT.way, if_pos hcv] at h9
      exact h9.1
    refine wideI (drawIn ([] : List Res) (by kernel_rfl) ?_)
    refine tkI 0 rfl (Ev.to (v' := .pointer (some ⟨b, 0, none⟩)) (Ev.move (.t rfl)) (rfl)) ?_
    refine tkI 1 rfl (Ev.to (v' := .bool true) (Ev.neq_p Try.underlying57 (.t rfl) (.c rfl)) (rfl)) ?_
    refine tkI 2 rfl (Ev.move (.t rfl)) ?_
    refine tkgI 3 rfl rfl rfl (Ev.to (v' := .pointer (some ⟨b, 0, none⟩)) (Ev.move (.t rfl)) (rfl)) ?_
    refine tkgI 4 rfl rfl rfl (Ev.nilCheck (.g rfl id)) ?_
    refine tkgI 5 rfl rfl rfl (Ev.fieldAddr (o := 0) (.g rfl id) (by kernel_rfl)) ?_
    refine tkgI 6 rfl rfl rfl (Ev.load ty36 (.g rfl id) (ptsL (fun w I => (hc w I.keeps).1) STrieNode.l_p)) ?_
    refine tkgI 7 rfl rfl rfl (Ev.load ty36 (.t rfl) (ptsL (fun w I => (hf w I.keeps).2.2) (Lens.id _))) ?_
    refine al1I 8 rfl (opT (callg rfl rfl en15 (.cons (.g rfl id) (.cons (.g rfl id) .nil)) (fun hg w I => coversP_ok _ _ w) ?_))
    refine hdnI (tkI 9 rfl (Ev.to (v' := .bool true) (Ev.pickA (.t rfl) (fun {_} h => by cases h; rfl) ⟨_, rfl⟩ (by intro h1 h; first | (rw [h] <;> rfl) | (rw [h1, h] <;> rfl) | (rw [h, h1] <;> rfl) | simp_all) (.c (v := .bool false) rfl)) (congrArg Value.bool hcv)) ?_)
    refine tkI 10 rfl (Ev.move (.t rfl)) ?_
    refine tkgI 11 rfl rfl rfl (Ev.move (.t rfl)) ?_
    refine tkgI 12 rfl rfl rfl (Ev.to (v' := .pointer (some ⟨b, 0, none⟩)) (Ev.move (.t rfl)) (rfl)) ?_
    refine al1I 13 rfl (opgTI rfl rfl rfl (callY (X := Bool × σ) (r := S s1) (r' := fun q => S q.2) (L' := fun q => [S q.2]) (vs := encN (PT.node b q u h l r)) (J (PT.node b q u h l r) s1) (fun q => .bool q.1) (fun q => Upd.head) (.t rfl) (.cons (.t rfl) .nil) (fun w I => hY.call (x := PT.node b q u h l r) hxin (by repeat first | exact mH | apply mT | apply mA) w I) (fun q1 hq1 => ?_)))
    refine hdnI (tkI 14 rfl (Ev.to (v' := .bool q1.1) (Ev.pickA (.t rfl) (fun {_} h => by cases h; rfl) ⟨_, rfl⟩ (by intro h1 h; first | (rw [h] <;> rfl) | (rw [h1, h] <;> rfl) | (rw [h, h1] <;> rfl) | simp_all) (.c (v := .bool false) rfl)) (rfl)) ?_)
    refine tkI 15 rfl (Ev.move (.t rfl)) ?_
    refine tkgI 16 rfl rfl rfl (Ev.to (v' := .pointer (some ⟨b, 0, none⟩)) (Ev.move (.t rfl)) (rfl)) ?_
    refine tkgI 17 rfl rfl rfl (Ev.nilCheck (.g rfl id)) ?_
    refine tkgI 18 rfl rfl rfl (Ev.fieldAddr (o := 0) (.g rfl id) (by kernel_rfl)) ?_
    refine tkgI 19 rfl rfl rfl (Ev.fieldAddr (o := 17) (.g rfl id) (by kernel_rfl)) ?_
    refine tkgI 20 rfl rfl rfl (Ev.load ty3 (.g rfl id) (ptsL (fun w I => (hc w I.keeps).1) (Lens.comp STrieNode.l_p SPrefix.l_bits))) ?_
    refine tkgI 21 rfl rfl rfl (Ev.fieldAddr (o := 17) (.t rfl) (by kernel_rfl)) ?_
    refine tkgI 22 rfl rfl rfl (Ev.load ty3 (.g rfl id) (ptsL (fun w I => (hf w I.keeps).2.2) SPrefix.l_bits)) ?_
    refine tkgI 23 rfl rfl rfl (Ev.lss_i (.g rfl id) (.g rfl id)) ?_
    refine tkI 24 rfl (Ev.pickA (.t rfl) (fun {_} h => by cases h; rfl) ⟨_, rfl⟩ (by intro h1 h; first | (rw [h] <;> rfl) | (rw [h1, h] <;> rfl) | (rw [h, h1] <;> rfl) | simp_all) (.c (v := .bool false) rfl)) ?_
    refine ovrI (pN ?_)
    first | refine condD rfl (fun h0 => ?_) (fun h0 => ?_) | refine cond rfl (fun h0 => ?_) (fun h0 => ?_)
    · have hq : q1.1 = true ∧ q.bits < p.bits := by
        have h9 := Bool.and_eq_true_iff.1 h0
        exact ⟨h9.1, of_decide_eq_true h9.2⟩
      obtain ⟨bb, hbb⟩ : ∃ z, bitP q p = z := ⟨_, rfl⟩
      have hbb1 := bI_nn bb
      have hbb2 : (bI bb).toNat < 2 := by omega
      have hq0 : 0 ≤ q.bits ∧ q.bits < 128 := by
        have hcv2 := hcv
        unfold coversP at hcv2
        simp only [Bool.and_eq_true] at hcv2
        have h1 := (checkP_zero q).1 ((hasP_iff _ _).1 hcv2.2).1
        have h2 := (checkP_zero p).1 hp
        have := wd_le p.addr
        omega
      refine skip (pN (seq (block (skip (bN (pN (draw' (by kernel_rfl) ?_)))))))
      refine tk 0 rfl (Ev.to (v' := .pointer (some ⟨b, 0, none⟩)) (Ev.move (.t rfl)) (rfl)) ?_
      refine tk 1 rfl (Ev.fieldAddr (o := 0) (.t rfl) (by kernel_rfl)) ?_
      refine tk 2 rfl (Ev.load ty31 (.t rfl) (ptsL (fun w I => (hf w I.keeps).2.2) SPrefix.l_addr)) ?_
      refine tk 3 rfl (Ev.to (v' := .pointer (some ⟨b, 0, none⟩)) (Ev.move (.t rfl)) (rfl)) ?_
      refine tk 4 rfl (Ev.nilCheck (.t rfl)) ?_
      refine tk 5 rfl (Ev.fieldAddr (o := 0) (.t rfl) (by kernel_rfl)) ?_
      refine tk 6 rfl (Ev.fieldAddr (o := 17) (.t rfl) (by kernel_rfl)) ?_
      refine tk 7 rfl (Ev.load ty3 (.t rfl) (ptsL (fun w I => (hc w I.keeps).1) (Lens.comp STrieNode.l_p SPrefix.l_bits))) ?_
      refine tk 9 rfl (Ev.nilCheck (.t rfl)) ?_
      refine tk 10 rfl (Ev.fieldAddr (o := 20) (.t rfl) (by kernel_rfl)) ?_
      refine al1 8 rfl ((callv en58 (.cons (.t rfl) (.cons (.t rfl) .nil)) (fun w I => bit_g _ _ w hq0 bb hbb) ?_))
      refine hdn (tk 11 rfl (Ev.indexAddrA Try.underlying58 ty57 (.t rfl) (.t rfl) (fun _ => by omega)) ?_)
      refine tk 12 rfl (Ev.to (v' := (PT.kid bb l r).ptr.v) (Ev.load ty57 (.t rfl) (ptsL (fun w I => (hc w I.keeps).1) (Lens.comp STrieNode.l_kids (lArr (n := 2) (ovE nilPtr) _ (by omega))))) (congrArg OV.v (kids_at l r bb hbb2))) ?_
      refine tk 13 rfl (Ev.assign (.t rfl)) ?_
      refine ovr (pN (nx (X := PT × σ) ((PT.kid bb l r), q1.2) ⟨?_, ?_, ?_⟩ ?_))
      · try dsimp only
        exact fun w1 k => PT.At.kid (hc w1 k).2.1 (hc w1 k).2.2 bb
      · try dsimp only
        exact fun z hz => hr z (by rw [PT.way_more hcv hq.2 hbb]; exact ⟨q1, hq1, by rw [if_pos hq.1]; exact hz⟩)
      · try dsimp only
        rw [PT.way_more hcv hq.2 hbb] at hlv
        exact hlv.2 _ hq1 hq.1
      · try dsimp only
        exact PT.kid_size bb b q u h l r
    · have hq : ¬ (q1.1 = true ∧ q.bits < p.bits) := fun e => by
        have h9 : (q1.1 && decide (q.bits < p.bits)) = false := h0
        rw [e.1, decide_eq_true e.2] at h9
        cases h9
      refine exit (pX (pX (bX (done' rfl .nil (fun w I => ?_)))))
      refine retR (X := σ) q1.2 (hr _ ?_) rfl (by repeat first | exact mH | apply mT | apply mA) w I
      by_cases hlt : q.bits < p.bits
      · rw [PT.way_more hcv hlt rfl]
        exact ⟨q1, hq1, by rw [if_neg (fun e => hq ⟨e, hlt⟩)]⟩
      · rw [PT.way_end hcv hlt]
        refine ⟨q1, hq1, ?_⟩
        split
        · rfl
        · rfl

theorem down_iter (t : Tt) (p : SPrefix) (hp : checkP p = 0) (bt bp : Nat) (w0 : World) (M : Nat → Prop) (hf : ∀ w', Keeps M w0 w' → DownAt t p bt bp w') : IterAt Try.prog (bnd 59 [] [.pointer (some ⟨bt, 0, none⟩), .pointer (some ⟨bp, 0, none⟩)]).v encN w0 M (PT.way p (PT.kid p.addr.v6 t.l t.r)) := fun σ S ok J yv w s hl hk hfo hat hY =>
  CallsV.of (Gx.Enters.mk' (by kernel_rfl)) (down_walk S ok J yv.v w s t p bt bp hp (fun w' k => hf w' (hk.trans' k (fun i hi hm => (hfo i hm).resolve_left (by omega)))) hl hat hY)

theorem down_ok (t : Tt) (p : SPrefix) (w : World) : Calls Try.prog 39 #[t.ptr.v, ePrefix.val p] w (RetN w (fun _ : Nat × Nat => True) (fun x => (bnd 59 [] [.pointer (some ⟨x.1, 0, none⟩), .pointer (some ⟨x.2, 0, none⟩)]).v) (fun x => [Var x.2 ePrefix p 36, Var x.1 (ovE nilPtr) t.ptr 24])) := by
  refine enter0 6 Try.func39 rfl rfl (Nat.le_of_ble_eq_true rfl) ?_
  refine seq (region (cons (box (E := (ovE nilPtr)) (.t rfl) (fun b1 => ?_))))
  refine cons (box (E := ePrefix) (.t rfl) (fun b2 => ?_))
  refine cons (opv (Ev.assign (.c (v := Go.Value.nilFunc) rfl)) ?_)
  refine nil (pN (seq (region (cons (opv (Ev.makeFunc (f := 59) (.cons (.t rfl) (.cons (.t rfl) .nil))) ?_)))))
  refine cons (opv (Ev.assign (.t rfl)) (nil (pN (ret (done rfl (.tmp rfl .nil) (fun w I => ?_))))))
  exact retNP (b1, b2) trivial rfl (by repeat first | exact SubP.nil | refine SubP.cons (by repeat first | exact Rem.head | apply Rem.tail) ?_) w I
end Go.Proofs.Ytjjlofjpdklbgaa
