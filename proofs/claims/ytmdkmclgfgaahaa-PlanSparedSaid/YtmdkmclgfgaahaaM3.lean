/- Part. -/
import Derived.Test.YtmdkmclgfgaahaaM2
set_option linter.unusedVariables false
set_option linter.unusedSimpArgs false
set_option linter.unusedSectionVars false
namespace Go.Proofs.Ytmdkmclgfgaahaa.Tri
open Go Go.Gx
def lcp : List Bool → List Bool → List Bool
  | a :: x, b :: y => if a = b then a :: lcp x y else []
  | _, _ => []
theorem lcp_left : ∀ x y, lcp x y <+: x
  | [], _ => by simp [lcp]
  | a :: x, [] => by simp [lcp]
  | a :: x, b :: y => by
    unfold lcp
    split
    · rw [List.cons_prefix_cons]; exact ⟨rfl, lcp_left x y⟩
    · exact List.nil_prefix
theorem lcp_comm : ∀ x y, lcp x y = lcp y x
  | [], [] => rfl
  | [], _ :: _ => rfl
  | _ :: _, [] => rfl
  | a :: x, b :: y => by
    unfold lcp
    by_cases h : a = b
    · rw [if_pos h, if_pos h.symm, lcp_comm x y, h]
    · rw [if_neg h, if_neg (fun e => h e.symm)]
theorem lcp_right (x y : List Bool) : lcp x y <+: y := by rw [lcp_comm]; exact lcp_left y x
theorem lcp_max : ∀ c x y : List Bool, c <+: x → c <+: y → c <+: lcp x y
  | [], _, _, _, _ => List.nil_prefix
  | c :: cs, [], _, h, _ => by simp at h
  | c :: cs, _ :: _, [], _, h => by simp at h
  | c :: cs, a :: x, b :: y, h1, h2 => by
    rw [List.cons_prefix_cons] at h1 h2
    unfold lcp
    rw [if_pos (h1.1.symm.trans h2.1), List.cons_prefix_cons]
    exact ⟨h1.1, lcp_max cs x y h1.2 h2.2⟩
theorem lcp_split : ∀ x y : List Bool, lcp x y ≠ x → lcp x y ≠ y → ∃ b, lcp x y ++ [b] <+: x ∧ lcp x y ++ [!b] <+: y
  | [], y, h, _ => absurd (by simp [lcp]) h
  | a :: x, [], _, h => absurd (by simp [lcp]) h
  | a :: x, b :: y, h1, h2 => by
    unfold lcp at h1 h2 ⊢
    by_cases h : a = b
    · rw [if_pos h] at h1 h2 ⊢
      subst h
      obtain ⟨c, k1, k2⟩ := lcp_split x y (fun e => h1 (by rw [e])) (fun e => h2 (by rw [e]))
      exact ⟨c, by simpa [List.cons_prefix_cons] using k1, by simpa [List.cons_prefix_cons] using k2⟩
    · rw [if_neg h]
      refine ⟨a, by simp, ?_⟩
      have : (!a) = b := by cases a <;> cases b <;> simp_all
      rw [this]
      simp
def nb (x y : List Bool) : Bool := y.getD x.length false
theorem pre_step {x y : List Bool} (h : x <+: y) (hne : x ≠ y) : x ++ [nb x y] <+: y := by
  obtain ⟨z, rfl⟩ := h
  cases z with
  | nil => simp at hne
  | cons b z =>
    have : nb x (x ++ b :: z) = b := by simp [nb, List.getD]
    rw [this]
    exact ⟨z, by simp⟩
theorem nb_of {x y : List Bool} {b : Bool} (h : x ++ [b] <+: y) : nb x y = b := by
  obtain ⟨z, rfl⟩ := h
  simp [nb, List.getD]
theorem pre_len {x y : List Bool} (h : x <+: y) (hl : y.length ≤ x.length) : x = y := List.IsPrefix.eq_of_length_le h hl
theorem pre_snoc {x y : List Bool} {b : Bool} (h : x ++ [b] <+: y) : x <+: y := (List.prefix_append x [b]).trans h
theorem pre_two {x y z : List Bool} (hx : x <+: z) (hy : y <+: z) : x <+: y ∨ y <+: x := by
  rcases Nat.le_total x.length y.length with h | h
  · exact .inl (List.prefix_of_prefix_length_le hx hy h)
  · exact .inr (List.prefix_of_prefix_length_le hy hx h)
theorem not_both {x y z : List Bool} {b : Bool} (h1 : x ++ [b] <+: y) (h2 : x ++ [!b] <+: z) (h : y <+: z) : False := by
  have e1 := nb_of (h1.trans h)
  have e2 := nb_of h2
  rw [e1] at e2
  cases b <;> simp at e2
def ltB : List Bool → List Bool → Bool
  | [], [] => false
  | [], _ :: _ => true
  | _ :: _, [] => false
  | a :: x, b :: y => (!a && b) || (a == b && ltB x y)
theorem ltB_irr : ∀ x, ltB x x = false
  | [] => rfl
  | a :: x => by simp [ltB, ltB_irr x]
theorem ltB_pre : ∀ x y : List Bool, x <+: y → x ≠ y → ltB x y = true
  | [], [], _, h => absurd rfl h
  | [], _ :: _, _, _ => rfl
  | _ :: _, [], h, _ => by simp at h
  | a :: x, b :: y, h, hne => by
    rw [List.cons_prefix_cons] at h
    obtain ⟨rfl, h⟩ := h
    have := ltB_pre x y h (fun e => hne (by rw [e]))
    simp [ltB, this]
theorem ltB_split : ∀ c x y : List Bool, c ++ [false] <+: x → c ++ [true] <+: y → ltB x y = true
  | [], x, y, h1, h2 => by
    obtain ⟨u, rfl⟩ := h1
    obtain ⟨v, rfl⟩ := h2
    simp [ltB]
  | c :: cs, x, y, h1, h2 => by
    cases x with
    | nil => simp at h1
    | cons a x =>
      cases y with
      | nil => simp at h2
      | cons b y =>
        rw [List.cons_append, List.cons_prefix_cons] at h1 h2
        have := ltB_split cs x y h1.2 h2.2
        simp [ltB, ← h1.1, ← h2.1, this]
inductive Tr (κ : Type) where
  | nil : Tr κ
  | node : κ → Int → Bool → Tr κ → Tr κ → Tr κ
def Tr.isNil {κ : Type} : Tr κ → Bool
  | .nil => true
  | _ => false
def Tr.ents {κ : Type} : Tr κ → List (κ × Int)
  | .nil => []
  | .node p v h l r => (if h = true then [(p, v)] else []) ++ (l.ents ++ r.ents)
def Tr.shp {κ : Type} : Tr κ → List κ
  | .nil => []
  | .node p _ _ l r => p :: (l.shp ++ r.shp)
def Tr.WF {κ : Type} (ok : κ → Prop) (bs : κ → List Bool) : List Bool → Tr κ → Prop
  | _, .nil => True
  | c, .node p v h l r => ok p ∧ c <+: bs p ∧ l.WF ok bs (bs p ++ [false]) ∧ r.WF ok bs (bs p ++ [true]) ∧ (h = false → v = 0 ∧ l ≠ .nil ∧ r ≠ .nil)
section
variable {κ : Type} {ok : κ → Prop} {bs : κ → List Bool}
theorem Tr.WF.mono {c d : List Bool} (h : d <+: c) : ∀ {t : Tr κ}, t.WF ok bs c → t.WF ok bs d
  | .nil, _ => trivial
  | .node _ _ _ _ _, ⟨h1, h2, h3⟩ => ⟨h1, h.trans h2, h3⟩
theorem Tr.WF.shp_in : ∀ {t : Tr κ} {c : List Bool}, t.WF ok bs c → ∀ q ∈ t.shp, ok q ∧ c <+: bs q
  | .nil, _, _, q, hq => by simp [shp] at hq
  | .node p v h l r, c, ⟨h1, h2, h3, h4, _⟩, q, hq => by
    simp only [shp, List.mem_cons, List.mem_append] at hq
    rcases hq with rfl | hq | hq
    · exact ⟨h1, h2⟩
    · have := h3.shp_in q hq
      exact ⟨this.1, h2.trans (pre_snoc this.2)⟩
    · have := h4.shp_in q hq
      exact ⟨this.1, h2.trans (pre_snoc this.2)⟩
theorem Tr.ents_shp : ∀ (t : Tr κ) (x : κ × Int), x ∈ t.ents → x.1 ∈ t.shp
  | .nil, x, h => by simp [ents] at h
  | .node p v h l r, x, hx => by
    simp only [ents, List.mem_append] at hx
    simp only [shp, List.mem_cons, List.mem_append]
    rcases hx with hx | hx | hx
    · split at hx
      · simp at hx; exact .inl (by rw [hx])
      · simp at hx
    · exact .inr (.inl (ents_shp l x hx))
    · exact .inr (.inr (ents_shp r x hx))
theorem Tr.WF.ents_in {t : Tr κ} {c : List Bool} (h : t.WF ok bs c) (x : κ × Int) (hx : x ∈ t.ents) : ok x.1 ∧ c <+: bs x.1 := h.shp_in _ (t.ents_shp x hx)
theorem Tr.WF.ne_nil : ∀ {t : Tr κ} {c : List Bool}, t.WF ok bs c → t ≠ .nil → t.ents ≠ []
  | .nil, _, _, h => absurd rfl h
  | .node p v h l r, c, ⟨_, _, h3, h4, h5⟩, _ => by
    cases h with
    | true => simp [ents]
    | false =>
      obtain ⟨_, h6, _⟩ := h5 rfl
      have := h3.ne_nil h6
      simp [ents, this]
theorem Tr.WF.shp_sorted : ∀ {t : Tr κ} {c : List Bool}, t.WF ok bs c → t.shp.Pairwise (fun a b => ltB (bs a) (bs b) = true)
  | .nil, _, _ => List.Pairwise.nil
  | .node p v h l r, c, ⟨_, h2, h3, h4, _⟩ => by
    simp only [shp]
    have low : ∀ (b : Bool) (q : κ), bs p ++ [b] <+: bs q → ltB (bs p) (bs q) = true := fun b q hq => ltB_pre _ _ (pre_snoc hq) (fun e => by
      have := hq.length_le
      rw [← e] at this
      simp at this
      omega)
    refine List.pairwise_cons.2 ⟨fun q hq => ?_, List.pairwise_append.2 ⟨h3.shp_sorted, h4.shp_sorted, fun a ha b hb => ltB_split _ _ _ (h3.shp_in a ha).2 (h4.shp_in b hb).2⟩⟩
    rcases List.mem_append.1 hq with hq | hq
    · exact low _ q (h3.shp_in q hq).2
    · exact low _ q (h4.shp_in q hq).2
theorem Tr.ents_sub : ∀ (t : Tr κ), (t.ents.map (·.1)).Sublist t.shp
  | .nil => List.Sublist.refl _
  | .node p v h l r => by
    simp only [ents, shp, List.map_append]
    have := (ents_sub l).append (ents_sub r)
    cases h with
    | true => simpa using this.cons_cons p
    | false => simpa using this.cons p
theorem Tr.WF.ents_sorted {t : Tr κ} {c : List Bool} (h : t.WF ok bs c) : t.ents.Pairwise (fun a b => ltB (bs a.1) (bs b.1) = true) :=
  List.pairwise_map.1 (h.shp_sorted.sublist t.ents_sub)
structure KeyLaw (ok : κ → Prop) (bs : κ → List Bool) (both : κ → κ → κ) (bit : κ → κ → Bool) : Prop where
  inj : ∀ p q, ok p → ok q → bs p = bs q → p = q
  both : ∀ p q, ok p → ok q → ok (both p q) ∧ bs (both p q) = lcp (bs p) (bs q)
  bit : ∀ p q, ok p → ok q → bs p <+: bs q → bs p ≠ bs q → bit p q = nb (bs p) (bs q)
variable [DecidableEq κ]
def Tr.put (both : κ → κ → κ) (bit : κ → κ → Bool) (p : κ) (v : Int) : Tr κ → Tr κ × Bool
  | .nil => (.node p v true .nil .nil, true)
  | .node q u h l r =>
    if q = p then (.node p v true l r, !h)
    else if both q p = q then
      if bit q p = true then (.node q u h l (r.put both bit p v).1, (r.put both bit p v).2) else (.node q u h (l.put both bit p v).1 r, (l.put both bit p v).2)
    else if both q p = p then
      (if bit p q = true then .node p v true .nil (.node q u h l r) else .node p v true (.node q u h l r) .nil, true)
    else (if bit (both q p) p = true then .node (both q p) 0 false (.node q u h l r) (.node p v true .nil .nil) else .node (both q p) 0 false (.node p v true .nil .nil) (.node q u h l r), true)
def Tr.bare : Tr κ → Tr κ
  | .nil => .nil
  | .node p v h l r => if h = true ∨ (l.isNil = false ∧ r.isNil = false) then .node p v h l r else if l.isNil = false then l else r
def Tr.cut (bit : κ → κ → Bool) (p : κ) : Tr κ → Tr κ
  | .nil => .nil
  | .node q u h l r => if q = p then (Tr.node q 0 false l r).bare else if bit q p = true then (Tr.node q u h l (r.cut bit p)).bare else (Tr.node q u h (l.cut bit p) r).bare
variable {both : κ → κ → κ} {bit : κ → κ → Bool}
theorem KeyLaw.ways (K : KeyLaw ok bs both bit) {q p : κ} (hq : ok q) (hp : ok p) (hne : q ≠ p) :
    (both q p = q ∧ bs q ++ [bit q p] <+: bs p) ∨ (both q p ≠ q ∧ both q p = p ∧ bs p ++ [bit p q] <+: bs q) ∨
    (both q p ≠ q ∧ both q p ≠ p ∧ ok (both q p) ∧ bs (both q p) = lcp (bs q) (bs p) ∧ bit (both q p) q = !(bit (both q p) p) ∧ bs (both q p) ++ [!(bit (both q p) p)] <+: bs q ∧ bs (both q p) ++ [bit (both q p) p] <+: bs p) := by
  obtain ⟨h1, h2⟩ := K.both q p hq hp
  have hbne : bs q ≠ bs p := fun e => hne (K.inj _ _ hq hp e)
  by_cases e1 : both q p = q
  · refine .inl ⟨e1, ?_⟩
    have hpre : bs q <+: bs p := by
      rw [e1] at h2
      rw [h2]
      exact lcp_right _ _
    rw [K.bit q p hq hp hpre hbne]
    exact pre_step hpre hbne
  · by_cases e2 : both q p = p
    · refine .inr (.inl ⟨e1, e2, ?_⟩)
      have hpre : bs p <+: bs q := by
        rw [e2] at h2
        rw [h2]
        exact lcp_left _ _
      rw [K.bit p q hp hq hpre hbne.symm]
      exact pre_step hpre hbne.symm
    · have n1 : lcp (bs q) (bs p) ≠ bs q := fun e => e1 (K.inj _ _ h1 hq (h2.trans e))
      have n2 : lcp (bs q) (bs p) ≠ bs p := fun e => e2 (K.inj _ _ h1 hp (h2.trans e))
      obtain ⟨b, g1, g2⟩ := lcp_split _ _ n1 n2
      rw [← h2] at g1 g2 n1 n2
      have b1 := K.bit _ q h1 hq (pre_snoc g1) n1
      have b2 := K.bit _ p h1 hp (pre_snoc g2) n2
      rw [nb_of g1] at b1
      rw [nb_of g2] at b2
      refine .inr (.inr ⟨e1, e2, h1, h2, ?_, ?_, ?_⟩)
      · rw [b1, b2, Bool.not_not]
      · rw [b2, Bool.not_not]; exact g1
      · rw [b2]; exact g2
theorem snoc_ne {x y : List Bool} {b : Bool} (h : x ++ [b] <+: y) : x ≠ y := fun e => by
  have := h.length_le
  rw [← e] at this
  simp at this
  omega
theorem KeyLaw.put_spec (K : KeyLaw ok bs both bit) {p : κ} (hp : ok p) (v : Int) : ∀ (t : Tr κ) (c : List Bool), t.WF ok bs c → c <+: bs p →
    (t.put both bit p v).1.WF ok bs c ∧ (t.put both bit p v).1 ≠ .nil ∧ (∀ x, x ∈ (t.put both bit p v).1.ents ↔ (x = (p, v) ∨ (x ∈ t.ents ∧ x.1 ≠ p))) ∧ ((t.put both bit p v).2 = true ↔ ∀ x ∈ t.ents, x.1 ≠ p)
  | .nil, c, _, hc => by
    refine ⟨⟨hp, hc, trivial, trivial, (fun h => by cases h)⟩, (fun h => by cases h), fun x => ?_, ?_⟩
    · simp [Tr.put, Tr.ents]
    · simp [Tr.put, Tr.ents]
  | .node q u h l r, c, hw, hc => by
    have hw' := hw
    obtain ⟨hq, h2, h3, h4, h5⟩ := hw
    have inl : ∀ x ∈ l.ents, bs q ++ [false] <+: bs x.1 := fun x hx => (h3.ents_in x hx).2
    have inr : ∀ x ∈ r.ents, bs q ++ [true] <+: bs x.1 := fun x hx => (h4.ents_in x hx).2
    by_cases e : q = p
    · subst e
      have nl : ∀ x ∈ l.ents, x.1 ≠ q := fun x hx e => snoc_ne (inl x hx) (by rw [e])
      have nr : ∀ x ∈ r.ents, x.1 ≠ q := fun x hx e => snoc_ne (inr x hx) (by rw [e])
      have hput : Tr.put both bit q v (.node q u h l r) = (.node q v true l r, !h) := by rw [Tr.put, if_pos rfl]
      rw [hput]
      refine ⟨⟨hq, h2, h3, h4, (fun h => by cases h)⟩, (fun h => by cases h), fun x => ?_, ?_⟩
      · simp only [Tr.ents, if_true, List.mem_append, List.mem_singleton]
        constructor
        · rintro (h | h | h)
          · exact .inl h
          · exact .inr ⟨.inr (.inl h), nl x h⟩
          · exact .inr ⟨.inr (.inr h), nr x h⟩
        · rintro (h | ⟨h | h | h, hn⟩)
          · exact .inl h
          · split at h
            · simp only [List.mem_singleton] at h
              rw [h] at hn
              exact absurd rfl hn
            · simp at h
          · exact .inr (.inl h)
          · exact .inr (.inr h)
      · simp only [Tr.ents, List.mem_append]
        constructor
        · intro hh x hx
          have hf : h = false := by simpa using hh
          subst hf
          rcases hx with hx | hx | hx
          · simp at hx
          · exact nl x hx
          · exact nr x hx
        · intro hh
          cases h with
          | false => rfl
          | true => exact absurd rfl (hh (q, u) (.inl (by simp)))
    · have epq : ∀ x : κ × Int, x ∈ (if h = true then [(q, u)] else []) → x.1 ≠ p := fun x hx => by
        split at hx
        · simp only [List.mem_singleton] at hx; rw [hx]; exact e
        · simp at hx
      rcases K.ways hq hp e with ⟨e1, e2⟩ | ⟨e0, e1, e2⟩ | ⟨e0, e1, e2, e3, e4, e5, e6⟩
      · cases hb : bit q p with
        | true =>
          rw [hb] at e2
          have hput : Tr.put both bit p v (.node q u h l r) = (.node q u h l (r.put both bit p v).1, (r.put both bit p v).2) := by rw [Tr.put, if_neg e, if_pos e1, if_pos hb]
          rw [hput]
          obtain ⟨g1, g2, g3, g4⟩ := K.put_spec hp v r _ h4 e2
          refine ⟨⟨hq, h2, h3, g1, fun hh => ⟨(h5 hh).1, (h5 hh).2.1, g2⟩⟩, (fun h => by cases h), fun x => ?_, ?_⟩
          · have nl : x ∈ l.ents → x.1 ≠ p := fun hx e => not_both (b := false) (inl x hx) e2 (by rw [e]; exact List.prefix_refl _)
            simp only [Tr.ents, List.mem_append, g3]
            constructor
            · rintro (h | h | h | h)
              · exact .inr ⟨.inl h, epq x h⟩
              · exact .inr ⟨.inr (.inl h), nl h⟩
              · exact .inl h
              · exact .inr ⟨.inr (.inr h.1), h.2⟩
            · rintro (h | ⟨h | h | h, hn⟩)
              · exact .inr (.inr (.inl h))
              · exact .inl h
              · exact .inr (.inl h)
              · exact .inr (.inr (.inr ⟨h, hn⟩))
          · rw [g4]
            simp only [Tr.ents, List.mem_append]
            constructor
            · rintro hh x (hx | hx | hx)
              · exact epq x hx
              · exact fun e => not_both (b := false) (inl x hx) e2 (by rw [e]; exact List.prefix_refl _)
              · exact hh x hx
            · exact fun hh x hx => hh x (.inr (.inr hx))
        | false =>
          rw [hb] at e2
          have hput : Tr.put both bit p v (.node q u h l r) = (.node q u h (l.put both bit p v).1 r, (l.put both bit p v).2) := by rw [Tr.put, if_neg e, if_pos e1, if_neg (by rw [hb]; exact Bool.false_ne_true)]
          rw [hput]
          obtain ⟨g1, g2, g3, g4⟩ := K.put_spec hp v l _ h3 e2
          refine ⟨⟨hq, h2, g1, h4, fun hh => ⟨(h5 hh).1, g2, (h5 hh).2.2⟩⟩, (fun h => by cases h), fun x => ?_, ?_⟩
          · have nr : x ∈ r.ents → x.1 ≠ p := fun hx e => not_both (b := true) (inr x hx) e2 (by rw [e]; exact List.prefix_refl _)
            simp only [Tr.ents, List.mem_append, g3]
            constructor
            · rintro (h | (h | h) | h)
              · exact .inr ⟨.inl h, epq x h⟩
              · exact .inl h
              · exact .inr ⟨.inr (.inl h.1), h.2⟩
              · exact .inr ⟨.inr (.inr h), nr h⟩
            · rintro (h | ⟨h | h | h, hn⟩)
              · exact .inr (.inl (.inl h))
              · exact .inl h
              · exact .inr (.inl (.inr ⟨h, hn⟩))
              · exact .inr (.inr h)
          · rw [g4]
            simp only [Tr.ents, List.mem_append]
            constructor
            · rintro hh x (hx | hx | hx)
              · exact epq x hx
              · exact hh x hx
              · exact fun e => not_both (b := true) (inr x hx) e2 (by rw [e]; exact List.prefix_refl _)
            · exact fun hh x hx => hh x (.inr (.inl hx))
      · have hall : ∀ x ∈ (Tr.node q u h l r).ents, x.1 ≠ p := fun x hx e' => by
          have := (hw'.mono (List.nil_prefix (l := c))).ents_in x hx
          have h9 : bs q <+: bs x.1 := by
            simp only [Tr.ents, List.mem_append] at hx
            rcases hx with hx | hx | hx
            · split at hx
              · simp only [List.mem_singleton] at hx; rw [hx]; exact List.prefix_refl _
              · simp at hx
            · exact pre_snoc (inl x hx)
            · exact pre_snoc (inr x hx)
          rw [e'] at h9
          exact snoc_ne e2 (pre_len (pre_snoc e2) h9.length_le)
        have hwq : ∀ d, d <+: bs q → (Tr.node q u h l r).WF ok bs d := fun d hd => ⟨hq, hd, h3, h4, h5⟩
        cases hb : bit p q with
        | true =>
          rw [hb] at e2
          have hput : Tr.put both bit p v (.node q u h l r) = (.node p v true .nil (.node q u h l r), true) := by rw [Tr.put, if_neg e, if_neg e0, if_pos e1, if_pos hb]
          rw [hput]
          refine ⟨⟨hp, hc, trivial, hwq _ e2, (fun h => by cases h)⟩, (fun h => by cases h), fun x => ?_, ⟨fun _ => hall, fun _ => rfl⟩⟩
          rw [show (Tr.node p v true .nil (.node q u h l r)).ents = (p, v) :: (Tr.node q u h l r).ents by simp [Tr.ents], List.mem_cons]
          exact ⟨fun h => h.imp id fun h => ⟨h, hall x h⟩, fun h => h.imp id fun h => h.1⟩
        | false =>
          rw [hb] at e2
          have hput : Tr.put both bit p v (.node q u h l r) = (.node p v true (.node q u h l r) .nil, true) := by rw [Tr.put, if_neg e, if_neg e0, if_pos e1, if_neg (by rw [hb]; exact Bool.false_ne_true)]
          rw [hput]
          refine ⟨⟨hp, hc, hwq _ e2, trivial, (fun h => by cases h)⟩, (fun h => by cases h), fun x => ?_, ⟨fun _ => hall, fun _ => rfl⟩⟩
          rw [show (Tr.node p v true (.node q u h l r) .nil).ents = (p, v) :: (Tr.node q u h l r).ents by simp [Tr.ents], List.mem_cons]
          exact ⟨fun h => h.imp id fun h => ⟨h, hall x h⟩, fun h => h.imp id fun h => h.1⟩
      · have hall : ∀ x ∈ (Tr.node q u h l r).ents, x.1 ≠ p := fun x hx e' => by
          have h9 : bs q <+: bs x.1 := by
            simp only [Tr.ents, List.mem_append] at hx
            rcases hx with hx | hx | hx
            · split at hx
              · simp only [List.mem_singleton] at hx; rw [hx]; exact List.prefix_refl _
              · simp at hx
            · exact pre_snoc (inl x hx)
            · exact pre_snoc (inr x hx)
          rw [e'] at h9
          have e7 := e5.trans h9
          have n1 := nb_of e6
          have n2 := nb_of e7
          rw [n1] at n2
          cases hbb : bit (both q p) p <;> rw [hbb] at n2 <;> cases n2
        have hwq : ∀ d, d <+: bs q → (Tr.node q u h l r).WF ok bs d := fun d hd => ⟨hq, hd, h3, h4, h5⟩
        have hcc : c <+: bs (both q p) := by rw [e3]; exact lcp_max _ _ _ h2 hc
        cases hb : bit (both q p) p with
        | true =>
          rw [hb] at e5 e6
          have hput : Tr.put both bit p v (.node q u h l r) = (.node (both q p) 0 false (.node q u h l r) (.node p v true .nil .nil), true) := by rw [Tr.put, if_neg e, if_neg e0, if_neg e1, if_pos hb]
          rw [hput]
          refine ⟨⟨e2, hcc, hwq _ e5, ⟨hp, e6, trivial, trivial, (fun h => by cases h)⟩, fun _ => ⟨rfl, (fun h => by cases h), (fun h => by cases h)⟩⟩, (fun h => by cases h), fun x => ?_, ⟨fun _ => hall, fun _ => rfl⟩⟩
          rw [show (Tr.node (both q p) 0 false (.node q u h l r) (.node p v true .nil .nil)).ents = (Tr.node q u h l r).ents ++ [(p, v)] by simp [Tr.ents], List.mem_append, List.mem_singleton]
          exact ⟨fun h => h.symm.imp id fun h => ⟨h, hall x h⟩, fun h => (h.imp id fun h => h.1).symm⟩
        | false =>
          rw [hb] at e5 e6
          have hput : Tr.put both bit p v (.node q u h l r) = (.node (both q p) 0 false (.node p v true .nil .nil) (.node q u h l r), true) := by rw [Tr.put, if_neg e, if_neg e0, if_neg e1, if_neg (by rw [hb]; exact Bool.false_ne_true)]
          rw [hput]
          refine ⟨⟨e2, hcc, ⟨hp, e6, trivial, trivial, (fun h => by cases h)⟩, hwq _ e5, fun _ => ⟨rfl, (fun h => by cases h), (fun h => by cases h)⟩⟩, (fun h => by cases h), fun x => ?_, ⟨fun _ => hall, fun _ => rfl⟩⟩
          rw [show (Tr.node (both q p) 0 false (.node p v true .nil .nil) (.node q u h l r)).ents = (p, v) :: (Tr.node q u h l r).ents by simp [Tr.ents], List.mem_cons]
          exact ⟨fun h => h.imp id fun h => ⟨h, hall x h⟩, fun h => h.imp id fun h => h.1⟩
def Tr.path (cov lt : κ → κ → Bool) (bit : κ → κ → Bool) (p : κ) : Tr κ → List (κ × Int × Bool)
  | .nil => []
  | .node q u h l r => if cov q p = true then (q, u, h) :: (if lt q p = true then (if bit q p = true then r.path cov lt bit p else l.path cov lt bit p) else []) else []
variable {cov lt : κ → κ → Bool}
structure CovLaw (ok : κ → Prop) (bs : κ → List Bool) (cov lt : κ → κ → Bool) : Prop where
  cov : ∀ q p, ok q → ok p → (cov q p = true ↔ bs q <+: bs p)
  lt : ∀ q p, ok q → ok p → (lt q p = true ↔ (bs q).length < (bs p).length)
theorem KeyLaw.path_spec (K : KeyLaw ok bs both bit) (C : CovLaw ok bs cov lt) {p : κ} (hp : ok p) : ∀ (t : Tr κ) (c : List Bool), t.WF ok bs c →
    (∀ x : κ × Int, (x.1, x.2, true) ∈ t.path cov lt bit p ↔ (x ∈ t.ents ∧ bs x.1 <+: bs p)) ∧ (∀ y ∈ t.path cov lt bit p, c <+: bs y.1 ∧ bs y.1 <+: bs p ∧ ok y.1) ∧ (t.path cov lt bit p).Pairwise (fun a b => (bs a.1).length < (bs b.1).length)
  | .nil, c, _ => ⟨fun x => by simp [Tr.path, Tr.ents], fun y hy => by simp [Tr.path] at hy, List.Pairwise.nil⟩
  | .node q u h l r, c, hw => by
    obtain ⟨hq, h2, h3, h4, h5⟩ := hw
    have inl : ∀ x ∈ l.ents, bs q ++ [false] <+: bs x.1 := fun x hx => (h3.ents_in x hx).2
    have inr : ∀ x ∈ r.ents, bs q ++ [true] <+: bs x.1 := fun x hx => (h4.ents_in x hx).2
    have hqe : ∀ x : κ × Int, x ∈ (if h = true then [(q, u)] else []) ↔ (x.1, x.2, true) = (q, u, h) := fun x => by
      cases h <;> simp [Prod.ext_iff]
    by_cases e1 : cov q p = true
    · have hpre := (C.cov q p hq hp).1 e1
      by_cases e2 : lt q p = true
      · have hlt := (C.lt q p hq hp).1 e2
        have hne : bs q ≠ bs p := fun e => by rw [e] at hlt; omega
        have hstep := pre_step hpre hne
        rw [← K.bit q p hq hp hpre hne] at hstep
        cases hb : bit q p with
        | true =>
          rw [hb] at hstep
          have hpath : Tr.path cov lt bit p (.node q u h l r) = (q, u, h) :: r.path cov lt bit p := by rw [Tr.path, if_pos e1, if_pos e2, if_pos hb]
          rw [hpath]
          obtain ⟨g1, g2, g3⟩ := K.path_spec C hp r _ h4
          refine ⟨fun x => ?_, fun y hy => ?_, List.pairwise_cons.2 ⟨fun y hy => ?_, g3⟩⟩
          · simp only [Tr.ents, List.mem_append, List.mem_cons, hqe, g1]
            constructor
            · rintro (hx | hx)
              · exact ⟨.inl hx, by have := (Prod.ext_iff.1 hx).1; simp only at this; rw [this]; exact hpre⟩
              · exact ⟨.inr (.inr hx.1), hx.2⟩
            · rintro ⟨hx | hx | hx, hn⟩
              · exact .inl hx
              · exact (not_both (b := false) (inl x hx) hstep hn).elim
              · exact .inr ⟨hx, hn⟩
          · rcases List.mem_cons.1 hy with rfl | hy
            · exact ⟨h2, hpre, hq⟩
            · have := g2 y hy
              exact ⟨h2.trans (pre_snoc this.1), this.2⟩
          · have := (g2 y hy).1.length_le
            simp at this
            show (bs q).length < (bs y.1).length
            omega
        | false =>
          rw [hb] at hstep
          have hpath : Tr.path cov lt bit p (.node q u h l r) = (q, u, h) :: l.path cov lt bit p := by rw [Tr.path, if_pos e1, if_pos e2, if_neg (by rw [hb]; exact Bool.false_ne_true)]
          rw [hpath]
          obtain ⟨g1, g2, g3⟩ := K.path_spec C hp l _ h3
          refine ⟨fun x => ?_, fun y hy => ?_, List.pairwise_cons.2 ⟨fun y hy => ?_, g3⟩⟩
          · simp only [Tr.ents, List.mem_append, List.mem_cons, hqe, g1]
            constructor
            · rintro (hx | hx)
              · exact ⟨.inl hx, by have := (Prod.ext_iff.1 hx).1; simp only at this; rw [this]; exact hpre⟩
              · exact ⟨.inr (.inl hx.1), hx.2⟩
            · rintro ⟨hx | hx | hx, hn⟩
              · exact .inl hx
              · exact .inr ⟨hx, hn⟩
              · exact (not_both (b := true) (inr x hx) hstep hn).elim
          · rcases List.mem_cons.1 hy with rfl | hy
            · exact ⟨h2, hpre, hq⟩
            · have := g2 y hy
              exact ⟨h2.trans (pre_snoc this.1), this.2⟩
          · have := (g2 y hy).1.length_le
            simp at this
            show (bs q).length < (bs y.1).length
            omega
      · have hge : ¬ (bs q).length < (bs p).length := fun h => e2 ((C.lt q p hq hp).2 h)
        have heq := pre_len hpre (by omega)
        have hpath : Tr.path cov lt bit p (.node q u h l r) = [(q, u, h)] := by rw [Tr.path, if_pos e1, if_neg e2]
        rw [hpath]
        refine ⟨fun x => ?_, fun y hy => ?_, List.pairwise_singleton _ _⟩
        · simp only [Tr.ents, List.mem_append, List.mem_singleton, hqe]
          constructor
          · intro hx
            exact ⟨.inl hx, by have := (Prod.ext_iff.1 hx).1; simp only at this; rw [this]; exact hpre⟩
          · rintro ⟨hx | hx | hx, hn⟩
            · exact hx
            · exact absurd (pre_len (pre_snoc (inl x hx)) (by rw [heq]; exact hn.length_le)) (snoc_ne (inl x hx))
            · exact absurd (pre_len (pre_snoc (inr x hx)) (by rw [heq]; exact hn.length_le)) (snoc_ne (inr x hx))
        · rw [List.mem_singleton] at hy
          subst hy
          exact ⟨h2, hpre, hq⟩
    · have hpath : Tr.path cov lt bit p (.node q u h l r) = [] := by rw [Tr.path, if_neg e1]
      rw [hpath]
      refine ⟨fun x => ?_, fun y hy => by simp at hy, List.Pairwise.nil⟩
      simp only [Tr.ents, List.mem_append]
      constructor
      · intro hx; simp at hx
      · rintro ⟨hx, hn⟩
        have h9 : bs q <+: bs x.1 := by
          rcases hx with hx | hx | hx
          · rw [hqe] at hx
            have := (Prod.ext_iff.1 hx).1
            simp only at this
            rw [this]
            exact List.prefix_refl _
          · exact pre_snoc (inl x hx)
          · exact pre_snoc (inr x hx)
        exact absurd ((C.cov q p hq hp).2 (h9.trans hn)) e1
def Tr.best (cov lt : κ → κ → Bool) (bit : κ → κ → Bool) (p : κ) (t : Tr κ) : Option (κ × Int) := (((t.path cov lt bit p).filter (·.2.2)).getLast?).map (fun n => (n.1, n.2.1))
def Tr.get (cov lt : κ → κ → Bool) (bit : κ → κ → Bool) (p : κ) (t : Tr κ) : Option Int := ((t.path cov lt bit p).find? (fun n => decide (n.1 = p) && n.2.2)).map (·.2.1)
theorem KeyLaw.best_some (K : KeyLaw ok bs both bit) (C : CovLaw ok bs cov lt) {p : κ} (hp : ok p) {t : Tr κ} {c : List Bool} (hw : t.WF ok bs c) {x : κ × Int} (h : t.best cov lt bit p = some x) :
    x ∈ t.ents ∧ bs x.1 <+: bs p ∧ ∀ y ∈ t.ents, bs y.1 <+: bs p → bs y.1 <+: bs x.1 := by
  obtain ⟨g1, g2, g3⟩ := K.path_spec C hp t c hw
  unfold Tr.best at h
  rw [Option.map_eq_some_iff] at h
  obtain ⟨n, h1, rfl⟩ := h
  obtain ⟨A, hA⟩ := List.getLast?_eq_some_iff.1 h1
  have hn : n ∈ (t.path cov lt bit p).filter (·.2.2) := by rw [hA]; simp
  obtain ⟨m1, m2⟩ := List.mem_filter.1 hn
  have hx : (n.1, n.2.1, true) ∈ t.path cov lt bit p := by
    have : n = (n.1, n.2.1, true) := by rw [← m2]
    rw [← this]; exact m1
  obtain ⟨k1, k2⟩ := (g1 (n.1, n.2.1)).1 hx
  refine ⟨k1, k2, fun y hy hyp => ?_⟩
  have hy2 := (g1 y).2 ⟨hy, hyp⟩
  have hy3 : (y.1, y.2, true) ∈ (t.path cov lt bit p).filter (·.2.2) := List.mem_filter.2 ⟨hy2, rfl⟩
  have hs := g3.filter (·.2.2)
  rw [hA] at hs hy3
  have hle : (bs y.1).length ≤ (bs n.1).length := by
    rcases List.mem_append.1 hy3 with h | h
    · have := (List.pairwise_append.1 hs).2.2 _ h n (by simp)
      simp only at this
      omega
    · rw [List.mem_singleton] at h
      rw [← h]
      exact Nat.le_refl _
  exact List.prefix_of_prefix_length_le hyp k2 hle
theorem KeyLaw.best_none (K : KeyLaw ok bs both bit) (C : CovLaw ok bs cov lt) {p : κ} (hp : ok p) {t : Tr κ} {c : List Bool} (hw : t.WF ok bs c) (h : t.best cov lt bit p = none) :
    ∀ y ∈ t.ents, ¬ bs y.1 <+: bs p := by
  obtain ⟨g1, g2, g3⟩ := K.path_spec C hp t c hw
  unfold Tr.best at h
  rw [Option.map_eq_none_iff, List.getLast?_eq_none_iff] at h
  intro y hy hyp
  have hy2 := (g1 y).2 ⟨hy, hyp⟩
  have : (y.1, y.2, true) ∈ (t.path cov lt bit p).filter (·.2.2) := List.mem_filter.2 ⟨hy2, rfl⟩
  rw [h] at this
  simp at this
theorem Tr.WF.root (K : KeyLaw ok bs both bit) {p q : κ} {u v : Int} {h k : Bool} {l r l' r' : Tr κ} {c d : List Bool} (h1 : (Tr.node p u h l r).WF ok bs c) (h2 : (Tr.node q v k l' r').WF ok bs d) (hm : ∀ x, x ∈ (Tr.node p u h l r).ents → x ∈ (Tr.node q v k l' r').ents) : bs q <+: bs p := by
  obtain ⟨a1, a2, a3, a4, a5⟩ := h1
  have inq : ∀ x ∈ (Tr.node p u h l r).ents, bs q <+: bs x.1 := fun x hx => (Tr.WF.ents_in (c := bs q) (t := Tr.node q v k l' r') ⟨h2.1, List.prefix_refl _, h2.2.2⟩ x (hm x hx)).2
  cases h with
  | true => exact inq (p, u) (by simp [Tr.ents])
  | false =>
    obtain ⟨_, nl, nr⟩ := a5 rfl
    obtain ⟨x, hx⟩ := List.exists_mem_of_ne_nil _ (a3.ne_nil nl)
    obtain ⟨y, hy⟩ := List.exists_mem_of_ne_nil _ (a4.ne_nil nr)
    have b1 := inq x (by simp [Tr.ents, hx])
    have b2 := inq y (by simp [Tr.ents, hy])
    have c1 := (a3.ents_in x hx).2
    have c2 := (a4.ents_in y hy).2
    rcases pre_two b1 (pre_snoc c1) with h | h
    · exact h
    · by_cases e : bs p = bs q
      · rw [e]; exact List.prefix_refl _
      · have d1 := pre_step h e
        have e1 := nb_of c1
        have e2 := nb_of c2
        have e3 := nb_of (d1.trans b1)
        have e4 := nb_of (d1.trans b2)
        rw [e1] at e3
        rw [e2, ← e3] at e4
        cases e4
theorem Tr.WF.small : ∀ {t : Tr κ} {c : List Bool}, t.WF ok bs c → t ≠ .nil → t.shp.length + 1 ≤ 2 * t.ents.length
  | .nil, _, _, h => absurd rfl h
  | .node p v h l r, c, ⟨_, _, h3, h4, h5⟩, _ => by
    have hl : l = .nil ∨ l.shp.length + 1 ≤ 2 * l.ents.length := by
      by_cases e : l = .nil
      · exact .inl e
      · exact .inr (h3.small e)
    have hr : r = .nil ∨ r.shp.length + 1 ≤ 2 * r.ents.length := by
      by_cases e : r = .nil
      · exact .inl e
      · exact .inr (h4.small e)
    simp only [shp, ents, List.length_cons, List.length_append]
    cases h with
    | true =>
      simp only [if_true, List.length_cons, List.length_nil]
      rcases hl with rfl | hl <;> rcases hr with rfl | hr <;> simp [shp, ents] at * <;> omega
    | false =>
      obtain ⟨_, n1, n2⟩ := h5 rfl
      have hl := hl.resolve_left n1
      have hr := hr.resolve_left n2
      simp
      omega
end
theorem bitU_01 (b : List UInt8) (i : Int) : bitU b i = 0 ∨ bitU b i = 1 := by
  have h : (bitU b i).toNat < 2 := by rw [bitU_toNat]; exact Nat.mod_lt _ (by decide)
  rcases (show (bitU b i).toNat = 0 ∨ (bitU b i).toNat = 1 by omega) with h | h
  · exact .inl (UInt8.toNat_inj.1 h)
  · exact .inr (UInt8.toNat_inj.1 h)
theorem byte_ext (x y : UInt8) (h : ∀ j, j < 8 → bitOf x j = bitOf y j) : x = y := by
  have hz : x ^^^ y = 0 := by
    have h1 := (mk1_iff (x ^^^ y) 0).2 (fun j hj _ => by
      have e := h j hj
      apply UInt8.toNat_inj.1
      rw [bitOf_toNat, UInt8.toNat_xor, bn_xor, ← bitOf_toNat, ← bitOf_toNat, e]
      have : (bitOf y j).toNat < 2 := by rw [bitOf_toNat]; exact Nat.mod_lt _ (by decide)
      show ((bitOf y j).toNat + (bitOf y j).toNat) % 2 = 0
      omega)
    rw [← h1]
    rfl
  have e2 := congrArg UInt8.toNat hz
  rw [UInt8.toNat_xor] at e2
  exact UInt8.toNat_inj.1 (xor_zero e2)
theorem bits_ext (a b : Vector UInt8 16) (h : ∀ i : Int, 0 ≤ i → i < 128 → bitU a.toList i = bitU b.toList i) : a = b := by
  apply Vector.ext
  intro k hk
  refine byte_ext _ _ (fun j hj => ?_)
  have := h (8 * (k : Int) + j) (by omega) (by omega)
  rw [bitU_at _ _ _ hj, bitU_at _ _ _ hj, vec_getD _ k hk, vec_getD _ k hk] at this
  exact this
set_option maxRecDepth 100000 in
theorem mk1_bit_dec : ∀ n : Fin 256, ∀ l : Fin 9, ∀ j : Fin 8, bn (mk1 (l.val : Int) (UInt8.ofNat n.val)).toNat (7 - j.val) = if j.val < l.val then bn n.val (7 - j.val) else 0 := by decide +kernel
theorem mk1_bit (x : UInt8) (left : Int) (j : Nat) (hj : j < 8) : bitOf (mk1 left x) j = if (j : Int) < left then bitOf x j else 0 := by
  have key : ∀ l : Nat, l < 9 → bitOf (mk1 (l : Int) x) j = if j < l then bitOf x j else 0 := fun l hl => by
    have h := mk1_bit_dec ⟨x.toNat, x.toNat_lt⟩ ⟨l, hl⟩ ⟨j, hj⟩
    simp only [UInt8.ofNat_toNat] at h
    apply UInt8.toNat_inj.1
    rw [bitOf_toNat, h]
    split
    · rw [bitOf_toNat]
    · rfl
  by_cases h0 : left ≤ 0
  · have e : mk1 left x = mk1 ((0 : Nat) : Int) x := by
      unfold mk1
      rw [if_pos h0, if_pos (by omega)]
    rw [e, key 0 (by omega), if_neg (by omega), if_neg (by omega)]
  · by_cases h8 : left < 8
    · have e : left = (left.toNat : Int) := by omega
      rw [e, key left.toNat (by omega)]
      by_cases hl : j < left.toNat
      · rw [if_pos hl, if_pos (by omega)]
      · rw [if_neg hl, if_neg (by omega)]
    · have e : mk1 left x = x := by
        unfold mk1
        rw [if_neg h0, if_neg h8]
      rw [e, if_pos (by omega)]
theorem mask_bit (n : Int) (b : Vector UInt8 16) (i : Int) (h0 : 0 ≤ i) (h1 : i < 128) : bitU (maskV n b).toList i = if i < n then bitU b.toList i else 0 := by
  have e : i = 8 * ((i / 8).toNat : Int) + ((i % 8).toNat : Int) := by omega
  have hk : (i / 8).toNat < 16 := by omega
  rw [e, bitU_at _ _ _ (by omega), bitU_at _ _ _ (by omega), vec_getD _ _ hk, vec_getD _ _ hk]
  have em : (maskV n b)[(i / 8).toNat] = mk1 (n - 8 * ((i / 8).toNat : Int)) b[(i / 8).toNat] := by simp [maskV]
  rw [em, mk1_bit _ _ _ (by omega)]
  by_cases h : i < n
  · rw [if_pos (by omega), if_pos (by omega)]
  · rw [if_neg (by omega), if_neg (by omega)]
def pb (p : SPrefix) : List Bool := (List.range p.bits.toNat).map fun i : Nat => decide (bitU p.addr.b.toList i = 1)
@[simp] theorem pb_len (p : SPrefix) : (pb p).length = p.bits.toNat := by simp [pb]
theorem pb_get (p : SPrefix) (i : Nat) (h : i < p.bits.toNat) : (pb p)[i]? = some (decide (bitU p.addr.b.toList i = 1)) := by simp [pb, h]
theorem pre_iff (x y : List Bool) : x <+: y ↔ x.length ≤ y.length ∧ ∀ i, i < x.length → x[i]? = y[i]? := by
  constructor
  · rintro ⟨z, rfl⟩
    exact ⟨by simp, fun i hi => by rw [List.getElem?_append_left hi]⟩
  · rintro ⟨h1, h2⟩
    refine ⟨y.drop x.length, ?_⟩
    have : x = y.take x.length := by
      apply List.ext_getElem?
      intro i
      by_cases hi : i < x.length
      · rw [h2 i hi, List.getElem?_take_of_lt hi]
      · rw [List.getElem?_eq_none (by omega), List.getElem?_eq_none (by simp; omega)]
    rw [this]
    simp
    rw [Nat.min_eq_left h1, List.take_append_drop]
theorem dec_bit {a b : List UInt8} {i j : Int} : decide (bitU a i = 1) = decide (bitU b j = 1) ↔ bitU a i = bitU b j := by
  rcases bitU_01 a i with h | h <;> rcases bitU_01 b j with k | k <;> simp [h, k]
theorem pb_pre (p q : SPrefix) (hp : 0 ≤ p.bits) (hq : 0 ≤ q.bits) : pb p <+: pb q ↔ p.bits ≤ q.bits ∧ ∀ i : Int, 0 ≤ i → i < p.bits → bitU p.addr.b.toList i = bitU q.addr.b.toList i := by
  rw [pre_iff, pb_len, pb_len]
  constructor
  · rintro ⟨h1, h2⟩
    refine ⟨by omega, fun i h3 h4 => ?_⟩
    have := h2 i.toNat (by omega)
    rw [pb_get p _ (by omega), pb_get q _ (by omega)] at this
    have e : ((i.toNat : Nat) : Int) = i := by omega
    rw [e] at this
    exact dec_bit.1 (Option.some.inj this)
  · rintro ⟨h1, h2⟩
    refine ⟨by omega, fun i hi => ?_⟩
    rw [pb_get p _ (by omega), pb_get q _ (by omega)]
    exact congrArg some (dec_bit.2 (h2 i (by omega) (by omega)))
def okP (k : Bool) (p : SPrefix) : Prop := checkP p = 0 ∧ p.addr.v6 = k
theorem okP.nn {k : Bool} {p : SPrefix} (h : okP k p) : 0 ≤ p.bits ∧ p.bits ≤ wd p.addr ∧ p.bits ≤ 128 := by
  have := (checkP_zero p).1 h.1
  have := wd_le p.addr
  omega
def comN (p q : SPrefix) : Int := min (min p.bits q.bits) (commonB p.addr.b.toList q.addr.b.toList)
def bothP (p q : SPrefix) : SPrefix := ⟨⟨p.addr.v6, maskV (comN p q) p.addr.b⟩, comN p q⟩
def bitP (p q : SPrefix) : Bool := decide (bitU q.addr.b.toList p.bits = 1)
theorem comN_spec {k : Bool} {p q : SPrefix} (hp : okP k p) (hq : okP k q) : 0 ≤ comN p q ∧ comN p q ≤ p.bits ∧ comN p q ≤ q.bits ∧ (∀ i : Int, 0 ≤ i → i < comN p q → bitU p.addr.b.toList i = bitU q.addr.b.toList i) ∧
    (comN p q < p.bits → comN p q < q.bits → bitU p.addr.b.toList (comN p q) ≠ bitU q.addr.b.toList (comN p q)) := by
  have h := commonB_is p.addr.b.toList q.addr.b.toList
  have h1 := hp.nn
  have h2 := hq.nn
  have h3 := h.p
  unfold comN
  refine ⟨by omega, by omega, by omega, fun i i0 i1 => h.eq i i0 (by omega), fun l1 l2 => ?_⟩
  have e : min (min p.bits q.bits) (commonB p.addr.b.toList q.addr.b.toList) = commonB p.addr.b.toList q.addr.b.toList := by omega
  rw [e]
  refine h.ne ?_ ?_ <;> simp <;> omega
theorem comN_of {k : Bool} {p q : SPrefix} (hp : okP k p) (hq : okP k q) {n : Int} (h0 : 0 ≤ n) (h1 : n ≤ p.bits) (h2 : n ≤ q.bits) (h3 : ∀ i : Int, 0 ≤ i → i < n → bitU p.addr.b.toList i = bitU q.addr.b.toList i)
    (h4 : n < p.bits → n < q.bits → bitU p.addr.b.toList n ≠ bitU q.addr.b.toList n) : n = comN p q := by
  obtain ⟨g0, g1, g2, g3, g4⟩ := comN_spec hp hq
  rcases Int.lt_trichotomy n (comN p q) with h | h | h
  · exact absurd (g3 n h0 h) (h4 (by omega) (by omega))
  · exact h
  · exact absurd (h3 _ g0 h) (g4 (by omega) (by omega))
theorem both_ok {k : Bool} {p q : SPrefix} (hp : okP k p) (hq : okP k q) : okP k (bothP p q) := by
  obtain ⟨g0, g1, g2, g3, g4⟩ := comN_spec hp hq
  have h1 := hp.nn
  refine ⟨(checkP_zero _).2 ⟨g0, ?_, fun i h3 h4 => ?_⟩, hp.2⟩
  · show comN p q ≤ wd (bothP p q).addr
    have : wd (bothP p q).addr = wd p.addr := rfl
    omega
  · have hi : comN p q ≤ i := h3
    show bitU (maskV (comN p q) p.addr.b).toList i = 0
    rw [mask_bit _ _ _ (by omega) h4, if_neg (by omega)]
theorem pb_inj {k : Bool} {p q : SPrefix} (hp : okP k p) (hq : okP k q) (h : pb p = pb q) : p = q := by
  have h1 := hp.nn
  have h2 := hq.nn
  have hb : p.bits = q.bits := by
    have := congrArg List.length h
    simp at this
    omega
  have hpre := (pb_pre p q h1.1 h2.1).1 (by rw [h]; exact List.prefix_refl _)
  have hv : p.addr.b = q.addr.b := bits_ext _ _ (fun i i0 i1 => by
    rcases Int.lt_or_le i p.bits with hi | hi
    · exact hpre.2 i i0 hi
    · rw [((checkP_zero p).1 hp.1).2.2 i hi i1, ((checkP_zero q).1 hq.1).2.2 i (by omega) i1])
  have hk : p.addr.v6 = q.addr.v6 := hp.2.trans hq.2.symm
  obtain ⟨⟨v1, b1⟩, n1⟩ := p
  obtain ⟨⟨v2, b2⟩, n2⟩ := q
  simp only at hb hv hk
  subst hb hv hk
  rfl
theorem keyLaw (k : Bool) : KeyLaw (okP k) pb bothP bitP where
  inj := fun p q hp hq h => pb_inj hp hq h
  both := fun p q hp hq => by
    have hb := both_ok hp hq
    refine ⟨hb, ?_⟩
    obtain ⟨g0, g1, g2, g3, g4⟩ := comN_spec hp hq
    have h1 := hp.nn
    have h2 := hq.nn
    have hbit : ∀ i : Int, 0 ≤ i → i < comN p q → bitU (bothP p q).addr.b.toList i = bitU p.addr.b.toList i := fun i i0 i1 => by
      show bitU (maskV (comN p q) p.addr.b).toList i = _
      rw [mask_bit _ _ _ i0 (by omega), if_pos i1]
    have c1 : pb (bothP p q) <+: pb p := (pb_pre _ _ g0 h1.1).2 ⟨g1, hbit⟩
    have c2 : pb (bothP p q) <+: pb q := (pb_pre _ _ g0 h2.1).2 ⟨g2, fun i i0 i1 => (hbit i i0 i1).trans (g3 i i0 i1)⟩
    refine pre_len (lcp_max _ _ _ c1 c2) ?_
    have l1 := (lcp_left (pb p) (pb q)).length_le
    have l2 := (lcp_right (pb p) (pb q)).length_le
    rw [pb_len] at l1 l2 ⊢
    show _ ≤ (comN p q).toNat
    rcases Nat.lt_or_ge (comN p q).toNat (lcp (pb p) (pb q)).length with hl | hl
    · exfalso
      have e1 := ((pre_iff _ _).1 (lcp_left (pb p) (pb q))).2 _ hl
      have e2 := ((pre_iff _ _).1 (lcp_right (pb p) (pb q))).2 _ hl
      rw [e1, pb_get p _ (by omega), pb_get q _ (by omega)] at e2
      have e : (((comN p q).toNat : Nat) : Int) = comN p q := by omega
      rw [e] at e2
      exact g4 (by omega) (by omega) (dec_bit.1 (Option.some.inj e2))
    · exact hl
  bit := fun p q hp hq hpre hne => by
    have h1 := hp.nn
    have h2 := hq.nn
    have hlt : p.bits < q.bits := by
      have := ((pb_pre p q h1.1 h2.1).1 hpre).1
      rcases Int.lt_or_le p.bits q.bits with h | h
      · exact h
      · exact absurd (pre_len hpre (by simp; omega)) hne
    unfold bitP nb
    rw [pb_len, List.getD_eq_getElem?_getD, pb_get q _ (by omega)]
    have e : ((p.bits.toNat : Nat) : Int) = p.bits := by omega
    rw [e]
    rfl
theorem covers_iff {k : Bool} {q p : SPrefix} (hq : okP k q) (hp : okP k p) : coversP q p = true ↔ pb q <+: pb p := by
  have h1 := hq.nn
  have h2 := hp.nn
  unfold coversP
  rw [pb_pre q p h1.1 h2.1, Bool.and_eq_true, Bool.and_eq_true, decide_eq_true_iff, decide_eq_true_iff, hasP_iff]
  constructor
  · rintro ⟨⟨_, a⟩, _, _, _, b⟩
    exact ⟨a, fun i i0 i1 => (b i i0 i1).symm⟩
  · rintro ⟨a, b⟩
    exact ⟨⟨hp.1, a⟩, hq.1, checkP_addr p hp.1, hp.2.trans hq.2.symm, fun i i0 i1 => (b i i0 i1).symm⟩
def ltP (q p : SPrefix) : Bool := decide (q.bits < p.bits)
theorem covLaw (k : Bool) : CovLaw (okP k) pb coversP ltP where
  cov := fun q p hq hp => covers_iff hq hp
  lt := fun q p hq hp => by
    have h1 := hq.nn
    have h2 := hp.nn
    unfold ltP
    rw [decide_eq_true_iff, pb_len, pb_len]
    omega
def full (a : SAddr) : SPrefix := ⟨a, wd a⟩
theorem full_ok {a : SAddr} (h : checkA a = 0) : okP a.v6 (full a) := ⟨(checkP_zero _).2 ⟨by have := wd_le a; show 0 ≤ wd a; omega, Int.le_refl _, (checkA_zero a).1 h⟩, rfl⟩
theorem has_full {p : SPrefix} {a : SAddr} (h : checkA a = 0) : hasP p a = true ↔ (okP a.v6 p ∧ pb p <+: pb (full a)) := by
  constructor
  · intro hh
    obtain ⟨h1, h2, h3, h4⟩ := (hasP_iff p a).1 hh
    have ho : okP a.v6 p := ⟨h1, h3.symm⟩
    have h5 := ho.nn
    have h6 := (full_ok h).nn
    refine ⟨ho, (pb_pre _ _ h5.1 h6.1).2 ⟨?_, fun i i0 i1 => (h4 i i0 i1).symm⟩⟩
    show p.bits ≤ wd a
    have : wd a = wd p.addr := by unfold wd; rw [h3]
    omega
  · rintro ⟨ho, hpre⟩
    have h5 := ho.nn
    have h6 := (full_ok h).nn
    exact (hasP_iff p a).2 ⟨ho.1, h, ho.2.symm, fun i i0 i1 => (((pb_pre _ _ h5.1 h6.1).1 hpre).2 i i0 i1).symm⟩
end Go.Proofs.Ytmdkmclgfgaahaa.Tri
namespace Go.Proofs.Ytmdkmclgfgaahaa.Tri
open Go Go.Gx
structure STrieNode where
  p : SPrefix
  v : Int
  has : Bool
  kids : (Vector OV 2)
def STrieNode.to : (SPrefix × (Int × (Bool × (Vector OV 2)))) → STrieNode := fun x => ⟨x.1, x.2.1, x.2.2.1, x.2.2.2⟩
def STrieNode.of : STrieNode → (SPrefix × (Int × (Bool × (Vector OV 2)))) := fun x => (x.p, x.v, x.has, x.kids)
def eTrieNode : Enc STrieNode := isoE (prodE ePrefix (prodE iE (prodE bE (arrE 2 (ovE nilPtr))))) STrieNode.to STrieNode.of
def STrieNode.l_p : Lens eTrieNode ePrefix 0 := lIso _ STrieNode.to STrieNode.of (fun _ => rfl) (lFst ePrefix (prodE iE (prodE bE (arrE 2 (ovE nilPtr)))))
@[simp] theorem STrieNode.get_p (x : STrieNode) : STrieNode.l_p.get x = x.p := rfl
@[simp] theorem STrieNode.set_p (x : STrieNode) (y : SPrefix) : STrieNode.l_p.set x y = { x with p := y } := rfl
def STrieNode.l_v : Lens eTrieNode iE 18 := lIso _ STrieNode.to STrieNode.of (fun _ => rfl) (Lens.comp (lSnd ePrefix (prodE iE (prodE bE (arrE 2 (ovE nilPtr))))) (lFst iE (prodE bE (arrE 2 (ovE nilPtr)))))
@[simp] theorem STrieNode.get_v (x : STrieNode) : STrieNode.l_v.get x = x.v := rfl
@[simp] theorem STrieNode.set_v (x : STrieNode) (y : Int) : STrieNode.l_v.set x y = { x with v := y } := rfl
def STrieNode.l_has : Lens eTrieNode bE 19 := lIso _ STrieNode.to STrieNode.of (fun _ => rfl) (Lens.comp (lSnd ePrefix (prodE iE (prodE bE (arrE 2 (ovE nilPtr))))) (Lens.comp (lSnd iE (prodE bE (arrE 2 (ovE nilPtr)))) (lFst bE (arrE 2 (ovE nilPtr)))))
@[simp] theorem STrieNode.get_has (x : STrieNode) : STrieNode.l_has.get x = x.has := rfl
@[simp] theorem STrieNode.set_has (x : STrieNode) (y : Bool) : STrieNode.l_has.set x y = { x with has := y } := rfl
def STrieNode.l_kids : Lens eTrieNode (arrE 2 (ovE nilPtr)) 20 := lIso _ STrieNode.to STrieNode.of (fun _ => rfl) (Lens.comp (lSnd ePrefix (prodE iE (prodE bE (arrE 2 (ovE nilPtr))))) (Lens.comp (lSnd iE (prodE bE (arrE 2 (ovE nilPtr)))) (Lens.comp (lSnd bE (arrE 2 (ovE nilPtr))) (Lens.id (arrE 2 (ovE nilPtr))))))
@[simp] theorem STrieNode.get_kids (x : STrieNode) : STrieNode.l_kids.get x = x.kids := rfl
@[simp] theorem STrieNode.set_kids (x : STrieNode) (y : (Vector OV 2)) : STrieNode.l_kids.set x y = { x with kids := y } := rfl
structure STrieTrie where
  made : Bool
  n : Int
  roots : (Vector OV 2)
def STrieTrie.to : (Bool × (Int × (Vector OV 2))) → STrieTrie := fun x => ⟨x.1, x.2.1, x.2.2⟩
def STrieTrie.of : STrieTrie → (Bool × (Int × (Vector OV 2))) := fun x => (x.made, x.n, x.roots)
def eTrieTrie : Enc STrieTrie := isoE (prodE bE (prodE iE (arrE 2 (ovE nilPtr)))) STrieTrie.to STrieTrie.of
def STrieTrie.l_made : Lens eTrieTrie bE 0 := lIso _ STrieTrie.to STrieTrie.of (fun _ => rfl) (lFst bE (prodE iE (arrE 2 (ovE nilPtr))))
@[simp] theorem STrieTrie.get_made (x : STrieTrie) : STrieTrie.l_made.get x = x.made := rfl
@[simp] theorem STrieTrie.set_made (x : STrieTrie) (y : Bool) : STrieTrie.l_made.set x y = { x with made := y } := rfl
def STrieTrie.l_n : Lens eTrieTrie iE 1 := lIso _ STrieTrie.to STrieTrie.of (fun _ => rfl) (Lens.comp (lSnd bE (prodE iE (arrE 2 (ovE nilPtr)))) (lFst iE (arrE 2 (ovE nilPtr))))
@[simp] theorem STrieTrie.get_n (x : STrieTrie) : STrieTrie.l_n.get x = x.n := rfl
@[simp] theorem STrieTrie.set_n (x : STrieTrie) (y : Int) : STrieTrie.l_n.set x y = { x with n := y } := rfl
def STrieTrie.l_roots : Lens eTrieTrie (arrE 2 (ovE nilPtr)) 2 := lIso _ STrieTrie.to STrieTrie.of (fun _ => rfl) (Lens.comp (lSnd bE (prodE iE (arrE 2 (ovE nilPtr)))) (Lens.comp (lSnd iE (arrE 2 (ovE nilPtr))) (Lens.id (arrE 2 (ovE nilPtr)))))
@[simp] theorem STrieTrie.get_roots (x : STrieTrie) : STrieTrie.l_roots.get x = x.roots := rfl
@[simp] theorem STrieTrie.set_roots (x : STrieTrie) (y : (Vector OV 2)) : STrieTrie.l_roots.set x y = { x with roots := y } := rfl
inductive PT where
  | nil : PT
  | node : Nat → SPrefix → Int → Bool → PT → PT → PT
def PT.adr : PT → Option Addr
  | .nil => none
  | .node b _ _ _ _ _ => some ⟨b, 0, none⟩
def PT.ptr (t : PT) : OV := ⟨.pointer t.adr, rfl⟩
def PT.tr : PT → Tr SPrefix
  | .nil => .nil
  | .node _ p v h l r => .node p v h l.tr r.tr
def kids (l r : PT) : Vector OV 2 := #v[l.ptr, r.ptr]
def PT.kid (b : Bool) (l r : PT) : PT := bif b then r else l
def PT.At (w : World) : PT → Prop
  | .nil => True
  | .node b p v h l r => PtsTo eTrieNode w b 0 (⟨p, v, h, kids l r⟩ : STrieNode) ∧ l.At w ∧ r.At w
theorem PT.At.keep {w w' : World} : ∀ {t : PT}, t.At w → Keeps Nope w w' → t.At w'
  | .nil, _, _ => trivial
  | .node _ _ _ _ _ _, ⟨h1, h2, h3⟩, k => ⟨h1.keep k, h2.keep k, h3.keep k⟩
def bI (b : Bool) : Int := bif b then 1 else 0
theorem bI_nn (b : Bool) : 0 ≤ bI b ∧ bI b < 2 := by cases b <;> decide
theorem kids_at (l r : PT) (b : Bool) (h : (bI b).toNat < 2) : (kids l r)[(bI b).toNat] = (PT.kid b l r).ptr := by cases b <;> rfl
theorem PT.At.kid {w : World} {l r : PT} (hl : l.At w) (hr : r.At w) (b : Bool) : (PT.kid b l r).At w := by cases b <;> assumption
def PT.bare : PT → PT
  | .nil => .nil
  | .node b p v h l r => if h = true ∨ (l.adr.isNone = false ∧ r.adr.isNone = false) then .node b p v h l r else if l.adr.isNone = false then l else r
theorem PT.At.bare {w : World} {t : PT} (h : t.At w) : t.bare.At w := by
  cases t with
  | nil => trivial
  | node b p v g l r =>
    simp only [PT.bare]
    split
    · exact h
    · split
      · exact h.2.1
      · exact h.2.2
def nodeV (p : SPrefix) (v : Int) (h : Bool) (l r : PT) : STrieNode := ⟨p, v, h, kids l r⟩
theorem bit_01 (b : List UInt8) (i : Int) : ((bitU b i).toNat : Int) = bI (decide (bitU b i = 1)) := by
  rcases bitU_01 b i with h | h <;> rw [h] <;> rfl
theorem bit_ok (a : SAddr) (i : Int) (w : World) (hi : 0 ≤ i ∧ i < 128) : Calls Try.prog 80 #[eAddr.val a, I i] w (RetV w (I (bI (decide (bitU a.b.toList i = 1))))) := by
  refine en0 16 Try.func80 ?_
  refine sg (cons (box (E := eAddr) (.t rfl) (fun b1 => ?_)))
  refine co (Ev.assign (.c (v := I 0) rfl)) ?_
  refine nP (seq ?_)
  have h16 : (i / 8).toNat < 16 := by omega
  have hq : 0 ≤ (a.b[(i / 8).toNat].toNat : Int) / 2 ^ (7 - i % 8).toNat ∧ (a.b[(i / 8).toNat].toNat : Int) / 2 ^ (7 - i % 8).toNat ≤ 9223372036854775807 := by
    have hx := a.b[(i / 8).toNat].toNat_lt
    have e : ((a.b[(i / 8).toNat].toNat : Int) / 2 ^ (7 - i % 8).toNat) = ((a.b[(i / 8).toNat].toNat / 2 ^ (7 - i % 8).toNat : Nat) : Int) := by simp
    rw [e]
    have h1 := Nat.div_le_self a.b[(i / 8).toNat].toNat (2 ^ (7 - i % 8).toNat)
    have h2 : ∀ y : Nat, y ≤ 255 → 0 ≤ (y : Int) ∧ (y : Int) ≤ 9223372036854775807 := fun y hy => by omega
    exact h2 _ (by omega)
  refine region (mv rfl (co (Ev.quo_n (.t rfl) (.c (v := I 8) rfl) (fun _ => by omega) (fun _ => by omega) (fun _ => by omega)) ?_))
  refine co (fA 1 (.t rfl)) ?_
  refine co (Ev.indexAddrA Try.underlying35 ty5 (.t rfl) (.t rfl) (fun _ => by omega)) ?_
  refine co (Ev.ldv ty5 (.t rfl) (Lens.comp SAddr.l_b (lArr (n := 16) u8E _ (by omega)))) ?_
  refine co (Ev.conv_u8_i Try.underlying3 Try.underlying5 (.t rfl)) ?_
  refine mv rfl (co (Ev.rem_n (.t rfl) (.c (v := I 8) rfl) (fun _ => by omega) (fun _ => by omega)) ?_)
  refine co (Ev.sub_i (.c (v := I 7) rfl) (.t rfl) (fun _ => by omega)) ?_
  refine co (Ev.shr_i (.t rfl) (.t rfl) (fun _ => by omega)) ?_
  refine co (Ev.and_n (.t rfl) (.c (v := I 1) rfl) (fun _ => hq) (fun _ => by decide)) ?_
  refine asn rfl (nP (ret (done rfl (.tmp rfl .nil) (retE ?_))))
  refine congrArg I ?_
  rw [← bit_01]
  have e : ((a.b[(i / 8).toNat].toNat : Int) / 2 ^ (7 - i % 8).toNat) = ((a.b[(i / 8).toNat].toNat / 2 ^ (7 - i % 8).toNat : Nat) : Int) := by simp
  have e3 : (1 : Int).toNat = 1 := rfl
  rw [bitU_toNat, vec_getD _ _ h16, e3, Nat.and_one_is_mod]
  unfold bn
  show (((((a.b[(i / 8).toNat].toNat : Int) / 2 ^ (7 - i % 8).toNat)).toNat % 2 : Nat) : Int) = _
  rw [e, Int.toNat_natCast]
theorem kind_ok (a : SAddr) (w : World) : Calls Try.prog 75 #[eAddr.val a] w (RetV w (I (bI a.v6))) := by
  refine en0 5 Try.func75 ?_
  refine sg (cons (box (E := eAddr) (.t rfl) (fun b1 => ?_)))
  refine co (Ev.assign (.c (v := I 0) rfl)) ?_
  refine nP (seq (sg (co (fA 0 (.t rfl)) ?_)))
  refine co (Ev.ldx a.v6 ty4 (.t rfl) SAddr.l_v6) ?_
  refine nP ?_
  first | refine condD rfl (fun h0 => ?_) (fun h0 => ?_) | refine cond rfl (fun h0 => ?_) (fun h0 => ?_)
  · try simp only [nb] at h0
    refine sg (co (Ev.assign (.c (v := I 1) rfl)) ?_)
    refine nP (ret (pR (done rfl (.tmp rfl .nil) (retE ?_))))
    rw [h0]; rfl
  · try simp only [nb] at h0
    refine skip (pN (sg (co (Ev.assign (.c (v := I 0) rfl)) ?_)))
    refine nP (ret (done rfl (.tmp rfl .nil) (retE ?_)))
    rw [h0]; rfl
def ofE (a : SAddr) (n : Int) : Int := if checkA a ≠ 0 then checkA a else if n < 0 ∨ wd a < n then 151 else 0
def ofV (a : SAddr) (n : Int) : SPrefix := if ofE a n = 0 then ⟨⟨a.v6, maskV n a.b⟩, n⟩ else ePrefix.zero
theorem masked_g (a : SAddr) (n : Int) (w : World) (hn : 0 ≤ n ∧ n ≤ 128) (z : Vector UInt8 16) (hz : maskV n a.b = z) : Calls Try.prog 57 #[eAddr.val a, I n] w (RetV w (eAddr.val { a with b := z })) := by
  subst hz
  exact masked_ok a n w hn
theorem of_ok (a : SAddr) (n : Int) (w : World) : Calls Try.prog 59 #[eAddr.val a, I n] w (RetV w (.tuple #[ePrefix.val (ofV a n), I (ofE a n)])) := by
  refine en0 27 Try.func59 ?_
  refine sg (cons (box (E := eAddr) (.t rfl) (fun b1 => ?_)))
  refine cons (alloc z53 (fun b2 => ?_))
  refine co (Ev.assign (.c (v := I 0) rfl)) ?_
  refine nP (seq (sg (co (Ev.ldx a ty37 (.t rfl) (Lens.id _)) ?_)))
  refine cons (callv en34 (.cons (.t rfl) .nil) (fun w I => checkA_ok _ w) ?_)
  refine asn rfl (nP (sg (mv rfl (co (Ev.neq_i (.t rfl) (.c (v := I 0) rfl)) ?_))))
  refine nP ?_
  first | refine condD rfl (fun h0 => ?_) (fun h0 => ?_) | refine cond rfl (fun h0 => ?_) (fun h0 => ?_)
  · try simp only [nb] at h0
    refine sg (co (Ev.buildS (fs := _) (places := [(0, 17), (17, 1)]) z53 rfl Try.underlying53 (by kernel_rfl) .nil Fills.nil) ?_)
    refine mv rfl (cons (stv ty53 (Lens.id _) (.t rfl) (.t rfl) ?_))
    refine asn rfl (nP (ret (pR (done rfl (.cell rfl (fun w I => run_loadVar_pts ty53 (ptsVar (by repeat first | exact mH | apply mT | apply mA) (Lens.id _) w I)) (.tmp rfl .nil)) (retE ?_)))))
    have hc : checkA a ≠ 0 := h0
    have e1 : ofE a n = checkA a := by unfold ofE; rw [if_pos hc]
    have e2 : ofV a n = ePrefix.zero := by unfold ofV; rw [e1, if_neg hc]
    rw [e1, e2]; rfl
  · try simp only [nb] at h0
    refine skip (pN (seq (sg (mv rfl (co (Ev.lss_i (.t rfl) (.c (v := I 0) rfl)) ?_)))))
    refine mv rfl (cg rfl rfl (Ev.move (.t rfl)) ?_)
    refine cg rfl rfl (Ev.ldx a ty37 (.t rfl) (Lens.id _)) ?_
    refine cons (callg rfl rfl en56 (.cons (.g rfl id) .nil) (fun hg w I => width_ok _ w) ?_)
    refine cg rfl rfl (Ev.gtr_i (.g rfl id) (.g rfl id)) ?_
    refine co (Ev.pkO (.t rfl) rfl) ?_
    refine nP ?_
    first | refine condD rfl (fun h1 => ?_) (fun h1 => ?_) | refine cond rfl (fun h1 => ?_) (fun h1 => ?_)
    · refine sg (co (Ev.buildS (fs := _) (places := [(0, 17), (17, 1)]) z53 rfl Try.underlying53 (by kernel_rfl) .nil Fills.nil) ?_)
      refine cons (stv ty53 (Lens.id _) (.t rfl) (.t rfl) ?_)
      refine co (Ev.assign (.c (v := I 151) rfl)) ?_
      refine nP (ret (pR (done rfl (.cell rfl (fun w I => run_loadVar_pts ty53 (ptsVar (by repeat first | exact mH | apply mT | apply mA) (Lens.id _) w I)) (.tmp rfl .nil)) (retE ?_))))
      have hc : checkA a = 0 := Decidable.not_not.1 h0
      have hb : n < 0 ∨ wd a < n := by simpa using h1
      have e1 : ofE a n = 151 := by unfold ofE; rw [if_neg (by rw [hc]; decide), if_pos hb]
      have e2 : ofV a n = ePrefix.zero := by unfold ofV; rw [e1, if_neg (by decide)]
      rw [e1, e2]; rfl
    · refine skip (pN (seq ?_))
      obtain ⟨z, hz⟩ : ∃ z, maskV n a.b = z := ⟨_, rfl⟩
      refine region (co (Ev.ldx a ty37 (.t rfl) (Lens.id _)) ?_)
      refine mv rfl (cons (callv en57 (.cons (.t rfl) (.cons (.t rfl) .nil)) (fun w I => masked_g _ _ w (by have := wd_le a; simp at h1; omega) z hz) ?_))
      refine mv rfl (co (Ev.buildS (fs := _) (places := [(0, 17), (17, 1)]) z53 rfl Try.underlying53 (by kernel_rfl) (.cons (.t rfl) (.cons (.t rfl) .nil)) (Fills.cons SPrefix.l_addr rfl (Fills.cons SPrefix.l_bits rfl Fills.nil))) ?_)
      refine cons (stv ty53 (Lens.id _) (.t rfl) (.t rfl) ?_)
      refine co (Ev.assign (.c (v := I 0) rfl)) ?_
      refine nP (ret (done rfl (.cell rfl (fun w I => run_loadVar_pts ty53 (ptsVar (by repeat first | exact mH | apply mT | apply mA) (Lens.id _) w I)) (.tmp rfl .nil)) (retE ?_)))
      have hc : checkA a = 0 := Decidable.not_not.1 h0
      have hb : ¬ (n < 0 ∨ wd a < n) := by simpa using h1
      have e1 : ofE a n = 0 := by unfold ofE; rw [if_neg (by rw [hc]; decide), if_neg hb]
      have e2 : ofV a n = ⟨⟨a.v6, maskV n a.b⟩, n⟩ := by unfold ofV; rw [e1, if_pos rfl]
      rw [e1, e2, hz]; rfl
theorem of_g (a : SAddr) (n : Int) (w : World) (x : SPrefix) (e : Int) (hx : ofV a n = x) (he : ofE a n = e) : Calls Try.prog 59 #[eAddr.val a, I n] w (RetV w (.tuple #[ePrefix.val x, I e])) := by
  subst hx he
  exact of_ok a n w
theorem en80 : Gx.Enters Try.prog 80 := Gx.Enters.mk' (by kernel_rfl)
theorem en59 : Gx.Enters Try.prog 59 := Gx.Enters.mk' (by kernel_rfl)
theorem bI_inj {a b : Bool} (h : bI a = bI b) : a = b := by cases a <;> cases b <;> first | rfl | cases h
theorem both_ok_c (k : Bool) (p q : SPrefix) (w : World) (hp : okP k p) (hq : okP k q) : Calls Try.prog 96 #[ePrefix.val p, ePrefix.val q] w (RetV w (ePrefix.val (bothP p q))) := by
  have h1 := hp.nn
  have h2 := hq.nn
  refine en0 39 Try.func96 ?_
  refine sg (cons (box (E := ePrefix) (.t rfl) (fun b1 => ?_)))
  refine cons (box (E := ePrefix) (.t rfl) (fun b2 => ?_))
  refine cons (alloc z53 (fun b3 => ?_))
  refine nP (sg (co (Ev.assign (.c (v := I 0) rfl)) ?_))
  refine nP (seq (block (lp (X := Int) (fun x : Int => (0 ≤ x ∧ x ≤ p.bits ∧ x ≤ q.bits) ∧ (∀ i : Int, 0 ≤ i → i < x → bitU p.addr.b.toList i = bitU q.addr.b.toList i)) (fun x : Int => [dz, (2, true, .pointer (some ⟨b1, 0, none⟩)), (3, true, .pointer (some ⟨b2, 0, none⟩)), (4, true, .pointer (some ⟨b3, 0, none⟩)), (5, true, I x)]) (fun x : Int => [Var b3 ePrefix ePrefix.zero 53, Var b2 ePrefix q 53, Var b1 ePrefix p 53]) (fun x : Int => (p.bits - x).toNat) (0) ⟨?_, ?_⟩ (fun x hx => ?_))))
  · omega
  · intro i h1 h2; omega
  obtain ⟨n, rfl⟩ : ∃ y, y = x := ⟨x, rfl⟩
  obtain ⟨hn, hs⟩ : (0 ≤ n ∧ n ≤ p.bits ∧ n ≤ q.bits) ∧ (∀ i : Int, 0 ≤ i → i < n → bitU p.addr.b.toList i = bitU q.addr.b.toList i) := hx
  show Sat _ _ [dz, (2, true, .pointer (some ⟨b1, 0, none⟩)), (3, true, .pointer (some ⟨b2, 0, none⟩)), (4, true, .pointer (some ⟨b3, 0, none⟩)), (5, true, I n)] [Var b3 ePrefix ePrefix.zero 53, Var b2 ePrefix q 53, Var b1 ePrefix p 53]
  refine seq (seq (draw' (by kernel_rfl) ?_))
  refine tk 0 rfl (Ev.move (.t rfl)) ?_
  refine tk 1 rfl (fA 17 (.t rfl)) ?_
  refine tk 2 rfl (Ev.ldx p.bits ty3 (.t rfl) SPrefix.l_bits) ?_
  refine tk 3 rfl (Ev.lss_i (.t rfl) (.t rfl)) ?_
  refine tk 4 rfl (Ev.move (.t rfl)) ?_
  refine tkg 5 rfl rfl rfl (Ev.move (.t rfl)) ?_
  refine tkg 6 rfl rfl rfl (fA 17 (.t rfl)) ?_
  refine tkg 7 rfl rfl rfl (Ev.ldx q.bits ty3 (.g rfl id) SPrefix.l_bits) ?_
  refine tkg 8 rfl rfl rfl (Ev.lss_i (.g rfl id) (.g rfl id)) ?_
  refine tk 9 rfl (Ev.pkA (.t rfl) rfl) ?_
  refine tk 10 rfl (Ev.move (.t rfl)) ?_
  refine tkg 11 rfl rfl rfl (fA 0 (.t rfl)) ?_
  refine tkg 12 rfl rfl rfl (Ev.ldx p.addr ty37 (.g rfl id) SPrefix.l_addr) ?_
  refine tkg 13 rfl rfl rfl (Ev.move (.t rfl)) ?_
  refine tkg 15 rfl rfl rfl (fA 0 (.t rfl)) ?_
  refine tkg 16 rfl rfl rfl (Ev.ldx q.addr ty37 (.g rfl id) SPrefix.l_addr) ?_
  refine tkg 17 rfl rfl rfl (Ev.move (.t rfl)) ?_
  refine al1 14 rfl ((callg rfl rfl en80 (.cons (.g rfl id) (.cons (.g rfl id) .nil)) (fun hg w I => bit_ok _ _ w (by simp at hg; omega)) ?_))
  refine hdn (al1 18 rfl ((callg rfl rfl en80 (.cons (.g rfl id) (.cons (.g rfl id) .nil)) (fun hg w I => bit_ok _ _ w (by simp at hg; omega)) ?_)))
  refine hdn (tkg 19 rfl rfl rfl (Ev.eql_i (.g rfl id) (.g rfl id)) ?_)
  refine tk 20 rfl (Ev.pkA (.t rfl) rfl) ?_
  refine ovr (pN ?_)
  first | refine condD rfl (fun h0 => ?_) (fun h0 => ?_) | refine cond rfl (fun h0 => ?_) (fun h0 => ?_)
  · have hc : n < p.bits ∧ n < q.bits ∧ bI (decide (bitU p.addr.b.toList n = 1)) = bI (decide (bitU q.addr.b.toList n = 1)) := by simpa [and_assoc] using h0
    have hbit : bitU p.addr.b.toList n = bitU q.addr.b.toList n := dec_bit.1 (bI_inj hc.2.2)
    refine skip (pN (block (region (mv rfl (co (Ev.add_i (.t rfl) (.c (v := I 1) rfl) (fun _ => by omega)) ?_)))))
    refine asn rfl (nil (bN (pN (nx (X := Int) (n + 1) ⟨?_, ?_⟩ ?_))))
    · try dsimp only
      omega
    · try dsimp only
      intro i i0 i1
      by_cases e : i < n
      · exact hs i i0 e
      · obtain rfl : i = n := by omega
        exact hbit
    · try dsimp only
      omega
  · have hc : n < p.bits → n < q.bits → ¬ bI (decide (bitU p.addr.b.toList n = 1)) = bI (decide (bitU q.addr.b.toList n = 1)) := by simpa using h0
    obtain rfl : n = comN p q := comN_of hp hq hn.1 hn.2.1 hn.2.2 hs (fun l1 l2 e => hc l1 l2 (by rw [dec_bit.2 e]))
    have eE : ofE p.addr (comN p q) = 0 := by unfold ofE; rw [if_neg (by rw [checkP_addr p hp.1]; decide), if_neg (by omega)]
    have eV : ofV p.addr (comN p q) = bothP p q := by unfold ofV; rw [eE, if_pos rfl]; rfl
    obtain ⟨z, hz⟩ : ∃ z, bothP p q = z := ⟨_, rfl⟩
    refine exit (pX (pX (bX (pN (sg (co (fA 0 (.t rfl)) ?_))))))
    refine co (Ev.ldx p.addr ty37 (.t rfl) SPrefix.l_addr) ?_
    refine mv rfl (cons (callv en59 (.cons (.t rfl) (.cons (.t rfl) .nil)) (fun w I => of_g _ _ w z 0 (eV.trans hz) eE) ?_))
    refine mv rfl (co (Ev.extract (.t rfl) rfl) (co (Ev.extract (.t rfl) rfl) (cons (alloc z53 (fun b4 => ?_)))))
    refine cons (stv ty53 (Lens.id _) (.t rfl) (.t rfl) ?_)
    refine asn rfl (nP (sg (co (Ev.ldv ty53 (.t rfl) (Lens.id _)) ?_)))
    refine cons (stv ty53 (Lens.id _) (.t rfl) (.t rfl) ?_)
    refine nP (ret (done rfl (.cell rfl (fun w I => run_loadVar_pts ty53 (ptsVar (by repeat first | exact mH | apply mT | apply mA) (Lens.id _) w I)) .nil) (retE ?_)))
    rw [hz]; first | rfl | (simp; done)
end Go.Proofs.Ytmdkmclgfgaahaa.Tri
namespace Go.Proofs.Ytmdkmclgfgaahaa.Tri
open Go Go.Gx
theorem pts_mem {α : Type} {E : Enc α} {w : World} {b : Nat} {x : α} {T : TypeId} {Rs : List Res} (h : ∀ r ∈ Rs, r.A w) (hm : Var b E x T ∈ Rs) : PtsTo E w b 0 x := pts_of_block (h _ hm)
theorem Rem.app {r : Res} {L M : List Res} (k : List Res) (h : Rem L r M) : Rem (k ++ L) r (k ++ M) := by
  obtain ⟨A, C, rfl, rfl⟩ := h
  exact ⟨k ++ A, C, by simp, by simp⟩
theorem bit_g (a : SAddr) (i : Int) (w : World) (hi : 0 ≤ i ∧ i < 128) (z : Bool) (hz : decide (bitU a.b.toList i = 1) = z) : Calls Try.prog 80 #[eAddr.val a, I i] w (RetV w (I (bI z))) := by
  subst hz
  exact bit_ok a i w hi
theorem both_g (k : Bool) (p q : SPrefix) (w : World) (hp : okP k p) (hq : okP k q) (z : SPrefix) (hz : bothP p q = z) : Calls Try.prog 96 #[ePrefix.val p, ePrefix.val q] w (RetV w (ePrefix.val z)) := by
  subst hz
  exact both_ok_c k p q w hp hq
def PutJ (t : PT) (R : Tr SPrefix) (x : PT × List Res) : Prop := x.1.tr = R ∧ ∀ w1, t.At w1 → (∀ r ∈ x.2, r.A w1) → x.1.At w1
theorem eqb_no {q p : SPrefix} (h : SPrefix.eqb q p = false) : q ≠ p := fun e => by
  rw [(SPrefix.eqb_iff q p).2 e] at h
  cases h
theorem snoc_lt {x y : SPrefix} {b : Bool} {k : Bool} (hx : okP k x) (hy : okP k y) (h : pb x ++ [b] <+: pb y) : 0 ≤ x.bits ∧ x.bits < 128 := by
  have h1 := h.length_le
  have h2 := hx.nn
  have h3 := hy.nn
  simp at h1
  omega
abbrev putT (p : SPrefix) (v : Int) (t : Tr SPrefix) : Tr SPrefix × Bool := t.put bothP bitP p v
theorem kid_wf {k : Bool} {q : SPrefix} {l r : PT} (hl : l.tr.WF (okP k) pb (pb q ++ [false])) (hr : r.tr.WF (okP k) pb (pb q ++ [true])) (b : Bool) : (PT.kid b l r).tr.WF (okP k) pb (pb q ++ [b]) := by cases b <;> assumption
theorem z149 : (Try.prog.info? 149).bind (·.zero) = some (eTrieNode.val eTrieNode.zero) := by kernel_rfl
theorem put_nil (p : SPrefix) (v : Int) (w : World) : Calls Try.prog 76 #[.pointer none, ePrefix.val p, I v] w (RetN w (PutJ .nil (putT p v .nil).1) (fun x => .tuple #[x.1.ptr.v, .bool (putT p v .nil).2]) (fun x => x.2)) := by
  refine en0 132 Try.func76 ?_
  refine sg (cons (box (E := ePrefix) (.t rfl) (fun b1 => ?_)))
  refine co (Ev.assign (.c (v := (Go.Value.pointer none)) rfl)) ?_
  refine co (Ev.assign (.c (v := .bool false) rfl)) ?_
  refine nP (seq (sg (mv rfl (co (Ev.eql_p Try.underlying143 (.t rfl) (.c rfl)) ?_))))
  refine nP (condT rfl (rfl) ?_)
  refine sg (co (Ev.ldv ty53 (.t rfl) (Lens.id _)) ?_)
  refine mv rfl (co (Ev.buildS (fs := _) (places := [(0, 18), (18, 1), (19, 1), (20, 2)]) z149 rfl Try.underlying149 (by kernel_rfl) (.cons (.t rfl) (.cons (.t rfl) (.cons (.c (v := .bool true) rfl) .nil))) (Fills.cons STrieNode.l_p rfl (Fills.cons STrieNode.l_v rfl (Fills.cons STrieNode.l_has rfl Fills.nil)))) ?_)
  refine cons (box (E := eTrieNode) (.t rfl) (fun b2 => ?_))
  refine asn rfl (co (Ev.assign (.c (v := .bool true) rfl)) ?_)
  refine nP (ret (pR (done rfl (.tmp rfl (.tmp rfl .nil)) (fun w I => ?_))))
  exact retNP (PT.node b2 p v true .nil .nil, [Var b2 eTrieNode (⟨p, v, true, kids .nil .nil⟩ : STrieNode) 149]) ⟨rfl, fun w1 _ h => ⟨pts_mem (T := 149) h (by simp), trivial, trivial⟩⟩ rfl (by repeat first | exact SubP.nil | refine SubP.cons (by repeat first | exact Rem.head | apply Rem.tail) ?_) w I
theorem ty147 : TyOK Try.prog 147 (arrE 2 (ovE nilPtr)) := TyOK.mk' (by kernel_rfl) (by kernel_rfl)
theorem en96 : Gx.Enters Try.prog 96 := Gx.Enters.mk' (by kernel_rfl)
theorem ty149 : TyOK Try.prog 149 eTrieNode := TyOK.mk' (by kernel_rfl) (by kernel_rfl)
theorem ty143 : TyOK Try.prog 143 (ovE nilPtr) := TyOK.mk' (by kernel_rfl) (by kernel_rfl)
theorem en76 : Gx.Enters Try.prog 76 := Gx.Enters.mk' (by kernel_rfl)
theorem put_node (k : Bool) (p : SPrefix) (v : Int) (hp : okP k p) (b : Nat) (q : SPrefix) (u : Int) (h : Bool) (l r : PT) (c : List Bool) (w : World) (hat : (PT.node b q u h l r).At w) (hw : (PT.node b q u h l r).tr.WF (okP k) pb c) (hc : c <+: pb p) (ih : ∀ bb c' w', (PT.kid bb l r).At w' → (PT.kid bb l r).tr.WF (okP k) pb c' → c' <+: pb p → Calls Try.prog 76 #[(PT.kid bb l r).ptr.v, ePrefix.val p, I v] w' (RetN w' (PutJ (PT.kid bb l r) (putT p v (PT.kid bb l r).tr).1) (fun x => .tuple #[x.1.ptr.v, .bool (putT p v (PT.kid bb l r).tr).2]) (fun x => x.2))) : Calls Try.prog 76 #[.pointer (some ⟨b, 0, none⟩), ePrefix.val p, I v] w (RetN w (PutJ (PT.node b q u h l r) (putT p v (.node q u h l.tr r.tr)).1) (fun x => .tuple #[x.1.ptr.v, .bool (putT p v (.node q u h l.tr r.tr)).2]) (fun x => x.2)) := by
  have hq : okP k q := hw.1
  refine en0 132 Try.func76 ?_
  refine sg (cons (box (E := ePrefix) (.t rfl) (fun b1 => ?_)))
  refine co (Ev.assign (.c (v := (Go.Value.pointer none)) rfl)) ?_
  refine co (Ev.assign (.c (v := .bool false) rfl)) ?_
  refine nP (seq (sg (mv rfl (co (Ev.eql_p Try.underlying143 (.t rfl) (.c rfl)) ?_))))
  refine nP (condF rfl (rfl) ?_)
  refine skip (pN (seq (seq (draw' (by kernel_rfl) ?_))))
  refine tk 0 rfl (Ev.move (.t rfl)) ?_
  refine tk 1 rfl (Ev.nilCheck (.t rfl)) ?_
  refine tk 2 rfl (fA 0 (.t rfl)) ?_
  refine tk 3 rfl (Ev.load ty53 (.t rfl) (ptsL (fun w I => (hat.1).keep I.keeps) STrieNode.l_p)) ?_
  refine tk 4 rfl (Ev.ldv ty53 (.t rfl) (Lens.id _)) ?_
  refine tk 5 rfl (Ev.eqlS rfl eqok53 rfl (by kernel_rfl) (.t rfl) (.t rfl)) ?_
  refine ovr (pN ?_)
  first | refine condD rfl (fun h1 => ?_) (fun h1 => ?_) | refine cond rfl (fun h1 => ?_) (fun h1 => ?_)
  · have hqp : q = p := (SPrefix.eqb_iff _ _).1 h1
    refine seq (draw' (by kernel_rfl) ?_)
    refine tk 0 rfl (Ev.ldv ty53 (.t rfl) (Lens.id _)) ?_
    refine tk 1 rfl (Ev.move (.t rfl)) ?_
    refine tk 2 rfl (Ev.move (.t rfl)) ?_
    refine tk 3 rfl (Ev.nilCheck (.t rfl)) ?_
    refine tk 4 rfl (fA 20 (.t rfl)) ?_
    refine tk 5 rfl (Ev.load ty147 (.t rfl) (ptsL (fun w I => (hat.1).keep I.keeps) STrieNode.l_kids)) ?_
    refine tk 6 rfl (Ev.buildS (fs := _) (places := [(0, 18), (18, 1), (19, 1), (20, 2)]) z149 rfl Try.underlying149 (by kernel_rfl) (.cons (.t rfl) (.cons (.t rfl) (.cons (.c (v := .bool true) rfl) (.cons (.t rfl) .nil)))) (Fills.cons STrieNode.l_p rfl (Fills.cons STrieNode.l_v rfl (Fills.cons STrieNode.l_has rfl (Fills.cons STrieNode.l_kids rfl Fills.nil))))) ?_
    refine tk 8 rfl (Ev.move (.t rfl)) ?_
    refine tk 9 rfl (Ev.nilCheck (.t rfl)) ?_
    refine tk 10 rfl (fA 19 (.t rfl)) ?_
    refine tk 11 rfl (Ev.load ty4 (.t rfl) (ptsL (fun w I => (hat.1).keep I.keeps) STrieNode.l_has)) ?_
    refine tk 12 rfl (Ev.not (.t rfl)) ?_
    refine al1 7 rfl ((box (E := eTrieNode) (.t rfl) (fun b2 => ?_)))
    refine hdn (tk 13 rfl (Ev.assign (.t rfl)) ?_)
    refine tk 14 rfl (Ev.assign (.t rfl)) ?_
    refine ovr (pN (ret (pR (done rfl (.tmp rfl (.tmp rfl .nil)) (fun w I => ?_)))))
    have ep : putT p v (.node q u h l.tr r.tr) = (.node p v true l.tr r.tr, !h) := by show Tr.put _ _ _ _ _ = _; rw [Tr.put, if_pos hqp]
    exact retNP (PT.node b2 p v true l r, [Var b2 eTrieNode (⟨p, v, true, kids l r⟩ : STrieNode) 149]) ⟨by rw [ep]; rfl, fun w1 ho hh => ⟨pts_mem (T := 149) hh (by simp), ho.2.1, ho.2.2⟩⟩ (by rw [ep]; rfl) (by repeat first | exact SubP.nil | refine SubP.cons (by repeat first | exact Rem.head | apply Rem.tail) ?_) w I
  · have hqp : q ≠ p := eqb_no h1
    obtain ⟨c0, hc0⟩ : ∃ z, bothP q p = z := ⟨_, rfl⟩
    have hway := (keyLaw k).ways hq hp hqp
    refine skip (pN (seq (draw' (by kernel_rfl) ?_)))
    refine tk 0 rfl (Ev.move (.t rfl)) ?_
    refine tk 1 rfl (Ev.nilCheck (.t rfl)) ?_
    refine tk 2 rfl (fA 0 (.t rfl)) ?_
    refine tk 3 rfl (Ev.load ty53 (.t rfl) (ptsL (fun w I => (hat.1).keep I.keeps) STrieNode.l_p)) ?_
    refine tk 4 rfl (Ev.ldv ty53 (.t rfl) (Lens.id _)) ?_
    refine all [5, 6] (by kernel_rfl) (by decide) (.cons rfl ?_ (.cons rfl ?_ .nil))
    · refine (callv en96 (.cons (.t rfl) (.cons (.t rfl) .nil)) (fun w I => both_g k q p w hq hp c0 hc0) ?_)
      refine hdn (al1 6 rfl ((alloc z53 (fun b3 => ?_))))
      refine hdn (al1 7 rfl ((stv ty53 (Lens.id _) (.t rfl) (.t rfl) ?_)))
      refine hdn (ovr (pN (seq (sg (co (Ev.ldv ty53 (.t rfl) (Lens.id _)) ?_)))))
      refine nP (block (sg (mv rfl (co (Ev.nilCheck (.t rfl)) ?_))))
      refine co (fA 0 (.t rfl)) ?_
      refine co (Ev.load ty53 (.t rfl) (ptsL (fun w I => (hat.1).keep I.keeps) STrieNode.l_p)) ?_
      refine co (Ev.eqlS rfl eqok53 rfl (by kernel_rfl) (.t rfl) (.t rfl)) ?_
      refine asn rfl (nP ?_)
      first | refine condD rfl (fun h2 => ?_) (fun h2 => ?_) | refine cond rfl (fun h2 => ?_) (fun h2 => ?_)
      · have e1 : bothP q p = q := hc0.trans ((SPrefix.eqb_iff _ _).1 h2)
        obtain ⟨bb, hbb⟩ : ∃ z, bitP q p = z := ⟨_, rfl⟩
        have e2 : pb q ++ [bb] <+: pb p := by
          rcases hway with ⟨_, g⟩ | ⟨g, _⟩ | ⟨g, _⟩
          · rw [← hbb]; exact g
          · exact absurd e1 g
          · exact absurd e1 g
        have hlt := snoc_lt hq hp e2
        have hbn := bI_nn bb
        have hbt : (bI bb).toNat < 2 := by omega
        refine sg (mv rfl (co (Ev.nilCheck (.t rfl)) ?_))
        refine co (Ev.load ty149 (.t rfl) (ptsL (fun w I => (hat.1).keep I.keeps) (Lens.id _))) ?_
        refine cons (alloc z149 (fun b4 => ?_))
        refine cons (stv ty149 (Lens.id _) (.t rfl) (.t rfl) ?_)
        refine nP (seq (draw' (by kernel_rfl) ?_))
        refine tk 0 rfl (fA 0 (.t rfl)) ?_
        refine tk 1 rfl (Ev.ldv ty37 (.t rfl) SPrefix.l_addr) ?_
        refine tk 2 rfl (Ev.move (.t rfl)) ?_
        refine tk 3 rfl (Ev.nilCheck (.t rfl)) ?_
        refine tk 4 rfl (fA 0 (.t rfl)) ?_
        refine tk 5 rfl (fA 17 (.t rfl)) ?_
        refine tk 6 rfl (Ev.load ty3 (.t rfl) (ptsL (fun w I => (hat.1).keep I.keeps) (Lens.comp STrieNode.l_p SPrefix.l_bits))) ?_
        refine al1 7 rfl ((callv en80 (.cons (.t rfl) (.cons (.t rfl) .nil)) (fun w I => bit_g _ _ w hlt bb hbb) ?_))
        refine hdn (tk 8 rfl (Ev.assign (.t rfl)) ?_)
        refine ovr (pN (seq (draw' (by kernel_rfl) ?_)))
        refine tk 0 rfl (Ev.move (.t rfl)) ?_
        refine tk 1 rfl (Ev.move (.t rfl)) ?_
        refine tk 2 rfl (Ev.nilCheck (.t rfl)) ?_
        refine tk 3 rfl (fA 20 (.t rfl)) ?_
        refine tk 4 rfl (Ev.indexAddrA Try.underlying147 ty143 (.t rfl) (.t rfl) (fun _ => by omega)) ?_
        refine tk 5 rfl (Ev.to (v' := (PT.kid bb l r).ptr.v) (Ev.load ty143 (.t rfl) (ptsL (fun w I => (hat.1).keep I.keeps) (Lens.comp STrieNode.l_kids (lArr (n := 2) (ovE nilPtr) _ (by omega))))) (congrArg OV.v (kids_at l r bb hbt))) ?_
        refine tk 6 rfl (Ev.ldv ty53 (.t rfl) (Lens.id _)) ?_
        refine tk 7 rfl (Ev.move (.t rfl)) ?_
        refine al1 8 rfl ((calln (X := PT × List Res) (PutJ (PT.kid bb l r) (putT p v (PT.kid bb l r).tr).1) (fun x => .tuple #[x.1.ptr.v, .bool (putT p v (PT.kid bb l r).tr).2]) (fun x => x.2) en76 (.cons (.t rfl) (.cons (.t rfl) (.cons (.t rfl) .nil))) (fun w I => ih bb _ w (PT.At.kid (hat.2.1.keep I.keeps) (hat.2.2.keep I.keeps) bb) (kid_wf hw.2.2.1 hw.2.2.2.1 bb) e2) (fun x1 hx1 => ?_)))
        refine hdn (tk 9 rfl (Ev.move (.t rfl)) ?_)
        refine tk 10 rfl (Ev.extract (.t rfl) rfl) ?_
        refine tk 11 rfl (Ev.extract (.t rfl) rfl) ?_
        refine tk 12 rfl (Ev.assign (.t rfl)) ?_
        refine tk 13 rfl (Ev.assign (.t rfl)) ?_
        refine ovr (pN (sg (mv rfl (mv rfl (co (fA 20 (.t rfl)) ?_)))))
        refine co (Ev.indexAddrA Try.underlying147 ty143 (.t rfl) (.t rfl) (fun _ => by omega)) ?_
        refine cons (stv ty143 (Lens.comp STrieNode.l_kids (lArr (n := 2) (ovE nilPtr) _ (by omega))) (.t rfl) (.t rfl) ?_)
        refine nP (sg (mv rfl (asn rfl (asn rfl (nP (ret (bR (pR (done rfl (.tmp rfl (.tmp rfl .nil)) (fun w I => ?_))))))))))
        cases bb with
        | true =>
          have ep : putT p v (.node q u h l.tr r.tr) = (.node q u h l.tr (putT p v r.tr).1, (putT p v r.tr).2) := by show Tr.put _ _ _ _ _ = _; rw [Tr.put, if_neg hqp, if_pos e1, if_pos hbb]
          exact retNP (PT.node b4 q u h l x1.1, Var b4 eTrieNode (⟨q, u, h, kids l x1.1⟩ : STrieNode) 149 :: x1.2) ⟨by rw [ep]; exact congrArg (Tr.node q u h l.tr) hx1.1, fun w1 ho hh => ⟨pts_mem (T := 149) hh List.mem_cons_self, ho.2.1, hx1.2 w1 ho.2.2 (fun q hq => hh q (List.mem_cons_of_mem _ hq))⟩⟩ (by rw [ep]; rfl) (by repeat first | refine SubP.cons (by repeat first | exact Rem.head | apply Rem.tail | apply Rem.app) ?_ | exact SubP.of (by repeat first | exact sR | apply sS | exact List.sublist_append_left _ _)) w I
        | false =>
          have ep : putT p v (.node q u h l.tr r.tr) = (.node q u h (putT p v l.tr).1 r.tr, (putT p v l.tr).2) := by show Tr.put _ _ _ _ _ = _; rw [Tr.put, if_neg hqp, if_pos e1, if_neg (by rw [hbb]; exact Bool.false_ne_true)]
          exact retNP (PT.node b4 q u h x1.1 r, Var b4 eTrieNode (⟨q, u, h, kids x1.1 r⟩ : STrieNode) 149 :: x1.2) ⟨by rw [ep]; exact congrArg (fun z => Tr.node q u h z r.tr) hx1.1, fun w1 ho hh => ⟨pts_mem (T := 149) hh List.mem_cons_self, hx1.2 w1 ho.2.1 (fun q hq => hh q (List.mem_cons_of_mem _ hq)), ho.2.2⟩⟩ (by rw [ep]; rfl) (by repeat first | refine SubP.cons (by repeat first | exact Rem.head | apply Rem.tail | apply Rem.app) ?_ | exact SubP.of (by repeat first | exact sR | apply sS | exact List.sublist_append_left _ _)) w I
      · have e0 : bothP q p ≠ q := by rw [hc0]; exact eqb_no h2
        refine sg (co (Ev.ldv ty53 (.t rfl) (Lens.id _)) ?_)
        refine co (Ev.eqlS rfl eqok53 rfl (by kernel_rfl) (.t rfl) (.t rfl)) ?_
        refine asn rfl (nP ?_)
        first | refine condD rfl (fun h3 => ?_) (fun h3 => ?_) | refine cond rfl (fun h3 => ?_) (fun h3 => ?_)
        · have e1 : bothP q p = p := hc0.trans ((SPrefix.eqb_iff _ _).1 h3)
          obtain ⟨bb, hbb⟩ : ∃ z, bitP p q = z := ⟨_, rfl⟩
          have e2 : pb p ++ [bb] <+: pb q := by
            rcases hway with ⟨g, _⟩ | ⟨_, _, g⟩ | ⟨_, g, _⟩
            · exact absurd g e0
            · rw [← hbb]; exact g
            · exact absurd e1 g
          have hlt := snoc_lt hp hq e2
          have hbn := bI_nn bb
          have hbt : (bI bb).toNat < 2 := by omega
          refine sg (co (Ev.ldv ty53 (.t rfl) (Lens.id _)) ?_)
          refine mv rfl (co (Ev.buildS (fs := _) (places := [(0, 18), (18, 1), (19, 1), (20, 2)]) z149 rfl Try.underlying149 (by kernel_rfl) (.cons (.t rfl) (.cons (.t rfl) (.cons (.c (v := .bool true) rfl) .nil))) (Fills.cons STrieNode.l_p rfl (Fills.cons STrieNode.l_v rfl (Fills.cons STrieNode.l_has rfl Fills.nil)))) ?_)
          refine cons (box (E := eTrieNode) (.t rfl) (fun b5 => ?_))
          refine asn rfl (nP (seq (drawS 87 rfl (by repeat first | exact Rem.head | apply Rem.tail) (by kernel_rfl) ?_)))
          refine tk 0 rfl (Ev.move (.t rfl)) ?_
          refine tk 1 rfl (Ev.move (.t rfl)) ?_
          refine tk 2 rfl (Ev.nilCheck (.t rfl)) ?_
          refine tk 3 rfl (fA 0 (.t rfl)) ?_
          refine tk 4 rfl (fA 0 (.t rfl)) ?_
          refine tk 5 rfl (Ev.load ty37 (.t rfl) (ptsL (fun w I => (hat.1).keep I.keeps) (Lens.comp STrieNode.l_p SPrefix.l_addr))) ?_
          refine tk 6 rfl (fA 17 (.t rfl)) ?_
          refine tk 7 rfl (Ev.ldv ty3 (.t rfl) SPrefix.l_bits) ?_
          refine tk 9 rfl (Ev.to (v' := (PT.node b q u h l r).ptr.v) (Ev.move (.t rfl)) (rfl)) ?_
          refine tk 10 rfl (Ev.nilCheck (.t rfl)) ?_
          refine tk 11 rfl (fA 20 (.t rfl)) ?_
          refine al1 8 rfl ((callv en80 (.cons (.t rfl) (.cons (.t rfl) .nil)) (fun w I => bit_g _ _ w hlt bb hbb) ?_))
          refine hdn (tk 12 rfl (Ev.indexAddrA Try.underlying147 ty143 (.t rfl) (.t rfl) (fun _ => by omega)) ?_)
          refine al1 13 rfl ((stv ty143 (Lens.comp STrieNode.l_kids (lArr (n := 2) (ovE nilPtr) _ (by omega))) (.t rfl) (.t rfl) ?_))
          refine hdn (ovr (pN (sg (mv rfl (asn rfl (co (Ev.assign (.c (v := .bool true) rfl)) ?_))))))
          refine nP (ret (bR (pR (done rfl (.tmp rfl (.tmp rfl .nil)) (fun w I => ?_)))))
          cases bb with
          | true =>
            have ep : putT p v (.node q u h l.tr r.tr) = (.node p v true .nil (.node q u h l.tr r.tr), true) := by show Tr.put _ _ _ _ _ = _; rw [Tr.put, if_neg hqp, if_neg e0, if_pos e1, if_pos hbb]
            exact retNP (PT.node b5 p v true .nil (PT.node b q u h l r), [Var b5 eTrieNode (⟨p, v, true, kids .nil (PT.node b q u h l r)⟩ : STrieNode) 149]) ⟨by rw [ep]; rfl, fun w1 ho hh => ⟨pts_mem (T := 149) hh (by simp), trivial, ho⟩⟩ (by rw [ep]; rfl) (by repeat first | exact SubP.nil | refine SubP.cons (by repeat first | exact Rem.head | apply Rem.tail) ?_) w I
          | false =>
            have ep : putT p v (.node q u h l.tr r.tr) = (.node p v true (.node q u h l.tr r.tr) .nil, true) := by show Tr.put _ _ _ _ _ = _; rw [Tr.put, if_neg hqp, if_neg e0, if_pos e1, if_neg (by rw [hbb]; exact Bool.false_ne_true)]
            exact retNP (PT.node b5 p v true (PT.node b q u h l r) .nil, [Var b5 eTrieNode (⟨p, v, true, kids (PT.node b q u h l r) .nil⟩ : STrieNode) 149]) ⟨by rw [ep]; rfl, fun w1 ho hh => ⟨pts_mem (T := 149) hh (by simp), ho, trivial⟩⟩ (by rw [ep]; rfl) (by repeat first | exact SubP.nil | refine SubP.cons (by repeat first | exact Rem.head | apply Rem.tail) ?_) w I
        · have e1 : bothP q p ≠ p := by rw [hc0]; exact eqb_no h3
          obtain ⟨bp, hbp⟩ : ∃ z, bitP c0 p = z := ⟨_, rfl⟩
          obtain ⟨bq, hbq⟩ : ∃ z, bitP c0 q = z := ⟨_, rfl⟩
          obtain ⟨g2, g5, g6⟩ : okP k c0 ∧ bq = (!bp) ∧ pb c0 ++ [bp] <+: pb p := by
            rcases hway with ⟨g, _⟩ | ⟨_, g, _⟩ | ⟨_, _, a2, _, a4, _, a6⟩
            · exact absurd g e0
            · exact absurd g e1
            · rw [hc0] at a2 a4 a6
              rw [hbp] at a4 a6
              exact ⟨a2, hbq.symm.trans a4, a6⟩
          have hbqp := g5
          have hlt := snoc_lt g2 hp g6
          have hbn := bI_nn bp
          have hbt : (bI bp).toNat < 2 := by omega
          have hbn2 := bI_nn bq
          have hbt2 : (bI bq).toNat < 2 := by omega
          refine skip (bN (pN (sg (co (Ev.ldv ty53 (.t rfl) (Lens.id _)) ?_))))
          refine co (Ev.buildS (fs := _) (places := [(0, 18), (18, 1), (19, 1), (20, 2)]) z149 rfl Try.underlying149 (by kernel_rfl) (.cons (.t rfl) .nil) (Fills.cons STrieNode.l_p rfl Fills.nil)) ?_
          refine cons (box (E := eTrieNode) (.t rfl) (fun b6 => ?_))
          refine asn rfl (nP (seq (drawS 104 rfl (by repeat first | exact Rem.head | apply Rem.tail) (by kernel_rfl) ?_)))
          refine tk 0 rfl (Ev.move (.t rfl)) ?_
          refine tk 1 rfl (Ev.move (.t rfl)) ?_
          refine tk 2 rfl (Ev.nilCheck (.t rfl)) ?_
          refine tk 3 rfl (fA 0 (.t rfl)) ?_
          refine tk 4 rfl (fA 0 (.t rfl)) ?_
          refine tk 5 rfl (Ev.load ty37 (.t rfl) (ptsL (fun w I => (hat.1).keep I.keeps) (Lens.comp STrieNode.l_p SPrefix.l_addr))) ?_
          refine tk 6 rfl (fA 17 (.t rfl)) ?_
          refine tk 7 rfl (Ev.ldv ty3 (.t rfl) SPrefix.l_bits) ?_
          refine tk 9 rfl (Ev.to (v' := (PT.node b q u h l r).ptr.v) (Ev.move (.t rfl)) (rfl)) ?_
          refine tk 10 rfl (Ev.nilCheck (.t rfl)) ?_
          refine tk 11 rfl (fA 20 (.t rfl)) ?_
          refine al1 8 rfl ((callv en80 (.cons (.t rfl) (.cons (.t rfl) .nil)) (fun w I => bit_g _ _ w hlt bq hbq) ?_))
          refine hdn (tk 12 rfl (Ev.indexAddrA Try.underlying147 ty143 (.t rfl) (.t rfl) (fun _ => by omega)) ?_)
          refine al1 13 rfl ((stv ty143 (Lens.comp STrieNode.l_kids (lArr (n := 2) (ovE nilPtr) _ (by omega))) (.t rfl) (.t rfl) ?_))
          refine hdn (ovr (pN (seq (drawS 104 rfl (by repeat first | exact Rem.head | apply Rem.tail) (by kernel_rfl) ?_))))
          refine tk 0 rfl (Ev.move (.t rfl)) ?_
          refine tk 1 rfl (fA 0 (.t rfl)) ?_
          refine tk 2 rfl (Ev.ldv ty37 (.t rfl) SPrefix.l_addr) ?_
          refine tk 3 rfl (fA 17 (.t rfl)) ?_
          refine tk 4 rfl (Ev.ldv ty3 (.t rfl) SPrefix.l_bits) ?_
          refine tk 6 rfl (Ev.ldv ty53 (.t rfl) (Lens.id _)) ?_
          refine tk 7 rfl (Ev.move (.t rfl)) ?_
          refine tk 8 rfl (Ev.buildS (fs := _) (places := [(0, 18), (18, 1), (19, 1), (20, 2)]) z149 rfl Try.underlying149 (by kernel_rfl) (.cons (.t rfl) (.cons (.t rfl) (.cons (.c (v := .bool true) rfl) .nil))) (Fills.cons STrieNode.l_p rfl (Fills.cons STrieNode.l_v rfl (Fills.cons STrieNode.l_has rfl Fills.nil)))) ?_
          refine tk 10 rfl (Ev.nilCheck (.t rfl)) ?_
          refine tk 11 rfl (fA 20 (.t rfl)) ?_
          refine all [5, 9] (by kernel_rfl) (by decide) (.cons rfl ?_ (.cons rfl ?_ .nil))
          · refine (callv en80 (.cons (.t rfl) (.cons (.t rfl) .nil)) (fun w I => bit_g _ _ w hlt bp hbp) ?_)
            refine hdn (al1 9 rfl ((box (E := eTrieNode) (.t rfl) (fun b7 => ?_))))
            refine hdn (tk 12 rfl (Ev.indexAddrA Try.underlying147 ty143 (.t rfl) (.t rfl) (fun _ => by omega)) ?_)
            refine al1 13 rfl ((stv ty143 (Lens.comp STrieNode.l_kids (lArr (n := 2) (ovE nilPtr) _ (by omega))) (.t rfl) (.t (v := (PT.node b7 p v true .nil .nil).ptr.v) rfl) ?_))
            refine hdn (ovr (pN (sg (mv rfl (asn rfl (co (Ev.assign (.c (v := .bool true) rfl)) ?_))))))
            refine nP (ret (done rfl (.tmp rfl (.tmp rfl .nil)) (fun w I => ?_)))
            cases bp with
            | true =>
              obtain rfl : bq = false := hbqp
              have ep : putT p v (.node q u h l.tr r.tr) = (.node c0 0 false (.node q u h l.tr r.tr) (.node p v true .nil .nil), true) := by show Tr.put _ _ _ _ _ = _; rw [Tr.put, if_neg hqp, if_neg e0, if_neg e1, hc0, if_pos hbp]
              exact retNP (PT.node b6 c0 0 false (PT.node b q u h l r) (PT.node b7 p v true .nil .nil), [Var b7 eTrieNode (⟨p, v, true, kids .nil .nil⟩ : STrieNode) 149, Var b6 eTrieNode (⟨c0, 0, false, kids (PT.node b q u h l r) (PT.node b7 p v true .nil .nil)⟩ : STrieNode) 149]) ⟨by rw [ep]; rfl, fun w1 ho hh => ⟨pts_mem (T := 149) hh (by simp), ho, pts_mem (T := 149) hh (by simp), trivial, trivial⟩⟩ (by rw [ep]; rfl) (by repeat first | exact SubP.nil | refine SubP.cons (by repeat first | exact Rem.head | apply Rem.tail) ?_) w I
            | false =>
              obtain rfl : bq = true := hbqp
              have ep : putT p v (.node q u h l.tr r.tr) = (.node c0 0 false (.node p v true .nil .nil) (.node q u h l.tr r.tr), true) := by show Tr.put _ _ _ _ _ = _; rw [Tr.put, if_neg hqp, if_neg e0, if_neg e1, hc0, if_neg (by rw [hbp]; exact Bool.false_ne_true)]
              exact retNP (PT.node b6 c0 0 false (PT.node b7 p v true .nil .nil) (PT.node b q u h l r), [Var b7 eTrieNode (⟨p, v, true, kids .nil .nil⟩ : STrieNode) 149, Var b6 eTrieNode (⟨c0, 0, false, kids (PT.node b7 p v true .nil .nil) (PT.node b q u h l r)⟩ : STrieNode) 149]) ⟨by rw [ep]; rfl, fun w1 ho hh => ⟨pts_mem (T := 149) hh (by simp), ⟨pts_mem (T := 149) hh (by simp), trivial, trivial⟩, ho⟩⟩ (by rw [ep]; rfl) (by repeat first | exact SubP.nil | refine SubP.cons (by repeat first | exact Rem.head | apply Rem.tail) ?_) w I
          · refine (box (E := eTrieNode) (.t rfl) (fun b8 => ?_))
            refine hdn (al1 5 rfl ((callv en80 (.cons (.t rfl) (.cons (.t rfl) .nil)) (fun w I => bit_g _ _ w hlt bp hbp) ?_)))
            refine hdn (tk 12 rfl (Ev.indexAddrA Try.underlying147 ty143 (.t rfl) (.t rfl) (fun _ => by omega)) ?_)
            refine al1 13 rfl ((stv ty143 (Lens.comp STrieNode.l_kids (lArr (n := 2) (ovE nilPtr) _ (by omega))) (.t rfl) (.t (v := (PT.node b8 p v true .nil .nil).ptr.v) rfl) ?_))
            refine hdn (ovr (pN (sg (mv rfl (asn rfl (co (Ev.assign (.c (v := .bool true) rfl)) ?_))))))
            refine nP (ret (done rfl (.tmp rfl (.tmp rfl .nil)) (fun w I => ?_)))
            cases bp with
            | true =>
              obtain rfl : bq = false := hbqp
              have ep : putT p v (.node q u h l.tr r.tr) = (.node c0 0 false (.node q u h l.tr r.tr) (.node p v true .nil .nil), true) := by show Tr.put _ _ _ _ _ = _; rw [Tr.put, if_neg hqp, if_neg e0, if_neg e1, hc0, if_pos hbp]
              exact retNP (PT.node b6 c0 0 false (PT.node b q u h l r) (PT.node b8 p v true .nil .nil), [Var b8 eTrieNode (⟨p, v, true, kids .nil .nil⟩ : STrieNode) 149, Var b6 eTrieNode (⟨c0, 0, false, kids (PT.node b q u h l r) (PT.node b8 p v true .nil .nil)⟩ : STrieNode) 149]) ⟨by rw [ep]; rfl, fun w1 ho hh => ⟨pts_mem (T := 149) hh (by simp), ho, pts_mem (T := 149) hh (by simp), trivial, trivial⟩⟩ (by rw [ep]; rfl) (by repeat first | exact SubP.nil | refine SubP.cons (by repeat first | exact Rem.head | apply Rem.tail) ?_) w I
            | false =>
              obtain rfl : bq = true := hbqp
              have ep : putT p v (.node q u h l.tr r.tr) = (.node c0 0 false (.node p v true .nil .nil) (.node q u h l.tr r.tr), true) := by show Tr.put _ _ _ _ _ = _; rw [Tr.put, if_neg hqp, if_neg e0, if_neg e1, hc0, if_neg (by rw [hbp]; exact Bool.false_ne_true)]
              exact retNP (PT.node b6 c0 0 false (PT.node b8 p v true .nil .nil) (PT.node b q u h l r), [Var b8 eTrieNode (⟨p, v, true, kids .nil .nil⟩ : STrieNode) 149, Var b6 eTrieNode (⟨c0, 0, false, kids (PT.node b8 p v true .nil .nil) (PT.node b q u h l r)⟩ : STrieNode) 149]) ⟨by rw [ep]; rfl, fun w1 ho hh => ⟨pts_mem (T := 149) hh (by simp), ⟨pts_mem (T := 149) hh (by simp), trivial, trivial⟩, ho⟩⟩ (by rw [ep]; rfl) (by repeat first | exact SubP.nil | refine SubP.cons (by repeat first | exact Rem.head | apply Rem.tail) ?_) w I
    · refine (alloc z53 (fun b9 => ?_))
      refine hdn (al1 5 rfl ((callv en96 (.cons (.t rfl) (.cons (.t rfl) .nil)) (fun w I => both_g k q p w hq hp c0 hc0) ?_)))
      refine hdn (al1 7 rfl ((stv ty53 (Lens.id _) (.t rfl) (.t rfl) ?_)))
      refine hdn (ovr (pN (seq (sg (co (Ev.ldv ty53 (.t rfl) (Lens.id _)) ?_)))))
      refine nP (block (sg (mv rfl (co (Ev.nilCheck (.t rfl)) ?_))))
      refine co (fA 0 (.t rfl)) ?_
      refine co (Ev.load ty53 (.t rfl) (ptsL (fun w I => (hat.1).keep I.keeps) STrieNode.l_p)) ?_
      refine co (Ev.eqlS rfl eqok53 rfl (by kernel_rfl) (.t rfl) (.t rfl)) ?_
      refine asn rfl (nP ?_)
      first | refine condD rfl (fun h2 => ?_) (fun h2 => ?_) | refine cond rfl (fun h2 => ?_) (fun h2 => ?_)
      · have e1 : bothP q p = q := hc0.trans ((SPrefix.eqb_iff _ _).1 h2)
        obtain ⟨bb, hbb⟩ : ∃ z, bitP q p = z := ⟨_, rfl⟩
        have e2 : pb q ++ [bb] <+: pb p := by
          rcases hway with ⟨_, g⟩ | ⟨g, _⟩ | ⟨g, _⟩
          · rw [← hbb]; exact g
          · exact absurd e1 g
          · exact absurd e1 g
        have hlt := snoc_lt hq hp e2
        have hbn := bI_nn bb
        have hbt : (bI bb).toNat < 2 := by omega
        refine sg (mv rfl (co (Ev.nilCheck (.t rfl)) ?_))
        refine co (Ev.load ty149 (.t rfl) (ptsL (fun w I => (hat.1).keep I.keeps) (Lens.id _))) ?_
        refine cons (alloc z149 (fun b10 => ?_))
        refine cons (stv ty149 (Lens.id _) (.t rfl) (.t rfl) ?_)
        refine nP (seq (draw' (by kernel_rfl) ?_))
        refine tk 0 rfl (fA 0 (.t rfl)) ?_
        refine tk 1 rfl (Ev.ldv ty37 (.t rfl) SPrefix.l_addr) ?_
        refine tk 2 rfl (Ev.move (.t rfl)) ?_
        refine tk 3 rfl (Ev.nilCheck (.t rfl)) ?_
        refine tk 4 rfl (fA 0 (.t rfl)) ?_
        refine tk 5 rfl (fA 17 (.t rfl)) ?_
        refine tk 6 rfl (Ev.load ty3 (.t rfl) (ptsL (fun w I => (hat.1).keep I.keeps) (Lens.comp STrieNode.l_p SPrefix.l_bits))) ?_
        refine al1 7 rfl ((callv en80 (.cons (.t rfl) (.cons (.t rfl) .nil)) (fun w I => bit_g _ _ w hlt bb hbb) ?_))
        refine hdn (tk 8 rfl (Ev.assign (.t rfl)) ?_)
        refine ovr (pN (seq (draw' (by kernel_rfl) ?_)))
        refine tk 0 rfl (Ev.move (.t rfl)) ?_
        refine tk 1 rfl (Ev.move (.t rfl)) ?_
        refine tk 2 rfl (Ev.nilCheck (.t rfl)) ?_
        refine tk 3 rfl (fA 20 (.t rfl)) ?_
        refine tk 4 rfl (Ev.indexAddrA Try.underlying147 ty143 (.t rfl) (.t rfl) (fun _ => by omega)) ?_
        refine tk 5 rfl (Ev.to (v' := (PT.kid bb l r).ptr.v) (Ev.load ty143 (.t rfl) (ptsL (fun w I => (hat.1).keep I.keeps) (Lens.comp STrieNode.l_kids (lArr (n := 2) (ovE nilPtr) _ (by omega))))) (congrArg OV.v (kids_at l r bb hbt))) ?_
        refine tk 6 rfl (Ev.ldv ty53 (.t rfl) (Lens.id _)) ?_
        refine tk 7 rfl (Ev.move (.t rfl)) ?_
        refine al1 8 rfl ((calln (X := PT × List Res) (PutJ (PT.kid bb l r) (putT p v (PT.kid bb l r).tr).1) (fun x => .tuple #[x.1.ptr.v, .bool (putT p v (PT.kid bb l r).tr).2]) (fun x => x.2) en76 (.cons (.t rfl) (.cons (.t rfl) (.cons (.t rfl) .nil))) (fun w I => ih bb _ w (PT.At.kid (hat.2.1.keep I.keeps) (hat.2.2.keep I.keeps) bb) (kid_wf hw.2.2.1 hw.2.2.2.1 bb) e2) (fun x1 hx1 => ?_)))
        refine hdn (tk 9 rfl (Ev.move (.t rfl)) ?_)
        refine tk 10 rfl (Ev.extract (.t rfl) rfl) ?_
        refine tk 11 rfl (Ev.extract (.t rfl) rfl) ?_
        refine tk 12 rfl (Ev.assign (.t rfl)) ?_
        refine tk 13 rfl (Ev.assign (.t rfl)) ?_
        refine ovr (pN (sg (mv rfl (mv rfl (co (fA 20 (.t rfl)) ?_)))))
        refine co (Ev.indexAddrA Try.underlying147 ty143 (.t rfl) (.t rfl) (fun _ => by omega)) ?_
        refine cons (stv ty143 (Lens.comp STrieNode.l_kids (lArr (n := 2) (ovE nilPtr) _ (by omega))) (.t rfl) (.t rfl) ?_)
        refine nP (sg (mv rfl (asn rfl (asn rfl (nP (ret (bR (pR (done rfl (.tmp rfl (.tmp rfl .nil)) (fun w I => ?_))))))))))
        cases bb with
        | true =>
          have ep : putT p v (.node q u h l.tr r.tr) = (.node q u h l.tr (putT p v r.tr).1, (putT p v r.tr).2) := by show Tr.put _ _ _ _ _ = _; rw [Tr.put, if_neg hqp, if_pos e1, if_pos hbb]
          exact retNP (PT.node b10 q u h l x1.1, Var b10 eTrieNode (⟨q, u, h, kids l x1.1⟩ : STrieNode) 149 :: x1.2) ⟨by rw [ep]; exact congrArg (Tr.node q u h l.tr) hx1.1, fun w1 ho hh => ⟨pts_mem (T := 149) hh List.mem_cons_self, ho.2.1, hx1.2 w1 ho.2.2 (fun q hq => hh q (List.mem_cons_of_mem _ hq))⟩⟩ (by rw [ep]; rfl) (by repeat first | refine SubP.cons (by repeat first | exact Rem.head | apply Rem.tail | apply Rem.app) ?_ | exact SubP.of (by repeat first | exact sR | apply sS | exact List.sublist_append_left _ _)) w I
        | false =>
          have ep : putT p v (.node q u h l.tr r.tr) = (.node q u h (putT p v l.tr).1 r.tr, (putT p v l.tr).2) := by show Tr.put _ _ _ _ _ = _; rw [Tr.put, if_neg hqp, if_pos e1, if_neg (by rw [hbb]; exact Bool.false_ne_true)]
          exact retNP (PT.node b10 q u h x1.1 r, Var b10 eTrieNode (⟨q, u, h, kids x1.1 r⟩ : STrieNode) 149 :: x1.2) ⟨by rw [ep]; exact congrArg (fun z => Tr.node q u h z r.tr) hx1.1, fun w1 ho hh => ⟨pts_mem (T := 149) hh List.mem_cons_self, hx1.2 w1 ho.2.1 (fun q hq => hh q (List.mem_cons_of_mem _ hq)), ho.2.2⟩⟩ (by rw [ep]; rfl) (by repeat first | refine SubP.cons (by repeat first | exact Rem.head | apply Rem.tail | apply Rem.app) ?_ | exact SubP.of (by repeat first | exact sR | apply sS | exact List.sublist_append_left _ _)) w I
      · have e0 : bothP q p ≠ q := by rw [hc0]; exact eqb_no h2
        refine sg (co (Ev.ldv ty53 (.t rfl) (Lens.id _)) ?_)
        refine co (Ev.eqlS rfl eqok53 rfl (by kernel_rfl) (.t rfl) (.t rfl)) ?_
        refine asn rfl (nP ?_)
        first | refine condD rfl (fun h3 => ?_) (fun h3 => ?_) | refine cond rfl (fun h3 => ?_) (fun h3 => ?_)
        · have e1 : bothP q p = p := hc0.trans ((SPrefix.eqb_iff _ _).1 h3)
          obtain ⟨bb, hbb⟩ : ∃ z, bitP p q = z := ⟨_, rfl⟩
          have e2 : pb p ++ [bb] <+: pb q := by
            rcases hway with ⟨g, _⟩ | ⟨_, _, g⟩ | ⟨_, g, _⟩
            · exact absurd g e0
            · rw [← hbb]; exact g
            · exact absurd e1 g
          have hlt := snoc_lt hp hq e2
          have hbn := bI_nn bb
          have hbt : (bI bb).toNat < 2 := by omega
          refine sg (co (Ev.ldv ty53 (.t rfl) (Lens.id _)) ?_)
          refine mv rfl (co (Ev.buildS (fs := _) (places := [(0, 18), (18, 1), (19, 1), (20, 2)]) z149 rfl Try.underlying149 (by kernel_rfl) (.cons (.t rfl) (.cons (.t rfl) (.cons (.c (v := .bool true) rfl) .nil))) (Fills.cons STrieNode.l_p rfl (Fills.cons STrieNode.l_v rfl (Fills.cons STrieNode.l_has rfl Fills.nil)))) ?_)
          refine cons (box (E := eTrieNode) (.t rfl) (fun b11 => ?_))
          refine asn rfl (nP (seq (drawS 87 rfl (by repeat first | exact Rem.head | apply Rem.tail) (by kernel_rfl) ?_)))
          refine tk 0 rfl (Ev.move (.t rfl)) ?_
          refine tk 1 rfl (Ev.move (.t rfl)) ?_
          refine tk 2 rfl (Ev.nilCheck (.t rfl)) ?_
          refine tk 3 rfl (fA 0 (.t rfl)) ?_
          refine tk 4 rfl (fA 0 (.t rfl)) ?_
          refine tk 5 rfl (Ev.load ty37 (.t rfl) (ptsL (fun w I => (hat.1).keep I.keeps) (Lens.comp STrieNode.l_p SPrefix.l_addr))) ?_
          refine tk 6 rfl (fA 17 (.t rfl)) ?_
          refine tk 7 rfl (Ev.ldv ty3 (.t rfl) SPrefix.l_bits) ?_
          refine tk 9 rfl (Ev.to (v' := (PT.node b q u h l r).ptr.v) (Ev.move (.t rfl)) (rfl)) ?_
          refine tk 10 rfl (Ev.nilCheck (.t rfl)) ?_
          refine tk 11 rfl (fA 20 (.t rfl)) ?_
          refine al1 8 rfl ((callv en80 (.cons (.t rfl) (.cons (.t rfl) .nil)) (fun w I => bit_g _ _ w hlt bb hbb) ?_))
          refine hdn (tk 12 rfl (Ev.indexAddrA Try.underlying147 ty143 (.t rfl) (.t rfl) (fun _ => by omega)) ?_)
          refine al1 13 rfl ((stv ty143 (Lens.comp STrieNode.l_kids (lArr (n := 2) (ovE nilPtr) _ (by omega))) (.t rfl) (.t rfl) ?_))
          refine hdn (ovr (pN (sg (mv rfl (asn rfl (co (Ev.assign (.c (v := .bool true) rfl)) ?_))))))
          refine nP (ret (bR (pR (done rfl (.tmp rfl (.tmp rfl .nil)) (fun w I => ?_)))))
          cases bb with
          | true =>
            have ep : putT p v (.node q u h l.tr r.tr) = (.node p v true .nil (.node q u h l.tr r.tr), true) := by show Tr.put _ _ _ _ _ = _; rw [Tr.put, if_neg hqp, if_neg e0, if_pos e1, if_pos hbb]
            exact retNP (PT.node b11 p v true .nil (PT.node b q u h l r), [Var b11 eTrieNode (⟨p, v, true, kids .nil (PT.node b q u h l r)⟩ : STrieNode) 149]) ⟨by rw [ep]; rfl, fun w1 ho hh => ⟨pts_mem (T := 149) hh (by simp), trivial, ho⟩⟩ (by rw [ep]; rfl) (by repeat first | exact SubP.nil | refine SubP.cons (by repeat first | exact Rem.head | apply Rem.tail) ?_) w I
          | false =>
            have ep : putT p v (.node q u h l.tr r.tr) = (.node p v true (.node q u h l.tr r.tr) .nil, true) := by show Tr.put _ _ _ _ _ = _; rw [Tr.put, if_neg hqp, if_neg e0, if_pos e1, if_neg (by rw [hbb]; exact Bool.false_ne_true)]
            exact retNP (PT.node b11 p v true (PT.node b q u h l r) .nil, [Var b11 eTrieNode (⟨p, v, true, kids (PT.node b q u h l r) .nil⟩ : STrieNode) 149]) ⟨by rw [ep]; rfl, fun w1 ho hh => ⟨pts_mem (T := 149) hh (by simp), ho, trivial⟩⟩ (by rw [ep]; rfl) (by repeat first | exact SubP.nil | refine SubP.cons (by repeat first | exact Rem.head | apply Rem.tail) ?_) w I
        · have e1 : bothP q p ≠ p := by rw [hc0]; exact eqb_no h3
          obtain ⟨bp, hbp⟩ : ∃ z, bitP c0 p = z := ⟨_, rfl⟩
          obtain ⟨bq, hbq⟩ : ∃ z, bitP c0 q = z := ⟨_, rfl⟩
          obtain ⟨g2, g5, g6⟩ : okP k c0 ∧ bq = (!bp) ∧ pb c0 ++ [bp] <+: pb p := by
            rcases hway with ⟨g, _⟩ | ⟨_, g, _⟩ | ⟨_, _, a2, _, a4, _, a6⟩
            · exact absurd g e0
            · exact absurd g e1
            · rw [hc0] at a2 a4 a6
              rw [hbp] at a4 a6
              exact ⟨a2, hbq.symm.trans a4, a6⟩
          have hbqp := g5
          have hlt := snoc_lt g2 hp g6
          have hbn := bI_nn bp
          have hbt : (bI bp).toNat < 2 := by omega
          have hbn2 := bI_nn bq
          have hbt2 : (bI bq).toNat < 2 := by omega
          refine skip (bN (pN (sg (co (Ev.ldv ty53 (.t rfl) (Lens.id _)) ?_))))
          refine co (Ev.buildS (fs := _) (places := [(0, 18), (18, 1), (19, 1), (20, 2)]) z149 rfl Try.underlying149 (by kernel_rfl) (.cons (.t rfl) .nil) (Fills.cons STrieNode.l_p rfl Fills.nil)) ?_
          refine cons (box (E := eTrieNode) (.t rfl) (fun b12 => ?_))
          refine asn rfl (nP (seq (drawS 104 rfl (by repeat first | exact Rem.head | apply Rem.tail) (by kernel_rfl) ?_)))
          refine tk 0 rfl (Ev.move (.t rfl)) ?_
          refine tk 1 rfl (Ev.move (.t rfl)) ?_
          refine tk 2 rfl (Ev.nilCheck (.t rfl)) ?_
          refine tk 3 rfl (fA 0 (.t rfl)) ?_
          refine tk 4 rfl (fA 0 (.t rfl)) ?_
          refine tk 5 rfl (Ev.load ty37 (.t rfl) (ptsL (fun w I => (hat.1).keep I.keeps) (Lens.comp STrieNode.l_p SPrefix.l_addr))) ?_
          refine tk 6 rfl (fA 17 (.t rfl)) ?_
          refine tk 7 rfl (Ev.ldv ty3 (.t rfl) SPrefix.l_bits) ?_
          refine tk 9 rfl (Ev.to (v' := (PT.node b q u h l r).ptr.v) (Ev.move (.t rfl)) (rfl)) ?_
          refine tk 10 rfl (Ev.nilCheck (.t rfl)) ?_
          refine tk 11 rfl (fA 20 (.t rfl)) ?_
          refine al1 8 rfl ((callv en80 (.cons (.t rfl) (.cons (.t rfl) .nil)) (fun w I => bit_g _ _ w hlt bq hbq) ?_))
          refine hdn (tk 12 rfl (Ev.indexAddrA Try.underlying147 ty143 (.t rfl) (.t rfl) (fun _ => by omega)) ?_)
          refine al1 13 rfl ((stv ty143 (Lens.comp STrieNode.l_kids (lArr (n := 2) (ovE nilPtr) _ (by omega))) (.t rfl) (.t rfl) ?_))
          refine hdn (ovr (pN (seq (drawS 104 rfl (by repeat first | exact Rem.head | apply Rem.tail) (by kernel_rfl) ?_))))
          refine tk 0 rfl (Ev.move (.t rfl)) ?_
          refine tk 1 rfl (fA 0 (.t rfl)) ?_
          refine tk 2 rfl (Ev.ldv ty37 (.t rfl) SPrefix.l_addr) ?_
          refine tk 3 rfl (fA 17 (.t rfl)) ?_
          refine tk 4 rfl (Ev.ldv ty3 (.t rfl) SPrefix.l_bits) ?_
          refine tk 6 rfl (Ev.ldv ty53 (.t rfl) (Lens.id _)) ?_
          refine tk 7 rfl (Ev.move (.t rfl)) ?_
          refine tk 8 rfl (Ev.buildS (fs := _) (places := [(0, 18), (18, 1), (19, 1), (20, 2)]) z149 rfl Try.underlying149 (by kernel_rfl) (.cons (.t rfl) (.cons (.t rfl) (.cons (.c (v := .bool true) rfl) .nil))) (Fills.cons STrieNode.l_p rfl (Fills.cons STrieNode.l_v rfl (Fills.cons STrieNode.l_has rfl Fills.nil)))) ?_
          refine tk 10 rfl (Ev.nilCheck (.t rfl)) ?_
          refine tk 11 rfl (fA 20 (.t rfl)) ?_
          refine all [5, 9] (by kernel_rfl) (by decide) (.cons rfl ?_ (.cons rfl ?_ .nil))
          · refine (callv en80 (.cons (.t rfl) (.cons (.t rfl) .nil)) (fun w I => bit_g _ _ w hlt bp hbp) ?_)
            refine hdn (al1 9 rfl ((box (E := eTrieNode) (.t rfl) (fun b13 => ?_))))
            refine hdn (tk 12 rfl (Ev.indexAddrA Try.underlying147 ty143 (.t rfl) (.t rfl) (fun _ => by omega)) ?_)
            refine al1 13 rfl ((stv ty143 (Lens.comp STrieNode.l_kids (lArr (n := 2) (ovE nilPtr) _ (by omega))) (.t rfl) (.t (v := (PT.node b13 p v true .nil .nil).ptr.v) rfl) ?_))
            refine hdn (ovr (pN (sg (mv rfl (asn rfl (co (Ev.assign (.c (v := .bool true) rfl)) ?_))))))
            refine nP (ret (done rfl (.tmp rfl (.tmp rfl .nil)) (fun w I => ?_)))
            cases bp with
            | true =>
              obtain rfl : bq = false := hbqp
              have ep : putT p v (.node q u h l.tr r.tr) = (.node c0 0 false (.node q u h l.tr r.tr) (.node p v true .nil .nil), true) := by show Tr.put _ _ _ _ _ = _; rw [Tr.put, if_neg hqp, if_neg e0, if_neg e1, hc0, if_pos hbp]
              exact retNP (PT.node b12 c0 0 false (PT.node b q u h l r) (PT.node b13 p v true .nil .nil), [Var b13 eTrieNode (⟨p, v, true, kids .nil .nil⟩ : STrieNode) 149, Var b12 eTrieNode (⟨c0, 0, false, kids (PT.node b q u h l r) (PT.node b13 p v true .nil .nil)⟩ : STrieNode) 149]) ⟨by rw [ep]; rfl, fun w1 ho hh => ⟨pts_mem (T := 149) hh (by simp), ho, pts_mem (T := 149) hh (by simp), trivial, trivial⟩⟩ (by rw [ep]; rfl) (by repeat first | exact SubP.nil | refine SubP.cons (by repeat first | exact Rem.head | apply Rem.tail) ?_) w I
            | false =>
              obtain rfl : bq = true := hbqp
              have ep : putT p v (.node q u h l.tr r.tr) = (.node c0 0 false (.node p v true .nil .nil) (.node q u h l.tr r.tr), true) := by show Tr.put _ _ _ _ _ = _; rw [Tr.put, if_neg hqp, if_neg e0, if_neg e1, hc0, if_neg (by rw [hbp]; exact Bool.false_ne_true)]
              exact retNP (PT.node b12 c0 0 false (PT.node b13 p v true .nil .nil) (PT.node b q u h l r), [Var b13 eTrieNode (⟨p, v, true, kids .nil .nil⟩ : STrieNode) 149, Var b12 eTrieNode (⟨c0, 0, false, kids (PT.node b13 p v true .nil .nil) (PT.node b q u h l r)⟩ : STrieNode) 149]) ⟨by rw [ep]; rfl, fun w1 ho hh => ⟨pts_mem (T := 149) hh (by simp), ⟨pts_mem (T := 149) hh (by simp), trivial, trivial⟩, ho⟩⟩ (by rw [ep]; rfl) (by repeat first | exact SubP.nil | refine SubP.cons (by repeat first | exact Rem.head | apply Rem.tail) ?_) w I
          · refine (box (E := eTrieNode) (.t rfl) (fun b14 => ?_))
            refine hdn (al1 5 rfl ((callv en80 (.cons (.t rfl) (.cons (.t rfl) .nil)) (fun w I => bit_g _ _ w hlt bp hbp) ?_)))
            refine hdn (tk 12 rfl (Ev.indexAddrA Try.underlying147 ty143 (.t rfl) (.t rfl) (fun _ => by omega)) ?_)
            refine al1 13 rfl ((stv ty143 (Lens.comp STrieNode.l_kids (lArr (n := 2) (ovE nilPtr) _ (by omega))) (.t rfl) (.t (v := (PT.node b14 p v true .nil .nil).ptr.v) rfl) ?_))
            refine hdn (ovr (pN (sg (mv rfl (asn rfl (co (Ev.assign (.c (v := .bool true) rfl)) ?_))))))
            refine nP (ret (done rfl (.tmp rfl (.tmp rfl .nil)) (fun w I => ?_)))
            cases bp with
            | true =>
              obtain rfl : bq = false := hbqp
              have ep : putT p v (.node q u h l.tr r.tr) = (.node c0 0 false (.node q u h l.tr r.tr) (.node p v true .nil .nil), true) := by show Tr.put _ _ _ _ _ = _; rw [Tr.put, if_neg hqp, if_neg e0, if_neg e1, hc0, if_pos hbp]
              exact retNP (PT.node b12 c0 0 false (PT.node b q u h l r) (PT.node b14 p v true .nil .nil), [Var b14 eTrieNode (⟨p, v, true, kids .nil .nil⟩ : STrieNode) 149, Var b12 eTrieNode (⟨c0, 0, false, kids (PT.node b q u h l r) (PT.node b14 p v true .nil .nil)⟩ : STrieNode) 149]) ⟨by rw [ep]; rfl, fun w1 ho hh => ⟨pts_mem (T := 149) hh (by simp), ho, pts_mem (T := 149) hh (by simp), trivial, trivial⟩⟩ (by rw [ep]; rfl) (by repeat first | exact SubP.nil | refine SubP.cons (by repeat first | exact Rem.head | apply Rem.tail) ?_) w I
            | false =>
              obtain rfl : bq = true := hbqp
              have ep : putT p v (.node q u h l.tr r.tr) = (.node c0 0 false (.node p v true .nil .nil) (.node q u h l.tr r.tr), true) := by show Tr.put _ _ _ _ _ = _; rw [Tr.put, if_neg hqp, if_neg e0, if_neg e1, hc0, if_neg (by rw [hbp]; exact Bool.false_ne_true)]
              exact retNP (PT.node b12 c0 0 false (PT.node b14 p v true .nil .nil) (PT.node b q u h l r), [Var b14 eTrieNode (⟨p, v, true, kids .nil .nil⟩ : STrieNode) 149, Var b12 eTrieNode (⟨c0, 0, false, kids (PT.node b14 p v true .nil .nil) (PT.node b q u h l r)⟩ : STrieNode) 149]) ⟨by rw [ep]; rfl, fun w1 ho hh => ⟨pts_mem (T := 149) hh (by simp), ⟨pts_mem (T := 149) hh (by simp), trivial, trivial⟩, ho⟩⟩ (by rw [ep]; rfl) (by repeat first | exact SubP.nil | refine SubP.cons (by repeat first | exact Rem.head | apply Rem.tail) ?_) w I
theorem put_ok (k : Bool) (p : SPrefix) (v : Int) (hp : okP k p) : ∀ (t : PT) (c : List Bool) (w : World), t.At w → t.tr.WF (okP k) pb c → c <+: pb p → Calls Try.prog 76 #[t.ptr.v, ePrefix.val p, I v] w (RetN w (PutJ t (putT p v t.tr).1) (fun x => .tuple #[x.1.ptr.v, .bool (putT p v t.tr).2]) (fun x => x.2))
  | .nil, _, w, _, _, _ => put_nil p v w
  | .node b q u h l r, c, w, hat, hw, hc => put_node k p v hp b q u h l r c w hat hw hc (fun bb c' w' h1 h2 h3 => by
    cases bb with
    | true => exact put_ok k p v hp r c' w' h1 h2 h3
    | false => exact put_ok k p v hp l c' w' h1 h2 h3)
end Go.Proofs.Ytmdkmclgfgaahaa.Tri
namespace Go.Proofs.Ytmdkmclgfgaahaa.Tri
open Go Go.Gx
def KL (b : Bool) (l n : PT) : PT := bif b then l else n
def KR (b : Bool) (n r : PT) : PT := bif b then n else r
abbrev cutT (p : SPrefix) (t : Tr SPrefix) : Tr SPrefix := t.cut bitP p
end Go.Proofs.Ytmdkmclgfgaahaa.Tri
namespace Go.Proofs.Ytmdkmclgfgaahaa.Tri
open Go Go.Gx
structure Tt where
  b : Nat
  made : Bool
  n : Int
  l : PT
  r : PT
def Tt.ptr (t : Tt) : OV := ⟨.pointer (some ⟨t.b, 0, none⟩), rfl⟩
def Tt.val (t : Tt) : STrieTrie := ⟨t.made, t.n, kids t.l t.r⟩
def Tt.At (w : World) (t : Tt) : Prop := PtsTo eTrieTrie w t.b 0 t.val ∧ t.l.At w ∧ t.r.At w
theorem Tt.At.keep {w w' : World} {t : Tt} (h : t.At w) (k : Keeps Nope w w') : t.At w' := ⟨h.1.keep k, h.2.1.keep k, h.2.2.keep k⟩
def Tt.ents (t : Tt) : List (SPrefix × Int) := t.l.tr.ents ++ t.r.tr.ents
structure Tt.OK (t : Tt) : Prop where
  made : t.made = true
  n : t.n = t.ents.length
  l : t.l.tr.WF (okP false) pb []
  r : t.r.tr.WF (okP true) pb []
theorem Tt.OK.kid {t : Tt} (h : t.OK) (k : Bool) : (PT.kid k t.l t.r).tr.WF (okP k) pb [] := by cases k; exact h.l; exact h.r
theorem Tt.At.kid {w : World} {t : Tt} (h : t.At w) (k : Bool) : (PT.kid k t.l t.r).At w := PT.At.kid h.2.1 h.2.2 k
theorem pb_keys {k : Bool} {t : Tr SPrefix} {c : List Bool} (h : t.WF (okP k) pb c) : (t.ents.map (·.1)).Nodup := by
  have h1 := h.ents_sorted
  rw [List.nodup_iff_pairwise_ne, List.pairwise_map]
  exact h1.imp (fun {a b} hab e => by rw [e, ltB_irr] at hab; cases hab)
theorem Tt.OK.nodup {t : Tt} (h : t.OK) : (t.ents.map (·.1)).Nodup := by
  unfold Tt.ents
  rw [List.map_append, List.nodup_append]
  refine ⟨pb_keys h.l, pb_keys h.r, fun a ha b hb e => ?_⟩
  obtain ⟨x, hx, rfl⟩ := List.mem_map.1 ha
  obtain ⟨y, hy, rfl⟩ := List.mem_map.1 hb
  have h1 := (h.l.ents_in x hx).1.2
  have h2 := (h.r.ents_in y hy).1.2
  rw [e, h2] at h1
  cases h1
theorem Tt.OK.mem {t : Tt} (h : t.OK) (x : SPrefix × Int) : x ∈ t.ents ↔ x ∈ (PT.kid x.1.addr.v6 t.l t.r).tr.ents := by
  unfold Tt.ents
  rw [List.mem_append]
  constructor
  · rintro (hx | hx)
    · rw [(h.l.ents_in x hx).1.2]; exact hx
    · rw [(h.r.ents_in x hx).1.2]; exact hx
  · intro hx
    cases hv : x.1.addr.v6 with
    | false => rw [hv] at hx; exact .inl hx
    | true => rw [hv] at hx; exact .inr hx
theorem Tt.OK.mem_k {t : Tt} (h : t.OK) (k : Bool) (x : SPrefix × Int) : x ∈ (PT.kid k t.l t.r).tr.ents ↔ (x ∈ t.ents ∧ x.1.addr.v6 = k) := by
  constructor
  · intro hx
    have e := ((h.kid k).ents_in x hx).1.2
    exact ⟨(h.mem x).2 (by rw [e]; exact hx), e⟩
  · rintro ⟨hx, rfl⟩
    exact (h.mem x).1 hx
theorem nodup_of_keys {l : List (SPrefix × Int)} (h : (l.map (·.1)).Nodup) : l.Nodup := by
  rw [List.nodup_iff_pairwise_ne, List.pairwise_map] at h
  rw [List.nodup_iff_pairwise_ne]
  exact h.imp (fun {a b} hab e => hab (by rw [e]))
theorem len_new {l m : List (SPrefix × Int)} (hl : (l.map (·.1)).Nodup) (hm : (m.map (·.1)).Nodup) {p : SPrefix} {v : Int} (h : ∀ x, x ∈ m ↔ (x = (p, v) ∨ (x ∈ l ∧ x.1 ≠ p))) :
    ((∀ x ∈ l, x.1 ≠ p) → m.length = l.length + 1) ∧ ((∃ x ∈ l, x.1 = p) → m.length = l.length) := by
  constructor
  · intro hn
    have hp : m.Perm ((p, v) :: l) := (List.perm_ext_iff_of_nodup (nodup_of_keys hm) (List.nodup_cons.2 ⟨fun hx => hn _ hx rfl, nodup_of_keys hl⟩)).2 (fun x => by
      rw [h, List.mem_cons]
      exact ⟨fun g => g.imp id (·.1), fun g => g.imp id (fun g => ⟨g, hn x g⟩)⟩)
    simpa using hp.length_eq
  · rintro ⟨y, hy, hyp⟩
    have hp : (m.map (·.1)).Perm (l.map (·.1)) := (List.perm_ext_iff_of_nodup hm hl).2 (fun q => by
      simp only [List.mem_map]
      constructor
      · rintro ⟨x, hx, rfl⟩
        rcases (h x).1 hx with rfl | ⟨hx, _⟩
        · exact ⟨y, hy, hyp⟩
        · exact ⟨x, hx, rfl⟩
      · rintro ⟨x, hx, rfl⟩
        by_cases e : x.1 = p
        · exact ⟨(p, v), (h _).2 (.inl rfl), e.symm⟩
        · exact ⟨x, (h x).2 (.inr ⟨hx, e⟩), rfl⟩)
    simpa using hp.length_eq
def pO (e : Int) (b : Nat) : Option Addr := if e = 0 then some ⟨b, 0, none⟩ else none
def TputJ (t : Tt) (p : SPrefix) (v : Int) (x : Tt × List Res) : Prop := checkP p = 0 → (x.1.OK ∧ (∀ y, y ∈ x.1.ents ↔ (y = (p, v) ∨ (y ∈ t.ents ∧ y.1 ≠ p))) ∧ ∀ w1, t.At w1 → (∀ r ∈ x.2, r.A w1) → x.1.At w1)
def Tt.swap (t : Tt) (b : Nat) (n : Int) (k : Bool) (x : PT) : Tt := ⟨b, t.made, n, bif k then t.l else x, bif k then x else t.r⟩
theorem Tt.swap_kids (t : Tt) (b : Nat) (n : Int) (k : Bool) (x : PT) (h : (bI k).toNat < 2) : (kids t.l t.r).set (bI k).toNat x.ptr h = kids (t.swap b n k x).l (t.swap b n k x).r := by cases k <;> rfl
theorem Tt.swap_at {w : World} {t : Tt} {b : Nat} {n : Int} {k : Bool} {x : PT} (h : t.At w) (hx : x.At w) (hb : PtsTo eTrieTrie w b 0 (t.swap b n k x).val) : (t.swap b n k x).At w := ⟨hb, by cases k; exact hx; exact h.2.1, by cases k; exact h.2.2; exact hx⟩
theorem Tt.swap_ok {t : Tt} (h : t.OK) {k : Bool} {x : PT} {b : Nat} {n : Int} (hx : x.tr.WF (okP k) pb []) (hn : n = (t.swap b n k x).ents.length) : (t.swap b n k x).OK := ⟨h.made, hn, by cases k; exact hx; exact h.l, by cases k; exact h.r; exact hx⟩
theorem Tt.swap_mem {t : Tt} (h : t.OK) {k : Bool} {x : PT} {b : Nat} {n : Int} (hx : x.tr.WF (okP k) pb []) (y : SPrefix × Int) : y ∈ (t.swap b n k x).ents ↔ ((y.1.addr.v6 = k ∧ y ∈ x.tr.ents) ∨ (y.1.addr.v6 ≠ k ∧ y ∈ t.ents)) := by
  have hk : ∀ {z : Tr SPrefix} {j : Bool}, z.WF (okP j) pb [] → y ∈ z.ents → y.1.addr.v6 = j := fun hz hy => (hz.ents_in y hy).1.2
  cases k with
  | false =>
    show y ∈ x.tr.ents ++ t.r.tr.ents ↔ _
    unfold Tt.ents
    rw [List.mem_append, List.mem_append]
    constructor
    · rintro (hy | hy)
      · exact .inl ⟨hk hx hy, hy⟩
      · exact .inr ⟨by rw [hk h.r hy]; decide, .inr hy⟩
    · rintro (hy | ⟨hn, hy | hy⟩)
      · exact .inl hy.2
      · exact absurd (hk h.l hy) hn
      · exact .inr hy
  | true =>
    show y ∈ t.l.tr.ents ++ x.tr.ents ↔ _
    unfold Tt.ents
    rw [List.mem_append, List.mem_append]
    constructor
    · rintro (hy | hy)
      · exact .inr ⟨by rw [hk h.l hy]; decide, .inl hy⟩
      · exact .inl ⟨hk hx hy, hy⟩
    · rintro (hy | ⟨hn, hy | hy⟩)
      · exact .inr hy.2
      · exact .inl hy
      · exact absurd (hk h.r hy) hn
theorem Tt.put_mem {t : Tt} (h : t.OK) {p : SPrefix} {v : Int} {x : PT} {b : Nat} {n : Int} (hx : x.tr.WF (okP p.addr.v6) pb []) (hm : ∀ y, y ∈ x.tr.ents ↔ (y = (p, v) ∨ (y ∈ (PT.kid p.addr.v6 t.l t.r).tr.ents ∧ y.1 ≠ p))) (y : SPrefix × Int) :
    y ∈ (t.swap b n p.addr.v6 x).ents ↔ (y = (p, v) ∨ (y ∈ t.ents ∧ y.1 ≠ p)) := by
  rw [Tt.swap_mem h hx, hm, h.mem_k]
  constructor
  · rintro (⟨h1, h2 | h2⟩ | ⟨h1, h2⟩)
    · exact .inl h2
    · exact .inr ⟨h2.1.1, h2.2⟩
    · exact .inr ⟨h2, fun e => h1 (by rw [e])⟩
  · rintro (h2 | ⟨h2, h3⟩)
    · exact .inl ⟨by rw [h2], .inl h2⟩
    · by_cases e : y.1.addr.v6 = p.addr.v6
      · exact .inl ⟨e, .inr ⟨⟨h2, e⟩, h3⟩⟩
      · exact .inr ⟨e, h2⟩
theorem there_ok (t : Tt) (w : World) (ht : PtsTo eTrieTrie w t.b 0 t.val) : Calls Try.prog 60 #[.pointer (some ⟨t.b, 0, none⟩)] w (RetV w (.bool t.made)) := by
  refine en0 11 Try.func60 ?_
  refine sg (co (Ev.assign (.c (v := .bool false) rfl)) ?_)
  refine nP (sg (mv rfl (co (Ev.neq_p Try.underlying74 (.t rfl) (.c rfl)) ?_)))
  refine mv rfl (cg rfl rfl (Ev.move (.t rfl)) ?_)
  refine cg rfl rfl (Ev.nilCheck (.g rfl id)) ?_
  refine cg rfl rfl (fA 0 (.g rfl id)) ?_
  refine cg rfl rfl (Ev.load ty4 (.g rfl id) (ptsL (fun w I => (ht).keep I.keeps) STrieTrie.l_made)) ?_
  refine co (Ev.pkA (.t rfl) rfl) ?_
  refine asn rfl (nP (ret (done rfl (.tmp rfl .nil) (retE ?_))))
  first | rfl | (simp [Tt.val]; done) | (simp [tupV, Tt.val])
theorem z173 : (Try.prog.info? 173).bind (·.zero) = some (eTrieTrie.val eTrieTrie.zero) := by kernel_rfl
theorem new_ok (w : World) : Calls Try.prog 44 #[] w (RetN w (fun x : Tt => x.OK ∧ x.ents = [] ∧ x.made = true ∧ x.n = 0 ∧ x.l = .nil ∧ x.r = .nil) (fun x => x.ptr.v) (fun x => [Var x.b eTrieTrie x.val 173])) := by
  refine en0 3 Try.func44 ?_
  refine sg (co (Ev.assign (.c (v := (Go.Value.pointer none)) rfl)) ?_)
  refine nP (sg (co (Ev.buildS (fs := _) (places := [(0, 1), (1, 1), (2, 2)]) z173 rfl Try.underlying173 (by kernel_rfl) (.cons (.c (v := .bool true) rfl) .nil) (Fills.cons STrieTrie.l_made rfl Fills.nil)) ?_))
  refine cons (box (E := eTrieTrie) (.t rfl) (fun b1 => ?_))
  refine asn rfl (nP (ret (done rfl (.tmp rfl .nil) (fun w I => ?_))))
  exact retNP (⟨b1, true, 0, .nil, .nil⟩ : Tt) ⟨⟨rfl, rfl, trivial, trivial⟩, rfl, rfl, rfl, rfl, rfl⟩ rfl (by repeat first | exact SubP.nil | refine SubP.cons (by repeat first | exact Rem.head | apply Rem.tail) ?_) w I
theorem Tt.swap_nodup {t : Tt} (h : t.OK) {k : Bool} {x : PT} {b : Nat} {n : Int} (hx : x.tr.WF (okP k) pb []) : ((t.swap b n k x).ents.map (·.1)).Nodup := (Tt.swap_ok (b := b) (n := ((t.swap b 0 k x).ents.length : Int)) h hx rfl).nodup
theorem en60 : Gx.Enters Try.prog 60 := Gx.Enters.mk' (by kernel_rfl)
theorem ty173 : TyOK Try.prog 173 eTrieTrie := TyOK.mk' (by kernel_rfl) (by kernel_rfl)
theorem en75 : Gx.Enters Try.prog 75 := Gx.Enters.mk' (by kernel_rfl)
theorem tput_ok (t : Tt) (p : SPrefix) (v : Int) (w : World) (ht : t.At w) (ho : t.OK) (hn : t.n ≤ 4611686018427387904) : Calls Try.prog 45 #[.pointer (some ⟨t.b, 0, none⟩), ePrefix.val p, I v] w (RetN w (TputJ t p v) (fun x => .tuple #[.pointer (pO (checkP p) x.1.b), I (checkP p)]) (fun x => x.2)) := by
  refine en0 48 Try.func45 ?_
  refine sg (cons (box (E := ePrefix) (.t rfl) (fun b1 => ?_)))
  refine co (Ev.assign (.c (v := (Go.Value.pointer none)) rfl)) ?_
  refine co (Ev.assign (.c (v := I 0) rfl)) ?_
  refine nP (seq (sg (mv rfl (cons (callv en60 (.cons (.t rfl) .nil) (fun w I => there_ok t w (ht.1.keep I.keeps)) ?_)))))
  refine co (Ev.not (.t rfl)) ?_
  refine nP (condF rfl (by rw [ho.made]; rfl) ?_)
  refine skip (pN (seq (sg (co (Ev.ldx p ty53 (.t rfl) (Lens.id _)) ?_))))
  refine cons (callv en33 (.cons (.t rfl) .nil) (fun w I => checkP_ok _ w) ?_)
  refine asn rfl (nP (sg (mv rfl (co (Ev.neq_i (.t rfl) (.c (v := I 0) rfl)) ?_))))
  refine nP ?_
  first | refine condD rfl (fun h1 => ?_) (fun h1 => ?_) | refine cond rfl (fun h1 => ?_) (fun h1 => ?_)
  · try simp only [nb] at h1
    refine sg (mv rfl (co (Ev.assign (.c (v := (Go.Value.pointer none)) rfl)) ?_))
    refine asn rfl (nP (ret (pR (done rfl (.tmp rfl (.tmp rfl .nil)) (fun w I => ?_)))))
    exact retNP (t, []) (fun h => absurd h h1) (by show _ = Value.tuple #[.pointer (pO (checkP p) t.b), Gx.I (checkP p)]; unfold pO; rw [if_neg h1]; rfl) SubP.nil w I
  · try simp only [nb] at h1
    have hck : checkP p = 0 := Decidable.not_not.1 h1
    have hbn := bI_nn p.addr.v6
    have hbt : (bI p.addr.v6).toNat < 2 := by omega
    obtain ⟨sp1, sp2, sp3, sp4⟩ := (keyLaw p.addr.v6).put_spec (p := p) ⟨hck, rfl⟩ v (PT.kid p.addr.v6 t.l t.r).tr [] (ho.kid _) List.nil_prefix
    refine skip (pN (sg (mv rfl (co (Ev.nilCheck (.t rfl)) ?_))))
    refine co (Ev.load ty173 (.t rfl) (ptsL (fun w I => ((ht).1).keep I.keeps) (Lens.id _))) ?_
    refine cons (alloc z173 (fun b2 => ?_))
    refine cons (stv ty173 (Lens.id _) (.t rfl) (.t rfl) ?_)
    refine nP (sg (co (fA 0 (.t rfl)) ?_))
    refine co (Ev.ldx p.addr ty37 (.t rfl) SPrefix.l_addr) ?_
    refine cons (callv en75 (.cons (.t rfl) .nil) (fun w I => kind_ok _ w) ?_)
    refine asn rfl (nP (seq (draw' (by kernel_rfl) ?_)))
    refine tk 0 rfl (Ev.move (.t rfl)) ?_
    refine tk 1 rfl (Ev.move (.t rfl)) ?_
    refine tk 2 rfl (Ev.nilCheck (.t rfl)) ?_
    refine tk 3 rfl (fA 2 (.t rfl)) ?_
    refine tk 4 rfl (Ev.indexAddrA Try.underlying147 ty143 (.t rfl) (.t rfl) (fun _ => by omega)) ?_
    refine tk 5 rfl (Ev.to (v' := (PT.kid p.addr.v6 t.l t.r).ptr.v) (Ev.load ty143 (.t rfl) (ptsL (fun w I => ((ht).1).keep I.keeps) (Lens.comp STrieTrie.l_roots (lArr (n := 2) (ovE nilPtr) _ (by omega))))) (congrArg OV.v (kids_at t.l t.r p.addr.v6 hbt))) ?_
    refine tk 6 rfl (Ev.ldx p ty53 (.t rfl) (Lens.id _)) ?_
    refine tk 7 rfl (Ev.move (.t rfl)) ?_
    refine al1 8 rfl ((calln (X := PT × List Res) (PutJ (PT.kid p.addr.v6 t.l t.r) (putT p v (PT.kid p.addr.v6 t.l t.r).tr).1) (fun x => .tuple #[x.1.ptr.v, .bool (putT p v (PT.kid p.addr.v6 t.l t.r).tr).2]) (fun x => x.2) en76 (.cons (.t rfl) (.cons (.t rfl) (.cons (.t rfl) .nil))) (fun w I => put_ok p.addr.v6 p v ⟨hck, rfl⟩ (PT.kid p.addr.v6 t.l t.r) [] w ((ht.keep I.keeps).kid _) (ho.kid _) List.nil_prefix) (fun x1 hx1 => ?_)))
    refine hdn (tk 9 rfl (Ev.move (.t rfl)) ?_)
    refine tk 10 rfl (Ev.extract (.t rfl) rfl) ?_
    refine tk 11 rfl (Ev.extract (.t rfl) rfl) ?_
    refine tk 12 rfl (Ev.assign (.t rfl)) ?_
    refine tk 13 rfl (Ev.assign (.t rfl)) ?_
    refine ovr (pN (seq ?_))
    have hwx : x1.1.tr.WF (okP p.addr.v6) pb [] := by rw [hx1.1]; exact sp1
    have hmx := sp3
    rw [← show x1.1.tr = _ from hx1.1] at hmx
    refine region (mv rfl (mv rfl (co (fA 2 (.t rfl)) ?_)))
    refine co (Ev.indexAddrA Try.underlying147 ty143 (.t rfl) (.t rfl) (fun _ => by omega)) ?_
    refine cons (stv ty143 (Lens.comp STrieTrie.l_roots (lArr (n := 2) (ovE nilPtr) _ (by omega))) (.t rfl) (.t rfl) ?_)
    refine nP (seq (sg (mv rfl (nP ?_))))
    first | refine condD rfl (fun h2 => ?_) (fun h2 => ?_) | refine cond rfl (fun h2 => ?_) (fun h2 => ?_)
    · have hfr : ∀ y ∈ t.ents, y.1 ≠ p := fun y hy e => sp4.1 h2 y (by rw [← e]; exact (ho.mem y).1 hy) e
      refine region (co (fA 1 (.t rfl)) ?_)
      refine co (Ev.ldv ty3 (.t rfl) STrieTrie.l_n) ?_
      refine co (Ev.add_i (.t rfl) (.c (v := I 1) rfl) (fun _ => by show Fit (t.n + 1); unfold Fit; have := ho.n; omega)) ?_
      refine co (fA 1 (.t rfl)) ?_
      refine cons (stv ty3 STrieTrie.l_n (.t rfl) (.t rfl) ?_)
      refine nP (sg (asn rfl (co (Ev.assign (.c (v := I 0) rfl)) ?_)))
      refine nP (ret (done rfl (.tmp rfl (.tmp rfl .nil)) (fun w I => ?_)))
      have hmem := Tt.put_mem (b := b2) (n := (t.n + 1)) ho hwx hmx
      have hln := len_new ho.nodup (Tt.swap_nodup (b := b2) (n := (t.n + 1)) ho hwx) hmem
      have hcnt : (t.n + 1) = (t.swap b2 (t.n + 1) p.addr.v6 x1.1).ents.length := by
        have h8 := ho.n
        have h7 := hln.1 hfr
        omega
      refine retNP ((t.swap b2 (t.n + 1) p.addr.v6 x1.1), Var b2 eTrieTrie (t.swap b2 (t.n + 1) p.addr.v6 x1.1).val 173 :: x1.2) (fun _ => ⟨Tt.swap_ok ho hwx hcnt, hmem, fun w1 hw1 hh => Tt.swap_at hw1 (hx1.2 w1 (hw1.kid _) (fun q hq => hh q (List.mem_cons_of_mem _ hq))) (pts_mem (T := 173) hh List.mem_cons_self)⟩) (by show _ = Value.tuple #[.pointer (pO (checkP p) (t.swap b2 (t.n + 1) p.addr.v6 x1.1).b), Gx.I (checkP p)]; unfold pO; rw [if_pos hck, hck]; rfl) ?_ w I
      unfold Tt.val
      rw [← Tt.swap_kids t b2 (t.n + 1) p.addr.v6 x1.1 hbt]
      exact (by repeat first | refine SubP.cons (by repeat first | exact Rem.head | apply Rem.tail | apply Rem.app) ?_ | exact SubP.of (by repeat first | exact sR | apply sS | exact List.sublist_append_left _ _))
    · have hfr : ∃ y ∈ t.ents, y.1 = p := by
        rcases Classical.em (∃ y ∈ t.ents, y.1 = p) with g | g
        · exact g
        · exfalso
          have := sp4.2 (fun y hy e => g ⟨y, ((ho.mem_k _ y).1 hy).1, e⟩)
          rw [show (putT p v (PT.kid p.addr.v6 t.l t.r).tr).2 = false from h2] at this
          cases this
      refine skip (pN (sg (asn rfl (co (Ev.assign (.c (v := I 0) rfl)) ?_))))
      refine nP (ret (done rfl (.tmp rfl (.tmp rfl .nil)) (fun w I => ?_)))
      have hmem := Tt.put_mem (b := b2) (n := t.n) ho hwx hmx
      have hln := len_new ho.nodup (Tt.swap_nodup (b := b2) (n := t.n) ho hwx) hmem
      have hcnt : t.n = (t.swap b2 t.n p.addr.v6 x1.1).ents.length := by
        have h8 := ho.n
        have h7 := hln.2 hfr
        omega
      refine retNP ((t.swap b2 t.n p.addr.v6 x1.1), Var b2 eTrieTrie (t.swap b2 t.n p.addr.v6 x1.1).val 173 :: x1.2) (fun _ => ⟨Tt.swap_ok ho hwx hcnt, hmem, fun w1 hw1 hh => Tt.swap_at hw1 (hx1.2 w1 (hw1.kid _) (fun q hq => hh q (List.mem_cons_of_mem _ hq))) (pts_mem (T := 173) hh List.mem_cons_self)⟩) (by show _ = Value.tuple #[.pointer (pO (checkP p) (t.swap b2 t.n p.addr.v6 x1.1).b), Gx.I (checkP p)]; unfold pO; rw [if_pos hck, hck]; rfl) ?_ w I
      unfold Tt.val
      rw [← Tt.swap_kids t b2 t.n p.addr.v6 x1.1 hbt]
      exact (by repeat first | refine SubP.cons (by repeat first | exact Rem.head | apply Rem.tail | apply Rem.app) ?_ | exact SubP.of (by repeat first | exact sR | apply sS | exact List.sublist_append_left _ _))
end Go.Proofs.Ytmdkmclgfgaahaa.Tri
namespace Go.Proofs.Ytmdkmclgfgaahaa.Tri
open Go Go.Gx
def PT.way (p : SPrefix) : PT → List PT
  | .nil => []
  | .node b q u h l r => if coversP q p = true then .node b q u h l r :: (if ltP q p = true then (if bitP q p = true then r.way p else l.way p) else []) else []
def PT.key : PT → SPrefix × Int × Bool
  | .nil => (ePrefix.zero, 0, false)
  | .node _ q u h _ _ => (q, u, h)
def PT.size : PT → Nat
  | .nil => 0
  | .node _ _ _ _ l r => l.size + r.size + 1
theorem PT.kid_size (bb : Bool) (b : Nat) (q : SPrefix) (u : Int) (h : Bool) (l r : PT) : (PT.kid bb l r).size < (PT.node b q u h l r).size := by cases bb <;> simp only [kid, size, cond_true, cond_false] <;> omega
theorem PT.way_no {p : SPrefix} {b : Nat} {q : SPrefix} {u : Int} {h : Bool} {l r : PT} (hc : coversP q p = false) : PT.way p (.node b q u h l r) = [] := by rw [PT.way, if_neg (by rw [hc]; exact Bool.false_ne_true)]
theorem PT.way_end {p : SPrefix} {b : Nat} {q : SPrefix} {u : Int} {h : Bool} {l r : PT} (hc : coversP q p = true) (hl : ¬ q.bits < p.bits) : PT.way p (.node b q u h l r) = [.node b q u h l r] := by
  have e : ¬ ltP q p = true := fun e => hl (of_decide_eq_true e)
  rw [PT.way, if_pos hc, if_neg e]
theorem PT.way_more {p : SPrefix} {b : Nat} {q : SPrefix} {u : Int} {h : Bool} {l r : PT} {bb : Bool} (hc : coversP q p = true) (hl : q.bits < p.bits) (hb : bitP q p = bb) : PT.way p (.node b q u h l r) = .node b q u h l r :: PT.way p (PT.kid bb l r) := by
  have e : ltP q p = true := decide_eq_true hl
  subst hb
  rw [PT.way, if_pos hc, if_pos e]
  cases bitP q p <;> rfl
theorem PT.way_map (p : SPrefix) : ∀ t : PT, (t.way p).map PT.key = t.tr.path coversP ltP bitP p
  | .nil => rfl
  | .node b q u h l r => by
    have h1 := PT.way_map p l
    have h2 := PT.way_map p r
    simp only [PT.way, PT.tr, Tr.path]
    split
    · split
      · split
        · rw [List.map_cons, h2]; rfl
        · rw [List.map_cons, h1]; rfl
      · rfl
    · rfl
theorem PT.way_node {p : SPrefix} : ∀ {t : PT} {x : PT}, x ∈ t.way p → ∃ b q u h l r, x = .node b q u h l r
  | .nil, x, hx => by simp [PT.way] at hx
  | .node b q u h l r, x, hx => by
    simp only [PT.way] at hx
    split at hx
    · rcases List.mem_cons.1 hx with rfl | hx
      · exact ⟨b, q, u, h, l, r, rfl⟩
      · split at hx
        · split at hx
          · exact PT.way_node hx
          · exact PT.way_node hx
        · simp at hx
    · simp at hx
theorem PT.way_at {p : SPrefix} {w : World} : ∀ {t : PT} {x : PT}, t.At w → x ∈ t.way p → x.At w
  | .nil, x, _, hx => by simp [PT.way] at hx
  | .node b q u h l r, x, hat, hx => by
    simp only [PT.way] at hx
    split at hx
    · rcases List.mem_cons.1 hx with rfl | hx
      · exact hat
      · split at hx
        · split at hx
          · exact PT.way_at hat.2.2 hx
          · exact PT.way_at hat.2.1 hx
        · simp at hx
    · simp at hx
theorem PT.split (p : SPrefix) (t : PT) : t = .nil ∨ (∃ b q u h l r, t = .node b q u h l r ∧ coversP q p = false) ∨ (∃ b q u h l r, t = .node b q u h l r ∧ coversP q p = true) := by
  cases t with
  | nil => exact .inl rfl
  | node b q u h l r =>
    cases hc : coversP q p with
    | false => exact .inr (.inl ⟨b, q, u, h, l, r, rfl, hc⟩)
    | true => exact .inr (.inr ⟨b, q, u, h, l, r, rfl, hc⟩)
def DownAt (t : Tt) (p : SPrefix) (bt bp : Nat) (w : World) : Prop := t.At w ∧ PtsTo (ovE nilPtr) w bt 0 t.ptr ∧ PtsTo ePrefix w bp 0 p
abbrev encN : PT → List Value := fun x => [x.ptr.v]
theorem ty74 : TyOK Try.prog 74 (ovE nilPtr) := TyOK.mk' (by kernel_rfl) (by kernel_rfl)
theorem down_walk {σ : Type} (S : σ → Res) (ok : PT → σ → Prop) (J : PT → σ → Bool × σ → Prop) (yv : Value) (w : World) (s : σ) (t : Tt) (p : SPrefix) (bt bp : Nat) (hp : checkP p = 0) (hf : ∀ w', Keeps (S s).foot w w' → DownAt t p bt bp w') (hl : Okay ok J (PT.way p (PT.kid p.addr.v6 t.l t.r)) s) (hat : At (S s) w) (hY : YieldAt Try.prog yv encN w (S s).foot ok S J) : Calls Try.prog 78 #[yv, .pointer (some ⟨bt, 0, none⟩), .pointer (some ⟨bp, 0, none⟩)] w (RetR w (S s) (RunsY J (PT.way p (PT.kid p.addr.v6 t.l t.r)) s) (fun _ => .tuple #[]) S) := by
  refine enter (S s).foot 51 [S s] Try.func78 rfl rfl (Nat.le_of_ble_eq_true rfl) (start_at hat) ?_
  refine seq ?_
  have hbn := bI_nn p.addr.v6
  have hbt : (bI p.addr.v6).toNat < 2 := by omega
  refine draw' (by kernel_rfl) ?_
  refine tk 0 rfl (Ev.to (v' := .pointer (some ⟨t.b, 0, none⟩)) (Ev.load ty74 (.t rfl) (ptsL (fun w I => (hf w I.keeps).2.1) (Lens.id _))) (rfl)) ?_
  refine tk 1 rfl (fA 0 (.t rfl)) ?_
  refine tk 2 rfl (Ev.load ty37 (.t rfl) (ptsL (fun w I => (hf w I.keeps).2.2) SPrefix.l_addr)) ?_
  refine tk 4 rfl (Ev.nilCheck (.t rfl)) ?_
  refine tk 5 rfl (fA 2 (.t rfl)) ?_
  refine al1 3 rfl ((callv en75 (.cons (.t rfl) .nil) (fun w I => kind_ok p.addr w) ?_))
  refine hdn (tk 6 rfl (Ev.indexAddrA Try.underlying147 ty143 (.t rfl) (.t rfl) (fun _ => by omega)) ?_)
  refine tk 7 rfl (Ev.to (v' := (PT.kid p.addr.v6 t.l t.r).ptr.v) (Ev.load ty143 (.t rfl) (ptsL (fun w I => (hf w I.keeps).1.1) (Lens.comp STrieTrie.l_roots (lArr (n := 2) (ovE nilPtr) _ (by omega))))) (congrArg OV.v (kids_at t.l t.r p.addr.v6 hbt))) ?_
  refine tk 8 rfl (Ev.assign (.t rfl)) ?_
  refine ovr (pN (block (lp (X := PT × σ) (fun x : PT × σ => (∀ w', Keeps (S s).foot w w' → x.1.At w') ∧ (∀ z, RunsY J (PT.way p x.1) x.2 z → RunsY J (PT.way p (PT.kid p.addr.v6 t.l t.r)) s z) ∧ (Okay ok J (PT.way p x.1) x.2)) (fun x : PT × σ => [dz, (0, true, yv), (1, true, .pointer (some ⟨bt, 0, none⟩)), (2, true, .pointer (some ⟨bp, 0, none⟩)), (4, true, x.1.ptr.v)]) (fun x : PT × σ => [S x.2]) (fun x : PT × σ => x.1.size) ((PT.kid p.addr.v6 t.l t.r), s) ⟨?_, ?_, ?_⟩ (fun x hx => ?_))))
  · exact fun w1 k => (hf w1 k).1.kid _
  · exact fun z h => h
  · exact hl
  obtain ⟨cur, s1⟩ := x
  obtain ⟨hc, hr, hlv⟩ : (∀ w', Keeps (S s).foot w w' → cur.At w') ∧ (∀ z, RunsY J (PT.way p cur) s1 z → RunsY J (PT.way p (PT.kid p.addr.v6 t.l t.r)) s z) ∧ (Okay ok J (PT.way p cur) s1) := hx
  show Sat _ _ [dz, (0, true, yv), (1, true, .pointer (some ⟨bt, 0, none⟩)), (2, true, .pointer (some ⟨bp, 0, none⟩)), (4, true, cur.ptr.v)] [S s1]
  refine seq (seq ?_)
  rcases PT.split p cur with rfl | ⟨b, q, u, h, l, r, rfl, hcv⟩ | ⟨b, q, u, h, l, r, rfl, hcv⟩
  · refine wideI (drawIn ([] : List Res) (by kernel_rfl) ?_)
    refine tkI 0 rfl (Ev.move (.t rfl)) ?_
    refine tkI 1 rfl (Ev.to (v' := .bool false) (Ev.neq_p Try.underlying143 (.t rfl) (.c rfl)) (rfl)) ?_
    refine tkI 2 rfl (Ev.move (.t rfl)) ?_
    refine tkgI 3 rfl rfl rfl (Ev.vac (v := .bool false) rfl) ?_
    refine tkgI 4 rfl rfl rfl (Ev.vac (v := .bool false) rfl) ?_
    refine tkgI 5 rfl rfl rfl (Ev.vac (v := .bool false) rfl) ?_
    refine tkgI 6 rfl rfl rfl (Ev.vac (v := .bool false) rfl) ?_
    refine tkgI 7 rfl rfl rfl (Ev.vac (v := .bool false) rfl) ?_
    refine tkgI 8 rfl rfl rfl (Ev.vac (v := .bool false) rfl) ?_
    refine tkI 9 rfl (Ev.to (v' := .bool false) (Ev.pkA (.t rfl) rfl) (rfl)) ?_
    refine tkI 10 rfl (Ev.move (.t rfl)) ?_
    refine tkgI 11 rfl rfl rfl (Ev.vac (v := .bool false) rfl) ?_
    refine tkgI 12 rfl rfl rfl (Ev.vac (v := .bool false) rfl) ?_
    refine tkgI 13 rfl rfl rfl (Ev.vac (v := .bool false) rfl) ?_
    refine tkI 14 rfl (Ev.to (v' := .bool false) (Ev.pkA (.t rfl) rfl) (rfl)) ?_
    refine tkI 15 rfl (Ev.move (.t rfl)) ?_
    refine tkgI 16 rfl rfl rfl (Ev.vac (v := .bool false) rfl) ?_
    refine tkgI 17 rfl rfl rfl (Ev.vac (v := .bool false) rfl) ?_
    refine tkgI 18 rfl rfl rfl (Ev.vac (v := .bool false) rfl) ?_
    refine tkgI 19 rfl rfl rfl (Ev.vac (v := .bool false) rfl) ?_
    refine tkgI 20 rfl rfl rfl (Ev.vac (v := .bool false) rfl) ?_
    refine tkgI 21 rfl rfl rfl (Ev.vac (v := .bool false) rfl) ?_
    refine tkgI 22 rfl rfl rfl (Ev.vac (v := .bool false) rfl) ?_
    refine tkgI 23 rfl rfl rfl (Ev.vac (v := .bool false) rfl) ?_
    refine tkI 24 rfl (Ev.to (v' := .bool false) (Ev.pkA (.t rfl) rfl) (rfl)) ?_
    refine ovrI (pN (condF rfl (rfl) ?_))
    refine exit (pX (pX (bX (done' rfl .nil (fun w I => ?_)))))
    exact retR (X := σ) s1 (hr _ rfl) rfl (by repeat first | exact mH | apply mT | apply mA) w I
  · refine wideI (drawIn ([] : List Res) (by kernel_rfl) ?_)
    refine tkI 0 rfl (Ev.to (v' := .pointer (some ⟨b, 0, none⟩)) (Ev.move (.t rfl)) (rfl)) ?_
    refine tkI 1 rfl (Ev.to (v' := .bool true) (Ev.neq_p Try.underlying143 (.t rfl) (.c rfl)) (rfl)) ?_
    refine tkI 2 rfl (Ev.move (.t rfl)) ?_
    refine tkgI 3 rfl rfl rfl (Ev.to (v' := .pointer (some ⟨b, 0, none⟩)) (Ev.move (.t rfl)) (rfl)) ?_
    refine tkgI 4 rfl rfl rfl (Ev.nilCheck (.g rfl id)) ?_
    refine tkgI 5 rfl rfl rfl (fA 0 (.g rfl id)) ?_
    refine tkgI 6 rfl rfl rfl (Ev.load ty53 (.g rfl id) (ptsL (fun w I => (hc w I.keeps).1) STrieNode.l_p)) ?_
    refine tkgI 7 rfl rfl rfl (Ev.load ty53 (.t rfl) (ptsL (fun w I => (hf w I.keeps).2.2) (Lens.id _))) ?_
    refine al1I 8 rfl (opT (callg rfl rfl en79 (.cons (.g rfl id) (.cons (.g rfl id) .nil)) (fun hg w I => coversP_ok _ _ w) ?_))
    refine hdnI (tkI 9 rfl (Ev.to (v' := .bool false) (Ev.pkA (.t rfl) rfl) (congrArg Value.bool hcv)) ?_)
    refine tkI 10 rfl (Ev.move (.t rfl)) ?_
    refine tkgI 11 rfl rfl rfl (Ev.vac (v := .bool false) rfl) ?_
    refine tkgI 12 rfl rfl rfl (Ev.vac (v := .bool false) rfl) ?_
    refine tkgI 13 rfl rfl rfl (Ev.vac (v := .bool false) rfl) ?_
    refine tkI 14 rfl (Ev.to (v' := .bool false) (Ev.pkA (.t rfl) rfl) (rfl)) ?_
    refine tkI 15 rfl (Ev.move (.t rfl)) ?_
    refine tkgI 16 rfl rfl rfl (Ev.vac (v := .bool false) rfl) ?_
    refine tkgI 17 rfl rfl rfl (Ev.vac (v := .bool false) rfl) ?_
    refine tkgI 18 rfl rfl rfl (Ev.vac (v := .bool false) rfl) ?_
    refine tkgI 19 rfl rfl rfl (Ev.vac (v := .bool false) rfl) ?_
    refine tkgI 20 rfl rfl rfl (Ev.vac (v := .bool false) rfl) ?_
    refine tkgI 21 rfl rfl rfl (Ev.vac (v := .bool false) rfl) ?_
    refine tkgI 22 rfl rfl rfl (Ev.vac (v := .bool false) rfl) ?_
    refine tkgI 23 rfl rfl rfl (Ev.vac (v := .bool false) rfl) ?_
    refine tkI 24 rfl (Ev.to (v' := .bool false) (Ev.pkA (.t rfl) rfl) (rfl)) ?_
    refine ovrI (pN (condF rfl (rfl) ?_))
    refine exit (pX (pX (bX (done' rfl .nil (fun w I => ?_)))))
    exact retR (X := σ) s1 (hr _ (by rw [PT.way_no hcv]; rfl)) rfl (by repeat first | exact mH | apply mT | apply mA) w I
  · have hxin : ok (PT.node b q u h l r) s1 := by
      have h9 := hlv
      rw [PT.way, if_pos hcv] at h9
      exact h9.1
    refine wideI (drawIn ([] : List Res) (by kernel_rfl) ?_)
    refine tkI 0 rfl (Ev.to (v' := .pointer (some ⟨b, 0, none⟩)) (Ev.move (.t rfl)) (rfl)) ?_
    refine tkI 1 rfl (Ev.to (v' := .bool true) (Ev.neq_p Try.underlying143 (.t rfl) (.c rfl)) (rfl)) ?_
    refine tkI 2 rfl (Ev.move (.t rfl)) ?_
    refine tkgI 3 rfl rfl rfl (Ev.to (v' := .pointer (some ⟨b, 0, none⟩)) (Ev.move (.t rfl)) (rfl)) ?_
    refine tkgI 4 rfl rfl rfl (Ev.nilCheck (.g rfl id)) ?_
    refine tkgI 5 rfl rfl rfl (fA 0 (.g rfl id)) ?_
    refine tkgI 6 rfl rfl rfl (Ev.load ty53 (.g rfl id) (ptsL (fun w I => (hc w I.keeps).1) STrieNode.l_p)) ?_
    refine tkgI 7 rfl rfl rfl (Ev.load ty53 (.t rfl) (ptsL (fun w I => (hf w I.keeps).2.2) (Lens.id _))) ?_
    refine al1I 8 rfl (opT (callg rfl rfl en79 (.cons (.g rfl id) (.cons (.g rfl id) .nil)) (fun hg w I => coversP_ok _ _ w) ?_))
    refine hdnI (tkI 9 rfl (Ev.to (v' := .bool true) (Ev.pkA (.t rfl) rfl) (congrArg Value.bool hcv)) ?_)
    refine tkI 10 rfl (Ev.move (.t rfl)) ?_
    refine tkgI 11 rfl rfl rfl (Ev.move (.t rfl)) ?_
    refine tkgI 12 rfl rfl rfl (Ev.to (v' := .pointer (some ⟨b, 0, none⟩)) (Ev.move (.t rfl)) (rfl)) ?_
    refine al1I 13 rfl (opgTI rfl rfl rfl (callY (X := Bool × σ) (r := S s1) (r' := fun q => S q.2) (L' := fun q => [S q.2]) (vs := encN (PT.node b q u h l r)) (J (PT.node b q u h l r) s1) (fun q => .bool q.1) (fun q => Upd.head) (.t rfl) (.cons (.t rfl) .nil) (fun w I => hY.call (x := PT.node b q u h l r) hxin (by repeat first | exact mH | apply mT | apply mA) w I) (fun q1 hq1 => ?_)))
    refine hdnI (tkI 14 rfl (Ev.to (v' := .bool q1.1) (Ev.pkA (.t rfl) rfl) (rfl)) ?_)
    refine tkI 15 rfl (Ev.move (.t rfl)) ?_
    refine tkgI 16 rfl rfl rfl (Ev.to (v' := .pointer (some ⟨b, 0, none⟩)) (Ev.move (.t rfl)) (rfl)) ?_
    refine tkgI 17 rfl rfl rfl (Ev.nilCheck (.g rfl id)) ?_
    refine tkgI 18 rfl rfl rfl (fA 0 (.g rfl id)) ?_
    refine tkgI 19 rfl rfl rfl (fA 17 (.g rfl id)) ?_
    refine tkgI 20 rfl rfl rfl (Ev.load ty3 (.g rfl id) (ptsL (fun w I => (hc w I.keeps).1) (Lens.comp STrieNode.l_p SPrefix.l_bits))) ?_
    refine tkgI 21 rfl rfl rfl (fA 17 (.t rfl)) ?_
    refine tkgI 22 rfl rfl rfl (Ev.load ty3 (.g rfl id) (ptsL (fun w I => (hf w I.keeps).2.2) SPrefix.l_bits)) ?_
    refine tkgI 23 rfl rfl rfl (Ev.lss_i (.g rfl id) (.g rfl id)) ?_
    refine tkI 24 rfl (Ev.pkA (.t rfl) rfl) ?_
    refine ovrI (pN ?_)
    first | refine condD rfl (fun h0 => ?_) (fun h0 => ?_) | refine cond rfl (fun h0 => ?_) (fun h0 => ?_)
    · have hq : q1.1 = true ∧ q.bits < p.bits := by
        have h9 := Bool.and_eq_true_iff.1 h0
        exact ⟨h9.1, of_decide_eq_true h9.2⟩
      obtain ⟨bb, hbb⟩ : ∃ z, bitP q p = z := ⟨_, rfl⟩
      have hbb1 := bI_nn bb
      have hbb2 : (bI bb).toNat < 2 := by omega
      have hq0 : 0 ≤ q.bits ∧ q.bits < 128 := by
        have hcv2 := hcv
        unfold coversP at hcv2
        simp only [Bool.and_eq_true] at hcv2
        have h1 := (checkP_zero q).1 ((hasP_iff _ _).1 hcv2.2).1
        have h2 := (checkP_zero p).1 hp
        have := wd_le p.addr
        omega
      refine skip (pN (seq (block (skip (bN (pN (draw' (by kernel_rfl) ?_)))))))
      refine tk 0 rfl (Ev.to (v' := .pointer (some ⟨b, 0, none⟩)) (Ev.move (.t rfl)) (rfl)) ?_
      refine tk 1 rfl (fA 0 (.t rfl)) ?_
      refine tk 2 rfl (Ev.load ty37 (.t rfl) (ptsL (fun w I => (hf w I.keeps).2.2) SPrefix.l_addr)) ?_
      refine tk 3 rfl (Ev.to (v' := .pointer (some ⟨b, 0, none⟩)) (Ev.move (.t rfl)) (rfl)) ?_
      refine tk 4 rfl (Ev.nilCheck (.t rfl)) ?_
      refine tk 5 rfl (fA 0 (.t rfl)) ?_
      refine tk 6 rfl (fA 17 (.t rfl)) ?_
      refine tk 7 rfl (Ev.load ty3 (.t rfl) (ptsL (fun w I => (hc w I.keeps).1) (Lens.comp STrieNode.l_p SPrefix.l_bits))) ?_
      refine tk 9 rfl (Ev.nilCheck (.t rfl)) ?_
      refine tk 10 rfl (fA 20 (.t rfl)) ?_
      refine al1 8 rfl ((callv en80 (.cons (.t rfl) (.cons (.t rfl) .nil)) (fun w I => bit_g _ _ w hq0 bb hbb) ?_))
      refine hdn (tk 11 rfl (Ev.indexAddrA Try.underlying147 ty143 (.t rfl) (.t rfl) (fun _ => by omega)) ?_)
      refine tk 12 rfl (Ev.to (v' := (PT.kid bb l r).ptr.v) (Ev.load ty143 (.t rfl) (ptsL (fun w I => (hc w I.keeps).1) (Lens.comp STrieNode.l_kids (lArr (n := 2) (ovE nilPtr) _ (by omega))))) (congrArg OV.v (kids_at l r bb hbb2))) ?_
      refine tk 13 rfl (Ev.assign (.t rfl)) ?_
      refine ovr (pN (nx (X := PT × σ) ((PT.kid bb l r), q1.2) ⟨?_, ?_, ?_⟩ ?_))
      · try dsimp only
        exact fun w1 k => PT.At.kid (hc w1 k).2.1 (hc w1 k).2.2 bb
      · try dsimp only
        exact fun z hz => hr z (by rw [PT.way_more hcv hq.2 hbb]; exact ⟨q1, hq1, by rw [if_pos hq.1]; exact hz⟩)
      · try dsimp only
        rw [PT.way_more hcv hq.2 hbb] at hlv
        exact hlv.2 _ hq1 hq.1
      · try dsimp only
        exact PT.kid_size bb b q u h l r
    · have hq : ¬ (q1.1 = true ∧ q.bits < p.bits) := fun e => by
        have h9 : (q1.1 && decide (q.bits < p.bits)) = false := h0
        rw [e.1, decide_eq_true e.2] at h9
        cases h9
      refine exit (pX (pX (bX (done' rfl .nil (fun w I => ?_)))))
      refine retR (X := σ) q1.2 (hr _ ?_) rfl (by repeat first | exact mH | apply mT | apply mA) w I
      by_cases hlt : q.bits < p.bits
      · rw [PT.way_more hcv hlt rfl]
        exact ⟨q1, hq1, by rw [if_neg (fun e => hq ⟨e, hlt⟩)]⟩
      · rw [PT.way_end hcv hlt]
        refine ⟨q1, hq1, ?_⟩
        split
        · rfl
        · rfl
theorem down_iter (t : Tt) (p : SPrefix) (hp : checkP p = 0) (bt bp : Nat) (w0 : World) (M : Nat → Prop) (hf : ∀ w', Keeps M w0 w' → DownAt t p bt bp w') : IterAt Try.prog (bnd 78 [] [.pointer (some ⟨bt, 0, none⟩), .pointer (some ⟨bp, 0, none⟩)]).v encN w0 M (PT.way p (PT.kid p.addr.v6 t.l t.r)) := fun σ S ok J yv w s hl hk hfo hat hY =>
  CallsV.of (Gx.Enters.mk' (by kernel_rfl)) (down_walk S ok J yv.v w s t p bt bp hp (fun w' k => hf w' (hk.trans' k (fun i hi hm => (hfo i hm).resolve_left (by omega)))) hl hat hY)
theorem down_ok (t : Tt) (p : SPrefix) (w : World) : Calls Try.prog 61 #[t.ptr.v, ePrefix.val p] w (RetN w (fun _ : Nat × Nat => True) (fun x => (bnd 78 [] [.pointer (some ⟨x.1, 0, none⟩), .pointer (some ⟨x.2, 0, none⟩)]).v) (fun x => [Var x.2 ePrefix p 53, Var x.1 (ovE nilPtr) t.ptr 74])) := by
  refine en0 6 Try.func61 ?_
  refine sg (cons (box (E := (ovE nilPtr)) (.t rfl) (fun b1 => ?_)))
  refine cons (box (E := ePrefix) (.t rfl) (fun b2 => ?_))
  refine co (Ev.assign (.c (v := Go.Value.nilFunc) rfl)) ?_
  refine nP (sg (co (Ev.makeFunc (f := 78) (.cons (.t rfl) (.cons (.t rfl) .nil))) ?_))
  refine asn rfl (nP (ret (done rfl (.tmp rfl .nil) (fun w I => ?_))))
  exact retNP (b1, b2) trivial rfl (by repeat first | exact SubP.nil | refine SubP.cons (by repeat first | exact Rem.head | apply Rem.tail) ?_) w I
end Go.Proofs.Ytmdkmclgfgaahaa.Tri
namespace Go.Proofs.Ytmdkmclgfgaahaa.Tri
open Go Go.Gx
theorem findN : ∀ {xs : List PT} {s t : PT}, RunsN (fun x s s' => s' = if x.key.2.2 = true then x else s) xs s t → t = ((xs.filter (fun x => x.key.2.2)).getLast?).getD s
  | [], s, t, h => h
  | x :: xs, s, t, ⟨q, h1, h⟩ => by
    have h2 := findN h
    rw [h2, List.filter_cons]
    by_cases hx : x.key.2.2 = true
    · rw [if_pos hx, List.getLast?_cons, h1, if_pos hx]
      rfl
    · rw [if_neg hx, h1, if_neg hx]
def Tt.find (t : Tt) (a : SAddr) : Option (SPrefix × Int) := (PT.kid a.v6 t.l t.r).tr.best coversP ltP bitP (full a)
def findT (t : Tt) (a : SAddr) : SPrefix × Int × Bool := if checkA a = 0 then (match t.find a with | some x => (x.1, x.2, true) | none => (ePrefix.zero, 0, false)) else (ePrefix.zero, 0, false)
theorem find_way (t : Tt) (a : SAddr) : t.find a = (((PT.way (full a) (PT.kid a.v6 t.l t.r)).filter (fun x => x.key.2.2)).getLast?).map (fun x => (x.key.1, x.key.2.1)) := by
  unfold Tt.find Tr.best
  rw [← PT.way_map, List.filter_map, List.getLast?_map, Option.map_map]
  rfl
theorem ofE_wd (a : SAddr) : ofE a (wd a) = checkA a := by
  have := wd_le a
  unfold ofE
  split
  · rfl
  · rename_i h
    rw [if_neg (by omega)]
    exact (Decidable.not_not.1 h).symm
theorem ofV_wd {a : SAddr} (h : checkA a = 0) : ofV a (wd a) = full a := by
  have h2 : maskV (wd a) a.b = a.b := by
    unfold checkA at h
    split at h
    · assumption
    · cases h
  unfold ofV
  rw [ofE_wd, if_pos h, h2]
  rfl
theorem find_none {t : Tt} {a : SAddr} {z s : PT} (hz : z = .nil) (h : s = (((PT.way (full a) (PT.kid a.v6 t.l t.r)).filter (fun x => x.key.2.2)).getLast?).getD z) : (s = .nil ∧ t.find a = none) ∨ (s ∈ PT.way (full a) (PT.kid a.v6 t.l t.r) ∧ t.find a = some (s.key.1, s.key.2.1)) := by
  rw [find_way]
  cases hl : ((PT.way (full a) (PT.kid a.v6 t.l t.r)).filter (fun x => x.key.2.2)).getLast? with
  | none => rw [hl] at h; exact .inl ⟨h.trans hz, rfl⟩
  | some x =>
    rw [hl] at h
    have h : s = x := h
    subst h
    refine .inr ⟨?_, rfl⟩
    obtain ⟨A, hA⟩ := List.getLast?_eq_some_iff.1 hl
    have : s ∈ (PT.way (full a) (PT.kid a.v6 t.l t.r)).filter (fun x => x.key.2.2) := by rw [hA]; simp
    exact (List.mem_filter.1 this).1
theorem z143 : (Try.prog.info? 143).bind (·.zero) = some ((ovE nilPtr).val (ovE nilPtr).zero) := by kernel_rfl
theorem en61 : Gx.Enters Try.prog 61 := Gx.Enters.mk' (by kernel_rfl)
theorem find_ok (t : Tt) (a : SAddr) (w : World) (ht : t.At w) (ho : t.OK) : Calls Try.prog 36 #[t.ptr.v, eAddr.val a] w (RetV w (.tuple #[ePrefix.val (findT t a).1, I (findT t a).2.1, .bool (findT t a).2.2])) := by
  refine enterM0 48 Try.func36 rfl rfl (Nat.le_of_ble_eq_true rfl) ?_
  refine sg (cons (box (E := eAddr) (.t rfl) (fun b1 => ?_)))
  refine cons (alloc z53 (fun b2 => ?_))
  refine co (Ev.assign (.c (v := I 0) rfl)) ?_
  refine co (Ev.assign (.c (v := .bool false) rfl)) ?_
  refine nP (sg (co (Ev.assign (.c (v := I 32) rfl)) ?_))
  refine nP (cut (X := Int) (fun x : Int => (x = wd a)) (fun x : Int => [dz, (0, true, .pointer (some ⟨t.b, 0, none⟩)), (3, true, .pointer (some ⟨b1, 0, none⟩)), (4, true, .pointer (some ⟨b2, 0, none⟩)), (5, true, I 0), (6, true, .bool false), (7, true, I x)]) (fun x : Int => [Var b2 ePrefix ePrefix.zero 53, Var b1 eAddr a 37, Dm []]) ?_ (fun x hx => ?_))
  · refine sg (co (fA 0 (.t rfl)) ?_)
    refine co (Ev.ldx a.v6 ty4 (.t rfl) SAddr.l_v6) ?_
    refine nP ?_
    first | refine condD rfl (fun h0 => ?_) (fun h0 => ?_) | refine cond rfl (fun h0 => ?_) (fun h0 => ?_)
    · try simp only [nb] at h0
      refine region (co (Ev.assign (.c (v := I 128) rfl)) ?_)
      refine nP (mt (X := Int) (_) ?_)
      · try dsimp only
        unfold wd; rw [show a.v6 = _ from h0]; rfl
    · try simp only [nb] at h0
      refine skip (pN (mt (X := Int) (_) ?_))
      · try dsimp only
        unfold wd; rw [show a.v6 = _ from h0]; rfl
  obtain ⟨n, rfl⟩ : ∃ y, y = x := ⟨x, rfl⟩
  have hn : n = wd a := hx
  clear hx
  show Sat _ _ [dz, (0, true, .pointer (some ⟨t.b, 0, none⟩)), (3, true, .pointer (some ⟨b1, 0, none⟩)), (4, true, .pointer (some ⟨b2, 0, none⟩)), (5, true, I 0), (6, true, .bool false), (7, true, I n)] [Var b2 ePrefix ePrefix.zero 53, Var b1 eAddr a 37, Dm []]
  refine seq ?_
  obtain ⟨z, hz⟩ : ∃ z, ofV a n = z := ⟨_, rfl⟩
  obtain ⟨e0, he⟩ : ∃ z, ofE a n = z := ⟨_, rfl⟩
  refine region (co (Ev.ldx a ty37 (.t rfl) (Lens.id _)) ?_)
  refine mv rfl (cons (callv en59 (.cons (.t rfl) (.cons (.t rfl) .nil)) (fun w I => of_g _ _ w z e0 hz he) ?_))
  refine mv rfl (co (Ev.extract (.t rfl) rfl) (co (Ev.extract (.t rfl) rfl) (cons (alloc z53 (fun b3 => ?_)))))
  refine cons (stv ty53 (Lens.id _) (.t rfl) (.t rfl) ?_)
  refine asn rfl (nP (seq (sg (mv rfl (cons (callv en60 (.cons (.t rfl) .nil) (fun w I => there_ok t w (ht.1.keep I.keeps)) ?_))))))
  refine co (Ev.not (.t rfl)) ?_
  refine mv rfl (cg rfl rfl (Ev.move (.t rfl)) ?_)
  refine cg rfl rfl (Ev.neq_i (.g rfl id) (.c (v := I 0) rfl)) ?_
  refine co (Ev.pkO (.t rfl) rfl) ?_
  refine nP ?_
  first | refine condD rfl (fun h1 => ?_) (fun h1 => ?_) | refine cond rfl (fun h1 => ?_) (fun h1 => ?_)
  · refine sg (co (Ev.buildS (fs := _) (places := [(0, 17), (17, 1)]) z53 rfl Try.underlying53 (by kernel_rfl) .nil Fills.nil) ?_)
    refine cons (stv ty53 (Lens.id _) (.t rfl) (.t rfl) ?_)
    refine co (Ev.assign (.c (v := I 0) rfl)) ?_
    refine co (Ev.assign (.c (v := .bool false) rfl)) ?_
    refine nP (ret (pR (doneM (by repeat first | exact Rem.head | apply Rem.tail) rfl rfl (.cell rfl (fun w I => run_loadVar_pts ty53 (ptsVar (by repeat first | exact mH | apply mT | apply mA) (Lens.id _) w I)) (.tmp rfl (.tmp rfl .nil))) (retE ?_))))
    have hc : checkA a ≠ 0 := by
      have h9 : (!t.made) = true ∨ e0 ≠ 0 := by simpa using h1
      rw [ho.made] at h9
      rcases h9 with h9 | h9
      · cases h9
      · rw [← he, hn, ofE_wd] at h9; exact h9
    unfold findT; rw [if_neg hc]; rfl
  · have hca : checkA a = 0 := by
      have h9 : (!t.made) = false ∧ e0 = 0 := by simpa using h1
      rw [← ofE_wd, ← hn, he]; exact h9.2
    have hzf : z = full a := by rw [← hz, hn]; exact ofV_wd hca
    have hzc : checkP z = 0 := by rw [hzf]; exact (full_ok hca).1
    refine skip (pN (sg (cons (alloc z143 (fun b4 => ?_)))))
    refine nP (seq (sg (mv rfl (co (Ev.ldv ty53 (.t rfl) (Lens.id _)) ?_))))
    refine cons (calln (X := Nat × Nat) (fun _ => True) (fun x => (bnd 78 [] [.pointer (some ⟨x.1, 0, none⟩), .pointer (some ⟨x.2, 0, none⟩)]).v) (fun x => [Var x.2 ePrefix z 53, Var x.1 (ovE nilPtr) t.ptr 74]) en61 (.cons (.t rfl) (.cons (.t rfl) .nil)) (fun w I => down_ok t z w) (fun x1 _ => ?_))
    refine nP (block (rangeF (ζ := Unit) (m := []) (ps := [31]) encN (fun s : PT => Var b4 (ovE nilPtr) s.ptr 143) PT.nil (PT.way z (PT.kid z.addr.v6 t.l t.r)) (fun x s s' => s' = if x.key.2.2 = true then x else s) (fun _ _ _ _ => False) (fun x z => [dz, (10, true, .pointer (some ⟨b4, 0, none⟩)), (11, true, x.ptr.v)]) (fun x z => ([] : List Res)) (fun _ => True) trivial (fun _ _ _ _ _ => trivial) (by repeat first | exact Rem.head | apply Rem.tail) (by repeat first | exact Rem.head | apply Rem.tail) rfl (.t rfl) ⟨78, [], [.pointer (some ⟨x1.1, 0, none⟩), .pointer (some ⟨x1.2, 0, none⟩)], rfl⟩ (fun _ => rfl) rfl (fun w I hb => down_iter t z hzc x1.1 x1.2 w _ (fun w1 k => ⟨ht.keep (hb w1 k).keeps, ptsVar (E' := ovE nilPtr) (by repeat first | exact mH | apply mT | apply mA) (Lens.id _) w1 (hb w1 k), ptsVar (E' := ePrefix) (by repeat first | exact mH | apply mT | apply mA) (Lens.id _) w1 (hb w1 k)⟩)) (fun l x w => ?_) (fun l x s zv n0 w hx hn0 hinv hft hb => ?_) (fun s D hr => ?_) (fun c s D hr => ?_)))
    · refine regionI (consT (opv (Ev.assign (.t rfl)) (nilI (gd () (by repeat first | exact Sub.nil | refine Sub.cons rfl ?_) (by repeat first | exact sR | exact sN | apply sC | apply sS | apply sA)))))
    · obtain ⟨b, q, u, h, l, r, rfl⟩ := PT.way_node hx
      refine blockI (seqI (regionI (consT (opv (Ev.to (v' := .pointer (some ⟨b, 0, none⟩)) (Ev.move (.t rfl)) (rfl)) ?_))))
      refine consT (opv (Ev.nilCheck (.t rfl)) ?_)
      refine consT (opv (fA 19 (.t rfl)) ?_)
      refine consT (opv (Ev.load ty4 (.t rfl) (ptsL (fun w I => (PT.way_at ((ht.keep (hb w I.keeps).keeps).kid z.addr.v6) hx).1) STrieNode.l_has)) ?_)
      refine nilI (pN ?_)
      first | refine iteDI rfl (fun h2 => ?_) (fun h2 => ?_) | refine iteI rfl (fun h2 => ?_) (fun h2 => ?_)
      · refine regionI (consT (opv (Ev.move (.t rfl)) (consT (stv ty143 (Lens.id _) (.t rfl) (.t rfl) ?_))))
        refine nilI (bN ?_)
        exact rdN hn0 (PT.node b q u h l r) (by rw [if_pos (show (PT.node b q u h l r).key.2.2 = true from h2)]) mH
      · refine skipI (bN ?_)
        exact rdN hn0 s (by rw [if_neg (show ¬ (PT.node b q u h l r).key.2.2 = true from by rw [show (PT.node b q u h l r).key.2.2 = h from rfl, show h = false from h2]; exact Bool.false_ne_true)]) mH
    · have hfd := findN hr
      rw [hzf] at hfd
      have hfn := find_none (t := t) (a := a) rfl hfd
      refine bN (pN (seq (sg (co (Ev.to (v' := .pointer s.adr) (Ev.ldv ty143 (.t rfl) (Lens.id _)) (rfl)) ?_))))
      refine co (Ev.eql_p Try.underlying143 (.t rfl) (.c rfl)) ?_
      refine nP ?_
      first | refine condD rfl (fun h3 => ?_) (fun h3 => ?_) | refine cond rfl (fun h3 => ?_) (fun h3 => ?_)
      · refine sg (co (Ev.buildS (fs := _) (places := [(0, 17), (17, 1)]) z53 rfl Try.underlying53 (by kernel_rfl) .nil Fills.nil) ?_)
        refine cons (stv ty53 (Lens.id _) (.t rfl) (.t rfl) ?_)
        refine co (Ev.assign (.c (v := I 0) rfl)) ?_
        refine co (Ev.assign (.c (v := .bool false) rfl)) ?_
        refine nP (ret (pR (doneM (by repeat first | exact Rem.head | apply Rem.tail) rfl rfl (.cell rfl (fun w I => run_loadVar_pts ty53 (ptsVar (by repeat first | exact mH | apply mT | apply mA) (Lens.id _) w I)) (.tmp rfl (.tmp rfl .nil))) (retE ?_))))
        have hg : t.find a = none := by
          rcases hfn with g | ⟨g, _⟩
          · exact g.2
          · obtain ⟨b, q, u, h, l, r, rfl⟩ := PT.way_node g
            cases h3
        unfold findT; rw [if_pos hca, hg]; rfl
      · refine skip (pN (seq ?_))
        replace hfn := hfn.resolve_left (fun g => by rw [g.1] at h3; cases h3)
        obtain ⟨b, q, u, h, l, r, rfl⟩ := PT.way_node hfn.1
        have hsx : PT.node b q u h l r ∈ PT.way z (PT.kid z.addr.v6 t.l t.r) := by rw [hzf]; exact hfn.1
        refine drawS 4 rfl (by repeat first | exact Rem.head | apply Rem.tail) (by kernel_rfl) ?_
        refine tk 0 rfl (Ev.to (v' := .pointer (some ⟨b, 0, none⟩)) (Ev.ldv ty143 (.t rfl) (Lens.id _)) (rfl)) ?_
        refine tk 1 rfl (Ev.nilCheck (.t rfl)) ?_
        refine tk 2 rfl (fA 0 (.t rfl)) ?_
        refine tk 3 rfl (Ev.load ty53 (.t rfl) (ptsL (fun w I => (PT.way_at ((ht.keep I.keeps).kid z.addr.v6) hsx).1) STrieNode.l_p)) ?_
        refine tk 4 rfl (Ev.to (v' := .pointer (some ⟨b, 0, none⟩)) (Ev.ldv ty143 (.t rfl) (Lens.id _)) (rfl)) ?_
        refine tk 5 rfl (Ev.nilCheck (.t rfl)) ?_
        refine tk 6 rfl (fA 18 (.t rfl)) ?_
        refine tk 7 rfl (Ev.load ty3 (.t rfl) (ptsL (fun w I => (PT.way_at ((ht.keep I.keeps).kid z.addr.v6) hsx).1) STrieNode.l_v)) ?_
        refine al1 8 rfl ((stv ty53 (Lens.id _) (.t rfl) (.t rfl) ?_))
        refine hdn (tk 9 rfl (Ev.assign (.t rfl)) ?_)
        refine tk 10 rfl (Ev.assign (.c (v := .bool true) rfl)) ?_
        refine ovr (pN (ret (doneM (by repeat first | exact Rem.head | apply Rem.tail) rfl rfl (.cell rfl (fun w I => run_loadVar_pts ty53 (ptsVar (by repeat first | exact mH | apply mT | apply mA) (Lens.id _) w I)) (.tmp rfl (.tmp rfl .nil))) (retE ?_))))
        unfold findT; rw [if_pos hca, hfn.2]; rfl
    · exfalso
      have : ∀ (xs : List PT) (s0 s : PT), RunsX (fun x s s' => s' = if x.key.2.2 = true then x else s) (fun _ _ _ _ => False) c xs s0 s → False := by
        intro xs
        induction xs with
        | nil => intro _ _ h; exact h
        | cons x xs ih => rintro s0 s (h | ⟨q, _, h⟩)
                          · exact h
                          · exact ih _ _ h
      exact this _ _ _ hr
end Go.Proofs.Ytmdkmclgfgaahaa.Tri
namespace Go.Proofs.Ytmdkmclgfgaahaa.Tri
open Go Go.Gx
theorem put_n {t x : Tt} {p : SPrefix} {v : Int} (ho : t.OK) (hx : x.OK) (h : ∀ y, y ∈ x.ents ↔ (y = (p, v) ∨ (y ∈ t.ents ∧ y.1 ≠ p))) : x.n ≤ t.n + 1 := by
  have h1 := len_new ho.nodup hx.nodup h
  rw [ho.n, hx.n]
  rcases Classical.em (∃ y ∈ t.ents, y.1 = p) with g | g
  · have := h1.2 g
    omega
  · have := h1.1 (fun y hy e => g ⟨y, hy, e⟩)
    omega
def routesL (l : List SRoute) : SPrefix × Int → Prop := l.foldl (fun Q r y => y = (r.to_, r.out) ∨ (Q y ∧ y.1 ≠ r.to_)) (fun _ => False)
theorem routesL_snoc (l : List SRoute) (r : SRoute) (y : SPrefix × Int) : routesL (l ++ [r]) y ↔ (y = (r.to_, r.out) ∨ (routesL l y ∧ y.1 ≠ r.to_)) := by
  unfold routesL
  rw [List.foldl_append]
  exact Iff.rfl
def ofR (l : List SRoute) : Int := if l.all (fun r => decide (checkP r.to_ = 0)) = true then 0 else 151
theorem checkP_01 (p : SPrefix) : checkP p = 0 ∨ checkP p = 151 := by
  unfold checkP
  split
  · exact .inr rfl
  · exact .inl rfl
def TofJ (l : List SRoute) (x : Tt × List Res) : Prop := ofR l = 0 → (x.1.OK ∧ (∀ y, y ∈ x.1.ents ↔ routesL l y) ∧ x.1.n ≤ l.length ∧ ∀ w1, (∀ r ∈ x.2, r.A w1) → x.1.At w1)
theorem take_snoc' {α : Type} (l : List α) (i : Int) (h0 : 0 ≤ i) (h1 : i < l.length) (z : α) : l.take (i + 1).toNat = l.take i.toNat ++ [l.getD i.toNat z] := by
  have e : (i + 1).toNat = i.toNat + 1 := by omega
  have hl : i.toNat < l.length := by omega
  rw [e, List.take_add_one, List.getElem?_eq_getElem hl]
  simp [List.getD, hl]
theorem key_uniq {l : List (SPrefix × Int)} (h : (l.map (·.1)).Nodup) {a b : SPrefix × Int} (ha : a ∈ l) (hb : b ∈ l) (e : a.1 = b.1) : a = b := by
  induction l with
  | nil => simp at ha
  | cons z l ih =>
    rw [List.map_cons, List.nodup_cons] at h
    rcases List.mem_cons.1 ha with ha | ha <;> rcases List.mem_cons.1 hb with hb | hb
    · rw [ha, hb]
    · exact absurd (List.mem_map.2 ⟨b, hb, by rw [← e, ha]⟩) h.1
    · exact absurd (List.mem_map.2 ⟨a, ha, by rw [e, hb]⟩) h.1
    · exact ih h.2 ha hb
theorem find_spec {t : Tt} (ho : t.OK) (a : SAddr) : (∃ x ∈ t.ents, hasP x.1 a = true ∧ findT t a = (x.1, x.2, true) ∧ ∀ y ∈ t.ents, hasP y.1 a = true → coversP y.1 x.1 = true) ∨ (findT t a = (ePrefix.zero, 0, false) ∧ ∀ y ∈ t.ents, hasP y.1 a = false) := by
  by_cases hc : checkA a = 0
  · have hk := keyLaw a.v6
    have cl := covLaw a.v6
    have hfo := full_ok hc
    cases hb : t.find a with
    | none =>
      refine .inr ⟨by unfold findT; rw [if_pos hc, hb], fun y hy => ?_⟩
      have hn := hk.best_none cl hfo (ho.kid a.v6) hb
      cases hh : hasP y.1 a with
      | false => rfl
      | true =>
        have h2 := (has_full hc).1 hh
        exact absurd h2.2 (hn y ((ho.mem_k _ y).2 ⟨hy, h2.1.2⟩))
    | some x =>
      obtain ⟨h1, h2, h3⟩ := hk.best_some cl hfo (ho.kid a.v6) hb
      have hx := (ho.mem_k _ x).1 h1
      have hox : okP a.v6 x.1 := ((ho.kid a.v6).ents_in x h1).1
      refine .inl ⟨x, hx.1, (has_full hc).2 ⟨hox, h2⟩, by unfold findT; rw [if_pos hc, hb], fun y hy hh => ?_⟩
      have h4 := (has_full hc).1 hh
      exact (covers_iff h4.1 hox).2 (h3 y ((ho.mem_k _ y).2 ⟨hy, h4.1.2⟩) h4.2)
  · refine .inr ⟨by unfold findT; rw [if_neg hc], fun y _ => ?_⟩
    cases hh : hasP y.1 a with
    | false => rfl
    | true => exact absurd ((hasP_iff _ _).1 hh).2.1 hc
theorem find_of {t : Tt} (ho : t.OK) {a : SAddr} {x : SPrefix × Int} (hx : x ∈ t.ents) (hh : hasP x.1 a = true) (hm : ∀ y ∈ t.ents, hasP y.1 a = true → y.1.bits ≤ x.1.bits) : findT t a = (x.1, x.2, true) := by
  rcases find_spec ho a with ⟨z, h1, h2, h3, h4⟩ | ⟨h1, h2⟩
  · have hc := ((hasP_iff _ _).1 hh).2.1
    have oz := ((has_full hc).1 h2).1
    have ox := ((has_full hc).1 hh).1
    have e1 := (covers_iff ox oz).1 (h4 x hx hh)
    have e2 := hm z h1 h2
    have n1 := ox.nn
    have n2 := oz.nn
    have e : x.1 = z.1 := pb_inj ox oz (pre_len e1 (by simp; omega))
    rw [key_uniq ho.nodup hx h1 e]
    exact h3
  · rw [h2 x hx] at hh
    cases hh
theorem getD_in' {α : Type} (l : List α) (i : Nat) (d : α) (h : i < l.length) : l.getD i d ∈ l := by simp [List.getD, h]
theorem en44 : Gx.Enters Try.prog 44 := Gx.Enters.mk' (by kernel_rfl)
theorem en45 : Gx.Enters Try.prog 45 := Gx.Enters.mk' (by kernel_rfl)
theorem tof_ok (u : Value) (rs : List SRoute) (w : World) (hs : IsSl eRoute w u rs) (hl : rs.length ≤ 4611686018427387) : Calls Try.prog 24 #[u] w (RetN w (TofJ rs) (fun x => .tuple #[.pointer (pO (ofR rs) x.1.b), I (ofR rs)]) (fun x => x.2)) := by
  have hle := hs.le
  refine en0 41 Try.func24 ?_
  refine sg (co (Ev.assign (.c (v := (Go.Value.pointer none)) rfl)) ?_)
  refine co (Ev.assign (.c (v := I 0) rfl)) ?_
  refine nP (seq (sg (mv rfl (co (Ev.len Try.underlying23 (.t rfl) (fun w I => hs.keep0 I.keeps)) ?_))))
  refine co (Ev.move (.c (v := I 0) rfl)) ?_
  refine nP (block (lp (X := Int) (fun x : Int => (0 ≤ x ∧ x ≤ rs.length) ∧ (∀ j : Nat, j < x → checkP (rs.getD j eRoute.zero).to_ = 0)) (fun x : Int => [dz, (0, true, u), (2, true, .pointer none), (3, true, I 0), (10, true, u), (11, true, I rs.length), (12, true, I x)]) (fun x : Int => []) (fun x : Int => ((rs.length : Int) - x).toNat) (0) ⟨?_, ?_⟩ (fun x hx => ?_)))
  · omega
  · intro j h; omega
  obtain ⟨i, rfl⟩ : ∃ y, y = x := ⟨x, rfl⟩
  obtain ⟨hi, hq⟩ : (0 ≤ i ∧ i ≤ rs.length) ∧ (∀ j : Nat, j < i → checkP (rs.getD j eRoute.zero).to_ = 0) := hx
  show Sat _ _ [dz, (0, true, u), (2, true, .pointer none), (3, true, I 0), (10, true, u), (11, true, I rs.length), (12, true, I i)] []
  refine sg (co (Ev.lss_i (.t rfl) (.t rfl)) ?_)
  refine nP (seq ?_)
  first | refine condD rfl (fun h0 => ?_) (fun h0 => ?_) | refine cond rfl (fun h0 => ?_) (fun h0 => ?_)
  · try simp only [nb] at h0
    refine skip (pN (seq (block (sg (co (Ev.indexAddr Try.underlying23 ty60 (.t rfl) (.t rfl) (fun w I => hs.keep0 I.keeps) (fun _ => by omega)) ?_)))))
    refine co (Ev.loadS0 ty60 (.t rfl) (fun w I => hs.keep0 I.keeps) (fun _ => by omega)) ?_
    refine cons (alloc z60 (fun b1 => ?_))
    refine cons (stv ty60 (Lens.id _) (.t rfl) (.t rfl) ?_)
    refine nP (sg (co (fA 0 (.t rfl)) ?_))
    refine co (Ev.ldv ty53 (.t rfl) SRoute.l_to_) ?_
    refine cons (callv en33 (.cons (.t rfl) .nil) (fun w I => checkP_ok _ w) ?_)
    refine asn rfl (nP (sg (mv rfl (co (Ev.neq_i (.t rfl) (.c (v := I 0) rfl)) ?_))))
    refine nP ?_
    first | refine condD rfl (fun h1 => ?_) (fun h1 => ?_) | refine cond rfl (fun h1 => ?_) (fun h1 => ?_)
    · try simp only [nb] at h1
      refine sg (mv rfl (co (Ev.assign (.c (v := (Go.Value.pointer none)) rfl)) ?_))
      refine asn rfl (nP (ret (bR (pR (pR (bR (pR (done rfl (.tmp rfl (.tmp rfl .nil)) (fun w I => ?_)))))))))
      have he : ofR rs = 151 := by
        unfold ofR
        rw [if_neg]
        intro h
        exact h1 (of_decide_eq_true (List.all_eq_true.1 h _ (getD_in' rs i.toNat eRoute.zero (by omega))))
      have hc : checkP (rs.getD i.toNat eRoute.zero).to_ = 151 := (checkP_01 _).resolve_left h1
      exact retNP ((⟨0, true, 0, .nil, .nil⟩ : Tt), []) (fun h => by rw [he] at h; cases h) (by show _ = Value.tuple #[.pointer (pO (ofR rs) 0), Gx.I (ofR rs)]; rw [he, ← hc]; unfold pO; rw [if_neg (show ¬ checkP (rs.getD i.toNat eRoute.zero).to_ = 0 from h1)]; rfl) SubP.nil w I
    · try simp only [nb] at h1
      refine skip (bN (pN (region (co (Ev.add_i (.t rfl) (.c (v := I 1) rfl) (fun _ => by omega)) ?_))))
      refine mv rfl (nP (nx (X := Int) (i + 1) ⟨?_, ?_⟩ ?_))
      · try dsimp only
        omega
      · try dsimp only
        intro j hj
        by_cases e : (j : Int) < i
        · exact hq j e
        · obtain rfl : j = i.toNat := by omega
          exact Decidable.not_not.1 h1
      · try dsimp only
        omega
  · try simp only [nb] at h0
    refine exit (pX (pX (bX (pN (seq ?_)))))
    have hgood : ∀ r ∈ rs, checkP r.to_ = 0 := fun r hr => by
      obtain ⟨j, hj, rfl⟩ := List.mem_iff_getElem.1 hr
      have := hq j (by omega)
      simpa [List.getD, hj] using this
    have he0 : ofR rs = 0 := by
      unfold ofR
      rw [if_pos (List.all_eq_true.2 (fun r hr => decide_eq_true (hgood r hr)))]
    refine region (cons (calln (X := Tt) (fun x : Tt => x.OK ∧ x.ents = [] ∧ x.made = true ∧ x.n = 0 ∧ x.l = .nil ∧ x.r = .nil) (fun x => x.ptr.v) (fun x => [Var x.b eTrieTrie x.val 173]) en44 .nil (fun w I => new_ok w) (fun t0 ht0 => ?_)))
    refine asn rfl (nP (seq (sg (mv rfl (co (Ev.len Try.underlying23 (.t rfl) (fun w I => hs.keep0 I.keeps)) ?_)))))
    refine co (Ev.move (.c (v := I 0) rfl)) ?_
    refine nP (block (lp (X := Int × Tt × (List Res)) (fun x : Int × Tt × (List Res) => (0 ≤ x.1 ∧ x.1 ≤ rs.length) ∧ (x.2.1.OK) ∧ (x.2.1.n ≤ x.1) ∧ (∀ y, y ∈ x.2.1.ents ↔ routesL (rs.take x.1.toNat) y) ∧ (∀ w1 : World, (∀ r ∈ x.2.2, r.A w1) → x.2.1.At w1)) (fun x : Int × Tt × (List Res) => [dz, (7, true, x.2.1.ptr.v), (24, true, u), (25, true, I rs.length), (26, true, I x.1)]) (fun x : Int × Tt × (List Res) => x.2.2) (fun x : Int × Tt × (List Res) => ((rs.length : Int) - x.1).toNat) (0, t0, [Var t0.b eTrieTrie t0.val 173]) ⟨?_, ?_, ?_, ?_, ?_⟩ (fun x hx => ?_)))
    · omega
    · exact ht0.1
    · rw [ht0.2.2.2.1]; exact Int.le_refl _
    · exact fun y => by rw [ht0.2.1]; exact ⟨fun h => (by simp at h), fun h => h.elim⟩
    · exact fun w1 h => ⟨pts_mem (T := 173) h List.mem_cons_self, by rw [ht0.2.2.2.2.1]; trivial, by rw [ht0.2.2.2.2.2]; trivial⟩
    obtain ⟨i2, tt, Rs⟩ := x
    obtain ⟨hi2, hok, hn, hmm, hat⟩ : (0 ≤ i2 ∧ i2 ≤ rs.length) ∧ (tt.OK) ∧ (tt.n ≤ i2) ∧ (∀ y, y ∈ tt.ents ↔ routesL (rs.take i2.toNat) y) ∧ (∀ w1 : World, (∀ r ∈ Rs, r.A w1) → tt.At w1) := hx
    show Sat _ _ [dz, (7, true, tt.ptr.v), (24, true, u), (25, true, I rs.length), (26, true, I i2)] Rs
    refine sg (co (Ev.lss_i (.t rfl) (.t rfl)) ?_)
    refine nP (seq ?_)
    first | refine condD rfl (fun h2 => ?_) (fun h2 => ?_) | refine cond rfl (fun h2 => ?_) (fun h2 => ?_)
    · try simp only [nb] at h2
      refine skip (pN (seq (block (sg (co (Ev.indexAddr Try.underlying23 ty60 (.t rfl) (.t rfl) (fun w I => hs.keep0 I.keeps) (fun _ => by omega)) ?_)))))
      refine co (Ev.loadS0 ty60 (.t rfl) (fun w I => hs.keep0 I.keeps) (fun _ => by omega)) ?_
      refine cons (alloc z60 (fun b2 => ?_))
      refine cons (stv ty60 (Lens.id _) (.t rfl) (.t rfl) ?_)
      refine nP ?_
      have hck : checkP (rs.getD i2.toNat eRoute.zero).to_ = 0 := hgood _ (getD_in' rs i2.toNat eRoute.zero (by omega))
      refine region (mv rfl (co (fA 0 (.t rfl)) ?_))
      refine co (Ev.ldv ty53 (.t rfl) SRoute.l_to_) ?_
      refine co (fA 18 (.t rfl)) ?_
      refine co (Ev.ldv ty3 (.t rfl) SRoute.l_out) ?_
      refine cons (calln (X := Tt × List Res) (TputJ tt (rs.getD i2.toNat eRoute.zero).to_ (rs.getD i2.toNat eRoute.zero).out) (fun x => .tuple #[.pointer (pO (checkP (rs.getD i2.toNat eRoute.zero).to_) x.1.b), I (checkP (rs.getD i2.toNat eRoute.zero).to_)]) (fun x => x.2) en45 (.cons (.t rfl) (.cons (.t rfl) (.cons (.t rfl) .nil))) (fun w I => tput_ok tt _ _ w (hat w (fun r hr => (I.own r (by repeat first | exact hr | apply List.Mem.tail)).1)) hok (by omega)) (fun x1 hx1 => ?_))
      refine mv rfl (co (Ev.to (v' := x1.1.ptr.v) (Ev.extract (.t rfl) rfl) (congrArg Value.pointer (if_pos hck))) ?_)
      refine co (Ev.extract (.t rfl) rfl) (asn rfl (nil (bN (pN ?_))))
      obtain ⟨hok1, hmm1, hat1⟩ := hx1 hck
      have hn1 := put_n hok hok1 hmm1
      refine region (co (Ev.add_i (.t rfl) (.c (v := I 1) rfl) (fun _ => by omega)) ?_)
      refine mv rfl (nP (nx (X := Int × Tt × (List Res)) (i2 + 1, x1.1, x1.2 ++ Rs) ⟨?_, ?_, ?_, ?_, ?_⟩ ?_ (hL := (by first | exact List.Sublist.refl _ | (apply List.Sublist.append_left; repeat first | exact List.Sublist.refl _ | apply List.Sublist.cons)))))
      · try dsimp only
        omega
      · try dsimp only
        exact hok1
      · try dsimp only
        omega
      · try dsimp only
        exact fun y => by rw [take_snoc' rs i2 hi2.1 (by omega) eRoute.zero, routesL_snoc, hmm1, hmm]
      · try dsimp only
        exact fun w1 h => hat1 w1 (hat w1 (fun r hr => h r (List.mem_append_right _ hr))) (fun r hr => h r (List.mem_append_left _ hr))
      · try dsimp only
        omega
    · try simp only [nb] at h2
      refine exit (pX (pX (bX (pN (sg (mv rfl (asn rfl (co (Ev.assign (.c (v := I 0) rfl)) ?_))))))))
      refine nP (ret (done rfl (.tmp rfl (.tmp rfl .nil)) (fun w I => ?_)))
      have hi9 : i2.toNat = rs.length := by omega
      rw [hi9, List.take_length] at hmm
      refine retNP (tt, Rs) (fun _ => ⟨hok, hmm, by show tt.n ≤ rs.length; omega, hat⟩) (by show _ = Value.tuple #[.pointer (pO (ofR rs) tt.b), Gx.I (ofR rs)]; rw [he0]; rfl) (SubP.of (List.Sublist.refl _)) w I
end Go.Proofs.Ytmdkmclgfgaahaa.Tri
namespace Go.Proofs.Ytmdkmclgfgaahaa
open Go Go.Gx
def frontN (h : SHeader) : Int := bif h.src.v6 then 40 else 20
def midN (p : UInt8) : Int := if p = 6 then 20 else if p = 17 then 8 else 0
def atN (p : UInt8) : Int := if p = 6 then 16 else 6
def checkH (h : SHeader) (n : Int) : Int :=
  if checkA h.src ≠ 0 ∨ checkA h.dst ≠ 0 ∨ h.src.v6 ≠ h.dst.v6 ∨ (bif h.src.v6 then 1048575 else 65535) < h.id then 2
  else if midN h.proto = 0 ∧ (h.srcPort ≠ 0 ∨ h.dstPort ≠ 0) ∨ h.proto ≠ 6 ∧ (h.flags ≠ 0 ∨ h.seq ≠ 0) then 2
  else if 2048 < frontN h + midN h.proto + n then 4 else 0
def addrB (a : SAddr) : List UInt8 := a.b.toList.take (bif a.v6 then 16 else 4)
theorem front_ok (h : SHeader) (w : World) : Calls Try.prog 47 #[eHeader.val h] w (RetV w (I (frontN h))) := by
  refine en0 6 Try.func47 ?_
  refine sg (cons (box (E := eHeader) (.t rfl) (fun b1 => ?_)))
  refine co (Ev.assign (.c (v := I 0) rfl)) ?_
  refine nP (seq (sg (co (fA 0 (.t rfl)) ?_)))
  refine co (fA 0 (.t rfl)) ?_
  refine co (Ev.ldx h.src.v6 ty4 (.t rfl) (Lens.comp SHeader.l_src SAddr.l_v6)) ?_
  refine nP ?_
  first | refine condD rfl (fun h0 => ?_) (fun h0 => ?_) | refine cond rfl (fun h0 => ?_) (fun h0 => ?_)
  · try simp only [Gx.nb] at h0
    refine sg (co (Ev.assign (.c (v := I 40) rfl)) ?_)
    refine nP (ret (pR (done rfl (.tmp rfl .nil) (retE ?_))))
    first | rfl | simp [frontN, *]
  · try simp only [Gx.nb] at h0
    refine skip (pN (sg (co (Ev.assign (.c (v := I 20) rfl)) ?_)))
    refine nP (ret (done rfl (.tmp rfl .nil) (retE ?_)))
    first | rfl | simp [frontN, *]
theorem middle_ok (p : UInt8) (w : World) : Calls Try.prog 46 #[U8 p] w (RetV w (I (midN p))) := by
  refine en0 8 Try.func46 ?_
  refine sg (co (Ev.assign (.c (v := I 0) rfl)) ?_)
  refine nP (seq (sg (mv rfl (nP (block (sg (co (Ev.eql_u8 (.t rfl) (.c (v := U8 6) rfl)) ?_)))))))
  refine asn rfl (nP ?_)
  first | refine condD rfl (fun h0 => ?_) (fun h0 => ?_) | refine cond rfl (fun h0 => ?_) (fun h0 => ?_)
  · try simp only [Gx.nb] at h0
    refine sg (co (Ev.assign (.c (v := I 20) rfl)) ?_)
    refine nP (ret (bR (pR (done rfl (.tmp rfl .nil) (retE ?_)))))
    simp [midN, *]
  · try simp only [Gx.nb] at h0
    refine sg (co (Ev.eql_u8 (.t rfl) (.c (v := U8 17) rfl)) ?_)
    refine asn rfl (nP ?_)
    first | refine condD rfl (fun h1 => ?_) (fun h1 => ?_) | refine cond rfl (fun h1 => ?_) (fun h1 => ?_)
    · try simp only [Gx.nb] at h1
      refine sg (co (Ev.assign (.c (v := I 8) rfl)) ?_)
      refine nP (ret (bR (pR (done rfl (.tmp rfl .nil) (retE ?_)))))
      simp [midN, *]
    · try simp only [Gx.nb] at h1
      refine skip (bN (pN (sg (co (Ev.assign (.c (v := I 0) rfl)) ?_))))
      refine nP (ret (done rfl (.tmp rfl .nil) (retE ?_)))
      simp [midN, *]
theorem en46 : Gx.Enters Try.prog 46 := Gx.Enters.mk' (by kernel_rfl)
theorem ty42 : TyOK Try.prog 42 eHeader := TyOK.mk' (by kernel_rfl) (by kernel_rfl)
theorem ty40 : TyOK Try.prog 40 (ovE nilSl) := TyOK.mk' (by kernel_rfl) (by kernel_rfl)
theorem en47 : Gx.Enters Try.prog 47 := Gx.Enters.mk' (by kernel_rfl)
theorem ty39 : TyOK Try.prog 39 u32E := TyOK.mk' (by kernel_rfl) (by kernel_rfl)
theorem pcheck_ok (h : SHeader) (d : List UInt8) (w : World) (hd : IsSl u8E w h.data.v d) (hl : d.length ≤ 1152921504606846975) : Calls Try.prog 28 #[eHeader.val h] w (RetV w (I (checkH h d.length))) := by
  have hfl : 0 ≤ frontN h ∧ frontN h ≤ 40 := by unfold frontN; cases h.src.v6 <;> decide
  have hml : 0 ≤ midN h.proto ∧ midN h.proto ≤ 20 := by unfold midN; split <;> (try split) <;> decide
  refine en0 67 Try.func28 ?_
  refine sg (cons (box (E := eHeader) (.t rfl) (fun b1 => ?_)))
  refine co (Ev.assign (.c (v := I 0) rfl)) ?_
  refine nP (sg (co (Ev.assign (.c (v := U32 65535) rfl)) ?_))
  refine nP (seq (sg (co (fA 0 (.t rfl)) ?_)))
  refine co (fA 0 (.t rfl)) ?_
  refine co (Ev.ldx h.src.v6 ty4 (.t rfl) (Lens.comp SHeader.l_src SAddr.l_v6)) ?_
  refine nP ?_
  first | refine condD rfl (fun h0 => ?_) (fun h0 => ?_) | refine cond rfl (fun h0 => ?_) (fun h0 => ?_)
  · try simp only [Gx.nb] at h0
    refine region (co (Ev.assign (.c (v := U32 1048575) rfl)) ?_)
    refine nP (sg (co (fA 34 (.t rfl)) ?_))
    refine co (Ev.ldx h.proto ty5 (.t rfl) SHeader.l_proto) ?_
    refine cons (callv en46 (.cons (.t rfl) .nil) (fun w I => middle_ok _ w) ?_)
    refine asn rfl (nP (seq (block (seq (sg (co (fA 0 (.t rfl)) ?_))))))
    refine co (Ev.ldx h.src ty37 (.t rfl) SHeader.l_src) ?_
    refine cons (callv en34 (.cons (.t rfl) .nil) (fun w I => checkA_ok _ w) ?_)
    refine co (Ev.neq_i (.t rfl) (.c (v := I 0) rfl)) ?_
    refine asn rfl (nP ?_)
    first | refine condD rfl (fun h1 => ?_) (fun h1 => ?_) | refine cond rfl (fun h1 => ?_) (fun h1 => ?_)
    · try simp only [Gx.nb] at h1
      refine skip (pN ?_)
      first | refine condD rfl (fun h4 => ?_) (fun h4 => ?_) | refine cond rfl (fun h4 => ?_) (fun h4 => ?_)
      · try simp only [Gx.nb] at h4
        refine sg (co (Ev.assign (.c (v := I 2) rfl)) ?_)
        refine nP (ret (bR (pR (done rfl (.tmp rfl .nil) (retE ?_)))))
        unfold checkH
        first
          | (simp_all; done)
          | (have hA : ¬ (checkA h.src ≠ 0 ∨ checkA h.dst ≠ 0 ∨ h.src.v6 ≠ h.dst.v6 ∨ (bif h.src.v6 then 1048575 else 65535) < h.id) := by simp_all
             rw [if_neg hA]
             simp_all; done)
      · try simp only [Gx.nb] at h4
        refine seq (sg (mv rfl (co (Ev.eql_i (.t rfl) (.c (v := I 0) rfl)) ?_)))
        refine mv rfl (cg rfl rfl (fA 35 (.t rfl)) ?_)
        refine cg rfl rfl (Ev.ldx h.srcPort ty38 (.g rfl id) SHeader.l_srcPort) ?_
        refine cg rfl rfl (Ev.neq_u16 (.g rfl id) (.c (v := U16 0) rfl)) ?_
        refine cg rfl rfl (Ev.move (.g rfl id)) ?_
        refine cg rfl rfl (fA 36 (.t rfl)) ?_
        refine cg rfl rfl (Ev.ldx h.dstPort ty38 (.g rfl id) SHeader.l_dstPort) ?_
        refine cg rfl rfl (Ev.neq_u16 (.g rfl id) (.c (v := U16 0) rfl)) ?_
        refine cg rfl rfl (Ev.pkO (.g rfl id) rfl) ?_
        refine co (Ev.pkA (.t rfl) rfl) ?_
        refine asn rfl (nP ?_)
        first | refine condD rfl (fun h5 => ?_) (fun h5 => ?_) | refine cond rfl (fun h5 => ?_) (fun h5 => ?_)
        · try simp only [Gx.nb] at h5
          refine skip (pN ?_)
          first | refine condD rfl (fun h6 => ?_) (fun h6 => ?_) | refine cond rfl (fun h6 => ?_) (fun h6 => ?_)
          · try simp only [Gx.nb] at h6
            refine sg (co (Ev.assign (.c (v := I 2) rfl)) ?_)
            refine nP (ret (bR (pR (done rfl (.tmp rfl .nil) (retE ?_)))))
            unfold checkH
            first
              | (simp_all; done)
              | (have hA : ¬ (checkA h.src ≠ 0 ∨ checkA h.dst ≠ 0 ∨ h.src.v6 ≠ h.dst.v6 ∨ (bif h.src.v6 then 1048575 else 65535) < h.id) := by simp_all
                 rw [if_neg hA]
                 simp_all; done)
          · try simp only [Gx.nb] at h6
            refine seq (draw' (by kernel_rfl) ?_)
            refine tk 0 rfl (Ev.ldx h ty42 (.t rfl) (Lens.id _)) ?_
            refine tk 2 rfl (Ev.move (.t rfl)) ?_
            refine tk 4 rfl (fA 42 (.t rfl)) ?_
            refine tk 5 rfl (Ev.ldx h.data ty40 (.t rfl) SHeader.l_data) ?_
            refine tk 6 rfl (Ev.len Try.underlying40 (.t rfl) (fun w I => hd.keep0 I.keeps)) ?_
            refine al1 1 rfl ((callv en47 (.cons (.t rfl) .nil) (fun w I => front_ok _ w) ?_))
            refine hdn (tk 3 rfl (Ev.add_i (.t rfl) (.t rfl) (fun _ => by omega)) ?_)
            refine tk 7 rfl (Ev.add_i (.t rfl) (.t rfl) (fun _ => by omega)) ?_
            refine tk 8 rfl (Ev.gtr_i (.t rfl) (.c (v := I 2048) rfl)) ?_
            refine tk 9 rfl (Ev.assign (.t rfl)) ?_
            refine ovr (pN ?_)
            first | refine condD rfl (fun h7 => ?_) (fun h7 => ?_) | refine cond rfl (fun h7 => ?_) (fun h7 => ?_)
            · try simp only [Gx.nb] at h7
              refine sg (co (Ev.assign (.c (v := I 4) rfl)) ?_)
              refine nP (ret (bR (pR (done rfl (.tmp rfl .nil) (retE ?_)))))
              first
                | (exfalso; simp_all; done)
                | (have hA : ¬ (checkA h.src ≠ 0 ∨ checkA h.dst ≠ 0 ∨ h.src.v6 ≠ h.dst.v6 ∨ (bif h.src.v6 then 1048575 else 65535) < h.id) := by simp_all
                   have hB : ¬ (midN h.proto = 0 ∧ (h.srcPort ≠ 0 ∨ h.dstPort ≠ 0) ∨ h.proto ≠ 6 ∧ (h.flags ≠ 0 ∨ h.seq ≠ 0)) := by
                     intro hc
                     rcases hc with hc | hc <;> simp_all
                   unfold checkH
                   rw [if_neg hA, if_neg hB]
                   first
                     | (rw [if_pos (by omega)]; rfl)
                     | (rw [if_neg (by omega)]; rfl))
            · try simp only [Gx.nb] at h7
              refine skip (bN (pN (sg (co (Ev.assign (.c (v := I 0) rfl)) ?_))))
              refine nP (ret (done rfl (.tmp rfl .nil) (retE ?_)))
              first
                | (exfalso; simp_all; done)
                | (have hA : ¬ (checkA h.src ≠ 0 ∨ checkA h.dst ≠ 0 ∨ h.src.v6 ≠ h.dst.v6 ∨ (bif h.src.v6 then 1048575 else 65535) < h.id) := by simp_all
                   have hB : ¬ (midN h.proto = 0 ∧ (h.srcPort ≠ 0 ∨ h.dstPort ≠ 0) ∨ h.proto ≠ 6 ∧ (h.flags ≠ 0 ∨ h.seq ≠ 0)) := by
                     intro hc
                     rcases hc with hc | hc <;> simp_all
                   unfold checkH
                   rw [if_neg hA, if_neg hB]
                   first
                     | (rw [if_pos (by omega)]; rfl)
                     | (rw [if_neg (by omega)]; rfl))
        · try simp only [Gx.nb] at h5
          refine region (co (fA 34 (.t rfl)) ?_)
          refine co (Ev.ldx h.proto ty5 (.t rfl) SHeader.l_proto) ?_
          refine co (Ev.neq_u8 (.t rfl) (.c (v := U8 6) rfl)) ?_
          refine mv rfl (cg rfl rfl (fA 40 (.t rfl)) ?_)
          refine cg rfl rfl (Ev.ldx h.flags ty5 (.g rfl id) SHeader.l_flags) ?_
          refine cg rfl rfl (Ev.neq_u8 (.g rfl id) (.c (v := U8 0) rfl)) ?_
          refine cg rfl rfl (Ev.move (.g rfl id)) ?_
          refine cg rfl rfl (fA 41 (.t rfl)) ?_
          refine cg rfl rfl (Ev.ldx h.seq ty39 (.g rfl id) SHeader.l_seq) ?_
          refine cg rfl rfl (Ev.neq_u32 (.g rfl id) (.c (v := U32 0) rfl)) ?_
          refine cg rfl rfl (Ev.pkO (.g rfl id) rfl) ?_
          refine co (Ev.pkA (.t rfl) rfl) ?_
          refine asn rfl (nP ?_)
          first | refine condD rfl (fun h6 => ?_) (fun h6 => ?_) | refine cond rfl (fun h6 => ?_) (fun h6 => ?_)
          · try simp only [Gx.nb] at h6
            refine sg (co (Ev.assign (.c (v := I 2) rfl)) ?_)
            refine nP (ret (bR (pR (done rfl (.tmp rfl .nil) (retE ?_)))))
            unfold checkH
            first
              | (simp_all; done)
              | (have hA : ¬ (checkA h.src ≠ 0 ∨ checkA h.dst ≠ 0 ∨ h.src.v6 ≠ h.dst.v6 ∨ (bif h.src.v6 then 1048575 else 65535) < h.id) := by simp_all
                 rw [if_neg hA]
                 simp_all; done)
          · try simp only [Gx.nb] at h6
            refine seq (draw' (by kernel_rfl) ?_)
            refine tk 0 rfl (Ev.ldx h ty42 (.t rfl) (Lens.id _)) ?_
            refine tk 2 rfl (Ev.move (.t rfl)) ?_
            refine tk 4 rfl (fA 42 (.t rfl)) ?_
            refine tk 5 rfl (Ev.ldx h.data ty40 (.t rfl) SHeader.l_data) ?_
            refine tk 6 rfl (Ev.len Try.underlying40 (.t rfl) (fun w I => hd.keep0 I.keeps)) ?_
            refine al1 1 rfl ((callv en47 (.cons (.t rfl) .nil) (fun w I => front_ok _ w) ?_))
            refine hdn (tk 3 rfl (Ev.add_i (.t rfl) (.t rfl) (fun _ => by omega)) ?_)
            refine tk 7 rfl (Ev.add_i (.t rfl) (.t rfl) (fun _ => by omega)) ?_
            refine tk 8 rfl (Ev.gtr_i (.t rfl) (.c (v := I 2048) rfl)) ?_
            refine tk 9 rfl (Ev.assign (.t rfl)) ?_
            refine ovr (pN ?_)
            first | refine condD rfl (fun h7 => ?_) (fun h7 => ?_) | refine cond rfl (fun h7 => ?_) (fun h7 => ?_)
            · try simp only [Gx.nb] at h7
              refine sg (co (Ev.assign (.c (v := I 4) rfl)) ?_)
              refine nP (ret (bR (pR (done rfl (.tmp rfl .nil) (retE ?_)))))
              first
                | (exfalso; simp_all; done)
                | (have hA : ¬ (checkA h.src ≠ 0 ∨ checkA h.dst ≠ 0 ∨ h.src.v6 ≠ h.dst.v6 ∨ (bif h.src.v6 then 1048575 else 65535) < h.id) := by simp_all
                   have hB : ¬ (midN h.proto = 0 ∧ (h.srcPort ≠ 0 ∨ h.dstPort ≠ 0) ∨ h.proto ≠ 6 ∧ (h.flags ≠ 0 ∨ h.seq ≠ 0)) := by
                     intro hc
                     rcases hc with hc | hc <;> simp_all
                   unfold checkH
                   rw [if_neg hA, if_neg hB]
                   first
                     | (rw [if_pos (by omega)]; rfl)
                     | (rw [if_neg (by omega)]; rfl))
            · try simp only [Gx.nb] at h7
              refine skip (bN (pN (sg (co (Ev.assign (.c (v := I 0) rfl)) ?_))))
              refine nP (ret (done rfl (.tmp rfl .nil) (retE ?_)))
              first
                | (exfalso; simp_all; done)
                | (have hA : ¬ (checkA h.src ≠ 0 ∨ checkA h.dst ≠ 0 ∨ h.src.v6 ≠ h.dst.v6 ∨ (bif h.src.v6 then 1048575 else 65535) < h.id) := by simp_all
                   have hB : ¬ (midN h.proto = 0 ∧ (h.srcPort ≠ 0 ∨ h.dstPort ≠ 0) ∨ h.proto ≠ 6 ∧ (h.flags ≠ 0 ∨ h.seq ≠ 0)) := by
                     intro hc
                     rcases hc with hc | hc <;> simp_all
                   unfold checkH
                   rw [if_neg hA, if_neg hB]
                   first
                     | (rw [if_pos (by omega)]; rfl)
                     | (rw [if_neg (by omega)]; rfl))
    · try simp only [Gx.nb] at h1
      refine sg (co (fA 17 (.t rfl)) ?_)
      refine co (Ev.ldx h.dst ty37 (.t rfl) SHeader.l_dst) ?_
      refine cons (callv en34 (.cons (.t rfl) .nil) (fun w I => checkA_ok _ w) ?_)
      refine co (Ev.neq_i (.t rfl) (.c (v := I 0) rfl)) ?_
      refine asn rfl (nP ?_)
      first | refine condD rfl (fun h2 => ?_) (fun h2 => ?_) | refine cond rfl (fun h2 => ?_) (fun h2 => ?_)
      · try simp only [Gx.nb] at h2
        refine skip (pN ?_)
        first | refine condD rfl (fun h4 => ?_) (fun h4 => ?_) | refine cond rfl (fun h4 => ?_) (fun h4 => ?_)
        · try simp only [Gx.nb] at h4
          refine sg (co (Ev.assign (.c (v := I 2) rfl)) ?_)
          refine nP (ret (bR (pR (done rfl (.tmp rfl .nil) (retE ?_)))))
          unfold checkH
          first
            | (simp_all; done)
            | (have hA : ¬ (checkA h.src ≠ 0 ∨ checkA h.dst ≠ 0 ∨ h.src.v6 ≠ h.dst.v6 ∨ (bif h.src.v6 then 1048575 else 65535) < h.id) := by simp_all
               rw [if_neg hA]
               simp_all; done)
        · try simp only [Gx.nb] at h4
          refine seq (sg (mv rfl (co (Ev.eql_i (.t rfl) (.c (v := I 0) rfl)) ?_)))
          refine mv rfl (cg rfl rfl (fA 35 (.t rfl)) ?_)
          refine cg rfl rfl (Ev.ldx h.srcPort ty38 (.g rfl id) SHeader.l_srcPort) ?_
          refine cg rfl rfl (Ev.neq_u16 (.g rfl id) (.c (v := U16 0) rfl)) ?_
          refine cg rfl rfl (Ev.move (.g rfl id)) ?_
          refine cg rfl rfl (fA 36 (.t rfl)) ?_
          refine cg rfl rfl (Ev.ldx h.dstPort ty38 (.g rfl id) SHeader.l_dstPort) ?_
          refine cg rfl rfl (Ev.neq_u16 (.g rfl id) (.c (v := U16 0) rfl)) ?_
          refine cg rfl rfl (Ev.pkO (.g rfl id) rfl) ?_
          refine co (Ev.pkA (.t rfl) rfl) ?_
          refine asn rfl (nP ?_)
          first | refine condD rfl (fun h5 => ?_) (fun h5 => ?_) | refine cond rfl (fun h5 => ?_) (fun h5 => ?_)
          · try simp only [Gx.nb] at h5
            refine skip (pN ?_)
            first | refine condD rfl (fun h6 => ?_) (fun h6 => ?_) | refine cond rfl (fun h6 => ?_) (fun h6 => ?_)
            · try simp only [Gx.nb] at h6
              refine sg (co (Ev.assign (.c (v := I 2) rfl)) ?_)
              refine nP (ret (bR (pR (done rfl (.tmp rfl .nil) (retE ?_)))))
              unfold checkH
              first
                | (simp_all; done)
                | (have hA : ¬ (checkA h.src ≠ 0 ∨ checkA h.dst ≠ 0 ∨ h.src.v6 ≠ h.dst.v6 ∨ (bif h.src.v6 then 1048575 else 65535) < h.id) := by simp_all
                   rw [if_neg hA]
                   simp_all; done)
            · try simp only [Gx.nb] at h6
              refine seq (draw' (by kernel_rfl) ?_)
              refine tk 0 rfl (Ev.ldx h ty42 (.t rfl) (Lens.id _)) ?_
              refine tk 2 rfl (Ev.move (.t rfl)) ?_
              refine tk 4 rfl (fA 42 (.t rfl)) ?_
              refine tk 5 rfl (Ev.ldx h.data ty40 (.t rfl) SHeader.l_data) ?_
              refine tk 6 rfl (Ev.len Try.underlying40 (.t rfl) (fun w I => hd.keep0 I.keeps)) ?_
              refine al1 1 rfl ((callv en47 (.cons (.t rfl) .nil) (fun w I => front_ok _ w) ?_))
              refine hdn (tk 3 rfl (Ev.add_i (.t rfl) (.t rfl) (fun _ => by omega)) ?_)
              refine tk 7 rfl (Ev.add_i (.t rfl) (.t rfl) (fun _ => by omega)) ?_
              refine tk 8 rfl (Ev.gtr_i (.t rfl) (.c (v := I 2048) rfl)) ?_
              refine tk 9 rfl (Ev.assign (.t rfl)) ?_
              refine ovr (pN ?_)
              first | refine condD rfl (fun h7 => ?_) (fun h7 => ?_) | refine cond rfl (fun h7 => ?_) (fun h7 => ?_)
              · try simp only [Gx.nb] at h7
                refine sg (co (Ev.assign (.c (v := I 4) rfl)) ?_)
                refine nP (ret (bR (pR (done rfl (.tmp rfl .nil) (retE ?_)))))
                first
                  | (exfalso; simp_all; done)
                  | (have hA : ¬ (checkA h.src ≠ 0 ∨ checkA h.dst ≠ 0 ∨ h.src.v6 ≠ h.dst.v6 ∨ (bif h.src.v6 then 1048575 else 65535) < h.id) := by simp_all
                     have hB : ¬ (midN h.proto = 0 ∧ (h.srcPort ≠ 0 ∨ h.dstPort ≠ 0) ∨ h.proto ≠ 6 ∧ (h.flags ≠ 0 ∨ h.seq ≠ 0)) := by
                       intro hc
                       rcases hc with hc | hc <;> simp_all
                     unfold checkH
                     rw [if_neg hA, if_neg hB]
                     first
                       | (rw [if_pos (by omega)]; rfl)
                       | (rw [if_neg (by omega)]; rfl))
              · try simp only [Gx.nb] at h7
                refine skip (bN (pN (sg (co (Ev.assign (.c (v := I 0) rfl)) ?_))))
                refine nP (ret (done rfl (.tmp rfl .nil) (retE ?_)))
                first
                  | (exfalso; simp_all; done)
                  | (have hA : ¬ (checkA h.src ≠ 0 ∨ checkA h.dst ≠ 0 ∨ h.src.v6 ≠ h.dst.v6 ∨ (bif h.src.v6 then 1048575 else 65535) < h.id) := by simp_all
                     have hB : ¬ (midN h.proto = 0 ∧ (h.srcPort ≠ 0 ∨ h.dstPort ≠ 0) ∨ h.proto ≠ 6 ∧ (h.flags ≠ 0 ∨ h.seq ≠ 0)) := by
                       intro hc
                       rcases hc with hc | hc <;> simp_all
                     unfold checkH
                     rw [if_neg hA, if_neg hB]
                     first
                       | (rw [if_pos (by omega)]; rfl)
                       | (rw [if_neg (by omega)]; rfl))
          · try simp only [Gx.nb] at h5
            refine region (co (fA 34 (.t rfl)) ?_)
            refine co (Ev.ldx h.proto ty5 (.t rfl) SHeader.l_proto) ?_
            refine co (Ev.neq_u8 (.t rfl) (.c (v := U8 6) rfl)) ?_
            refine mv rfl (cg rfl rfl (fA 40 (.t rfl)) ?_)
            refine cg rfl rfl (Ev.ldx h.flags ty5 (.g rfl id) SHeader.l_flags) ?_
            refine cg rfl rfl (Ev.neq_u8 (.g rfl id) (.c (v := U8 0) rfl)) ?_
            refine cg rfl rfl (Ev.move (.g rfl id)) ?_
            refine cg rfl rfl (fA 41 (.t rfl)) ?_
            refine cg rfl rfl (Ev.ldx h.seq ty39 (.g rfl id) SHeader.l_seq) ?_
            refine cg rfl rfl (Ev.neq_u32 (.g rfl id) (.c (v := U32 0) rfl)) ?_
            refine cg rfl rfl (Ev.pkO (.g rfl id) rfl) ?_
            refine co (Ev.pkA (.t rfl) rfl) ?_
            refine asn rfl (nP ?_)
            first | refine condD rfl (fun h6 => ?_) (fun h6 => ?_) | refine cond rfl (fun h6 => ?_) (fun h6 => ?_)
            · try simp only [Gx.nb] at h6
              refine sg (co (Ev.assign (.c (v := I 2) rfl)) ?_)
              refine nP (ret (bR (pR (done rfl (.tmp rfl .nil) (retE ?_)))))
              unfold checkH
              first
                | (simp_all; done)
                | (have hA : ¬ (checkA h.src ≠ 0 ∨ checkA h.dst ≠ 0 ∨ h.src.v6 ≠ h.dst.v6 ∨ (bif h.src.v6 then 1048575 else 65535) < h.id) := by simp_all
                   rw [if_neg hA]
                   simp_all; done)
            · try simp only [Gx.nb] at h6
              refine seq (draw' (by kernel_rfl) ?_)
              refine tk 0 rfl (Ev.ldx h ty42 (.t rfl) (Lens.id _)) ?_
              refine tk 2 rfl (Ev.move (.t rfl)) ?_
              refine tk 4 rfl (fA 42 (.t rfl)) ?_
              refine tk 5 rfl (Ev.ldx h.data ty40 (.t rfl) SHeader.l_data) ?_
              refine tk 6 rfl (Ev.len Try.underlying40 (.t rfl) (fun w I => hd.keep0 I.keeps)) ?_
              refine al1 1 rfl ((callv en47 (.cons (.t rfl) .nil) (fun w I => front_ok _ w) ?_))
              refine hdn (tk 3 rfl (Ev.add_i (.t rfl) (.t rfl) (fun _ => by omega)) ?_)
              refine tk 7 rfl (Ev.add_i (.t rfl) (.t rfl) (fun _ => by omega)) ?_
              refine tk 8 rfl (Ev.gtr_i (.t rfl) (.c (v := I 2048) rfl)) ?_
              refine tk 9 rfl (Ev.assign (.t rfl)) ?_
              refine ovr (pN ?_)
              first | refine condD rfl (fun h7 => ?_) (fun h7 => ?_) | refine cond rfl (fun h7 => ?_) (fun h7 => ?_)
              · try simp only [Gx.nb] at h7
                refine sg (co (Ev.assign (.c (v := I 4) rfl)) ?_)
                refine nP (ret (bR (pR (done rfl (.tmp rfl .nil) (retE ?_)))))
                first
                  | (exfalso; simp_all; done)
                  | (have hA : ¬ (checkA h.src ≠ 0 ∨ checkA h.dst ≠ 0 ∨ h.src.v6 ≠ h.dst.v6 ∨ (bif h.src.v6 then 1048575 else 65535) < h.id) := by simp_all
                     have hB : ¬ (midN h.proto = 0 ∧ (h.srcPort ≠ 0 ∨ h.dstPort ≠ 0) ∨ h.proto ≠ 6 ∧ (h.flags ≠ 0 ∨ h.seq ≠ 0)) := by
                       intro hc
                       rcases hc with hc | hc <;> simp_all
                     unfold checkH
                     rw [if_neg hA, if_neg hB]
                     first
                       | (rw [if_pos (by omega)]; rfl)
                       | (rw [if_neg (by omega)]; rfl))
              · try simp only [Gx.nb] at h7
                refine skip (bN (pN (sg (co (Ev.assign (.c (v := I 0) rfl)) ?_))))
                refine nP (ret (done rfl (.tmp rfl .nil) (retE ?_)))
                first
                  | (exfalso; simp_all; done)
                  | (have hA : ¬ (checkA h.src ≠ 0 ∨ checkA h.dst ≠ 0 ∨ h.src.v6 ≠ h.dst.v6 ∨ (bif h.src.v6 then 1048575 else 65535) < h.id) := by simp_all
                     have hB : ¬ (midN h.proto = 0 ∧ (h.srcPort ≠ 0 ∨ h.dstPort ≠ 0) ∨ h.proto ≠ 6 ∧ (h.flags ≠ 0 ∨ h.seq ≠ 0)) := by
                       intro hc
                       rcases hc with hc | hc <;> simp_all
                     unfold checkH
                     rw [if_neg hA, if_neg hB]
                     first
                       | (rw [if_pos (by omega)]; rfl)
                       | (rw [if_neg (by omega)]; rfl))
      · try simp only [Gx.nb] at h2
        refine sg (co (fA 0 (.t rfl)) ?_)
        refine co (fA 0 (.t rfl)) ?_
        refine co (Ev.ldx h.src.v6 ty4 (.t rfl) (Lens.comp SHeader.l_src SAddr.l_v6)) ?_
        refine co (fA 17 (.t rfl)) ?_
        refine co (fA 0 (.t rfl)) ?_
        refine co (Ev.ldx h.dst.v6 ty4 (.t rfl) (Lens.comp SHeader.l_dst SAddr.l_v6)) ?_
        refine co (Ev.neq_b Try.underlying4 (.t rfl) (.t rfl)) ?_
        refine asn rfl (nP ?_)
        first | refine condD rfl (fun h3 => ?_) (fun h3 => ?_) | refine cond rfl (fun h3 => ?_) (fun h3 => ?_)
        · try simp only [Gx.nb] at h3
          refine skip (pN ?_)
          first | refine condD rfl (fun h4 => ?_) (fun h4 => ?_) | refine cond rfl (fun h4 => ?_) (fun h4 => ?_)
          · try simp only [Gx.nb] at h4
            refine sg (co (Ev.assign (.c (v := I 2) rfl)) ?_)
            refine nP (ret (bR (pR (done rfl (.tmp rfl .nil) (retE ?_)))))
            unfold checkH
            first
              | (simp_all; done)
              | (have hA : ¬ (checkA h.src ≠ 0 ∨ checkA h.dst ≠ 0 ∨ h.src.v6 ≠ h.dst.v6 ∨ (bif h.src.v6 then 1048575 else 65535) < h.id) := by simp_all
                 rw [if_neg hA]
                 simp_all; done)
          · try simp only [Gx.nb] at h4
            refine seq (sg (mv rfl (co (Ev.eql_i (.t rfl) (.c (v := I 0) rfl)) ?_)))
            refine mv rfl (cg rfl rfl (fA 35 (.t rfl)) ?_)
            refine cg rfl rfl (Ev.ldx h.srcPort ty38 (.g rfl id) SHeader.l_srcPort) ?_
            refine cg rfl rfl (Ev.neq_u16 (.g rfl id) (.c (v := U16 0) rfl)) ?_
            refine cg rfl rfl (Ev.move (.g rfl id)) ?_
            refine cg rfl rfl (fA 36 (.t rfl)) ?_
            refine cg rfl rfl (Ev.ldx h.dstPort ty38 (.g rfl id) SHeader.l_dstPort) ?_
            refine cg rfl rfl (Ev.neq_u16 (.g rfl id) (.c (v := U16 0) rfl)) ?_
            refine cg rfl rfl (Ev.pkO (.g rfl id) rfl) ?_
            refine co (Ev.pkA (.t rfl) rfl) ?_
            refine asn rfl (nP ?_)
            first | refine condD rfl (fun h5 => ?_) (fun h5 => ?_) | refine cond rfl (fun h5 => ?_) (fun h5 => ?_)
            · try simp only [Gx.nb] at h5
              refine skip (pN ?_)
              first | refine condD rfl (fun h6 => ?_) (fun h6 => ?_) | refine cond rfl (fun h6 => ?_) (fun h6 => ?_)
              · try simp only [Gx.nb] at h6
                refine sg (co (Ev.assign (.c (v := I 2) rfl)) ?_)
                refine nP (ret (bR (pR (done rfl (.tmp rfl .nil) (retE ?_)))))
                unfold checkH
                first
                  | (simp_all; done)
                  | (have hA : ¬ (checkA h.src ≠ 0 ∨ checkA h.dst ≠ 0 ∨ h.src.v6 ≠ h.dst.v6 ∨ (bif h.src.v6 then 1048575 else 65535) < h.id) := by simp_all
                     rw [if_neg hA]
                     simp_all; done)
              · try simp only [Gx.nb] at h6
                refine seq (draw' (by kernel_rfl) ?_)
                refine tk 0 rfl (Ev.ldx h ty42 (.t rfl) (Lens.id _)) ?_
                refine tk 2 rfl (Ev.move (.t rfl)) ?_
                refine tk 4 rfl (fA 42 (.t rfl)) ?_
                refine tk 5 rfl (Ev.ldx h.data ty40 (.t rfl) SHeader.l_data) ?_
                refine tk 6 rfl (Ev.len Try.underlying40 (.t rfl) (fun w I => hd.keep0 I.keeps)) ?_
                refine al1 1 rfl ((callv en47 (.cons (.t rfl) .nil) (fun w I => front_ok _ w) ?_))
                refine hdn (tk 3 rfl (Ev.add_i (.t rfl) (.t rfl) (fun _ => by omega)) ?_)
                refine tk 7 rfl (Ev.add_i (.t rfl) (.t rfl) (fun _ => by omega)) ?_
                refine tk 8 rfl (Ev.gtr_i (.t rfl) (.c (v := I 2048) rfl)) ?_
                refine tk 9 rfl (Ev.assign (.t rfl)) ?_
                refine ovr (pN ?_)
                first | refine condD rfl (fun h7 => ?_) (fun h7 => ?_) | refine cond rfl (fun h7 => ?_) (fun h7 => ?_)
                · try simp only [Gx.nb] at h7
                  refine sg (co (Ev.assign (.c (v := I 4) rfl)) ?_)
                  refine nP (ret (bR (pR (done rfl (.tmp rfl .nil) (retE ?_)))))
                  first
                    | (exfalso; simp_all; done)
                    | (have hA : ¬ (checkA h.src ≠ 0 ∨ checkA h.dst ≠ 0 ∨ h.src.v6 ≠ h.dst.v6 ∨ (bif h.src.v6 then 1048575 else 65535) < h.id) := by simp_all
                       have hB : ¬ (midN h.proto = 0 ∧ (h.srcPort ≠ 0 ∨ h.dstPort ≠ 0) ∨ h.proto ≠ 6 ∧ (h.flags ≠ 0 ∨ h.seq ≠ 0)) := by
                         intro hc
                         rcases hc with hc | hc <;> simp_all
                       unfold checkH
                       rw [if_neg hA, if_neg hB]
                       first
                         | (rw [if_pos (by omega)]; rfl)
                         | (rw [if_neg (by omega)]; rfl))
                · try simp only [Gx.nb] at h7
                  refine skip (bN (pN (sg (co (Ev.assign (.c (v := I 0) rfl)) ?_))))
                  refine nP (ret (done rfl (.tmp rfl .nil) (retE ?_)))
                  first
                    | (exfalso; simp_all; done)
                    | (have hA : ¬ (checkA h.src ≠ 0 ∨ checkA h.dst ≠ 0 ∨ h.src.v6 ≠ h.dst.v6 ∨ (bif h.src.v6 then 1048575 else 65535) < h.id) := by simp_all
                       have hB : ¬ (midN h.proto = 0 ∧ (h.srcPort ≠ 0 ∨ h.dstPort ≠ 0) ∨ h.proto ≠ 6 ∧ (h.flags ≠ 0 ∨ h.seq ≠ 0)) := by
                         intro hc
                         rcases hc with hc | hc <;> simp_all
                       unfold checkH
                       rw [if_neg hA, if_neg hB]
                       first
                         | (rw [if_pos (by omega)]; rfl)
                         | (rw [if_neg (by omega)]; rfl))
            · try simp only [Gx.nb] at h5
              refine region (co (fA 34 (.t rfl)) ?_)
              refine co (Ev.ldx h.proto ty5 (.t rfl) SHeader.l_proto) ?_
              refine co (Ev.neq_u8 (.t rfl) (.c (v := U8 6) rfl)) ?_
              refine mv rfl (cg rfl rfl (fA 40 (.t rfl)) ?_)
              refine cg rfl rfl (Ev.ldx h.flags ty5 (.g rfl id) SHeader.l_flags) ?_
              refine cg rfl rfl (Ev.neq_u8 (.g rfl id) (.c (v := U8 0) rfl)) ?_
              refine cg rfl rfl (Ev.move (.g rfl id)) ?_
              refine cg rfl rfl (fA 41 (.t rfl)) ?_
              refine cg rfl rfl (Ev.ldx h.seq ty39 (.g rfl id) SHeader.l_seq) ?_
              refine cg rfl rfl (Ev.neq_u32 (.g rfl id) (.c (v := U32 0) rfl)) ?_
              refine cg rfl rfl (Ev.pkO (.g rfl id) rfl) ?_
              refine co (Ev.pkA (.t rfl) rfl) ?_
              refine asn rfl (nP ?_)
              first | refine condD rfl (fun h6 => ?_) (fun h6 => ?_) | refine cond rfl (fun h6 => ?_) (fun h6 => ?_)
              · try simp only [Gx.nb] at h6
                refine sg (co (Ev.assign (.c (v := I 2) rfl)) ?_)
                refine nP (ret (bR (pR (done rfl (.tmp rfl .nil) (retE ?_)))))
                unfold checkH
                first
                  | (simp_all; done)
                  | (have hA : ¬ (checkA h.src ≠ 0 ∨ checkA h.dst ≠ 0 ∨ h.src.v6 ≠ h.dst.v6 ∨ (bif h.src.v6 then 1048575 else 65535) < h.id) := by simp_all
                     rw [if_neg hA]
                     simp_all; done)
              · try simp only [Gx.nb] at h6
                refine seq (draw' (by kernel_rfl) ?_)
                refine tk 0 rfl (Ev.ldx h ty42 (.t rfl) (Lens.id _)) ?_
                refine tk 2 rfl (Ev.move (.t rfl)) ?_
                refine tk 4 rfl (fA 42 (.t rfl)) ?_
                refine tk 5 rfl (Ev.ldx h.data ty40 (.t rfl) SHeader.l_data) ?_
                refine tk 6 rfl (Ev.len Try.underlying40 (.t rfl) (fun w I => hd.keep0 I.keeps)) ?_
                refine al1 1 rfl ((callv en47 (.cons (.t rfl) .nil) (fun w I => front_ok _ w) ?_))
                refine hdn (tk 3 rfl (Ev.add_i (.t rfl) (.t rfl) (fun _ => by omega)) ?_)
                refine tk 7 rfl (Ev.add_i (.t rfl) (.t rfl) (fun _ => by omega)) ?_
                refine tk 8 rfl (Ev.gtr_i (.t rfl) (.c (v := I 2048) rfl)) ?_
                refine tk 9 rfl (Ev.assign (.t rfl)) ?_
                refine ovr (pN ?_)
                first | refine condD rfl (fun h7 => ?_) (fun h7 => ?_) | refine cond rfl (fun h7 => ?_) (fun h7 => ?_)
                · try simp only [Gx.nb] at h7
                  refine sg (co (Ev.assign (.c (v := I 4) rfl)) ?_)
                  refine nP (ret (bR (pR (done rfl (.tmp rfl .nil) (retE ?_)))))
                  first
                    | (exfalso; simp_all; done)
                    | (have hA : ¬ (checkA h.src ≠ 0 ∨ checkA h.dst ≠ 0 ∨ h.src.v6 ≠ h.dst.v6 ∨ (bif h.src.v6 then 1048575 else 65535) < h.id) := by simp_all
                       have hB : ¬ (midN h.proto = 0 ∧ (h.srcPort ≠ 0 ∨ h.dstPort ≠ 0) ∨ h.proto ≠ 6 ∧ (h.flags ≠ 0 ∨ h.seq ≠ 0)) := by
                         intro hc
                         rcases hc with hc | hc <;> simp_all
                       unfold checkH
                       rw [if_neg hA, if_neg hB]
                       first
                         | (rw [if_pos (by omega)]; rfl)
                         | (rw [if_neg (by omega)]; rfl))
                · try simp only [Gx.nb] at h7
                  refine skip (bN (pN (sg (co (Ev.assign (.c (v := I 0) rfl)) ?_))))
                  refine nP (ret (done rfl (.tmp rfl .nil) (retE ?_)))
                  first
                    | (exfalso; simp_all; done)
                    | (have hA : ¬ (checkA h.src ≠ 0 ∨ checkA h.dst ≠ 0 ∨ h.src.v6 ≠ h.dst.v6 ∨ (bif h.src.v6 then 1048575 else 65535) < h.id) := by simp_all
                       have hB : ¬ (midN h.proto = 0 ∧ (h.srcPort ≠ 0 ∨ h.dstPort ≠ 0) ∨ h.proto ≠ 6 ∧ (h.flags ≠ 0 ∨ h.seq ≠ 0)) := by
                         intro hc
                         rcases hc with hc | hc <;> simp_all
                       unfold checkH
                       rw [if_neg hA, if_neg hB]
                       first
                         | (rw [if_pos (by omega)]; rfl)
                         | (rw [if_neg (by omega)]; rfl))
        · try simp only [Gx.nb] at h3
          refine region (co (fA 39 (.t rfl)) ?_)
          refine co (Ev.ldx h.id ty39 (.t rfl) SHeader.l_id) ?_
          refine mv rfl (co (Ev.gtr_u32 (.t rfl) (.t rfl)) ?_)
          refine asn rfl (nP ?_)
          first | refine condD rfl (fun h4 => ?_) (fun h4 => ?_) | refine cond rfl (fun h4 => ?_) (fun h4 => ?_)
          · try simp only [Gx.nb] at h4
            refine sg (co (Ev.assign (.c (v := I 2) rfl)) ?_)
            refine nP (ret (bR (pR (done rfl (.tmp rfl .nil) (retE ?_)))))
            unfold checkH
            first
              | (simp_all; done)
              | (have hA : ¬ (checkA h.src ≠ 0 ∨ checkA h.dst ≠ 0 ∨ h.src.v6 ≠ h.dst.v6 ∨ (bif h.src.v6 then 1048575 else 65535) < h.id) := by simp_all
                 rw [if_neg hA]
                 simp_all; done)
          · try simp only [Gx.nb] at h4
            refine seq (sg (mv rfl (co (Ev.eql_i (.t rfl) (.c (v := I 0) rfl)) ?_)))
            refine mv rfl (cg rfl rfl (fA 35 (.t rfl)) ?_)
            refine cg rfl rfl (Ev.ldx h.srcPort ty38 (.g rfl id) SHeader.l_srcPort) ?_
            refine cg rfl rfl (Ev.neq_u16 (.g rfl id) (.c (v := U16 0) rfl)) ?_
            refine cg rfl rfl (Ev.move (.g rfl id)) ?_
            refine cg rfl rfl (fA 36 (.t rfl)) ?_
            refine cg rfl rfl (Ev.ldx h.dstPort ty38 (.g rfl id) SHeader.l_dstPort) ?_
            refine cg rfl rfl (Ev.neq_u16 (.g rfl id) (.c (v := U16 0) rfl)) ?_
            refine cg rfl rfl (Ev.pkO (.g rfl id) rfl) ?_
            refine co (Ev.pkA (.t rfl) rfl) ?_
            refine asn rfl (nP ?_)
            first | refine condD rfl (fun h5 => ?_) (fun h5 => ?_) | refine cond rfl (fun h5 => ?_) (fun h5 => ?_)
            · try simp only [Gx.nb] at h5
              refine skip (pN ?_)
              first | refine condD rfl (fun h6 => ?_) (fun h6 => ?_) | refine cond rfl (fun h6 => ?_) (fun h6 => ?_)
              · try simp only [Gx.nb] at h6
                refine sg (co (Ev.assign (.c (v := I 2) rfl)) ?_)
                refine nP (ret (bR (pR (done rfl (.tmp rfl .nil) (retE ?_)))))
                unfold checkH
                first
                  | (simp_all; done)
                  | (have hA : ¬ (checkA h.src ≠ 0 ∨ checkA h.dst ≠ 0 ∨ h.src.v6 ≠ h.dst.v6 ∨ (bif h.src.v6 then 1048575 else 65535) < h.id) := by simp_all
                     rw [if_neg hA]
                     simp_all; done)
              · try simp only [Gx.nb] at h6
                refine seq (draw' (by kernel_rfl) ?_)
                refine tk 0 rfl (Ev.ldx h ty42 (.t rfl) (Lens.id _)) ?_
                refine tk 2 rfl (Ev.move (.t rfl)) ?_
                refine tk 4 rfl (fA 42 (.t rfl)) ?_
                refine tk 5 rfl (Ev.ldx h.data ty40 (.t rfl) SHeader.l_data) ?_
                refine tk 6 rfl (Ev.len Try.underlying40 (.t rfl) (fun w I => hd.keep0 I.keeps)) ?_
                refine al1 1 rfl ((callv en47 (.cons (.t rfl) .nil) (fun w I => front_ok _ w) ?_))
                refine hdn (tk 3 rfl (Ev.add_i (.t rfl) (.t rfl) (fun _ => by omega)) ?_)
                refine tk 7 rfl (Ev.add_i (.t rfl) (.t rfl) (fun _ => by omega)) ?_
                refine tk 8 rfl (Ev.gtr_i (.t rfl) (.c (v := I 2048) rfl)) ?_
                refine tk 9 rfl (Ev.assign (.t rfl)) ?_
                refine ovr (pN ?_)
                first | refine condD rfl (fun h7 => ?_) (fun h7 => ?_) | refine cond rfl (fun h7 => ?_) (fun h7 => ?_)
                · try simp only [Gx.nb] at h7
                  refine sg (co (Ev.assign (.c (v := I 4) rfl)) ?_)
                  refine nP (ret (bR (pR (done rfl (.tmp rfl .nil) (retE ?_)))))
                  first
                    | (exfalso; simp_all; done)
                    | (have hA : ¬ (checkA h.src ≠ 0 ∨ checkA h.dst ≠ 0 ∨ h.src.v6 ≠ h.dst.v6 ∨ (bif h.src.v6 then 1048575 else 65535) < h.id) := by simp_all
                       have hB : ¬ (midN h.proto = 0 ∧ (h.srcPort ≠ 0 ∨ h.dstPort ≠ 0) ∨ h.proto ≠ 6 ∧ (h.flags ≠ 0 ∨ h.seq ≠ 0)) := by
                         intro hc
                         rcases hc with hc | hc <;> simp_all
                       unfold checkH
                       rw [if_neg hA, if_neg hB]
                       first
                         | (rw [if_pos (by omega)]; rfl)
                         | (rw [if_neg (by omega)]; rfl))
                · try simp only [Gx.nb] at h7
                  refine skip (bN (pN (sg (co (Ev.assign (.c (v := I 0) rfl)) ?_))))
                  refine nP (ret (done rfl (.tmp rfl .nil) (retE ?_)))
                  first
                    | (exfalso; simp_all; done)
                    | (have hA : ¬ (checkA h.src ≠ 0 ∨ checkA h.dst ≠ 0 ∨ h.src.v6 ≠ h.dst.v6 ∨ (bif h.src.v6 then 1048575 else 65535) < h.id) := by simp_all
                       have hB : ¬ (midN h.proto = 0 ∧ (h.srcPort ≠ 0 ∨ h.dstPort ≠ 0) ∨ h.proto ≠ 6 ∧ (h.flags ≠ 0 ∨ h.seq ≠ 0)) := by
                         intro hc
                         rcases hc with hc | hc <;> simp_all
                       unfold checkH
                       rw [if_neg hA, if_neg hB]
                       first
                         | (rw [if_pos (by omega)]; rfl)
                         | (rw [if_neg (by omega)]; rfl))
            · try simp only [Gx.nb] at h5
              refine region (co (fA 34 (.t rfl)) ?_)
              refine co (Ev.ldx h.proto ty5 (.t rfl) SHeader.l_proto) ?_
              refine co (Ev.neq_u8 (.t rfl) (.c (v := U8 6) rfl)) ?_
              refine mv rfl (cg rfl rfl (fA 40 (.t rfl)) ?_)
              refine cg rfl rfl (Ev.ldx h.flags ty5 (.g rfl id) SHeader.l_flags) ?_
              refine cg rfl rfl (Ev.neq_u8 (.g rfl id) (.c (v := U8 0) rfl)) ?_
              refine cg rfl rfl (Ev.move (.g rfl id)) ?_
              refine cg rfl rfl (fA 41 (.t rfl)) ?_
              refine cg rfl rfl (Ev.ldx h.seq ty39 (.g rfl id) SHeader.l_seq) ?_
              refine cg rfl rfl (Ev.neq_u32 (.g rfl id) (.c (v := U32 0) rfl)) ?_
              refine cg rfl rfl (Ev.pkO (.g rfl id) rfl) ?_
              refine co (Ev.pkA (.t rfl) rfl) ?_
              refine asn rfl (nP ?_)
              first | refine condD rfl (fun h6 => ?_) (fun h6 => ?_) | refine cond rfl (fun h6 => ?_) (fun h6 => ?_)
              · try simp only [Gx.nb] at h6
                refine sg (co (Ev.assign (.c (v := I 2) rfl)) ?_)
                refine nP (ret (bR (pR (done rfl (.tmp rfl .nil) (retE ?_)))))
                unfold checkH
                first
                  | (simp_all; done)
                  | (have hA : ¬ (checkA h.src ≠ 0 ∨ checkA h.dst ≠ 0 ∨ h.src.v6 ≠ h.dst.v6 ∨ (bif h.src.v6 then 1048575 else 65535) < h.id) := by simp_all
                     rw [if_neg hA]
                     simp_all; done)
              · try simp only [Gx.nb] at h6
                refine seq (draw' (by kernel_rfl) ?_)
                refine tk 0 rfl (Ev.ldx h ty42 (.t rfl) (Lens.id _)) ?_
                refine tk 2 rfl (Ev.move (.t rfl)) ?_
                refine tk 4 rfl (fA 42 (.t rfl)) ?_
                refine tk 5 rfl (Ev.ldx h.data ty40 (.t rfl) SHeader.l_data) ?_
                refine tk 6 rfl (Ev.len Try.underlying40 (.t rfl) (fun w I => hd.keep0 I.keeps)) ?_
                refine al1 1 rfl ((callv en47 (.cons (.t rfl) .nil) (fun w I => front_ok _ w) ?_))
                refine hdn (tk 3 rfl (Ev.add_i (.t rfl) (.t rfl) (fun _ => by omega)) ?_)
                refine tk 7 rfl (Ev.add_i (.t rfl) (.t rfl) (fun _ => by omega)) ?_
                refine tk 8 rfl (Ev.gtr_i (.t rfl) (.c (v := I 2048) rfl)) ?_
                refine tk 9 rfl (Ev.assign (.t rfl)) ?_
                refine ovr (pN ?_)
                first | refine condD rfl (fun h7 => ?_) (fun h7 => ?_) | refine cond rfl (fun h7 => ?_) (fun h7 => ?_)
                · try simp only [Gx.nb] at h7
                  refine sg (co (Ev.assign (.c (v := I 4) rfl)) ?_)
                  refine nP (ret (bR (pR (done rfl (.tmp rfl .nil) (retE ?_)))))
                  first
                    | (exfalso; simp_all; done)
                    | (have hA : ¬ (checkA h.src ≠ 0 ∨ checkA h.dst ≠ 0 ∨ h.src.v6 ≠ h.dst.v6 ∨ (bif h.src.v6 then 1048575 else 65535) < h.id) := by simp_all
                       have hB : ¬ (midN h.proto = 0 ∧ (h.srcPort ≠ 0 ∨ h.dstPort ≠ 0) ∨ h.proto ≠ 6 ∧ (h.flags ≠ 0 ∨ h.seq ≠ 0)) := by
                         intro hc
                         rcases hc with hc | hc <;> simp_all
                       unfold checkH
                       rw [if_neg hA, if_neg hB]
                       first
                         | (rw [if_pos (by omega)]; rfl)
                         | (rw [if_neg (by omega)]; rfl))
                · try simp only [Gx.nb] at h7
                  refine skip (bN (pN (sg (co (Ev.assign (.c (v := I 0) rfl)) ?_))))
                  refine nP (ret (done rfl (.tmp rfl .nil) (retE ?_)))
                  first
                    | (exfalso; simp_all; done)
                    | (have hA : ¬ (checkA h.src ≠ 0 ∨ checkA h.dst ≠ 0 ∨ h.src.v6 ≠ h.dst.v6 ∨ (bif h.src.v6 then 1048575 else 65535) < h.id) := by simp_all
                       have hB : ¬ (midN h.proto = 0 ∧ (h.srcPort ≠ 0 ∨ h.dstPort ≠ 0) ∨ h.proto ≠ 6 ∧ (h.flags ≠ 0 ∨ h.seq ≠ 0)) := by
                         intro hc
                         rcases hc with hc | hc <;> simp_all
                       unfold checkH
                       rw [if_neg hA, if_neg hB]
                       first
                         | (rw [if_pos (by omega)]; rfl)
                         | (rw [if_neg (by omega)]; rfl))
  · try simp only [Gx.nb] at h0
    refine skip (pN (sg (co (fA 34 (.t rfl)) ?_)))
    refine co (Ev.ldx h.proto ty5 (.t rfl) SHeader.l_proto) ?_
    refine cons (callv en46 (.cons (.t rfl) .nil) (fun w I => middle_ok _ w) ?_)
    refine asn rfl (nP (seq (block (seq (sg (co (fA 0 (.t rfl)) ?_))))))
    refine co (Ev.ldx h.src ty37 (.t rfl) SHeader.l_src) ?_
    refine cons (callv en34 (.cons (.t rfl) .nil) (fun w I => checkA_ok _ w) ?_)
    refine co (Ev.neq_i (.t rfl) (.c (v := I 0) rfl)) ?_
    refine asn rfl (nP ?_)
    first | refine condD rfl (fun h1 => ?_) (fun h1 => ?_) | refine cond rfl (fun h1 => ?_) (fun h1 => ?_)
    · try simp only [Gx.nb] at h1
      refine skip (pN ?_)
      first | refine condD rfl (fun h4 => ?_) (fun h4 => ?_) | refine cond rfl (fun h4 => ?_) (fun h4 => ?_)
      · try simp only [Gx.nb] at h4
        refine sg (co (Ev.assign (.c (v := I 2) rfl)) ?_)
        refine nP (ret (bR (pR (done rfl (.tmp rfl .nil) (retE ?_)))))
        unfold checkH
        first
          | (simp_all; done)
          | (have hA : ¬ (checkA h.src ≠ 0 ∨ checkA h.dst ≠ 0 ∨ h.src.v6 ≠ h.dst.v6 ∨ (bif h.src.v6 then 1048575 else 65535) < h.id) := by simp_all
             rw [if_neg hA]
             simp_all; done)
      · try simp only [Gx.nb] at h4
        refine seq (sg (mv rfl (co (Ev.eql_i (.t rfl) (.c (v := I 0) rfl)) ?_)))
        refine mv rfl (cg rfl rfl (fA 35 (.t rfl)) ?_)
        refine cg rfl rfl (Ev.ldx h.srcPort ty38 (.g rfl id) SHeader.l_srcPort) ?_
        refine cg rfl rfl (Ev.neq_u16 (.g rfl id) (.c (v := U16 0) rfl)) ?_
        refine cg rfl rfl (Ev.move (.g rfl id)) ?_
        refine cg rfl rfl (fA 36 (.t rfl)) ?_
        refine cg rfl rfl (Ev.ldx h.dstPort ty38 (.g rfl id) SHeader.l_dstPort) ?_
        refine cg rfl rfl (Ev.neq_u16 (.g rfl id) (.c (v := U16 0) rfl)) ?_
        refine cg rfl rfl (Ev.pkO (.g rfl id) rfl) ?_
        refine co (Ev.pkA (.t rfl) rfl) ?_
        refine asn rfl (nP ?_)
        first | refine condD rfl (fun h5 => ?_) (fun h5 => ?_) | refine cond rfl (fun h5 => ?_) (fun h5 => ?_)
        · try simp only [Gx.nb] at h5
          refine skip (pN ?_)
          first | refine condD rfl (fun h6 => ?_) (fun h6 => ?_) | refine cond rfl (fun h6 => ?_) (fun h6 => ?_)
          · try simp only [Gx.nb] at h6
            refine sg (co (Ev.assign (.c (v := I 2) rfl)) ?_)
            refine nP (ret (bR (pR (done rfl (.tmp rfl .nil) (retE ?_)))))
            unfold checkH
            first
              | (simp_all; done)
              | (have hA : ¬ (checkA h.src ≠ 0 ∨ checkA h.dst ≠ 0 ∨ h.src.v6 ≠ h.dst.v6 ∨ (bif h.src.v6 then 1048575 else 65535) < h.id) := by simp_all
                 rw [if_neg hA]
                 simp_all; done)
          · try simp only [Gx.nb] at h6
            refine seq (draw' (by kernel_rfl) ?_)
            refine tk 0 rfl (Ev.ldx h ty42 (.t rfl) (Lens.id _)) ?_
            refine tk 2 rfl (Ev.move (.t rfl)) ?_
            refine tk 4 rfl (fA 42 (.t rfl)) ?_
            refine tk 5 rfl (Ev.ldx h.data ty40 (.t rfl) SHeader.l_data) ?_
            refine tk 6 rfl (Ev.len Try.underlying40 (.t rfl) (fun w I => hd.keep0 I.keeps)) ?_
            refine al1 1 rfl ((callv en47 (.cons (.t rfl) .nil) (fun w I => front_ok _ w) ?_))
            refine hdn (tk 3 rfl (Ev.add_i (.t rfl) (.t rfl) (fun _ => by omega)) ?_)
            refine tk 7 rfl (Ev.add_i (.t rfl) (.t rfl) (fun _ => by omega)) ?_
            refine tk 8 rfl (Ev.gtr_i (.t rfl) (.c (v := I 2048) rfl)) ?_
            refine tk 9 rfl (Ev.assign (.t rfl)) ?_
            refine ovr (pN ?_)
            first | refine condD rfl (fun h7 => ?_) (fun h7 => ?_) | refine cond rfl (fun h7 => ?_) (fun h7 => ?_)
            · try simp only [Gx.nb] at h7
              refine sg (co (Ev.assign (.c (v := I 4) rfl)) ?_)
              refine nP (ret (bR (pR (done rfl (.tmp rfl .nil) (retE ?_)))))
              first
                | (exfalso; simp_all; done)
                | (have hA : ¬ (checkA h.src ≠ 0 ∨ checkA h.dst ≠ 0 ∨ h.src.v6 ≠ h.dst.v6 ∨ (bif h.src.v6 then 1048575 else 65535) < h.id) := by simp_all
                   have hB : ¬ (midN h.proto = 0 ∧ (h.srcPort ≠ 0 ∨ h.dstPort ≠ 0) ∨ h.proto ≠ 6 ∧ (h.flags ≠ 0 ∨ h.seq ≠ 0)) := by
                     intro hc
                     rcases hc with hc | hc <;> simp_all
                   unfold checkH
                   rw [if_neg hA, if_neg hB]
                   first
                     | (rw [if_pos (by omega)]; rfl)
                     | (rw [if_neg (by omega)]; rfl))
            · try simp only [Gx.nb] at h7
              refine skip (bN (pN (sg (co (Ev.assign (.c (v := I 0) rfl)) ?_))))
              refine nP (ret (done rfl (.tmp rfl .nil) (retE ?_)))
              first
                | (exfalso; simp_all; done)
                | (have hA : ¬ (checkA h.src ≠ 0 ∨ checkA h.dst ≠ 0 ∨ h.src.v6 ≠ h.dst.v6 ∨ (bif h.src.v6 then 1048575 else 65535) < h.id) := by simp_all
                   have hB : ¬ (midN h.proto = 0 ∧ (h.srcPort ≠ 0 ∨ h.dstPort ≠ 0) ∨ h.proto ≠ 6 ∧ (h.flags ≠ 0 ∨ h.seq ≠ 0)) := by
                     intro hc
                     rcases hc with hc | hc <;> simp_all
                   unfold checkH
                   rw [if_neg hA, if_neg hB]
                   first
                     | (rw [if_pos (by omega)]; rfl)
                     | (rw [if_neg (by omega)]; rfl))
        · try simp only [Gx.nb] at h5
          refine region (co (fA 34 (.t rfl)) ?_)
          refine co (Ev.ldx h.proto ty5 (.t rfl) SHeader.l_proto) ?_
          refine co (Ev.neq_u8 (.t rfl) (.c (v := U8 6) rfl)) ?_
          refine mv rfl (cg rfl rfl (fA 40 (.t rfl)) ?_)
          refine cg rfl rfl (Ev.ldx h.flags ty5 (.g rfl id) SHeader.l_flags) ?_
          refine cg rfl rfl (Ev.neq_u8 (.g rfl id) (.c (v := U8 0) rfl)) ?_
          refine cg rfl rfl (Ev.move (.g rfl id)) ?_
          refine cg rfl rfl (fA 41 (.t rfl)) ?_
          refine cg rfl rfl (Ev.ldx h.seq ty39 (.g rfl id) SHeader.l_seq) ?_
          refine cg rfl rfl (Ev.neq_u32 (.g rfl id) (.c (v := U32 0) rfl)) ?_
          refine cg rfl rfl (Ev.pkO (.g rfl id) rfl) ?_
          refine co (Ev.pkA (.t rfl) rfl) ?_
          refine asn rfl (nP ?_)
          first | refine condD rfl (fun h6 => ?_) (fun h6 => ?_) | refine cond rfl (fun h6 => ?_) (fun h6 => ?_)
          · try simp only [Gx.nb] at h6
            refine sg (co (Ev.assign (.c (v := I 2) rfl)) ?_)
            refine nP (ret (bR (pR (done rfl (.tmp rfl .nil) (retE ?_)))))
            unfold checkH
            first
              | (simp_all; done)
              | (have hA : ¬ (checkA h.src ≠ 0 ∨ checkA h.dst ≠ 0 ∨ h.src.v6 ≠ h.dst.v6 ∨ (bif h.src.v6 then 1048575 else 65535) < h.id) := by simp_all
                 rw [if_neg hA]
                 simp_all; done)
          · try simp only [Gx.nb] at h6
            refine seq (draw' (by kernel_rfl) ?_)
            refine tk 0 rfl (Ev.ldx h ty42 (.t rfl) (Lens.id _)) ?_
            refine tk 2 rfl (Ev.move (.t rfl)) ?_
            refine tk 4 rfl (fA 42 (.t rfl)) ?_
            refine tk 5 rfl (Ev.ldx h.data ty40 (.t rfl) SHeader.l_data) ?_
            refine tk 6 rfl (Ev.len Try.underlying40 (.t rfl) (fun w I => hd.keep0 I.keeps)) ?_
            refine al1 1 rfl ((callv en47 (.cons (.t rfl) .nil) (fun w I => front_ok _ w) ?_))
            refine hdn (tk 3 rfl (Ev.add_i (.t rfl) (.t rfl) (fun _ => by omega)) ?_)
            refine tk 7 rfl (Ev.add_i (.t rfl) (.t rfl) (fun _ => by omega)) ?_
            refine tk 8 rfl (Ev.gtr_i (.t rfl) (.c (v := I 2048) rfl)) ?_
            refine tk 9 rfl (Ev.assign (.t rfl)) ?_
            refine ovr (pN ?_)
            first | refine condD rfl (fun h7 => ?_) (fun h7 => ?_) | refine cond rfl (fun h7 => ?_) (fun h7 => ?_)
            · try simp only [Gx.nb] at h7
              refine sg (co (Ev.assign (.c (v := I 4) rfl)) ?_)
              refine nP (ret (bR (pR (done rfl (.tmp rfl .nil) (retE ?_)))))
              first
                | (exfalso; simp_all; done)
                | (have hA : ¬ (checkA h.src ≠ 0 ∨ checkA h.dst ≠ 0 ∨ h.src.v6 ≠ h.dst.v6 ∨ (bif h.src.v6 then 1048575 else 65535) < h.id) := by simp_all
                   have hB : ¬ (midN h.proto = 0 ∧ (h.srcPort ≠ 0 ∨ h.dstPort ≠ 0) ∨ h.proto ≠ 6 ∧ (h.flags ≠ 0 ∨ h.seq ≠ 0)) := by
                     intro hc
                     rcases hc with hc | hc <;> simp_all
                   unfold checkH
                   rw [if_neg hA, if_neg hB]
                   first
                     | (rw [if_pos (by omega)]; rfl)
                     | (rw [if_neg (by omega)]; rfl))
            · try simp only [Gx.nb] at h7
              refine skip (bN (pN (sg (co (Ev.assign (.c (v := I 0) rfl)) ?_))))
              refine nP (ret (done rfl (.tmp rfl .nil) (retE ?_)))
              first
                | (exfalso; simp_all; done)
                | (have hA : ¬ (checkA h.src ≠ 0 ∨ checkA h.dst ≠ 0 ∨ h.src.v6 ≠ h.dst.v6 ∨ (bif h.src.v6 then 1048575 else 65535) < h.id) := by simp_all
                   have hB : ¬ (midN h.proto = 0 ∧ (h.srcPort ≠ 0 ∨ h.dstPort ≠ 0) ∨ h.proto ≠ 6 ∧ (h.flags ≠ 0 ∨ h.seq ≠ 0)) := by
                     intro hc
                     rcases hc with hc | hc <;> simp_all
                   unfold checkH
                   rw [if_neg hA, if_neg hB]
                   first
                     | (rw [if_pos (by omega)]; rfl)
                     | (rw [if_neg (by omega)]; rfl))
    · try simp only [Gx.nb] at h1
      refine sg (co (fA 17 (.t rfl)) ?_)
      refine co (Ev.ldx h.dst ty37 (.t rfl) SHeader.l_dst) ?_
      refine cons (callv en34 (.cons (.t rfl) .nil) (fun w I => checkA_ok _ w) ?_)
      refine co (Ev.neq_i (.t rfl) (.c (v := I 0) rfl)) ?_
      refine asn rfl (nP ?_)
      first | refine condD rfl (fun h2 => ?_) (fun h2 => ?_) | refine cond rfl (fun h2 => ?_) (fun h2 => ?_)
      · try simp only [Gx.nb] at h2
        refine skip (pN ?_)
        first | refine condD rfl (fun h4 => ?_) (fun h4 => ?_) | refine cond rfl (fun h4 => ?_) (fun h4 => ?_)
        · try simp only [Gx.nb] at h4
          refine sg (co (Ev.assign (.c (v := I 2) rfl)) ?_)
          refine nP (ret (bR (pR (done rfl (.tmp rfl .nil) (retE ?_)))))
          unfold checkH
          first
            | (simp_all; done)
            | (have hA : ¬ (checkA h.src ≠ 0 ∨ checkA h.dst ≠ 0 ∨ h.src.v6 ≠ h.dst.v6 ∨ (bif h.src.v6 then 1048575 else 65535) < h.id) := by simp_all
               rw [if_neg hA]
               simp_all; done)
        · try simp only [Gx.nb] at h4
          refine seq (sg (mv rfl (co (Ev.eql_i (.t rfl) (.c (v := I 0) rfl)) ?_)))
          refine mv rfl (cg rfl rfl (fA 35 (.t rfl)) ?_)
          refine cg rfl rfl (Ev.ldx h.srcPort ty38 (.g rfl id) SHeader.l_srcPort) ?_
          refine cg rfl rfl (Ev.neq_u16 (.g rfl id) (.c (v := U16 0) rfl)) ?_
          refine cg rfl rfl (Ev.move (.g rfl id)) ?_
          refine cg rfl rfl (fA 36 (.t rfl)) ?_
          refine cg rfl rfl (Ev.ldx h.dstPort ty38 (.g rfl id) SHeader.l_dstPort) ?_
          refine cg rfl rfl (Ev.neq_u16 (.g rfl id) (.c (v := U16 0) rfl)) ?_
          refine cg rfl rfl (Ev.pkO (.g rfl id) rfl) ?_
          refine co (Ev.pkA (.t rfl) rfl) ?_
          refine asn rfl (nP ?_)
          first | refine condD rfl (fun h5 => ?_) (fun h5 => ?_) | refine cond rfl (fun h5 => ?_) (fun h5 => ?_)
          · try simp only [Gx.nb] at h5
            refine skip (pN ?_)
            first | refine condD rfl (fun h6 => ?_) (fun h6 => ?_) | refine cond rfl (fun h6 => ?_) (fun h6 => ?_)
            · try simp only [Gx.nb] at h6
              refine sg (co (Ev.assign (.c (v := I 2) rfl)) ?_)
              refine nP (ret (bR (pR (done rfl (.tmp rfl .nil) (retE ?_)))))
              unfold checkH
              first
                | (simp_all; done)
                | (have hA : ¬ (checkA h.src ≠ 0 ∨ checkA h.dst ≠ 0 ∨ h.src.v6 ≠ h.dst.v6 ∨ (bif h.src.v6 then 1048575 else 65535) < h.id) := by simp_all
                   rw [if_neg hA]
                   simp_all; done)
            · try simp only [Gx.nb] at h6
              refine seq (draw' (by kernel_rfl) ?_)
              refine tk 0 rfl (Ev.ldx h ty42 (.t rfl) (Lens.id _)) ?_
              refine tk 2 rfl (Ev.move (.t rfl)) ?_
              refine tk 4 rfl (fA 42 (.t rfl)) ?_
              refine tk 5 rfl (Ev.ldx h.data ty40 (.t rfl) SHeader.l_data) ?_
              refine tk 6 rfl (Ev.len Try.underlying40 (.t rfl) (fun w I => hd.keep0 I.keeps)) ?_
              refine al1 1 rfl ((callv en47 (.cons (.t rfl) .nil) (fun w I => front_ok _ w) ?_))
              refine hdn (tk 3 rfl (Ev.add_i (.t rfl) (.t rfl) (fun _ => by omega)) ?_)
              refine tk 7 rfl (Ev.add_i (.t rfl) (.t rfl) (fun _ => by omega)) ?_
              refine tk 8 rfl (Ev.gtr_i (.t rfl) (.c (v := I 2048) rfl)) ?_
              refine tk 9 rfl (Ev.assign (.t rfl)) ?_
              refine ovr (pN ?_)
              first | refine condD rfl (fun h7 => ?_) (fun h7 => ?_) | refine cond rfl (fun h7 => ?_) (fun h7 => ?_)
              · try simp only [Gx.nb] at h7
                refine sg (co (Ev.assign (.c (v := I 4) rfl)) ?_)
                refine nP (ret (bR (pR (done rfl (.tmp rfl .nil) (retE ?_)))))
                first
                  | (exfalso; simp_all; done)
                  | (have hA : ¬ (checkA h.src ≠ 0 ∨ checkA h.dst ≠ 0 ∨ h.src.v6 ≠ h.dst.v6 ∨ (bif h.src.v6 then 1048575 else 65535) < h.id) := by simp_all
                     have hB : ¬ (midN h.proto = 0 ∧ (h.srcPort ≠ 0 ∨ h.dstPort ≠ 0) ∨ h.proto ≠ 6 ∧ (h.flags ≠ 0 ∨ h.seq ≠ 0)) := by
                       intro hc
                       rcases hc with hc | hc <;> simp_all
                     unfold checkH
                     rw [if_neg hA, if_neg hB]
                     first
                       | (rw [if_pos (by omega)]; rfl)
                       | (rw [if_neg (by omega)]; rfl))
              · try simp only [Gx.nb] at h7
                refine skip (bN (pN (sg (co (Ev.assign (.c (v := I 0) rfl)) ?_))))
                refine nP (ret (done rfl (.tmp rfl .nil) (retE ?_)))
                first
                  | (exfalso; simp_all; done)
                  | (have hA : ¬ (checkA h.src ≠ 0 ∨ checkA h.dst ≠ 0 ∨ h.src.v6 ≠ h.dst.v6 ∨ (bif h.src.v6 then 1048575 else 65535) < h.id) := by simp_all
                     have hB : ¬ (midN h.proto = 0 ∧ (h.srcPort ≠ 0 ∨ h.dstPort ≠ 0) ∨ h.proto ≠ 6 ∧ (h.flags ≠ 0 ∨ h.seq ≠ 0)) := by
                       intro hc
                       rcases hc with hc | hc <;> simp_all
                     unfold checkH
                     rw [if_neg hA, if_neg hB]
                     first
                       | (rw [if_pos (by omega)]; rfl)
                       | (rw [if_neg (by omega)]; rfl))
          · try simp only [Gx.nb] at h5
            refine region (co (fA 34 (.t rfl)) ?_)
            refine co (Ev.ldx h.proto ty5 (.t rfl) SHeader.l_proto) ?_
            refine co (Ev.neq_u8 (.t rfl) (.c (v := U8 6) rfl)) ?_
            refine mv rfl (cg rfl rfl (fA 40 (.t rfl)) ?_)
            refine cg rfl rfl (Ev.ldx h.flags ty5 (.g rfl id) SHeader.l_flags) ?_
            refine cg rfl rfl (Ev.neq_u8 (.g rfl id) (.c (v := U8 0) rfl)) ?_
            refine cg rfl rfl (Ev.move (.g rfl id)) ?_
            refine cg rfl rfl (fA 41 (.t rfl)) ?_
            refine cg rfl rfl (Ev.ldx h.seq ty39 (.g rfl id) SHeader.l_seq) ?_
            refine cg rfl rfl (Ev.neq_u32 (.g rfl id) (.c (v := U32 0) rfl)) ?_
            refine cg rfl rfl (Ev.pkO (.g rfl id) rfl) ?_
            refine co (Ev.pkA (.t rfl) rfl) ?_
            refine asn rfl (nP ?_)
            first | refine condD rfl (fun h6 => ?_) (fun h6 => ?_) | refine cond rfl (fun h6 => ?_) (fun h6 => ?_)
            · try simp only [Gx.nb] at h6
              refine sg (co (Ev.assign (.c (v := I 2) rfl)) ?_)
              refine nP (ret (bR (pR (done rfl (.tmp rfl .nil) (retE ?_)))))
              unfold checkH
              first
                | (simp_all; done)
                | (have hA : ¬ (checkA h.src ≠ 0 ∨ checkA h.dst ≠ 0 ∨ h.src.v6 ≠ h.dst.v6 ∨ (bif h.src.v6 then 1048575 else 65535) < h.id) := by simp_all
                   rw [if_neg hA]
                   simp_all; done)
            · try simp only [Gx.nb] at h6
              refine seq (draw' (by kernel_rfl) ?_)
              refine tk 0 rfl (Ev.ldx h ty42 (.t rfl) (Lens.id _)) ?_
              refine tk 2 rfl (Ev.move (.t rfl)) ?_
              refine tk 4 rfl (fA 42 (.t rfl)) ?_
              refine tk 5 rfl (Ev.ldx h.data ty40 (.t rfl) SHeader.l_data) ?_
              refine tk 6 rfl (Ev.len Try.underlying40 (.t rfl) (fun w I => hd.keep0 I.keeps)) ?_
              refine al1 1 rfl ((callv en47 (.cons (.t rfl) .nil) (fun w I => front_ok _ w) ?_))
              refine hdn (tk 3 rfl (Ev.add_i (.t rfl) (.t rfl) (fun _ => by omega)) ?_)
              refine tk 7 rfl (Ev.add_i (.t rfl) (.t rfl) (fun _ => by omega)) ?_
              refine tk 8 rfl (Ev.gtr_i (.t rfl) (.c (v := I 2048) rfl)) ?_
              refine tk 9 rfl (Ev.assign (.t rfl)) ?_
              refine ovr (pN ?_)
              first | refine condD rfl (fun h7 => ?_) (fun h7 => ?_) | refine cond rfl (fun h7 => ?_) (fun h7 => ?_)
              · try simp only [Gx.nb] at h7
                refine sg (co (Ev.assign (.c (v := I 4) rfl)) ?_)
                refine nP (ret (bR (pR (done rfl (.tmp rfl .nil) (retE ?_)))))
                first
                  | (exfalso; simp_all; done)
                  | (have hA : ¬ (checkA h.src ≠ 0 ∨ checkA h.dst ≠ 0 ∨ h.src.v6 ≠ h.dst.v6 ∨ (bif h.src.v6 then 1048575 else 65535) < h.id) := by simp_all
                     have hB : ¬ (midN h.proto = 0 ∧ (h.srcPort ≠ 0 ∨ h.dstPort ≠ 0) ∨ h.proto ≠ 6 ∧ (h.flags ≠ 0 ∨ h.seq ≠ 0)) := by
                       intro hc
                       rcases hc with hc | hc <;> simp_all
                     unfold checkH
                     rw [if_neg hA, if_neg hB]
                     first
                       | (rw [if_pos (by omega)]; rfl)
                       | (rw [if_neg (by omega)]; rfl))
              · try simp only [Gx.nb] at h7
                refine skip (bN (pN (sg (co (Ev.assign (.c (v := I 0) rfl)) ?_))))
                refine nP (ret (done rfl (.tmp rfl .nil) (retE ?_)))
                first
                  | (exfalso; simp_all; done)
                  | (have hA : ¬ (checkA h.src ≠ 0 ∨ checkA h.dst ≠ 0 ∨ h.src.v6 ≠ h.dst.v6 ∨ (bif h.src.v6 then 1048575 else 65535) < h.id) := by simp_all
                     have hB : ¬ (midN h.proto = 0 ∧ (h.srcPort ≠ 0 ∨ h.dstPort ≠ 0) ∨ h.proto ≠ 6 ∧ (h.flags ≠ 0 ∨ h.seq ≠ 0)) := by
                       intro hc
                       rcases hc with hc | hc <;> simp_all
                     unfold checkH
                     rw [if_neg hA, if_neg hB]
                     first
                       | (rw [if_pos (by omega)]; rfl)
                       | (rw [if_neg (by omega)]; rfl))
      · try simp only [Gx.nb] at h2
        refine sg (co (fA 0 (.t rfl)) ?_)
        refine co (fA 0 (.t rfl)) ?_
        refine co (Ev.ldx h.src.v6 ty4 (.t rfl) (Lens.comp SHeader.l_src SAddr.l_v6)) ?_
        refine co (fA 17 (.t rfl)) ?_
        refine co (fA 0 (.t rfl)) ?_
        refine co (Ev.ldx h.dst.v6 ty4 (.t rfl) (Lens.comp SHeader.l_dst SAddr.l_v6)) ?_
        refine co (Ev.neq_b Try.underlying4 (.t rfl) (.t rfl)) ?_
        refine asn rfl (nP ?_)
        first | refine condD rfl (fun h3 => ?_) (fun h3 => ?_) | refine cond rfl (fun h3 => ?_) (fun h3 => ?_)
        · try simp only [Gx.nb] at h3
          refine skip (pN ?_)
          first | refine condD rfl (fun h4 => ?_) (fun h4 => ?_) | refine cond rfl (fun h4 => ?_) (fun h4 => ?_)
          · try simp only [Gx.nb] at h4
            refine sg (co (Ev.assign (.c (v := I 2) rfl)) ?_)
            refine nP (ret (bR (pR (done rfl (.tmp rfl .nil) (retE ?_)))))
            unfold checkH
            first
              | (simp_all; done)
              | (have hA : ¬ (checkA h.src ≠ 0 ∨ checkA h.dst ≠ 0 ∨ h.src.v6 ≠ h.dst.v6 ∨ (bif h.src.v6 then 1048575 else 65535) < h.id) := by simp_all
                 rw [if_neg hA]
                 simp_all; done)
          · try simp only [Gx.nb] at h4
            refine seq (sg (mv rfl (co (Ev.eql_i (.t rfl) (.c (v := I 0) rfl)) ?_)))
            refine mv rfl (cg rfl rfl (fA 35 (.t rfl)) ?_)
            refine cg rfl rfl (Ev.ldx h.srcPort ty38 (.g rfl id) SHeader.l_srcPort) ?_
            refine cg rfl rfl (Ev.neq_u16 (.g rfl id) (.c (v := U16 0) rfl)) ?_
            refine cg rfl rfl (Ev.move (.g rfl id)) ?_
            refine cg rfl rfl (fA 36 (.t rfl)) ?_
            refine cg rfl rfl (Ev.ldx h.dstPort ty38 (.g rfl id) SHeader.l_dstPort) ?_
            refine cg rfl rfl (Ev.neq_u16 (.g rfl id) (.c (v := U16 0) rfl)) ?_
            refine cg rfl rfl (Ev.pkO (.g rfl id) rfl) ?_
            refine co (Ev.pkA (.t rfl) rfl) ?_
            refine asn rfl (nP ?_)
            first | refine condD rfl (fun h5 => ?_) (fun h5 => ?_) | refine cond rfl (fun h5 => ?_) (fun h5 => ?_)
            · try simp only [Gx.nb] at h5
              refine skip (pN ?_)
              first | refine condD rfl (fun h6 => ?_) (fun h6 => ?_) | refine cond rfl (fun h6 => ?_) (fun h6 => ?_)
              · try simp only [Gx.nb] at h6
                refine sg (co (Ev.assign (.c (v := I 2) rfl)) ?_)
                refine nP (ret (bR (pR (done rfl (.tmp rfl .nil) (retE ?_)))))
                unfold checkH
                first
                  | (simp_all; done)
                  | (have hA : ¬ (checkA h.src ≠ 0 ∨ checkA h.dst ≠ 0 ∨ h.src.v6 ≠ h.dst.v6 ∨ (bif h.src.v6 then 1048575 else 65535) < h.id) := by simp_all
                     rw [if_neg hA]
                     simp_all; done)
              · try simp only [Gx.nb] at h6
                refine seq (draw' (by kernel_rfl) ?_)
                refine tk 0 rfl (Ev.ldx h ty42 (.t rfl) (Lens.id _)) ?_
                refine tk 2 rfl (Ev.move (.t rfl)) ?_
                refine tk 4 rfl (fA 42 (.t rfl)) ?_
                refine tk 5 rfl (Ev.ldx h.data ty40 (.t rfl) SHeader.l_data) ?_
                refine tk 6 rfl (Ev.len Try.underlying40 (.t rfl) (fun w I => hd.keep0 I.keeps)) ?_
                refine al1 1 rfl ((callv en47 (.cons (.t rfl) .nil) (fun w I => front_ok _ w) ?_))
                refine hdn (tk 3 rfl (Ev.add_i (.t rfl) (.t rfl) (fun _ => by omega)) ?_)
                refine tk 7 rfl (Ev.add_i (.t rfl) (.t rfl) (fun _ => by omega)) ?_
                refine tk 8 rfl (Ev.gtr_i (.t rfl) (.c (v := I 2048) rfl)) ?_
                refine tk 9 rfl (Ev.assign (.t rfl)) ?_
                refine ovr (pN ?_)
                first | refine condD rfl (fun h7 => ?_) (fun h7 => ?_) | refine cond rfl (fun h7 => ?_) (fun h7 => ?_)
                · try simp only [Gx.nb] at h7
                  refine sg (co (Ev.assign (.c (v := I 4) rfl)) ?_)
                  refine nP (ret (bR (pR (done rfl (.tmp rfl .nil) (retE ?_)))))
                  first
                    | (exfalso; simp_all; done)
                    | (have hA : ¬ (checkA h.src ≠ 0 ∨ checkA h.dst ≠ 0 ∨ h.src.v6 ≠ h.dst.v6 ∨ (bif h.src.v6 then 1048575 else 65535) < h.id) := by simp_all
                       have hB : ¬ (midN h.proto = 0 ∧ (h.srcPort ≠ 0 ∨ h.dstPort ≠ 0) ∨ h.proto ≠ 6 ∧ (h.flags ≠ 0 ∨ h.seq ≠ 0)) := by
                         intro hc
                         rcases hc with hc | hc <;> simp_all
                       unfold checkH
                       rw [if_neg hA, if_neg hB]
                       first
                         | (rw [if_pos (by omega)]; rfl)
                         | (rw [if_neg (by omega)]; rfl))
                · try simp only [Gx.nb] at h7
                  refine skip (bN (pN (sg (co (Ev.assign (.c (v := I 0) rfl)) ?_))))
                  refine nP (ret (done rfl (.tmp rfl .nil) (retE ?_)))
                  first
                    | (exfalso; simp_all; done)
                    | (have hA : ¬ (checkA h.src ≠ 0 ∨ checkA h.dst ≠ 0 ∨ h.src.v6 ≠ h.dst.v6 ∨ (bif h.src.v6 then 1048575 else 65535) < h.id) := by simp_all
                       have hB : ¬ (midN h.proto = 0 ∧ (h.srcPort ≠ 0 ∨ h.dstPort ≠ 0) ∨ h.proto ≠ 6 ∧ (h.flags ≠ 0 ∨ h.seq ≠ 0)) := by
                         intro hc
                         rcases hc with hc | hc <;> simp_all
                       unfold checkH
                       rw [if_neg hA, if_neg hB]
                       first
                         | (rw [if_pos (by omega)]; rfl)
                         | (rw [if_neg (by omega)]; rfl))
            · try simp only [Gx.nb] at h5
              refine region (co (fA 34 (.t rfl)) ?_)
              refine co (Ev.ldx h.proto ty5 (.t rfl) SHeader.l_proto) ?_
              refine co (Ev.neq_u8 (.t rfl) (.c (v := U8 6) rfl)) ?_
              refine mv rfl (cg rfl rfl (fA 40 (.t rfl)) ?_)
              refine cg rfl rfl (Ev.ldx h.flags ty5 (.g rfl id) SHeader.l_flags) ?_
              refine cg rfl rfl (Ev.neq_u8 (.g rfl id) (.c (v := U8 0) rfl)) ?_
              refine cg rfl rfl (Ev.move (.g rfl id)) ?_
              refine cg rfl rfl (fA 41 (.t rfl)) ?_
              refine cg rfl rfl (Ev.ldx h.seq ty39 (.g rfl id) SHeader.l_seq) ?_
              refine cg rfl rfl (Ev.neq_u32 (.g rfl id) (.c (v := U32 0) rfl)) ?_
              refine cg rfl rfl (Ev.pkO (.g rfl id) rfl) ?_
              refine co (Ev.pkA (.t rfl) rfl) ?_
              refine asn rfl (nP ?_)
              first | refine condD rfl (fun h6 => ?_) (fun h6 => ?_) | refine cond rfl (fun h6 => ?_) (fun h6 => ?_)
              · try simp only [Gx.nb] at h6
                refine sg (co (Ev.assign (.c (v := I 2) rfl)) ?_)
                refine nP (ret (bR (pR (done rfl (.tmp rfl .nil) (retE ?_)))))
                unfold checkH
                first
                  | (simp_all; done)
                  | (have hA : ¬ (checkA h.src ≠ 0 ∨ checkA h.dst ≠ 0 ∨ h.src.v6 ≠ h.dst.v6 ∨ (bif h.src.v6 then 1048575 else 65535) < h.id) := by simp_all
                     rw [if_neg hA]
                     simp_all; done)
              · try simp only [Gx.nb] at h6
                refine seq (draw' (by kernel_rfl) ?_)
                refine tk 0 rfl (Ev.ldx h ty42 (.t rfl) (Lens.id _)) ?_
                refine tk 2 rfl (Ev.move (.t rfl)) ?_
                refine tk 4 rfl (fA 42 (.t rfl)) ?_
                refine tk 5 rfl (Ev.ldx h.data ty40 (.t rfl) SHeader.l_data) ?_
                refine tk 6 rfl (Ev.len Try.underlying40 (.t rfl) (fun w I => hd.keep0 I.keeps)) ?_
                refine al1 1 rfl ((callv en47 (.cons (.t rfl) .nil) (fun w I => front_ok _ w) ?_))
                refine hdn (tk 3 rfl (Ev.add_i (.t rfl) (.t rfl) (fun _ => by omega)) ?_)
                refine tk 7 rfl (Ev.add_i (.t rfl) (.t rfl) (fun _ => by omega)) ?_
                refine tk 8 rfl (Ev.gtr_i (.t rfl) (.c (v := I 2048) rfl)) ?_
                refine tk 9 rfl (Ev.assign (.t rfl)) ?_
                refine ovr (pN ?_)
                first | refine condD rfl (fun h7 => ?_) (fun h7 => ?_) | refine cond rfl (fun h7 => ?_) (fun h7 => ?_)
                · try simp only [Gx.nb] at h7
                  refine sg (co (Ev.assign (.c (v := I 4) rfl)) ?_)
                  refine nP (ret (bR (pR (done rfl (.tmp rfl .nil) (retE ?_)))))
                  first
                    | (exfalso; simp_all; done)
                    | (have hA : ¬ (checkA h.src ≠ 0 ∨ checkA h.dst ≠ 0 ∨ h.src.v6 ≠ h.dst.v6 ∨ (bif h.src.v6 then 1048575 else 65535) < h.id) := by simp_all
                       have hB : ¬ (midN h.proto = 0 ∧ (h.srcPort ≠ 0 ∨ h.dstPort ≠ 0) ∨ h.proto ≠ 6 ∧ (h.flags ≠ 0 ∨ h.seq ≠ 0)) := by
                         intro hc
                         rcases hc with hc | hc <;> simp_all
                       unfold checkH
                       rw [if_neg hA, if_neg hB]
                       first
                         | (rw [if_pos (by omega)]; rfl)
                         | (rw [if_neg (by omega)]; rfl))
                · try simp only [Gx.nb] at h7
                  refine skip (bN (pN (sg (co (Ev.assign (.c (v := I 0) rfl)) ?_))))
                  refine nP (ret (done rfl (.tmp rfl .nil) (retE ?_)))
                  first
                    | (exfalso; simp_all; done)
                    | (have hA : ¬ (checkA h.src ≠ 0 ∨ checkA h.dst ≠ 0 ∨ h.src.v6 ≠ h.dst.v6 ∨ (bif h.src.v6 then 1048575 else 65535) < h.id) := by simp_all
                       have hB : ¬ (midN h.proto = 0 ∧ (h.srcPort ≠ 0 ∨ h.dstPort ≠ 0) ∨ h.proto ≠ 6 ∧ (h.flags ≠ 0 ∨ h.seq ≠ 0)) := by
                         intro hc
                         rcases hc with hc | hc <;> simp_all
                       unfold checkH
                       rw [if_neg hA, if_neg hB]
                       first
                         | (rw [if_pos (by omega)]; rfl)
                         | (rw [if_neg (by omega)]; rfl))
        · try simp only [Gx.nb] at h3
          refine region (co (fA 39 (.t rfl)) ?_)
          refine co (Ev.ldx h.id ty39 (.t rfl) SHeader.l_id) ?_
          refine mv rfl (co (Ev.gtr_u32 (.t rfl) (.t rfl)) ?_)
          refine asn rfl (nP ?_)
          first | refine condD rfl (fun h4 => ?_) (fun h4 => ?_) | refine cond rfl (fun h4 => ?_) (fun h4 => ?_)
          · try simp only [Gx.nb] at h4
            refine sg (co (Ev.assign (.c (v := I 2) rfl)) ?_)
            refine nP (ret (bR (pR (done rfl (.tmp rfl .nil) (retE ?_)))))
            unfold checkH
            first
              | (simp_all; done)
              | (have hA : ¬ (checkA h.src ≠ 0 ∨ checkA h.dst ≠ 0 ∨ h.src.v6 ≠ h.dst.v6 ∨ (bif h.src.v6 then 1048575 else 65535) < h.id) := by simp_all
                 rw [if_neg hA]
                 simp_all; done)
          · try simp only [Gx.nb] at h4
            refine seq (sg (mv rfl (co (Ev.eql_i (.t rfl) (.c (v := I 0) rfl)) ?_)))
            refine mv rfl (cg rfl rfl (fA 35 (.t rfl)) ?_)
            refine cg rfl rfl (Ev.ldx h.srcPort ty38 (.g rfl id) SHeader.l_srcPort) ?_
            refine cg rfl rfl (Ev.neq_u16 (.g rfl id) (.c (v := U16 0) rfl)) ?_
            refine cg rfl rfl (Ev.move (.g rfl id)) ?_
            refine cg rfl rfl (fA 36 (.t rfl)) ?_
            refine cg rfl rfl (Ev.ldx h.dstPort ty38 (.g rfl id) SHeader.l_dstPort) ?_
            refine cg rfl rfl (Ev.neq_u16 (.g rfl id) (.c (v := U16 0) rfl)) ?_
            refine cg rfl rfl (Ev.pkO (.g rfl id) rfl) ?_
            refine co (Ev.pkA (.t rfl) rfl) ?_
            refine asn rfl (nP ?_)
            first | refine condD rfl (fun h5 => ?_) (fun h5 => ?_) | refine cond rfl (fun h5 => ?_) (fun h5 => ?_)
            · try simp only [Gx.nb] at h5
              refine skip (pN ?_)
              first | refine condD rfl (fun h6 => ?_) (fun h6 => ?_) | refine cond rfl (fun h6 => ?_) (fun h6 => ?_)
              · try simp only [Gx.nb] at h6
                refine sg (co (Ev.assign (.c (v := I 2) rfl)) ?_)
                refine nP (ret (bR (pR (done rfl (.tmp rfl .nil) (retE ?_)))))
                unfold checkH
                first
                  | (simp_all; done)
                  | (have hA : ¬ (checkA h.src ≠ 0 ∨ checkA h.dst ≠ 0 ∨ h.src.v6 ≠ h.dst.v6 ∨ (bif h.src.v6 then 1048575 else 65535) < h.id) := by simp_all
                     rw [if_neg hA]
                     simp_all; done)
              · try simp only [Gx.nb] at h6
                refine seq (draw' (by kernel_rfl) ?_)
                refine tk 0 rfl (Ev.ldx h ty42 (.t rfl) (Lens.id _)) ?_
                refine tk 2 rfl (Ev.move (.t rfl)) ?_
                refine tk 4 rfl (fA 42 (.t rfl)) ?_
                refine tk 5 rfl (Ev.ldx h.data ty40 (.t rfl) SHeader.l_data) ?_
                refine tk 6 rfl (Ev.len Try.underlying40 (.t rfl) (fun w I => hd.keep0 I.keeps)) ?_
                refine al1 1 rfl ((callv en47 (.cons (.t rfl) .nil) (fun w I => front_ok _ w) ?_))
                refine hdn (tk 3 rfl (Ev.add_i (.t rfl) (.t rfl) (fun _ => by omega)) ?_)
                refine tk 7 rfl (Ev.add_i (.t rfl) (.t rfl) (fun _ => by omega)) ?_
                refine tk 8 rfl (Ev.gtr_i (.t rfl) (.c (v := I 2048) rfl)) ?_
                refine tk 9 rfl (Ev.assign (.t rfl)) ?_
                refine ovr (pN ?_)
                first | refine condD rfl (fun h7 => ?_) (fun h7 => ?_) | refine cond rfl (fun h7 => ?_) (fun h7 => ?_)
                · try simp only [Gx.nb] at h7
                  refine sg (co (Ev.assign (.c (v := I 4) rfl)) ?_)
                  refine nP (ret (bR (pR (done rfl (.tmp rfl .nil) (retE ?_)))))
                  first
                    | (exfalso; simp_all; done)
                    | (have hA : ¬ (checkA h.src ≠ 0 ∨ checkA h.dst ≠ 0 ∨ h.src.v6 ≠ h.dst.v6 ∨ (bif h.src.v6 then 1048575 else 65535) < h.id) := by simp_all
                       have hB : ¬ (midN h.proto = 0 ∧ (h.srcPort ≠ 0 ∨ h.dstPort ≠ 0) ∨ h.proto ≠ 6 ∧ (h.flags ≠ 0 ∨ h.seq ≠ 0)) := by
                         intro hc
                         rcases hc with hc | hc <;> simp_all
                       unfold checkH
                       rw [if_neg hA, if_neg hB]
                       first
                         | (rw [if_pos (by omega)]; rfl)
                         | (rw [if_neg (by omega)]; rfl))
                · try simp only [Gx.nb] at h7
                  refine skip (bN (pN (sg (co (Ev.assign (.c (v := I 0) rfl)) ?_))))
                  refine nP (ret (done rfl (.tmp rfl .nil) (retE ?_)))
                  first
                    | (exfalso; simp_all; done)
                    | (have hA : ¬ (checkA h.src ≠ 0 ∨ checkA h.dst ≠ 0 ∨ h.src.v6 ≠ h.dst.v6 ∨ (bif h.src.v6 then 1048575 else 65535) < h.id) := by simp_all
                       have hB : ¬ (midN h.proto = 0 ∧ (h.srcPort ≠ 0 ∨ h.dstPort ≠ 0) ∨ h.proto ≠ 6 ∧ (h.flags ≠ 0 ∨ h.seq ≠ 0)) := by
                         intro hc
                         rcases hc with hc | hc <;> simp_all
                       unfold checkH
                       rw [if_neg hA, if_neg hB]
                       first
                         | (rw [if_pos (by omega)]; rfl)
                         | (rw [if_neg (by omega)]; rfl))
            · try simp only [Gx.nb] at h5
              refine region (co (fA 34 (.t rfl)) ?_)
              refine co (Ev.ldx h.proto ty5 (.t rfl) SHeader.l_proto) ?_
              refine co (Ev.neq_u8 (.t rfl) (.c (v := U8 6) rfl)) ?_
              refine mv rfl (cg rfl rfl (fA 40 (.t rfl)) ?_)
              refine cg rfl rfl (Ev.ldx h.flags ty5 (.g rfl id) SHeader.l_flags) ?_
              refine cg rfl rfl (Ev.neq_u8 (.g rfl id) (.c (v := U8 0) rfl)) ?_
              refine cg rfl rfl (Ev.move (.g rfl id)) ?_
              refine cg rfl rfl (fA 41 (.t rfl)) ?_
              refine cg rfl rfl (Ev.ldx h.seq ty39 (.g rfl id) SHeader.l_seq) ?_
              refine cg rfl rfl (Ev.neq_u32 (.g rfl id) (.c (v := U32 0) rfl)) ?_
              refine cg rfl rfl (Ev.pkO (.g rfl id) rfl) ?_
              refine co (Ev.pkA (.t rfl) rfl) ?_
              refine asn rfl (nP ?_)
              first | refine condD rfl (fun h6 => ?_) (fun h6 => ?_) | refine cond rfl (fun h6 => ?_) (fun h6 => ?_)
              · try simp only [Gx.nb] at h6
                refine sg (co (Ev.assign (.c (v := I 2) rfl)) ?_)
                refine nP (ret (bR (pR (done rfl (.tmp rfl .nil) (retE ?_)))))
                unfold checkH
                first
                  | (simp_all; done)
                  | (have hA : ¬ (checkA h.src ≠ 0 ∨ checkA h.dst ≠ 0 ∨ h.src.v6 ≠ h.dst.v6 ∨ (bif h.src.v6 then 1048575 else 65535) < h.id) := by simp_all
                     rw [if_neg hA]
                     simp_all; done)
              · try simp only [Gx.nb] at h6
                refine seq (draw' (by kernel_rfl) ?_)
                refine tk 0 rfl (Ev.ldx h ty42 (.t rfl) (Lens.id _)) ?_
                refine tk 2 rfl (Ev.move (.t rfl)) ?_
                refine tk 4 rfl (fA 42 (.t rfl)) ?_
                refine tk 5 rfl (Ev.ldx h.data ty40 (.t rfl) SHeader.l_data) ?_
                refine tk 6 rfl (Ev.len Try.underlying40 (.t rfl) (fun w I => hd.keep0 I.keeps)) ?_
                refine al1 1 rfl ((callv en47 (.cons (.t rfl) .nil) (fun w I => front_ok _ w) ?_))
                refine hdn (tk 3 rfl (Ev.add_i (.t rfl) (.t rfl) (fun _ => by omega)) ?_)
                refine tk 7 rfl (Ev.add_i (.t rfl) (.t rfl) (fun _ => by omega)) ?_
                refine tk 8 rfl (Ev.gtr_i (.t rfl) (.c (v := I 2048) rfl)) ?_
                refine tk 9 rfl (Ev.assign (.t rfl)) ?_
                refine ovr (pN ?_)
                first | refine condD rfl (fun h7 => ?_) (fun h7 => ?_) | refine cond rfl (fun h7 => ?_) (fun h7 => ?_)
                · try simp only [Gx.nb] at h7
                  refine sg (co (Ev.assign (.c (v := I 4) rfl)) ?_)
                  refine nP (ret (bR (pR (done rfl (.tmp rfl .nil) (retE ?_)))))
                  first
                    | (exfalso; simp_all; done)
                    | (have hA : ¬ (checkA h.src ≠ 0 ∨ checkA h.dst ≠ 0 ∨ h.src.v6 ≠ h.dst.v6 ∨ (bif h.src.v6 then 1048575 else 65535) < h.id) := by simp_all
                       have hB : ¬ (midN h.proto = 0 ∧ (h.srcPort ≠ 0 ∨ h.dstPort ≠ 0) ∨ h.proto ≠ 6 ∧ (h.flags ≠ 0 ∨ h.seq ≠ 0)) := by
                         intro hc
                         rcases hc with hc | hc <;> simp_all
                       unfold checkH
                       rw [if_neg hA, if_neg hB]
                       first
                         | (rw [if_pos (by omega)]; rfl)
                         | (rw [if_neg (by omega)]; rfl))
                · try simp only [Gx.nb] at h7
                  refine skip (bN (pN (sg (co (Ev.assign (.c (v := I 0) rfl)) ?_))))
                  refine nP (ret (done rfl (.tmp rfl .nil) (retE ?_)))
                  first
                    | (exfalso; simp_all; done)
                    | (have hA : ¬ (checkA h.src ≠ 0 ∨ checkA h.dst ≠ 0 ∨ h.src.v6 ≠ h.dst.v6 ∨ (bif h.src.v6 then 1048575 else 65535) < h.id) := by simp_all
                       have hB : ¬ (midN h.proto = 0 ∧ (h.srcPort ≠ 0 ∨ h.dstPort ≠ 0) ∨ h.proto ≠ 6 ∧ (h.flags ≠ 0 ∨ h.seq ≠ 0)) := by
                         intro hc
                         rcases hc with hc | hc <;> simp_all
                       unfold checkH
                       rw [if_neg hA, if_neg hB]
                       first
                         | (rw [if_pos (by omega)]; rfl)
                         | (rw [if_neg (by omega)]; rfl))
end Go.Proofs.Ytmdkmclgfgaahaa
