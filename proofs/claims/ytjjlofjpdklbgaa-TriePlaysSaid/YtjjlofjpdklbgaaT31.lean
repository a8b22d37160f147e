/- trie -/
import Derived.Test.YtjjlofjpdklbgaaT28
set_option linter.unusedVariables false
set_option linter.unusedSimpArgs false
namespace Go.Proofs.Ytjjlofjpdklbgaa
open Go Go.Gx

/-! ### The order is one; lists in order -/
theorem cmpB_anti : ∀ xs ys : List UInt8, Lib.compareBytes ys xs = - Lib.compareBytes xs ys
  | [], [] => rfl
  | [], _ :: _ => rfl
  | _ :: _, [] => rfl
  | x :: xs, y :: ys => by
    have ih := cmpB_anti xs ys
    unfold Lib.compareBytes
    by_cases h1 : x < y
    · have h2 : ¬ y < x := by rw [UInt8.lt_iff_toNat_lt] at h1 ⊢; omega
      rw [if_pos h1, if_neg h2, if_pos h1]
      rfl
    · rw [if_neg h1, if_neg h1]
      by_cases h2 : y < x
      · rw [if_pos h2, if_pos h2]
      · rw [if_neg h2, if_neg h2, ih]
theorem cmpB_vals : ∀ xs ys : List UInt8, Lib.compareBytes xs ys = -1 ∨ Lib.compareBytes xs ys = 0 ∨ Lib.compareBytes xs ys = 1
  | [], [] => .inr (.inl rfl)
  | [], _ :: _ => .inl rfl
  | _ :: _, [] => .inr (.inr rfl)
  | x :: xs, y :: ys => by
    have ih := cmpB_vals xs ys
    unfold Lib.compareBytes
    split
    · exact .inl rfl
    · split
      · exact .inr (.inr rfl)
      · exact ih
theorem cmpB_zero : ∀ xs ys : List UInt8, Lib.compareBytes xs ys = 0 → xs = ys
  | [], [], _ => rfl
  | [], _ :: _, h => by cases h
  | _ :: _, [], h => by cases h
  | x :: xs, y :: ys, h => by
    unfold Lib.compareBytes at h
    by_cases h1 : x < y
    · rw [if_pos h1] at h; cases h
    · rw [if_neg h1] at h
      by_cases h2 : y < x
      · rw [if_pos h2] at h; cases h
      · rw [if_neg h2] at h
        have e : x = y := by
          rw [UInt8.lt_iff_toNat_lt] at h1 h2
          exact UInt8.toNat_inj.1 (by omega)
        rw [e, cmpB_zero xs ys h]
theorem cmpB_trans : ∀ xs ys zs : List UInt8, Lib.compareBytes xs ys = -1 → Lib.compareBytes ys zs = -1 → Lib.compareBytes xs zs = -1
  | [], [], _, h, _ => by cases h
  | _ :: _, [], _, h, _ => by cases h
  | [], _ :: _, [], _, h => by cases h
  | _ :: _, _ :: _, [], _, h => by cases h
  | [], _ :: _, _ :: _, _, _ => rfl
  | x :: xs, y :: ys, z :: zs, h1, h2 => by
    have ih := cmpB_trans xs ys zs
    unfold Lib.compareBytes at h1 h2 ⊢
    by_cases a1 : x < y
    · by_cases b1 : y < z
      · rw [if_pos (UInt8.lt_trans a1 b1)]
      · rw [if_neg b1] at h2
        by_cases b2 : z < y
        · rw [if_pos b2] at h2; cases h2
        · have e : y = z := by
            rw [UInt8.lt_iff_toNat_lt] at b1 b2
            exact UInt8.toNat_inj.1 (by omega)
          rw [← e, if_pos a1]
    · rw [if_neg a1] at h1
      by_cases a2 : y < x
      · rw [if_pos a2] at h1; cases h1
      · rw [if_neg a2] at h1
        have e : x = y := by
          rw [UInt8.lt_iff_toNat_lt] at a1 a2
          exact UInt8.toNat_inj.1 (by omega)
        subst e
        by_cases b1 : x < z
        · rw [if_pos b1]
        · rw [if_neg b1] at h2 ⊢
          by_cases b2 : z < x
          · rw [if_pos b2] at h2; cases h2
          · rw [if_neg b2] at h2 ⊢
            exact ih h1 h2
theorem cmpP_vals (p q : SPrefix) : cmpP p q = -1 ∨ cmpP p q = 0 ∨ cmpP p q = 1 := by
  unfold cmpP cmpI
  split
  · split
    · split
      · exact .inl rfl
      · split
        · exact .inr (.inr rfl)
        · exact .inr (.inl rfl)
    · exact cmpB_vals _ _
  · cases p.addr.v6
    · exact .inl rfl
    · exact .inr (.inr rfl)
theorem cmpP_anti (p q : SPrefix) : cmpP q p = - cmpP p q := by
  have hb := cmpB_anti p.addr.b.toList q.addr.b.toList
  unfold cmpP cmpI
  by_cases hv : p.addr.v6 = q.addr.v6
  · rw [if_pos hv, if_pos hv.symm]
    by_cases h0 : Lib.compareBytes p.addr.b.toList q.addr.b.toList = 0
    · rw [if_pos h0, if_pos (by rw [hb, h0]; rfl)]
      by_cases h1 : p.bits < q.bits
      · rw [if_pos h1, if_neg (by omega), if_pos h1]; rfl
      · rw [if_neg h1, if_neg h1]
        by_cases h2 : q.bits < p.bits
        · rw [if_pos h2, if_pos h2]
        · rw [if_neg h2, if_neg h2]; rfl
    · rw [if_neg h0, if_neg (by rw [hb]; omega), hb]
  · rw [if_neg hv, if_neg (fun e => hv e.symm)]
    cases hp : p.addr.v6 <;> cases hq : q.addr.v6 <;> rw [hp, hq] at hv
    · exact absurd rfl hv
    · rfl
    · rfl
    · exact absurd rfl hv
theorem cmpP_zero (p q : SPrefix) : cmpP p q = 0 ↔ p = q := by
  constructor
  · intro h
    unfold cmpP cmpI at h
    by_cases hv : p.addr.v6 = q.addr.v6
    · rw [if_pos hv] at h
      by_cases h0 : Lib.compareBytes p.addr.b.toList q.addr.b.toList = 0
      · rw [if_pos h0] at h
        have hb : p.addr.b = q.addr.b := Vector.toList_inj.1 (cmpB_zero _ _ h0)
        have hbits : p.bits = q.bits := by
          by_cases h1 : p.bits < q.bits
          · rw [if_pos h1] at h; cases h
          · rw [if_neg h1] at h
            by_cases h2 : q.bits < p.bits
            · rw [if_pos h2] at h; cases h
            · omega
        obtain ⟨⟨v, b⟩, n⟩ := p
        obtain ⟨⟨v2, b2⟩, n2⟩ := q
        simp only at hv hb hbits
        rw [hv, hb, hbits]
      · rw [if_neg h0] at h; exact absurd h h0
    · rw [if_neg hv] at h
      cases hp : p.addr.v6 <;> rw [hp] at h <;> cases h
  · rintro rfl
    unfold cmpP cmpI
    rw [if_pos rfl, if_pos (cmpB_self _), if_neg (by omega), if_neg (by omega)]
theorem cmpP_trans {p q r : SPrefix} (h1 : cmpP p q = -1) (h2 : cmpP q r = -1) : cmpP p r = -1 := by
  unfold cmpP cmpI at h1 h2 ⊢
  by_cases hv : p.addr.v6 = q.addr.v6
  · rw [if_pos hv] at h1
    by_cases hw : q.addr.v6 = r.addr.v6
    · rw [if_pos hw] at h2
      rw [if_pos (hv.trans hw)]
      by_cases a0 : Lib.compareBytes p.addr.b.toList q.addr.b.toList = 0
      · rw [if_pos a0] at h1
        have e := cmpB_zero _ _ a0
        rw [e]
        by_cases b0 : Lib.compareBytes q.addr.b.toList r.addr.b.toList = 0
        · rw [if_pos b0] at h2 ⊢
          by_cases c1 : p.bits < q.bits
          · by_cases c2 : q.bits < r.bits
            · rw [if_pos (by omega)]
            · rw [if_neg c2] at h2
              split at h2 <;> cases h2
          · rw [if_neg c1] at h1
            split at h1 <;> cases h1
        · rw [if_neg b0] at h2 ⊢
          exact h2
      · rw [if_neg a0] at h1
        by_cases b0 : Lib.compareBytes q.addr.b.toList r.addr.b.toList = 0
        · have e := cmpB_zero _ _ b0
          rw [← e, if_neg a0]
          exact h1
        · rw [if_neg b0] at h2
          have h3 := cmpB_trans _ _ _ h1 h2
          rw [h3, if_neg (by decide)]
    · rw [if_neg hw] at h2
      rw [if_neg (fun e => hw (hv.symm.trans e)), hv]
      exact h2
  · rw [if_neg hv] at h1
    have hp : p.addr.v6 = false := by
      cases hp : p.addr.v6 with
      | false => rfl
      | true => rw [hp] at h1; cases h1
    have hq : q.addr.v6 = true := by
      cases hq : q.addr.v6 with
      | true => rfl
      | false => exact absurd (hp.trans hq.symm) hv
    by_cases hw : q.addr.v6 = r.addr.v6
    · rw [if_neg (by rw [hp, ← hw, hq]; decide), hp]
      rfl
    · rw [if_neg hw, hq] at h2
      cases h2
/-- In order. -/
abbrev Srt {α : Type} (f : α → SPrefix) (l : List α) : Prop := l.Pairwise (fun a b => cmpP (f a) (f b) = -1)
theorem Srt.ext {α : Type} {f : α → SPrefix} : ∀ {l k : List α}, Srt f l → Srt f k → (∀ x, x ∈ l ↔ x ∈ k) → l = k
  | [], [], _, _, _ => rfl
  | [], y :: k, _, _, h => by have := (h y).2 List.mem_cons_self; simp at this
  | x :: l, [], _, _, h => by have := (h x).1 List.mem_cons_self; simp at this
  | x :: l, y :: k, h1, h2, h => by
    rw [Srt, List.pairwise_cons] at h1 h2
    have irr : ∀ z : α, ¬ cmpP (f z) (f z) = -1 := fun z e => by rw [(cmpP_zero _ _).2 rfl] at e; cases e
    have e : x = y := by
      rcases List.mem_cons.1 ((h x).1 List.mem_cons_self) with e | e
      · exact e
      · rcases List.mem_cons.1 ((h y).2 List.mem_cons_self) with e2 | e2
        · exact e2.symm
        · have a := h2.1 x e
          have b := h1.1 y e2
          rw [cmpP_anti, b] at a
          cases a
    subst e
    rw [Srt.ext h1.2 h2.2 (fun z => by
      constructor
      · intro hz
        rcases List.mem_cons.1 ((h z).1 (List.mem_cons_of_mem _ hz)) with e | e
        · rw [e] at hz; exact absurd (h1.1 x hz) (irr x)
        · exact e
      · intro hz
        rcases List.mem_cons.1 ((h z).2 (List.mem_cons_of_mem _ hz)) with e | e
        · rw [e] at hz; exact absurd (h2.1 x hz) (irr x)
        · exact e)]
/-- Where a prefix stands, or would stand. -/
def placeN {α : Type} (f : α → SPrefix) (l : List α) (p : SPrefix) : Nat := (l.takeWhile (fun e => decide (cmpP (f e) p < 0))).length
def isAt {α : Type} (f : α → SPrefix) (l : List α) (p : SPrefix) : Bool := (l.drop (placeN f l p)).head?.any (fun e => decide (cmpP (f e) p = 0))
def insK {α : Type} (f : α → SPrefix) (l : List α) (x : α) : List α := l.take (placeN f l (f x)) ++ x :: l.drop (placeN f l (f x) + if isAt f l (f x) = true then 1 else 0)
theorem place_split {α : Type} (f : α → SPrefix) (p : SPrefix) : ∀ l : List α, Srt f l → (∀ e ∈ l.take (placeN f l p), cmpP (f e) p = -1) ∧
    ((isAt f l p = false ∧ ∀ e ∈ l.drop (placeN f l p), cmpP p (f e) = -1) ∨ (isAt f l p = true ∧ ∃ e r, l.drop (placeN f l p) = e :: r ∧ f e = p ∧ ∀ z ∈ r, cmpP p (f z) = -1))
  | [], _ => ⟨fun e he => by simp [placeN] at he, .inl ⟨rfl, fun e he => by simp [placeN] at he⟩⟩
  | x :: l, h => by
    rw [Srt, List.pairwise_cons] at h
    rcases cmpP_vals (f x) p with hc | hc | hc
    · obtain ⟨a, b⟩ := place_split f p l h.2
      have en : placeN f (x :: l) p = placeN f l p + 1 := by
        unfold placeN
        rw [List.takeWhile_cons, if_pos (by rw [hc]; decide)]
        rfl
      have ei : isAt f (x :: l) p = isAt f l p := by unfold isAt; rw [en]; rfl
      rw [ei, en]
      refine ⟨fun e he => ?_, b⟩
      rw [List.take_succ_cons] at he
      rcases List.mem_cons.1 he with rfl | he
      · exact hc
      · exact a e he
    · have en : placeN f (x :: l) p = 0 := by
        unfold placeN
        rw [List.takeWhile_cons, if_neg (by rw [hc]; decide)]
        rfl
      have ei : isAt f (x :: l) p = true := by unfold isAt; rw [en]; simp [hc]
      rw [en]
      have e2 := (cmpP_zero _ _).1 hc
      exact ⟨fun e he => by simp at he, .inr ⟨ei, x, l, rfl, e2, fun z hz => by rw [← e2]; exact h.1 z hz⟩⟩
    · have en : placeN f (x :: l) p = 0 := by
        unfold placeN
        rw [List.takeWhile_cons, if_neg (by rw [hc]; decide)]
        rfl
      have ei : isAt f (x :: l) p = false := by unfold isAt; rw [en]; simp [hc]
      rw [en]
      have e2 : cmpP p (f x) = -1 := by rw [cmpP_anti, hc]
      refine ⟨fun e he => by simp at he, .inl ⟨ei, fun e he => ?_⟩⟩
      rcases List.mem_cons.1 he with rfl | he
      · exact e2
      · exact cmpP_trans e2 (h.1 e he)
theorem insK_sorted {α : Type} {f : α → SPrefix} {l : List α} (h : Srt f l) (x : α) : Srt f (insK f l x) ∧ ∀ y, y ∈ insK f l x ↔ (y = x ∨ (y ∈ l ∧ f y ≠ f x)) := by
  obtain ⟨a, b⟩ := place_split f (f x) l h
  have irr : ∀ p : SPrefix, ¬ cmpP p p = -1 := fun p e => by rw [(cmpP_zero _ _).2 rfl] at e; cases e
  have hs : Srt f (l.take (placeN f l (f x)) ++ l.drop (placeN f l (f x))) := by rw [List.take_append_drop]; exact h
  have hm : ∀ y, y ∈ l ↔ (y ∈ l.take (placeN f l (f x)) ∨ y ∈ l.drop (placeN f l (f x))) := fun y => by rw [← List.mem_append, List.take_append_drop]
  rw [Srt, List.pairwise_append] at hs
  unfold insK
  rcases b with ⟨hi, b⟩ | ⟨hi, e, r, hd, he, b⟩
  · rw [hi, if_neg Bool.false_ne_true, Nat.add_zero]
    constructor
    · rw [Srt, List.pairwise_append, List.pairwise_cons]
      refine ⟨hs.1, ⟨b, hs.2.1⟩, fun y hy z hz => ?_⟩
      rcases List.mem_cons.1 hz with rfl | hz
      · exact a y hy
      · exact hs.2.2 y hy z hz
    · intro y
      rw [List.mem_append, List.mem_cons, hm]
      constructor
      · rintro (hy | rfl | hy)
        · exact .inr ⟨.inl hy, fun e => irr _ (by have := a y hy; rwa [e] at this)⟩
        · exact .inl rfl
        · exact .inr ⟨.inr hy, fun e => irr _ (by have := b y hy; rwa [e] at this)⟩
      · rintro (rfl | ⟨hy | hy, _⟩)
        · exact .inr (.inl rfl)
        · exact .inl hy
        · exact .inr (.inr hy)
  · rw [hi, if_pos rfl]
    have hd2 : l.drop (placeN f l (f x) + 1) = r := by
      rw [← List.drop_drop, hd]
      rfl
    rw [hd2]
    rw [hd, List.pairwise_cons] at hs
    constructor
    · rw [Srt, List.pairwise_append, List.pairwise_cons]
      refine ⟨hs.1, ⟨b, hs.2.1.2⟩, fun y hy z hz => ?_⟩
      rcases List.mem_cons.1 hz with rfl | hz
      · exact a y hy
      · exact hs.2.2 y hy z (List.mem_cons_of_mem _ hz)
    · intro y
      rw [List.mem_append, List.mem_cons, hm, hd, List.mem_cons]
      constructor
      · rintro (hy | rfl | hy)
        · exact .inr ⟨.inl hy, fun e2 => irr _ (by have := a y hy; rwa [e2] at this)⟩
        · exact .inl rfl
        · exact .inr ⟨.inr (.inr hy), fun e2 => irr _ (by have := b y hy; rwa [e2] at this)⟩
      · rintro (rfl | ⟨hy | rfl | hy, hn⟩)
        · exact .inr (.inl rfl)
        · exact .inl hy
        · exact absurd he hn
        · exact .inr (.inr hy)
/-- All of a list, in order, each once. -/
def sortP (l : List SPrefix) : List SPrefix := l.foldl (insK id) []
theorem sortP_of : ∀ (l k : List SPrefix), Srt id k → Srt id (l.foldl (insK id) k) ∧ ∀ y, y ∈ l.foldl (insK id) k ↔ (y ∈ l ∨ y ∈ k)
  | [], k, h => ⟨h, fun y => by simp⟩
  | x :: l, k, h => by
    obtain ⟨h1, h2⟩ := insK_sorted (f := id) h x
    obtain ⟨h3, h4⟩ := sortP_of l _ h1
    refine ⟨h3, fun y => ?_⟩
    rw [List.foldl_cons, h4, h2, List.mem_cons]
    simp only [id]
    constructor
    · rintro (e | e | ⟨e, _⟩)
      · exact .inl (.inr e)
      · exact .inl (.inl e)
      · exact .inr e
    · rintro ((e | e) | e)
      · exact .inr (.inl e)
      · exact .inl e
      · by_cases hx : y = x
        · exact .inr (.inl hx)
        · exact .inr (.inr ⟨e, hx⟩)
end Go.Proofs.Ytjjlofjpdklbgaa
/- trie -/
set_option linter.unusedVariables false
set_option linter.unusedSimpArgs false
namespace Go.Proofs.Ytjjlofjpdklbgaa
open Go Go.Gx

/-! ### The nodes: all keys, and what two side by side have in common -/
section
variable {κ : Type} {ok : κ → Prop} {bs : κ → List Bool} {both : κ → κ → κ} {bit : κ → κ → Bool}
/-- What each two side by side have in common. -/
def adj (both : κ → κ → κ) : List κ → List κ
  | a :: b :: r => both a b :: adj both (b :: r)
  | _ => []
theorem adj_cons (a : κ) : ∀ l : List κ, adj both (a :: l) = (match l.head? with | some b => [both a b] | none => []) ++ adj both l
  | [] => rfl
  | _ :: _ => rfl
theorem adj_app (x : κ) : ∀ (A B : List κ), x ∈ adj both (A ++ B) ↔ (x ∈ adj both A ∨ x ∈ adj both B ∨ ∃ a b, A.getLast? = some a ∧ B.head? = some b ∧ x = both a b)
  | [], B => by simp [adj]
  | [a], B => by
    rw [List.cons_append, List.nil_append, adj_cons]
    cases B with
    | nil => simp [adj]
    | cons b B =>
      simp only [List.head?_cons, List.mem_append, List.mem_singleton, List.getLast?_singleton, Option.some.injEq]
      constructor
      · rintro (e | e)
        · exact .inr (.inr ⟨a, b, rfl, rfl, e⟩)
        · exact .inr (.inl e)
      · rintro (e | e | ⟨a', b', rfl, rfl, e⟩)
        · simp [adj] at e
        · exact .inr e
        · exact .inl e
  | a :: a2 :: A, B => by
    have ih := adj_app x (a2 :: A) B
    show x ∈ both a a2 :: adj both (a2 :: A ++ B) ↔ _
    rw [List.mem_cons, ih]
    show _ ↔ (x ∈ both a a2 :: adj both (a2 :: A) ∨ _)
    rw [List.mem_cons, List.getLast?_cons_cons, or_assoc]
theorem lcp_pre : ∀ c x : List Bool, c <+: x → lcp c x = c
  | [], x, _ => by cases x <;> rfl
  | a :: c, [], h => by simp at h
  | a :: c, b :: x, h => by
    rw [List.cons_prefix_cons] at h
    obtain ⟨rfl, h⟩ := h
    simp [lcp, lcp_pre c x h]
theorem lcp_part : ∀ c x y : List Bool, c ++ [false] <+: x → c ++ [true] <+: y → lcp x y = c
  | [], x, y, h1, h2 => by
    obtain ⟨u, rfl⟩ := h1
    obtain ⟨v, rfl⟩ := h2
    rfl
  | a :: c, x, y, h1, h2 => by
    cases x with
    | nil => simp at h1
    | cons b x =>
      cases y with
      | nil => simp at h2
      | cons d y =>
        rw [List.cons_append, List.cons_prefix_cons] at h1 h2
        obtain ⟨rfl, h1⟩ := h1
        obtain ⟨rfl, h2⟩ := h2
        simp [lcp, lcp_part c x y h1 h2]
def keysT (t : Tr κ) : List κ := t.ents.map (·.1)
theorem keysT_node (p : κ) (v : Int) (h : Bool) (l r : Tr κ) : keysT (.node p v h l r) = (if h = true then [p] else []) ++ (keysT l ++ keysT r) := by
  unfold keysT
  simp only [Tr.ents, List.map_append]
  cases h <;> rfl
theorem keysT_in {t : Tr κ} {c : List Bool} (h : t.WF ok bs c) {x : κ} (hx : x ∈ keysT t) : ok x ∧ c <+: bs x := by
  obtain ⟨y, hy, rfl⟩ := List.mem_map.1 hx
  exact h.ents_in y hy
theorem keysT_nil {t : Tr κ} {c : List Bool} (h : t.WF ok bs c) (hn : t ≠ .nil) : keysT t ≠ [] := fun e => h.ne_nil hn (List.map_eq_nil_iff.1 e)
theorem KeyLaw.shape (K : KeyLaw ok bs both bit) (x : κ) : ∀ (t : Tr κ) (c : List Bool), t.WF ok bs c → (x ∈ t.shp ↔ (x ∈ keysT t ∨ x ∈ adj both (keysT t)))
  | .nil, _, _ => by simp [Tr.shp, keysT, Tr.ents, adj]
  | .node p v h l r, c, ⟨h1, h2, h3, h4, h5⟩ => by
    have il := K.shape x l _ h3
    have ir := K.shape x r _ h4
    have cl : ∀ a ∈ keysT l, both p a = p := fun a ha => by
      have hk := keysT_in h3 ha
      have hb := K.both p a h1 hk.1
      exact K.inj _ _ hb.1 h1 (hb.2.trans (lcp_pre _ _ (pre_snoc hk.2)))
    have cr : ∀ a ∈ keysT r, both p a = p := fun a ha => by
      have hk := keysT_in h4 ha
      have hb := K.both p a h1 hk.1
      exact K.inj _ _ hb.1 h1 (hb.2.trans (lcp_pre _ _ (pre_snoc hk.2)))
    have clr : ∀ a ∈ keysT l, ∀ b ∈ keysT r, both a b = p := fun a ha b hb => by
      have ka := keysT_in h3 ha
      have kb := keysT_in h4 hb
      have hh := K.both a b ka.1 kb.1
      exact K.inj _ _ hh.1 h1 (hh.2.trans (lcp_part _ _ _ ka.2 kb.2))
    rw [keysT_node]
    simp only [Tr.shp, List.mem_cons, List.mem_append, il, ir, adj_app]
    constructor
    · rintro (rfl | ⟨e | e⟩ | ⟨e | e⟩)
      · cases h with
        | true => exact .inl (.inl (by simp))
        | false =>
          obtain ⟨_, n1, n2⟩ := h5 rfl
          have k1 := keysT_nil h3 n1
          have k2 := keysT_nil h4 n2
          cases hl : (keysT l).getLast? with
          | none => exact absurd (List.getLast?_eq_none_iff.1 hl) k1
          | some a =>
            cases hr : (keysT r).head? with
            | none => exact absurd (List.head?_eq_none_iff.1 hr) k2
            | some b => exact .inr (.inr (.inl (.inr (.inr ⟨a, b, rfl, rfl, (clr a (List.mem_of_getLast? hl) b (List.mem_of_head? hr)).symm⟩))))
      · exact .inl (.inr (.inl e))
      · exact .inr (.inr (.inl (.inl e)))
      · exact .inl (.inr (.inr e))
      · exact .inr (.inr (.inl (.inr (.inl e))))
    · rintro ((e | e | e) | e | (e | e | ⟨a, b, ha, hb, e⟩) | ⟨a, b, ha, hb, e⟩)
      · cases h with
        | true => exact .inl (by simpa using e)
        | false => simp at e
      · exact .inr (.inl (.inl e))
      · exact .inr (.inr (.inl e))
      · cases h <;> simp [adj] at e
      · exact .inr (.inl (.inr e))
      · exact .inr (.inr (.inr e))
      · exact .inl (e.trans (clr a (List.mem_of_getLast? ha) b (List.mem_of_head? hb)))
      · cases h with
        | false => simp at ha
        | true =>
          simp at ha
          subst ha
          have hb2 := List.mem_of_head? hb
          rcases List.mem_append.1 hb2 with hb2 | hb2
          · exact .inl (e.trans (cl b hb2))
          · exact .inl (e.trans (cr b hb2))
end
end Go.Proofs.Ytjjlofjpdklbgaa
/- trie -/
set_option linter.unusedVariables false
set_option linter.unusedSimpArgs false
namespace Go.Proofs.Ytjjlofjpdklbgaa
open Go Go.Gx

/-! ### Where one stands -/
theorem place_at {α : Type} (f : α → SPrefix) (p : SPrefix) (z : α) : ∀ (l : List α) (i : Nat), i < l.length → (∀ j : Nat, j < i → cmpP (f (l.getD j z)) p < 0) → ¬ cmpP (f (l.getD i z)) p < 0 → placeN f l p = i ∧ isAt f l p = decide (cmpP (f (l.getD i z)) p = 0)
  | [], i, h, _, _ => by simp at h
  | x :: l, 0, _, _, h2 => by
    have h3 : ¬ cmpP (f x) p < 0 := h2
    have en : placeN f (x :: l) p = 0 := by
      unfold placeN
      rw [List.takeWhile_cons, if_neg (fun e => h3 (of_decide_eq_true e))]
      rfl
    refine ⟨en, ?_⟩
    unfold isAt
    rw [en]
    rfl
  | x :: l, i + 1, h, h1, h2 => by
    have hc : cmpP (f x) p < 0 := h1 0 (by omega)
    obtain ⟨a, b⟩ := place_at f p z l i (by simpa using h) (fun j hj => h1 (j + 1) (by omega)) h2
    have en : placeN f (x :: l) p = placeN f l p + 1 := by
      unfold placeN
      rw [List.takeWhile_cons, if_pos (decide_eq_true hc)]
      rfl
    refine ⟨by rw [en, a], ?_⟩
    have ei : isAt f (x :: l) p = isAt f l p := by unfold isAt; rw [en]; rfl
    rw [ei, b]
    rfl
theorem place_end {α : Type} (f : α → SPrefix) (p : SPrefix) (z : α) : ∀ (l : List α), (∀ j : Nat, j < l.length → cmpP (f (l.getD j z)) p < 0) → placeN f l p = l.length ∧ isAt f l p = false
  | [], _ => ⟨rfl, rfl⟩
  | x :: l, h => by
    have hc : cmpP (f x) p < 0 := h 0 (by simp)
    obtain ⟨a, b⟩ := place_end f p z l (fun j hj => h (j + 1) (by simpa using hj))
    have en : placeN f (x :: l) p = placeN f l p + 1 := by
      unfold placeN
      rw [List.takeWhile_cons, if_pos (decide_eq_true hc)]
      rfl
    refine ⟨by rw [en, a]; rfl, ?_⟩
    have ei : isAt f (x :: l) p = isAt f l p := by unfold isAt; rw [en]; rfl
    rw [ei, b]
theorem place_le {α : Type} (f : α → SPrefix) (p : SPrefix) (l : List α) : placeN f l p ≤ l.length := by
  unfold placeN
  exact List.Sublist.length_le (List.takeWhile_sublist _)
theorem place_lt {α : Type} {f : α → SPrefix} {p : SPrefix} {l : List α} (h : isAt f l p = true) : placeN f l p < l.length := by
  unfold isAt at h
  apply Classical.byContradiction
  intro hn
  rw [List.drop_eq_nil_of_le (by omega)] at h
  cases h
theorem insK_length {α : Type} (f : α → SPrefix) (l : List α) (x : α) : (insK f l x).length ≤ l.length + 1 := by
  have := place_le f (f x) l
  unfold insK
  rw [List.length_append, List.length_cons, List.length_take, List.length_drop]
  split <;> omega
theorem ins_yes {α : Type} (f : α → SPrefix) (l : List α) (x : α) (h : isAt f l (f x) = true) : insK f l x = [] ++ List.drop 0 (List.take ((placeN f l (f x) : Nat) : Int).toNat l) ++ [x] ++ List.drop (((placeN f l (f x) : Nat) : Int) + 1).toNat (List.take l.length l) := by
  have e : (((placeN f l (f x) : Nat) : Int) + 1).toNat = placeN f l (f x) + 1 := by omega
  rw [e, List.take_length]
  unfold insK
  rw [h, if_pos rfl]
  simp
theorem ins_no {α : Type} (f : α → SPrefix) (l : List α) (x : α) (h : isAt f l (f x) = false) : insK f l x = [] ++ List.drop 0 (List.take ((placeN f l (f x) : Nat) : Int).toNat l) ++ [x] ++ List.drop ((placeN f l (f x) : Nat) : Int).toNat (List.take l.length l) := by
  rw [List.take_length]
  unfold insK
  rw [h, if_neg Bool.false_ne_true]
  simp

structure SRef18Trie where
  l : OV

def SRef18Trie.to : OV → SRef18Trie := fun x => ⟨x⟩

def SRef18Trie.of : SRef18Trie → OV := fun x => x.l

def eRef18Trie : Enc SRef18Trie := isoE (ovE nilSl) SRef18Trie.to SRef18Trie.of

def SRef18Trie.l_l : Lens eRef18Trie (ovE nilSl) 0 := lIso _ SRef18Trie.to SRef18Trie.of (fun _ => rfl) (Lens.id (ovE nilSl))

@[simp] theorem SRef18Trie.get_l (x : SRef18Trie) : SRef18Trie.l_l.get x = x.l := rfl

@[simp] theorem SRef18Trie.set_l (x : SRef18Trie) (y : OV) : SRef18Trie.l_l.set x y = { x with l := y } := rfl

theorem en66 : Gx.Enters Try.prog 66 := Gx.Enters.mk' (by kernel_rfl)

theorem place_ok (tr : SRef18Trie) (ls : List SRef18Entry) (p : SPrefix) (w : World) (hx : IsSl eRef18Entry w tr.l.v ls) : Calls Try.prog 47 #[eRef18Trie.val tr, ePrefix.val p] w (RetV w (.tuple #[I (placeN (fun e : SRef18Entry => e.p) ls p), .bool (isAt (fun e : SRef18Entry => e.p) ls p)])) := by
  have hle := hx.le
  refine enter0 31 Try.func47 rfl rfl (Nat.le_of_ble_eq_true rfl) ?_
  refine seq (region (cons (box (E := eRef18Trie) (.t rfl) (fun b1 => ?_))))
  refine cons (box (E := ePrefix) (.t rfl) (fun b2 => ?_))
  refine cons (opv (Ev.assign (.c (v := I 0) rfl)) ?_)
  refine cons (opv (Ev.assign (.c (v := .bool false) rfl)) ?_)
  refine nil (pN (seq (seq (region (cons (opv (Ev.assign (.c (v := I 0) rfl)) ?_))))))
  refine nil (pN (block (lp (X := Int) (fun x : Int => (0 ≤ x ∧ x ≤ ls.length) ∧ (∀ j : Nat, j < x → cmpP (ls.getD j eRef18Entry.zero).p p < 0)) (fun x : Int => [dz, (2, true, .pointer (some ⟨b1, 0, none⟩)), (3, true, .pointer (some ⟨b2, 0, none⟩)), (4, true, I 0), (5, true, .bool false), (6, true, I x)]) (fun x : Int => [Var b2 ePrefix p 36, Var b1 eRef18Trie tr 64]) (fun x : Int => ((ls.length : Int) - x).toNat) (0) ⟨?_, ?_⟩ (fun x hx => ?_))))
  · omega
  · intro j h; omega
  obtain ⟨i, rfl⟩ : ∃ y, y = x := ⟨x, rfl⟩
  obtain ⟨hi, hq⟩ : (0 ≤ i ∧ i ≤ ls.length) ∧ (∀ j : Nat, j < i → cmpP (ls.getD j eRef18Entry.zero).p p < 0) := hx
  show Sat _ _ [dz, (2, true, .pointer (some ⟨b1, 0, none⟩)), (3, true, .pointer (some ⟨b2, 0, none⟩)), (4, true, I 0), (5, true, .bool false), (6, true, I i)] [Var b2 ePrefix p 36, Var b1 eRef18Trie tr 64]
  refine seq (seq (region (cons (opv (Ev.move (.t rfl)) (cons (opv (Ev.fieldAddr (o := 0) (.t rfl) (by kernel_rfl)) ?_))))))
  refine cons (opv (Ev.ldx tr.l ty53 (.t rfl) SRef18Trie.l_l) ?_)
  refine cons (opv (Ev.len Try.underlying53 (.t rfl) (fun w I => hx.keep0 I.keeps)) ?_)
  refine cons (opv (Ev.lss_i (.t rfl) (.t rfl)) ?_)
  refine nil (pN ?_)
  first | refine condD rfl (fun h0 => ?_) (fun h0 => ?_) | refine cond rfl (fun h0 => ?_) (fun h0 => ?_)
  · try simp only [Gx.nb] at h0
    refine skip (pN (seq (block (seq (draw' (by kernel_rfl) ?_)))))
    refine tk 0 rfl (Ev.fieldAddr (o := 0) (.t rfl) (by kernel_rfl)) ?_
    refine tk 1 rfl (Ev.ldx tr.l ty53 (.t rfl) SRef18Trie.l_l) ?_
    refine tk 2 rfl (Ev.move (.t rfl)) ?_
    refine tk 3 rfl (Ev.indexAddr Try.underlying53 ty97 (.t rfl) (.t rfl) (fun w I => hx.keep0 I.keeps) (fun _ => by omega)) ?_
    refine tk 4 rfl (Ev.fieldAddrS (o := 0) (i := i) (.t rfl) (fun w I => hx.keep0 I.keeps) (fun _ => by omega) (by kernel_rfl)) ?_
    refine tk 5 rfl (Ev.loadS ty36 SRef18Entry.l_p rfl (.t rfl) (fun w I => hx.keep0 I.keeps) (fun _ => by omega)) ?_
    refine tk 6 rfl (Ev.ldx p ty36 (.t rfl) (Lens.id _)) ?_
    refine al1 7 rfl ((callv en66 (.cons (.t rfl) (.cons (.t rfl) .nil)) (fun w I => r15cmp_ok _ _ w) ?_))
    refine hdn (tk 8 rfl (Ev.assign (.t rfl)) ?_)
    refine ovr (pN (seq (region (cons (opv (Ev.move (.t rfl)) (cons (opv (Ev.geq_i (.t rfl) (.c (v := I 0) rfl)) ?_)))))))
    refine nil (pN ?_)
    first | refine condD rfl (fun h1 => ?_) (fun h1 => ?_) | refine cond rfl (fun h1 => ?_) (fun h1 => ?_)
    · have hge : ¬ cmpP (ls.getD i.toNat eRef18Entry.zero).p p < 0 := by
        have h9 : 0 ≤ cmpP (ls.getD i.toNat eRef18Entry.zero).p p := h1
        omega
      refine seq (region (cons (opv (Ev.move (.t rfl)) (cons (opv (Ev.move (.t rfl)) (cons (opv (Ev.eql_i (.t rfl) (.c (v := I 0) rfl)) ?_)))))))
      refine cons (opv (Ev.assign (.t rfl)) (cons (opv (Ev.assign (.t rfl)) (nil (pN (ret (bR (pR (pR (bR (pR (done rfl (.tmp rfl (.tmp rfl .nil)) (retE ?_)))))))))))))
      obtain ⟨e1, e2⟩ := place_at (fun e : SRef18Entry => e.p) p eRef18Entry.zero ls i.toNat (by omega) (fun j hj => hq j (by omega)) hge
      rw [e1, e2, Int.toNat_of_nonneg hi.1]; rfl
    · have hlt : cmpP (ls.getD i.toNat eRef18Entry.zero).p p < 0 := by
        have h9 : ¬ (0 ≤ cmpP (ls.getD i.toNat eRef18Entry.zero).p p) := h1
        omega
      refine skip (bN (pN (region (cons (opv (Ev.move (.t rfl)) (cons (opv (Ev.add_i (.t rfl) (.c (v := I 1) rfl) (fun _ => by omega)) ?_)))))))
      refine cons (opv (Ev.assign (.t rfl)) (nil (pN (nx (X := Int) (i + 1) ⟨?_, ?_⟩ ?_))))
      · try dsimp only
        omega
      · try dsimp only
        intro j hj
        by_cases e : (j : Int) < i
        · exact hq j e
        · obtain rfl : j = i.toNat := by omega
          exact hlt
      · try dsimp only
        omega
  · try simp only [Gx.nb] at h0
    refine exit (pX (pX (bX (pN (seq (region (cons (opv (Ev.fieldAddr (o := 0) (.t rfl) (by kernel_rfl)) ?_))))))))
    refine cons (opv (Ev.ldx tr.l ty53 (.t rfl) SRef18Trie.l_l) ?_)
    refine cons (opv (Ev.len Try.underlying53 (.t rfl) (fun w I => hx.keep0 I.keeps)) ?_)
    refine cons (opv (Ev.assign (.t rfl)) (cons (opv (Ev.assign (.c (v := .bool false) rfl)) ?_)))
    refine nil (pN (ret (done rfl (.tmp rfl (.tmp rfl .nil)) (retE ?_))))
    obtain ⟨e1, e2⟩ := place_end (fun e : SRef18Entry => e.p) p eRef18Entry.zero ls (fun j hj => hq j (by omega))
    rw [e1, e2]; rfl

theorem ins_eq {α : Type} (f : α → SPrefix) (l : List α) (x : α) : insK f l x = l.take (placeN f l (f x)) ++ ([x] ++ l.drop (placeN f l (f x) + if isAt f l (f x) = true then 1 else 0)) := rfl

theorem z64 : (Try.prog.info? 64).bind (·.zero) = some (eRef18Trie.val eRef18Trie.zero) := by kernel_rfl

theorem ty64 : TyOK Try.prog 64 eRef18Trie := TyOK.mk' (by kernel_rfl) (by kernel_rfl)

theorem en47 : Gx.Enters Try.prog 47 := Gx.Enters.mk' (by kernel_rfl)

theorem withE_ok (tr : SRef18Trie) (ls : List SRef18Entry) (e : SRef18Entry) (w : World) (hx : IsSl eRef18Entry w tr.l.v ls) (hn : ls.length ≤ 1000000) : Calls Try.prog 46 #[eRef18Trie.val tr, eRef18Entry.val e] w (RetN w (fun _ : OV => True) (fun o => eRef18Trie.val ⟨o⟩) (fun o => [OwnS o.v eRef18Entry (insK (fun e : SRef18Entry => e.p) ls e) 97])) := by
  refine enter0 35 Try.func46 rfl rfl (Nat.le_of_ble_eq_true rfl) ?_
  refine seq (region (cons (box (E := eRef18Trie) (.t rfl) (fun b1 => ?_))))
  refine cons (box (E := eRef18Entry) (.t rfl) (fun b2 => ?_))
  refine cons (alloc z64 (fun b3 => ?_))
  refine nil (pN (seq ?_))
  have hpl := place_le (fun e : SRef18Entry => e.p) e.p ls
  refine region (cons (opv (Ev.ldx tr ty64 (.t rfl) (Lens.id _)) ?_))
  refine cons (opv (Ev.fieldAddr (o := 0) (.t rfl) (by kernel_rfl)) ?_)
  refine cons (opv (Ev.ldx e.p ty36 (.t rfl) SRef18Entry.l_p) ?_)
  refine cons (callv en47 (.cons (.t rfl) (.cons (.t rfl) .nil)) (fun w I => place_ok tr ls e.p w (hx.keep0 I.keeps)) ?_)
  refine cons (opv (Ev.move (.t rfl)) (cons (opv (Ev.extract (.t rfl) rfl) (cons (opv (Ev.extract (.t rfl) rfl) (cons (opv (Ev.assign (.t rfl)) (cons (opv (Ev.assign (.t rfl)) (nil (pN (seq (region (cons (opv (Ev.assign (.c (v := (Go.Value.slice none 0 0)) rfl)) ?_)))))))))))))))
  refine takeNil eRef18Entry 97 ?_
  refine nil (pN (seq (region (cons (opv (Ev.move (.t rfl)) (cons (opv (Ev.fieldAddr (o := 0) (.t rfl) (by kernel_rfl)) ?_)))))))
  refine cons (opv (Ev.ldx tr.l ty53 (.t rfl) SRef18Trie.l_l) ?_)
  refine cons (opv (Ev.move (.t rfl)) (cons (opv (Ev.sliceH Try.underlying53 ty97 (.t rfl) (.t rfl) (fun w I => hx.keep0 I.keeps) (fun _ => by omega)) ?_)))
  refine cons (app (E := eRef18Entry) Try.underlying53 ty97 zb97 zs97 (.t rfl) (.t rfl) (fun v4 => ?_) (hsrc := (fun w I => IsSl.sub (w := w) (hx.keep0 I.keeps) (by omega) (by omega))) (hby := ⟨by (show _ ≤ 9223372036854775807); first | omega | (simp; done) | (simp; omega), by first | omega | (simp; done) | (simp; omega)⟩))
  refine cons (opv (Ev.assign (.t rfl)) (nil (pN (seq (region (cons (opv (Ev.move (.t rfl)) (cons (opv (Ev.ldx e ty97 (.t rfl) (Lens.id _)) ?_)))))))))
  refine cons (buildSlice (E := eRef18Entry) Try.underlying53 ty97 z97 (.cons (.t rfl) .nil) rfl rfl (fun v5 => ?_))
  refine cons (app (E := eRef18Entry) Try.underlying53 ty97 zb97 zs97 (.t rfl) (.t rfl) (fun v6 => ?_) (hby := ⟨by (show _ ≤ 9223372036854775807); first | omega | (simp; done) | (simp; omega), by first | omega | (simp; done) | (simp; omega)⟩))
  refine cons (opv (Ev.assign (.t rfl)) (nil (pN (seq (seq (region (cons (opv (Ev.move (.t rfl)) (nil (pN ?_))))))))))
  first | refine condD rfl (fun h0 => ?_) (fun h0 => ?_) | refine cond rfl (fun h0 => ?_) (fun h0 => ?_)
  · have hlt := place_lt h0
    refine region (cons (opv (Ev.move (.t rfl)) (cons (opv (Ev.add_i (.t rfl) (.c (v := I 1) rfl) (fun _ => by omega)) ?_))))
    refine cons (opv (Ev.assign (.t rfl)) (nil (pN (seq (region (cons (opv (Ev.move (.t rfl)) (cons (opv (Ev.fieldAddr (o := 0) (.t rfl) (by kernel_rfl)) ?_)))))))))
    refine cons (opv (Ev.ldx tr.l ty53 (.t rfl) SRef18Trie.l_l) ?_)
    refine cons (opv (Ev.move (.t rfl)) (cons (opv (Ev.sliceL Try.underlying53 ty97 (.t rfl) (.t rfl) (fun w I => hx.keep0 I.keeps) (fun _ => by omega)) ?_)))
    refine cons (app (E := eRef18Entry) Try.underlying53 ty97 zb97 zs97 (.t rfl) (.t rfl) (fun v7 => ?_) (hsrc := (fun w I => IsSl.sub (w := w) (hx.keep0 I.keeps) (by omega) (by omega))) (hby := ⟨by (show _ ≤ 9223372036854775807); first | omega | (simp; done) | (simp; omega), by first | omega | (simp; done) | (simp; omega)⟩))
    refine cons (opv (Ev.buildS (fs := _) (places := [(0, 1)]) z64 rfl Try.underlying64 (by kernel_rfl) (.cons (.t rfl) .nil) (Fills.cons SRef18Trie.l_l rfl Fills.nil)) ?_)
    refine cons (stv ty64 (Lens.id _) (.t rfl) (.t rfl) ?_)
    refine nil (pN (ret (done rfl (.cell rfl (fun w I => run_loadVar_pts ty64 (ptsVar (by repeat first | exact mH | apply mT | apply mA) (Lens.id _) w I)) .nil) (fun w I => ?_))))
    refine retNP v7 trivial rfl ?_ w I
    first | rw [ins_yes (fun e : SRef18Entry => e.p) ls e h0] | rw [ins_no (fun e : SRef18Entry => e.p) ls e h0]
    exact (by repeat first | exact SubP.nil | refine SubP.cons (by repeat first | exact Rem.head | apply Rem.tail) ?_)
  · refine skip (pN (seq (region (cons (opv (Ev.move (.t rfl)) (cons (opv (Ev.fieldAddr (o := 0) (.t rfl) (by kernel_rfl)) ?_)))))))
    refine cons (opv (Ev.ldx tr.l ty53 (.t rfl) SRef18Trie.l_l) ?_)
    refine cons (opv (Ev.move (.t rfl)) (cons (opv (Ev.sliceL Try.underlying53 ty97 (.t rfl) (.t rfl) (fun w I => hx.keep0 I.keeps) (fun _ => by omega)) ?_)))
    refine cons (app (E := eRef18Entry) Try.underlying53 ty97 zb97 zs97 (.t rfl) (.t rfl) (fun v8 => ?_) (hsrc := (fun w I => IsSl.sub (w := w) (hx.keep0 I.keeps) (by omega) (by omega))) (hby := ⟨by (show _ ≤ 9223372036854775807); first | omega | (simp; done) | (simp; omega), by first | omega | (simp; done) | (simp; omega)⟩))
    refine cons (opv (Ev.buildS (fs := _) (places := [(0, 1)]) z64 rfl Try.underlying64 (by kernel_rfl) (.cons (.t rfl) .nil) (Fills.cons SRef18Trie.l_l rfl Fills.nil)) ?_)
    refine cons (stv ty64 (Lens.id _) (.t rfl) (.t rfl) ?_)
    refine nil (pN (ret (done rfl (.cell rfl (fun w I => run_loadVar_pts ty64 (ptsVar (by repeat first | exact mH | apply mT | apply mA) (Lens.id _) w I)) .nil) (fun w I => ?_))))
    refine retNP v8 trivial rfl ?_ w I
    first | rw [ins_yes (fun e : SRef18Entry => e.p) ls e h0] | rw [ins_no (fun e : SRef18Entry => e.p) ls e h0]
    exact (by repeat first | exact SubP.nil | refine SubP.cons (by repeat first | exact Rem.head | apply Rem.tail) ?_)

def SRef18Entry.eqb (x y : SRef18Entry) : Bool := SPrefix.eqb x.p y.p && (eqd x.v y.v && (true))

theorem SRef18Entry.eqb_iff (x y : SRef18Entry) : SRef18Entry.eqb x y = true ↔ x = y := by
  obtain ⟨a0, a1⟩ := x
  obtain ⟨b0, b1⟩ := y
  simp only [SRef18Entry.eqb, Bool.and_eq_true, SPrefix.eqb_iff, eqd_iff, SRef18Entry.mk.injEq, and_true]

theorem eqok97 : EqOK Try.prog 97 eRef18Entry SRef18Entry.eqb 5 := eqok_struct (fs := _) Try.underlying97 (by kernel_rfl) rfl (EqF.cons (by decide) rfl SRef18Entry.l_p ty36 eqok36 (EqF.cons (by decide) rfl SRef18Entry.l_v ty3 (fun d hd => (eqok_i Try.underlying3) d (by omega)) EqF.nil)) (fun _ _ => rfl)

instance : DecidableEq SRef18Entry := fun x y => decidable_of_iff (SRef18Entry.eqb x y = true) (SRef18Entry.eqb_iff x y)

@[simp] theorem SRef18Entry.eqb_dec (x y : SRef18Entry) : SRef18Entry.eqb x y = decide (x = y) := by
  rw [Bool.eq_iff_iff, decide_eq_true_iff]
  exact SRef18Entry.eqb_iff x y

theorem SRef18Entry.eqb_self (x : SRef18Entry) : SRef18Entry.eqb x x = true := (SRef18Entry.eqb_iff x x).2 rfl

theorem r18same_ok (u v : Value) (xs ys : List SRef18Entry) (w : World) (hx : IsSl eRef18Entry w u xs) (hy : IsSl eRef18Entry w v ys) : Calls Try.prog 29 #[u, v] w (RetV w (.bool (decide (xs = ys)))) := by
  have hle1 := hx.le
  have hle2 := hy.le
  refine enter0 26 Try.func29 rfl rfl (Nat.le_of_ble_eq_true rfl) ?_
  refine seq (region (cons (opv (Ev.assign (.c (v := .bool false) rfl)) ?_)))
  refine nil (pN (seq (seq (region (cons (opv (Ev.move (.t rfl)) (cons (opv (Ev.len Try.underlying53 (.t rfl) (fun w I => hx.keep0 I.keeps)) ?_))))))))
  refine cons (opv (Ev.move (.t rfl)) (cons (opv (Ev.len Try.underlying53 (.t rfl) (fun w I => hy.keep0 I.keeps)) ?_)))
  refine cons (opv (Ev.neq_i (.t rfl) (.t rfl)) ?_)
  refine nil (pN ?_)
  first | refine condD rfl (fun h0 => ?_) (fun h0 => ?_) | refine cond rfl (fun h0 => ?_) (fun h0 => ?_)
  · refine seq (region (cons (opv (Ev.assign (.c (v := .bool false) rfl)) ?_)))
    refine nil (pN (ret (pR (done rfl (.tmp rfl .nil) (retE ?_)))))
    have e : ¬ xs = ys := fun e => by rw [e] at h0; simp at h0
    rw [decide_eq_false e]; rfl
  · have hl : xs.length = ys.length := by
      have h9 : (xs.length : Int) = ys.length := by simpa using h0
      omega
    refine skip (pN (seq (seq (region (cons (opv (Ev.assign (.c (v := I 0) rfl)) ?_))))))
    refine nil (pN (block (lp (X := Int) (fun x : Int => (0 ≤ x ∧ x ≤ xs.length) ∧ (∀ j : Nat, j < x → xs.getD j eRef18Entry.zero = ys.getD j eRef18Entry.zero)) (fun x : Int => [dz, (0, true, u), (1, true, v), (5, true, I x)]) (fun x : Int => []) (fun x : Int => ((xs.length : Int) - x).toNat) (0) ⟨?_, ?_⟩ (fun x hx => ?_))))
    · omega
    · intro j h; omega
    obtain ⟨i, rfl⟩ : ∃ y, y = x := ⟨x, rfl⟩
    obtain ⟨hi, hz⟩ : (0 ≤ i ∧ i ≤ xs.length) ∧ (∀ j : Nat, j < i → xs.getD j eRef18Entry.zero = ys.getD j eRef18Entry.zero) := hx
    show Sat _ _ [dz, (0, true, u), (1, true, v), (5, true, I i)] []
    refine seq (seq (region (cons (opv (Ev.move (.t rfl)) (cons (opv (Ev.move (.t rfl)) (cons (opv (Ev.len Try.underlying53 (.t rfl) (fun w I => hx.keep0 I.keeps)) ?_))))))))
    refine cons (opv (Ev.lss_i (.t rfl) (.t rfl)) ?_)
    refine nil (pN ?_)
    first | refine condD rfl (fun h1 => ?_) (fun h1 => ?_) | refine cond rfl (fun h1 => ?_) (fun h1 => ?_)
    · try simp only [Gx.nb] at h1
      refine skip (pN (seq (block (seq (draw' (by kernel_rfl) ?_)))))
      refine tk 0 rfl (Ev.move (.t rfl)) ?_
      refine tk 1 rfl (Ev.move (.t rfl)) ?_
      refine tk 2 rfl (Ev.indexAddr Try.underlying53 ty97 (.t rfl) (.t rfl) (fun w I => hx.keep0 I.keeps) (fun _ => by omega)) ?_
      refine tk 3 rfl (Ev.loadS0 ty97 (.t rfl) (fun w I => hx.keep0 I.keeps) (fun _ => by omega)) ?_
      refine tk 4 rfl (Ev.move (.t rfl)) ?_
      refine tk 5 rfl (Ev.move (.t rfl)) ?_
      refine tk 6 rfl (Ev.indexAddr Try.underlying53 ty97 (.t rfl) (.t rfl) (fun w I => hy.keep0 I.keeps) (fun _ => by omega)) ?_
      refine tk 7 rfl (Ev.loadS0 ty97 (.t rfl) (fun w I => hy.keep0 I.keeps) (fun _ => by omega)) ?_
      refine tk 8 rfl (Ev.neqS rfl eqok97 rfl (by kernel_rfl) (.t rfl) (.t rfl)) ?_
      refine ovr (pN ?_)
      first | refine condD rfl (fun h2 => ?_) (fun h2 => ?_) | refine cond rfl (fun h2 => ?_) (fun h2 => ?_)
      · have hne : ¬ xs.getD i.toNat eRef18Entry.zero = ys.getD i.toNat eRef18Entry.zero := by simpa [-List.getD_eq_getElem?_getD] using h2
        refine seq (region (cons (opv (Ev.assign (.c (v := .bool false) rfl)) ?_)))
        refine nil (pN (ret (bR (pR (pR (bR (pR (done rfl (.tmp rfl .nil) (retE ?_)))))))))
        have e : ¬ xs = ys := fun e => hne (by rw [e])
        rw [decide_eq_false e]; rfl
      · have heq : xs.getD i.toNat eRef18Entry.zero = ys.getD i.toNat eRef18Entry.zero := by simpa [-List.getD_eq_getElem?_getD] using h2
        refine skip (bN (pN (region (cons (opv (Ev.move (.t rfl)) (cons (opv (Ev.add_i (.t rfl) (.c (v := I 1) rfl) (fun _ => by omega)) ?_)))))))
        refine cons (opv (Ev.assign (.t rfl)) (nil (pN (nx (X := Int) (i + 1) ⟨?_, ?_⟩ ?_))))
        · try dsimp only
          omega
        · try dsimp only
          intro j hj
          by_cases e : (j : Int) < i
          · exact hz j e
          · obtain rfl : j = i.toNat := by omega
            exact heq
        · try dsimp only
          omega
    · try simp only [Gx.nb] at h1
      refine exit (pX (pX (bX (pN (seq (region (cons (opv (Ev.assign (.c (v := .bool true) rfl)) ?_))))))))
      refine nil (pN (ret (done rfl (.tmp rfl .nil) (retE ?_))))
      have e : xs = ys := by
        apply List.ext_getElem hl
        intro k h1a h2a
        have h9 := hz k (by omega)
        rwa [getD_at h1a, getD_at h2a] at h9
      rw [decide_eq_true e]; rfl
end Go.Proofs.Ytjjlofjpdklbgaa
