/- trie -/
import Derived.Test.YtjjlofjpdklbgaaT6
set_option linter.unusedVariables false
set_option linter.unusedSimpArgs false
namespace Go.Proofs.Ytjjlofjpdklbgaa
open Go Go.Gx

structure Tt where
  b : Nat
  made : Bool
  n : Int
  l : PT
  r : PT
def Tt.ptr (t : Tt) : OV := ⟨.pointer (some ⟨t.b, 0, none⟩), rfl⟩
def Tt.val (t : Tt) : STrieTrie := ⟨t.made, t.n, kids t.l t.r⟩
def Tt.At (w : World) (t : Tt) : Prop := PtsTo eTrieTrie w t.b 0 t.val ∧ t.l.At w ∧ t.r.At w
theorem Tt.At.keep {w w' : World} {t : Tt} (h : t.At w) (k : Keeps Nope w w') : t.At w' := ⟨h.1.keep k, h.2.1.keep k, h.2.2.keep k⟩
def Tt.ents (t : Tt) : List (SPrefix × Int) := t.l.tr.ents ++ t.r.tr.ents
structure Tt.OK (t : Tt) : Prop where
  made : t.made = true
  n : t.n = t.ents.length
  l : t.l.tr.WF (okP false) pb []
  r : t.r.tr.WF (okP true) pb []
theorem Tt.OK.kid {t : Tt} (h : t.OK) (k : Bool) : (PT.kid k t.l t.r).tr.WF (okP k) pb [] := by cases k; exact h.l; exact h.r
theorem Tt.At.kid {w : World} {t : Tt} (h : t.At w) (k : Bool) : (PT.kid k t.l t.r).At w := PT.At.kid h.2.1 h.2.2 k
theorem pb_keys {k : Bool} {t : Tr SPrefix} {c : List Bool} (h : t.WF (okP k) pb c) : (t.ents.map (·.1)).Nodup := by
  have h1 := h.ents_sorted
  rw [List.nodup_iff_pairwise_ne, List.pairwise_map]
  exact h1.imp (fun {a b} hab e => by rw [e, ltB_irr] at hab; cases hab)
theorem Tt.OK.nodup {t : Tt} (h : t.OK) : (t.ents.map (·.1)).Nodup := by
  unfold Tt.ents
  rw [List.map_append, List.nodup_append]
  refine ⟨pb_keys h.l, pb_keys h.r, fun a ha b hb e => ?_⟩
  obtain ⟨x, hx, rfl⟩ := List.mem_map.1 ha
  obtain ⟨y, hy, rfl⟩ := List.mem_map.1 hb
  have h1 := (h.l.ents_in x hx).1.2
  have h2 := (h.r.ents_in y hy).1.2
  rw [e, h2] at h1
  cases h1
theorem Tt.OK.valid {t : Tt} (h : t.OK) {x : SPrefix × Int} (hx : x ∈ t.ents) : checkP x.1 = 0 := by
  rcases List.mem_append.1 hx with hx | hx
  · exact (h.l.ents_in x hx).1.1
  · exact (h.r.ents_in x hx).1.1
/-- An entry lies in the root of its kind. -/
theorem Tt.OK.mem {t : Tt} (h : t.OK) (x : SPrefix × Int) : x ∈ t.ents ↔ x ∈ (PT.kid x.1.addr.v6 t.l t.r).tr.ents := by
  unfold Tt.ents
  rw [List.mem_append]
  constructor
  · rintro (hx | hx)
    · rw [(h.l.ents_in x hx).1.2]; exact hx
    · rw [(h.r.ents_in x hx).1.2]; exact hx
  · intro hx
    cases hv : x.1.addr.v6 with
    | false => rw [hv] at hx; exact .inl hx
    | true => rw [hv] at hx; exact .inr hx
theorem Tt.OK.mem_k {t : Tt} (h : t.OK) (k : Bool) (x : SPrefix × Int) : x ∈ (PT.kid k t.l t.r).tr.ents ↔ (x ∈ t.ents ∧ x.1.addr.v6 = k) := by
  constructor
  · intro hx
    have e := ((h.kid k).ents_in x hx).1.2
    exact ⟨(h.mem x).2 (by rw [e]; exact hx), e⟩
  · rintro ⟨hx, rfl⟩
    exact (h.mem x).1 hx
theorem nodup_of_keys {l : List (SPrefix × Int)} (h : (l.map (·.1)).Nodup) : l.Nodup := by
  rw [List.nodup_iff_pairwise_ne, List.pairwise_map] at h
  rw [List.nodup_iff_pairwise_ne]
  exact h.imp (fun {a b} hab e => hab (by rw [e]))
theorem len_new {l m : List (SPrefix × Int)} (hl : (l.map (·.1)).Nodup) (hm : (m.map (·.1)).Nodup) {p : SPrefix} {v : Int} (h : ∀ x, x ∈ m ↔ (x = (p, v) ∨ (x ∈ l ∧ x.1 ≠ p))) :
    ((∀ x ∈ l, x.1 ≠ p) → m.length = l.length + 1) ∧ ((∃ x ∈ l, x.1 = p) → m.length = l.length) := by
  constructor
  · intro hn
    have hp : m.Perm ((p, v) :: l) := (List.perm_ext_iff_of_nodup (nodup_of_keys hm) (List.nodup_cons.2 ⟨fun hx => hn _ hx rfl, nodup_of_keys hl⟩)).2 (fun x => by
      rw [h, List.mem_cons]
      exact ⟨fun g => g.imp id (·.1), fun g => g.imp id (fun g => ⟨g, hn x g⟩)⟩)
    simpa using hp.length_eq
  · rintro ⟨y, hy, hyp⟩
    have hp : (m.map (·.1)).Perm (l.map (·.1)) := (List.perm_ext_iff_of_nodup hm hl).2 (fun q => by
      simp only [List.mem_map]
      constructor
      · rintro ⟨x, hx, rfl⟩
        rcases (h x).1 hx with rfl | ⟨hx, _⟩
        · exact ⟨y, hy, hyp⟩
        · exact ⟨x, hx, rfl⟩
      · rintro ⟨x, hx, rfl⟩
        by_cases e : x.1 = p
        · exact ⟨(p, v), (h _).2 (.inl rfl), e.symm⟩
        · exact ⟨x, (h x).2 (.inr ⟨hx, e⟩), rfl⟩)
    simpa using hp.length_eq
theorem len_less {l m : List (SPrefix × Int)} (hl : (l.map (·.1)).Nodup) (hm : (m.map (·.1)).Nodup) {p : SPrefix} (h : ∀ x, x ∈ m ↔ (x ∈ l ∧ x.1 ≠ p)) (hp : ∃ x ∈ l, x.1 = p) : m.length + 1 = l.length := by
  obtain ⟨y, hy, hyp⟩ := hp
  have h2 := (len_new hm hl (p := y.1) (v := y.2) (fun x => by
    rw [h]
    constructor
    · intro hx
      by_cases e : x.1 = p
      · left
        have hin : ∀ (l : List (SPrefix × Int)), (l.map (·.1)).Nodup → ∀ a ∈ l, ∀ b ∈ l, a.1 = b.1 → a = b := by
          intro l
          induction l with
          | nil => intro _ a ha; simp at ha
          | cons z l ih =>
            intro hn a ha b hb hab
            rw [List.map_cons, List.nodup_cons] at hn
            rcases List.mem_cons.1 ha with ha | ha <;> rcases List.mem_cons.1 hb with hb | hb
            · rw [ha, hb]
            · exact absurd (List.mem_map.2 ⟨b, hb, by rw [← hab, ha]⟩) hn.1
            · exact absurd (List.mem_map.2 ⟨a, ha, by rw [hab, hb]⟩) hn.1
            · exact ih hn.2 a ha b hb hab
        exact hin l hl x hx y hy (e.trans hyp.symm)
      · exact .inr ⟨⟨hx, e⟩, by rw [hyp]; exact e⟩
    · rintro (rfl | ⟨hx, _⟩)
      · exact hy
      · exact hx.1)).1 (fun x hx => by rw [hyp]; exact ((h x).1 hx).2)
  omega
/-- Where a new trie is, if it is. -/
def pO (e : Int) (b : Nat) : Option Addr := if e = 0 then some ⟨b, 0, none⟩ else none
def TputJ (t : Tt) (p : SPrefix) (v : Int) (x : Tt × List Res) : Prop := checkP p = 0 → (x.1.OK ∧ (∀ y, y ∈ x.1.ents ↔ (y = (p, v) ∨ (y ∈ t.ents ∧ y.1 ≠ p))) ∧ ∀ w1, t.At w1 → (∀ r ∈ x.2, r.A w1) → x.1.At w1)
/-- The trie with another tree for a kind. -/
def Tt.swap (t : Tt) (b : Nat) (n : Int) (k : Bool) (x : PT) : Tt := ⟨b, t.made, n, bif k then t.l else x, bif k then x else t.r⟩
theorem Tt.swap_kids (t : Tt) (b : Nat) (n : Int) (k : Bool) (x : PT) (h : (bI k).toNat < 2) : (kids t.l t.r).set (bI k).toNat x.ptr h = kids (t.swap b n k x).l (t.swap b n k x).r := by cases k <;> rfl
theorem Tt.swap_kid (t : Tt) (b : Nat) (n : Int) (k j : Bool) (x : PT) : PT.kid j (t.swap b n k x).l (t.swap b n k x).r = if j = k then x else PT.kid j t.l t.r := by cases k <;> cases j <;> rfl
theorem Tt.swap_at {w : World} {t : Tt} {b : Nat} {n : Int} {k : Bool} {x : PT} (h : t.At w) (hx : x.At w) (hb : PtsTo eTrieTrie w b 0 (t.swap b n k x).val) : (t.swap b n k x).At w := ⟨hb, by cases k; exact hx; exact h.2.1, by cases k; exact h.2.2; exact hx⟩
theorem Tt.swap_ok {t : Tt} (h : t.OK) {k : Bool} {x : PT} {b : Nat} {n : Int} (hx : x.tr.WF (okP k) pb []) (hn : n = (t.swap b n k x).ents.length) : (t.swap b n k x).OK := ⟨h.made, hn, by cases k; exact hx; exact h.l, by cases k; exact h.r; exact hx⟩
theorem Tt.swap_mem {t : Tt} (h : t.OK) {k : Bool} {x : PT} {b : Nat} {n : Int} (hx : x.tr.WF (okP k) pb []) (y : SPrefix × Int) : y ∈ (t.swap b n k x).ents ↔ ((y.1.addr.v6 = k ∧ y ∈ x.tr.ents) ∨ (y.1.addr.v6 ≠ k ∧ y ∈ t.ents)) := by
  have hk : ∀ {z : Tr SPrefix} {j : Bool}, z.WF (okP j) pb [] → y ∈ z.ents → y.1.addr.v6 = j := fun hz hy => (hz.ents_in y hy).1.2
  cases k with
  | false =>
    show y ∈ x.tr.ents ++ t.r.tr.ents ↔ _
    unfold Tt.ents
    rw [List.mem_append, List.mem_append]
    constructor
    · rintro (hy | hy)
      · exact .inl ⟨hk hx hy, hy⟩
      · exact .inr ⟨by rw [hk h.r hy]; decide, .inr hy⟩
    · rintro (hy | ⟨hn, hy | hy⟩)
      · exact .inl hy.2
      · exact absurd (hk h.l hy) hn
      · exact .inr hy
  | true =>
    show y ∈ t.l.tr.ents ++ x.tr.ents ↔ _
    unfold Tt.ents
    rw [List.mem_append, List.mem_append]
    constructor
    · rintro (hy | hy)
      · exact .inr ⟨by rw [hk h.l hy]; decide, .inl hy⟩
      · exact .inl ⟨hk hx hy, hy⟩
    · rintro (hy | ⟨hn, hy | hy⟩)
      · exact .inr hy.2
      · exact .inl hy
      · exact absurd (hk h.r hy) hn
theorem Tt.put_mem {t : Tt} (h : t.OK) {p : SPrefix} {v : Int} {x : PT} {b : Nat} {n : Int} (hx : x.tr.WF (okP p.addr.v6) pb []) (hm : ∀ y, y ∈ x.tr.ents ↔ (y = (p, v) ∨ (y ∈ (PT.kid p.addr.v6 t.l t.r).tr.ents ∧ y.1 ≠ p))) (y : SPrefix × Int) :
    y ∈ (t.swap b n p.addr.v6 x).ents ↔ (y = (p, v) ∨ (y ∈ t.ents ∧ y.1 ≠ p)) := by
  rw [Tt.swap_mem h hx, hm, h.mem_k]
  constructor
  · rintro (⟨h1, h2 | h2⟩ | ⟨h1, h2⟩)
    · exact .inl h2
    · exact .inr ⟨h2.1.1, h2.2⟩
    · exact .inr ⟨h2, fun e => h1 (by rw [e])⟩
  · rintro (h2 | ⟨h2, h3⟩)
    · exact .inl ⟨by rw [h2], .inl h2⟩
    · by_cases e : y.1.addr.v6 = p.addr.v6
      · exact .inl ⟨e, .inr ⟨⟨h2, e⟩, h3⟩⟩
      · exact .inr ⟨e, h2⟩
theorem Tt.cut_mem {t : Tt} (h : t.OK) {p : SPrefix} {x : PT} {b : Nat} {n : Int} (hx : x.tr.WF (okP p.addr.v6) pb []) (hm : ∀ y, y ∈ x.tr.ents ↔ (y ∈ (PT.kid p.addr.v6 t.l t.r).tr.ents ∧ y.1 ≠ p)) (y : SPrefix × Int) :
    y ∈ (t.swap b n p.addr.v6 x).ents ↔ (y ∈ t.ents ∧ y.1 ≠ p) := by
  rw [Tt.swap_mem h hx, hm, h.mem_k]
  constructor
  · rintro (⟨h1, h2⟩ | ⟨h1, h2⟩)
    · exact ⟨h2.1.1, h2.2⟩
    · exact ⟨h2, fun e => h1 (by rw [e])⟩
  · rintro ⟨h2, h3⟩
    by_cases e : y.1.addr.v6 = p.addr.v6
    · exact .inl ⟨e, ⟨h2, e⟩, h3⟩
    · exact .inr ⟨e, h2⟩

theorem there_ok (t : Tt) (w : World) (ht : PtsTo eTrieTrie w t.b 0 t.val) : Calls Try.prog 33 #[.pointer (some ⟨t.b, 0, none⟩)] w (RetV w (.bool t.made)) := by
  refine enter0 11 Try.func33 rfl rfl (Nat.le_of_ble_eq_true rfl) ?_
  refine seq (region (cons (opv (Ev.assign (.c (v := .bool false) rfl)) ?_)))
  refine nil (pN (seq (region (cons (opv (Ev.move (.t rfl)) (cons (opv (Ev.neq_p Try.underlying24 (.t rfl) (.c rfl)) ?_)))))))
  refine cons (opv (Ev.move (.t rfl)) (cons (opg rfl rfl (Ev.move (.t rfl)) ?_)))
  refine cons (opg rfl rfl (Ev.nilCheck (.g rfl id)) ?_)
  refine cons (opg rfl rfl (Ev.fieldAddr (o := 0) (.g rfl id) (by kernel_rfl)) ?_)
  refine cons (opg rfl rfl (Ev.load ty4 (.g rfl id) (ptsL (fun w I => (ht).keep I.keeps) STrieTrie.l_made)) ?_)
  refine cons (opv (Ev.pickA (.t rfl) (fun {_} h => by cases h; rfl) ⟨_, rfl⟩ (by intro h1 h; first | (rw [h] <;> rfl) | (rw [h1, h] <;> rfl) | (rw [h, h1] <;> rfl) | simp_all) (.c (v := .bool false) rfl)) ?_)
  refine cons (opv (Ev.assign (.t rfl)) (nil (pN (ret (done rfl (.tmp rfl .nil) (retE ?_))))))
  first | rfl | (simp [Tt.val]; done) | (simp [tupV, Tt.val])

theorem there_nil (w : World) : Calls Try.prog 33 #[.pointer none] w (RetV w (.bool false)) := by
  refine enter0 11 Try.func33 rfl rfl (Nat.le_of_ble_eq_true rfl) ?_
  refine seq (region (cons (opv (Ev.assign (.c (v := .bool false) rfl)) ?_)))
  refine nil (pN (seq (region (cons (opv (Ev.move (.t rfl)) (cons (opv (Ev.neq_p Try.underlying24 (.t rfl) (.c rfl)) ?_)))))))
  refine cons (opv (Ev.move (.t rfl)) (cons (opgF (v := .bool false) rfl rfl rfl ?_)))
  refine cons (opgF (v := .bool false) rfl rfl rfl ?_)
  refine cons (opgF (v := .bool false) rfl rfl rfl ?_)
  refine cons (opgF (v := .bool false) rfl rfl rfl ?_)
  refine cons (opv (Ev.pickA (.t rfl) (fun {_} h => by cases h; rfl) ⟨_, rfl⟩ (by intro h1 h; first | (rw [h] <;> rfl) | (rw [h1, h] <;> rfl) | (rw [h, h1] <;> rfl) | simp_all) (.c (v := .bool false) rfl)) ?_)
  refine cons (opv (Ev.assign (.t rfl)) (nil (pN (ret (done rfl (.tmp rfl .nil) (retE ?_))))))
  rfl

theorem z60 : (Try.prog.info? 60).bind (·.zero) = some (eTrieTrie.val eTrieTrie.zero) := by kernel_rfl

theorem new_ok (w : World) : Calls Try.prog 7 #[] w (RetN w (fun x : Tt => x.OK ∧ x.ents = [] ∧ x.made = true ∧ x.n = 0 ∧ x.l = .nil ∧ x.r = .nil) (fun x => x.ptr.v) (fun x => [Var x.b eTrieTrie x.val 60])) := by
  refine enter0 3 Try.func7 rfl rfl (Nat.le_of_ble_eq_true rfl) ?_
  refine seq (region (cons (opv (Ev.assign (.c (v := (Go.Value.pointer none)) rfl)) ?_)))
  refine nil (pN (seq (region (cons (opv (Ev.buildS (fs := _) (places := [(0, 1), (1, 1), (2, 2)]) z60 rfl Try.underlying60 (by kernel_rfl) (.cons (.c (v := .bool true) rfl) .nil) (Fills.cons STrieTrie.l_made rfl Fills.nil)) ?_)))))
  refine cons (box (E := eTrieTrie) (.t rfl) (fun b1 => ?_))
  refine cons (opv (Ev.assign (.t rfl)) (nil (pN (ret (done rfl (.tmp rfl .nil) (fun w I => ?_))))))
  exact retNP (⟨b1, true, 0, .nil, .nil⟩ : Tt) ⟨⟨rfl, rfl, trivial, trivial⟩, rfl, rfl, rfl, rfl, rfl⟩ rfl (by repeat first | exact SubP.nil | refine SubP.cons (by repeat first | exact Rem.head | apply Rem.tail) ?_) w I

theorem en33 : Gx.Enters Try.prog 33 := Gx.Enters.mk' (by kernel_rfl)

theorem len_ok (t : Tt) (w : World) (ht : t.At w) (ho : t.OK) : Calls Try.prog 18 #[.pointer (some ⟨t.b, 0, none⟩)] w (RetV w (I t.n)) := by
  refine enter0 10 Try.func18 rfl rfl (Nat.le_of_ble_eq_true rfl) ?_
  refine seq (region (cons (opv (Ev.assign (.c (v := I 0) rfl)) ?_)))
  refine nil (pN (seq (seq (region (cons (opv (Ev.move (.t rfl)) (cons (callv en33 (.cons (.t rfl) .nil) (fun w I => there_ok t w (ht.1.keep I.keeps)) ?_))))))))
  refine cons (opv (Ev.not (.t rfl)) ?_)
  refine nil (pN (condF rfl (by rw [ho.made]; rfl) ?_))
  refine skip (pN (seq (region (cons (opv (Ev.move (.t rfl)) (cons (opv (Ev.nilCheck (.t rfl)) ?_)))))))
  refine cons (opv (Ev.fieldAddr (o := 1) (.t rfl) (by kernel_rfl)) ?_)
  refine cons (opv (Ev.load ty3 (.t rfl) (ptsL (fun w I => ((ht).1).keep I.keeps) STrieTrie.l_n)) ?_)
  refine cons (opv (Ev.assign (.t rfl)) (nil (pN (ret (done rfl (.tmp rfl .nil) (retE ?_))))))
  rfl

theorem Tt.swap_nodup {t : Tt} (h : t.OK) {k : Bool} {x : PT} {b : Nat} {n : Int} (hx : x.tr.WF (okP k) pb []) : ((t.swap b n k x).ents.map (·.1)).Nodup := (Tt.swap_ok (b := b) (n := ((t.swap b 0 k x).ents.length : Int)) h hx rfl).nodup

theorem ty60 : TyOK Try.prog 60 eTrieTrie := TyOK.mk' (by kernel_rfl) (by kernel_rfl)

theorem en34 : Gx.Enters Try.prog 34 := Gx.Enters.mk' (by kernel_rfl)

theorem tput_ok (t : Tt) (p : SPrefix) (v : Int) (w : World) (ht : t.At w) (ho : t.OK) (hn : t.n ≤ 4611686018427387904) : Calls Try.prog 9 #[.pointer (some ⟨t.b, 0, none⟩), ePrefix.val p, I v] w (RetN w (TputJ t p v) (fun x => .tuple #[.pointer (pO (checkP p) x.1.b), I (checkP p)]) (fun x => x.2)) := by
  refine enter0 48 Try.func9 rfl rfl (Nat.le_of_ble_eq_true rfl) ?_
  refine seq (region (cons (box (E := ePrefix) (.t rfl) (fun b1 => ?_))))
  refine cons (opv (Ev.assign (.c (v := (Go.Value.pointer none)) rfl)) ?_)
  refine cons (opv (Ev.assign (.c (v := I 0) rfl)) ?_)
  refine nil (pN (seq (seq (region (cons (opv (Ev.move (.t rfl)) (cons (callv en33 (.cons (.t rfl) .nil) (fun w I => there_ok t w (ht.1.keep I.keeps)) ?_))))))))
  refine cons (opv (Ev.not (.t rfl)) ?_)
  refine nil (pN (condF rfl (by rw [ho.made]; rfl) ?_))
  refine skip (pN (seq (seq (region (cons (opv (Ev.ldx p ty36 (.t rfl) (Lens.id _)) ?_))))))
  refine cons (callv en10 (.cons (.t rfl) .nil) (fun w I => checkP_ok _ w) ?_)
  refine cons (opv (Ev.assign (.t rfl)) (nil (pN (seq (region (cons (opv (Ev.move (.t rfl)) (cons (opv (Ev.neq_i (.t rfl) (.c (v := I 0) rfl)) ?_)))))))))
  refine nil (pN ?_)
  first | refine condD rfl (fun h1 => ?_) (fun h1 => ?_) | refine cond rfl (fun h1 => ?_) (fun h1 => ?_)
  · try simp only [nb] at h1
    refine seq (region (cons (opv (Ev.move (.t rfl)) (cons (opv (Ev.assign (.c (v := (Go.Value.pointer none)) rfl)) ?_)))))
    refine cons (opv (Ev.assign (.t rfl)) (nil (pN (ret (pR (done rfl (.tmp rfl (.tmp rfl .nil)) (fun w I => ?_)))))))
    exact retNP (t, []) (fun h => absurd h h1) (by show _ = Value.tuple #[.pointer (pO (checkP p) t.b), Gx.I (checkP p)]; unfold pO; rw [if_neg h1]; rfl) SubP.nil w I
  · try simp only [nb] at h1
    have hck : checkP p = 0 := Decidable.not_not.1 h1
    have hbn := bI_nn p.addr.v6
    have hbt : (bI p.addr.v6).toNat < 2 := by omega
    obtain ⟨sp1, sp2, sp3, sp4⟩ := (keyLaw p.addr.v6).put_spec (p := p) ⟨hck, rfl⟩ v (PT.kid p.addr.v6 t.l t.r).tr [] (ho.kid _) List.nil_prefix
    refine skip (pN (seq (region (cons (opv (Ev.move (.t rfl)) (cons (opv (Ev.nilCheck (.t rfl)) ?_)))))))
    refine cons (opv (Ev.load ty60 (.t rfl) (ptsL (fun w I => ((ht).1).keep I.keeps) (Lens.id _))) ?_)
    refine cons (alloc z60 (fun b2 => ?_))
    refine cons (stv ty60 (Lens.id _) (.t rfl) (.t rfl) ?_)
    refine nil (pN (seq (region (cons (opv (Ev.fieldAddr (o := 0) (.t rfl) (by kernel_rfl)) ?_)))))
    refine cons (opv (Ev.ldx p.addr ty31 (.t rfl) SPrefix.l_addr) ?_)
    refine cons (callv en34 (.cons (.t rfl) .nil) (fun w I => kind_ok _ w) ?_)
    refine cons (opv (Ev.assign (.t rfl)) (nil (pN (seq (draw' (by kernel_rfl) ?_)))))
    refine tk 0 rfl (Ev.move (.t rfl)) ?_
    refine tk 1 rfl (Ev.move (.t rfl)) ?_
    refine tk 2 rfl (Ev.nilCheck (.t rfl)) ?_
    refine tk 3 rfl (Ev.fieldAddr (o := 2) (.t rfl) (by kernel_rfl)) ?_
    refine tk 4 rfl (Ev.indexAddrA Try.underlying58 ty57 (.t rfl) (.t rfl) (fun _ => by omega)) ?_
    refine tk 5 rfl (Ev.to (v' := (PT.kid p.addr.v6 t.l t.r).ptr.v) (Ev.load ty57 (.t rfl) (ptsL (fun w I => ((ht).1).keep I.keeps) (Lens.comp STrieTrie.l_roots (lArr (n := 2) (ovE nilPtr) _ (by omega))))) (congrArg OV.v (kids_at t.l t.r p.addr.v6 hbt))) ?_
    refine tk 6 rfl (Ev.ldx p ty36 (.t rfl) (Lens.id _)) ?_
    refine tk 7 rfl (Ev.move (.t rfl)) ?_
    refine al1 8 rfl ((calln (X := PT × List Res) (PutJ (PT.kid p.addr.v6 t.l t.r) (putT p v (PT.kid p.addr.v6 t.l t.r).tr).1) (fun x => .tuple #[x.1.ptr.v, .bool (putT p v (PT.kid p.addr.v6 t.l t.r).tr).2]) (fun x => x.2) en35 (.cons (.t rfl) (.cons (.t rfl) (.cons (.t rfl) .nil))) (fun w I => put_ok p.addr.v6 p v ⟨hck, rfl⟩ (PT.kid p.addr.v6 t.l t.r) [] w ((ht.keep I.keeps).kid _) (ho.kid _) List.nil_prefix) (fun x1 hx1 => ?_)))
    refine hdn (tk 9 rfl (Ev.move (.t rfl)) ?_)
    refine tk 10 rfl (Ev.extract (.t rfl) rfl) ?_
    refine tk 11 rfl (Ev.extract (.t rfl) rfl) ?_
    refine tk 12 rfl (Ev.assign (.t rfl)) ?_
    refine tk 13 rfl (Ev.assign (.t rfl)) ?_
    refine ovr (pN (seq ?_))
    have hwx : x1.1.tr.WF (okP p.addr.v6) pb [] := by rw [hx1.1]; exact sp1
    have hmx := sp3
    rw [← show x1.1.tr = _ from hx1.1] at hmx
    refine region (cons (opv (Ev.move (.t rfl)) (cons (opv (Ev.move (.t rfl)) (cons (opv (Ev.fieldAddr (o := 2) (.t rfl) (by kernel_rfl)) ?_))))))
    refine cons (opv (Ev.indexAddrA Try.underlying58 ty57 (.t rfl) (.t rfl) (fun _ => by omega)) ?_)
    refine cons (stv ty57 (Lens.comp STrieTrie.l_roots (lArr (n := 2) (ovE nilPtr) _ (by omega))) (.t rfl) (.t rfl) ?_)
    refine nil (pN (seq (seq (region (cons (opv (Ev.move (.t rfl)) (nil (pN ?_))))))))
    first | refine condD rfl (fun h2 => ?_) (fun h2 => ?_) | refine cond rfl (fun h2 => ?_) (fun h2 => ?_)
    · have hfr : ∀ y ∈ t.ents, y.1 ≠ p := fun y hy e => sp4.1 h2 y (by rw [← e]; exact (ho.mem y).1 hy) e
      refine region (cons (opv (Ev.fieldAddr (o := 1) (.t rfl) (by kernel_rfl)) ?_))
      refine cons (opv (Ev.ldv ty3 (.t rfl) STrieTrie.l_n) ?_)
      refine cons (opv (Ev.add_i (.t rfl) (.c (v := I 1) rfl) (fun _ => by show Fit (t.n + 1); unfold Fit; have := ho.n; omega)) ?_)
      refine cons (opv (Ev.fieldAddr (o := 1) (.t rfl) (by kernel_rfl)) ?_)
      refine cons (stv ty3 STrieTrie.l_n (.t rfl) (.t rfl) ?_)
      refine nil (pN (seq (region (cons (opv (Ev.assign (.t rfl)) (cons (opv (Ev.assign (.c (v := I 0) rfl)) ?_)))))))
      refine nil (pN (ret (done rfl (.tmp rfl (.tmp rfl .nil)) (fun w I => ?_))))
      have hmem := Tt.put_mem (b := b2) (n := (t.n + 1)) ho hwx hmx
      have hln := len_new ho.nodup (Tt.swap_nodup (b := b2) (n := (t.n + 1)) ho hwx) hmem
      have hcnt : (t.n + 1) = (t.swap b2 (t.n + 1) p.addr.v6 x1.1).ents.length := by
        have h8 := ho.n
        have h7 := hln.1 hfr
        omega
      refine retNP ((t.swap b2 (t.n + 1) p.addr.v6 x1.1), Var b2 eTrieTrie (t.swap b2 (t.n + 1) p.addr.v6 x1.1).val 60 :: x1.2) (fun _ => ⟨Tt.swap_ok ho hwx hcnt, hmem, fun w1 hw1 hh => Tt.swap_at hw1 (hx1.2 w1 (hw1.kid _) (fun q hq => hh q (List.mem_cons_of_mem _ hq))) (pts_mem (T := 60) hh List.mem_cons_self)⟩) (by show _ = Value.tuple #[.pointer (pO (checkP p) (t.swap b2 (t.n + 1) p.addr.v6 x1.1).b), Gx.I (checkP p)]; unfold pO; rw [if_pos hck, hck]; rfl) ?_ w I
      unfold Tt.val
      rw [← Tt.swap_kids t b2 (t.n + 1) p.addr.v6 x1.1 hbt]
      exact (by repeat first | refine SubP.cons (by repeat first | exact Rem.head | apply Rem.tail | apply Rem.app) ?_ | exact SubP.of (by repeat first | exact sR | apply sS | exact List.sublist_append_left _ _))
    · have hfr : ∃ y ∈ t.ents, y.1 = p := by
        rcases Classical.em (∃ y ∈ t.ents, y.1 = p) with g | g
        · exact g
        · exfalso
          have := sp4.2 (fun y hy e => g ⟨y, ((ho.mem_k _ y).1 hy).1, e⟩)
          rw [show (putT p v (PT.kid p.addr.v6 t.l t.r).tr).2 = false from h2] at this
          cases this
      refine skip (pN (seq (region (cons (opv (Ev.assign (.t rfl)) (cons (opv (Ev.assign (.c (v := I 0) rfl)) ?_)))))))
      refine nil (pN (ret (done rfl (.tmp rfl (.tmp rfl .nil)) (fun w I => ?_))))
      have hmem := Tt.put_mem (b := b2) (n := t.n) ho hwx hmx
      have hln := len_new ho.nodup (Tt.swap_nodup (b := b2) (n := t.n) ho hwx) hmem
      have hcnt : t.n = (t.swap b2 t.n p.addr.v6 x1.1).ents.length := by
        have h8 := ho.n
        have h7 := hln.2 hfr
        omega
      refine retNP ((t.swap b2 t.n p.addr.v6 x1.1), Var b2 eTrieTrie (t.swap b2 t.n p.addr.v6 x1.1).val 60 :: x1.2) (fun _ => ⟨Tt.swap_ok ho hwx hcnt, hmem, fun w1 hw1 hh => Tt.swap_at hw1 (hx1.2 w1 (hw1.kid _) (fun q hq => hh q (List.mem_cons_of_mem _ hq))) (pts_mem (T := 60) hh List.mem_cons_self)⟩) (by show _ = Value.tuple #[.pointer (pO (checkP p) (t.swap b2 t.n p.addr.v6 x1.1).b), Gx.I (checkP p)]; unfold pO; rw [if_pos hck, hck]; rfl) ?_ w I
      unfold Tt.val
      rw [← Tt.swap_kids t b2 t.n p.addr.v6 x1.1 hbt]
      exact (by repeat first | refine SubP.cons (by repeat first | exact Rem.head | apply Rem.tail | apply Rem.app) ?_ | exact SubP.of (by repeat first | exact sR | apply sS | exact List.sublist_append_left _ _))
end Go.Proofs.Ytjjlofjpdklbgaa
