/- trie -/
import Derived.Test.YtjjlofjpdklbgaaT22
set_option linter.unusedVariables false
set_option linter.unusedSimpArgs false
namespace Go.Proofs.Ytjjlofjpdklbgaa
open Go Go.Gx

/-! ### The order of prefixes -/
set_option maxRecDepth 100000 in
theorem mk1_low : ∀ n : Fin 256, ∀ j : Fin 8, (mk1 (j.val : Int) (UInt8.ofNat n.val)).toNat + bn n.val (7 - j.val) * 2 ^ (7 - j.val) ≤ n.val ∧ n.val < (mk1 (j.val : Int) (UInt8.ofNat n.val)).toNat + bn n.val (7 - j.val) * 2 ^ (7 - j.val) + 2 ^ (7 - j.val) := by decide +kernel
theorem byte_lt (x y : UInt8) (j : Nat) (hj : j < 8) (h : ∀ i, i < j → bitOf x i = bitOf y i) (hx : bitOf x j = 0) (hy : bitOf y j = 1) : x < y := by
  have e : mk1 (j : Int) x = mk1 (j : Int) y := byte_ext _ _ (fun i hi => by
    rw [mk1_bit _ _ _ hi, mk1_bit _ _ _ hi]
    split
    · exact h i (by omega)
    · rfl)
  have a1 := (mk1_low ⟨x.toNat, x.toNat_lt⟩ ⟨j, hj⟩).2
  have a2 := (mk1_low ⟨y.toNat, y.toNat_lt⟩ ⟨j, hj⟩).1
  simp only [UInt8.ofNat_toNat] at a1 a2
  rw [e, ← bitOf_toNat, hx] at a1
  rw [← bitOf_toNat, hy] at a2
  rw [UInt8.lt_iff_toNat_lt]
  have z0 : (0 : UInt8).toNat = 0 := rfl
  have z1 : (1 : UInt8).toNat = 1 := rfl
  rw [z0] at a1
  rw [z1] at a2
  omega
theorem cmpB_lt : ∀ (k : Nat) (xs ys : List UInt8), k < xs.length → k < ys.length → (∀ j, j < k → xs.getD j 0 = ys.getD j 0) → xs.getD k 0 < ys.getD k 0 → Lib.compareBytes xs ys = -1 ∧ Lib.compareBytes ys xs = 1
  | _, [], _, h, _, _, _ => by simp at h
  | _, _ :: _, [], _, h, _, _ => by simp at h
  | 0, x :: xs, y :: ys, _, _, _, h => by
    have h : x < y := h
    have h2 : ¬ y < x := by
      rw [UInt8.lt_iff_toNat_lt] at h ⊢
      omega
    unfold Lib.compareBytes
    exact ⟨if_pos h, (if_neg h2).trans (if_pos h)⟩
  | k + 1, x :: xs, y :: ys, h1, h2, h3, h4 => by
    have e : x = y := h3 0 (by omega)
    subst e
    have hn : ¬ x < x := by rw [UInt8.lt_iff_toNat_lt]; omega
    obtain ⟨r1, r2⟩ := cmpB_lt k xs ys (by simpa using h1) (by simpa using h2) (fun j hj => h3 (j + 1) (by omega)) h4
    unfold Lib.compareBytes
    simp only [if_neg hn]
    exact ⟨r1, r2⟩
theorem cmpB_self : ∀ xs : List UInt8, Lib.compareBytes xs xs = 0
  | [] => rfl
  | x :: xs => by
    have hn : ¬ x < x := by rw [UInt8.lt_iff_toNat_lt]; omega
    unfold Lib.compareBytes
    rw [if_neg hn, if_neg hn]
    exact cmpB_self xs
theorem cmpB_bit {a b : Vector UInt8 16} {i : Int} (h0 : 0 ≤ i) (h1 : i < 128) (h : ∀ j : Int, 0 ≤ j → j < i → bitU a.toList j = bitU b.toList j) (ha : bitU a.toList i = 0) (hb : bitU b.toList i = 1) : Lib.compareBytes a.toList b.toList = -1 ∧ Lib.compareBytes b.toList a.toList = 1 := by
  have e : i = 8 * ((i / 8).toNat : Int) + ((i % 8).toNat : Int) := by omega
  have hk : (i / 8).toNat < 16 := by omega
  have hj : (i % 8).toNat < 8 := by omega
  refine cmpB_lt (i / 8).toNat _ _ (by simpa using hk) (by simpa using hk) (fun j hj' => ?_) ?_
  · refine byte_ext _ _ (fun m hm => ?_)
    have := h (8 * (j : Int) + m) (by omega) (by omega)
    rwa [bitU_at _ _ _ hm, bitU_at _ _ _ hm] at this
  · rw [e, bitU_at _ _ _ hj] at ha hb
    refine byte_lt _ _ _ hj (fun m hm => ?_) ha hb
    have := h (8 * ((i / 8).toNat : Int) + m) (by omega) (by omega)
    rwa [bitU_at _ _ _ (by omega), bitU_at _ _ _ (by omega)] at this
theorem ltB_cases : ∀ x y : List Bool, ltB x y = true → (x <+: y ∧ x ≠ y) ∨ ∃ c, c ++ [false] <+: x ∧ c ++ [true] <+: y
  | [], [], h => by simp [ltB] at h
  | [], _ :: _, _ => .inl ⟨List.nil_prefix, by simp⟩
  | _ :: _, [], h => by simp [ltB] at h
  | a :: x, b :: y, h => by
    simp only [ltB, Bool.or_eq_true, Bool.and_eq_true, Bool.not_eq_true', beq_iff_eq] at h
    rcases h with ⟨rfl, rfl⟩ | ⟨rfl, h⟩
    · exact .inr ⟨[], by simp, by simp⟩
    · rcases ltB_cases x y h with ⟨h1, h2⟩ | ⟨c, h1, h2⟩
      · exact .inl ⟨by rw [List.cons_prefix_cons]; exact ⟨rfl, h1⟩, fun e => h2 (List.cons.inj e).2⟩
      · exact .inr ⟨a :: c, by rw [List.cons_append, List.cons_prefix_cons]; exact ⟨rfl, h1⟩, by rw [List.cons_append, List.cons_prefix_cons]; exact ⟨rfl, h2⟩⟩
theorem pb_length (p : SPrefix) : (pb p).length = p.bits.toNat := by simp [pb]
theorem pb_rest {k : Bool} {p : SPrefix} (hp : okP k p) {i : Int} (h1 : p.bits ≤ i) (h2 : i < 128) : bitU p.addr.b.toList i = 0 := by
  have h := (checkP_zero p).1 hp.1
  exact h.2.2 i h1 h2
theorem cmp_lt {k : Bool} {p q : SPrefix} (hp : okP k p) (hq : okP k q) (h : ltB (pb p) (pb q) = true) : cmpP p q = -1 ∧ cmpP q p = 1 := by
  have hv : p.addr.v6 = q.addr.v6 := hp.2.trans hq.2.symm
  have n1 := hp.nn
  have n2 := hq.nn
  have main : (p.bits < q.bits ∧ p.addr.b = q.addr.b) ∨ (Lib.compareBytes p.addr.b.toList q.addr.b.toList = -1 ∧ Lib.compareBytes q.addr.b.toList p.addr.b.toList = 1) := by
    rcases ltB_cases _ _ h with ⟨h1, h2⟩ | ⟨c, h1, h2⟩
    · have h3 := (pb_pre p q n1.1 n2.1).1 h1
      have hlt : p.bits < q.bits := by
        rcases Int.lt_or_eq_of_le h3.1 with h4 | h4
        · exact h4
        · exact absurd (pre_len h1 (by rw [pb_length, pb_length]; omega)) h2
      rcases Classical.em (∀ i : Int, p.bits ≤ i → i < q.bits → bitU q.addr.b.toList i = 0) with hz | hz
      · refine .inl ⟨hlt, bits_ext _ _ (fun i i0 i1 => ?_)⟩
        by_cases hi : i < p.bits
        · exact h3.2 i i0 hi
        · rw [pb_rest hp (by omega) i1]
          by_cases hi2 : i < q.bits
          · exact (hz i (by omega) hi2).symm
          · exact (pb_rest hq (by omega) i1).symm
      · right
        have hex : ∃ n : Nat, p.bits ≤ (n : Int) ∧ (n : Int) < q.bits ∧ bitU q.addr.b.toList n ≠ 0 := by
          apply Classical.byContradiction
          intro hno
          exact hz (fun i i0 i1 => Classical.byContradiction fun hb => hno ⟨i.toNat, by omega, by omega, by rw [Int.toNat_of_nonneg (by omega)]; exact hb⟩)
        obtain ⟨n, hn, hmin⟩ : ∃ n : Nat, (p.bits ≤ (n : Int) ∧ (n : Int) < q.bits ∧ bitU q.addr.b.toList n ≠ 0) ∧ ∀ m : Nat, m < n → ¬ (p.bits ≤ (m : Int) ∧ (m : Int) < q.bits ∧ bitU q.addr.b.toList m ≠ 0) := by
          obtain ⟨n, hn⟩ := hex
          induction n using Nat.strongRecOn with
          | _ n ih =>
            rcases Classical.em (∃ m, m < n ∧ (p.bits ≤ (m : Int) ∧ (m : Int) < q.bits ∧ bitU q.addr.b.toList m ≠ 0)) with ⟨m, hm, hm2⟩ | hno
            · exact ih m hm hm2
            · exact ⟨n, hn, fun m hm hm2 => hno ⟨m, hm, hm2⟩⟩
        refine cmpB_bit (i := (n : Int)) (by omega) (by omega) (fun j j0 j1 => ?_) (pb_rest hp hn.1 (by omega)) ((bitU_01 _ _).resolve_left hn.2.2)
        by_cases hj : j < p.bits
        · exact h3.2 j j0 hj
        · rw [pb_rest hp (by omega) (by omega)]
          have h5 := hmin j.toNat (by omega)
          rw [Int.toNat_of_nonneg j0] at h5
          exact (Classical.byContradiction fun hb => h5 ⟨by omega, by omega, fun e => hb e.symm⟩)
    · right
      have l1 := h1.length_le
      have l2 := h2.length_le
      rw [List.length_append, pb_length] at l1 l2
      simp only [List.length_cons, List.length_nil] at l1 l2
      have g1 := (pre_iff _ _).1 h1
      have g2 := (pre_iff _ _).1 h2
      have a1 := g1.2 c.length (by simp)
      have a2 := g2.2 c.length (by simp)
      rw [pb_get p _ (by omega)] at a1
      rw [pb_get q _ (by omega)] at a2
      simp at a1 a2
      refine cmpB_bit (i := (c.length : Int)) (by omega) (by omega) (fun j j0 j1 => ?_) ((bitU_01 _ _).resolve_right a1) a2
      have b1 := g1.2 j.toNat (by simp; omega)
      have b2 := g2.2 j.toNat (by simp; omega)
      rw [pb_get p _ (by omega), List.getElem?_append_left (by omega)] at b1
      rw [pb_get q _ (by omega), List.getElem?_append_left (by omega)] at b2
      have b3 := Option.some.inj (b1.symm.trans b2)
      rw [Int.toNat_of_nonneg j0] at b3
      exact dec_bit.1 b3
  unfold cmpP
  rw [if_pos hv, if_pos hv.symm]
  rcases main with ⟨m1, m2⟩ | ⟨m1, m2⟩
  · rw [m2, cmpB_self, if_pos rfl, if_pos rfl]
    unfold cmpI
    rw [if_pos m1, if_neg (by omega), if_pos m1]
    exact ⟨rfl, rfl⟩
  · rw [m1, m2, if_neg (by decide), if_neg (by decide)]
    exact ⟨rfl, rfl⟩
theorem shape_eq (t : Tt) : t.shape = t.l.tr.shp ++ t.r.tr.shp := by
  unfold Tt.shape Tt.nodes
  rw [List.map_append, PT.pre_shp, PT.pre_shp]
theorem shape_sorted {t : Tt} (ho : t.OK) : t.shape.Pairwise (fun a b => cmpP a b = -1) := by
  rw [shape_eq, List.pairwise_append]
  refine ⟨?_, ?_, fun a ha b hb => ?_⟩
  · exact List.Pairwise.imp_of_mem (fun {a b} ha hb h => (cmp_lt (ho.l.shp_in a ha).1 (ho.l.shp_in b hb).1 h).1) ho.l.shp_sorted
  · exact List.Pairwise.imp_of_mem (fun {a b} ha hb h => (cmp_lt (ho.r.shp_in a ha).1 (ho.r.shp_in b hb).1 h).1) ho.r.shp_sorted
  · have e1 := (ho.l.shp_in a ha).1.2
    have e2 := (ho.r.shp_in b hb).1.2
    unfold cmpP
    rw [e1, e2]
    rfl
theorem ents_kid {t u : Tt} (ho : t.OK) (hou : u.OK) (h : ∀ y, y ∈ t.ents ↔ y ∈ u.ents) : t.l.tr = u.l.tr ∧ t.r.tr = u.r.tr := by
  refine ⟨(keyLaw false).uniq _ _ [] [] ho.l hou.l (fun x => ?_), (keyLaw true).uniq _ _ [] [] ho.r hou.r (fun x => ?_)⟩
  · have h1 := ho.mem_k false x
    have h2 := hou.mem_k false x
    rw [h] at h1
    exact h1.trans h2.symm
  · have h1 := ho.mem_k true x
    have h2 := hou.mem_k true x
    rw [h] at h1
    exact h1.trans h2.symm
theorem shape_uniq {t u : Tt} (ho : t.OK) (hou : u.OK) (h : ∀ y, y ∈ t.ents ↔ y ∈ u.ents) : t.shape = u.shape ∧ t.ents = u.ents ∧ t.n = u.n := by
  obtain ⟨h1, h2⟩ := ents_kid ho hou h
  have e : t.ents = u.ents := by unfold Tt.ents; rw [h1, h2]
  exact ⟨by rw [shape_eq, shape_eq, h1, h2], e, by rw [ho.n, hou.n, e]⟩
theorem same_of {t u : Tt} (ho : t.OK) (hou : u.OK) (h : ∀ y, y ∈ t.ents ↔ y ∈ u.ents) : sameV t u = true := by
  obtain ⟨_, _, hn⟩ := shape_uniq ho hou h
  unfold sameV
  rw [decide_eq_true hn, Bool.true_and, List.all_eq_true]
  intro x hx
  have := (getV_iff hou x.1 x.2).2 ((h x).1 hx)
  unfold sameK
  rw [this.1, decide_eq_true this.2]
  rfl
theorem shape_small {t : Tt} (ho : t.OK) : (t.n = 0 → t.shape = []) ∧ (0 < t.n → (t.shape.length : Int) ≤ 2 * t.n - 1) := by
  have hl : t.l.tr = .nil ∨ t.l.tr.shp.length + 1 ≤ 2 * t.l.tr.ents.length := by
    rcases Classical.em (t.l.tr = .nil) with e | e
    · exact .inl e
    · exact .inr (ho.l.small e)
  have hr : t.r.tr = .nil ∨ t.r.tr.shp.length + 1 ≤ 2 * t.r.tr.ents.length := by
    rcases Classical.em (t.r.tr = .nil) with e | e
    · exact .inl e
    · exact .inr (ho.r.small e)
  rw [ho.n, shape_eq]
  unfold Tt.ents
  rcases hl with hl | hl <;> rcases hr with hr | hr
  · rw [hl, hr]; simp [Tr.shp, Tr.ents]
  · rw [hl]
    simp only [Tr.shp, Tr.ents, List.nil_append]
    exact ⟨fun h => by omega, fun h => by omega⟩
  · rw [hr]
    simp only [Tr.shp, Tr.ents, List.append_nil]
    exact ⟨fun h => by omega, fun h => by omega⟩
  · rw [List.length_append, List.length_append]
    exact ⟨fun h => by omega, fun h => by omega⟩
theorem nodes_len (t : Tt) : t.nodes.length = t.shape.length := by
  unfold Tt.shape
  rw [List.length_map]
end Go.Proofs.Ytjjlofjpdklbgaa
