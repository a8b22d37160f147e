/- conf -/
import Derived.Test.YtnoobdijbpmjkaaGreatC3
set_option linter.unusedVariables false
set_option linter.unusedSimpArgs false
namespace Go.Proofs.YtnoobdijbpmjkaaGreat
open Go Go.Gx

/-- The place of the first that is so; -1: none is. -/
def idxF {α : Type} (p : α → Bool) (l : List α) : Int := match l.findIdx? p with
  | some i => (i : Int)
  | none => -1
theorem idx_at {α : Type} {p : α → Bool} {l : List α} (z : α) {i : Int} (hi : 0 ≤ i ∧ i < l.length) (hq : ∀ k : Nat, k < i → p (l.getD k z) = false) (hp : p (l.getD i.toNat z) = true) : idxF p l = i := by
  have hlt : i.toNat < l.length := by omega
  have h : l.findIdx? p = some i.toNat := by
    rw [List.findIdx?_eq_some_iff_getElem]
    refine ⟨hlt, by simpa [List.getD, hlt] using hp, fun j hj => ?_⟩
    have := hq j (by omega)
    have hj2 : j < l.length := by omega
    simpa [List.getD, hj2] using this
  unfold idxF
  rw [h]
  show ((i.toNat : Nat) : Int) = i
  omega
theorem idx_none {α : Type} {p : α → Bool} {l : List α} (z : α) (hq : ∀ k : Nat, k < l.length → p (l.getD k z) = false) : idxF p l = -1 := by
  have h : l.findIdx? p = none := by
    rw [List.findIdx?_eq_none_iff]
    intro x hx
    obtain ⟨k, hk, rfl⟩ := List.mem_iff_getElem.1 hx
    simpa [List.getD, hk] using hq k hk
  unfold idxF
  rw [h]
/-- One in the place i, or behind all. -/
def setL {α : Type} (l : List α) (i : Int) (x : α) : List α := if i < 0 then l ++ [x] else l.set i.toNat x
/-- How many are less. -/
def lowB (l : List Int) (x : Int) : Int := (l.countP (fun y => decide (y < x)) : Nat)
theorem lowB_of {l : List Int} {x : Int} {n : Nat} (hn : n ≤ l.length) (h1 : ∀ k : Nat, k < n → l.getD k 0 < x) (h2 : ∀ k : Nat, n ≤ k → k < l.length → ¬ l.getD k 0 < x) : lowB l x = n := by
  unfold lowB
  have e : l.countP (fun y => decide (y < x)) = n := by
    rw [← List.take_append_drop n l, List.countP_append]
    have a1 : (l.take n).countP (fun y => decide (y < x)) = (l.take n).length := by
      rw [List.countP_eq_length]
      intro y hy
      obtain ⟨k, hk, rfl⟩ := List.mem_iff_getElem.1 hy
      have hk2 : k < n ∧ k < l.length := by simp at hk; omega
      have := h1 k hk2.1
      simpa [List.getD, hk2.2] using this
    have a2 : (l.drop n).countP (fun y => decide (y < x)) = 0 := by
      rw [List.countP_eq_zero]
      intro y hy
      obtain ⟨k, hk, rfl⟩ := List.mem_iff_getElem.1 hy
      have hk2 : n + k < l.length := by simp at hk; omega
      have := h2 (n + k) (by omega) hk2
      simpa [List.getD, hk2] using this
    rw [a1, a2, List.length_take]
    omega
  rw [e]

theorem up_lt {l : List Int} {a : Int} (hs : l.Pairwise (· < ·)) {m : Int} {k : Nat} (hm : 0 ≤ m ∧ m < l.length) (hk : (k : Int) < m + 1) (h : l.getD m.toNat 0 < a) : l.getD k 0 < a := by
  have hm2 : m.toNat < l.length := by omega
  have hk2 : k < l.length := by omega
  by_cases e : k = m.toNat
  · rw [e]; exact h
  · have := List.pairwise_iff_getElem.1 hs k m.toNat hk2 hm2 (by omega)
    simp only [List.getD, List.getElem?_eq_getElem hm2, List.getElem?_eq_getElem hk2, Option.getD_some] at h ⊢
    omega
theorem up_ge {l : List Int} {a : Int} (hs : l.Pairwise (· < ·)) {m : Int} {k : Nat} (hm : 0 ≤ m ∧ m ≤ k) (hk : k < l.length) (h : ¬ l.getD m.toNat 0 < a) : ¬ l.getD k 0 < a := by
  have hm2 : m.toNat < l.length := by omega
  by_cases e : k = m.toNat
  · rw [e]; exact h
  · have := List.pairwise_iff_getElem.1 hs m.toNat k hm2 hk (by omega)
    simp only [List.getD, List.getElem?_eq_getElem hm2, List.getElem?_eq_getElem hk, Option.getD_some] at h ⊢
    omega
theorem mid_nat {i j : Int} (h : 0 ≤ i ∧ i ≤ j ∧ j ≤ 1048576) : ((shr64 (UInt64.ofInt (i + j)) (Int.toNat 1)).toNat : Int) = (i + j) / 2 := by
  obtain ⟨n, rfl⟩ := Int.eq_ofNat_of_zero_le h.1
  obtain ⟨m, rfl⟩ := Int.eq_ofNat_of_zero_le (Int.le_trans h.1 h.2.1)
  have e : ((n : Int) + (m : Int)) = ((n + m : Nat) : Int) := by omega
  rw [e]
  rw [toNat_shr64]
  have e3 : (UInt64.ofInt ((n + m : Nat) : Int)).toNat = n + m := by
    simp [UInt64.ofInt]
    omega
  rw [e3]
  show (((n + m) / 2 ^ 1 : Nat) : Int) = _
  omega

theorem index_ok (u : Value) (xs : List Int) (a : Int) (w : World) (hx : IsSl iE w u xs) : Calls Tryz.prog 128 #[u, I a] w (RetV w (I (idxF (fun y => decide (a = y)) xs))) := by
  have hle := hx.le
  refine enter0 19 Tryz.func128 rfl rfl (Nat.le_of_ble_eq_true rfl) ?_
  refine seq (region (cons (opv (Ev.assign (.c (v := I 0) rfl)) ?_)))
  refine nil (pN (seq (seq (region (cons (opv (Ev.move (.t rfl)) (cons (opv (Ev.len Tryz.underlying22 (.t rfl) (fun w I => hx.keep0 I.keeps)) ?_))))))))
  refine cons (opv (Ev.move (.c (v := I 0) rfl)) ?_)
  refine nil (pN (block (loop (X := Int) (fun x : Int => (0 ≤ x ∧ x ≤ xs.length) ∧ (∀ k : Nat, k < x → decide (a = xs.getD k iE.zero) = false)) (fun x : Int => [(0, true, u), (1, true, I a), (7, true, I xs.length), (8, true, I x)]) (fun x : Int => []) (fun x : Int => ((xs.length : Int) - x).toNat) (0) ⟨?_, ?_⟩ (by repeat first | exact Sub.nil | refine Sub.cons rfl ?_) (by repeat first | exact sR | exact sN | apply sC | apply sS | apply sA) (fun x hx => ?_))))
  · omega
  · intro k h; omega
  obtain ⟨i, rfl⟩ : ∃ y, y = x := ⟨x, rfl⟩
  obtain ⟨hi, hq⟩ : (0 ≤ i ∧ i ≤ xs.length) ∧ (∀ k : Nat, k < i → decide (a = xs.getD k iE.zero) = false) := hx
  show Sat _ _ [(0, true, u), (1, true, I a), (7, true, I xs.length), (8, true, I i)] []
  refine seq (region (cons (opv (Ev.lss_i (.t rfl) (.t rfl)) ?_)))
  refine nil (pN (seq ?_))
  first | refine condD rfl (fun h0 => ?_) (fun h0 => ?_) | refine cond rfl (fun h0 => ?_) (fun h0 => ?_)
  · try simp only [nb] at h0
    refine skip (pN (seq (block (seq (region (cons (opv (Ev.move (.t rfl)) (cons (opv (Ev.assign (.t rfl)) (nil (pN (seq (region (cons (opv (Ev.move (.t rfl)) (cons (opv (Ev.move (.t rfl)) (cons (opv (Ev.move (.t rfl)) (cons (opv (Ev.indexAddr Tryz.underlying22 ty3 (.t rfl) (.t rfl) (fun w I => hx.keep0 I.keeps) (fun _ => by omega)) ?_)))))))))))))))))))))
    refine cons (opv (Ev.loadS0 ty3 (.t rfl) (fun w I => hx.keep0 I.keeps) (fun _ => by omega)) ?_)
    refine cons (opv (Ev.eql_i (.t rfl) (.t rfl)) ?_)
    refine nil (pN ?_)
    first | refine condD rfl (fun h1 => ?_) (fun h1 => ?_) | refine cond rfl (fun h1 => ?_) (fun h1 => ?_)
    · try simp only [nb] at h1
      refine seq (region (cons (opv (Ev.move (.t rfl)) (cons (opv (Ev.assign (.t rfl)) (nil (pN (ret (bR (pR (pR (bR (pR (done rfl (.tmp rfl .nil) (retE ?_)))))))))))))))
      rw [idx_at iE.zero (by omega) hq (by simpa using h1)]; rfl
    · try simp only [nb] at h1
      refine skip (bN (pN (region (cons (opv (Ev.add_i (.t rfl) (.c (v := I 1) rfl) (fun _ => by omega)) ?_)))))
      refine cons (opv (Ev.move (.t rfl)) (nil (pN (next (X := Int) (i + 1) ⟨?_, ?_⟩ ?_ (by repeat first | exact Sub.nil | refine Sub.cons rfl ?_) (by repeat first | exact sR | exact sN | apply sC | apply sS | apply sA)))))
      · try dsimp only
        omega
      · try dsimp only
        intro k h
        by_cases e : (k : Int) < i
        · exact hq k e
        · obtain rfl : k = i.toNat := by omega
          simpa using h1
      · try dsimp only
        first | omega | (simp; omega)
  · try simp only [nb] at h0
    refine exit (pX (pX (bX (pN (seq (region (cons (opv (Ev.assign (.c (v := I (-1)) rfl)) ?_))))))))
    refine nil (pN (ret (done rfl (.tmp rfl .nil) (retE ?_))))
    rw [idx_none iE.zero (fun k hk => hq k (by omega))]; rfl

theorem indexf_52 (f : Nat) (cap : List Value) (p : SRoute → Bool) (u : Value) (xs : List SRoute) (w : World) (hen : Enters Tryz.prog f) (hx : IsSl eRoute w u xs) (hk : FnAt Tryz.prog f cap Nope w eRoute bE (fun _ => True) p) : Calls Tryz.prog 129 #[u, (clo f cap).v] w (RetV w (I (idxF p xs))) := by
  have hle := hx.le
  refine enter0 19 Tryz.func129 rfl rfl (Nat.le_of_ble_eq_true rfl) ?_
  refine seq (region (cons (opv (Ev.assign (.c (v := I 0) rfl)) ?_)))
  refine nil (pN (seq (seq (region (cons (opv (Ev.move (.t rfl)) (cons (opv (Ev.len Tryz.underlying23 (.t rfl) (fun w I => hx.keep0 I.keeps)) ?_))))))))
  refine cons (opv (Ev.move (.c (v := I 0) rfl)) ?_)
  refine nil (pN (block (loop (X := Int) (fun x : Int => (0 ≤ x ∧ x ≤ xs.length) ∧ (∀ k : Nat, k < x → p (xs.getD k eRoute.zero) = false)) (fun x : Int => [(0, true, u), (1, true, (clo f cap).v), (7, true, I xs.length), (8, true, I x)]) (fun x : Int => []) (fun x : Int => ((xs.length : Int) - x).toNat) (0) ⟨?_, ?_⟩ (by repeat first | exact Sub.nil | refine Sub.cons rfl ?_) (by repeat first | exact sR | exact sN | apply sC | apply sS | apply sA) (fun x hx => ?_))))
  · omega
  · intro k h; omega
  obtain ⟨i, rfl⟩ : ∃ y, y = x := ⟨x, rfl⟩
  obtain ⟨hi, hq⟩ : (0 ≤ i ∧ i ≤ xs.length) ∧ (∀ k : Nat, k < i → p (xs.getD k eRoute.zero) = false) := hx
  show Sat _ _ [(0, true, u), (1, true, (clo f cap).v), (7, true, I xs.length), (8, true, I i)] []
  refine seq (region (cons (opv (Ev.lss_i (.t rfl) (.t rfl)) ?_)))
  refine nil (pN (seq ?_))
  first | refine condD rfl (fun h0 => ?_) (fun h0 => ?_) | refine cond rfl (fun h0 => ?_) (fun h0 => ?_)
  · try simp only [nb] at h0
    refine skip (pN (seq (block (seq (region (cons (opv (Ev.move (.t rfl)) (cons (opv (Ev.assign (.t rfl)) (nil (pN (seq (region (cons (opv (Ev.move (.t rfl)) (cons (opv (Ev.move (.t rfl)) (cons (opv (Ev.move (.t rfl)) (cons (opv (Ev.indexAddr Tryz.underlying23 ty52 (.t rfl) (.t rfl) (fun w I => hx.keep0 I.keeps) (fun _ => by omega)) ?_)))))))))))))))))))))
    refine cons (opv (Ev.loadS0 ty52 (.t rfl) (fun w I => hx.keep0 I.keeps) (fun _ => by omega)) ?_)
    refine cons (callcv (.t rfl) hen (.cons (.t rfl) .nil) (fun w I => hk.call trivial w I) ?_)
    refine nil (pN ?_)
    first | refine condD rfl (fun h1 => ?_) (fun h1 => ?_) | refine cond rfl (fun h1 => ?_) (fun h1 => ?_)
    · refine seq (region (cons (opv (Ev.move (.t rfl)) (cons (opv (Ev.assign (.t rfl)) (nil (pN (ret (bR (pR (pR (bR (pR (done rfl (.tmp rfl .nil) (retE ?_)))))))))))))))
      rw [idx_at eRoute.zero (by omega) hq h1]; rfl
    · refine skip (bN (pN (region (cons (opv (Ev.add_i (.t rfl) (.c (v := I 1) rfl) (fun _ => by omega)) ?_)))))
      refine cons (opv (Ev.move (.t rfl)) (nil (pN (next (X := Int) (i + 1) ⟨?_, ?_⟩ ?_ (by repeat first | exact Sub.nil | refine Sub.cons rfl ?_) (by repeat first | exact sR | exact sN | apply sC | apply sS | apply sA)))))
      · try dsimp only
        omega
      · try dsimp only
        intro k h
        by_cases e : (k : Int) < i
        · exact hq k e
        · obtain rfl : k = i.toNat := by omega
          exact h1
      · try dsimp only
        first | omega | (simp; omega)
  · try simp only [nb] at h0
    refine exit (pX (pX (bX (pN (seq (region (cons (opv (Ev.assign (.c (v := I (-1)) rfl)) ?_))))))))
    refine nil (pN (ret (done rfl (.tmp rfl .nil) (retE ?_))))
    rw [idx_none eRoute.zero (fun k hk => hq k (by omega))]; rfl

theorem indexf_57 (f : Nat) (cap : List Value) (p : SMeterConf → Bool) (u : Value) (xs : List SMeterConf) (w : World) (hen : Enters Tryz.prog f) (hx : IsSl eMeterConf w u xs) (hk : FnAt Tryz.prog f cap Nope w eMeterConf bE (fun _ => True) p) : Calls Tryz.prog 131 #[u, (clo f cap).v] w (RetV w (I (idxF p xs))) := by
  have hle := hx.le
  refine enter0 19 Tryz.func131 rfl rfl (Nat.le_of_ble_eq_true rfl) ?_
  refine seq (region (cons (opv (Ev.assign (.c (v := I 0) rfl)) ?_)))
  refine nil (pN (seq (seq (region (cons (opv (Ev.move (.t rfl)) (cons (opv (Ev.len Tryz.underlying25 (.t rfl) (fun w I => hx.keep0 I.keeps)) ?_))))))))
  refine cons (opv (Ev.move (.c (v := I 0) rfl)) ?_)
  refine nil (pN (block (loop (X := Int) (fun x : Int => (0 ≤ x ∧ x ≤ xs.length) ∧ (∀ k : Nat, k < x → p (xs.getD k eMeterConf.zero) = false)) (fun x : Int => [(0, true, u), (1, true, (clo f cap).v), (7, true, I xs.length), (8, true, I x)]) (fun x : Int => []) (fun x : Int => ((xs.length : Int) - x).toNat) (0) ⟨?_, ?_⟩ (by repeat first | exact Sub.nil | refine Sub.cons rfl ?_) (by repeat first | exact sR | exact sN | apply sC | apply sS | apply sA) (fun x hx => ?_))))
  · omega
  · intro k h; omega
  obtain ⟨i, rfl⟩ : ∃ y, y = x := ⟨x, rfl⟩
  obtain ⟨hi, hq⟩ : (0 ≤ i ∧ i ≤ xs.length) ∧ (∀ k : Nat, k < i → p (xs.getD k eMeterConf.zero) = false) := hx
  show Sat _ _ [(0, true, u), (1, true, (clo f cap).v), (7, true, I xs.length), (8, true, I i)] []
  refine seq (region (cons (opv (Ev.lss_i (.t rfl) (.t rfl)) ?_)))
  refine nil (pN (seq ?_))
  first | refine condD rfl (fun h0 => ?_) (fun h0 => ?_) | refine cond rfl (fun h0 => ?_) (fun h0 => ?_)
  · try simp only [nb] at h0
    refine skip (pN (seq (block (seq (region (cons (opv (Ev.move (.t rfl)) (cons (opv (Ev.assign (.t rfl)) (nil (pN (seq (region (cons (opv (Ev.move (.t rfl)) (cons (opv (Ev.move (.t rfl)) (cons (opv (Ev.move (.t rfl)) (cons (opv (Ev.indexAddr Tryz.underlying25 ty57 (.t rfl) (.t rfl) (fun w I => hx.keep0 I.keeps) (fun _ => by omega)) ?_)))))))))))))))))))))
    refine cons (opv (Ev.loadS0 ty57 (.t rfl) (fun w I => hx.keep0 I.keeps) (fun _ => by omega)) ?_)
    refine cons (callcv (.t rfl) hen (.cons (.t rfl) .nil) (fun w I => hk.call trivial w I) ?_)
    refine nil (pN ?_)
    first | refine condD rfl (fun h1 => ?_) (fun h1 => ?_) | refine cond rfl (fun h1 => ?_) (fun h1 => ?_)
    · refine seq (region (cons (opv (Ev.move (.t rfl)) (cons (opv (Ev.assign (.t rfl)) (nil (pN (ret (bR (pR (pR (bR (pR (done rfl (.tmp rfl .nil) (retE ?_)))))))))))))))
      rw [idx_at eMeterConf.zero (by omega) hq h1]; rfl
    · refine skip (bN (pN (region (cons (opv (Ev.add_i (.t rfl) (.c (v := I 1) rfl) (fun _ => by omega)) ?_)))))
      refine cons (opv (Ev.move (.t rfl)) (nil (pN (next (X := Int) (i + 1) ⟨?_, ?_⟩ ?_ (by repeat first | exact Sub.nil | refine Sub.cons rfl ?_) (by repeat first | exact sR | exact sN | apply sC | apply sS | apply sA)))))
      · try dsimp only
        omega
      · try dsimp only
        intro k h
        by_cases e : (k : Int) < i
        · exact hq k e
        · obtain rfl : k = i.toNat := by omega
          exact h1
      · try dsimp only
        first | omega | (simp; omega)
  · try simp only [nb] at h0
    refine exit (pX (pX (bX (pN (seq (region (cons (opv (Ev.assign (.c (v := I (-1)) rfl)) ?_))))))))
    refine nil (pN (ret (done rfl (.tmp rfl .nil) (retE ?_))))
    rw [idx_none eMeterConf.zero (fun k hk => hq k (by omega))]; rfl

theorem indexf_59 (f : Nat) (cap : List Value) (p : SMirrorConf → Bool) (u : Value) (xs : List SMirrorConf) (w : World) (hen : Enters Tryz.prog f) (hx : IsSl eMirrorConf w u xs) (hk : FnAt Tryz.prog f cap Nope w eMirrorConf bE (fun _ => True) p) : Calls Tryz.prog 133 #[u, (clo f cap).v] w (RetV w (I (idxF p xs))) := by
  have hle := hx.le
  refine enter0 19 Tryz.func133 rfl rfl (Nat.le_of_ble_eq_true rfl) ?_
  refine seq (region (cons (opv (Ev.assign (.c (v := I 0) rfl)) ?_)))
  refine nil (pN (seq (seq (region (cons (opv (Ev.move (.t rfl)) (cons (opv (Ev.len Tryz.underlying26 (.t rfl) (fun w I => hx.keep0 I.keeps)) ?_))))))))
  refine cons (opv (Ev.move (.c (v := I 0) rfl)) ?_)
  refine nil (pN (block (loop (X := Int) (fun x : Int => (0 ≤ x ∧ x ≤ xs.length) ∧ (∀ k : Nat, k < x → p (xs.getD k eMirrorConf.zero) = false)) (fun x : Int => [(0, true, u), (1, true, (clo f cap).v), (7, true, I xs.length), (8, true, I x)]) (fun x : Int => []) (fun x : Int => ((xs.length : Int) - x).toNat) (0) ⟨?_, ?_⟩ (by repeat first | exact Sub.nil | refine Sub.cons rfl ?_) (by repeat first | exact sR | exact sN | apply sC | apply sS | apply sA) (fun x hx => ?_))))
  · omega
  · intro k h; omega
  obtain ⟨i, rfl⟩ : ∃ y, y = x := ⟨x, rfl⟩
  obtain ⟨hi, hq⟩ : (0 ≤ i ∧ i ≤ xs.length) ∧ (∀ k : Nat, k < i → p (xs.getD k eMirrorConf.zero) = false) := hx
  show Sat _ _ [(0, true, u), (1, true, (clo f cap).v), (7, true, I xs.length), (8, true, I i)] []
  refine seq (region (cons (opv (Ev.lss_i (.t rfl) (.t rfl)) ?_)))
  refine nil (pN (seq ?_))
  first | refine condD rfl (fun h0 => ?_) (fun h0 => ?_) | refine cond rfl (fun h0 => ?_) (fun h0 => ?_)
  · try simp only [nb] at h0
    refine skip (pN (seq (block (seq (region (cons (opv (Ev.move (.t rfl)) (cons (opv (Ev.assign (.t rfl)) (nil (pN (seq (region (cons (opv (Ev.move (.t rfl)) (cons (opv (Ev.move (.t rfl)) (cons (opv (Ev.move (.t rfl)) (cons (opv (Ev.indexAddr Tryz.underlying26 ty59 (.t rfl) (.t rfl) (fun w I => hx.keep0 I.keeps) (fun _ => by omega)) ?_)))))))))))))))))))))
    refine cons (opv (Ev.loadS0 ty59 (.t rfl) (fun w I => hx.keep0 I.keeps) (fun _ => by omega)) ?_)
    refine cons (callcv (.t rfl) hen (.cons (.t rfl) .nil) (fun w I => hk.call trivial w I) ?_)
    refine nil (pN ?_)
    first | refine condD rfl (fun h1 => ?_) (fun h1 => ?_) | refine cond rfl (fun h1 => ?_) (fun h1 => ?_)
    · refine seq (region (cons (opv (Ev.move (.t rfl)) (cons (opv (Ev.assign (.t rfl)) (nil (pN (ret (bR (pR (pR (bR (pR (done rfl (.tmp rfl .nil) (retE ?_)))))))))))))))
      rw [idx_at eMirrorConf.zero (by omega) hq h1]; rfl
    · refine skip (bN (pN (region (cons (opv (Ev.add_i (.t rfl) (.c (v := I 1) rfl) (fun _ => by omega)) ?_)))))
      refine cons (opv (Ev.move (.t rfl)) (nil (pN (next (X := Int) (i + 1) ⟨?_, ?_⟩ ?_ (by repeat first | exact Sub.nil | refine Sub.cons rfl ?_) (by repeat first | exact sR | exact sN | apply sC | apply sS | apply sA)))))
      · try dsimp only
        omega
      · try dsimp only
        intro k h
        by_cases e : (k : Int) < i
        · exact hq k e
        · obtain rfl : k = i.toNat := by omega
          exact h1
      · try dsimp only
        first | omega | (simp; omega)
  · try simp only [nb] at h0
    refine exit (pX (pX (bX (pN (seq (region (cons (opv (Ev.assign (.c (v := I (-1)) rfl)) ?_))))))))
    refine nil (pN (ret (done rfl (.tmp rfl .nil) (retE ?_))))
    rw [idx_none eMirrorConf.zero (fun k hk => hq k (by omega))]; rfl

theorem set_52 (o : OV) (xs : List SRoute) (i : Int) (x : SRoute) (w : World) (h : At (OwnS o.v eRoute xs 52) w) (hn : xs.length ≤ 1048576) (hi : i < xs.length) : Calls Tryz.prog 138 #[o.v, I i, eRoute.val x] w (RetR w (OwnS o.v eRoute xs 52) (fun _ : OV => True) (fun o => o.v) (fun o => OwnS o.v eRoute (setL xs i x) 52)) := by
  refine enter (OwnS o.v eRoute xs 52).foot 18 [OwnS o.v eRoute xs 52] Tryz.func138 rfl rfl (Nat.le_of_ble_eq_true rfl) (start_at h) ?_
  refine seq (region (cons (box (E := eRoute) (.t rfl) (fun b1 => ?_))))
  refine cons (opv (Ev.assign (.c (v := (Go.Value.slice none 0 0)) rfl)) ?_)
  refine nil (pN (seq (seq (region (cons (opv (Ev.move (.t rfl)) (cons (opv (Ev.lss_i (.t rfl) (.c (v := I 0) rfl)) ?_))))))))
  refine nil (pN ?_)
  first | refine condD rfl (fun h0 => ?_) (fun h0 => ?_) | refine cond rfl (fun h0 => ?_) (fun h0 => ?_)
  · try simp only [nb] at h0
    refine seq (region (cons (opv (Ev.move (.t rfl)) (cons (opv (Ev.ldv ty52 (.t rfl) (Lens.id _)) ?_)))))
    refine cons (buildSlice (E := eRoute) Tryz.underlying23 ty52 z52 (.cons (.t rfl) .nil) rfl rfl (fun v2 => ?_))
    refine cons (append (E := eRoute) Tryz.underlying23 ty52 rfl zb52 zs52 (.t rfl) (.t rfl) (fun _ => by repeat first | exact Upd.head | apply Upd.tail | apply Upd.right) (by first | exact isSl_own (by repeat first | exact mH | apply mT | apply mA) | exact fun w I => IsSl.keep0 (by assumption) I.keeps) (⟨by (show _ ≤ 9223372036854775807); first | omega | (simp; done) | (simp; omega), by first | omega | (simp; done) | (simp; omega)⟩) (fun v3 => ?_))
    refine cons (opv (Ev.assign (.t rfl)) (nil (pN (ret (pR (done rfl (.tmp rfl .nil) (fun w I => ?_)))))))
    have e : setL xs i x = xs ++ [x] := by unfold setL; rw [if_pos h0]
    rw [e]
    exact retR v3 trivial rfl (by repeat first | exact mH | apply mT | apply mA) w I
  · try simp only [nb] at h0
    refine skip (pN (seq (region (cons (opv (Ev.move (.t rfl)) (cons (opv (Ev.move (.t rfl)) (cons (opv (Ev.ldv ty52 (.t rfl) (Lens.id _)) ?_)))))))))
    refine cons (opv (Ev.indexAddr Tryz.underlying23 ty52 (.t rfl) (.t rfl) (by first | exact isSl_own (by repeat first | exact mH | apply mT | apply mA) | exact fun w I => IsSl.keep0 (by assumption) I.keeps) (fun _ => by omega)) ?_)
    refine cons (storeS0 ty52 (.t rfl) (.t rfl) (by repeat first | exact Upd.head | apply Upd.tail | apply Upd.right) (by omega) ?_)
    refine nil (pN (seq (region (cons (opv (Ev.move (.t rfl)) (cons (opv (Ev.assign (.t rfl)) (nil (pN (ret (done rfl (.tmp rfl .nil) (fun w I => ?_))))))))))))
    have e : setL xs i x = xs.set i.toNat x := by unfold setL; rw [if_neg h0]
    rw [e]
    exact retR o trivial rfl (by repeat first | exact mH | apply mT | apply mA) w I

theorem set_57 (o : OV) (xs : List SMeterConf) (i : Int) (x : SMeterConf) (w : World) (h : At (OwnS o.v eMeterConf xs 57) w) (hn : xs.length ≤ 1048576) (hi : i < xs.length) : Calls Tryz.prog 140 #[o.v, I i, eMeterConf.val x] w (RetR w (OwnS o.v eMeterConf xs 57) (fun _ : OV => True) (fun o => o.v) (fun o => OwnS o.v eMeterConf (setL xs i x) 57)) := by
  refine enter (OwnS o.v eMeterConf xs 57).foot 18 [OwnS o.v eMeterConf xs 57] Tryz.func140 rfl rfl (Nat.le_of_ble_eq_true rfl) (start_at h) ?_
  refine seq (region (cons (box (E := eMeterConf) (.t rfl) (fun b1 => ?_))))
  refine cons (opv (Ev.assign (.c (v := (Go.Value.slice none 0 0)) rfl)) ?_)
  refine nil (pN (seq (seq (region (cons (opv (Ev.move (.t rfl)) (cons (opv (Ev.lss_i (.t rfl) (.c (v := I 0) rfl)) ?_))))))))
  refine nil (pN ?_)
  first | refine condD rfl (fun h0 => ?_) (fun h0 => ?_) | refine cond rfl (fun h0 => ?_) (fun h0 => ?_)
  · try simp only [nb] at h0
    refine seq (region (cons (opv (Ev.move (.t rfl)) (cons (opv (Ev.ldv ty57 (.t rfl) (Lens.id _)) ?_)))))
    refine cons (buildSlice (E := eMeterConf) Tryz.underlying25 ty57 z57 (.cons (.t rfl) .nil) rfl rfl (fun v2 => ?_))
    refine cons (append (E := eMeterConf) Tryz.underlying25 ty57 rfl zb57 zs57 (.t rfl) (.t rfl) (fun _ => by repeat first | exact Upd.head | apply Upd.tail | apply Upd.right) (by first | exact isSl_own (by repeat first | exact mH | apply mT | apply mA) | exact fun w I => IsSl.keep0 (by assumption) I.keeps) (⟨by (show _ ≤ 9223372036854775807); first | omega | (simp; done) | (simp; omega), by first | omega | (simp; done) | (simp; omega)⟩) (fun v3 => ?_))
    refine cons (opv (Ev.assign (.t rfl)) (nil (pN (ret (pR (done rfl (.tmp rfl .nil) (fun w I => ?_)))))))
    have e : setL xs i x = xs ++ [x] := by unfold setL; rw [if_pos h0]
    rw [e]
    exact retR v3 trivial rfl (by repeat first | exact mH | apply mT | apply mA) w I
  · try simp only [nb] at h0
    refine skip (pN (seq (region (cons (opv (Ev.move (.t rfl)) (cons (opv (Ev.move (.t rfl)) (cons (opv (Ev.ldv ty57 (.t rfl) (Lens.id _)) ?_)))))))))
    refine cons (opv (Ev.indexAddr Tryz.underlying25 ty57 (.t rfl) (.t rfl) (by first | exact isSl_own (by repeat first | exact mH | apply mT | apply mA) | exact fun w I => IsSl.keep0 (by assumption) I.keeps) (fun _ => by omega)) ?_)
    refine cons (storeS0 ty57 (.t rfl) (.t rfl) (by repeat first | exact Upd.head | apply Upd.tail | apply Upd.right) (by omega) ?_)
    refine nil (pN (seq (region (cons (opv (Ev.move (.t rfl)) (cons (opv (Ev.assign (.t rfl)) (nil (pN (ret (done rfl (.tmp rfl .nil) (fun w I => ?_))))))))))))
    have e : setL xs i x = xs.set i.toNat x := by unfold setL; rw [if_neg h0]
    rw [e]
    exact retR o trivial rfl (by repeat first | exact mH | apply mT | apply mA) w I

theorem set_59 (o : OV) (xs : List SMirrorConf) (i : Int) (x : SMirrorConf) (w : World) (h : At (OwnS o.v eMirrorConf xs 59) w) (hn : xs.length ≤ 1048576) (hi : i < xs.length) : Calls Tryz.prog 142 #[o.v, I i, eMirrorConf.val x] w (RetR w (OwnS o.v eMirrorConf xs 59) (fun _ : OV => True) (fun o => o.v) (fun o => OwnS o.v eMirrorConf (setL xs i x) 59)) := by
  refine enter (OwnS o.v eMirrorConf xs 59).foot 18 [OwnS o.v eMirrorConf xs 59] Tryz.func142 rfl rfl (Nat.le_of_ble_eq_true rfl) (start_at h) ?_
  refine seq (region (cons (box (E := eMirrorConf) (.t rfl) (fun b1 => ?_))))
  refine cons (opv (Ev.assign (.c (v := (Go.Value.slice none 0 0)) rfl)) ?_)
  refine nil (pN (seq (seq (region (cons (opv (Ev.move (.t rfl)) (cons (opv (Ev.lss_i (.t rfl) (.c (v := I 0) rfl)) ?_))))))))
  refine nil (pN ?_)
  first | refine condD rfl (fun h0 => ?_) (fun h0 => ?_) | refine cond rfl (fun h0 => ?_) (fun h0 => ?_)
  · try simp only [nb] at h0
    refine seq (region (cons (opv (Ev.move (.t rfl)) (cons (opv (Ev.ldv ty59 (.t rfl) (Lens.id _)) ?_)))))
    refine cons (buildSlice (E := eMirrorConf) Tryz.underlying26 ty59 z59 (.cons (.t rfl) .nil) rfl rfl (fun v2 => ?_))
    refine cons (append (E := eMirrorConf) Tryz.underlying26 ty59 rfl zb59 zs59 (.t rfl) (.t rfl) (fun _ => by repeat first | exact Upd.head | apply Upd.tail | apply Upd.right) (by first | exact isSl_own (by repeat first | exact mH | apply mT | apply mA) | exact fun w I => IsSl.keep0 (by assumption) I.keeps) (⟨by (show _ ≤ 9223372036854775807); first | omega | (simp; done) | (simp; omega), by first | omega | (simp; done) | (simp; omega)⟩) (fun v3 => ?_))
    refine cons (opv (Ev.assign (.t rfl)) (nil (pN (ret (pR (done rfl (.tmp rfl .nil) (fun w I => ?_)))))))
    have e : setL xs i x = xs ++ [x] := by unfold setL; rw [if_pos h0]
    rw [e]
    exact retR v3 trivial rfl (by repeat first | exact mH | apply mT | apply mA) w I
  · try simp only [nb] at h0
    refine skip (pN (seq (region (cons (opv (Ev.move (.t rfl)) (cons (opv (Ev.move (.t rfl)) (cons (opv (Ev.ldv ty59 (.t rfl) (Lens.id _)) ?_)))))))))
    refine cons (opv (Ev.indexAddr Tryz.underlying26 ty59 (.t rfl) (.t rfl) (by first | exact isSl_own (by repeat first | exact mH | apply mT | apply mA) | exact fun w I => IsSl.keep0 (by assumption) I.keeps) (fun _ => by omega)) ?_)
    refine cons (storeS0 ty59 (.t rfl) (.t rfl) (by repeat first | exact Upd.head | apply Upd.tail | apply Upd.right) (by omega) ?_)
    refine nil (pN (seq (region (cons (opv (Ev.move (.t rfl)) (cons (opv (Ev.assign (.t rfl)) (nil (pN (ret (done rfl (.tmp rfl .nil) (fun w I => ?_))))))))))))
    have e : setL xs i x = xs.set i.toNat x := by unfold setL; rw [if_neg h0]
    rw [e]
    exact retR o trivial rfl (by repeat first | exact mH | apply mT | apply mA) w I

theorem nan_c (x : Int) (w : World) : Calls Tryz.prog 187 #[I x] w (RetV w (.bool false)) := by
  refine enter0 6 Tryz.func187 rfl rfl (Nat.le_of_ble_eq_true rfl) ?_
  refine seq (region (cons (opv (Ev.assign (.c (v := .bool false) rfl)) ?_)))
  refine nil (pN (seq (region (cons (opv (Ev.move (.t rfl)) (cons (opv (Ev.move (.t rfl)) (cons (opv (Ev.neq_i (.t rfl) (.t rfl)) ?_)))))))))
  refine cons (opv (Ev.assign (.t rfl)) (nil (pN (ret (done rfl (.tmp rfl .nil) (retE ?_))))))
  simp

theorem nan_s (x : Int) (w : World) : Calls Tryz.prog 161 #[I x] w (RetV w (.bool false)) := by
  refine enter0 6 Tryz.func161 rfl rfl (Nat.le_of_ble_eq_true rfl) ?_
  refine seq (region (cons (opv (Ev.assign (.c (v := .bool false) rfl)) ?_)))
  refine nil (pN (seq (region (cons (opv (Ev.move (.t rfl)) (cons (opv (Ev.move (.t rfl)) (cons (opv (Ev.neq_i (.t rfl) (.t rfl)) ?_)))))))))
  refine cons (opv (Ev.assign (.t rfl)) (nil (pN (ret (done rfl (.tmp rfl .nil) (retE ?_))))))
  simp

theorem en187 : Gx.Enters Tryz.prog 187 := Gx.Enters.mk' (by kernel_rfl)

theorem less_ok (x y : Int) (w : World) : Calls Tryz.prog 160 #[I x, I y] w (RetV w (.bool (decide (x < y)))) := by
  refine enter0 17 Tryz.func160 rfl rfl (Nat.le_of_ble_eq_true rfl) ?_
  refine seq (region (cons (opv (Ev.assign (.c (v := .bool false) rfl)) ?_)))
  refine nil (pN (seq (region (cons (opv (Ev.move (.t rfl)) (cons (callv en187 (.cons (.t rfl) .nil) (fun w I => nan_c _ w) ?_)))))))
  refine cons (opv (Ev.move (.t rfl)) (cons (opg rfl rfl (Ev.move (.t rfl)) ?_)))
  refine cons (callg rfl rfl en187 (.cons (.g rfl id) .nil) (fun hg w I => nan_c _ w) ?_)
  refine cons (opg rfl rfl (Ev.not (.g rfl id)) ?_)
  refine cons (opv (Ev.pickA (.t rfl) (fun {_} h => by cases h; rfl) ⟨_, rfl⟩ (by intro h1 h; first | (rw [h] <;> rfl) | (rw [h1, h] <;> rfl) | (rw [h, h1] <;> rfl) | simp_all) (.c (v := .bool false) rfl)) ?_)
  refine cons (opv (Ev.move (.t rfl)) (cons (opg rfl rfl (Ev.move (.t rfl)) ?_)))
  refine cons (opg rfl rfl (Ev.move (.t rfl)) ?_)
  refine cons (opg rfl rfl (Ev.lss_i (.g rfl id) (.g rfl id)) ?_)
  refine cons (opv (Ev.pickO (.t rfl) (.c (v := .bool true) rfl) (fun {_} h => by cases h; rfl) ⟨_, rfl⟩ (by intro h1 h; first | (rw [h] <;> rfl) | (rw [h1, h] <;> rfl) | (rw [h, h1] <;> rfl) | simp_all)) ?_)
  refine cons (opv (Ev.assign (.t rfl)) (nil (pN (ret (done rfl (.tmp rfl .nil) (retE ?_))))))
  simp

theorem en160 : Gx.Enters Tryz.prog 160 := Gx.Enters.mk' (by kernel_rfl)

theorem en161 : Gx.Enters Tryz.prog 161 := Gx.Enters.mk' (by kernel_rfl)

theorem search_ok (u : Value) (xs : List Int) (a : Int) (w : World) (hx : IsSl iE w u xs) (hs : xs.Pairwise (· < ·)) (hn : xs.length ≤ 1048576) : Calls Tryz.prog 135 #[u, I a] w (RetV w (.tuple #[I (lowB xs a), .bool (decide (lowB xs a < xs.length) && decide (xs.getD (lowB xs a).toNat 0 = a))])) := by
  have hle := hx.le
  refine enter0 54 Tryz.func135 rfl rfl (Nat.le_of_ble_eq_true rfl) ?_
  refine seq (region (cons (opv (Ev.assign (.c (v := I 0) rfl)) ?_)))
  refine cons (opv (Ev.assign (.c (v := .bool false) rfl)) ?_)
  refine nil (pN (seq (region (cons (opv (Ev.move (.t rfl)) (cons (opv (Ev.len Tryz.underlying22 (.t rfl) (fun w I => hx.keep0 I.keeps)) ?_)))))))
  refine cons (opv (Ev.assign (.t rfl)) (nil (pN (seq (region (cons (opv (Ev.move (.t rfl)) (cons (opv (Ev.assign (.c (v := I 0) rfl)) ?_)))))))))
  refine cons (opv (Ev.assign (.t rfl)) (nil (pN (seq (block (loop (X := Int × Int) (fun x : Int × Int => (0 ≤ x.1 ∧ x.1 ≤ x.2 ∧ x.2 ≤ xs.length) ∧ (∀ k : Nat, k < x.1 → xs.getD k 0 < a) ∧ (∀ k : Nat, x.2 ≤ k → k < xs.length → ¬ xs.getD k 0 < a)) (fun x : Int × Int => [(0, true, u), (1, true, I a), (6, true, I xs.length), (7, true, I x.1), (8, true, I x.2)]) (fun x : Int × Int => []) (fun x : Int × Int => (x.2 - x.1).toNat) (0, xs.length) ⟨?_, ?_, ?_⟩ (by repeat first | exact Sub.nil | refine Sub.cons rfl ?_) (by repeat first | exact sR | exact sN | apply sC | apply sS | apply sA) (fun x hx => ?_)))))))
  · omega
  · intro k h; omega
  · intro k h h3; omega
  obtain ⟨i, j⟩ := x
  obtain ⟨hi, hl, hg⟩ : (0 ≤ i ∧ i ≤ j ∧ j ≤ xs.length) ∧ (∀ k : Nat, k < i → xs.getD k 0 < a) ∧ (∀ k : Nat, j ≤ k → k < xs.length → ¬ xs.getD k 0 < a) := hx
  show Sat _ _ [(0, true, u), (1, true, I a), (6, true, I xs.length), (7, true, I i), (8, true, I j)] []
  refine seq (seq (region (cons (opv (Ev.move (.t rfl)) (cons (opv (Ev.move (.t rfl)) (cons (opv (Ev.lss_i (.t rfl) (.t rfl)) ?_))))))))
  refine nil (pN ?_)
  first | refine condD rfl (fun h0 => ?_) (fun h0 => ?_) | refine cond rfl (fun h0 => ?_) (fun h0 => ?_)
  · try simp only [nb] at h0
    refine skip (pN (block (seq (region (cons (opv (Ev.move (.t rfl)) (cons (opv (Ev.move (.t rfl)) (cons (opv (Ev.add_i (.t rfl) (.t rfl) (fun _ => by omega)) ?_))))))))))
    refine cons (opv (Ev.conv_i_u64 Tryz.underlying199 Tryz.underlying3 (.t rfl)) ?_)
    refine cons (opv (Ev.shr_u64 (.t rfl) (.c rfl) (fun _ => by decide)) ?_)
    refine cons (opv (Ev.to (v' := I ((i + j) / 2)) (Ev.conv_u64_i Tryz.underlying3 Tryz.underlying199 (.t rfl) (fun _ => by have := mid_nat (i := i) (j := j) ⟨hi.1, hi.2.1, by omega⟩; omega)) (congrArg I (mid_nat ⟨hi.1, hi.2.1, by omega⟩))) ?_)
    refine cons (opv (Ev.assign (.t rfl)) (nil (pN (seq (region (cons (opv (Ev.move (.t rfl)) (cons (opv (Ev.move (.t rfl)) (cons (opv (Ev.indexAddr Tryz.underlying22 ty3 (.t rfl) (.t rfl) (fun w I => hx.keep0 I.keeps) (fun _ => by omega)) ?_)))))))))))
    refine cons (opv (Ev.loadS0 ty3 (.t rfl) (fun w I => hx.keep0 I.keeps) (fun _ => by omega)) ?_)
    refine cons (opv (Ev.move (.t rfl)) (cons (callv en160 (.cons (.t rfl) (.cons (.t rfl) .nil)) (fun w I => less_ok _ _ w) ?_)))
    refine nil (pN ?_)
    first | refine condD rfl (fun h1 => ?_) (fun h1 => ?_) | refine cond rfl (fun h1 => ?_) (fun h1 => ?_)
    · try simp only [nb] at h1
      refine region (cons (opv (Ev.move (.t rfl)) (cons (opv (Ev.add_i (.t rfl) (.c (v := I 1) rfl) (fun _ => by omega)) ?_))))
      refine cons (opv (Ev.assign (.t rfl)) (nil (bN (pN (next (X := Int × Int) (((i + j) / 2) + 1, j) ⟨?_, ?_, ?_⟩ ?_ (by repeat first | exact Sub.nil | refine Sub.cons rfl ?_) (by repeat first | exact sR | exact sN | apply sC | apply sS | apply sA))))))
      · try dsimp only
        omega
      · try dsimp only
        intro k h
        exact up_lt hs (by omega) (by omega) h1
      · try dsimp only
        exact hg
      · try dsimp only
        first | omega | (simp; omega)
    · try simp only [nb] at h1
      refine region (cons (opv (Ev.move (.t rfl)) (cons (opv (Ev.assign (.t rfl)) (nil (bN (pN (next (X := Int × Int) (i, ((i + j) / 2)) ⟨?_, ?_, ?_⟩ ?_ (by repeat first | exact Sub.nil | refine Sub.cons rfl ?_) (by repeat first | exact sR | exact sN | apply sC | apply sS | apply sA)))))))))
      · try dsimp only
        omega
      · try dsimp only
        exact hl
      · try dsimp only
        intro k h h3
        exact up_ge hs (by omega) h3 h1
      · try dsimp only
        first | omega | (simp; omega)
  · try simp only [nb] at h0
    refine exit (pX (pX (bX (pN (seq (region (cons (opv (Ev.move (.t rfl)) (cons (opv (Ev.move (.t rfl)) (cons (opv (Ev.move (.t rfl)) (cons (opv (Ev.lss_i (.t rfl) (.t rfl)) ?_))))))))))))))
    refine cons (opv (Ev.move (.t rfl)) (cons (opg rfl rfl (Ev.move (.t rfl)) ?_)))
    refine cons (opg rfl rfl (Ev.move (.t rfl)) ?_)
    refine cons (opg rfl rfl (Ev.indexAddr Tryz.underlying22 ty3 (.g rfl id) (.g rfl id) (fun w I => hx.keep0 I.keeps) (fun _ => by first | omega | (rename_i hg; simp at hg; omega))) ?_)
    refine cons (opg rfl rfl (Ev.loadS0 ty3 (.g rfl id) (fun w I => hx.keep0 I.keeps) (fun _ => by first | omega | (rename_i hg; simp at hg; omega))) ?_)
    refine cons (opg rfl rfl (Ev.move (.t rfl)) ?_)
    refine cons (opg rfl rfl (Ev.eql_i (.g rfl id) (.g rfl id)) ?_)
    refine cons (opg rfl rfl (Ev.move (.g rfl id)) ?_)
    refine cons (opg rfl rfl (Ev.move (.t rfl)) ?_)
    refine cons (opg rfl rfl (Ev.move (.t rfl)) ?_)
    refine cons (opg rfl rfl (Ev.indexAddr Tryz.underlying22 ty3 (.g rfl id) (.g rfl id) (fun w I => hx.keep0 I.keeps) (fun _ => by first | omega | (rename_i hg; simp at hg; omega))) ?_)
    refine cons (opg rfl rfl (Ev.loadS0 ty3 (.g rfl id) (fun w I => hx.keep0 I.keeps) (fun _ => by first | omega | (rename_i hg; simp at hg; omega))) ?_)
    refine cons (callg rfl rfl en161 (.cons (.g rfl id) .nil) (fun hg w I => nan_s _ w) ?_)
    refine cons (opg rfl rfl (Ev.move (.g rfl id)) ?_)
    refine cons (opg rfl rfl (Ev.move (.t rfl)) ?_)
    refine cons (callg rfl rfl en161 (.cons (.g rfl id) .nil) (fun hg w I => nan_s _ w) ?_)
    refine cons (opg rfl rfl (Ev.pickA (.g rfl id) (fun {_} h => by cases h; rfl) ⟨_, rfl⟩ (by intro h1 h; first | (rw [h] <;> rfl) | (rw [h1, h] <;> rfl) | (rw [h, h1] <;> rfl) | simp_all) (.c (v := .bool false) rfl)) ?_)
    refine cons (opg rfl rfl (Ev.pickO (.g rfl id) (.c (v := .bool true) rfl) (fun {_} h => by cases h; rfl) ⟨_, rfl⟩ (by intro h1 h; first | (rw [h] <;> rfl) | (rw [h1, h] <;> rfl) | (rw [h, h1] <;> rfl) | simp_all)) ?_)
    refine cons (opv (Ev.pickA (.t rfl) (fun {_} h => by cases h; rfl) ⟨_, rfl⟩ (by intro h1 h; first | (rw [h] <;> rfl) | (rw [h1, h] <;> rfl) | (rw [h, h1] <;> rfl) | simp_all) (.c (v := .bool false) rfl)) ?_)
    refine cons (opv (Ev.assign (.t rfl)) (cons (opv (Ev.assign (.t rfl)) (nil (pN (ret (done rfl (.tmp rfl (.tmp rfl .nil)) (retE ?_))))))))
    have e : lowB xs a = i := by
      have := lowB_of (l := xs) (x := a) (n := i.toNat) (by omega) (fun k h => hl k (by omega)) (fun k h h2 => hg k (by omega) h2)
      omega
    rw [e]
    simp
    rfl
end Go.Proofs.YtnoobdijbpmjkaaGreat
