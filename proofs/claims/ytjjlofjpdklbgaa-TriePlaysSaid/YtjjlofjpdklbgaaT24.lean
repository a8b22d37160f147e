/- trie -/
import Derived.Test.YtjjlofjpdklbgaaT23
set_option linter.unusedVariables false
set_option linter.unusedSimpArgs false
namespace Go.Proofs.Ytjjlofjpdklbgaa
open Go Go.Gx

/-! ### Turned about -/
theorem tmod3 {m n : Int} (h0 : 0 ≤ m) (h1 : m < 3 * n) : m.tmod n = if m < n then m else if m < 2 * n then m - n else m - 2 * n := by
  rw [Int.tmod_eq_emod_of_nonneg h0]
  split
  · exact Int.emod_eq_of_lt h0 (by assumption)
  · split
    · have e : m = (m - n) + n := by omega
      conv => lhs; rw [e]
      rw [Int.add_emod_right]
      exact Int.emod_eq_of_lt (by omega) (by omega)
    · have e : m = (m - 2 * n) + n + n := by omega
      conv => lhs; rw [e]
      rw [Int.add_emod_right, Int.add_emod_right]
      exact Int.emod_eq_of_lt (by omega) (by omega)
/-- Which one comes i-th. -/
def kk (sh n i : Int) : Int := (i + sh.tmod n + n).tmod n
theorem kk_m (sh : Int) {n i : Int} (hn : 0 < n) (h0 : 0 ≤ i) (h1 : i < n) : (-n < sh.tmod n ∧ sh.tmod n < n) ∧ kk sh n i = if i + sh.tmod n + n < n then i + sh.tmod n + n else if i + sh.tmod n + n < 2 * n then i + sh.tmod n + n - n else i + sh.tmod n + n - 2 * n := by
  have h2 : -n < sh.tmod n ∧ sh.tmod n < n := by
    have a := Int.tmod_lt_of_pos sh hn
    have b := Int.lt_tmod_of_pos sh hn
    omega
  exact ⟨h2, tmod3 (by omega) (by omega)⟩
theorem kk_in (sh : Int) {n i : Int} (hn : 0 < n) (h0 : 0 ≤ i) (h1 : i < n) : 0 ≤ kk sh n i ∧ kk sh n i < n := by
  obtain ⟨h2, h3⟩ := kk_m sh hn h0 h1
  rw [h3]
  split
  · omega
  · split <;> omega
theorem kk_inj (sh : Int) {n i j : Int} (h0 : 0 ≤ i) (h1 : i < n) (h2 : 0 ≤ j) (h3 : j < n) (h : kk sh n i = kk sh n j) : i = j := by
  obtain ⟨a, e1⟩ := kk_m sh (by omega) h0 h1
  obtain ⟨_, e2⟩ := kk_m sh (by omega) h2 h3
  rw [e1, e2] at h
  split at h <;> split at h <;> (try split at h) <;> (try split at h) <;> omega
theorem kk_sur (sh : Int) {n t : Int} (h0 : 0 ≤ t) (h1 : t < n) : ∃ j, 0 ≤ j ∧ j < n ∧ kk sh n j = t := by
  obtain ⟨a, _⟩ := kk_m sh (by omega) h0 h1
  rcases (show 0 ≤ t - (sh.tmod n + n) ∨ (t - (sh.tmod n + n) < 0 ∧ 0 ≤ t - (sh.tmod n + n) + n) ∨ t - (sh.tmod n + n) + n < 0 by omega) with h | h | h
  · refine ⟨t - (sh.tmod n + n), by omega, by omega, ?_⟩
    rw [(kk_m sh (by omega) (by omega) (by omega)).2, if_pos (by omega)]
    omega
  · refine ⟨t - (sh.tmod n + n) + n, by omega, by omega, ?_⟩
    rw [(kk_m sh (by omega) (by omega) (by omega)).2, if_neg (by omega), if_pos (by omega)]
    omega
  · refine ⟨t - (sh.tmod n + n) + 2 * n, by omega, by omega, ?_⟩
    rw [(kk_m sh (by omega) (by omega) (by omega)).2, if_neg (by omega), if_neg (by omega)]
    omega
abbrev rp (r : SRoute) : SPrefix × Int := (r.to_, r.out)
theorem getD_inj {l : List SRoute} (h : (l.map (·.to_)).Nodup) {i j : Nat} {z : SRoute} (hi : i < l.length) (hj : j < l.length) (e : (l.getD i z).to_ = (l.getD j z).to_) : i = j := by
  have e1 : l.getD i z = l[i] := by simp [List.getD, hi]
  have e2 : l.getD j z = l[j] := by simp [List.getD, hj]
  rw [e1, e2] at e
  rw [List.nodup_iff_pairwise_ne, List.pairwise_map] at h
  rcases Nat.lt_trichotomy i j with g | g | g
  · exact absurd e (List.pairwise_iff_getElem.1 h i j hi hj g)
  · exact g
  · exact absurd e.symm (List.pairwise_iff_getElem.1 h j i hj hi g)
theorem routes_distinct : ∀ (l : List SRoute) (y : SPrefix × Int), (l.map (·.to_)).Nodup → (routesL l y ↔ ∃ r ∈ l, y = rp r) := by
  intro l y h
  obtain ⟨n, hn⟩ : ∃ n, l.length = n := ⟨_, rfl⟩
  induction n generalizing l with
  | zero =>
    obtain rfl := List.eq_nil_of_length_eq_zero hn
    exact ⟨fun h => h.elim, fun ⟨_, h, _⟩ => by simp at h⟩
  | succ n ih =>
    obtain ⟨k, r, rfl⟩ : ∃ k r, l = k ++ [r] := ⟨l.dropLast, l.getLast (by intro e; rw [e] at hn; simp at hn), (List.dropLast_concat_getLast _).symm⟩
    rw [List.map_append, List.nodup_append] at h
    have h1 := ih k h.1 (by simpa using hn)
    rw [routesL_snoc, h1]
    constructor
    · rintro (e | ⟨⟨q, hq, e⟩, _⟩)
      · exact ⟨r, by simp, e⟩
      · exact ⟨q, by simp [hq], e⟩
    · rintro ⟨q, hq, e⟩
      rcases List.mem_append.1 hq with hq | hq
      · refine .inr ⟨⟨q, hq, e⟩, fun e2 => ?_⟩
        rw [e] at e2
        exact h.2.2 q.to_ (List.mem_map_of_mem hq) r.to_ (by simp) e2
      · rw [List.mem_singleton.1 hq] at e
        exact .inl e
theorem way_step {good : List SRoute} (hg : (good.map (·.to_)).Nodup) {z : SRoute} {E E2 : List (SPrefix × Int)} {sh i : Int} (h0 : 0 ≤ i) (h1 : i < good.length) (hm : ∀ y, y ∈ E ↔ ∃ j : Int, 0 ≤ j ∧ j < i ∧ y = rp (good.getD (kk sh good.length j).toNat z))
    (h2 : ∀ y, y ∈ E2 ↔ (y = rp (good.getD (kk sh good.length i).toNat z) ∨ (y ∈ E ∧ y.1 ≠ (good.getD (kk sh good.length i).toNat z).to_))) :
    ∀ y, y ∈ E2 ↔ ∃ j : Int, 0 ≤ j ∧ j < i + 1 ∧ y = rp (good.getD (kk sh good.length j).toNat z) := fun y => by
  rw [h2, hm]
  constructor
  · rintro (e | ⟨⟨j, j0, j1, e⟩, _⟩)
    · exact ⟨i, h0, by omega, e⟩
    · exact ⟨j, j0, by omega, e⟩
  · rintro ⟨j, j0, j1, e⟩
    by_cases hj : j = i
    · subst hj
      exact .inl e
    · refine .inr ⟨⟨j, j0, by omega, e⟩, fun e2 => hj ?_⟩
      rw [e] at e2
      have a := kk_in sh (n := good.length) (i := j) (by omega) j0 (by omega)
      have b := kk_in sh (n := good.length) (i := i) (by omega) h0 h1
      have c := getD_inj hg (by omega) (by omega) e2
      exact kk_inj sh j0 (by omega) h0 h1 (by omega)
theorem way_all {good : List SRoute} {z : SRoute} {E : List (SPrefix × Int)} {sh : Int} (hm : ∀ y, y ∈ E ↔ ∃ j : Int, 0 ≤ j ∧ j < good.length ∧ y = rp (good.getD (kk sh good.length j).toNat z)) (y : SPrefix × Int) : y ∈ E ↔ ∃ r ∈ good, y = rp r := by
  rw [hm]
  constructor
  · rintro ⟨j, j0, j1, e⟩
    have a := kk_in sh (n := good.length) (i := j) (by omega) j0 j1
    exact ⟨_, getD_in' good _ z (by omega), e⟩
  · rintro ⟨r, hr, e⟩
    obtain ⟨k, hk, rfl⟩ := List.mem_iff_getElem.1 hr
    obtain ⟨j, j0, j1, hj⟩ := kk_sur sh (n := good.length) (t := k) (by omega) (by omega)
    refine ⟨j, j0, j1, ?_⟩
    rw [hj, e]
    simp [List.getD, hk]
theorem ents_good {t : Tt} (ho : t.OK) {good : List SRoute} (hg : (good.map (·.to_)).Nodup) (h : ∀ y, y ∈ t.ents ↔ ∃ r ∈ good, y = rp r) : t.n = good.length := by
  have h1 := ents_len ho (l := good.map rp) (by rw [List.map_map]; exact hg) (fun y => by
    rw [h, List.mem_map]
    exact ⟨fun ⟨r, hr, e⟩ => ⟨r, hr, e.symm⟩, fun ⟨r, hr, e⟩ => ⟨r, hr, e.symm⟩⟩)
  rwa [List.length_map] at h1
theorem good_snoc {good : List SRoute} {x : SRoute} (hg : (good.map (·.to_)).Nodup) (h : good.any (fun r => decide (r.to_ = x.to_)) = false) : ((good ++ [x]).map (·.to_)).Nodup := by
  rw [List.map_append, List.nodup_append]
  refine ⟨hg, by simp, fun a ha b hb e => ?_⟩
  obtain ⟨r, hr, rfl⟩ := List.mem_map.1 ha
  simp at hb
  rw [List.any_eq_false] at h
  exact h r hr (decide_eq_true (e.trans hb))
theorem any_snoc {l : List SRoute} {i : Int} (h0 : 0 ≤ i) (h1 : i < l.length) (z : SRoute) (f : SRoute → Bool) : (l.take (i + 1).toNat).any f = ((l.take i.toNat).any f || f (l.getD i.toNat z)) := by
  rw [take_snoc' l i h0 h1 z, List.any_append]
  simp
theorem getD_at {α : Type} {l : List α} {k : Nat} (hk : k < l.length) (z : α) : l.getD k z = l[k] := by simp [List.getD, hk]
theorem pair_at {α : Type} {R : α → α → Prop} {l : List α} (h : l.Pairwise R) {i : Int} {z : α} (h0 : 0 < i) (h1 : i < l.length) : R (l.getD (i - 1).toNat z) (l.getD i.toNat z) := by
  rw [getD_at (show (i - 1).toNat < l.length by omega) z, getD_at (show i.toNat < l.length by omega) z]
  exact List.pairwise_iff_getElem.1 h _ _ _ _ (by omega)

theorem shape_to (t : Tt) (z : List SPrefix) (hz : t.shape = z) (w : World) (ht : t.At w) (ho : t.OK) (hn : z.length ≤ 4000000000) : Calls Try.prog 19 #[t.ptr.v] w (RetO w ePrefix z 36) := by
  subst hz
  exact shape_ok t w ht ho (by rw [nodes_len]; exact hn)
end Go.Proofs.Ytjjlofjpdklbgaa
