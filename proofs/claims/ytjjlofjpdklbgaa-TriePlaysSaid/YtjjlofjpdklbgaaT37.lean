/- trie -/
import Derived.Test.YtjjlofjpdklbgaaT34
set_option linter.unusedVariables false
set_option linter.unusedSimpArgs false
namespace Go.Proofs.Ytjjlofjpdklbgaa
open Go Go.Gx

/-- What Find has come to after so many. -/
def stF (ls : List SRef18Entry) (a : SAddr) (i : Nat) : SPrefix × Int × Bool := ((ls.take i).map prE).foldl (fStep a) (ePrefix.zero, 0, false)
theorem stF_snoc (ls : List SRef18Entry) (a : SAddr) {i : Int} (h0 : 0 ≤ i) (h1 : i < ls.length) (z : SRef18Entry) : stF ls a (i + 1).toNat = fStep a (stF ls a i.toNat) (prE (ls.getD i.toNat z)) := by
  unfold stF
  rw [take_snoc' ls i h0 h1 z, List.map_append, List.foldl_append]
  rfl
theorem fStep_T {a : SAddr} {s : SPrefix × Int × Bool} {x : SPrefix × Int} (h1 : hasP x.1 a = true) (h2 : s.2.2 = true → s.1.bits < x.1.bits) : fStep a s x = (x.1, x.2, true) := by
  unfold fStep
  rw [if_pos]
  rw [h1]
  cases h : s.2.2 with
  | false => rfl
  | true => simp [h2 h]
theorem fStep_F {a : SAddr} {s : SPrefix × Int × Bool} {x : SPrefix × Int} (h : hasP x.1 a = true → s.2.2 = true ∧ ¬ s.1.bits < x.1.bits) : fStep a s x = s := by
  unfold fStep
  rw [if_neg]
  cases h1 : hasP x.1 a with
  | false => simp
  | true =>
    obtain ⟨h2, h3⟩ := h h1
    simp [h2, h3]
theorem stF_yes {ls : List SRef18Entry} {a : SAddr} {i best : Int} {z : SRef18Entry} (h0 : 0 ≤ i) (h1 : i < ls.length) (hy : hasP (ls.getD i.toNat z).p a = true ∧ (best < 0 ∨ (ls.getD best.toNat z).p.bits < (ls.getD i.toNat z).p.bits)) (hb0 : best < 0 → stF ls a i.toNat = (ePrefix.zero, 0, false)) (hb1 : 0 ≤ best → stF ls a i.toNat = ((ls.getD best.toNat z).p, (ls.getD best.toNat z).v, true)) : stF ls a (i + 1).toNat = ((ls.getD i.toNat z).p, (ls.getD i.toNat z).v, true) := by
  rw [stF_snoc ls a h0 h1 z]
  refine fStep_T hy.1 (fun e => ?_)
  rcases hy.2 with g | g
  · rw [hb0 g] at e; cases e
  · by_cases g2 : best < 0
    · rw [hb0 g2] at e; cases e
    · rw [hb1 (by omega)]; exact g
theorem stF_no {ls : List SRef18Entry} {a : SAddr} {i best : Int} {z : SRef18Entry} (h0 : 0 ≤ i) (h1 : i < ls.length) (hno : hasP (ls.getD i.toNat z).p a = true → ¬ best < 0 ∧ ¬ (ls.getD best.toNat z).p.bits < (ls.getD i.toNat z).p.bits) (hb0 : best < 0 → stF ls a i.toNat = (ePrefix.zero, 0, false)) (hb1 : 0 ≤ best → stF ls a i.toNat = ((ls.getD best.toNat z).p, (ls.getD best.toNat z).v, true)) : stF ls a (i + 1).toNat = stF ls a i.toNat := by
  rw [stF_snoc ls a h0 h1 z]
  refine fStep_F (fun e => ?_)
  have h := hno e
  rw [hb1 (by omega)]
  exact ⟨rfl, h.2⟩
theorem and_or_T {A B C : Bool} {p q : Prop} [Decidable p] [Decidable q] (hB : B = decide p) (hC : C = decide q) (h : (A && (B || C)) = true) : A = true ∧ (p ∨ q) := by
  subst hB hC
  simpa using h
theorem and_or_F {A B C : Bool} {p q : Prop} [Decidable p] [Decidable q] (hB : B = decide p) (hC : C = decide q) (h : (A && (B || C)) = false) : A = true → ¬ p ∧ ¬ q := by
  subst hB hC
  intro e
  subst e
  simpa using h

theorem rfind_ok (tr : SRef18Trie) (ls : List SRef18Entry) (a : SAddr) (w : World) (hx : IsSl eRef18Entry w tr.l.v ls) (z : SPrefix × Int × Bool) (hz : foundV a (ls.map prE) = z) : Calls Try.prog 49 #[eRef18Trie.val tr, eAddr.val a] w (RetV w (.tuple #[ePrefix.val z.1, I z.2.1, .bool z.2.2])) := by
  have hle := hx.le
  refine enter0 61 Try.func49 rfl rfl (Nat.le_of_ble_eq_true rfl) ?_
  refine seq (region (cons (box (E := eRef18Trie) (.t rfl) (fun b1 => ?_))))
  refine cons (box (E := eAddr) (.t rfl) (fun b2 => ?_))
  refine cons (alloc z36 (fun b3 => ?_))
  refine cons (opv (Ev.assign (.c (v := I 0) rfl)) ?_)
  refine cons (opv (Ev.assign (.c (v := .bool false) rfl)) ?_)
  refine nil (pN (seq (region (cons (opv (Ev.assign (.c (v := I (-1)) rfl)) ?_)))))
  refine nil (pN (seq (seq (region (cons (opv (Ev.assign (.c (v := I 0) rfl)) ?_))))))
  refine nil (pN (block (lp (X := Int × Int) (fun x : Int × Int => (0 ≤ x.1 ∧ x.1 ≤ ls.length) ∧ (-1 ≤ x.2 ∧ x.2 < x.1 ∨ x.2 = -1) ∧ (x.2 < 0 → stF ls a x.1.toNat = (ePrefix.zero, 0, false)) ∧ (0 ≤ x.2 → stF ls a x.1.toNat = ((ls.getD x.2.toNat eRef18Entry.zero).p, (ls.getD x.2.toNat eRef18Entry.zero).v, true))) (fun x : Int × Int => [dz, (2, true, .pointer (some ⟨b1, 0, none⟩)), (3, true, .pointer (some ⟨b2, 0, none⟩)), (4, true, .pointer (some ⟨b3, 0, none⟩)), (5, true, I 0), (6, true, .bool false), (7, true, I x.2), (8, true, I x.1)]) (fun x : Int × Int => [Var b3 ePrefix ePrefix.zero 36, Var b2 eAddr a 31, Var b1 eRef18Trie tr 64]) (fun x : Int × Int => ((ls.length : Int) - x.1).toNat) (0, -1) ⟨?_, ?_, ?_, ?_⟩ (fun x hx => ?_))))
  · omega
  · omega
  · intro _; rfl
  · intro h; omega
  obtain ⟨i, best⟩ := x
  obtain ⟨hi, hb, hb0, hb1⟩ : (0 ≤ i ∧ i ≤ ls.length) ∧ (-1 ≤ best ∧ best < i ∨ best = -1) ∧ (best < 0 → stF ls a i.toNat = (ePrefix.zero, 0, false)) ∧ (0 ≤ best → stF ls a i.toNat = ((ls.getD best.toNat eRef18Entry.zero).p, (ls.getD best.toNat eRef18Entry.zero).v, true)) := hx
  show Sat _ _ [dz, (2, true, .pointer (some ⟨b1, 0, none⟩)), (3, true, .pointer (some ⟨b2, 0, none⟩)), (4, true, .pointer (some ⟨b3, 0, none⟩)), (5, true, I 0), (6, true, .bool false), (7, true, I best), (8, true, I i)] [Var b3 ePrefix ePrefix.zero 36, Var b2 eAddr a 31, Var b1 eRef18Trie tr 64]
  refine seq (seq (region (cons (opv (Ev.move (.t rfl)) (cons (opv (Ev.fieldAddr (o := 0) (.t rfl) (by kernel_rfl)) ?_))))))
  refine cons (opv (Ev.ldx tr.l ty53 (.t rfl) SRef18Trie.l_l) ?_)
  refine cons (opv (Ev.len Try.underlying53 (.t rfl) (fun w I => hx.keep0 I.keeps)) ?_)
  refine cons (opv (Ev.lss_i (.t rfl) (.t rfl)) ?_)
  refine nil (pN ?_)
  first | refine condD rfl (fun h0 => ?_) (fun h0 => ?_) | refine cond rfl (fun h0 => ?_) (fun h0 => ?_)
  · try simp only [Gx.nb] at h0
    refine skip (pN (seq (block (seq (draw' (by kernel_rfl) ?_)))))
    refine tk 0 rfl (Ev.fieldAddr (o := 0) (.t rfl) (by kernel_rfl)) ?_
    refine tk 1 rfl (Ev.ldx tr.l ty53 (.t rfl) SRef18Trie.l_l) ?_
    refine tk 2 rfl (Ev.move (.t rfl)) ?_
    refine tk 3 rfl (Ev.indexAddr Try.underlying53 ty97 (.t rfl) (.t rfl) (fun w I => hx.keep0 I.keeps) (fun _ => by omega)) ?_
    refine tk 4 rfl (Ev.fieldAddrS (o := 0) (i := i) (.t rfl) (fun w I => hx.keep0 I.keeps) (fun _ => by omega) (by kernel_rfl)) ?_
    refine tk 5 rfl (Ev.loadS ty36 SRef18Entry.l_p rfl (.t rfl) (fun w I => hx.keep0 I.keeps) (fun _ => by omega)) ?_
    refine tk 6 rfl (Ev.ldx a ty31 (.t rfl) (Lens.id _)) ?_
    refine al1 7 rfl ((callv en67 (.cons (.t rfl) (.cons (.t rfl) .nil)) (fun w I => r15has_ok _ _ w) ?_))
    refine hdn (tk 8 rfl (Ev.move (.t rfl)) ?_)
    refine tkg 9 rfl rfl rfl (Ev.move (.t rfl)) ?_
    refine tkg 10 rfl rfl rfl (Ev.lss_i (.g rfl id) (.c (v := I 0) rfl)) ?_
    refine tkg 11 rfl rfl rfl (Ev.move (.g rfl id)) ?_
    refine tkg 12 rfl rfl rfl (Ev.fieldAddr (o := 0) (.t rfl) (by kernel_rfl)) ?_
    refine tkg 13 rfl rfl rfl (Ev.ldx tr.l ty53 (.g rfl id) SRef18Trie.l_l) ?_
    refine tkg 14 rfl rfl rfl (Ev.move (.t rfl)) ?_
    refine tkg 15 rfl rfl rfl (Ev.indexAddr Try.underlying53 ty97 (.g rfl id) (.g rfl id) (fun w I => hx.keep0 I.keeps) (fun _ => by first | omega | (rename_i hg; simp at hg; omega))) ?_
    refine tkg 16 rfl rfl rfl (Ev.fieldAddrS (o := 0) (i := i) (.g rfl id) (fun w I => hx.keep0 I.keeps) (fun _ => by first | omega | (rename_i hg; simp at hg; omega)) (by kernel_rfl)) ?_
    refine tkg 17 rfl rfl rfl (Ev.fieldAddrS (o := 17) (i := i) (.g rfl id) (fun w I => hx.keep0 I.keeps) (fun _ => by first | omega | (rename_i hg; simp at hg; omega)) (by kernel_rfl)) ?_
    refine tkg 18 rfl rfl rfl (Ev.loadS ty3 (Lens.comp SRef18Entry.l_p SPrefix.l_bits) rfl (.g rfl id) (fun w I => hx.keep0 I.keeps) (fun _ => by first | omega | (rename_i hg; simp at hg; omega))) ?_
    refine tkg 19 rfl rfl rfl (Ev.fieldAddr (o := 0) (.t rfl) (by kernel_rfl)) ?_
    refine tkg 20 rfl rfl rfl (Ev.ldx tr.l ty53 (.g rfl id) SRef18Trie.l_l) ?_
    refine tkg 21 rfl rfl rfl (Ev.move (.t rfl)) ?_
    refine tkg 22 rfl rfl rfl (Ev.indexAddr Try.underlying53 ty97 (.g rfl id) (.g rfl id) (fun w I => hx.keep0 I.keeps) (fun _ => by first | omega | (rename_i hg; simp at hg; omega))) ?_
    refine tkg 23 rfl rfl rfl (Ev.fieldAddrS (o := 0) (i := best) (.g rfl id) (fun w I => hx.keep0 I.keeps) (fun _ => by first | omega | (rename_i hg; simp at hg; omega)) (by kernel_rfl)) ?_
    refine tkg 24 rfl rfl rfl (Ev.fieldAddrS (o := 17) (i := best) (.g rfl id) (fun w I => hx.keep0 I.keeps) (fun _ => by first | omega | (rename_i hg; simp at hg; omega)) (by kernel_rfl)) ?_
    refine tkg 25 rfl rfl rfl (Ev.loadS ty3 (Lens.comp SRef18Entry.l_p SPrefix.l_bits) rfl (.g rfl id) (fun w I => hx.keep0 I.keeps) (fun _ => by first | omega | (rename_i hg; simp at hg; omega))) ?_
    refine tkg 26 rfl rfl rfl (Ev.gtr_i (.g rfl id) (.g rfl id)) ?_
    refine tkg 27 rfl rfl rfl (Ev.pickO (.g rfl id) (.c (v := .bool true) rfl) (fun {_} h => by cases h; rfl) ⟨_, rfl⟩ (by intro h1 h; first | (rw [h] <;> rfl) | (rw [h1, h] <;> rfl) | (rw [h, h1] <;> rfl) | simp_all)) ?_
    refine tk 28 rfl (Ev.pickA (.t rfl) (fun {_} h => by cases h; rfl) ⟨_, rfl⟩ (by intro h1 h; first | (rw [h] <;> rfl) | (rw [h1, h] <;> rfl) | (rw [h, h1] <;> rfl) | simp_all) (.c (v := .bool false) rfl)) ?_
    refine ovr (pN ?_)
    first | refine condD rfl (fun h1 => ?_) (fun h1 => ?_) | refine cond rfl (fun h1 => ?_) (fun h1 => ?_)
    · have hyes : hasP (ls.getD i.toNat eRef18Entry.zero).p a = true ∧ (best < 0 ∨ (ls.getD best.toNat eRef18Entry.zero).p.bits < (ls.getD i.toNat eRef18Entry.zero).p.bits) := and_or_T rfl rfl h1
      refine region (cons (opv (Ev.move (.t rfl)) (cons (opv (Ev.assign (.t rfl)) (nil (bN (pN (region (cons (opv (Ev.move (.t rfl)) (cons (opv (Ev.add_i (.t rfl) (.c (v := I 1) rfl) (fun _ => by omega)) ?_))))))))))))
      refine cons (opv (Ev.assign (.t rfl)) (nil (pN (nxP (X := Int × Int) (i + 1, i) ⟨?_, ?_, ?_, ?_⟩ ?_))))
      · try dsimp only
        omega
      · try dsimp only
        omega
      · try dsimp only
        intro h; omega
      · try dsimp only
        exact fun _ => stF_yes hi.1 h0 hyes hb0 hb1
      · try dsimp only
        omega
    · have hno : hasP (ls.getD i.toNat eRef18Entry.zero).p a = true → ¬ best < 0 ∧ ¬ (ls.getD best.toNat eRef18Entry.zero).p.bits < (ls.getD i.toNat eRef18Entry.zero).p.bits := and_or_F rfl rfl h1
      refine skip (bN (pN (region (cons (opv (Ev.move (.t rfl)) (cons (opv (Ev.add_i (.t rfl) (.c (v := I 1) rfl) (fun _ => by omega)) ?_)))))))
      refine cons (opv (Ev.assign (.t rfl)) (nil (pN (nxP (X := Int × Int) (i + 1, best) ⟨?_, ?_, ?_, ?_⟩ ?_))))
      · try dsimp only
        omega
      · try dsimp only
        omega
      · try dsimp only
        exact fun h => (stF_no hi.1 h0 hno hb0 hb1).trans (hb0 h)
      · try dsimp only
        exact fun h => (stF_no hi.1 h0 hno hb0 hb1).trans (hb1 h)
      · try dsimp only
        omega
  · try simp only [Gx.nb] at h0
    refine exit (pX (pX (bX (pN (seq (seq (region (cons (opv (Ev.move (.t rfl)) (cons (opv (Ev.lss_i (.t rfl) (.c (v := I 0) rfl)) ?_)))))))))))
    refine nil (pN ?_)
    first | refine condD rfl (fun h2 => ?_) (fun h2 => ?_) | refine cond rfl (fun h2 => ?_) (fun h2 => ?_)
    · try simp only [Gx.nb] at h2
      refine seq (region (cons (opv (Ev.buildS (fs := _) (places := [(0, 17), (17, 1)]) z36 rfl Try.underlying36 (by kernel_rfl) .nil Fills.nil) ?_)))
      refine cons (stv ty36 (Lens.id _) (.t rfl) (.t rfl) ?_)
      refine cons (opv (Ev.assign (.c (v := I 0) rfl)) ?_)
      refine cons (opv (Ev.assign (.c (v := .bool false) rfl)) ?_)
      refine nil (pN (ret (pR (done rfl (.cell rfl (fun w I => run_loadVar_pts ty36 (ptsVar (by repeat first | exact mH | apply mT | apply mA) (Lens.id _) w I)) (.tmp rfl (.tmp rfl .nil))) (retE ?_)))))
      have hie : i.toNat = ls.length := by omega
      have hst : stF ls a i.toNat = z := by rw [hie]; unfold stF; rw [List.take_length]; exact hz
      rw [← hst, hb0 h2]; rfl
    · try simp only [Gx.nb] at h2
      refine skip (pN (seq (drawS 4 rfl (by repeat first | exact Rem.head | apply Rem.tail) (by kernel_rfl) ?_)))
      refine tk 0 rfl (Ev.fieldAddr (o := 0) (.t rfl) (by kernel_rfl)) ?_
      refine tk 1 rfl (Ev.ldx tr.l ty53 (.t rfl) SRef18Trie.l_l) ?_
      refine tk 2 rfl (Ev.move (.t rfl)) ?_
      refine tk 3 rfl (Ev.indexAddr Try.underlying53 ty97 (.t rfl) (.t rfl) (fun w I => hx.keep0 I.keeps) (fun _ => by omega)) ?_
      refine tk 4 rfl (Ev.fieldAddrS (o := 0) (i := best) (.t rfl) (fun w I => hx.keep0 I.keeps) (fun _ => by omega) (by kernel_rfl)) ?_
      refine tk 5 rfl (Ev.loadS ty36 SRef18Entry.l_p rfl (.t rfl) (fun w I => hx.keep0 I.keeps) (fun _ => by omega)) ?_
      refine tk 6 rfl (Ev.fieldAddr (o := 0) (.t rfl) (by kernel_rfl)) ?_
      refine tk 7 rfl (Ev.ldx tr.l ty53 (.t rfl) SRef18Trie.l_l) ?_
      refine tk 8 rfl (Ev.move (.t rfl)) ?_
      refine tk 9 rfl (Ev.indexAddr Try.underlying53 ty97 (.t rfl) (.t rfl) (fun w I => hx.keep0 I.keeps) (fun _ => by omega)) ?_
      refine tk 10 rfl (Ev.fieldAddrS (o := 18) (i := best) (.t rfl) (fun w I => hx.keep0 I.keeps) (fun _ => by omega) (by kernel_rfl)) ?_
      refine tk 11 rfl (Ev.loadS ty3 SRef18Entry.l_v rfl (.t rfl) (fun w I => hx.keep0 I.keeps) (fun _ => by omega)) ?_
      refine al1 12 rfl ((stv ty36 (Lens.id _) (.t rfl) (.t rfl) ?_))
      refine hdn (tk 13 rfl (Ev.assign (.t rfl)) ?_)
      refine tk 14 rfl (Ev.assign (.c (v := .bool true) rfl)) ?_
      refine ovr (pN (ret (done rfl (.cell rfl (fun w I => run_loadVar_pts ty36 (ptsVar (by repeat first | exact mH | apply mT | apply mA) (Lens.id _) w I)) (.tmp rfl (.tmp rfl .nil))) (retE ?_))))
      have hie : i.toNat = ls.length := by omega
      have hst : stF ls a i.toNat = z := by rw [hie]; unfold stF; rw [List.take_length]; exact hz
      rw [← hst, hb1 (by omega)]; rfl
end Go.Proofs.Ytjjlofjpdklbgaa
/- trie -/
set_option linter.unusedVariables false
set_option linter.unusedSimpArgs false
namespace Go.Proofs.Ytjjlofjpdklbgaa
open Go Go.Gx

theorem ins_same {l : List SPrefix} {x : SPrefix} {k : Nat} (hk : k < l.length) (hp : placeN id l x = k) (hi : isAt id l x = true) (hx : l[k] = x) : insK id l x = l := by
  unfold insK
  have e1 : placeN id l (id x) = k := hp
  have e2 : isAt id l (id x) = true := hi
  rw [e1, e2, if_pos rfl]
  conv => rhs; rw [← List.take_append_drop k l, List.drop_eq_getElem_cons hk, hx]
theorem ins_new {l : List SPrefix} {x : SPrefix} {k : Int} (h0 : 0 ≤ k) (hp : placeN id l x = k.toNat) (hi : isAt id l x = false) : insK id l x = [] ++ List.drop 0 (List.take k.toNat l) ++ [x] ++ List.drop k.toNat (List.take l.length l) := by
  rw [List.take_length]
  unfold insK
  have e1 : placeN id l (id x) = k.toNat := hp
  have e2 : isAt id l (id x) = false := hi
  rw [e1, e2, if_neg Bool.false_ne_true]
  simp
theorem sortP_snoc (l : List SPrefix) {i : Int} (h0 : 0 ≤ i) (h1 : i < l.length) (z : SPrefix) : sortP (l.take (i + 1).toNat) = insK id (sortP (l.take i.toNat)) (l.getD i.toNat z) := by
  rw [take_snoc' l i h0 h1 z]
  unfold sortP
  rw [List.foldl_append]
  rfl
theorem place_k {l : List SPrefix} {p z : SPrefix} {k : Int} (h0 : 0 ≤ k) (h1 : k ≤ l.length) (hq : ∀ j : Nat, j < k → cmpP (l.getD j z) p < 0) (hs : k < l.length → ¬ cmpP (l.getD k.toNat z) p < 0) : placeN id l p = k.toNat ∧ (k < l.length → isAt id l p = decide (cmpP (l.getD k.toNat z) p = 0)) ∧ (¬ k < l.length → isAt id l p = false) := by
  by_cases h : k < l.length
  · obtain ⟨a, b⟩ := place_at id p z l k.toNat (by omega) (fun j hj => hq j (by omega)) (hs h)
    exact ⟨a, fun _ => b, fun g => absurd h g⟩
  · obtain ⟨a, b⟩ := place_end id p z l (fun j hj => hq j (by omega))
    exact ⟨by rw [a]; omega, fun g => absurd g h, fun _ => b⟩
theorem and_T {A : Prop} [Decidable A] {B : Bool} {p : Prop} [Decidable p] (hB : B = decide p) (h : (decide A && B) = true) : A ∧ p := by
  subst hB
  simpa using h
theorem and_F {A : Prop} [Decidable A] {B : Bool} {p : Prop} [Decidable p] (hB : B = decide p) (h : (decide A && B) = false) : A → ¬ p := by
  subst hB
  intro e
  simpa [e] using h

theorem sorted_ok (u : Value) (xs : List SPrefix) (w : World) (hx : IsSl ePrefix w u xs) (hn : xs.length ≤ 100000) : Calls Try.prog 70 #[u] w (RetO w ePrefix (sortP xs) 36) := by
  have hle := hx.le
  refine enter0 66 Try.func70 rfl rfl (Nat.le_of_ble_eq_true rfl) ?_
  refine seq (region (cons (opv (Ev.assign (.c (v := (Go.Value.slice none 0 0)) rfl)) ?_)))
  refine nil (pN (seq (region (cons (opv (Ev.assign (.c (v := (Go.Value.slice none 0 0)) rfl)) ?_)))))
  refine nil (pN (seq (seq (takeNil ePrefix 36 ?_))))
  refine region (cons (opv (Ev.assign (.c (v := I 0) rfl)) ?_))
  refine nil (pN (block (lp (X := Int × OV × (List SPrefix)) (fun x : Int × OV × (List SPrefix) => (0 ≤ x.1 ∧ x.1 ≤ xs.length) ∧ (x.2.2 = sortP (xs.take x.1.toNat)) ∧ ((x.2.2.length : Int) ≤ x.1)) (fun x : Int × OV × (List SPrefix) => [dz, (0, true, u), (3, true, x.2.1.v), (4, true, I x.1)]) (fun x : Int × OV × (List SPrefix) => [OwnS x.2.1.v ePrefix x.2.2 36]) (fun x : Int × OV × (List SPrefix) => ((xs.length : Int) - x.1).toNat) (0, nilSl, []) ⟨?_, ?_, ?_⟩ (fun x hx => ?_))))
  · omega
  · rfl
  · exact Int.le_refl 0
  obtain ⟨i, o, l⟩ := x
  obtain ⟨hi, hl, hln⟩ : (0 ≤ i ∧ i ≤ xs.length) ∧ (l = sortP (xs.take i.toNat)) ∧ ((l.length : Int) ≤ i) := hx
  show Sat _ _ [dz, (0, true, u), (3, true, o.v), (4, true, I i)] [OwnS o.v ePrefix l 36]
  refine seq (seq (region (cons (opv (Ev.move (.t rfl)) (cons (opv (Ev.move (.t rfl)) (cons (opv (Ev.len Try.underlying51 (.t rfl) (fun w I => hx.keep0 I.keeps)) ?_))))))))
  refine cons (opv (Ev.lss_i (.t rfl) (.t rfl)) ?_)
  refine nil (pN ?_)
  first | refine condD rfl (fun h0 => ?_) (fun h0 => ?_) | refine cond rfl (fun h0 => ?_) (fun h0 => ?_)
  · try simp only [Gx.nb] at h0
    refine skip (pN (seq (block (seq (region (cons (opv (Ev.assign (.c (v := I 0) rfl)) ?_)))))))
    refine nil (pN (seq (block (lp (X := Int) (fun x : Int => (0 ≤ x ∧ x ≤ l.length) ∧ (∀ j : Nat, j < x → cmpP (l.getD j ePrefix.zero) (xs.getD i.toNat ePrefix.zero) < 0)) (fun x : Int => [dz, (0, true, u), (3, true, o.v), (4, true, I i), (5, true, I x)]) (fun x : Int => [OwnS o.v ePrefix l 36]) (fun x : Int => ((l.length : Int) - x).toNat) (0) ⟨?_, ?_⟩ (fun x hx => ?_)))))
    · omega
    · intro j h; omega
    obtain ⟨k, rfl⟩ : ∃ y, y = x := ⟨x, rfl⟩
    obtain ⟨hk, hq⟩ : (0 ≤ k ∧ k ≤ l.length) ∧ (∀ j : Nat, j < k → cmpP (l.getD j ePrefix.zero) (xs.getD i.toNat ePrefix.zero) < 0) := hx
    show Sat _ _ [dz, (0, true, u), (3, true, o.v), (4, true, I i), (5, true, I k)] [OwnS o.v ePrefix l 36]
    refine seq (seq (draw' (by kernel_rfl) ?_))
    refine tk 0 rfl (Ev.move (.t rfl)) ?_
    refine tk 1 rfl (Ev.move (.t rfl)) ?_
    refine tk 2 rfl (Ev.len Try.underlying51 (.t rfl) (by first | exact isSl_own (by repeat first | exact mH | apply mT | apply mA) | exact fun w I => IsSl.keep0 (by assumption) I.keeps)) ?_
    refine tk 3 rfl (Ev.lss_i (.t rfl) (.t rfl)) ?_
    refine tk 4 rfl (Ev.move (.t rfl)) ?_
    refine tkg 5 rfl rfl rfl (Ev.move (.t rfl)) ?_
    refine tkg 6 rfl rfl rfl (Ev.move (.t rfl)) ?_
    refine tkg 7 rfl rfl rfl (Ev.indexAddr Try.underlying51 ty36 (.g rfl id) (.g rfl id) (by first | exact isSl_own (by repeat first | exact mH | apply mT | apply mA) | exact fun w I => IsSl.keep0 (by assumption) I.keeps) (fun _ => by first | omega | (rename_i hg; simp at hg; omega))) ?_
    refine tkg 8 rfl rfl rfl (Ev.loadS0 ty36 (.g rfl id) (by first | exact isSl_own (by repeat first | exact mH | apply mT | apply mA) | exact fun w I => IsSl.keep0 (by assumption) I.keeps) (fun _ => by first | omega | (rename_i hg; simp at hg; omega))) ?_
    refine tkg 9 rfl rfl rfl (Ev.move (.t rfl)) ?_
    refine tkg 10 rfl rfl rfl (Ev.move (.t rfl)) ?_
    refine tkg 11 rfl rfl rfl (Ev.indexAddr Try.underlying51 ty36 (.g rfl id) (.g rfl id) (fun w I => hx.keep0 I.keeps) (fun _ => by first | omega | (rename_i hg; simp at hg; omega))) ?_
    refine tkg 12 rfl rfl rfl (Ev.loadS0 ty36 (.g rfl id) (fun w I => hx.keep0 I.keeps) (fun _ => by first | omega | (rename_i hg; simp at hg; omega))) ?_
    refine al1 13 rfl ((callg rfl rfl en66 (.cons (.g rfl id) (.cons (.g rfl id) .nil)) (fun hg w I => r15cmp_ok _ _ w) ?_))
    refine hdn (tkg 14 rfl rfl rfl (Ev.lss_i (.g rfl id) (.c (v := I 0) rfl)) ?_)
    refine tk 15 rfl (Ev.pickA (.t rfl) (fun {_} h => by cases h; rfl) ⟨_, rfl⟩ (by intro h1 h; first | (rw [h] <;> rfl) | (rw [h1, h] <;> rfl) | (rw [h, h1] <;> rfl) | simp_all) (.c (v := .bool false) rfl)) ?_
    refine ovr (pN ?_)
    first | refine condD rfl (fun h1 => ?_) (fun h1 => ?_) | refine cond rfl (fun h1 => ?_) (fun h1 => ?_)
    · have hk6 : k < l.length ∧ cmpP (l.getD k.toNat ePrefix.zero) (xs.getD i.toNat ePrefix.zero) < 0 := and_T rfl h1
      refine skip (pN (block (region (cons (opv (Ev.move (.t rfl)) (cons (opv (Ev.add_i (.t rfl) (.c (v := I 1) rfl) (fun _ => by omega)) ?_)))))))
      refine cons (opv (Ev.assign (.t rfl)) (nil (bN (pN (nx (X := Int) (k + 1) ⟨?_, ?_⟩ ?_)))))
      · try dsimp only
        omega
      · try dsimp only
        intro j hj
        by_cases e : (j : Int) < k
        · exact hq j e
        · obtain rfl : j = k.toNat := by omega
          exact hk6.2
      · try dsimp only
        omega
    · have hk6 : k < l.length → ¬ cmpP (l.getD k.toNat ePrefix.zero) (xs.getD i.toNat ePrefix.zero) < 0 := and_F rfl h1
      have hpk := place_k (z := ePrefix.zero) hk.1 hk.2 hq hk6
      refine exit (pX (pX (bX (pN (seq (seq (draw' (by kernel_rfl) ?_)))))))
      refine tk 0 rfl (Ev.move (.t rfl)) ?_
      refine tk 1 rfl (Ev.move (.t rfl)) ?_
      refine tk 2 rfl (Ev.len Try.underlying51 (.t rfl) (by first | exact isSl_own (by repeat first | exact mH | apply mT | apply mA) | exact fun w I => IsSl.keep0 (by assumption) I.keeps)) ?_
      refine tk 3 rfl (Ev.lss_i (.t rfl) (.t rfl)) ?_
      refine tk 4 rfl (Ev.move (.t rfl)) ?_
      refine tkg 5 rfl rfl rfl (Ev.move (.t rfl)) ?_
      refine tkg 6 rfl rfl rfl (Ev.move (.t rfl)) ?_
      refine tkg 7 rfl rfl rfl (Ev.indexAddr Try.underlying51 ty36 (.g rfl id) (.g rfl id) (by first | exact isSl_own (by repeat first | exact mH | apply mT | apply mA) | exact fun w I => IsSl.keep0 (by assumption) I.keeps) (fun _ => by first | omega | (rename_i hg; simp at hg; omega))) ?_
      refine tkg 8 rfl rfl rfl (Ev.loadS0 ty36 (.g rfl id) (by first | exact isSl_own (by repeat first | exact mH | apply mT | apply mA) | exact fun w I => IsSl.keep0 (by assumption) I.keeps) (fun _ => by first | omega | (rename_i hg; simp at hg; omega))) ?_
      refine tkg 9 rfl rfl rfl (Ev.move (.t rfl)) ?_
      refine tkg 10 rfl rfl rfl (Ev.move (.t rfl)) ?_
      refine tkg 11 rfl rfl rfl (Ev.indexAddr Try.underlying51 ty36 (.g rfl id) (.g rfl id) (fun w I => hx.keep0 I.keeps) (fun _ => by first | omega | (rename_i hg; simp at hg; omega))) ?_
      refine tkg 12 rfl rfl rfl (Ev.loadS0 ty36 (.g rfl id) (fun w I => hx.keep0 I.keeps) (fun _ => by first | omega | (rename_i hg; simp at hg; omega))) ?_
      refine al1 13 rfl ((callg rfl rfl en66 (.cons (.g rfl id) (.cons (.g rfl id) .nil)) (fun hg w I => r15cmp_ok _ _ w) ?_))
      refine hdn (tkg 14 rfl rfl rfl (Ev.eql_i (.g rfl id) (.c (v := I 0) rfl)) ?_)
      refine tk 15 rfl (Ev.pickA (.t rfl) (fun {_} h => by cases h; rfl) ⟨_, rfl⟩ (by intro h1 h; first | (rw [h] <;> rfl) | (rw [h1, h] <;> rfl) | (rw [h, h1] <;> rfl) | simp_all) (.c (v := .bool false) rfl)) ?_
      refine ovr (pN ?_)
      first | refine condD rfl (fun h2 => ?_) (fun h2 => ?_) | refine cond rfl (fun h2 => ?_) (fun h2 => ?_)
      · have hk8 : k < l.length ∧ cmpP (l.getD k.toNat ePrefix.zero) (xs.getD i.toNat ePrefix.zero) = 0 := and_T rfl h2
        refine exit (pX (bX (pN (region (cons (opv (Ev.move (.t rfl)) (cons (opv (Ev.add_i (.t rfl) (.c (v := I 1) rfl) (fun _ => by omega)) ?_))))))))
        refine cons (opv (Ev.assign (.t rfl)) (nil (pN (nxP (X := Int × OV × (List SPrefix)) (i + 1, o, l) ⟨?_, ?_, ?_⟩ ?_))))
        · try dsimp only
          omega
        · try dsimp only
          rw [sortP_snoc xs hi.1 (by omega) ePrefix.zero, ← hl]
          exact (ins_same (k := k.toNat) (by omega) hpk.1 (by rw [hpk.2.1 hk8.1]; exact decide_eq_true hk8.2) (by rw [← getD_at (show k.toNat < l.length by omega) ePrefix.zero]; exact (cmpP_zero _ _).1 hk8.2)).symm
        · try dsimp only
          omega
        · try dsimp only
          omega
      · have hk8 : k < l.length → ¬ cmpP (l.getD k.toNat ePrefix.zero) (xs.getD i.toNat ePrefix.zero) = 0 := and_F rfl h2
        have hat : isAt id l (xs.getD i.toNat ePrefix.zero) = false := by
          by_cases g : k < l.length
          · rw [hpk.2.1 g]; exact decide_eq_false (hk8 g)
          · exact hpk.2.2 g
        refine skip (pN (seq (region (cons (opv (Ev.assign (.c (v := (Go.Value.slice none 0 0)) rfl)) ?_)))))
        refine takeNil ePrefix 36 ?_
        refine nil (pN (seq (region (cons (opv (Ev.move (.t rfl)) (cons (opv (Ev.move (.t rfl)) (cons (opv (Ev.move (.t rfl)) (cons (opv (Ev.sliceH Try.underlying51 ty36 (.t rfl) (.t rfl) (by first | exact isSl_own (by repeat first | exact mH | apply mT | apply mA) | exact fun w I => IsSl.keep0 (by assumption) I.keeps) (fun _ => by omega)) ?_)))))))))))
        refine cons (app (E := ePrefix) Try.underlying51 ty36 zb36 zs36 (.t rfl) (.t rfl) (fun v1 => ?_) (hsrc := (fun w I => IsSl.sub (w := w) (by first | exact isSl_own (by repeat first | exact mH | apply mT | apply mA) w I | exact IsSl.keep0 (by assumption) I.keeps) (by omega) (by omega))) (hby := ⟨by (show _ ≤ 9223372036854775807); first | omega | (simp; done) | (simp; omega), by first | omega | (simp; done) | (simp; omega)⟩))
        refine cons (opv (Ev.assign (.t rfl)) (nil (pN (seq (region (cons (opv (Ev.move (.t rfl)) (cons (opv (Ev.move (.t rfl)) (cons (opv (Ev.move (.t rfl)) (cons (opv (Ev.indexAddr Try.underlying51 ty36 (.t rfl) (.t rfl) (fun w I => hx.keep0 I.keeps) (fun _ => by omega)) ?_)))))))))))))
        refine cons (opv (Ev.loadS0 ty36 (.t rfl) (fun w I => hx.keep0 I.keeps) (fun _ => by omega)) ?_)
        refine cons (buildSlice (E := ePrefix) Try.underlying51 ty36 z36 (.cons (.t rfl) .nil) rfl rfl (fun v2 => ?_))
        refine cons (app (E := ePrefix) Try.underlying51 ty36 zb36 zs36 (.t rfl) (.t rfl) (fun v3 => ?_) (hby := ⟨by (show _ ≤ 9223372036854775807); first | omega | (simp; done) | (simp; omega), by first | omega | (simp; done) | (simp; omega)⟩))
        refine cons (opv (Ev.assign (.t rfl)) (nil (pN (seq (region (cons (opv (Ev.move (.t rfl)) (cons (opv (Ev.move (.t rfl)) (cons (opv (Ev.move (.t rfl)) (cons (opv (Ev.sliceL Try.underlying51 ty36 (.t rfl) (.t rfl) (by first | exact isSl_own (by repeat first | exact mH | apply mT | apply mA) | exact fun w I => IsSl.keep0 (by assumption) I.keeps) (fun _ => by omega)) ?_)))))))))))))
        refine cons (app (E := ePrefix) Try.underlying51 ty36 zb36 zs36 (.t rfl) (.t rfl) (fun v4 => ?_) (hsrc := (fun w I => IsSl.sub (w := w) (by first | exact isSl_own (by repeat first | exact mH | apply mT | apply mA) w I | exact IsSl.keep0 (by assumption) I.keeps) (by omega) (by omega))) (hby := ⟨by (show _ ≤ 9223372036854775807); first | omega | (simp; done) | (simp; omega), by first | omega | (simp; done) | (simp; omega)⟩))
        refine cons (opv (Ev.assign (.t rfl)) (nil (pN (region (cons (opv (Ev.move (.t rfl)) (cons (opv (Ev.assign (.t rfl)) (nil (bN (pN (region (cons (opv (Ev.move (.t rfl)) (cons (opv (Ev.add_i (.t rfl) (.c (v := I 1) rfl) (fun _ => by omega)) ?_))))))))))))))))
        refine cons (opv (Ev.assign (.t rfl)) (nil (pN (nxP (X := Int × OV × (List SPrefix)) (i + 1, v4, insK id l (xs.getD i.toNat ePrefix.zero)) ⟨?_, ?_, ?_⟩ ?_ (hL := (by rw [ins_new hk.1 hpk.1 hat]; exact (by repeat first | exact SubP.nil | refine SubP.cons (by repeat first | exact Rem.head | apply Rem.tail) ?_)))))))
        · try dsimp only
          omega
        · try dsimp only
          rw [sortP_snoc xs hi.1 (by omega) ePrefix.zero, ← hl]
        · try dsimp only
          have := insK_length id l (xs.getD i.toNat ePrefix.zero); omega
        · try dsimp only
          omega
  · try simp only [Gx.nb] at h0
    refine exit (pX (pX (bX (pN (seq (region (cons (opv (Ev.move (.t rfl)) (cons (opv (Ev.assign (.t rfl)) (nil (pN (ret (done rfl (.tmp rfl .nil) (retOE (by repeat first | exact mH | apply mT | apply mA) ?_)))))))))))))))
    rw [hl, show i.toNat = xs.length by omega, List.take_length]
end Go.Proofs.Ytjjlofjpdklbgaa
/- trie -/
set_option linter.unusedVariables false
set_option linter.unusedSimpArgs false
namespace Go.Proofs.Ytjjlofjpdklbgaa
open Go Go.Gx

/-- What each two side by side of one kind have in common. -/
def adjS : List SPrefix → List SPrefix
  | a :: b :: r => (if a.addr.v6 = b.addr.v6 then [bothP a b] else []) ++ adjS (b :: r)
  | _ => []
theorem adjS_snoc (b : SPrefix) : ∀ l : List SPrefix, adjS (l ++ [b]) = adjS l ++ (match l.getLast? with | some a => if a.addr.v6 = b.addr.v6 then [bothP a b] else [] | none => [])
  | [] => rfl
  | [a] => by simp [adjS]
  | a :: c :: l => by
    have ih := adjS_snoc b (c :: l)
    show (if a.addr.v6 = c.addr.v6 then [bothP a c] else []) ++ adjS (c :: l ++ [b]) = _
    rw [ih]
    show _ = ((if a.addr.v6 = c.addr.v6 then [bothP a c] else []) ++ adjS (c :: l)) ++ _
    rw [List.getLast?_cons_cons, List.append_assoc]
theorem adjS_kind {k : Bool} : ∀ l : List SPrefix, (∀ x ∈ l, x.addr.v6 = k) → adjS l = adj bothP l
  | [], _ => rfl
  | [_], _ => rfl
  | a :: b :: r, h => by
    have ha := h a (by simp)
    have hb := h b (by simp)
    show (if a.addr.v6 = b.addr.v6 then [bothP a b] else []) ++ adjS (b :: r) = bothP a b :: adj bothP (b :: r)
    rw [if_pos (ha.trans hb.symm), adjS_kind (b :: r) (fun x hx => h x (List.mem_cons_of_mem _ hx))]
    rfl
theorem adjS_two : ∀ (A B : List SPrefix), (∀ x ∈ A, x.addr.v6 = false) → (∀ x ∈ B, x.addr.v6 = true) → adjS (A ++ B) = adjS A ++ adjS B
  | [], B, _, _ => rfl
  | [a], [], _, _ => rfl
  | [a], b :: B, hA, hB => by
    have ha := hA a (by simp)
    have hb := hB b (by simp)
    show (if a.addr.v6 = b.addr.v6 then [bothP a b] else []) ++ adjS (b :: B) = _
    rw [if_neg (by rw [ha, hb]; decide)]
    rfl
  | a :: c :: A, B, hA, hB => by
    show (if a.addr.v6 = c.addr.v6 then [bothP a c] else []) ++ adjS (c :: A ++ B) = _
    rw [adjS_two (c :: A) B (fun x hx => hA x (List.mem_cons_of_mem _ hx)) hB, ← List.append_assoc]
    rfl
theorem shape_keys {t : Tt} (ho : t.OK) (x : SPrefix) : x ∈ t.shape ↔ (x ∈ t.ents.map (·.1) ∨ x ∈ adjS (t.ents.map (·.1))) := by
  have e : t.ents.map (·.1) = keysT t.l.tr ++ keysT t.r.tr := by
    unfold Tt.ents keysT
    rw [List.map_append]
  have hA : ∀ y ∈ keysT t.l.tr, y.addr.v6 = false := fun y hy => (keysT_in ho.l hy).1.2
  have hB : ∀ y ∈ keysT t.r.tr, y.addr.v6 = true := fun y hy => (keysT_in ho.r hy).1.2
  rw [e, adjS_two _ _ hA hB, adjS_kind _ hA, adjS_kind _ hB, shape_eq, List.mem_append, List.mem_append, List.mem_append, (keyLaw false).shape x _ _ ho.l, (keyLaw true).shape x _ _ ho.r]
  constructor
  · rintro ((h | h) | (h | h))
    · exact .inl (.inl h)
    · exact .inr (.inl h)
    · exact .inl (.inr h)
    · exact .inr (.inr h)
  · rintro ((h | h) | (h | h))
    · exact .inl (.inl h)
    · exact .inr (.inl h)
    · exact .inl (.inr h)
    · exact .inr (.inr h)
/-- The keys of a row. -/
abbrev kyS (ls : List SRef18Entry) : List SPrefix := ls.map (fun e => e.p)
def ShM (ls : List SRef18Entry) (i : Int) (out : List SPrefix) : Prop := ∀ x, x ∈ out ↔ (x ∈ kyS (ls.take i.toNat) ∨ x ∈ adjS (kyS (ls.take i.toNat)))
theorem last_at (ls : List SRef18Entry) {i : Int} (h0 : 0 < i) (h1 : i ≤ ls.length) (z : SRef18Entry) : (kyS (ls.take i.toNat)).getLast? = some (ls.getD (i - 1).toNat z).p := by
  have e : i.toNat = ((i - 1) + 1).toNat := by omega
  rw [e, take_snoc' ls (i - 1) (by omega) (by omega) z]
  unfold kyS
  rw [List.map_append, List.map_cons, List.map_nil, List.getLast?_concat]
theorem shM_yes {ls : List SRef18Entry} {i : Int} {out : List SPrefix} (z : SRef18Entry) (h : ShM ls i out) (h0 : 0 < i) (h1 : i < ls.length) (hk : (ls.getD i.toNat z).p.addr.v6 = (ls.getD (i - 1).toNat z).p.addr.v6) : ShM ls (i + 1) (out ++ [(ls.getD i.toNat z).p] ++ [bothP (ls.getD (i - 1).toNat z).p (ls.getD i.toNat z).p]) := fun x => by
  have hl := last_at ls h0 (by omega) z
  rw [take_snoc' ls i (by omega) h1 z]
  unfold kyS at hl ⊢
  rw [List.map_append, List.map_cons, List.map_nil, adjS_snoc, hl]
  simp only [if_pos hk.symm, List.mem_append, List.mem_singleton]
  rw [h x]
  unfold kyS
  constructor
  · rintro (((a | a) | a) | a)
    · exact .inl (.inl a)
    · exact .inr (.inl a)
    · exact .inl (.inr a)
    · exact .inr (.inr a)
  · rintro ((a | a) | (a | a))
    · exact .inl (.inl (.inl a))
    · exact .inl (.inr a)
    · exact .inl (.inl (.inr a))
    · exact .inr a
theorem shM_no {ls : List SRef18Entry} {i : Int} {out : List SPrefix} (z : SRef18Entry) (h : ShM ls i out) (h0 : 0 ≤ i) (h1 : i < ls.length) (hk : 0 < i → ¬ (ls.getD i.toNat z).p.addr.v6 = (ls.getD (i - 1).toNat z).p.addr.v6) : ShM ls (i + 1) (out ++ [(ls.getD i.toNat z).p]) := fun x => by
  rw [take_snoc' ls i h0 h1 z]
  have hadj : adjS (kyS (ls.take i.toNat ++ [ls.getD i.toNat z])) = adjS (kyS (ls.take i.toNat)) := by
    unfold kyS
    rw [List.map_append, List.map_cons, List.map_nil, adjS_snoc]
    by_cases hi : 0 < i
    · have hl := last_at ls hi (by omega) z
      unfold kyS at hl
      rw [hl]
      simp only [if_neg (fun e => hk hi (Eq.symm e)), List.append_nil]
    · rw [show i.toNat = 0 by omega]
      rfl
  rw [hadj]
  unfold kyS
  rw [List.map_append, List.mem_append, List.mem_append, h x]
  unfold kyS
  simp only [List.map_cons, List.map_nil]
  constructor
  · rintro ((a | a) | a)
    · exact .inl (.inl a)
    · exact .inr a
    · exact .inl (.inr a)
  · rintro ((a | a) | a)
    · exact .inl (.inl a)
    · exact .inr a
    · exact .inl (.inr a)

theorem en69 : Gx.Enters Try.prog 69 := Gx.Enters.mk' (by kernel_rfl)

theorem en70 : Gx.Enters Try.prog 70 := Gx.Enters.mk' (by kernel_rfl)

theorem rshape_ok (tr : SRef18Trie) (ls : List SRef18Entry) (w : World) (hx : IsSl eRef18Entry w tr.l.v ls) (hok : ∀ e ∈ ls, checkP e.p = 0) (hn : ls.length ≤ 10000) (zs : List SPrefix) (hz : Srt id zs) (hm : ∀ y, y ∈ zs ↔ (y ∈ kyS ls ∨ y ∈ adjS (kyS ls))) : Calls Try.prog 51 #[eRef18Trie.val tr] w (RetO w ePrefix zs 36) := by
  refine enter0 62 Try.func51 rfl rfl (Nat.le_of_ble_eq_true rfl) ?_
  refine seq (region (cons (box (E := eRef18Trie) (.t rfl) (fun b1 => ?_))))
  refine cons (opv (Ev.assign (.c (v := (Go.Value.slice none 0 0)) rfl)) ?_)
  refine nil (pN (seq (region (cons (opv (Ev.assign (.c (v := (Go.Value.slice none 0 0)) rfl)) ?_)))))
  refine takeNil ePrefix 36 ?_
  refine nil (pN (seq (seq (region (cons (opv (Ev.assign (.c (v := I 0) rfl)) ?_))))))
  refine nil (pN (block (lp (X := Int × OV × (List SPrefix)) (fun x : Int × OV × (List SPrefix) => (0 ≤ x.1 ∧ x.1 ≤ ls.length) ∧ (ShM ls x.1 x.2.2) ∧ ((x.2.2.length : Int) ≤ 2 * x.1)) (fun x : Int × OV × (List SPrefix) => [dz, (1, true, .pointer (some ⟨b1, 0, none⟩)), (3, true, x.2.1.v), (4, true, I x.1)]) (fun x : Int × OV × (List SPrefix) => [OwnS x.2.1.v ePrefix x.2.2 36, Var b1 eRef18Trie tr 64]) (fun x : Int × OV × (List SPrefix) => ((ls.length : Int) - x.1).toNat) (0, nilSl, []) ⟨?_, ?_, ?_⟩ (fun x hx => ?_))))
  · omega
  · intro y; simp [kyS, adjS]
  · exact Int.le_refl 0
  obtain ⟨i, o, out⟩ := x
  obtain ⟨hi, hsm, hol⟩ : (0 ≤ i ∧ i ≤ ls.length) ∧ (ShM ls i out) ∧ ((out.length : Int) ≤ 2 * i) := hx
  show Sat _ _ [dz, (1, true, .pointer (some ⟨b1, 0, none⟩)), (3, true, o.v), (4, true, I i)] [OwnS o.v ePrefix out 36, Var b1 eRef18Trie tr 64]
  refine seq (seq (region (cons (opv (Ev.move (.t rfl)) (cons (opv (Ev.fieldAddr (o := 0) (.t rfl) (by kernel_rfl)) ?_))))))
  refine cons (opv (Ev.ldx tr.l ty53 (.t rfl) SRef18Trie.l_l) ?_)
  refine cons (opv (Ev.len Try.underlying53 (.t rfl) (fun w I => hx.keep0 I.keeps)) ?_)
  refine cons (opv (Ev.lss_i (.t rfl) (.t rfl)) ?_)
  refine nil (pN ?_)
  first | refine condD rfl (fun h0 => ?_) (fun h0 => ?_) | refine cond rfl (fun h0 => ?_) (fun h0 => ?_)
  · try simp only [Gx.nb] at h0
    refine skip (pN (seq (block (seq (region (cons (opv (Ev.move (.t rfl)) (cons (opv (Ev.fieldAddr (o := 0) (.t rfl) (by kernel_rfl)) ?_)))))))))
    refine cons (opv (Ev.ldx tr.l ty53 (.t rfl) SRef18Trie.l_l) ?_)
    refine cons (opv (Ev.move (.t rfl)) (cons (opv (Ev.indexAddr Try.underlying53 ty97 (.t rfl) (.t rfl) (fun w I => hx.keep0 I.keeps) (fun _ => by omega)) ?_)))
    refine cons (opv (Ev.fieldAddrS (o := 0) (i := i) (.t rfl) (fun w I => hx.keep0 I.keeps) (fun _ => by omega) (by kernel_rfl)) ?_)
    refine cons (opv (Ev.loadS ty36 SRef18Entry.l_p rfl (.t rfl) (fun w I => hx.keep0 I.keeps) (fun _ => by omega)) ?_)
    refine cons (buildSlice (E := ePrefix) Try.underlying51 ty36 z36 (.cons (.t rfl) .nil) rfl rfl (fun v2 => ?_))
    refine cons (app (E := ePrefix) Try.underlying51 ty36 zb36 zs36 (.t rfl) (.t rfl) (fun v3 => ?_) (hby := ⟨by (show _ ≤ 9223372036854775807); first | omega | (simp; done) | (simp; omega), by first | omega | (simp; done) | (simp; omega)⟩))
    refine cons (opv (Ev.assign (.t rfl)) (nil (pN (seq (draw' (by kernel_rfl) ?_)))))
    refine tk 0 rfl (Ev.move (.t rfl)) ?_
    refine tk 1 rfl (Ev.gtr_i (.t rfl) (.c (v := I 0) rfl)) ?_
    refine tk 2 rfl (Ev.move (.t rfl)) ?_
    refine tkg 3 rfl rfl rfl (Ev.fieldAddr (o := 0) (.t rfl) (by kernel_rfl)) ?_
    refine tkg 4 rfl rfl rfl (Ev.ldx tr.l ty53 (.g rfl id) SRef18Trie.l_l) ?_
    refine tkg 5 rfl rfl rfl (Ev.move (.t rfl)) ?_
    refine tkg 6 rfl rfl rfl (Ev.indexAddr Try.underlying53 ty97 (.g rfl id) (.g rfl id) (fun w I => hx.keep0 I.keeps) (fun _ => by first | omega | (rename_i hg; simp at hg; omega))) ?_
    refine tkg 7 rfl rfl rfl (Ev.fieldAddrS (o := 0) (i := i) (.g rfl id) (fun w I => hx.keep0 I.keeps) (fun _ => by first | omega | (rename_i hg; simp at hg; omega)) (by kernel_rfl)) ?_
    refine tkg 8 rfl rfl rfl (Ev.fieldAddrS (o := 0) (i := i) (.g rfl id) (fun w I => hx.keep0 I.keeps) (fun _ => by first | omega | (rename_i hg; simp at hg; omega)) (by kernel_rfl)) ?_
    refine tkg 9 rfl rfl rfl (Ev.fieldAddrS (o := 0) (i := i) (.g rfl id) (fun w I => hx.keep0 I.keeps) (fun _ => by first | omega | (rename_i hg; simp at hg; omega)) (by kernel_rfl)) ?_
    refine tkg 10 rfl rfl rfl (Ev.loadS ty4 (Lens.comp (Lens.comp SRef18Entry.l_p SPrefix.l_addr) SAddr.l_v6) rfl (.g rfl id) (fun w I => hx.keep0 I.keeps) (fun _ => by first | omega | (rename_i hg; simp at hg; omega))) ?_
    refine tkg 11 rfl rfl rfl (Ev.fieldAddr (o := 0) (.t rfl) (by kernel_rfl)) ?_
    refine tkg 12 rfl rfl rfl (Ev.ldx tr.l ty53 (.g rfl id) SRef18Trie.l_l) ?_
    refine tkg 13 rfl rfl rfl (Ev.move (.t rfl)) ?_
    refine tkg 14 rfl rfl rfl (Ev.sub_i (.g rfl id) (.c (v := I 1) rfl) (fun _ => by first | omega | (rename_i hg; simp at hg; omega))) ?_
    refine tkg 15 rfl rfl rfl (Ev.indexAddr Try.underlying53 ty97 (.g rfl id) (.g rfl id) (fun w I => hx.keep0 I.keeps) (fun _ => by first | omega | (rename_i hg; simp at hg; omega))) ?_
    refine tkg 16 rfl rfl rfl (Ev.fieldAddrS (o := 0) (i := i - 1) (.g rfl id) (fun w I => hx.keep0 I.keeps) (fun _ => by first | omega | (rename_i hg; simp at hg; omega)) (by kernel_rfl)) ?_
    refine tkg 17 rfl rfl rfl (Ev.fieldAddrS (o := 0) (i := i - 1) (.g rfl id) (fun w I => hx.keep0 I.keeps) (fun _ => by first | omega | (rename_i hg; simp at hg; omega)) (by kernel_rfl)) ?_
    refine tkg 18 rfl rfl rfl (Ev.fieldAddrS (o := 0) (i := i - 1) (.g rfl id) (fun w I => hx.keep0 I.keeps) (fun _ => by first | omega | (rename_i hg; simp at hg; omega)) (by kernel_rfl)) ?_
    refine tkg 19 rfl rfl rfl (Ev.loadS ty4 (Lens.comp (Lens.comp SRef18Entry.l_p SPrefix.l_addr) SAddr.l_v6) rfl (.g rfl id) (fun w I => hx.keep0 I.keeps) (fun _ => by first | omega | (rename_i hg; simp at hg; omega))) ?_
    refine tkg 20 rfl rfl rfl (Ev.eql_b Try.underlying4 (.g rfl id) (.g rfl id)) ?_
    refine tk 21 rfl (Ev.pickA (.t rfl) (fun {_} h => by cases h; rfl) ⟨_, rfl⟩ (by intro h1 h; first | (rw [h] <;> rfl) | (rw [h1, h] <;> rfl) | (rw [h, h1] <;> rfl) | simp_all) (.c (v := .bool false) rfl)) ?_
    refine ovr (pN ?_)
    first | refine condD rfl (fun h1 => ?_) (fun h1 => ?_) | refine cond rfl (fun h1 => ?_) (fun h1 => ?_)
    · have hk6 : 0 < i ∧ (ls.getD i.toNat eRef18Entry.zero).p.addr.v6 = (ls.getD (i - 1).toNat eRef18Entry.zero).p.addr.v6 := and_T rfl h1
      refine draw [Var b1 eRef18Trie tr 64] (by kernel_rfl) ?_
      refine tk 0 rfl (Ev.move (.t rfl)) ?_
      refine tk 1 rfl (Ev.fieldAddr (o := 0) (.t rfl) (by kernel_rfl)) ?_
      refine tk 2 rfl (Ev.ldx tr.l ty53 (.t rfl) SRef18Trie.l_l) ?_
      refine tk 3 rfl (Ev.move (.t rfl)) ?_
      refine tk 4 rfl (Ev.sub_i (.t rfl) (.c (v := I 1) rfl) (fun _ => by omega)) ?_
      refine tk 5 rfl (Ev.indexAddr Try.underlying53 ty97 (.t rfl) (.t rfl) (fun w I => hx.keep0 I.keeps) (fun _ => by omega)) ?_
      refine tk 6 rfl (Ev.fieldAddrS (o := 0) (i := i - 1) (.t rfl) (fun w I => hx.keep0 I.keeps) (fun _ => by omega) (by kernel_rfl)) ?_
      refine tk 7 rfl (Ev.loadS ty36 SRef18Entry.l_p rfl (.t rfl) (fun w I => hx.keep0 I.keeps) (fun _ => by omega)) ?_
      refine tk 8 rfl (Ev.fieldAddr (o := 0) (.t rfl) (by kernel_rfl)) ?_
      refine tk 9 rfl (Ev.ldx tr.l ty53 (.t rfl) SRef18Trie.l_l) ?_
      refine tk 10 rfl (Ev.move (.t rfl)) ?_
      refine tk 11 rfl (Ev.indexAddr Try.underlying53 ty97 (.t rfl) (.t rfl) (fun w I => hx.keep0 I.keeps) (fun _ => by omega)) ?_
      refine tk 12 rfl (Ev.fieldAddrS (o := 0) (i := i) (.t rfl) (fun w I => hx.keep0 I.keeps) (fun _ => by omega) (by kernel_rfl)) ?_
      refine tk 13 rfl (Ev.loadS ty36 SRef18Entry.l_p rfl (.t rfl) (fun w I => hx.keep0 I.keeps) (fun _ => by omega)) ?_
      refine al1 14 rfl ((callv en69 (.cons (.t rfl) (.cons (.t rfl) .nil)) (fun w I => rboth_ok (ls.getD i.toNat eRef18Entry.zero).p.addr.v6 (ls.getD (i - 1).toNat eRef18Entry.zero).p (ls.getD i.toNat eRef18Entry.zero).p w ⟨hok _ (getD_in' ls _ eRef18Entry.zero (by omega)), hk6.2.symm⟩ ⟨hok _ (getD_in' ls _ eRef18Entry.zero (by omega)), rfl⟩) ?_))
      refine hdn (al1 15 rfl ((buildSlice (E := ePrefix) Try.underlying51 ty36 z36 (.cons (.t rfl) .nil) rfl rfl (fun v4 => ?_))))
      refine hdn (al1 16 rfl ((app (E := ePrefix) Try.underlying51 ty36 zb36 zs36 (.t rfl) (.t rfl) (fun v5 => ?_) (hby := ⟨by (show _ ≤ 9223372036854775807); first | omega | (simp; done) | (simp; omega), by first | omega | (simp; done) | (simp; omega)⟩))))
      refine hdn (tk 17 rfl (Ev.assign (.t rfl)) ?_)
      refine ovr (bN (pN (region (cons (opv (Ev.move (.t rfl)) (cons (opv (Ev.add_i (.t rfl) (.c (v := I 1) rfl) (fun _ => by omega)) ?_)))))))
      refine cons (opv (Ev.assign (.t rfl)) (nil (pN (nxP (X := Int × OV × (List SPrefix)) (i + 1, v5, _) ⟨?_, ?_, ?_⟩ ?_))))
      · try dsimp only
        omega
      · try dsimp only
        exact shM_yes eRef18Entry.zero hsm hk6.1 (by omega) hk6.2
      · try dsimp only
        simp; omega
      · try dsimp only
        omega
    · have hk6 : 0 < i → ¬ (ls.getD i.toNat eRef18Entry.zero).p.addr.v6 = (ls.getD (i - 1).toNat eRef18Entry.zero).p.addr.v6 := and_F rfl h1
      refine skip (bN (pN (region (cons (opv (Ev.move (.t rfl)) (cons (opv (Ev.add_i (.t rfl) (.c (v := I 1) rfl) (fun _ => by omega)) ?_)))))))
      refine cons (opv (Ev.assign (.t rfl)) (nil (pN (nxP (X := Int × OV × (List SPrefix)) (i + 1, v3, _) ⟨?_, ?_, ?_⟩ ?_))))
      · try dsimp only
        omega
      · try dsimp only
        exact shM_no eRef18Entry.zero hsm hi.1 (by omega) hk6
      · try dsimp only
        simp; omega
      · try dsimp only
        omega
  · try simp only [Gx.nb] at h0
    refine exit (pX (pX (bX (pN (seq (region (cons (opv (Ev.move (.t rfl)) (cons (callo en70 (.cons (.t rfl) .nil) (fun w I => sorted_ok o.v out w (isSl_own (by repeat first | exact mH | apply mT | apply mA) w I) (by omega)) (fun v6 => ?_)))))))))))
    refine cons (opv (Ev.assign (.t rfl)) (nil (pN (ret (done rfl (.tmp rfl .nil) (retOE (by repeat first | exact mH | apply mT | apply mA) ?_))))))
    have hie : i.toNat = ls.length := by omega
    have hsf := sortP_of out [] List.Pairwise.nil
    refine Srt.ext hsf.1 hz (fun y => ?_)
    unfold sortP
    rw [hsf.2, hm]
    have h9 := hsm y
    rw [hie, List.take_length] at h9
    rw [h9]
    simp
end Go.Proofs.Ytjjlofjpdklbgaa
