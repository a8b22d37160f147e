/- conf -/
import Derived.Test.YtnoobdijbpmjkaaGreatC24
set_option linter.unusedVariables false
set_option linter.unusedSimpArgs false
namespace Go.Proofs.YtnoobdijbpmjkaaGreat
open Go Go.Gx

theorem find_first {α κ : Type} {q : κ → κ → Bool} (hi : ∀ x y, q x y = true ↔ x = y) (f : α → κ) (l : List α) (k : κ) : ∀ n, n ≤ l.length → findV q k (firstN q f l n) = ((l.take n).findIdx? (fun x => q (f x) k)).map (fun i : Nat => (i : Int))
  | 0, _ => by simp [firstN, findV, findL]
  | n + 1, h => by
    have hlt : n < l.length := by omega
    have ih := find_first hi f l k n (by omega)
    have ihx := find_first hi f l (f l[n]) n (by omega)
    have e : l[n]? = some l[n] := List.getElem?_eq_getElem hlt
    have hlen : (l.take n).length = n := by simp; omega
    rw [firstN, e, List.take_succ_eq_append_getElem hlt, List.findIdx?_append]
    simp only
    cases hs : (findV q (f l[n]) (firstN q f l n)).isSome with
    | true =>
      rw [if_pos rfl, ih]
      cases hk : (l.take n).findIdx? (fun x => q (f x) k) with
      | some i => simp
      | none =>
        have hq : q (f l[n]) k = false := by
          rw [Bool.eq_false_iff]
          intro hq
          have e2 := (hi _ _).1 hq
          subst e2
          rw [ihx, hk] at hs
          cases hs
        simp [List.findIdx?_cons, hq]
    | false =>
      rw [if_neg Bool.false_ne_true, findV_put hi]
      have hn : (l.take n).findIdx? (fun x => q (f x) (f l[n])) = none := by
        rw [ihx] at hs
        cases h2 : (l.take n).findIdx? (fun x => q (f x) (f l[n])) with
        | none => rfl
        | some i => rw [h2] at hs; cases hs
      by_cases hq : q k (f l[n]) = true
      · have e2 := (hi _ _).1 hq
        subst e2
        rw [if_pos hq, hn]
        simp [List.findIdx?_cons, hq, hlen]
      · rw [if_neg hq, ih]
        have hq2 : q (f l[n]) k = false := by
          rw [Bool.eq_false_iff]
          intro h2
          exact hq ((hi _ _).2 ((hi _ _).1 h2).symm)
        cases hk : (l.take n).findIdx? (fun x => q (f x) k) <;> simp [List.findIdx?_cons, hq2]
theorem find_all {α κ : Type} {q : κ → κ → Bool} (hi : ∀ x y, q x y = true ↔ x = y) (f : α → κ) (l : List α) (k : κ) : findV q k (firstN q f l l.length) = (l.findIdx? (fun x => q (f x) k)).map (fun i : Nat => (i : Int)) := by
  rw [find_first hi f l k _ (Nat.le_refl _), List.take_length]
theorem find_idx {α κ : Type} {q : κ → κ → Bool} (hi : ∀ x y, q x y = true ↔ x = y) (f : α → κ) (l : List α) (k : κ) : (findV q k (firstN q f l l.length)).isSome = decide (¬ idxF (fun x => q (f x) k) l < 0) := by
  rw [find_all hi]
  unfold idxF
  cases l.findIdx? (fun x => q (f x) k) with
  | none => rfl
  | some i => simp
theorem find_at {α κ : Type} {q : κ → κ → Bool} (hi : ∀ x y, q x y = true ↔ x = y) (f : α → κ) (l : List α) (z : α) (i : Nat) (h : i < l.length) : (findV q (f (l.getD i z)) (firstN q f l l.length)).getD 0 = idxF (fun x => q (f x) (f (l.getD i z))) l := by
  rw [find_all hi]
  unfold idxF
  cases hk : l.findIdx? (fun x => q (f x) (f (l.getD i z))) with
  | some j => rfl
  | none =>
    have := List.findIdx?_eq_none_iff.1 hk (l.getD i z) (getD_in _ _ _ h)
    rw [(hi _ _).2 rfl] at this
    cases this
theorem portB_iff (l : CL) (p : Int) : portB l p = true ↔ p ∈ l.ps := by
  unfold portB portsM
  rw [find_all eqd_iff, Option.isSome_map, ← Option.ne_none_iff_isSome, Ne, List.findIdx?_eq_none_iff]
  constructor
  · intro h
    refine Decidable.byContradiction fun hn => h fun x hx => ?_
    rw [Bool.eq_false_iff]
    intro hq
    exact hn (((eqd_iff _ _).1 hq) ▸ hx)
  · intro h hn
    have := hn p h
    rw [(eqd_iff _ _).2 rfl] at this
    cases this
theorem eqs_dec (x y : ByteArray) : eqs x y = decide (x = y) := by
  rw [Bool.eq_iff_iff, decide_eq_true_iff]
  exact eqs_iff x y

theorem rport_ok (c : SConf) (l : CL) (p : Int) (w : World) (hc : ConfAt w c l) : Calls Tryz.prog 124 #[eConf.val c, I p] w (RetV w (.bool (portB l p))) := by
  have hle := hc.ps.le
  refine enter0 20 Tryz.func124 rfl rfl (Nat.le_of_ble_eq_true rfl) ?_
  refine seq (region (cons (box (E := eConf) (.t rfl) (fun b1 => ?_))))
  refine cons (opv (Ev.assign (.c (v := .bool false) rfl)) ?_)
  refine nil (pN (seq (seq (region (cons (opv (Ev.assign (.c (v := I 0) rfl)) ?_))))))
  refine nil (pN (block (loop (X := Int) (fun x : Int => (0 ≤ x ∧ x ≤ l.ps.length) ∧ (∀ k : Nat, k < x → ¬ l.ps.getD k iE.zero = p)) (fun x : Int => [(1, true, I p), (2, true, .pointer (some ⟨b1, 0, none⟩)), (5, true, I x)]) (fun x : Int => [Var b1 eConf c 28]) (fun x : Int => ((l.ps.length : Int) - x).toNat) (0) ⟨?_, ?_⟩ (by repeat first | exact Sub.nil | refine Sub.cons rfl ?_) (by repeat first | exact sR | exact sN | apply sC | apply sS | apply sA) (fun x hx => ?_))))
  · omega
  · intro k h; omega
  obtain ⟨i, rfl⟩ : ∃ y, y = x := ⟨x, rfl⟩
  obtain ⟨hi, hq⟩ : (0 ≤ i ∧ i ≤ l.ps.length) ∧ (∀ k : Nat, k < i → ¬ l.ps.getD k iE.zero = p) := hx
  show Sat _ _ [(1, true, I p), (2, true, .pointer (some ⟨b1, 0, none⟩)), (5, true, I i)] [Var b1 eConf c 28]
  refine seq (seq (region (cons (opv (Ev.move (.t rfl)) (cons (opv (Ev.fieldAddr (o := 0) (.t rfl) (by kernel_rfl)) ?_))))))
  refine cons (opv (Ev.load (xv := c.ports) ty22 (.t rfl) (ptsVar (by repeat first | exact mH | apply mT | apply mA) SConf.l_ports)) ?_)
  refine cons (opv (Ev.len Tryz.underlying22 (.t rfl) (fun w I => (hc.keep0 I.keeps).ps)) ?_)
  refine cons (opv (Ev.lss_i (.t rfl) (.t rfl)) ?_)
  refine nil (pN ?_)
  first | refine condD rfl (fun h0 => ?_) (fun h0 => ?_) | refine cond rfl (fun h0 => ?_) (fun h0 => ?_)
  · try simp only [nb] at h0
    refine skip (pN (seq (block (seq (region (cons (opv (Ev.fieldAddr (o := 0) (.t rfl) (by kernel_rfl)) ?_)))))))
    refine cons (opv (Ev.load (xv := c.ports) ty22 (.t rfl) (ptsVar (by repeat first | exact mH | apply mT | apply mA) SConf.l_ports)) ?_)
    refine cons (opv (Ev.move (.t rfl)) (cons (opv (Ev.indexAddr Tryz.underlying22 ty3 (.t rfl) (.t rfl) (fun w I => (hc.keep0 I.keeps).ps) (fun _ => by omega)) ?_)))
    refine cons (opv (Ev.loadS0 ty3 (.t rfl) (fun w I => (hc.keep0 I.keeps).ps) (fun _ => by omega)) ?_)
    refine cons (opv (Ev.move (.t rfl)) (cons (opv (Ev.eql_i (.t rfl) (.t rfl)) ?_)))
    refine nil (pN ?_)
    first | refine condD rfl (fun h1 => ?_) (fun h1 => ?_) | refine cond rfl (fun h1 => ?_) (fun h1 => ?_)
    · try simp only [nb] at h1
      refine seq (region (cons (opv (Ev.assign (.c (v := .bool true) rfl)) ?_)))
      refine nil (pN (ret (bR (pR (pR (bR (pR (done rfl (.tmp rfl .nil) (retE ?_)))))))))
      have hb : portB l p = true := (portB_iff l p).2 (h1 ▸ getD_in _ _ _ (by omega))
      rw [hb]; rfl
    · try simp only [nb] at h1
      refine skip (bN (pN (region (cons (opv (Ev.move (.t rfl)) (cons (opv (Ev.add_i (.t rfl) (.c (v := I 1) rfl) (fun _ => by omega)) ?_)))))))
      refine cons (opv (Ev.assign (.t rfl)) (nil (pN (next (X := Int) (i + 1) ⟨?_, ?_⟩ ?_ (by repeat first | exact Sub.nil | refine Sub.cons rfl ?_) (by repeat first | exact sR | exact sN | apply sC | apply sS | apply sA)))))
      · try dsimp only
        omega
      · try dsimp only
        intro k h
        by_cases e : (k : Int) < i
        · exact hq k e
        · obtain rfl : k = i.toNat := by omega
          exact h1
      · try dsimp only
        omega
  · try simp only [nb] at h0
    refine exit (pX (pX (bX (pN (seq (region (cons (opv (Ev.assign (.c (v := .bool false) rfl)) ?_))))))))
    refine nil (pN (ret (done rfl (.tmp rfl .nil) (retE ?_))))
    have hb : portB l p = false := by
      rw [Bool.eq_false_iff]
      intro h
      obtain ⟨k, hk, e⟩ := List.mem_iff_getElem.1 ((portB_iff l p).1 h)
      exact hq k (by omega) (by simp [List.getD, hk, e])
    rw [hb]; rfl

theorem rmeter_ix (c : SConf) (l : CL) (a : ByteArray) (w : World) (hc : ConfAt w c l) : Calls Tryz.prog 126 #[eConf.val c, sE.val a] w (RetV w (I (idxF (fun x => decide (x.name = a)) l.ms))) := by
  have hle := hc.ms.le
  refine enter0 22 Tryz.func126 rfl rfl (Nat.le_of_ble_eq_true rfl) ?_
  refine seq (region (cons (box (E := eConf) (.t rfl) (fun b1 => ?_))))
  refine cons (opv (Ev.assign (.c (v := I 0) rfl)) ?_)
  refine nil (pN (seq (seq (region (cons (opv (Ev.assign (.c (v := I 0) rfl)) ?_))))))
  refine nil (pN (block (loop (X := Int) (fun x : Int => (0 ≤ x ∧ x ≤ l.ms.length) ∧ (∀ k : Nat, k < x → (fun x => decide (x.name = a)) (l.ms.getD k eMeterConf.zero) = false)) (fun x : Int => [(1, true, sE.val a), (2, true, .pointer (some ⟨b1, 0, none⟩)), (5, true, I x)]) (fun x : Int => [Var b1 eConf c 28]) (fun x : Int => ((l.ms.length : Int) - x).toNat) (0) ⟨?_, ?_⟩ (by repeat first | exact Sub.nil | refine Sub.cons rfl ?_) (by repeat first | exact sR | exact sN | apply sC | apply sS | apply sA) (fun x hx => ?_))))
  · omega
  · intro k h; omega
  obtain ⟨i, rfl⟩ : ∃ y, y = x := ⟨x, rfl⟩
  obtain ⟨hi, hq⟩ : (0 ≤ i ∧ i ≤ l.ms.length) ∧ (∀ k : Nat, k < i → (fun x => decide (x.name = a)) (l.ms.getD k eMeterConf.zero) = false) := hx
  show Sat _ _ [(1, true, sE.val a), (2, true, .pointer (some ⟨b1, 0, none⟩)), (5, true, I i)] [Var b1 eConf c 28]
  refine seq (seq (region (cons (opv (Ev.move (.t rfl)) (cons (opv (Ev.fieldAddr (o := 3) (.t rfl) (by kernel_rfl)) ?_))))))
  refine cons (opv (Ev.load (xv := c.meters) ty25 (.t rfl) (ptsVar (by repeat first | exact mH | apply mT | apply mA) SConf.l_meters)) ?_)
  refine cons (opv (Ev.len Tryz.underlying25 (.t rfl) (fun w I => (hc.keep0 I.keeps).ms)) ?_)
  refine cons (opv (Ev.lss_i (.t rfl) (.t rfl)) ?_)
  refine nil (pN ?_)
  first | refine condD rfl (fun h0 => ?_) (fun h0 => ?_) | refine cond rfl (fun h0 => ?_) (fun h0 => ?_)
  · try simp only [nb] at h0
    refine skip (pN (seq (block (seq (region (cons (opv (Ev.fieldAddr (o := 3) (.t rfl) (by kernel_rfl)) ?_)))))))
    refine cons (opv (Ev.load (xv := c.meters) ty25 (.t rfl) (ptsVar (by repeat first | exact mH | apply mT | apply mA) SConf.l_meters)) ?_)
    refine cons (opv (Ev.move (.t rfl)) (cons (opv (Ev.indexAddr Tryz.underlying25 ty57 (.t rfl) (.t rfl) (fun w I => (hc.keep0 I.keeps).ms) (fun _ => by omega)) ?_)))
    refine cons (opv (Ev.fieldAddrS (o := 0) (i := i) (.t rfl) (fun w I => (hc.keep0 I.keeps).ms) (fun _ => by omega) (by kernel_rfl)) ?_)
    refine cons (opv (Ev.loadS ty9 SMeterConf.l_name rfl (.t rfl) (fun w I => (hc.keep0 I.keeps).ms) (fun _ => by omega)) ?_)
    refine cons (opv (Ev.move (.t rfl)) (cons (opv (Ev.eql_s (.t rfl) (.t rfl)) ?_)))
    refine nil (pN ?_)
    first | refine condD rfl (fun h1 => ?_) (fun h1 => ?_) | refine cond rfl (fun h1 => ?_) (fun h1 => ?_)
    · refine seq (region (cons (opv (Ev.move (.t rfl)) (cons (opv (Ev.assign (.t rfl)) (nil (pN (ret (bR (pR (pR (bR (pR (done rfl (.tmp rfl .nil) (retE ?_)))))))))))))))
      rw [idx_at (p := fun x => decide (x.name = a)) eMeterConf.zero (by omega) hq (by first | exact h1 | exact decide_eq_true h1)]; rfl
    · refine skip (bN (pN (region (cons (opv (Ev.move (.t rfl)) (cons (opv (Ev.add_i (.t rfl) (.c (v := I 1) rfl) (fun _ => by omega)) ?_)))))))
      refine cons (opv (Ev.assign (.t rfl)) (nil (pN (next (X := Int) (i + 1) ⟨?_, ?_⟩ ?_ (by repeat first | exact Sub.nil | refine Sub.cons rfl ?_) (by repeat first | exact sR | exact sN | apply sC | apply sS | apply sA)))))
      · try dsimp only
        omega
      · try dsimp only
        intro k h
        by_cases e : (k : Int) < i
        · exact hq k e
        · obtain rfl : k = i.toNat := by omega
          first | exact h1 | exact decide_eq_false h1
      · try dsimp only
        omega
  · try simp only [nb] at h0
    refine exit (pX (pX (bX (pN (seq (region (cons (opv (Ev.assign (.c (v := I (-1)) rfl)) ?_))))))))
    refine nil (pN (ret (done rfl (.tmp rfl .nil) (retE ?_))))
    rw [idx_none (p := fun x => decide (x.name = a)) eMeterConf.zero (fun k hk => hq k (by omega))]; rfl

theorem rmirror_ix (c : SConf) (l : CL) (a : ByteArray) (w : World) (hc : ConfAt w c l) : Calls Tryz.prog 127 #[eConf.val c, sE.val a] w (RetV w (I (idxF (fun x => decide (x.name = a)) l.xs))) := by
  have hle := hc.xs.le
  refine enter0 22 Tryz.func127 rfl rfl (Nat.le_of_ble_eq_true rfl) ?_
  refine seq (region (cons (box (E := eConf) (.t rfl) (fun b1 => ?_))))
  refine cons (opv (Ev.assign (.c (v := I 0) rfl)) ?_)
  refine nil (pN (seq (seq (region (cons (opv (Ev.assign (.c (v := I 0) rfl)) ?_))))))
  refine nil (pN (block (loop (X := Int) (fun x : Int => (0 ≤ x ∧ x ≤ l.xs.length) ∧ (∀ k : Nat, k < x → (fun x => decide (x.name = a)) (l.xs.getD k eMirrorConf.zero) = false)) (fun x : Int => [(1, true, sE.val a), (2, true, .pointer (some ⟨b1, 0, none⟩)), (5, true, I x)]) (fun x : Int => [Var b1 eConf c 28]) (fun x : Int => ((l.xs.length : Int) - x).toNat) (0) ⟨?_, ?_⟩ (by repeat first | exact Sub.nil | refine Sub.cons rfl ?_) (by repeat first | exact sR | exact sN | apply sC | apply sS | apply sA) (fun x hx => ?_))))
  · omega
  · intro k h; omega
  obtain ⟨i, rfl⟩ : ∃ y, y = x := ⟨x, rfl⟩
  obtain ⟨hi, hq⟩ : (0 ≤ i ∧ i ≤ l.xs.length) ∧ (∀ k : Nat, k < i → (fun x => decide (x.name = a)) (l.xs.getD k eMirrorConf.zero) = false) := hx
  show Sat _ _ [(1, true, sE.val a), (2, true, .pointer (some ⟨b1, 0, none⟩)), (5, true, I i)] [Var b1 eConf c 28]
  refine seq (seq (region (cons (opv (Ev.move (.t rfl)) (cons (opv (Ev.fieldAddr (o := 4) (.t rfl) (by kernel_rfl)) ?_))))))
  refine cons (opv (Ev.load (xv := c.mirrors) ty26 (.t rfl) (ptsVar (by repeat first | exact mH | apply mT | apply mA) SConf.l_mirrors)) ?_)
  refine cons (opv (Ev.len Tryz.underlying26 (.t rfl) (fun w I => (hc.keep0 I.keeps).xs)) ?_)
  refine cons (opv (Ev.lss_i (.t rfl) (.t rfl)) ?_)
  refine nil (pN ?_)
  first | refine condD rfl (fun h0 => ?_) (fun h0 => ?_) | refine cond rfl (fun h0 => ?_) (fun h0 => ?_)
  · try simp only [nb] at h0
    refine skip (pN (seq (block (seq (region (cons (opv (Ev.fieldAddr (o := 4) (.t rfl) (by kernel_rfl)) ?_)))))))
    refine cons (opv (Ev.load (xv := c.mirrors) ty26 (.t rfl) (ptsVar (by repeat first | exact mH | apply mT | apply mA) SConf.l_mirrors)) ?_)
    refine cons (opv (Ev.move (.t rfl)) (cons (opv (Ev.indexAddr Tryz.underlying26 ty59 (.t rfl) (.t rfl) (fun w I => (hc.keep0 I.keeps).xs) (fun _ => by omega)) ?_)))
    refine cons (opv (Ev.fieldAddrS (o := 0) (i := i) (.t rfl) (fun w I => (hc.keep0 I.keeps).xs) (fun _ => by omega) (by kernel_rfl)) ?_)
    refine cons (opv (Ev.loadS ty9 SMirrorConf.l_name rfl (.t rfl) (fun w I => (hc.keep0 I.keeps).xs) (fun _ => by omega)) ?_)
    refine cons (opv (Ev.move (.t rfl)) (cons (opv (Ev.eql_s (.t rfl) (.t rfl)) ?_)))
    refine nil (pN ?_)
    first | refine condD rfl (fun h1 => ?_) (fun h1 => ?_) | refine cond rfl (fun h1 => ?_) (fun h1 => ?_)
    · refine seq (region (cons (opv (Ev.move (.t rfl)) (cons (opv (Ev.assign (.t rfl)) (nil (pN (ret (bR (pR (pR (bR (pR (done rfl (.tmp rfl .nil) (retE ?_)))))))))))))))
      rw [idx_at (p := fun x => decide (x.name = a)) eMirrorConf.zero (by omega) hq (by first | exact h1 | exact decide_eq_true h1)]; rfl
    · refine skip (bN (pN (region (cons (opv (Ev.move (.t rfl)) (cons (opv (Ev.add_i (.t rfl) (.c (v := I 1) rfl) (fun _ => by omega)) ?_)))))))
      refine cons (opv (Ev.assign (.t rfl)) (nil (pN (next (X := Int) (i + 1) ⟨?_, ?_⟩ ?_ (by repeat first | exact Sub.nil | refine Sub.cons rfl ?_) (by repeat first | exact sR | exact sN | apply sC | apply sS | apply sA)))))
      · try dsimp only
        omega
      · try dsimp only
        intro k h
        by_cases e : (k : Int) < i
        · exact hq k e
        · obtain rfl : k = i.toNat := by omega
          first | exact h1 | exact decide_eq_false h1
      · try dsimp only
        omega
  · try simp only [nb] at h0
    refine exit (pX (pX (bX (pN (seq (region (cons (opv (Ev.assign (.c (v := I (-1)) rfl)) ?_))))))))
    refine nil (pN (ret (done rfl (.tmp rfl .nil) (retE ?_))))
    rw [idx_none (p := fun x => decide (x.name = a)) eMirrorConf.zero (fun k hk => hq k (by omega))]; rfl

theorem rrule_ix (c : SConf) (l : CL) (a : ByteArray) (w : World) (hc : ConfAt w c l) : Calls Tryz.prog 156 #[eConf.val c, sE.val a] w (RetV w (I (idxF (fun x => decide (x.name = a)) l.us))) := by
  have hle := hc.us.le
  refine enter0 22 Tryz.func156 rfl rfl (Nat.le_of_ble_eq_true rfl) ?_
  refine seq (region (cons (box (E := eConf) (.t rfl) (fun b1 => ?_))))
  refine cons (opv (Ev.assign (.c (v := I 0) rfl)) ?_)
  refine nil (pN (seq (seq (region (cons (opv (Ev.assign (.c (v := I 0) rfl)) ?_))))))
  refine nil (pN (block (loop (X := Int) (fun x : Int => (0 ≤ x ∧ x ≤ l.us.length) ∧ (∀ k : Nat, k < x → (fun x => decide (x.name = a)) (l.us.getD k eRule.zero) = false)) (fun x : Int => [(1, true, sE.val a), (2, true, .pointer (some ⟨b1, 0, none⟩)), (5, true, I x)]) (fun x : Int => [Var b1 eConf c 28]) (fun x : Int => ((l.us.length : Int) - x).toNat) (0) ⟨?_, ?_⟩ (by repeat first | exact Sub.nil | refine Sub.cons rfl ?_) (by repeat first | exact sR | exact sN | apply sC | apply sS | apply sA) (fun x hx => ?_))))
  · omega
  · intro k h; omega
  obtain ⟨i, rfl⟩ : ∃ y, y = x := ⟨x, rfl⟩
  obtain ⟨hi, hq⟩ : (0 ≤ i ∧ i ≤ l.us.length) ∧ (∀ k : Nat, k < i → (fun x => decide (x.name = a)) (l.us.getD k eRule.zero) = false) := hx
  show Sat _ _ [(1, true, sE.val a), (2, true, .pointer (some ⟨b1, 0, none⟩)), (5, true, I i)] [Var b1 eConf c 28]
  refine seq (seq (region (cons (opv (Ev.move (.t rfl)) (cons (opv (Ev.fieldAddr (o := 2) (.t rfl) (by kernel_rfl)) ?_))))))
  refine cons (opv (Ev.load (xv := c.rules) ty24 (.t rfl) (ptsVar (by repeat first | exact mH | apply mT | apply mA) SConf.l_rules)) ?_)
  refine cons (opv (Ev.len Tryz.underlying24 (.t rfl) (fun w I => (hc.keep0 I.keeps).us)) ?_)
  refine cons (opv (Ev.lss_i (.t rfl) (.t rfl)) ?_)
  refine nil (pN ?_)
  first | refine condD rfl (fun h0 => ?_) (fun h0 => ?_) | refine cond rfl (fun h0 => ?_) (fun h0 => ?_)
  · try simp only [nb] at h0
    refine skip (pN (seq (block (seq (region (cons (opv (Ev.fieldAddr (o := 2) (.t rfl) (by kernel_rfl)) ?_)))))))
    refine cons (opv (Ev.load (xv := c.rules) ty24 (.t rfl) (ptsVar (by repeat first | exact mH | apply mT | apply mA) SConf.l_rules)) ?_)
    refine cons (opv (Ev.move (.t rfl)) (cons (opv (Ev.indexAddr Tryz.underlying24 ty76 (.t rfl) (.t rfl) (fun w I => (hc.keep0 I.keeps).us) (fun _ => by omega)) ?_)))
    refine cons (opv (Ev.fieldAddrS (o := 0) (i := i) (.t rfl) (fun w I => (hc.keep0 I.keeps).us) (fun _ => by omega) (by kernel_rfl)) ?_)
    refine cons (opv (Ev.loadS ty9 SRule.l_name rfl (.t rfl) (fun w I => (hc.keep0 I.keeps).us) (fun _ => by omega)) ?_)
    refine cons (opv (Ev.move (.t rfl)) (cons (opv (Ev.eql_s (.t rfl) (.t rfl)) ?_)))
    refine nil (pN ?_)
    first | refine condD rfl (fun h1 => ?_) (fun h1 => ?_) | refine cond rfl (fun h1 => ?_) (fun h1 => ?_)
    · refine seq (region (cons (opv (Ev.move (.t rfl)) (cons (opv (Ev.assign (.t rfl)) (nil (pN (ret (bR (pR (pR (bR (pR (done rfl (.tmp rfl .nil) (retE ?_)))))))))))))))
      rw [idx_at (p := fun x => decide (x.name = a)) eRule.zero (by omega) hq (by first | exact h1 | exact decide_eq_true h1)]; rfl
    · refine skip (bN (pN (region (cons (opv (Ev.move (.t rfl)) (cons (opv (Ev.add_i (.t rfl) (.c (v := I 1) rfl) (fun _ => by omega)) ?_)))))))
      refine cons (opv (Ev.assign (.t rfl)) (nil (pN (next (X := Int) (i + 1) ⟨?_, ?_⟩ ?_ (by repeat first | exact Sub.nil | refine Sub.cons rfl ?_) (by repeat first | exact sR | exact sN | apply sC | apply sS | apply sA)))))
      · try dsimp only
        omega
      · try dsimp only
        intro k h
        by_cases e : (k : Int) < i
        · exact hq k e
        · obtain rfl : k = i.toNat := by omega
          first | exact h1 | exact decide_eq_false h1
      · try dsimp only
        omega
  · try simp only [nb] at h0
    refine exit (pX (pX (bX (pN (seq (region (cons (opv (Ev.assign (.c (v := I (-1)) rfl)) ?_))))))))
    refine nil (pN (ret (done rfl (.tmp rfl .nil) (retE ?_))))
    rw [idx_none (p := fun x => decide (x.name = a)) eRule.zero (fun k hk => hq k (by omega))]; rfl

theorem rroute_ix (c : SConf) (l : CL) (a : SPrefix) (w : World) (hc : ConfAt w c l) : Calls Tryz.prog 125 #[eConf.val c, ePrefix.val a] w (RetV w (I (idxF (fun x => SPrefix.eqb x.to_ a) l.rs))) := by
  have hle := hc.rs.le
  refine enter0 22 Tryz.func125 rfl rfl (Nat.le_of_ble_eq_true rfl) ?_
  refine seq (region (cons (box (E := eConf) (.t rfl) (fun b1 => ?_))))
  refine cons (box (E := ePrefix) (.t rfl) (fun b2 => ?_))
  refine cons (opv (Ev.assign (.c (v := I 0) rfl)) ?_)
  refine nil (pN (seq (seq (region (cons (opv (Ev.assign (.c (v := I 0) rfl)) ?_))))))
  refine nil (pN (block (loop (X := Int) (fun x : Int => (0 ≤ x ∧ x ≤ l.rs.length) ∧ (∀ k : Nat, k < x → (fun x => SPrefix.eqb x.to_ a) (l.rs.getD k eRoute.zero) = false)) (fun x : Int => [(3, true, .pointer (some ⟨b2, 0, none⟩)), (2, true, .pointer (some ⟨b1, 0, none⟩)), (5, true, I x)]) (fun x : Int => [Var b2 ePrefix a 50, Var b1 eConf c 28]) (fun x : Int => ((l.rs.length : Int) - x).toNat) (0) ⟨?_, ?_⟩ (by repeat first | exact Sub.nil | refine Sub.cons rfl ?_) (by repeat first | exact sR | exact sN | apply sC | apply sS | apply sA) (fun x hx => ?_))))
  · omega
  · intro k h; omega
  obtain ⟨i, rfl⟩ : ∃ y, y = x := ⟨x, rfl⟩
  obtain ⟨hi, hq⟩ : (0 ≤ i ∧ i ≤ l.rs.length) ∧ (∀ k : Nat, k < i → (fun x => SPrefix.eqb x.to_ a) (l.rs.getD k eRoute.zero) = false) := hx
  show Sat _ _ [(3, true, .pointer (some ⟨b2, 0, none⟩)), (2, true, .pointer (some ⟨b1, 0, none⟩)), (5, true, I i)] [Var b2 ePrefix a 50, Var b1 eConf c 28]
  refine seq (seq (region (cons (opv (Ev.move (.t rfl)) (cons (opv (Ev.fieldAddr (o := 1) (.t rfl) (by kernel_rfl)) ?_))))))
  refine cons (opv (Ev.load (xv := c.routes) ty23 (.t rfl) (ptsVar (by repeat first | exact mH | apply mT | apply mA) SConf.l_routes)) ?_)
  refine cons (opv (Ev.len Tryz.underlying23 (.t rfl) (fun w I => (hc.keep0 I.keeps).rs)) ?_)
  refine cons (opv (Ev.lss_i (.t rfl) (.t rfl)) ?_)
  refine nil (pN ?_)
  first | refine condD rfl (fun h0 => ?_) (fun h0 => ?_) | refine cond rfl (fun h0 => ?_) (fun h0 => ?_)
  · try simp only [nb] at h0
    refine skip (pN (seq (block (seq (draw' (by kernel_rfl) ?_)))))
    refine tk 0 rfl (Ev.fieldAddr (o := 1) (.t rfl) (by kernel_rfl)) ?_
    refine tk 1 rfl (Ev.load (xv := c.routes) ty23 (.t rfl) (ptsVar (by repeat first | exact mH | apply mT | apply mA) SConf.l_routes)) ?_
    refine tk 2 rfl (Ev.move (.t rfl)) ?_
    refine tk 3 rfl (Ev.indexAddr Tryz.underlying23 ty52 (.t rfl) (.t rfl) (fun w I => (hc.keep0 I.keeps).rs) (fun _ => by omega)) ?_
    refine tk 4 rfl (Ev.fieldAddrS (o := 0) (i := i) (.t rfl) (fun w I => (hc.keep0 I.keeps).rs) (fun _ => by omega) (by kernel_rfl)) ?_
    refine tk 5 rfl (Ev.loadS ty50 SRoute.l_to_ rfl (.t rfl) (fun w I => (hc.keep0 I.keeps).rs) (fun _ => by omega)) ?_
    refine tk 6 rfl (Ev.load (xv := a) ty50 (.t rfl) (ptsVar (by repeat first | exact mH | apply mT | apply mA) (Lens.id _))) ?_
    refine tk 7 rfl (Ev.eqlS rfl eqok50 rfl (by kernel_rfl) (.t rfl) (.t rfl)) ?_
    refine ovr (pN ?_)
    first | refine condD rfl (fun h1 => ?_) (fun h1 => ?_) | refine cond rfl (fun h1 => ?_) (fun h1 => ?_)
    · refine seq (region (cons (opv (Ev.move (.t rfl)) (cons (opv (Ev.assign (.t rfl)) (nil (pN (ret (bR (pR (pR (bR (pR (done rfl (.tmp rfl .nil) (retE ?_)))))))))))))))
      rw [idx_at (p := fun x => SPrefix.eqb x.to_ a) eRoute.zero (by omega) hq (by first | exact h1 | exact decide_eq_true h1)]; rfl
    · refine skip (bN (pN (region (cons (opv (Ev.move (.t rfl)) (cons (opv (Ev.add_i (.t rfl) (.c (v := I 1) rfl) (fun _ => by omega)) ?_)))))))
      refine cons (opv (Ev.assign (.t rfl)) (nil (pN (next (X := Int) (i + 1) ⟨?_, ?_⟩ ?_ (by repeat first | exact Sub.nil | refine Sub.cons rfl ?_) (by repeat first | exact sR | exact sN | apply sC | apply sS | apply sA)))))
      · try dsimp only
        omega
      · try dsimp only
        intro k h
        by_cases e : (k : Int) < i
        · exact hq k e
        · obtain rfl : k = i.toNat := by omega
          first | exact h1 | exact decide_eq_false h1
      · try dsimp only
        omega
  · try simp only [nb] at h0
    refine exit (pX (pX (bX (pN (seq (region (cons (opv (Ev.assign (.c (v := I (-1)) rfl)) ?_))))))))
    refine nil (pN (ret (done rfl (.tmp rfl .nil) (retE ?_))))
    rw [idx_none (p := fun x => SPrefix.eqb x.to_ a) eRoute.zero (fun k hk => hq k (by omega))]; rfl
end Go.Proofs.YtnoobdijbpmjkaaGreat
