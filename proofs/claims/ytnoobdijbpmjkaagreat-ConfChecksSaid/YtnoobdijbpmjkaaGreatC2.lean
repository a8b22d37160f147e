/- conf -/
import Derived.Test.YtnoobdijbpmjkaaGreatC1
set_option linter.unusedVariables false
set_option linter.unusedSimpArgs false
namespace Go.Proofs.YtnoobdijbpmjkaaGreat
open Go Go.Gx

/-- So many of l added, d each. -/
def incN {α : Type} (q : α → α → Bool) (d : Int) (l : List α) (m : List (α × Int)) : Nat → List (α × Int)
  | 0 => m
  | n + 1 => match l[n]? with
    | none => incN q d l m n
    | some x => putL q x ((findV q x (incN q d l m n)).getD 0 + d) (incN q d l m n)
theorem incN_stepI {α : Type} (q : α → α → Bool) (d : Int) (l : List α) (m : List (α × Int)) (z : α) {i : Int} (h : 0 ≤ i ∧ i < l.length) : incN q d l m (i + 1).toNat = putL q (l.getD i.toNat z) ((findV q (l.getD i.toNat z) (incN q d l m i.toNat)).getD 0 + d) (incN q d l m i.toNat) := by
  have e : (i + 1).toNat = i.toNat + 1 := by omega
  have e2 : l[i.toNat]? = some (l.getD i.toNat z) := by
    have : i.toNat < l.length := by omega
    simp [List.getD, List.getElem?_eq_getElem this]
  rw [e, incN, e2]
theorem incN_val {α : Type} {q : α → α → Bool} (hi : ∀ x y, q x y = true ↔ x = y) (d : Int) (l : List α) (m : List (α × Int)) (x : α) : ∀ n, (findV q x (incN q d l m n)).getD 0 = (findV q x m).getD 0 + d * ((l.take n).countP (q x) : Nat)
  | 0 => by simp [incN]
  | n + 1 => by
    have ih := incN_val hi d l m x n
    rw [List.take_add_one, incN]
    cases h : l[n]? with
    | none => simp [ih]
    | some y =>
      simp only [Option.toList_some, List.countP_append, List.countP_singleton]
      rw [findV_put hi]
      by_cases hq : q x y = true
      · have e := (hi _ _).1 hq
        subst e
        rw [if_pos hq, if_pos hq]
        simp only [Option.getD_some, ih, Int.natCast_add, Int.mul_add]
        omega
      · rw [if_neg hq, if_neg hq]
        simpa using ih
theorem incN_bd {α : Type} {q : α → α → Bool} (hi : ∀ x y, q x y = true ↔ x = y) (l k : List α) (x : α) (n : Nat) : 0 ≤ (findV q x (incN q 1 l [] n)).getD 0 ∧ (findV q x (incN q 1 l [] n)).getD 0 ≤ l.length ∧
    (findV q x (incN q 1 l [] l.length)).getD 0 - k.length ≤ (findV q x (incN q (-1) k (incN q 1 l [] l.length) n)).getD 0 ∧ (findV q x (incN q (-1) k (incN q 1 l [] l.length) n)).getD 0 ≤ l.length := by
  have h1 := incN_val hi 1 l [] x n
  have h2 := incN_val hi (-1) k (incN q 1 l [] l.length) x n
  have h3 := incN_val hi 1 l [] x l.length
  have b1 : (l.take n).countP (q x) ≤ l.length := Nat.le_trans List.countP_le_length (by simp; omega)
  have b2 : (k.take n).countP (q x) ≤ k.length := Nat.le_trans List.countP_le_length (by simp; omega)
  have b3 : (l.take l.length).countP (q x) ≤ l.length := Nat.le_trans List.countP_le_length (by simp)
  have e0 : (findV q x ([] : List (α × Int))).getD 0 = 0 := rfl
  rw [e0] at h1 h3
  omega
theorem put_same {α : Type} {q : α → α → Bool} (hi : ∀ x y, q x y = true ↔ x = y) (k : α) (l : List (α × Int)) : (findV q k (putL q k ((findV q k l).getD 0) l)).getD 0 = (findV q k l).getD 0 := by
  rw [findV_self hi]
  rfl
def alikeM {α : Type} (q : α → α → Bool) (l k : List α) : List (α × Int) := incN q (-1) k (incN q 1 l [] l.length) k.length
/-- The same things, each as often. -/
def alikeB {α : Type} (q : α → α → Bool) (l k : List α) : Bool := (alikeM q l k).all (fun p => decide (p.2 = 0))

theorem alike_52 (u v : Value) (xs ys : List SRoute) (w : World) (hx : IsSl eRoute w u xs) (hy : IsSl eRoute w v ys) (hlx : xs.length ≤ 4611686018427387903) (hly : ys.length ≤ 4611686018427387903) : Calls Tryz.prog 55 #[u, v] w (RetV w (.bool (alikeB SRoute.eqb xs ys))) := by
  have hle := hx.le
  have hle2 := hy.le
  refine enter0 47 Tryz.func55 rfl rfl (Nat.le_of_ble_eq_true rfl) ?_
  refine seq (region (cons (opv (Ev.assign (.c (v := .bool false) rfl)) ?_)))
  refine nil (pN (seq (region (cons (makeMap (E := eRoute) (V := iE) (fun b1 => ?_))))))
  refine cons (opv (Ev.assign (.t rfl)) (nil (pN (seq (seq (region (cons (opv (Ev.move (.t rfl)) (cons (opv (Ev.len Tryz.underlying23 (.t rfl) (by first | exact isSl_own (by repeat first | exact mH | apply mT | apply mA) | exact fun w I => IsSl.keep0 (by assumption) I.keeps)) ?_))))))))))
  refine cons (opv (Ev.move (.c (v := I 0) rfl)) ?_)
  refine nil (pN (block (loop (X := Int) (fun x : Int => (0 ≤ x ∧ x ≤ xs.length)) (fun x : Int => [(1, true, v), (5, true, .map (some b1)), (13, true, u), (14, true, I xs.length), (15, true, I x)]) (fun x : Int => [MapR b1 eRoute iE (incN SRoute.eqb 1 xs [] x.toNat)]) (fun x : Int => ((xs.length : Int) - x).toNat) (0) ?_ (by repeat first | exact Sub.nil | refine Sub.cons rfl ?_) (by repeat first | exact sR | exact sN | apply sC | apply sS | apply sA) (fun x hx => ?_))))
  · omega
  obtain ⟨i, rfl⟩ : ∃ y, y = x := ⟨x, rfl⟩
  have hi : 0 ≤ i ∧ i ≤ xs.length := hx
  clear hx
  show Sat _ _ [(1, true, v), (5, true, .map (some b1)), (13, true, u), (14, true, I xs.length), (15, true, I i)] [MapR b1 eRoute iE (incN SRoute.eqb 1 xs [] i.toNat)]
  refine seq (region (cons (opv (Ev.lss_i (.t rfl) (.t rfl)) ?_)))
  refine nil (pN (seq ?_))
  first | refine condD rfl (fun h0 => ?_) (fun h0 => ?_) | refine cond rfl (fun h0 => ?_) (fun h0 => ?_)
  · try simp only [nb] at h0
    refine skip (pN (seq (block (seq (region (cons (opv (Ev.indexAddr Tryz.underlying23 ty52 (.t rfl) (.t rfl) (fun w I => hx.keep0 I.keeps) (fun _ => by omega)) ?_)))))))
    refine cons (opv (Ev.loadS0 ty52 (.t rfl) (fun w I => hx.keep0 I.keeps) (fun _ => by omega)) ?_)
    refine cons (alloc z52 (fun b2 => ?_))
    refine cons (stv ty52 (Lens.id _) (.t rfl) (.t rfl) ?_)
    refine nil (pN (drawR (.tail .head) (by kernel_rfl) ?_))
    refine tk 0 rfl (Ev.move (.t rfl)) ?_
    refine tk 1 rfl (Ev.ldv ty52 (.t rfl) (Lens.id _)) ?_
    refine all [2, 4] (by kernel_rfl) (by decide) (.cons rfl ?_ (.cons rfl ?_ .nil))
    · refine (opv (Ev.to (v' := I ((findV SRoute.eqb (xs.getD i.toNat eRoute.zero) (incN SRoute.eqb 1 xs [] i.toNat)).getD 0)) (Ev.lookupF Tryz.underlying128 Tryz.underlying52 key52 z3 (.t rfl) (.t rfl) (fun _ => (by first | exact mapAt_own (by repeat first | exact mH | apply mT | apply mA) | exact mapAt_stamp (by repeat first | exact mH | apply mT | apply mA) | exact fun w I => MapAt.keep0 (by assumption) I.keeps))) (by first | rfl | exact congrArg I (put_same SRoute.eqb_iff _ _))) ?_)
      refine hdn (tk 3 rfl (Ev.add_i (.t rfl) (.c (v := I 1) rfl) (fun _ => by have := incN_bd SRoute.eqb_iff xs ys (xs.getD i.toNat eRoute.zero) i.toNat; omega)) ?_)
      refine al1 4 rfl ((mapEntry Tryz.underlying128 Tryz.underlying52 key52 z3 (.t rfl) (.t rfl) (fun _ => by repeat first | exact Upd.head | apply Upd.tail | apply Upd.right) (fun s3 => ?_)))
      refine hdn (tk 5 rfl (Ev.extract (.t rfl) rfl) ?_)
      refine al1 6 rfl ((entryStore (.t rfl) (.t rfl) (.t rfl) (by repeat first | exact Upd.head | apply Upd.tail | apply Upd.right) ?_))
      refine hdn (ovr (bN (pN (region (cons (opv (Ev.add_i (.t rfl) (.c (v := I 1) rfl) (fun _ => by omega)) ?_))))))
      refine cons (opv (Ev.move (.t rfl)) (nil (pN (next (X := Int) (i + 1) ?_ ?_ (by repeat first | exact Sub.nil | refine Sub.cons rfl ?_) (by rw [incN_stepI _ _ _ _ eRoute.zero (by omega)]; exact (by repeat first | exact sR | exact sN | apply sC | apply sS | apply sA))))))
      · try dsimp only
        omega
      · try dsimp only
        first | omega | (simp; omega)
    · refine (mapEntry Tryz.underlying128 Tryz.underlying52 key52 z3 (.t rfl) (.t rfl) (fun _ => by repeat first | exact Upd.head | apply Upd.tail | apply Upd.right) (fun s4 => ?_))
      refine hdn (tk 5 rfl (Ev.extract (.t rfl) rfl) ?_)
      refine al1 2 rfl ((opv (Ev.to (v' := I ((findV SRoute.eqb (xs.getD i.toNat eRoute.zero) (incN SRoute.eqb 1 xs [] i.toNat)).getD 0)) (Ev.lookupF Tryz.underlying128 Tryz.underlying52 key52 z3 (.t rfl) (.t rfl) (fun _ => (by first | exact mapAt_own (by repeat first | exact mH | apply mT | apply mA) | exact mapAt_stamp (by repeat first | exact mH | apply mT | apply mA) | exact fun w I => MapAt.keep0 (by assumption) I.keeps))) (by first | rfl | exact congrArg I (put_same SRoute.eqb_iff _ _))) ?_))
      refine hdn (tk 3 rfl (Ev.add_i (.t rfl) (.c (v := I 1) rfl) (fun _ => by have := incN_bd SRoute.eqb_iff xs ys (xs.getD i.toNat eRoute.zero) i.toNat; omega)) ?_)
      refine al1 6 rfl ((entryStore (.t rfl) (.t rfl) (.t rfl) (by repeat first | exact Upd.head | apply Upd.tail | apply Upd.right) ?_))
      refine hdn (ovr (bN (pN (region (cons (opv (Ev.add_i (.t rfl) (.c (v := I 1) rfl) (fun _ => by omega)) ?_))))))
      refine cons (opv (Ev.move (.t rfl)) (nil (pN (next (X := Int) (i + 1) ?_ ?_ (by repeat first | exact Sub.nil | refine Sub.cons rfl ?_) (by rw [incN_stepI _ _ _ _ eRoute.zero (by omega)]; exact (by repeat first | exact sR | exact sN | apply sC | apply sS | apply sA))))))
      · try dsimp only
        omega
      · try dsimp only
        first | omega | (simp; omega)
  · try simp only [nb] at h0
    refine exit (pX (pX (bX (pN (seq (seq (region ?_)))))))
    have hil : i.toNat = xs.length := by omega
    rw [hil]
    refine cons (opv (Ev.move (.t rfl)) (cons (opv (Ev.len Tryz.underlying23 (.t rfl) (fun w I => hy.keep0 I.keeps)) ?_)))
    refine cons (opv (Ev.move (.c (v := I 0) rfl)) ?_)
    refine nil (pN (block (loop (X := Int) (fun x : Int => (0 ≤ x ∧ x ≤ ys.length)) (fun x : Int => [(5, true, .map (some b1)), (26, true, v), (27, true, I ys.length), (28, true, I x)]) (fun x : Int => [MapR b1 eRoute iE (incN SRoute.eqb (-1) ys (incN SRoute.eqb 1 xs [] xs.length) x.toNat)]) (fun x : Int => ((ys.length : Int) - x).toNat) (0) ?_ (by repeat first | exact Sub.nil | refine Sub.cons rfl ?_) (by repeat first | exact sR | exact sN | apply sC | apply sS | apply sA) (fun x hx => ?_))))
    · omega
    obtain ⟨k, rfl⟩ : ∃ y, y = x := ⟨x, rfl⟩
    have hk : 0 ≤ k ∧ k ≤ ys.length := hx
    clear hx
    show Sat _ _ [(5, true, .map (some b1)), (26, true, v), (27, true, I ys.length), (28, true, I k)] [MapR b1 eRoute iE (incN SRoute.eqb (-1) ys (incN SRoute.eqb 1 xs [] xs.length) k.toNat)]
    refine seq (region (cons (opv (Ev.lss_i (.t rfl) (.t rfl)) ?_)))
    refine nil (pN (seq ?_))
    first | refine condD rfl (fun h1 => ?_) (fun h1 => ?_) | refine cond rfl (fun h1 => ?_) (fun h1 => ?_)
    · try simp only [nb] at h1
      refine skip (pN (seq (block (seq (region (cons (opv (Ev.indexAddr Tryz.underlying23 ty52 (.t rfl) (.t rfl) (fun w I => hy.keep0 I.keeps) (fun _ => by omega)) ?_)))))))
      refine cons (opv (Ev.loadS0 ty52 (.t rfl) (fun w I => hy.keep0 I.keeps) (fun _ => by omega)) ?_)
      refine cons (alloc z52 (fun b5 => ?_))
      refine cons (stv ty52 (Lens.id _) (.t rfl) (.t rfl) ?_)
      refine nil (pN (drawR (.tail .head) (by kernel_rfl) ?_))
      refine tk 0 rfl (Ev.move (.t rfl)) ?_
      refine tk 1 rfl (Ev.ldv ty52 (.t rfl) (Lens.id _)) ?_
      refine all [2, 4] (by kernel_rfl) (by decide) (.cons rfl ?_ (.cons rfl ?_ .nil))
      · refine (opv (Ev.to (v' := I ((findV SRoute.eqb (ys.getD k.toNat eRoute.zero) (incN SRoute.eqb (-1) ys (incN SRoute.eqb 1 xs [] xs.length) k.toNat)).getD 0)) (Ev.lookupF Tryz.underlying128 Tryz.underlying52 key52 z3 (.t rfl) (.t rfl) (fun _ => (by first | exact mapAt_own (by repeat first | exact mH | apply mT | apply mA) | exact mapAt_stamp (by repeat first | exact mH | apply mT | apply mA) | exact fun w I => MapAt.keep0 (by assumption) I.keeps))) (by first | rfl | exact congrArg I (put_same SRoute.eqb_iff _ _))) ?_)
        refine hdn (tk 3 rfl (Ev.sub_i (.t rfl) (.c (v := I 1) rfl) (fun _ => by have := incN_bd SRoute.eqb_iff xs ys (ys.getD k.toNat eRoute.zero) k.toNat; have := incN_bd SRoute.eqb_iff xs ys (ys.getD k.toNat eRoute.zero) xs.length; omega)) ?_)
        refine al1 4 rfl ((mapEntry Tryz.underlying128 Tryz.underlying52 key52 z3 (.t rfl) (.t rfl) (fun _ => by repeat first | exact Upd.head | apply Upd.tail | apply Upd.right) (fun s6 => ?_)))
        refine hdn (tk 5 rfl (Ev.extract (.t rfl) rfl) ?_)
        refine al1 6 rfl ((entryStore (.t rfl) (.t rfl) (.t rfl) (by repeat first | exact Upd.head | apply Upd.tail | apply Upd.right) ?_))
        refine hdn (ovr (bN (pN (region (cons (opv (Ev.add_i (.t rfl) (.c (v := I 1) rfl) (fun _ => by omega)) ?_))))))
        refine cons (opv (Ev.move (.t rfl)) (nil (pN (next (X := Int) (k + 1) ?_ ?_ (by repeat first | exact Sub.nil | refine Sub.cons rfl ?_) (by rw [incN_stepI _ _ _ _ eRoute.zero (by omega)]; exact (by repeat first | exact sR | exact sN | apply sC | apply sS | apply sA))))))
        · try dsimp only
          omega
        · try dsimp only
          first | omega | (simp; omega)
      · refine (mapEntry Tryz.underlying128 Tryz.underlying52 key52 z3 (.t rfl) (.t rfl) (fun _ => by repeat first | exact Upd.head | apply Upd.tail | apply Upd.right) (fun s7 => ?_))
        refine hdn (tk 5 rfl (Ev.extract (.t rfl) rfl) ?_)
        refine al1 2 rfl ((opv (Ev.to (v' := I ((findV SRoute.eqb (ys.getD k.toNat eRoute.zero) (incN SRoute.eqb (-1) ys (incN SRoute.eqb 1 xs [] xs.length) k.toNat)).getD 0)) (Ev.lookupF Tryz.underlying128 Tryz.underlying52 key52 z3 (.t rfl) (.t rfl) (fun _ => (by first | exact mapAt_own (by repeat first | exact mH | apply mT | apply mA) | exact mapAt_stamp (by repeat first | exact mH | apply mT | apply mA) | exact fun w I => MapAt.keep0 (by assumption) I.keeps))) (by first | rfl | exact congrArg I (put_same SRoute.eqb_iff _ _))) ?_))
        refine hdn (tk 3 rfl (Ev.sub_i (.t rfl) (.c (v := I 1) rfl) (fun _ => by have := incN_bd SRoute.eqb_iff xs ys (ys.getD k.toNat eRoute.zero) k.toNat; have := incN_bd SRoute.eqb_iff xs ys (ys.getD k.toNat eRoute.zero) xs.length; omega)) ?_)
        refine al1 6 rfl ((entryStore (.t rfl) (.t rfl) (.t rfl) (by repeat first | exact Upd.head | apply Upd.tail | apply Upd.right) ?_))
        refine hdn (ovr (bN (pN (region (cons (opv (Ev.add_i (.t rfl) (.c (v := I 1) rfl) (fun _ => by omega)) ?_))))))
        refine cons (opv (Ev.move (.t rfl)) (nil (pN (next (X := Int) (k + 1) ?_ ?_ (by repeat first | exact Sub.nil | refine Sub.cons rfl ?_) (by rw [incN_stepI _ _ _ _ eRoute.zero (by omega)]; exact (by repeat first | exact sR | exact sN | apply sC | apply sS | apply sA))))))
        · try dsimp only
          omega
        · try dsimp only
          first | omega | (simp; omega)
    · try simp only [nb] at h1
      refine exit (pX (pX (bX (pN (seq (seq (region ?_)))))))
      have hkl : k.toNat = ys.length := by omega
      rw [hkl]
      show Sat _ _ _ [MapR b1 eRoute iE (alikeM SRoute.eqb xs ys)]
      refine cons (opv (Ev.move (.t rfl)) (cons (startRange Tryz.underlying128 (.t rfl) (fun _ => by repeat first | exact Upd.head | apply Upd.tail | apply Upd.right) (fun r8 => ?_))))
      refine nil (pN (block (loop (X := (List (SRoute × Int)) × (Option (SRoute × Int))) (fun x : (List (SRoute × Int)) × (Option (SRoute × Int)) => (∀ z ∈ alikeM SRoute.eqb xs ys, z ∈ x.1 ∨ z.2 = 0) ∧ (∀ z ∈ x.1, z ∈ alikeM SRoute.eqb xs ys)) (fun x : (List (SRoute × Int)) × (Option (SRoute × Int)) => [(40, true, .pointer (some ⟨r8, 0, none⟩))]) (fun x : (List (SRoute × Int)) × (Option (SRoute × Int)) => [RangeR r8 b1 eRoute iE (alikeM SRoute.eqb xs ys) x.1 x.2]) (fun x : (List (SRoute × Int)) × (Option (SRoute × Int)) => x.1.length) (alikeM SRoute.eqb xs ys, none) ⟨?_, ?_⟩ (by repeat first | exact Sub.nil | refine Sub.cons rfl ?_) (by repeat first | exact sR | exact sN | apply sC | apply sS | apply sA) (fun x hx => ?_))))
      · exact fun z hz => .inl hz
      · exact fun z hz => hz
      obtain ⟨rem, cur⟩ := x
      obtain ⟨hr, hr2⟩ : (∀ z ∈ alikeM SRoute.eqb xs ys, z ∈ rem ∨ z.2 = 0) ∧ (∀ z ∈ rem, z ∈ alikeM SRoute.eqb xs ys) := hx
      show Sat _ _ [(40, true, .pointer (some ⟨r8, 0, none⟩))] [RangeR r8 b1 eRoute iE (alikeM SRoute.eqb xs ys) rem cur]
      refine seq (region (cons (nextRange (.t rfl) (fun _ => by repeat first | exact Upd.head | apply Upd.tail | apply Upd.right) (fun hs12 => ?_) (fun l9 p10 l11 hs12 => ?_))))
      · refine cons (opv (Ev.extract (.t rfl) rfl) (nil (pN (seq (condF rfl (rfl) ?_)))))
        refine exit (pX (pX (bX (pN (seq (region (cons (opv (Ev.assign (.c (v := .bool true) rfl)) ?_))))))))
        refine nil (pN (ret (done rfl (.tmp rfl .nil) (retE ?_))))
        have hz : alikeB SRoute.eqb xs ys = true := by
          refine List.all_eq_true.2 fun z hz => ?_
          rcases hr z hz with h | h
          · rw [hs12] at h; cases h
          · simpa using h
        rw [hz]; rfl
      · refine cons (opv (Ev.extract (.t rfl) rfl) (nil (pN (seq (condT rfl (rfl) ?_)))))
        refine skip (pN (block (seq (region (cons (opv (Ev.entry (.t rfl) (by repeat first | exact mH | apply mT | apply mA)) ?_))))))
        refine cons (opv (Ev.extract (.t rfl) rfl) (cons (opv (Ev.assign (.t rfl)) (nil (pN (seq (region (cons (opv (Ev.move (.t rfl)) (cons (opv (Ev.neq_i (.t rfl) (.c (v := I 0) rfl)) ?_)))))))))))
        refine nil (pN ?_)
        first | refine condD rfl (fun h3 => ?_) (fun h3 => ?_) | refine cond rfl (fun h3 => ?_) (fun h3 => ?_)
        · try simp only [nb] at h3
          refine seq (region (cons (opv (Ev.assign (.c (v := .bool false) rfl)) ?_)))
          refine nil (pN (ret (bR (pR (bR (pR (done rfl (.tmp rfl .nil) (retE ?_))))))))
          have hz : alikeB SRoute.eqb xs ys = false := by
            refine List.all_eq_false.2 ⟨p10, hr2 _ (by rw [hs12]; simp), ?_⟩
            simpa using h3
          rw [hz]; rfl
        · try simp only [nb] at h3
          refine skip (bN (pN (next (X := (List (SRoute × Int)) × (Option (SRoute × Int))) (l9 ++ l11, some p10) ⟨?_, ?_⟩ ?_ (by repeat first | exact Sub.nil | refine Sub.cons rfl ?_) (by repeat first | exact sR | exact sN | apply sC | apply sS | apply sA))))
          · try dsimp only
            intro z hz
            rcases hr z hz with h | h
            · rw [hs12] at h
              rcases List.mem_append.1 h with h | h
              · exact .inl (List.mem_append_left _ h)
              · rcases List.mem_cons.1 h with rfl | h
                · exact .inr (by simpa using h3)
                · exact .inl (List.mem_append_right _ h)
            · exact .inr h
          · try dsimp only
            intro z hz
            refine hr2 z ?_
            rw [hs12]
            rcases List.mem_append.1 hz with h | h
            · exact List.mem_append_left _ h
            · exact List.mem_append_right _ (List.mem_cons_of_mem _ h)
          · try dsimp only
            rw [hs12]; simp

theorem alike_57 (u v : Value) (xs ys : List SMeterConf) (w : World) (hx : IsSl eMeterConf w u xs) (hy : IsSl eMeterConf w v ys) (hlx : xs.length ≤ 4611686018427387903) (hly : ys.length ≤ 4611686018427387903) : Calls Tryz.prog 56 #[u, v] w (RetV w (.bool (alikeB SMeterConf.eqb xs ys))) := by
  have hle := hx.le
  have hle2 := hy.le
  refine enter0 47 Tryz.func56 rfl rfl (Nat.le_of_ble_eq_true rfl) ?_
  refine seq (region (cons (opv (Ev.assign (.c (v := .bool false) rfl)) ?_)))
  refine nil (pN (seq (region (cons (makeMap (E := eMeterConf) (V := iE) (fun b1 => ?_))))))
  refine cons (opv (Ev.assign (.t rfl)) (nil (pN (seq (seq (region (cons (opv (Ev.move (.t rfl)) (cons (opv (Ev.len Tryz.underlying25 (.t rfl) (by first | exact isSl_own (by repeat first | exact mH | apply mT | apply mA) | exact fun w I => IsSl.keep0 (by assumption) I.keeps)) ?_))))))))))
  refine cons (opv (Ev.move (.c (v := I 0) rfl)) ?_)
  refine nil (pN (block (loop (X := Int) (fun x : Int => (0 ≤ x ∧ x ≤ xs.length)) (fun x : Int => [(1, true, v), (5, true, .map (some b1)), (13, true, u), (14, true, I xs.length), (15, true, I x)]) (fun x : Int => [MapR b1 eMeterConf iE (incN SMeterConf.eqb 1 xs [] x.toNat)]) (fun x : Int => ((xs.length : Int) - x).toNat) (0) ?_ (by repeat first | exact Sub.nil | refine Sub.cons rfl ?_) (by repeat first | exact sR | exact sN | apply sC | apply sS | apply sA) (fun x hx => ?_))))
  · omega
  obtain ⟨i, rfl⟩ : ∃ y, y = x := ⟨x, rfl⟩
  have hi : 0 ≤ i ∧ i ≤ xs.length := hx
  clear hx
  show Sat _ _ [(1, true, v), (5, true, .map (some b1)), (13, true, u), (14, true, I xs.length), (15, true, I i)] [MapR b1 eMeterConf iE (incN SMeterConf.eqb 1 xs [] i.toNat)]
  refine seq (region (cons (opv (Ev.lss_i (.t rfl) (.t rfl)) ?_)))
  refine nil (pN (seq ?_))
  first | refine condD rfl (fun h0 => ?_) (fun h0 => ?_) | refine cond rfl (fun h0 => ?_) (fun h0 => ?_)
  · try simp only [nb] at h0
    refine skip (pN (seq (block (seq (region (cons (opv (Ev.indexAddr Tryz.underlying25 ty57 (.t rfl) (.t rfl) (fun w I => hx.keep0 I.keeps) (fun _ => by omega)) ?_)))))))
    refine cons (opv (Ev.loadS0 ty57 (.t rfl) (fun w I => hx.keep0 I.keeps) (fun _ => by omega)) ?_)
    refine cons (alloc z57 (fun b2 => ?_))
    refine cons (stv ty57 (Lens.id _) (.t rfl) (.t rfl) ?_)
    refine nil (pN (drawR (.tail .head) (by kernel_rfl) ?_))
    refine tk 0 rfl (Ev.move (.t rfl)) ?_
    refine tk 1 rfl (Ev.ldv ty57 (.t rfl) (Lens.id _)) ?_
    refine all [2, 4] (by kernel_rfl) (by decide) (.cons rfl ?_ (.cons rfl ?_ .nil))
    · refine (opv (Ev.to (v' := I ((findV SMeterConf.eqb (xs.getD i.toNat eMeterConf.zero) (incN SMeterConf.eqb 1 xs [] i.toNat)).getD 0)) (Ev.lookupF Tryz.underlying118 Tryz.underlying57 key57 z3 (.t rfl) (.t rfl) (fun _ => (by first | exact mapAt_own (by repeat first | exact mH | apply mT | apply mA) | exact mapAt_stamp (by repeat first | exact mH | apply mT | apply mA) | exact fun w I => MapAt.keep0 (by assumption) I.keeps))) (by first | rfl | exact congrArg I (put_same SMeterConf.eqb_iff _ _))) ?_)
      refine hdn (tk 3 rfl (Ev.add_i (.t rfl) (.c (v := I 1) rfl) (fun _ => by have := incN_bd SMeterConf.eqb_iff xs ys (xs.getD i.toNat eMeterConf.zero) i.toNat; omega)) ?_)
      refine al1 4 rfl ((mapEntry Tryz.underlying118 Tryz.underlying57 key57 z3 (.t rfl) (.t rfl) (fun _ => by repeat first | exact Upd.head | apply Upd.tail | apply Upd.right) (fun s3 => ?_)))
      refine hdn (tk 5 rfl (Ev.extract (.t rfl) rfl) ?_)
      refine al1 6 rfl ((entryStore (.t rfl) (.t rfl) (.t rfl) (by repeat first | exact Upd.head | apply Upd.tail | apply Upd.right) ?_))
      refine hdn (ovr (bN (pN (region (cons (opv (Ev.add_i (.t rfl) (.c (v := I 1) rfl) (fun _ => by omega)) ?_))))))
      refine cons (opv (Ev.move (.t rfl)) (nil (pN (next (X := Int) (i + 1) ?_ ?_ (by repeat first | exact Sub.nil | refine Sub.cons rfl ?_) (by rw [incN_stepI _ _ _ _ eMeterConf.zero (by omega)]; exact (by repeat first | exact sR | exact sN | apply sC | apply sS | apply sA))))))
      · try dsimp only
        omega
      · try dsimp only
        first | omega | (simp; omega)
    · refine (mapEntry Tryz.underlying118 Tryz.underlying57 key57 z3 (.t rfl) (.t rfl) (fun _ => by repeat first | exact Upd.head | apply Upd.tail | apply Upd.right) (fun s4 => ?_))
      refine hdn (tk 5 rfl (Ev.extract (.t rfl) rfl) ?_)
      refine al1 2 rfl ((opv (Ev.to (v' := I ((findV SMeterConf.eqb (xs.getD i.toNat eMeterConf.zero) (incN SMeterConf.eqb 1 xs [] i.toNat)).getD 0)) (Ev.lookupF Tryz.underlying118 Tryz.underlying57 key57 z3 (.t rfl) (.t rfl) (fun _ => (by first | exact mapAt_own (by repeat first | exact mH | apply mT | apply mA) | exact mapAt_stamp (by repeat first | exact mH | apply mT | apply mA) | exact fun w I => MapAt.keep0 (by assumption) I.keeps))) (by first | rfl | exact congrArg I (put_same SMeterConf.eqb_iff _ _))) ?_))
      refine hdn (tk 3 rfl (Ev.add_i (.t rfl) (.c (v := I 1) rfl) (fun _ => by have := incN_bd SMeterConf.eqb_iff xs ys (xs.getD i.toNat eMeterConf.zero) i.toNat; omega)) ?_)
      refine al1 6 rfl ((entryStore (.t rfl) (.t rfl) (.t rfl) (by repeat first | exact Upd.head | apply Upd.tail | apply Upd.right) ?_))
      refine hdn (ovr (bN (pN (region (cons (opv (Ev.add_i (.t rfl) (.c (v := I 1) rfl) (fun _ => by omega)) ?_))))))
      refine cons (opv (Ev.move (.t rfl)) (nil (pN (next (X := Int) (i + 1) ?_ ?_ (by repeat first | exact Sub.nil | refine Sub.cons rfl ?_) (by rw [incN_stepI _ _ _ _ eMeterConf.zero (by omega)]; exact (by repeat first | exact sR | exact sN | apply sC | apply sS | apply sA))))))
      · try dsimp only
        omega
      · try dsimp only
        first | omega | (simp; omega)
  · try simp only [nb] at h0
    refine exit (pX (pX (bX (pN (seq (seq (region ?_)))))))
    have hil : i.toNat = xs.length := by omega
    rw [hil]
    refine cons (opv (Ev.move (.t rfl)) (cons (opv (Ev.len Tryz.underlying25 (.t rfl) (fun w I => hy.keep0 I.keeps)) ?_)))
    refine cons (opv (Ev.move (.c (v := I 0) rfl)) ?_)
    refine nil (pN (block (loop (X := Int) (fun x : Int => (0 ≤ x ∧ x ≤ ys.length)) (fun x : Int => [(5, true, .map (some b1)), (26, true, v), (27, true, I ys.length), (28, true, I x)]) (fun x : Int => [MapR b1 eMeterConf iE (incN SMeterConf.eqb (-1) ys (incN SMeterConf.eqb 1 xs [] xs.length) x.toNat)]) (fun x : Int => ((ys.length : Int) - x).toNat) (0) ?_ (by repeat first | exact Sub.nil | refine Sub.cons rfl ?_) (by repeat first | exact sR | exact sN | apply sC | apply sS | apply sA) (fun x hx => ?_))))
    · omega
    obtain ⟨k, rfl⟩ : ∃ y, y = x := ⟨x, rfl⟩
    have hk : 0 ≤ k ∧ k ≤ ys.length := hx
    clear hx
    show Sat _ _ [(5, true, .map (some b1)), (26, true, v), (27, true, I ys.length), (28, true, I k)] [MapR b1 eMeterConf iE (incN SMeterConf.eqb (-1) ys (incN SMeterConf.eqb 1 xs [] xs.length) k.toNat)]
    refine seq (region (cons (opv (Ev.lss_i (.t rfl) (.t rfl)) ?_)))
    refine nil (pN (seq ?_))
    first | refine condD rfl (fun h1 => ?_) (fun h1 => ?_) | refine cond rfl (fun h1 => ?_) (fun h1 => ?_)
    · try simp only [nb] at h1
      refine skip (pN (seq (block (seq (region (cons (opv (Ev.indexAddr Tryz.underlying25 ty57 (.t rfl) (.t rfl) (fun w I => hy.keep0 I.keeps) (fun _ => by omega)) ?_)))))))
      refine cons (opv (Ev.loadS0 ty57 (.t rfl) (fun w I => hy.keep0 I.keeps) (fun _ => by omega)) ?_)
      refine cons (alloc z57 (fun b5 => ?_))
      refine cons (stv ty57 (Lens.id _) (.t rfl) (.t rfl) ?_)
      refine nil (pN (drawR (.tail .head) (by kernel_rfl) ?_))
      refine tk 0 rfl (Ev.move (.t rfl)) ?_
      refine tk 1 rfl (Ev.ldv ty57 (.t rfl) (Lens.id _)) ?_
      refine all [2, 4] (by kernel_rfl) (by decide) (.cons rfl ?_ (.cons rfl ?_ .nil))
      · refine (opv (Ev.to (v' := I ((findV SMeterConf.eqb (ys.getD k.toNat eMeterConf.zero) (incN SMeterConf.eqb (-1) ys (incN SMeterConf.eqb 1 xs [] xs.length) k.toNat)).getD 0)) (Ev.lookupF Tryz.underlying118 Tryz.underlying57 key57 z3 (.t rfl) (.t rfl) (fun _ => (by first | exact mapAt_own (by repeat first | exact mH | apply mT | apply mA) | exact mapAt_stamp (by repeat first | exact mH | apply mT | apply mA) | exact fun w I => MapAt.keep0 (by assumption) I.keeps))) (by first | rfl | exact congrArg I (put_same SMeterConf.eqb_iff _ _))) ?_)
        refine hdn (tk 3 rfl (Ev.sub_i (.t rfl) (.c (v := I 1) rfl) (fun _ => by have := incN_bd SMeterConf.eqb_iff xs ys (ys.getD k.toNat eMeterConf.zero) k.toNat; have := incN_bd SMeterConf.eqb_iff xs ys (ys.getD k.toNat eMeterConf.zero) xs.length; omega)) ?_)
        refine al1 4 rfl ((mapEntry Tryz.underlying118 Tryz.underlying57 key57 z3 (.t rfl) (.t rfl) (fun _ => by repeat first | exact Upd.head | apply Upd.tail | apply Upd.right) (fun s6 => ?_)))
        refine hdn (tk 5 rfl (Ev.extract (.t rfl) rfl) ?_)
        refine al1 6 rfl ((entryStore (.t rfl) (.t rfl) (.t rfl) (by repeat first | exact Upd.head | apply Upd.tail | apply Upd.right) ?_))
        refine hdn (ovr (bN (pN (region (cons (opv (Ev.add_i (.t rfl) (.c (v := I 1) rfl) (fun _ => by omega)) ?_))))))
        refine cons (opv (Ev.move (.t rfl)) (nil (pN (next (X := Int) (k + 1) ?_ ?_ (by repeat first | exact Sub.nil | refine Sub.cons rfl ?_) (by rw [incN_stepI _ _ _ _ eMeterConf.zero (by omega)]; exact (by repeat first | exact sR | exact sN | apply sC | apply sS | apply sA))))))
        · try dsimp only
          omega
        · try dsimp only
          first | omega | (simp; omega)
      · refine (mapEntry Tryz.underlying118 Tryz.underlying57 key57 z3 (.t rfl) (.t rfl) (fun _ => by repeat first | exact Upd.head | apply Upd.tail | apply Upd.right) (fun s7 => ?_))
        refine hdn (tk 5 rfl (Ev.extract (.t rfl) rfl) ?_)
        refine al1 2 rfl ((opv (Ev.to (v' := I ((findV SMeterConf.eqb (ys.getD k.toNat eMeterConf.zero) (incN SMeterConf.eqb (-1) ys (incN SMeterConf.eqb 1 xs [] xs.length) k.toNat)).getD 0)) (Ev.lookupF Tryz.underlying118 Tryz.underlying57 key57 z3 (.t rfl) (.t rfl) (fun _ => (by first | exact mapAt_own (by repeat first | exact mH | apply mT | apply mA) | exact mapAt_stamp (by repeat first | exact mH | apply mT | apply mA) | exact fun w I => MapAt.keep0 (by assumption) I.keeps))) (by first | rfl | exact congrArg I (put_same SMeterConf.eqb_iff _ _))) ?_))
        refine hdn (tk 3 rfl (Ev.sub_i (.t rfl) (.c (v := I 1) rfl) (fun _ => by have := incN_bd SMeterConf.eqb_iff xs ys (ys.getD k.toNat eMeterConf.zero) k.toNat; have := incN_bd SMeterConf.eqb_iff xs ys (ys.getD k.toNat eMeterConf.zero) xs.length; omega)) ?_)
        refine al1 6 rfl ((entryStore (.t rfl) (.t rfl) (.t rfl) (by repeat first | exact Upd.head | apply Upd.tail | apply Upd.right) ?_))
        refine hdn (ovr (bN (pN (region (cons (opv (Ev.add_i (.t rfl) (.c (v := I 1) rfl) (fun _ => by omega)) ?_))))))
        refine cons (opv (Ev.move (.t rfl)) (nil (pN (next (X := Int) (k + 1) ?_ ?_ (by repeat first | exact Sub.nil | refine Sub.cons rfl ?_) (by rw [incN_stepI _ _ _ _ eMeterConf.zero (by omega)]; exact (by repeat first | exact sR | exact sN | apply sC | apply sS | apply sA))))))
        · try dsimp only
          omega
        · try dsimp only
          first | omega | (simp; omega)
    · try simp only [nb] at h1
      refine exit (pX (pX (bX (pN (seq (seq (region ?_)))))))
      have hkl : k.toNat = ys.length := by omega
      rw [hkl]
      show Sat _ _ _ [MapR b1 eMeterConf iE (alikeM SMeterConf.eqb xs ys)]
      refine cons (opv (Ev.move (.t rfl)) (cons (startRange Tryz.underlying118 (.t rfl) (fun _ => by repeat first | exact Upd.head | apply Upd.tail | apply Upd.right) (fun r8 => ?_))))
      refine nil (pN (block (loop (X := (List (SMeterConf × Int)) × (Option (SMeterConf × Int))) (fun x : (List (SMeterConf × Int)) × (Option (SMeterConf × Int)) => (∀ z ∈ alikeM SMeterConf.eqb xs ys, z ∈ x.1 ∨ z.2 = 0) ∧ (∀ z ∈ x.1, z ∈ alikeM SMeterConf.eqb xs ys)) (fun x : (List (SMeterConf × Int)) × (Option (SMeterConf × Int)) => [(40, true, .pointer (some ⟨r8, 0, none⟩))]) (fun x : (List (SMeterConf × Int)) × (Option (SMeterConf × Int)) => [RangeR r8 b1 eMeterConf iE (alikeM SMeterConf.eqb xs ys) x.1 x.2]) (fun x : (List (SMeterConf × Int)) × (Option (SMeterConf × Int)) => x.1.length) (alikeM SMeterConf.eqb xs ys, none) ⟨?_, ?_⟩ (by repeat first | exact Sub.nil | refine Sub.cons rfl ?_) (by repeat first | exact sR | exact sN | apply sC | apply sS | apply sA) (fun x hx => ?_))))
      · exact fun z hz => .inl hz
      · exact fun z hz => hz
      obtain ⟨rem, cur⟩ := x
      obtain ⟨hr, hr2⟩ : (∀ z ∈ alikeM SMeterConf.eqb xs ys, z ∈ rem ∨ z.2 = 0) ∧ (∀ z ∈ rem, z ∈ alikeM SMeterConf.eqb xs ys) := hx
      show Sat _ _ [(40, true, .pointer (some ⟨r8, 0, none⟩))] [RangeR r8 b1 eMeterConf iE (alikeM SMeterConf.eqb xs ys) rem cur]
      refine seq (region (cons (nextRange (.t rfl) (fun _ => by repeat first | exact Upd.head | apply Upd.tail | apply Upd.right) (fun hs12 => ?_) (fun l9 p10 l11 hs12 => ?_))))
      · refine cons (opv (Ev.extract (.t rfl) rfl) (nil (pN (seq (condF rfl (rfl) ?_)))))
        refine exit (pX (pX (bX (pN (seq (region (cons (opv (Ev.assign (.c (v := .bool true) rfl)) ?_))))))))
        refine nil (pN (ret (done rfl (.tmp rfl .nil) (retE ?_))))
        have hz : alikeB SMeterConf.eqb xs ys = true := by
          refine List.all_eq_true.2 fun z hz => ?_
          rcases hr z hz with h | h
          · rw [hs12] at h; cases h
          · simpa using h
        rw [hz]; rfl
      · refine cons (opv (Ev.extract (.t rfl) rfl) (nil (pN (seq (condT rfl (rfl) ?_)))))
        refine skip (pN (block (seq (region (cons (opv (Ev.entry (.t rfl) (by repeat first | exact mH | apply mT | apply mA)) ?_))))))
        refine cons (opv (Ev.extract (.t rfl) rfl) (cons (opv (Ev.assign (.t rfl)) (nil (pN (seq (region (cons (opv (Ev.move (.t rfl)) (cons (opv (Ev.neq_i (.t rfl) (.c (v := I 0) rfl)) ?_)))))))))))
        refine nil (pN ?_)
        first | refine condD rfl (fun h3 => ?_) (fun h3 => ?_) | refine cond rfl (fun h3 => ?_) (fun h3 => ?_)
        · try simp only [nb] at h3
          refine seq (region (cons (opv (Ev.assign (.c (v := .bool false) rfl)) ?_)))
          refine nil (pN (ret (bR (pR (bR (pR (done rfl (.tmp rfl .nil) (retE ?_))))))))
          have hz : alikeB SMeterConf.eqb xs ys = false := by
            refine List.all_eq_false.2 ⟨p10, hr2 _ (by rw [hs12]; simp), ?_⟩
            simpa using h3
          rw [hz]; rfl
        · try simp only [nb] at h3
          refine skip (bN (pN (next (X := (List (SMeterConf × Int)) × (Option (SMeterConf × Int))) (l9 ++ l11, some p10) ⟨?_, ?_⟩ ?_ (by repeat first | exact Sub.nil | refine Sub.cons rfl ?_) (by repeat first | exact sR | exact sN | apply sC | apply sS | apply sA))))
          · try dsimp only
            intro z hz
            rcases hr z hz with h | h
            · rw [hs12] at h
              rcases List.mem_append.1 h with h | h
              · exact .inl (List.mem_append_left _ h)
              · rcases List.mem_cons.1 h with rfl | h
                · exact .inr (by simpa using h3)
                · exact .inl (List.mem_append_right _ h)
            · exact .inr h
          · try dsimp only
            intro z hz
            refine hr2 z ?_
            rw [hs12]
            rcases List.mem_append.1 hz with h | h
            · exact List.mem_append_left _ h
            · exact List.mem_append_right _ (List.mem_cons_of_mem _ h)
          · try dsimp only
            rw [hs12]; simp

theorem alike_59 (u v : Value) (xs ys : List SMirrorConf) (w : World) (hx : IsSl eMirrorConf w u xs) (hy : IsSl eMirrorConf w v ys) (hlx : xs.length ≤ 4611686018427387903) (hly : ys.length ≤ 4611686018427387903) : Calls Tryz.prog 57 #[u, v] w (RetV w (.bool (alikeB SMirrorConf.eqb xs ys))) := by
  have hle := hx.le
  have hle2 := hy.le
  refine enter0 47 Tryz.func57 rfl rfl (Nat.le_of_ble_eq_true rfl) ?_
  refine seq (region (cons (opv (Ev.assign (.c (v := .bool false) rfl)) ?_)))
  refine nil (pN (seq (region (cons (makeMap (E := eMirrorConf) (V := iE) (fun b1 => ?_))))))
  refine cons (opv (Ev.assign (.t rfl)) (nil (pN (seq (seq (region (cons (opv (Ev.move (.t rfl)) (cons (opv (Ev.len Tryz.underlying26 (.t rfl) (by first | exact isSl_own (by repeat first | exact mH | apply mT | apply mA) | exact fun w I => IsSl.keep0 (by assumption) I.keeps)) ?_))))))))))
  refine cons (opv (Ev.move (.c (v := I 0) rfl)) ?_)
  refine nil (pN (block (loop (X := Int) (fun x : Int => (0 ≤ x ∧ x ≤ xs.length)) (fun x : Int => [(1, true, v), (5, true, .map (some b1)), (13, true, u), (14, true, I xs.length), (15, true, I x)]) (fun x : Int => [MapR b1 eMirrorConf iE (incN SMirrorConf.eqb 1 xs [] x.toNat)]) (fun x : Int => ((xs.length : Int) - x).toNat) (0) ?_ (by repeat first | exact Sub.nil | refine Sub.cons rfl ?_) (by repeat first | exact sR | exact sN | apply sC | apply sS | apply sA) (fun x hx => ?_))))
  · omega
  obtain ⟨i, rfl⟩ : ∃ y, y = x := ⟨x, rfl⟩
  have hi : 0 ≤ i ∧ i ≤ xs.length := hx
  clear hx
  show Sat _ _ [(1, true, v), (5, true, .map (some b1)), (13, true, u), (14, true, I xs.length), (15, true, I i)] [MapR b1 eMirrorConf iE (incN SMirrorConf.eqb 1 xs [] i.toNat)]
  refine seq (region (cons (opv (Ev.lss_i (.t rfl) (.t rfl)) ?_)))
  refine nil (pN (seq ?_))
  first | refine condD rfl (fun h0 => ?_) (fun h0 => ?_) | refine cond rfl (fun h0 => ?_) (fun h0 => ?_)
  · try simp only [nb] at h0
    refine skip (pN (seq (block (seq (region (cons (opv (Ev.indexAddr Tryz.underlying26 ty59 (.t rfl) (.t rfl) (fun w I => hx.keep0 I.keeps) (fun _ => by omega)) ?_)))))))
    refine cons (opv (Ev.loadS0 ty59 (.t rfl) (fun w I => hx.keep0 I.keeps) (fun _ => by omega)) ?_)
    refine cons (alloc z59 (fun b2 => ?_))
    refine cons (stv ty59 (Lens.id _) (.t rfl) (.t rfl) ?_)
    refine nil (pN (drawR (.tail .head) (by kernel_rfl) ?_))
    refine tk 0 rfl (Ev.move (.t rfl)) ?_
    refine tk 1 rfl (Ev.ldv ty59 (.t rfl) (Lens.id _)) ?_
    refine all [2, 4] (by kernel_rfl) (by decide) (.cons rfl ?_ (.cons rfl ?_ .nil))
    · refine (opv (Ev.to (v' := I ((findV SMirrorConf.eqb (xs.getD i.toNat eMirrorConf.zero) (incN SMirrorConf.eqb 1 xs [] i.toNat)).getD 0)) (Ev.lookupF Tryz.underlying123 Tryz.underlying59 key59 z3 (.t rfl) (.t rfl) (fun _ => (by first | exact mapAt_own (by repeat first | exact mH | apply mT | apply mA) | exact mapAt_stamp (by repeat first | exact mH | apply mT | apply mA) | exact fun w I => MapAt.keep0 (by assumption) I.keeps))) (by first | rfl | exact congrArg I (put_same SMirrorConf.eqb_iff _ _))) ?_)
      refine hdn (tk 3 rfl (Ev.add_i (.t rfl) (.c (v := I 1) rfl) (fun _ => by have := incN_bd SMirrorConf.eqb_iff xs ys (xs.getD i.toNat eMirrorConf.zero) i.toNat; omega)) ?_)
      refine al1 4 rfl ((mapEntry Tryz.underlying123 Tryz.underlying59 key59 z3 (.t rfl) (.t rfl) (fun _ => by repeat first | exact Upd.head | apply Upd.tail | apply Upd.right) (fun s3 => ?_)))
      refine hdn (tk 5 rfl (Ev.extract (.t rfl) rfl) ?_)
      refine al1 6 rfl ((entryStore (.t rfl) (.t rfl) (.t rfl) (by repeat first | exact Upd.head | apply Upd.tail | apply Upd.right) ?_))
      refine hdn (ovr (bN (pN (region (cons (opv (Ev.add_i (.t rfl) (.c (v := I 1) rfl) (fun _ => by omega)) ?_))))))
      refine cons (opv (Ev.move (.t rfl)) (nil (pN (next (X := Int) (i + 1) ?_ ?_ (by repeat first | exact Sub.nil | refine Sub.cons rfl ?_) (by rw [incN_stepI _ _ _ _ eMirrorConf.zero (by omega)]; exact (by repeat first | exact sR | exact sN | apply sC | apply sS | apply sA))))))
      · try dsimp only
        omega
      · try dsimp only
        first | omega | (simp; omega)
    · refine (mapEntry Tryz.underlying123 Tryz.underlying59 key59 z3 (.t rfl) (.t rfl) (fun _ => by repeat first | exact Upd.head | apply Upd.tail | apply Upd.right) (fun s4 => ?_))
      refine hdn (tk 5 rfl (Ev.extract (.t rfl) rfl) ?_)
      refine al1 2 rfl ((opv (Ev.to (v' := I ((findV SMirrorConf.eqb (xs.getD i.toNat eMirrorConf.zero) (incN SMirrorConf.eqb 1 xs [] i.toNat)).getD 0)) (Ev.lookupF Tryz.underlying123 Tryz.underlying59 key59 z3 (.t rfl) (.t rfl) (fun _ => (by first | exact mapAt_own (by repeat first | exact mH | apply mT | apply mA) | exact mapAt_stamp (by repeat first | exact mH | apply mT | apply mA) | exact fun w I => MapAt.keep0 (by assumption) I.keeps))) (by first | rfl | exact congrArg I (put_same SMirrorConf.eqb_iff _ _))) ?_))
      refine hdn (tk 3 rfl (Ev.add_i (.t rfl) (.c (v := I 1) rfl) (fun _ => by have := incN_bd SMirrorConf.eqb_iff xs ys (xs.getD i.toNat eMirrorConf.zero) i.toNat; omega)) ?_)
      refine al1 6 rfl ((entryStore (.t rfl) (.t rfl) (.t rfl) (by repeat first | exact Upd.head | apply Upd.tail | apply Upd.right) ?_))
      refine hdn (ovr (bN (pN (region (cons (opv (Ev.add_i (.t rfl) (.c (v := I 1) rfl) (fun _ => by omega)) ?_))))))
      refine cons (opv (Ev.move (.t rfl)) (nil (pN (next (X := Int) (i + 1) ?_ ?_ (by repeat first | exact Sub.nil | refine Sub.cons rfl ?_) (by rw [incN_stepI _ _ _ _ eMirrorConf.zero (by omega)]; exact (by repeat first | exact sR | exact sN | apply sC | apply sS | apply sA))))))
      · try dsimp only
        omega
      · try dsimp only
        first | omega | (simp; omega)
  · try simp only [nb] at h0
    refine exit (pX (pX (bX (pN (seq (seq (region ?_)))))))
    have hil : i.toNat = xs.length := by omega
    rw [hil]
    refine cons (opv (Ev.move (.t rfl)) (cons (opv (Ev.len Tryz.underlying26 (.t rfl) (fun w I => hy.keep0 I.keeps)) ?_)))
    refine cons (opv (Ev.move (.c (v := I 0) rfl)) ?_)
    refine nil (pN (block (loop (X := Int) (fun x : Int => (0 ≤ x ∧ x ≤ ys.length)) (fun x : Int => [(5, true, .map (some b1)), (26, true, v), (27, true, I ys.length), (28, true, I x)]) (fun x : Int => [MapR b1 eMirrorConf iE (incN SMirrorConf.eqb (-1) ys (incN SMirrorConf.eqb 1 xs [] xs.length) x.toNat)]) (fun x : Int => ((ys.length : Int) - x).toNat) (0) ?_ (by repeat first | exact Sub.nil | refine Sub.cons rfl ?_) (by repeat first | exact sR | exact sN | apply sC | apply sS | apply sA) (fun x hx => ?_))))
    · omega
    obtain ⟨k, rfl⟩ : ∃ y, y = x := ⟨x, rfl⟩
    have hk : 0 ≤ k ∧ k ≤ ys.length := hx
    clear hx
    show Sat _ _ [(5, true, .map (some b1)), (26, true, v), (27, true, I ys.length), (28, true, I k)] [MapR b1 eMirrorConf iE (incN SMirrorConf.eqb (-1) ys (incN SMirrorConf.eqb 1 xs [] xs.length) k.toNat)]
    refine seq (region (cons (opv (Ev.lss_i (.t rfl) (.t rfl)) ?_)))
    refine nil (pN (seq ?_))
    first | refine condD rfl (fun h1 => ?_) (fun h1 => ?_) | refine cond rfl (fun h1 => ?_) (fun h1 => ?_)
    · try simp only [nb] at h1
      refine skip (pN (seq (block (seq (region (cons (opv (Ev.indexAddr Tryz.underlying26 ty59 (.t rfl) (.t rfl) (fun w I => hy.keep0 I.keeps) (fun _ => by omega)) ?_)))))))
      refine cons (opv (Ev.loadS0 ty59 (.t rfl) (fun w I => hy.keep0 I.keeps) (fun _ => by omega)) ?_)
      refine cons (alloc z59 (fun b5 => ?_))
      refine cons (stv ty59 (Lens.id _) (.t rfl) (.t rfl) ?_)
      refine nil (pN (drawR (.tail .head) (by kernel_rfl) ?_))
      refine tk 0 rfl (Ev.move (.t rfl)) ?_
      refine tk 1 rfl (Ev.ldv ty59 (.t rfl) (Lens.id _)) ?_
      refine all [2, 4] (by kernel_rfl) (by decide) (.cons rfl ?_ (.cons rfl ?_ .nil))
      · refine (opv (Ev.to (v' := I ((findV SMirrorConf.eqb (ys.getD k.toNat eMirrorConf.zero) (incN SMirrorConf.eqb (-1) ys (incN SMirrorConf.eqb 1 xs [] xs.length) k.toNat)).getD 0)) (Ev.lookupF Tryz.underlying123 Tryz.underlying59 key59 z3 (.t rfl) (.t rfl) (fun _ => (by first | exact mapAt_own (by repeat first | exact mH | apply mT | apply mA) | exact mapAt_stamp (by repeat first | exact mH | apply mT | apply mA) | exact fun w I => MapAt.keep0 (by assumption) I.keeps))) (by first | rfl | exact congrArg I (put_same SMirrorConf.eqb_iff _ _))) ?_)
        refine hdn (tk 3 rfl (Ev.sub_i (.t rfl) (.c (v := I 1) rfl) (fun _ => by have := incN_bd SMirrorConf.eqb_iff xs ys (ys.getD k.toNat eMirrorConf.zero) k.toNat; have := incN_bd SMirrorConf.eqb_iff xs ys (ys.getD k.toNat eMirrorConf.zero) xs.length; omega)) ?_)
        refine al1 4 rfl ((mapEntry Tryz.underlying123 Tryz.underlying59 key59 z3 (.t rfl) (.t rfl) (fun _ => by repeat first | exact Upd.head | apply Upd.tail | apply Upd.right) (fun s6 => ?_)))
        refine hdn (tk 5 rfl (Ev.extract (.t rfl) rfl) ?_)
        refine al1 6 rfl ((entryStore (.t rfl) (.t rfl) (.t rfl) (by repeat first | exact Upd.head | apply Upd.tail | apply Upd.right) ?_))
        refine hdn (ovr (bN (pN (region (cons (opv (Ev.add_i (.t rfl) (.c (v := I 1) rfl) (fun _ => by omega)) ?_))))))
        refine cons (opv (Ev.move (.t rfl)) (nil (pN (next (X := Int) (k + 1) ?_ ?_ (by repeat first | exact Sub.nil | refine Sub.cons rfl ?_) (by rw [incN_stepI _ _ _ _ eMirrorConf.zero (by omega)]; exact (by repeat first | exact sR | exact sN | apply sC | apply sS | apply sA))))))
        · try dsimp only
          omega
        · try dsimp only
          first | omega | (simp; omega)
      · refine (mapEntry Tryz.underlying123 Tryz.underlying59 key59 z3 (.t rfl) (.t rfl) (fun _ => by repeat first | exact Upd.head | apply Upd.tail | apply Upd.right) (fun s7 => ?_))
        refine hdn (tk 5 rfl (Ev.extract (.t rfl) rfl) ?_)
        refine al1 2 rfl ((opv (Ev.to (v' := I ((findV SMirrorConf.eqb (ys.getD k.toNat eMirrorConf.zero) (incN SMirrorConf.eqb (-1) ys (incN SMirrorConf.eqb 1 xs [] xs.length) k.toNat)).getD 0)) (Ev.lookupF Tryz.underlying123 Tryz.underlying59 key59 z3 (.t rfl) (.t rfl) (fun _ => (by first | exact mapAt_own (by repeat first | exact mH | apply mT | apply mA) | exact mapAt_stamp (by repeat first | exact mH | apply mT | apply mA) | exact fun w I => MapAt.keep0 (by assumption) I.keeps))) (by first | rfl | exact congrArg I (put_same SMirrorConf.eqb_iff _ _))) ?_))
        refine hdn (tk 3 rfl (Ev.sub_i (.t rfl) (.c (v := I 1) rfl) (fun _ => by have := incN_bd SMirrorConf.eqb_iff xs ys (ys.getD k.toNat eMirrorConf.zero) k.toNat; have := incN_bd SMirrorConf.eqb_iff xs ys (ys.getD k.toNat eMirrorConf.zero) xs.length; omega)) ?_)
        refine al1 6 rfl ((entryStore (.t rfl) (.t rfl) (.t rfl) (by repeat first | exact Upd.head | apply Upd.tail | apply Upd.right) ?_))
        refine hdn (ovr (bN (pN (region (cons (opv (Ev.add_i (.t rfl) (.c (v := I 1) rfl) (fun _ => by omega)) ?_))))))
        refine cons (opv (Ev.move (.t rfl)) (nil (pN (next (X := Int) (k + 1) ?_ ?_ (by repeat first | exact Sub.nil | refine Sub.cons rfl ?_) (by rw [incN_stepI _ _ _ _ eMirrorConf.zero (by omega)]; exact (by repeat first | exact sR | exact sN | apply sC | apply sS | apply sA))))))
        · try dsimp only
          omega
        · try dsimp only
          first | omega | (simp; omega)
    · try simp only [nb] at h1
      refine exit (pX (pX (bX (pN (seq (seq (region ?_)))))))
      have hkl : k.toNat = ys.length := by omega
      rw [hkl]
      show Sat _ _ _ [MapR b1 eMirrorConf iE (alikeM SMirrorConf.eqb xs ys)]
      refine cons (opv (Ev.move (.t rfl)) (cons (startRange Tryz.underlying123 (.t rfl) (fun _ => by repeat first | exact Upd.head | apply Upd.tail | apply Upd.right) (fun r8 => ?_))))
      refine nil (pN (block (loop (X := (List (SMirrorConf × Int)) × (Option (SMirrorConf × Int))) (fun x : (List (SMirrorConf × Int)) × (Option (SMirrorConf × Int)) => (∀ z ∈ alikeM SMirrorConf.eqb xs ys, z ∈ x.1 ∨ z.2 = 0) ∧ (∀ z ∈ x.1, z ∈ alikeM SMirrorConf.eqb xs ys)) (fun x : (List (SMirrorConf × Int)) × (Option (SMirrorConf × Int)) => [(40, true, .pointer (some ⟨r8, 0, none⟩))]) (fun x : (List (SMirrorConf × Int)) × (Option (SMirrorConf × Int)) => [RangeR r8 b1 eMirrorConf iE (alikeM SMirrorConf.eqb xs ys) x.1 x.2]) (fun x : (List (SMirrorConf × Int)) × (Option (SMirrorConf × Int)) => x.1.length) (alikeM SMirrorConf.eqb xs ys, none) ⟨?_, ?_⟩ (by repeat first | exact Sub.nil | refine Sub.cons rfl ?_) (by repeat first | exact sR | exact sN | apply sC | apply sS | apply sA) (fun x hx => ?_))))
      · exact fun z hz => .inl hz
      · exact fun z hz => hz
      obtain ⟨rem, cur⟩ := x
      obtain ⟨hr, hr2⟩ : (∀ z ∈ alikeM SMirrorConf.eqb xs ys, z ∈ rem ∨ z.2 = 0) ∧ (∀ z ∈ rem, z ∈ alikeM SMirrorConf.eqb xs ys) := hx
      show Sat _ _ [(40, true, .pointer (some ⟨r8, 0, none⟩))] [RangeR r8 b1 eMirrorConf iE (alikeM SMirrorConf.eqb xs ys) rem cur]
      refine seq (region (cons (nextRange (.t rfl) (fun _ => by repeat first | exact Upd.head | apply Upd.tail | apply Upd.right) (fun hs12 => ?_) (fun l9 p10 l11 hs12 => ?_))))
      · refine cons (opv (Ev.extract (.t rfl) rfl) (nil (pN (seq (condF rfl (rfl) ?_)))))
        refine exit (pX (pX (bX (pN (seq (region (cons (opv (Ev.assign (.c (v := .bool true) rfl)) ?_))))))))
        refine nil (pN (ret (done rfl (.tmp rfl .nil) (retE ?_))))
        have hz : alikeB SMirrorConf.eqb xs ys = true := by
          refine List.all_eq_true.2 fun z hz => ?_
          rcases hr z hz with h | h
          · rw [hs12] at h; cases h
          · simpa using h
        rw [hz]; rfl
      · refine cons (opv (Ev.extract (.t rfl) rfl) (nil (pN (seq (condT rfl (rfl) ?_)))))
        refine skip (pN (block (seq (region (cons (opv (Ev.entry (.t rfl) (by repeat first | exact mH | apply mT | apply mA)) ?_))))))
        refine cons (opv (Ev.extract (.t rfl) rfl) (cons (opv (Ev.assign (.t rfl)) (nil (pN (seq (region (cons (opv (Ev.move (.t rfl)) (cons (opv (Ev.neq_i (.t rfl) (.c (v := I 0) rfl)) ?_)))))))))))
        refine nil (pN ?_)
        first | refine condD rfl (fun h3 => ?_) (fun h3 => ?_) | refine cond rfl (fun h3 => ?_) (fun h3 => ?_)
        · try simp only [nb] at h3
          refine seq (region (cons (opv (Ev.assign (.c (v := .bool false) rfl)) ?_)))
          refine nil (pN (ret (bR (pR (bR (pR (done rfl (.tmp rfl .nil) (retE ?_))))))))
          have hz : alikeB SMirrorConf.eqb xs ys = false := by
            refine List.all_eq_false.2 ⟨p10, hr2 _ (by rw [hs12]; simp), ?_⟩
            simpa using h3
          rw [hz]; rfl
        · try simp only [nb] at h3
          refine skip (bN (pN (next (X := (List (SMirrorConf × Int)) × (Option (SMirrorConf × Int))) (l9 ++ l11, some p10) ⟨?_, ?_⟩ ?_ (by repeat first | exact Sub.nil | refine Sub.cons rfl ?_) (by repeat first | exact sR | exact sN | apply sC | apply sS | apply sA))))
          · try dsimp only
            intro z hz
            rcases hr z hz with h | h
            · rw [hs12] at h
              rcases List.mem_append.1 h with h | h
              · exact .inl (List.mem_append_left _ h)
              · rcases List.mem_cons.1 h with rfl | h
                · exact .inr (by simpa using h3)
                · exact .inl (List.mem_append_right _ h)
            · exact .inr h
          · try dsimp only
            intro z hz
            refine hr2 z ?_
            rw [hs12]
            rcases List.mem_append.1 hz with h | h
            · exact List.mem_append_left _ h
            · exact List.mem_append_right _ (List.mem_cons_of_mem _ h)
          · try dsimp only
            rw [hs12]; simp
end Go.Proofs.YtnoobdijbpmjkaaGreat
