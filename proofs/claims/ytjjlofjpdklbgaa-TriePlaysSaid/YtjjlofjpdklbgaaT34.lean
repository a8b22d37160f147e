/- trie -/
import Derived.Test.YtjjlofjpdklbgaaT31
set_option linter.unusedVariables false
set_option linter.unusedSimpArgs false
namespace Go.Proofs.Ytjjlofjpdklbgaa
open Go Go.Gx

/-- What the reference hands back: a row, wherever it lies. -/
def RJ (E : Int) (new : List SRef18Entry) (x : OV × List Res) : Prop := E = 0 → ∀ w1, (∀ r ∈ x.2, r.A w1) → IsSl eRef18Entry w1 x.1.v new
def refL (rs : List SRoute) : List SRef18Entry := rs.foldl (fun l r => insK (fun e : SRef18Entry => e.p) l ⟨r.to_, r.out⟩) []
theorem refL_snoc (rs : List SRoute) (r : SRoute) : refL (rs ++ [r]) = insK (fun e : SRef18Entry => e.p) (refL rs) ⟨r.to_, r.out⟩ := by
  unfold refL
  rw [List.foldl_append]
  rfl
def rgetV (ls : List SRef18Entry) (p : SPrefix) : Int × Bool := if isAt (fun e : SRef18Entry => e.p) ls p = true then ((ls.getD (placeN (fun e : SRef18Entry => e.p) ls p) eRef18Entry.zero).v, true) else (0, false)
def rcutE (ls : List SRef18Entry) (p : SPrefix) : Int := if checkP p ≠ 0 then 151 else if isAt (fun e : SRef18Entry => e.p) ls p = true then 0 else 5
def rcutL (ls : List SRef18Entry) (p : SPrefix) : List SRef18Entry := ls.take (placeN (fun e : SRef18Entry => e.p) ls p) ++ ls.drop (placeN (fun e : SRef18Entry => e.p) ls p + 1)
theorem rcut_eq (ls : List SRef18Entry) (p : SPrefix) : rcutL ls p = [] ++ List.drop 0 (List.take ((placeN (fun e : SRef18Entry => e.p) ls p : Nat) : Int).toNat ls) ++ List.drop (((placeN (fun e : SRef18Entry => e.p) ls p : Nat) : Int) + 1).toNat (List.take ls.length ls) := by
  have e : (((placeN (fun e : SRef18Entry => e.p) ls p : Nat) : Int) + 1).toNat = placeN (fun e : SRef18Entry => e.p) ls p + 1 := by omega
  rw [e, List.take_length]
  unfold rcutL
  simp

theorem rget_ok (tr : SRef18Trie) (ls : List SRef18Entry) (p : SPrefix) (w : World) (hx : IsSl eRef18Entry w tr.l.v ls) : Calls Try.prog 48 #[eRef18Trie.val tr, ePrefix.val p] w (RetV w (.tuple #[I (rgetV ls p).1, .bool (rgetV ls p).2])) := by
  refine enter0 22 Try.func48 rfl rfl (Nat.le_of_ble_eq_true rfl) ?_
  refine seq (region (cons (box (E := eRef18Trie) (.t rfl) (fun b1 => ?_))))
  refine cons (box (E := ePrefix) (.t rfl) (fun b2 => ?_))
  refine cons (opv (Ev.assign (.c (v := I 0) rfl)) ?_)
  refine cons (opv (Ev.assign (.c (v := .bool false) rfl)) ?_)
  refine nil (pN (seq (region (cons (opv (Ev.ldx tr ty64 (.t rfl) (Lens.id _)) ?_)))))
  refine cons (opv (Ev.ldx p ty36 (.t rfl) (Lens.id _)) ?_)
  refine cons (callv en47 (.cons (.t rfl) (.cons (.t rfl) .nil)) (fun w I => place_ok tr ls p w (hx.keep0 I.keeps)) ?_)
  refine cons (opv (Ev.move (.t rfl)) (cons (opv (Ev.extract (.t rfl) rfl) (cons (opv (Ev.extract (.t rfl) rfl) (cons (opv (Ev.assign (.t rfl)) (cons (opv (Ev.assign (.t rfl)) (nil (pN (seq (seq (region (cons (opv (Ev.move (.t rfl)) (cons (opv (Ev.not (.t rfl)) ?_))))))))))))))))))
  refine nil (pN ?_)
  first | refine condD rfl (fun h0 => ?_) (fun h0 => ?_) | refine cond rfl (fun h0 => ?_) (fun h0 => ?_)
  · refine seq (region (cons (opv (Ev.assign (.c (v := I 0) rfl)) ?_)))
    refine cons (opv (Ev.assign (.c (v := .bool false) rfl)) ?_)
    refine nil (pN (ret (pR (done rfl (.tmp rfl (.tmp rfl .nil)) (retE ?_)))))
    have hat : ¬ isAt (fun e : SRef18Entry => e.p) ls p = true := by simpa using h0
    unfold rgetV; rw [if_neg hat]; rfl
  · refine skip (pN (seq ?_))
    have hat : isAt (fun e : SRef18Entry => e.p) ls p = true := by simpa using h0
    have hlt := place_lt hat
    refine region (cons (opv (Ev.fieldAddr (o := 0) (.t rfl) (by kernel_rfl)) ?_))
    refine cons (opv (Ev.ldx tr.l ty53 (.t rfl) SRef18Trie.l_l) ?_)
    refine cons (opv (Ev.move (.t rfl)) (cons (opv (Ev.indexAddr Try.underlying53 ty97 (.t rfl) (.t rfl) (fun w I => hx.keep0 I.keeps) (fun _ => by omega)) ?_)))
    refine cons (opv (Ev.fieldAddrS (o := 18) (i := ((placeN (fun e : SRef18Entry => e.p) ls p : Nat) : Int)) (.t rfl) (fun w I => hx.keep0 I.keeps) (fun _ => by omega) (by kernel_rfl)) ?_)
    refine cons (opv (Ev.loadS ty3 SRef18Entry.l_v rfl (.t rfl) (fun w I => hx.keep0 I.keeps) (fun _ => by omega)) ?_)
    refine cons (opv (Ev.assign (.t rfl)) (cons (opv (Ev.assign (.c (v := .bool true) rfl)) ?_)))
    refine nil (pN (ret (done rfl (.tmp rfl (.tmp rfl .nil)) (retE ?_))))
    unfold rgetV; rw [if_pos hat]; rfl

theorem en46 : Gx.Enters Try.prog 46 := Gx.Enters.mk' (by kernel_rfl)

theorem rput_ok (tr : SRef18Trie) (ls : List SRef18Entry) (p : SPrefix) (n : Int) (w : World) (hx : IsSl eRef18Entry w tr.l.v ls) (hn : ls.length ≤ 1000000) : Calls Try.prog 25 #[eRef18Trie.val tr, ePrefix.val p, I n] w (RetN w (RJ (checkP p) (insK (fun e : SRef18Entry => e.p) ls ⟨p, n⟩)) (fun x : OV × List Res => .tuple #[eRef18Trie.val ⟨x.1⟩, I (checkP p)]) (fun x => x.2)) := by
  refine enter0 17 Try.func25 rfl rfl (Nat.le_of_ble_eq_true rfl) ?_
  refine seq (region (cons (box (E := eRef18Trie) (.t rfl) (fun b1 => ?_))))
  refine cons (box (E := ePrefix) (.t rfl) (fun b2 => ?_))
  refine cons (alloc z64 (fun b3 => ?_))
  refine cons (opv (Ev.assign (.c (v := I 0) rfl)) ?_)
  refine nil (pN (seq (seq (region (cons (opv (Ev.ldx p ty36 (.t rfl) (Lens.id _)) ?_))))))
  refine cons (callv en45 (.cons (.t rfl) .nil) (fun w I => r15check_ok _ w) ?_)
  refine cons (opv (Ev.neq_i (.t rfl) (.c (v := I 0) rfl)) ?_)
  refine nil (pN ?_)
  first | refine condD rfl (fun h0 => ?_) (fun h0 => ?_) | refine cond rfl (fun h0 => ?_) (fun h0 => ?_)
  · refine seq (region (cons (opv (Ev.ldx tr ty64 (.t rfl) (Lens.id _)) ?_)))
    refine cons (stv ty64 (Lens.id _) (.t rfl) (.t rfl) ?_)
    refine cons (opv (Ev.assign (.c (v := I 151) rfl)) ?_)
    refine nil (pN (ret (pR (done rfl (.cell rfl (fun w I => run_loadVar_pts ty64 (ptsVar (by repeat first | exact mH | apply mT | apply mA) (Lens.id _) w I)) (.tmp rfl .nil)) (fun w I => ?_)))))
    have hne : ¬ checkP p = 0 := by simpa using h0
    exact retNP (tr.l, []) (fun h => absurd h hne) (by show _ = Value.tuple #[eRef18Trie.val ⟨tr.l⟩, Gx.I (checkP p)]; rw [(checkP_or p).resolve_left hne]; rfl) SubP.nil w I
  · refine skip (pN (seq (region (cons (opv (Ev.ldx tr ty64 (.t rfl) (Lens.id _)) ?_)))))
    refine cons (opv (Ev.ldx p ty36 (.t rfl) (Lens.id _)) ?_)
    refine cons (opv (Ev.move (.t rfl)) (cons (opv (Ev.buildS (fs := _) (places := [(0, 18), (18, 1)]) z97 rfl Try.underlying97 (by kernel_rfl) (.cons (.t rfl) (.cons (.t rfl) .nil)) (Fills.cons SRef18Entry.l_p rfl (Fills.cons SRef18Entry.l_v rfl Fills.nil))) ?_)))
    refine cons (calln (X := OV) (fun _ => True) (fun o => eRef18Trie.val ⟨o⟩) (fun o => [OwnS o.v eRef18Entry (insK (fun e : SRef18Entry => e.p) ls ⟨p, n⟩) 97]) en46 (.cons (.t rfl) (.cons (.t rfl) .nil)) (fun w I => withE_ok tr ls ⟨p, n⟩ w (hx.keep0 I.keeps) hn) (fun o1 _ => ?_))
    refine cons (stv ty64 (Lens.id _) (.t rfl) (.t rfl) ?_)
    refine cons (opv (Ev.assign (.c (v := I 0) rfl)) ?_)
    refine nil (pN (ret (done rfl (.cell rfl (fun w I => run_loadVar_pts ty64 (ptsVar (by repeat first | exact mH | apply mT | apply mA) (Lens.id _) w I)) (.tmp rfl .nil)) (fun w I => ?_))))
    have he : checkP p = 0 := by simpa using h0
    exact retNP (o1, [OwnS o1.v eRef18Entry (insK (fun e : SRef18Entry => e.p) ls ⟨p, n⟩) 97]) (fun _ w1 h => IsSl.of_own (h _ List.mem_cons_self)) (by show _ = Value.tuple #[eRef18Trie.val ⟨o1⟩, Gx.I (checkP p)]; rw [he]; rfl) (by repeat first | exact SubP.nil | refine SubP.cons (by repeat first | exact Rem.head | apply Rem.tail) ?_) w I

theorem rcut_ok (tr : SRef18Trie) (ls : List SRef18Entry) (p : SPrefix) (w : World) (hx : IsSl eRef18Entry w tr.l.v ls) (hn : ls.length ≤ 1000000) : Calls Try.prog 26 #[eRef18Trie.val tr, ePrefix.val p] w (RetN w (RJ (rcutE ls p) (rcutL ls p)) (fun x : OV × List Res => .tuple #[eRef18Trie.val ⟨x.1⟩, I (rcutE ls p)]) (fun x => x.2)) := by
  refine enter0 36 Try.func26 rfl rfl (Nat.le_of_ble_eq_true rfl) ?_
  refine seq (region (cons (box (E := eRef18Trie) (.t rfl) (fun b1 => ?_))))
  refine cons (box (E := ePrefix) (.t rfl) (fun b2 => ?_))
  refine cons (alloc z64 (fun b3 => ?_))
  refine cons (opv (Ev.assign (.c (v := I 0) rfl)) ?_)
  refine nil (pN (seq (seq (region (cons (opv (Ev.ldx p ty36 (.t rfl) (Lens.id _)) ?_))))))
  refine cons (callv en45 (.cons (.t rfl) .nil) (fun w I => r15check_ok _ w) ?_)
  refine cons (opv (Ev.neq_i (.t rfl) (.c (v := I 0) rfl)) ?_)
  refine nil (pN ?_)
  first | refine condD rfl (fun h0 => ?_) (fun h0 => ?_) | refine cond rfl (fun h0 => ?_) (fun h0 => ?_)
  · refine seq (region (cons (opv (Ev.ldx tr ty64 (.t rfl) (Lens.id _)) ?_)))
    refine cons (stv ty64 (Lens.id _) (.t rfl) (.t rfl) ?_)
    refine cons (opv (Ev.assign (.c (v := I 151) rfl)) ?_)
    refine nil (pN (ret (pR (done rfl (.cell rfl (fun w I => run_loadVar_pts ty64 (ptsVar (by repeat first | exact mH | apply mT | apply mA) (Lens.id _) w I)) (.tmp rfl .nil)) (fun w I => ?_)))))
    have hne : ¬ checkP p = 0 := by simpa using h0
    have he : rcutE ls p = 151 := by unfold rcutE; rw [if_pos hne]
    exact retNP (tr.l, []) (fun h => by rw [he] at h; cases h) (by show _ = Value.tuple #[eRef18Trie.val ⟨tr.l⟩, Gx.I (rcutE ls p)]; rw [he]; rfl) SubP.nil w I
  · refine skip (pN (seq ?_))
    have hpl := place_le (fun e : SRef18Entry => e.p) p ls
    refine region (cons (opv (Ev.ldx tr ty64 (.t rfl) (Lens.id _)) ?_))
    refine cons (opv (Ev.ldx p ty36 (.t rfl) (Lens.id _)) ?_)
    refine cons (callv en47 (.cons (.t rfl) (.cons (.t rfl) .nil)) (fun w I => place_ok tr ls p w (hx.keep0 I.keeps)) ?_)
    refine cons (opv (Ev.move (.t rfl)) (cons (opv (Ev.extract (.t rfl) rfl) (cons (opv (Ev.extract (.t rfl) rfl) (cons (opv (Ev.assign (.t rfl)) (cons (opv (Ev.assign (.t rfl)) (nil (pN (seq (seq (region (cons (opv (Ev.move (.t rfl)) (cons (opv (Ev.not (.t rfl)) ?_))))))))))))))))))
    refine nil (pN ?_)
    first | refine condD rfl (fun h1 => ?_) (fun h1 => ?_) | refine cond rfl (fun h1 => ?_) (fun h1 => ?_)
    · refine seq (region (cons (opv (Ev.ldx tr ty64 (.t rfl) (Lens.id _)) ?_)))
      refine cons (stv ty64 (Lens.id _) (.t rfl) (.t rfl) ?_)
      refine cons (opv (Ev.assign (.c (v := I 5) rfl)) ?_)
      refine nil (pN (ret (pR (done rfl (.cell rfl (fun w I => run_loadVar_pts ty64 (ptsVar (by repeat first | exact mH | apply mT | apply mA) (Lens.id _) w I)) (.tmp rfl .nil)) (fun w I => ?_)))))
      have hat : ¬ isAt (fun e : SRef18Entry => e.p) ls p = true := by simpa using h1
      have hne : ¬ checkP p ≠ 0 := by simpa using h0
      have he : rcutE ls p = 5 := by unfold rcutE; rw [if_neg hne, if_neg hat]
      exact retNP (tr.l, []) (fun h => by rw [he] at h; cases h) (by show _ = Value.tuple #[eRef18Trie.val ⟨tr.l⟩, Gx.I (rcutE ls p)]; rw [he]; rfl) SubP.nil w I
    · refine skip (pN (seq ?_))
      have hat : isAt (fun e : SRef18Entry => e.p) ls p = true := by simpa using h1
      have hlt := place_lt hat
      refine region (cons (opv (Ev.assign (.c (v := (Go.Value.slice none 0 0)) rfl)) ?_))
      refine takeNil eRef18Entry 97 ?_
      refine nil (pN (seq (region (cons (opv (Ev.move (.t rfl)) (cons (opv (Ev.fieldAddr (o := 0) (.t rfl) (by kernel_rfl)) ?_)))))))
      refine cons (opv (Ev.ldx tr.l ty53 (.t rfl) SRef18Trie.l_l) ?_)
      refine cons (opv (Ev.move (.t rfl)) (cons (opv (Ev.sliceH Try.underlying53 ty97 (.t rfl) (.t rfl) (fun w I => hx.keep0 I.keeps) (fun _ => by omega)) ?_)))
      refine cons (app (E := eRef18Entry) Try.underlying53 ty97 zb97 zs97 (.t rfl) (.t rfl) (fun v4 => ?_) (hsrc := (fun w I => IsSl.sub (w := w) (hx.keep0 I.keeps) (by omega) (by omega))) (hby := ⟨by (show _ ≤ 9223372036854775807); first | omega | (simp; done) | (simp; omega), by first | omega | (simp; done) | (simp; omega)⟩))
      refine cons (opv (Ev.assign (.t rfl)) (nil (pN (seq (region (cons (opv (Ev.move (.t rfl)) (cons (opv (Ev.fieldAddr (o := 0) (.t rfl) (by kernel_rfl)) ?_)))))))))
      refine cons (opv (Ev.ldx tr.l ty53 (.t rfl) SRef18Trie.l_l) ?_)
      refine cons (opv (Ev.move (.t rfl)) (cons (opv (Ev.add_i (.t rfl) (.c (v := I 1) rfl) (fun _ => by omega)) ?_)))
      refine cons (opv (Ev.sliceL Try.underlying53 ty97 (.t rfl) (.t rfl) (fun w I => hx.keep0 I.keeps) (fun _ => by omega)) ?_)
      refine cons (app (E := eRef18Entry) Try.underlying53 ty97 zb97 zs97 (.t rfl) (.t rfl) (fun v5 => ?_) (hsrc := (fun w I => IsSl.sub (w := w) (hx.keep0 I.keeps) (by omega) (by omega))) (hby := ⟨by (show _ ≤ 9223372036854775807); first | omega | (simp; done) | (simp; omega), by first | omega | (simp; done) | (simp; omega)⟩))
      refine cons (opv (Ev.buildS (fs := _) (places := [(0, 1)]) z64 rfl Try.underlying64 (by kernel_rfl) (.cons (.t rfl) .nil) (Fills.cons SRef18Trie.l_l rfl Fills.nil)) ?_)
      refine cons (stv ty64 (Lens.id _) (.t rfl) (.t rfl) ?_)
      refine cons (opv (Ev.assign (.c (v := I 0) rfl)) ?_)
      refine nil (pN (ret (done rfl (.cell rfl (fun w I => run_loadVar_pts ty64 (ptsVar (by repeat first | exact mH | apply mT | apply mA) (Lens.id _) w I)) (.tmp rfl .nil)) (fun w I => ?_))))
      have hne : ¬ checkP p ≠ 0 := by simpa using h0
      have he : rcutE ls p = 0 := by unfold rcutE; rw [if_neg hne, if_pos hat]
      refine retNP (v5, [OwnS v5.v eRef18Entry (rcutL ls p) 97]) (fun _ w1 h => IsSl.of_own (h _ List.mem_cons_self)) (by show _ = Value.tuple #[eRef18Trie.val ⟨v5⟩, Gx.I (rcutE ls p)]; rw [he]; rfl) ?_ w I
      show SubP [OwnS v5.v eRef18Entry (rcutL ls p) 97] _
      rw [rcut_eq]
      exact (by repeat first | exact SubP.nil | refine SubP.cons (by repeat first | exact Rem.head | apply Rem.tail) ?_)
end Go.Proofs.Ytjjlofjpdklbgaa
/- trie -/
set_option linter.unusedVariables false
set_option linter.unusedSimpArgs false
namespace Go.Proofs.Ytjjlofjpdklbgaa
open Go Go.Gx

theorem rof_ok (u : Value) (rs : List SRoute) (w : World) (hs : IsSl eRoute w u rs) (hn : rs.length ≤ 1000) : Calls Try.prog 24 #[u] w (RetN w (RJ (ofR rs) (refL rs)) (fun x : OV × List Res => .tuple #[eRef18Trie.val ⟨x.1⟩, I (ofR rs)]) (fun x => x.2)) := by
  refine enter0 34 Try.func24 rfl rfl (Nat.le_of_ble_eq_true rfl) ?_
  refine seq (region (cons (alloc z64 (fun b1 => ?_))))
  refine cons (opv (Ev.assign (.c (v := I 0) rfl)) ?_)
  refine nil (pN (seq (region (cons (alloc z64 (fun b2 => ?_))))))
  refine nil (pN (seq (seq (takeNil eRef18Entry 97 ?_))))
  refine region (cons (opv (Ev.assign (.c (v := I 0) rfl)) ?_))
  refine nil (pN (block (lp (X := Int × OV × (List SRef18Entry)) (fun x : Int × OV × (List SRef18Entry) => (0 ≤ x.1 ∧ x.1 ≤ rs.length) ∧ (∀ j : Nat, j < x.1 → checkP (rs.getD j eRoute.zero).to_ = 0) ∧ (x.2.2 = refL (rs.take x.1.toNat)) ∧ ((x.2.2.length : Int) ≤ x.1)) (fun x : Int × OV × (List SRef18Entry) => [dz, (0, true, u), (2, true, .pointer (some ⟨b1, 0, none⟩)), (3, true, I 0), (4, true, .pointer (some ⟨b2, 0, none⟩)), (5, true, I x.1)]) (fun x : Int × OV × (List SRef18Entry) => [OwnS x.2.1.v eRef18Entry x.2.2 97, Var b2 eRef18Trie ⟨x.2.1⟩ 64, Var b1 eRef18Trie eRef18Trie.zero 64]) (fun x : Int × OV × (List SRef18Entry) => ((rs.length : Int) - x.1).toNat) (0, nilSl, []) ⟨?_, ?_, ?_, ?_⟩ (fun x hx => ?_))))
  · omega
  · intro j h; omega
  · rfl
  · exact Int.le_refl 0
  obtain ⟨i, o, ls⟩ := x
  obtain ⟨hi, hq, hl, hln⟩ : (0 ≤ i ∧ i ≤ rs.length) ∧ (∀ j : Nat, j < i → checkP (rs.getD j eRoute.zero).to_ = 0) ∧ (ls = refL (rs.take i.toNat)) ∧ ((ls.length : Int) ≤ i) := hx
  show Sat _ _ [dz, (0, true, u), (2, true, .pointer (some ⟨b1, 0, none⟩)), (3, true, I 0), (4, true, .pointer (some ⟨b2, 0, none⟩)), (5, true, I i)] [OwnS o.v eRef18Entry ls 97, Var b2 eRef18Trie ⟨o⟩ 64, Var b1 eRef18Trie eRef18Trie.zero 64]
  refine seq (seq (region (cons (opv (Ev.move (.t rfl)) (cons (opv (Ev.move (.t rfl)) (cons (opv (Ev.len Try.underlying22 (.t rfl) (fun w I => hs.keep0 I.keeps)) ?_))))))))
  refine cons (opv (Ev.lss_i (.t rfl) (.t rfl)) ?_)
  refine nil (pN ?_)
  first | refine condD rfl (fun h0 => ?_) (fun h0 => ?_) | refine cond rfl (fun h0 => ?_) (fun h0 => ?_)
  · try simp only [Gx.nb] at h0
    refine skip (pN (seq (block (seq (seq (region (cons (opv (Ev.move (.t rfl)) (cons (opv (Ev.move (.t rfl)) (cons (opv (Ev.indexAddr Try.underlying22 ty38 (.t rfl) (.t rfl) (fun w I => hs.keep0 I.keeps) (fun _ => by omega)) ?_))))))))))))
    refine cons (opv (Ev.fieldAddrS (o := 0) (i := i) (.t rfl) (fun w I => hs.keep0 I.keeps) (fun _ => by omega) (by kernel_rfl)) ?_)
    refine cons (opv (Ev.loadS ty36 SRoute.l_to_ rfl (.t rfl) (fun w I => hs.keep0 I.keeps) (fun _ => by omega)) ?_)
    refine cons (callv en45 (.cons (.t rfl) .nil) (fun w I => r15check_ok _ w) ?_)
    refine cons (opv (Ev.neq_i (.t rfl) (.c (v := I 0) rfl)) ?_)
    refine nil (pN ?_)
    first | refine condD rfl (fun h1 => ?_) (fun h1 => ?_) | refine cond rfl (fun h1 => ?_) (fun h1 => ?_)
    · refine seq (region (cons (opv (Ev.buildS (fs := _) (places := [(0, 1)]) z64 rfl Try.underlying64 (by kernel_rfl) .nil Fills.nil) ?_)))
      refine cons (stv ty64 (Lens.id _) (.t rfl) (.t rfl) ?_)
      refine cons (opv (Ev.assign (.c (v := I 151) rfl)) ?_)
      refine nil (pN (ret (pR (bR (pR (pR (bR (pR (done rfl (.cell rfl (fun w I => run_loadVar_pts ty64 (ptsVar (by repeat first | exact mH | apply mT | apply mA) (Lens.id _) w I)) (.tmp rfl .nil)) (fun w I => ?_))))))))))
      have hne : ¬ checkP (rs.getD i.toNat eRoute.zero).to_ = 0 := by simpa using h1
      have he : ofR rs = 151 := by
        unfold ofR
        rw [if_neg]
        intro h
        exact hne (of_decide_eq_true (List.all_eq_true.1 h _ (getD_in' rs i.toNat eRoute.zero (by omega))))
      exact retNP (nilSl, []) (fun h => by rw [he] at h; cases h) (by show _ = Value.tuple #[eRef18Trie.val ⟨nilSl⟩, Gx.I (ofR rs)]; rw [he]; rfl) SubP.nil w I
    · refine skip (pN (drawS 4 rfl (by repeat first | exact Rem.head | apply Rem.tail) (by kernel_rfl) ?_))
      refine tk 1 rfl (Ev.move (.t rfl)) ?_
      refine tk 2 rfl (Ev.move (.t rfl)) ?_
      refine tk 3 rfl (Ev.indexAddr Try.underlying22 ty38 (.t rfl) (.t rfl) (fun w I => hs.keep0 I.keeps) (fun _ => by omega)) ?_
      refine tk 4 rfl (Ev.fieldAddrS (o := 0) (i := i) (.t rfl) (fun w I => hs.keep0 I.keeps) (fun _ => by omega) (by kernel_rfl)) ?_
      refine tk 5 rfl (Ev.loadS ty36 SRoute.l_to_ rfl (.t rfl) (fun w I => hs.keep0 I.keeps) (fun _ => by omega)) ?_
      refine tk 6 rfl (Ev.move (.t rfl)) ?_
      refine tk 7 rfl (Ev.move (.t rfl)) ?_
      refine tk 8 rfl (Ev.indexAddr Try.underlying22 ty38 (.t rfl) (.t rfl) (fun w I => hs.keep0 I.keeps) (fun _ => by omega)) ?_
      refine tk 9 rfl (Ev.fieldAddrS (o := 18) (i := i) (.t rfl) (fun w I => hs.keep0 I.keeps) (fun _ => by omega) (by kernel_rfl)) ?_
      refine tk 10 rfl (Ev.loadS ty3 SRoute.l_out rfl (.t rfl) (fun w I => hs.keep0 I.keeps) (fun _ => by omega)) ?_
      refine tk 11 rfl (Ev.buildS (fs := _) (places := [(0, 18), (18, 1)]) z97 rfl Try.underlying97 (by kernel_rfl) (.cons (.t rfl) (.cons (.t rfl) .nil)) (Fills.cons SRef18Entry.l_p rfl (Fills.cons SRef18Entry.l_v rfl Fills.nil))) ?_
      refine al1 0 rfl ((opv (Ev.ldv ty64 (.t rfl) (Lens.id _)) ?_))
      refine hdn (al1 12 rfl ((calln (X := OV) (fun _ => True) (fun o => eRef18Trie.val ⟨o⟩) (fun o => [OwnS o.v eRef18Entry (insK (fun e : SRef18Entry => e.p) ls ⟨(rs.getD i.toNat eRoute.zero).to_, (rs.getD i.toNat eRoute.zero).out⟩) 97]) en46 (.cons (.t rfl) (.cons (.t rfl) .nil)) (fun w I => withE_ok ⟨o⟩ ls ⟨(rs.getD i.toNat eRoute.zero).to_, (rs.getD i.toNat eRoute.zero).out⟩ w (isSl_own (by repeat first | exact mH | apply mT | apply mA) w I) (by omega)) (fun o1 _ => ?_))))
      refine hdn (al1 13 rfl ((stv ty64 (Lens.id _) (.t rfl) (.t rfl) ?_)))
      refine hdn (ovr (bN (pN (region (cons (opv (Ev.move (.t rfl)) (cons (opv (Ev.add_i (.t rfl) (.c (v := I 1) rfl) (fun _ => by omega)) ?_))))))))
      refine cons (opv (Ev.assign (.t rfl)) (nil (pN (nxP (X := Int × OV × (List SRef18Entry)) (i + 1, o1, insK (fun e : SRef18Entry => e.p) ls ⟨(rs.getD i.toNat eRoute.zero).to_, (rs.getD i.toNat eRoute.zero).out⟩) ⟨?_, ?_, ?_, ?_⟩ ?_))))
      · try dsimp only
        omega
      · try dsimp only
        intro j hj
        by_cases e : (j : Int) < i
        · exact hq j e
        · obtain rfl : j = i.toNat := by omega
          simpa using h1
      · try dsimp only
        rw [take_snoc' rs i hi.1 (by omega) eRoute.zero, refL_snoc, ← hl]
      · try dsimp only
        have := insK_length (fun e : SRef18Entry => e.p) ls ⟨(rs.getD i.toNat eRoute.zero).to_, (rs.getD i.toNat eRoute.zero).out⟩; omega
      · try dsimp only
        omega
  · try simp only [Gx.nb] at h0
    refine exit (pX (pX (bX (pN (seq (region (cons (opv (Ev.ldv ty64 (.t rfl) (Lens.id _)) ?_))))))))
    refine cons (stv ty64 (Lens.id _) (.t rfl) (.t rfl) ?_)
    refine cons (opv (Ev.assign (.c (v := I 0) rfl)) ?_)
    refine nil (pN (ret (done rfl (.cell rfl (fun w I => run_loadVar_pts ty64 (ptsVar (by repeat first | exact mH | apply mT | apply mA) (Lens.id _) w I)) (.tmp rfl .nil)) (fun w I => ?_))))
    have hi9 : i.toNat = rs.length := by omega
    rw [hi9, List.take_length] at hl
    have he : ofR rs = 0 := by
      unfold ofR
      rw [if_pos (List.all_eq_true.2 (fun r hr => decide_eq_true (by
        obtain ⟨j, hj, rfl⟩ := List.mem_iff_getElem.1 hr
        have := hq j (by omega)
        rwa [getD_at hj] at this)))]
    exact retNP (o, [OwnS o.v eRef18Entry ls 97]) (fun _ w1 h => hl ▸ IsSl.of_own (h _ List.mem_cons_self)) (by show _ = Value.tuple #[eRef18Trie.val ⟨o⟩, Gx.I (ofR rs)]; rw [he]; rfl) (by repeat first | exact SubP.nil | refine SubP.cons (by repeat first | exact Rem.head | apply Rem.tail) ?_) w I

theorem filter_snoc {α : Type} (l : List α) (i : Int) (h0 : 0 ≤ i) (h1 : i < l.length) (z : α) (g : α → Bool) : (l.take (i + 1).toNat).filter g = (l.take i.toNat).filter g ++ (if g (l.getD i.toNat z) = true then [l.getD i.toNat z] else []) := by
  rw [take_snoc' l i h0 h1 z, List.filter_append]
  congr 1
  by_cases hg : g (l.getD i.toNat z) = true
  · rw [if_pos hg, List.filter_cons, if_pos hg]; rfl
  · rw [if_neg hg, List.filter_cons, if_neg hg]; rfl

theorem en68 : Gx.Enters Try.prog 68 := Gx.Enters.mk' (by kernel_rfl)

theorem runder_ok (tr : SRef18Trie) (ls : List SRef18Entry) (p : SPrefix) (w : World) (hx : IsSl eRef18Entry w tr.l.v ls) (hn : ls.length ≤ 1000000) : Calls Try.prog 50 #[eRef18Trie.val tr, ePrefix.val p] w (RetO w eRef18Entry (ls.filter (fun e => coversP p e.p)) 97) := by
  refine enter0 31 Try.func50 rfl rfl (Nat.le_of_ble_eq_true rfl) ?_
  refine seq (region (cons (box (E := eRef18Trie) (.t rfl) (fun b1 => ?_))))
  refine cons (box (E := ePrefix) (.t rfl) (fun b2 => ?_))
  refine cons (opv (Ev.assign (.c (v := (Go.Value.slice none 0 0)) rfl)) ?_)
  refine nil (pN (seq (region (cons (opv (Ev.assign (.c (v := (Go.Value.slice none 0 0)) rfl)) ?_)))))
  refine takeNil eRef18Entry 97 ?_
  refine nil (pN (seq (seq (region (cons (opv (Ev.assign (.c (v := I 0) rfl)) ?_))))))
  refine nil (pN (block (lp (X := Int × OV × (List SRef18Entry)) (fun x : Int × OV × (List SRef18Entry) => (0 ≤ x.1 ∧ x.1 ≤ ls.length) ∧ (x.2.2 = (ls.take x.1.toNat).filter (fun e => coversP p e.p)) ∧ ((x.2.2.length : Int) ≤ x.1)) (fun x : Int × OV × (List SRef18Entry) => [dz, (2, true, .pointer (some ⟨b1, 0, none⟩)), (3, true, .pointer (some ⟨b2, 0, none⟩)), (5, true, x.2.1.v), (6, true, I x.1)]) (fun x : Int × OV × (List SRef18Entry) => [OwnS x.2.1.v eRef18Entry x.2.2 97, Var b2 ePrefix p 36, Var b1 eRef18Trie tr 64]) (fun x : Int × OV × (List SRef18Entry) => ((ls.length : Int) - x.1).toNat) (0, nilSl, []) ⟨?_, ?_, ?_⟩ (fun x hx => ?_))))
  · omega
  · rfl
  · exact Int.le_refl 0
  obtain ⟨i, o, fs⟩ := x
  obtain ⟨hi, hf, hfn⟩ : (0 ≤ i ∧ i ≤ ls.length) ∧ (fs = (ls.take i.toNat).filter (fun e => coversP p e.p)) ∧ ((fs.length : Int) ≤ i) := hx
  show Sat _ _ [dz, (2, true, .pointer (some ⟨b1, 0, none⟩)), (3, true, .pointer (some ⟨b2, 0, none⟩)), (5, true, o.v), (6, true, I i)] [OwnS o.v eRef18Entry fs 97, Var b2 ePrefix p 36, Var b1 eRef18Trie tr 64]
  refine seq (seq (region (cons (opv (Ev.move (.t rfl)) (cons (opv (Ev.fieldAddr (o := 0) (.t rfl) (by kernel_rfl)) ?_))))))
  refine cons (opv (Ev.ldx tr.l ty53 (.t rfl) SRef18Trie.l_l) ?_)
  refine cons (opv (Ev.len Try.underlying53 (.t rfl) (fun w I => hx.keep0 I.keeps)) ?_)
  refine cons (opv (Ev.lss_i (.t rfl) (.t rfl)) ?_)
  refine nil (pN ?_)
  first | refine condD rfl (fun h0 => ?_) (fun h0 => ?_) | refine cond rfl (fun h0 => ?_) (fun h0 => ?_)
  · try simp only [Gx.nb] at h0
    refine skip (pN (seq (block (seq (draw' (by kernel_rfl) ?_)))))
    refine tk 0 rfl (Ev.ldx p ty36 (.t rfl) (Lens.id _)) ?_
    refine tk 1 rfl (Ev.fieldAddr (o := 0) (.t rfl) (by kernel_rfl)) ?_
    refine tk 2 rfl (Ev.ldx tr.l ty53 (.t rfl) SRef18Trie.l_l) ?_
    refine tk 3 rfl (Ev.move (.t rfl)) ?_
    refine tk 4 rfl (Ev.indexAddr Try.underlying53 ty97 (.t rfl) (.t rfl) (fun w I => hx.keep0 I.keeps) (fun _ => by omega)) ?_
    refine tk 5 rfl (Ev.fieldAddrS (o := 0) (i := i) (.t rfl) (fun w I => hx.keep0 I.keeps) (fun _ => by omega) (by kernel_rfl)) ?_
    refine tk 6 rfl (Ev.loadS ty36 SRef18Entry.l_p rfl (.t rfl) (fun w I => hx.keep0 I.keeps) (fun _ => by omega)) ?_
    refine al1 7 rfl ((callv en68 (.cons (.t rfl) (.cons (.t rfl) .nil)) (fun w I => r15covers_ok _ _ w) ?_))
    refine hdn (ovr (pN ?_))
    first | refine condD rfl (fun h1 => ?_) (fun h1 => ?_) | refine cond rfl (fun h1 => ?_) (fun h1 => ?_)
    · refine region (cons (opv (Ev.move (.t rfl)) (cons (opv (Ev.fieldAddr (o := 0) (.t rfl) (by kernel_rfl)) ?_))))
      refine cons (opv (Ev.ldx tr.l ty53 (.t rfl) SRef18Trie.l_l) ?_)
      refine cons (opv (Ev.move (.t rfl)) (cons (opv (Ev.indexAddr Try.underlying53 ty97 (.t rfl) (.t rfl) (fun w I => hx.keep0 I.keeps) (fun _ => by omega)) ?_)))
      refine cons (opv (Ev.loadS0 ty97 (.t rfl) (fun w I => hx.keep0 I.keeps) (fun _ => by omega)) ?_)
      refine cons (buildSlice (E := eRef18Entry) Try.underlying53 ty97 z97 (.cons (.t rfl) .nil) rfl rfl (fun v3 => ?_))
      refine cons (app (E := eRef18Entry) Try.underlying53 ty97 zb97 zs97 (.t rfl) (.t rfl) (fun v4 => ?_) (hby := ⟨by (show _ ≤ 9223372036854775807); first | omega | (simp; done) | (simp; omega), by first | omega | (simp; done) | (simp; omega)⟩))
      refine cons (opv (Ev.assign (.t rfl)) (nil (bN (pN (region (cons (opv (Ev.move (.t rfl)) (cons (opv (Ev.add_i (.t rfl) (.c (v := I 1) rfl) (fun _ => by omega)) ?_)))))))))
      refine cons (opv (Ev.assign (.t rfl)) (nil (pN (nxP (X := Int × OV × (List SRef18Entry)) (i + 1, v4, _) ⟨?_, ?_, ?_⟩ ?_))))
      · try dsimp only
        omega
      · try dsimp only
        rw [filter_snoc ls i hi.1 (by omega) eRef18Entry.zero, ← hf, if_pos (show coversP p (ls.getD i.toNat eRef18Entry.zero).p = true from h1)]
      · try dsimp only
        simp; omega
      · try dsimp only
        omega
    · refine skip (bN (pN (region (cons (opv (Ev.move (.t rfl)) (cons (opv (Ev.add_i (.t rfl) (.c (v := I 1) rfl) (fun _ => by omega)) ?_)))))))
      refine cons (opv (Ev.assign (.t rfl)) (nil (pN (nxP (X := Int × OV × (List SRef18Entry)) (i + 1, o, fs) ⟨?_, ?_, ?_⟩ ?_))))
      · try dsimp only
        omega
      · try dsimp only
        rw [filter_snoc ls i hi.1 (by omega) eRef18Entry.zero, ← hf, if_neg (show ¬ coversP p (ls.getD i.toNat eRef18Entry.zero).p = true from fun e => Bool.false_ne_true (h1.symm.trans e)), List.append_nil]
      · try dsimp only
        omega
      · try dsimp only
        omega
  · try simp only [Gx.nb] at h0
    refine exit (pX (pX (bX (pN (seq (region (cons (opv (Ev.move (.t rfl)) (cons (opv (Ev.assign (.t rfl)) (nil (pN (ret (done rfl (.tmp rfl .nil) (retOE (by repeat first | exact mH | apply mT | apply mA) ?_)))))))))))))))
    rw [hf, show i.toNat = ls.length by omega, List.take_length]
end Go.Proofs.Ytjjlofjpdklbgaa
/- trie -/
set_option linter.unusedVariables false
set_option linter.unusedSimpArgs false
namespace Go.Proofs.Ytjjlofjpdklbgaa
open Go Go.Gx

theorem r15of_g (a : SAddr) (n : Int) (w : World) (x : SPrefix) (e : Int) (hx : ofV a n = x) (he : ofE a n = e) : Calls Try.prog 74 #[eAddr.val a, I n] w (RetV w (.tuple #[ePrefix.val x, I e])) := by
  subst hx he
  exact r15of_ok a n w
abbrev prE (e : SRef18Entry) : SPrefix × Int := (e.p, e.v)
theorem ofV_ok {k : Bool} {p : SPrefix} (hp : okP k p) {n : Int} (h0 : 0 ≤ n) (h1 : n ≤ p.bits) : ofE p.addr n = 0 ∧ okP k (ofV p.addr n) ∧ (ofV p.addr n).bits = n ∧ ∀ i : Int, 0 ≤ i → i < n → bitU (ofV p.addr n).addr.b.toList i = bitU p.addr.b.toList i := by
  have hw := wd_le p.addr
  have hq := (checkP_zero p).1 hp.1
  have hca : checkA p.addr = 0 := (checkA_zero _).2 (fun i h2 h3 => hq.2.2 i (by omega) h3)
  have e : ofE p.addr n = 0 := by
    unfold ofE
    rw [if_neg (by rw [hca]; decide), if_neg (by omega)]
  have ev : ofV p.addr n = ⟨⟨p.addr.v6, maskV n p.addr.b⟩, n⟩ := by
    unfold ofV
    rw [if_pos e]
  have hb : ∀ i : Int, 0 ≤ i → i < 128 → bitU (maskV n p.addr.b).toList i = if i < n then bitU p.addr.b.toList i else 0 := fun i i0 i1 => mask_bit n p.addr.b i i0 i1
  refine ⟨e, ⟨?_, ?_⟩, ?_, ?_⟩
  · rw [ev]
    refine (checkP_zero _).2 ⟨h0, ?_, fun i i0 i1 => ?_⟩
    · show n ≤ wd (⟨p.addr.v6, maskV n p.addr.b⟩ : SAddr)
      have : wd (⟨p.addr.v6, maskV n p.addr.b⟩ : SAddr) = wd p.addr := rfl
      omega
    · show bitU (maskV n p.addr.b).toList i = 0
      rw [hb i (by have : n ≤ i := i0; omega) i1, if_neg (by have : n ≤ i := i0; omega)]
  · rw [ev]; exact hp.2
  · rw [ev]
  · intro i i0 i1
    rw [ev]
    show bitU (maskV n p.addr.b).toList i = _
    rw [hb i i0 (by omega), if_pos i1]
theorem cov_com {k : Bool} {p q : SPrefix} (hp : okP k p) (hq : okP k q) {n : Int} (h0 : 0 ≤ n) (h1 : n ≤ p.bits) : coversP (ofV p.addr n) q = true ↔ n ≤ comN p q := by
  obtain ⟨e, ho, hb, hbits⟩ := ofV_ok hp h0 h1
  obtain ⟨c0, c1, c2, c3, c4⟩ := comN_spec hp hq
  have nq := hq.nn
  rw [covers_iff ho hq, pb_pre _ _ (by omega) nq.1, hb]
  constructor
  · rintro ⟨g1, g2⟩
    rcases Int.lt_or_le (comN p q) n with hlt | hle
    · have h9 := g2 (comN p q) c0 hlt
      rw [hbits _ c0 hlt] at h9
      exact absurd h9 (c4 (by omega) (by omega))
    · exact hle
  · intro g
    exact ⟨by omega, fun i i0 i1 => by rw [hbits i i0 i1]; exact c3 i i0 (by omega)⟩
theorem both_of {k : Bool} {p q : SPrefix} (hp : okP k p) (hq : okP k q) : ofV p.addr (comN p q) = bothP p q := by
  obtain ⟨c0, c1, _⟩ := comN_spec hp hq
  have e := (ofV_ok hp c0 c1).1
  unfold ofV bothP
  rw [if_pos e]

theorem en74 : Gx.Enters Try.prog 74 := Gx.Enters.mk' (by kernel_rfl)

theorem rboth_ok (k : Bool) (p q : SPrefix) (w : World) (hp : okP k p) (hq : okP k q) : Calls Try.prog 69 #[ePrefix.val p, ePrefix.val q] w (RetV w (ePrefix.val (bothP p q))) := by
  have hn := hp.nn
  have hcs := comN_spec hp hq
  refine enter0 32 Try.func69 rfl rfl (Nat.le_of_ble_eq_true rfl) ?_
  refine seq (region (cons (box (E := ePrefix) (.t rfl) (fun b1 => ?_))))
  refine cons (box (E := ePrefix) (.t rfl) (fun b2 => ?_))
  refine cons (alloc z36 (fun b3 => ?_))
  refine nil (pN (seq (region (cons (opv (Ev.fieldAddr (o := 0) (.t rfl) (by kernel_rfl)) ?_)))))
  refine cons (opv (Ev.fieldAddr (o := 0) (.t rfl) (by kernel_rfl)) ?_)
  refine cons (opv (Ev.ldx p.addr.v6 ty4 (.t rfl) (Lens.comp SPrefix.l_addr SAddr.l_v6)) ?_)
  refine cons (opv (Ev.buildS (fs := _) (places := [(0, 1), (1, 16)]) z31 rfl Try.underlying31 (by kernel_rfl) (.cons (.t rfl) .nil) (Fills.cons SAddr.l_v6 rfl Fills.nil)) ?_)
  refine cons (opv (Ev.buildS (fs := _) (places := [(0, 17), (17, 1)]) z36 rfl Try.underlying36 (by kernel_rfl) (.cons (.t rfl) .nil) (Fills.cons SPrefix.l_addr rfl Fills.nil)) ?_)
  refine cons (alloc z36 (fun b4 => ?_))
  refine cons (stv ty36 (Lens.id _) (.t rfl) (.t rfl) ?_)
  refine nil (pN (seq (seq (region (cons (opv (Ev.assign (.c (v := I 0) rfl)) ?_))))))
  refine nil (pN (block (lp (X := Int × SPrefix) (fun x : Int × SPrefix => (0 ≤ x.1 ∧ x.1 ≤ p.bits + 1) ∧ (0 < x.1 → x.2 = ofV p.addr (min (x.1 - 1) (comN p q)))) (fun x : Int × SPrefix => [dz, (2, true, .pointer (some ⟨b1, 0, none⟩)), (3, true, .pointer (some ⟨b2, 0, none⟩)), (4, true, .pointer (some ⟨b3, 0, none⟩)), (5, true, .pointer (some ⟨b4, 0, none⟩)), (6, true, I x.1)]) (fun x : Int × SPrefix => [Var b4 ePrefix x.2 36, Var b3 ePrefix ePrefix.zero 36, Var b2 ePrefix q 36, Var b1 ePrefix p 36]) (fun x : Int × SPrefix => (p.bits + 1 - x.1).toNat) (0, _) ⟨?_, ?_⟩ (fun x hx => ?_))))
  · omega
  · intro h; omega
  obtain ⟨i, c⟩ := x
  obtain ⟨hi, hcb⟩ : (0 ≤ i ∧ i ≤ p.bits + 1) ∧ (0 < i → c = ofV p.addr (min (i - 1) (comN p q))) := hx
  show Sat _ _ [dz, (2, true, .pointer (some ⟨b1, 0, none⟩)), (3, true, .pointer (some ⟨b2, 0, none⟩)), (4, true, .pointer (some ⟨b3, 0, none⟩)), (5, true, .pointer (some ⟨b4, 0, none⟩)), (6, true, I i)] [Var b4 ePrefix c 36, Var b3 ePrefix ePrefix.zero 36, Var b2 ePrefix q 36, Var b1 ePrefix p 36]
  refine seq (seq (region (cons (opv (Ev.move (.t rfl)) (cons (opv (Ev.fieldAddr (o := 17) (.t rfl) (by kernel_rfl)) ?_))))))
  refine cons (opv (Ev.ldx p.bits ty3 (.t rfl) SPrefix.l_bits) ?_)
  refine cons (opv (Ev.leq_i (.t rfl) (.t rfl)) ?_)
  refine nil (pN ?_)
  first | refine condD rfl (fun h0 => ?_) (fun h0 => ?_) | refine cond rfl (fun h0 => ?_) (fun h0 => ?_)
  · try simp only [Gx.nb] at h0
    refine skip (pN (seq (block (seq ?_))))
    obtain ⟨z, hz⟩ : ∃ z, ofV p.addr i = z := ⟨_, rfl⟩
    obtain ⟨e0, he0⟩ : ∃ z, ofE p.addr i = z := ⟨_, rfl⟩
    refine region (cons (opv (Ev.fieldAddr (o := 0) (.t rfl) (by kernel_rfl)) ?_))
    refine cons (opv (Ev.ldx p.addr ty31 (.t rfl) SPrefix.l_addr) ?_)
    refine cons (opv (Ev.move (.t rfl)) (cons (callv en74 (.cons (.t rfl) (.cons (.t rfl) .nil)) (fun w I => r15of_g p.addr i w z e0 hz he0) ?_)))
    refine cons (opv (Ev.move (.t rfl)) (cons (opv (Ev.extract (.t rfl) rfl) (cons (opv (Ev.extract (.t rfl) rfl) (cons (alloc z36 (fun b5 => ?_))))))))
    refine cons (stv ty36 (Lens.id _) (.t rfl) (.t rfl) ?_)
    refine cons (opv (Ev.assign (.t rfl)) (nil (pN (seq (region (cons (opv (Ev.ldv ty36 (.t rfl) (Lens.id _)) ?_)))))))
    refine cons (opv (Ev.ldx q ty36 (.t rfl) (Lens.id _)) ?_)
    refine cons (callv en68 (.cons (.t rfl) (.cons (.t rfl) .nil)) (fun w I => r15covers_ok z q w) ?_)
    refine nil (pN ?_)
    first | refine condD rfl (fun h1 => ?_) (fun h1 => ?_) | refine cond rfl (fun h1 => ?_) (fun h1 => ?_)
    · refine region (cons (opv (Ev.ldv ty36 (.t rfl) (Lens.id _)) ?_))
      refine cons (stv ty36 (Lens.id _) (.t rfl) (.t rfl) ?_)
      refine nil (bN (pN (region (cons (opv (Ev.move (.t rfl)) (cons (opv (Ev.add_i (.t rfl) (.c (v := I 1) rfl) (fun _ => by omega)) ?_)))))))
      refine cons (opv (Ev.assign (.t rfl)) (nil (pN (nxP (X := Int × SPrefix) (i + 1, z) ⟨?_, ?_⟩ ?_))))
      · try dsimp only
        omega
      · try dsimp only
        intro _
        have hc := (cov_com hp hq (n := i) (by omega) (by omega)).1 (hz.symm ▸ h1)
        rw [show min (i + 1 - 1) (comN p q) = i by omega]; exact hz.symm
      · try dsimp only
        omega
    · refine skip (bN (pN (region (cons (opv (Ev.move (.t rfl)) (cons (opv (Ev.add_i (.t rfl) (.c (v := I 1) rfl) (fun _ => by omega)) ?_)))))))
      refine cons (opv (Ev.assign (.t rfl)) (nil (pN (nxP (X := Int × SPrefix) (i + 1, c) ⟨?_, ?_⟩ ?_))))
      · try dsimp only
        omega
      · try dsimp only
        intro _
        have hc : ¬ i ≤ comN p q := fun e => by
          have h9 := (cov_com hp hq (n := i) (by omega) (by omega)).2 e
          rw [hz] at h9
          exact Bool.false_ne_true (h1.symm.trans h9)
        rw [hcb (by omega), show min (i + 1 - 1) (comN p q) = min (i - 1) (comN p q) by omega]
      · try dsimp only
        omega
  · try simp only [Gx.nb] at h0
    refine exit (pX (pX (bX (pN (seq (region (cons (opv (Ev.ldv ty36 (.t rfl) (Lens.id _)) ?_))))))))
    refine cons (stv ty36 (Lens.id _) (.t rfl) (.t rfl) ?_)
    refine nil (pN (ret (done rfl (.cell rfl (fun w I => run_loadVar_pts ty36 (ptsVar (by repeat first | exact mH | apply mT | apply mA) (Lens.id _) w I)) .nil) (retE ?_))))
    have hie : i = p.bits + 1 := by omega
    have hcc := hcb (by omega)
    rw [show min (i - 1) (comN p q) = comN p q by omega, both_of hp hq] at hcc
    rw [hcc]; rfl
end Go.Proofs.Ytjjlofjpdklbgaa
