/- trie -/
import Derived.Test.YtjjlofjpdklbgaaT4
set_option linter.unusedVariables false
set_option linter.unusedSimpArgs false
namespace Go.Proofs.Ytjjlofjpdklbgaa
open Go Go.Gx

theorem pts_mem {α : Type} {E : Enc α} {w : World} {b : Nat} {x : α} {T : TypeId} {Rs : List Res} (h : ∀ r ∈ Rs, r.A w) (hm : Var b E x T ∈ Rs) : PtsTo E w b 0 x := pts_of_block (h _ hm)
theorem Rem.app {r : Res} {L M : List Res} (k : List Res) (h : Rem L r M) : Rem (k ++ L) r (k ++ M) := by
  obtain ⟨A, C, rfl, rfl⟩ := h
  exact ⟨k ++ A, C, by simp, by simp⟩
theorem bit_g (a : SAddr) (i : Int) (w : World) (hi : 0 ≤ i ∧ i < 128) (z : Bool) (hz : decide (bitU a.b.toList i = 1) = z) : Calls Try.prog 58 #[eAddr.val a, I i] w (RetV w (I (bI z))) := by
  subst hz
  exact bit_ok a i w hi
theorem both_g (k : Bool) (p q : SPrefix) (w : World) (hp : okP k p) (hq : okP k q) (z : SPrefix) (hz : bothP p q = z) : Calls Try.prog 57 #[ePrefix.val p, ePrefix.val q] w (RetV w (ePrefix.val z)) := by
  subst hz
  exact both_ok_c k p q w hp hq
/-- What a tree has become: its tree; it stands where the old one stands and the new things are. -/
def PutJ (t : PT) (R : Tr SPrefix) (x : PT × List Res) : Prop := x.1.tr = R ∧ ∀ w1, t.At w1 → (∀ r ∈ x.2, r.A w1) → x.1.At w1
theorem eqb_no {q p : SPrefix} (h : SPrefix.eqb q p = false) : q ≠ p := fun e => by
  rw [(SPrefix.eqb_iff q p).2 e] at h
  cases h
theorem snoc_lt {x y : SPrefix} {b : Bool} {k : Bool} (hx : okP k x) (hy : okP k y) (h : pb x ++ [b] <+: pb y) : 0 ≤ x.bits ∧ x.bits < 128 := by
  have h1 := h.length_le
  have h2 := hx.nn
  have h3 := hy.nn
  simp at h1
  omega
abbrev putT (p : SPrefix) (v : Int) (t : Tr SPrefix) : Tr SPrefix × Bool := t.put bothP bitP p v
theorem kid_wf {k : Bool} {q : SPrefix} {l r : PT} (hl : l.tr.WF (okP k) pb (pb q ++ [false])) (hr : r.tr.WF (okP k) pb (pb q ++ [true])) (b : Bool) : (PT.kid b l r).tr.WF (okP k) pb (pb q ++ [b]) := by cases b <;> assumption

theorem z91 : (Try.prog.info? 91).bind (·.zero) = some (eTrieNode.val eTrieNode.zero) := by kernel_rfl

theorem put_nil (p : SPrefix) (v : Int) (w : World) : Calls Try.prog 35 #[.pointer none, ePrefix.val p, I v] w (RetN w (PutJ .nil (putT p v .nil).1) (fun x => .tuple #[x.1.ptr.v, .bool (putT p v .nil).2]) (fun x => x.2)) := by
  refine enter0 132 Try.func35 rfl rfl (Nat.le_of_ble_eq_true rfl) ?_
  refine seq (region (cons (box (E := ePrefix) (.t rfl) (fun b1 => ?_))))
  refine cons (opv (Ev.assign (.c (v := (Go.Value.pointer none)) rfl)) ?_)
  refine cons (opv (Ev.assign (.c (v := .bool false) rfl)) ?_)
  refine nil (pN (seq (seq (region (cons (opv (Ev.move (.t rfl)) (cons (opv (Ev.eql_p Try.underlying57 (.t rfl) (.c rfl)) ?_))))))))
  refine nil (pN (condT rfl (rfl) ?_))
  refine seq (region (cons (opv (Ev.ldv ty36 (.t rfl) (Lens.id _)) ?_)))
  refine cons (opv (Ev.move (.t rfl)) (cons (opv (Ev.buildS (fs := _) (places := [(0, 18), (18, 1), (19, 1), (20, 2)]) z91 rfl Try.underlying91 (by kernel_rfl) (.cons (.t rfl) (.cons (.t rfl) (.cons (.c (v := .bool true) rfl) .nil))) (Fills.cons STrieNode.l_p rfl (Fills.cons STrieNode.l_v rfl (Fills.cons STrieNode.l_has rfl Fills.nil)))) ?_)))
  refine cons (box (E := eTrieNode) (.t rfl) (fun b2 => ?_))
  refine cons (opv (Ev.assign (.t rfl)) (cons (opv (Ev.assign (.c (v := .bool true) rfl)) ?_)))
  refine nil (pN (ret (pR (done rfl (.tmp rfl (.tmp rfl .nil)) (fun w I => ?_)))))
  exact retNP (PT.node b2 p v true .nil .nil, [Var b2 eTrieNode (⟨p, v, true, kids .nil .nil⟩ : STrieNode) 91]) ⟨rfl, fun w1 _ h => ⟨pts_mem (T := 91) h (by simp), trivial, trivial⟩⟩ rfl (by repeat first | exact SubP.nil | refine SubP.cons (by repeat first | exact Rem.head | apply Rem.tail) ?_) w I

theorem ty58 : TyOK Try.prog 58 (arrE 2 (ovE nilPtr)) := TyOK.mk' (by kernel_rfl) (by kernel_rfl)

theorem en57 : Gx.Enters Try.prog 57 := Gx.Enters.mk' (by kernel_rfl)

theorem ty91 : TyOK Try.prog 91 eTrieNode := TyOK.mk' (by kernel_rfl) (by kernel_rfl)

theorem en35 : Gx.Enters Try.prog 35 := Gx.Enters.mk' (by kernel_rfl)

theorem put_node (k : Bool) (p : SPrefix) (v : Int) (hp : okP k p) (b : Nat) (q : SPrefix) (u : Int) (h : Bool) (l r : PT) (c : List Bool) (w : World) (hat : (PT.node b q u h l r).At w) (hw : (PT.node b q u h l r).tr.WF (okP k) pb c) (hc : c <+: pb p) (ih : ∀ bb c' w', (PT.kid bb l r).At w' → (PT.kid bb l r).tr.WF (okP k) pb c' → c' <+: pb p → Calls Try.prog 35 #[(PT.kid bb l r).ptr.v, ePrefix.val p, I v] w' (RetN w' (PutJ (PT.kid bb l r) (putT p v (PT.kid bb l r).tr).1) (fun x => .tuple #[x.1.ptr.v, .bool (putT p v (PT.kid bb l r).tr).2]) (fun x => x.2))) : Calls Try.prog 35 #[.pointer (some ⟨b, 0, none⟩), ePrefix.val p, I v] w (RetN w (PutJ (PT.node b q u h l r) (putT p v (.node q u h l.tr r.tr)).1) (fun x => .tuple #[x.1.ptr.v, .bool (putT p v (.node q u h l.tr r.tr)).2]) (fun x => x.2)) := by
  have hq : okP k q := hw.1
  refine enter0 132 Try.func35 rfl rfl (Nat.le_of_ble_eq_true rfl) ?_
  refine seq (region (cons (box (E := ePrefix) (.t rfl) (fun b1 => ?_))))
  refine cons (opv (Ev.assign (.c (v := (Go.Value.pointer none)) rfl)) ?_)
  refine cons (opv (Ev.assign (.c (v := .bool false) rfl)) ?_)
  refine nil (pN (seq (seq (region (cons (opv (Ev.move (.t rfl)) (cons (opv (Ev.eql_p Try.underlying57 (.t rfl) (.c rfl)) ?_))))))))
  refine nil (pN (condF rfl (rfl) ?_))
  refine skip (pN (seq (seq (draw' (by kernel_rfl) ?_))))
  refine tk 0 rfl (Ev.move (.t rfl)) ?_
  refine tk 1 rfl (Ev.nilCheck (.t rfl)) ?_
  refine tk 2 rfl (Ev.fieldAddr (o := 0) (.t rfl) (by kernel_rfl)) ?_
  refine tk 3 rfl (Ev.load ty36 (.t rfl) (ptsL (fun w I => (hat.1).keep I.keeps) STrieNode.l_p)) ?_
  refine tk 4 rfl (Ev.ldv ty36 (.t rfl) (Lens.id _)) ?_
  refine tk 5 rfl (Ev.eqlS rfl eqok36 rfl (by kernel_rfl) (.t rfl) (.t rfl)) ?_
  refine ovr (pN ?_)
  first | refine condD rfl (fun h1 => ?_) (fun h1 => ?_) | refine cond rfl (fun h1 => ?_) (fun h1 => ?_)
  · have hqp : q = p := (SPrefix.eqb_iff _ _).1 h1
    refine seq (draw' (by kernel_rfl) ?_)
    refine tk 0 rfl (Ev.ldv ty36 (.t rfl) (Lens.id _)) ?_
    refine tk 1 rfl (Ev.move (.t rfl)) ?_
    refine tk 2 rfl (Ev.move (.t rfl)) ?_
    refine tk 3 rfl (Ev.nilCheck (.t rfl)) ?_
    refine tk 4 rfl (Ev.fieldAddr (o := 20) (.t rfl) (by kernel_rfl)) ?_
    refine tk 5 rfl (Ev.load ty58 (.t rfl) (ptsL (fun w I => (hat.1).keep I.keeps) STrieNode.l_kids)) ?_
    refine tk 6 rfl (Ev.buildS (fs := _) (places := [(0, 18), (18, 1), (19, 1), (20, 2)]) z91 rfl Try.underlying91 (by kernel_rfl) (.cons (.t rfl) (.cons (.t rfl) (.cons (.c (v := .bool true) rfl) (.cons (.t rfl) .nil)))) (Fills.cons STrieNode.l_p rfl (Fills.cons STrieNode.l_v rfl (Fills.cons STrieNode.l_has rfl (Fills.cons STrieNode.l_kids rfl Fills.nil))))) ?_
    refine tk 8 rfl (Ev.move (.t rfl)) ?_
    refine tk 9 rfl (Ev.nilCheck (.t rfl)) ?_
    refine tk 10 rfl (Ev.fieldAddr (o := 19) (.t rfl) (by kernel_rfl)) ?_
    refine tk 11 rfl (Ev.load ty4 (.t rfl) (ptsL (fun w I => (hat.1).keep I.keeps) STrieNode.l_has)) ?_
    refine tk 12 rfl (Ev.not (.t rfl)) ?_
    refine al1 7 rfl ((box (E := eTrieNode) (.t rfl) (fun b2 => ?_)))
    refine hdn (tk 13 rfl (Ev.assign (.t rfl)) ?_)
    refine tk 14 rfl (Ev.assign (.t rfl)) ?_
    refine ovr (pN (ret (pR (done rfl (.tmp rfl (.tmp rfl .nil)) (fun w I => ?_)))))
    have ep : putT p v (.node q u h l.tr r.tr) = (.node p v true l.tr r.tr, !h) := by show Tr.put _ _ _ _ _ = _; rw [Tr.put, if_pos hqp]
    exact retNP (PT.node b2 p v true l r, [Var b2 eTrieNode (⟨p, v, true, kids l r⟩ : STrieNode) 91]) ⟨by rw [ep]; rfl, fun w1 ho hh => ⟨pts_mem (T := 91) hh (by simp), ho.2.1, ho.2.2⟩⟩ (by rw [ep]; rfl) (by repeat first | exact SubP.nil | refine SubP.cons (by repeat first | exact Rem.head | apply Rem.tail) ?_) w I
  · have hqp : q ≠ p := eqb_no h1
    obtain ⟨c0, hc0⟩ : ∃ z, bothP q p = z := ⟨_, rfl⟩
    have hway := (keyLaw k).ways hq hp hqp
    refine skip (pN (seq (draw' (by kernel_rfl) ?_)))
    refine tk 0 rfl (Ev.move (.t rfl)) ?_
    refine tk 1 rfl (Ev.nilCheck (.t rfl)) ?_
    refine tk 2 rfl (Ev.fieldAddr (o := 0) (.t rfl) (by kernel_rfl)) ?_
    refine tk 3 rfl (Ev.load ty36 (.t rfl) (ptsL (fun w I => (hat.1).keep I.keeps) STrieNode.l_p)) ?_
    refine tk 4 rfl (Ev.ldv ty36 (.t rfl) (Lens.id _)) ?_
    refine all [5, 6] (by kernel_rfl) (by decide) (.cons rfl ?_ (.cons rfl ?_ .nil))
    · refine (callv en57 (.cons (.t rfl) (.cons (.t rfl) .nil)) (fun w I => both_g k q p w hq hp c0 hc0) ?_)
      refine hdn (al1 6 rfl ((alloc z36 (fun b3 => ?_))))
      refine hdn (al1 7 rfl ((stv ty36 (Lens.id _) (.t rfl) (.t rfl) ?_)))
      refine hdn (ovr (pN (seq (seq (region (cons (opv (Ev.ldv ty36 (.t rfl) (Lens.id _)) ?_)))))))
      refine nil (pN (block (seq (region (cons (opv (Ev.move (.t rfl)) (cons (opv (Ev.nilCheck (.t rfl)) ?_))))))))
      refine cons (opv (Ev.fieldAddr (o := 0) (.t rfl) (by kernel_rfl)) ?_)
      refine cons (opv (Ev.load ty36 (.t rfl) (ptsL (fun w I => (hat.1).keep I.keeps) STrieNode.l_p)) ?_)
      refine cons (opv (Ev.eqlS rfl eqok36 rfl (by kernel_rfl) (.t rfl) (.t rfl)) ?_)
      refine cons (opv (Ev.assign (.t rfl)) (nil (pN ?_)))
      first | refine condD rfl (fun h2 => ?_) (fun h2 => ?_) | refine cond rfl (fun h2 => ?_) (fun h2 => ?_)
      · have e1 : bothP q p = q := hc0.trans ((SPrefix.eqb_iff _ _).1 h2)
        obtain ⟨bb, hbb⟩ : ∃ z, bitP q p = z := ⟨_, rfl⟩
        have e2 : pb q ++ [bb] <+: pb p := by
          rcases hway with ⟨_, g⟩ | ⟨g, _⟩ | ⟨g, _⟩
          · rw [← hbb]; exact g
          · exact absurd e1 g
          · exact absurd e1 g
        have hlt := snoc_lt hq hp e2
        have hbn := bI_nn bb
        have hbt : (bI bb).toNat < 2 := by omega
        refine seq (region (cons (opv (Ev.move (.t rfl)) (cons (opv (Ev.nilCheck (.t rfl)) ?_)))))
        refine cons (opv (Ev.load ty91 (.t rfl) (ptsL (fun w I => (hat.1).keep I.keeps) (Lens.id _))) ?_)
        refine cons (alloc z91 (fun b4 => ?_))
        refine cons (stv ty91 (Lens.id _) (.t rfl) (.t rfl) ?_)
        refine nil (pN (seq (draw' (by kernel_rfl) ?_)))
        refine tk 0 rfl (Ev.fieldAddr (o := 0) (.t rfl) (by kernel_rfl)) ?_
        refine tk 1 rfl (Ev.ldv ty31 (.t rfl) SPrefix.l_addr) ?_
        refine tk 2 rfl (Ev.move (.t rfl)) ?_
        refine tk 3 rfl (Ev.nilCheck (.t rfl)) ?_
        refine tk 4 rfl (Ev.fieldAddr (o := 0) (.t rfl) (by kernel_rfl)) ?_
        refine tk 5 rfl (Ev.fieldAddr (o := 17) (.t rfl) (by kernel_rfl)) ?_
        refine tk 6 rfl (Ev.load ty3 (.t rfl) (ptsL (fun w I => (hat.1).keep I.keeps) (Lens.comp STrieNode.l_p SPrefix.l_bits))) ?_
        refine al1 7 rfl ((callv en58 (.cons (.t rfl) (.cons (.t rfl) .nil)) (fun w I => bit_g _ _ w hlt bb hbb) ?_))
        refine hdn (tk 8 rfl (Ev.assign (.t rfl)) ?_)
        refine ovr (pN (seq (draw' (by kernel_rfl) ?_)))
        refine tk 0 rfl (Ev.move (.t rfl)) ?_
        refine tk 1 rfl (Ev.move (.t rfl)) ?_
        refine tk 2 rfl (Ev.nilCheck (.t rfl)) ?_
        refine tk 3 rfl (Ev.fieldAddr (o := 20) (.t rfl) (by kernel_rfl)) ?_
        refine tk 4 rfl (Ev.indexAddrA Try.underlying58 ty57 (.t rfl) (.t rfl) (fun _ => by omega)) ?_
        refine tk 5 rfl (Ev.to (v' := (PT.kid bb l r).ptr.v) (Ev.load ty57 (.t rfl) (ptsL (fun w I => (hat.1).keep I.keeps) (Lens.comp STrieNode.l_kids (lArr (n := 2) (ovE nilPtr) _ (by omega))))) (congrArg OV.v (kids_at l r bb hbt))) ?_
        refine tk 6 rfl (Ev.ldv ty36 (.t rfl) (Lens.id _)) ?_
        refine tk 7 rfl (Ev.move (.t rfl)) ?_
        refine al1 8 rfl ((calln (X := PT × List Res) (PutJ (PT.kid bb l r) (putT p v (PT.kid bb l r).tr).1) (fun x => .tuple #[x.1.ptr.v, .bool (putT p v (PT.kid bb l r).tr).2]) (fun x => x.2) en35 (.cons (.t rfl) (.cons (.t rfl) (.cons (.t rfl) .nil))) (fun w I => ih bb _ w (PT.At.kid (hat.2.1.keep I.keeps) (hat.2.2.keep I.keeps) bb) (kid_wf hw.2.2.1 hw.2.2.2.1 bb) e2) (fun x1 hx1 => ?_)))
        refine hdn (tk 9 rfl (Ev.move (.t rfl)) ?_)
        refine tk 10 rfl (Ev.extract (.t rfl) rfl) ?_
        refine tk 11 rfl (Ev.extract (.t rfl) rfl) ?_
        refine tk 12 rfl (Ev.assign (.t rfl)) ?_
        refine tk 13 rfl (Ev.assign (.t rfl)) ?_
        refine ovr (pN (seq (region (cons (opv (Ev.move (.t rfl)) (cons (opv (Ev.move (.t rfl)) (cons (opv (Ev.fieldAddr (o := 20) (.t rfl) (by kernel_rfl)) ?_)))))))))
        refine cons (opv (Ev.indexAddrA Try.underlying58 ty57 (.t rfl) (.t rfl) (fun _ => by omega)) ?_)
        refine cons (stv ty57 (Lens.comp STrieNode.l_kids (lArr (n := 2) (ovE nilPtr) _ (by omega))) (.t rfl) (.t rfl) ?_)
        refine nil (pN (seq (region (cons (opv (Ev.move (.t rfl)) (cons (opv (Ev.assign (.t rfl)) (cons (opv (Ev.assign (.t rfl)) (nil (pN (ret (bR (pR (done rfl (.tmp rfl (.tmp rfl .nil)) (fun w I => ?_))))))))))))))))
        cases bb with
        | true =>
          have ep : putT p v (.node q u h l.tr r.tr) = (.node q u h l.tr (putT p v r.tr).1, (putT p v r.tr).2) := by show Tr.put _ _ _ _ _ = _; rw [Tr.put, if_neg hqp, if_pos e1, if_pos hbb]
          exact retNP (PT.node b4 q u h l x1.1, Var b4 eTrieNode (⟨q, u, h, kids l x1.1⟩ : STrieNode) 91 :: x1.2) ⟨by rw [ep]; exact congrArg (Tr.node q u h l.tr) hx1.1, fun w1 ho hh => ⟨pts_mem (T := 91) hh List.mem_cons_self, ho.2.1, hx1.2 w1 ho.2.2 (fun q hq => hh q (List.mem_cons_of_mem _ hq))⟩⟩ (by rw [ep]; rfl) (by repeat first | refine SubP.cons (by repeat first | exact Rem.head | apply Rem.tail | apply Rem.app) ?_ | exact SubP.of (by repeat first | exact sR | apply sS | exact List.sublist_append_left _ _)) w I
        | false =>
          have ep : putT p v (.node q u h l.tr r.tr) = (.node q u h (putT p v l.tr).1 r.tr, (putT p v l.tr).2) := by show Tr.put _ _ _ _ _ = _; rw [Tr.put, if_neg hqp, if_pos e1, if_neg (by rw [hbb]; exact Bool.false_ne_true)]
          exact retNP (PT.node b4 q u h x1.1 r, Var b4 eTrieNode (⟨q, u, h, kids x1.1 r⟩ : STrieNode) 91 :: x1.2) ⟨by rw [ep]; exact congrArg (fun z => Tr.node q u h z r.tr) hx1.1, fun w1 ho hh => ⟨pts_mem (T := 91) hh List.mem_cons_self, hx1.2 w1 ho.2.1 (fun q hq => hh q (List.mem_cons_of_mem _ hq)), ho.2.2⟩⟩ (by rw [ep]; rfl) (by repeat first | refine SubP.cons (by repeat first | exact Rem.head | apply Rem.tail | apply Rem.app) ?_ | exact SubP.of (by repeat first | exact sR | apply sS | exact List.sublist_append_left _ _)) w I
      · have e0 : bothP q p ≠ q := by rw [hc0]; exact eqb_no h2
        refine seq (region (cons (opv (Ev.ldv ty36 (.t rfl) (Lens.id _)) ?_)))
        refine cons (opv (Ev.eqlS rfl eqok36 rfl (by kernel_rfl) (.t rfl) (.t rfl)) ?_)
        refine cons (opv (Ev.assign (.t rfl)) (nil (pN ?_)))
        first | refine condD rfl (fun h3 => ?_) (fun h3 => ?_) | refine cond rfl (fun h3 => ?_) (fun h3 => ?_)
        · have e1 : bothP q p = p := hc0.trans ((SPrefix.eqb_iff _ _).1 h3)
          obtain ⟨bb, hbb⟩ : ∃ z, bitP p q = z := ⟨_, rfl⟩
          have e2 : pb p ++ [bb] <+: pb q := by
            rcases hway with ⟨g, _⟩ | ⟨_, _, g⟩ | ⟨_, g, _⟩
            · exact absurd g e0
            · rw [← hbb]; exact g
            · exact absurd e1 g
          have hlt := snoc_lt hp hq e2
          have hbn := bI_nn bb
          have hbt : (bI bb).toNat < 2 := by omega
          refine seq (region (cons (opv (Ev.ldv ty36 (.t rfl) (Lens.id _)) ?_)))
          refine cons (opv (Ev.move (.t rfl)) (cons (opv (Ev.buildS (fs := _) (places := [(0, 18), (18, 1), (19, 1), (20, 2)]) z91 rfl Try.underlying91 (by kernel_rfl) (.cons (.t rfl) (.cons (.t rfl) (.cons (.c (v := .bool true) rfl) .nil))) (Fills.cons STrieNode.l_p rfl (Fills.cons STrieNode.l_v rfl (Fills.cons STrieNode.l_has rfl Fills.nil)))) ?_)))
          refine cons (box (E := eTrieNode) (.t rfl) (fun b5 => ?_))
          refine cons (opv (Ev.assign (.t rfl)) (nil (pN (seq (drawS 87 rfl (by repeat first | exact Rem.head | apply Rem.tail) (by kernel_rfl) ?_)))))
          refine tk 0 rfl (Ev.move (.t rfl)) ?_
          refine tk 1 rfl (Ev.move (.t rfl)) ?_
          refine tk 2 rfl (Ev.nilCheck (.t rfl)) ?_
          refine tk 3 rfl (Ev.fieldAddr (o := 0) (.t rfl) (by kernel_rfl)) ?_
          refine tk 4 rfl (Ev.fieldAddr (o := 0) (.t rfl) (by kernel_rfl)) ?_
          refine tk 5 rfl (Ev.load ty31 (.t rfl) (ptsL (fun w I => (hat.1).keep I.keeps) (Lens.comp STrieNode.l_p SPrefix.l_addr))) ?_
          refine tk 6 rfl (Ev.fieldAddr (o := 17) (.t rfl) (by kernel_rfl)) ?_
          refine tk 7 rfl (Ev.ldv ty3 (.t rfl) SPrefix.l_bits) ?_
          refine tk 9 rfl (Ev.to (v' := (PT.node b q u h l r).ptr.v) (Ev.move (.t rfl)) (rfl)) ?_
          refine tk 10 rfl (Ev.nilCheck (.t rfl)) ?_
          refine tk 11 rfl (Ev.fieldAddr (o := 20) (.t rfl) (by kernel_rfl)) ?_
          refine al1 8 rfl ((callv en58 (.cons (.t rfl) (.cons (.t rfl) .nil)) (fun w I => bit_g _ _ w hlt bb hbb) ?_))
          refine hdn (tk 12 rfl (Ev.indexAddrA Try.underlying58 ty57 (.t rfl) (.t rfl) (fun _ => by omega)) ?_)
          refine al1 13 rfl ((stv ty57 (Lens.comp STrieNode.l_kids (lArr (n := 2) (ovE nilPtr) _ (by omega))) (.t rfl) (.t rfl) ?_))
          refine hdn (ovr (pN (seq (region (cons (opv (Ev.move (.t rfl)) (cons (opv (Ev.assign (.t rfl)) (cons (opv (Ev.assign (.c (v := .bool true) rfl)) ?_))))))))))
          refine nil (pN (ret (bR (pR (done rfl (.tmp rfl (.tmp rfl .nil)) (fun w I => ?_))))))
          cases bb with
          | true =>
            have ep : putT p v (.node q u h l.tr r.tr) = (.node p v true .nil (.node q u h l.tr r.tr), true) := by show Tr.put _ _ _ _ _ = _; rw [Tr.put, if_neg hqp, if_neg e0, if_pos e1, if_pos hbb]
            exact retNP (PT.node b5 p v true .nil (PT.node b q u h l r), [Var b5 eTrieNode (⟨p, v, true, kids .nil (PT.node b q u h l r)⟩ : STrieNode) 91]) ⟨by rw [ep]; rfl, fun w1 ho hh => ⟨pts_mem (T := 91) hh (by simp), trivial, ho⟩⟩ (by rw [ep]; rfl) (by repeat first | exact SubP.nil | refine SubP.cons (by repeat first | exact Rem.head | apply Rem.tail) ?_) w I
          | false =>
            have ep : putT p v (.node q u h l.tr r.tr) = (.node p v true (.node q u h l.tr r.tr) .nil, true) := by show Tr.put _ _ _ _ _ = _; rw [Tr.put, if_neg hqp, if_neg e0, if_pos e1, if_neg (by rw [hbb]; exact Bool.false_ne_true)]
            exact retNP (PT.node b5 p v true (PT.node b q u h l r) .nil, [Var b5 eTrieNode (⟨p, v, true, kids (PT.node b q u h l r) .nil⟩ : STrieNode) 91]) ⟨by rw [ep]; rfl, fun w1 ho hh => ⟨pts_mem (T := 91) hh (by simp), ho, trivial⟩⟩ (by rw [ep]; rfl) (by repeat first | exact SubP.nil | refine SubP.cons (by repeat first | exact Rem.head | apply Rem.tail) ?_) w I
        · have e1 : bothP q p ≠ p := by rw [hc0]; exact eqb_no h3
          obtain ⟨bp, hbp⟩ : ∃ z, bitP c0 p = z := ⟨_, rfl⟩
          obtain ⟨bq, hbq⟩ : ∃ z, bitP c0 q = z := ⟨_, rfl⟩
          obtain ⟨g2, g5, g6⟩ : okP k c0 ∧ bq = (!bp) ∧ pb c0 ++ [bp] <+: pb p := by
            rcases hway with ⟨g, _⟩ | ⟨_, g, _⟩ | ⟨_, _, a2, _, a4, _, a6⟩
            · exact absurd g e0
            · exact absurd g e1
            · rw [hc0] at a2 a4 a6
              rw [hbp] at a4 a6
              exact ⟨a2, hbq.symm.trans a4, a6⟩
          have hbqp := g5
          have hlt := snoc_lt g2 hp g6
          have hbn := bI_nn bp
          have hbt : (bI bp).toNat < 2 := by omega
          have hbn2 := bI_nn bq
          have hbt2 : (bI bq).toNat < 2 := by omega
          refine skip (bN (pN (seq (region (cons (opv (Ev.ldv ty36 (.t rfl) (Lens.id _)) ?_))))))
          refine cons (opv (Ev.buildS (fs := _) (places := [(0, 18), (18, 1), (19, 1), (20, 2)]) z91 rfl Try.underlying91 (by kernel_rfl) (.cons (.t rfl) .nil) (Fills.cons STrieNode.l_p rfl Fills.nil)) ?_)
          refine cons (box (E := eTrieNode) (.t rfl) (fun b6 => ?_))
          refine cons (opv (Ev.assign (.t rfl)) (nil (pN (seq (drawS 104 rfl (by repeat first | exact Rem.head | apply Rem.tail) (by kernel_rfl) ?_)))))
          refine tk 0 rfl (Ev.move (.t rfl)) ?_
          refine tk 1 rfl (Ev.move (.t rfl)) ?_
          refine tk 2 rfl (Ev.nilCheck (.t rfl)) ?_
          refine tk 3 rfl (Ev.fieldAddr (o := 0) (.t rfl) (by kernel_rfl)) ?_
          refine tk 4 rfl (Ev.fieldAddr (o := 0) (.t rfl) (by kernel_rfl)) ?_
          refine tk 5 rfl (Ev.load ty31 (.t rfl) (ptsL (fun w I => (hat.1).keep I.keeps) (Lens.comp STrieNode.l_p SPrefix.l_addr))) ?_
          refine tk 6 rfl (Ev.fieldAddr (o := 17) (.t rfl) (by kernel_rfl)) ?_
          refine tk 7 rfl (Ev.ldv ty3 (.t rfl) SPrefix.l_bits) ?_
          refine tk 9 rfl (Ev.to (v' := (PT.node b q u h l r).ptr.v) (Ev.move (.t rfl)) (rfl)) ?_
          refine tk 10 rfl (Ev.nilCheck (.t rfl)) ?_
          refine tk 11 rfl (Ev.fieldAddr (o := 20) (.t rfl) (by kernel_rfl)) ?_
          refine al1 8 rfl ((callv en58 (.cons (.t rfl) (.cons (.t rfl) .nil)) (fun w I => bit_g _ _ w hlt bq hbq) ?_))
          refine hdn (tk 12 rfl (Ev.indexAddrA Try.underlying58 ty57 (.t rfl) (.t rfl) (fun _ => by omega)) ?_)
          refine al1 13 rfl ((stv ty57 (Lens.comp STrieNode.l_kids (lArr (n := 2) (ovE nilPtr) _ (by omega))) (.t rfl) (.t rfl) ?_))
          refine hdn (ovr (pN (seq (drawS 104 rfl (by repeat first | exact Rem.head | apply Rem.tail) (by kernel_rfl) ?_))))
          refine tk 0 rfl (Ev.move (.t rfl)) ?_
          refine tk 1 rfl (Ev.fieldAddr (o := 0) (.t rfl) (by kernel_rfl)) ?_
          refine tk 2 rfl (Ev.ldv ty31 (.t rfl) SPrefix.l_addr) ?_
          refine tk 3 rfl (Ev.fieldAddr (o := 17) (.t rfl) (by kernel_rfl)) ?_
          refine tk 4 rfl (Ev.ldv ty3 (.t rfl) SPrefix.l_bits) ?_
          refine tk 6 rfl (Ev.ldv ty36 (.t rfl) (Lens.id _)) ?_
          refine tk 7 rfl (Ev.move (.t rfl)) ?_
          refine tk 8 rfl (Ev.buildS (fs := _) (places := [(0, 18), (18, 1), (19, 1), (20, 2)]) z91 rfl Try.underlying91 (by kernel_rfl) (.cons (.t rfl) (.cons (.t rfl) (.cons (.c (v := .bool true) rfl) .nil))) (Fills.cons STrieNode.l_p rfl (Fills.cons STrieNode.l_v rfl (Fills.cons STrieNode.l_has rfl Fills.nil)))) ?_
          refine tk 10 rfl (Ev.nilCheck (.t rfl)) ?_
          refine tk 11 rfl (Ev.fieldAddr (o := 20) (.t rfl) (by kernel_rfl)) ?_
          refine all [5, 9] (by kernel_rfl) (by decide) (.cons rfl ?_ (.cons rfl ?_ .nil))
          · refine (callv en58 (.cons (.t rfl) (.cons (.t rfl) .nil)) (fun w I => bit_g _ _ w hlt bp hbp) ?_)
            refine hdn (al1 9 rfl ((box (E := eTrieNode) (.t rfl) (fun b7 => ?_))))
            refine hdn (tk 12 rfl (Ev.indexAddrA Try.underlying58 ty57 (.t rfl) (.t rfl) (fun _ => by omega)) ?_)
            refine al1 13 rfl ((stv ty57 (Lens.comp STrieNode.l_kids (lArr (n := 2) (ovE nilPtr) _ (by omega))) (.t rfl) (.t (v := (PT.node b7 p v true .nil .nil).ptr.v) rfl) ?_))
            refine hdn (ovr (pN (seq (region (cons (opv (Ev.move (.t rfl)) (cons (opv (Ev.assign (.t rfl)) (cons (opv (Ev.assign (.c (v := .bool true) rfl)) ?_))))))))))
            refine nil (pN (ret (done rfl (.tmp rfl (.tmp rfl .nil)) (fun w I => ?_))))
            cases bp with
            | true =>
              obtain rfl : bq = false := hbqp
              have ep : putT p v (.node q u h l.tr r.tr) = (.node c0 0 false (.node q u h l.tr r.tr) (.node p v true .nil .nil), true) := by show Tr.put _ _ _ _ _ = _; rw [Tr.put, if_neg hqp, if_neg e0, if_neg e1, hc0, if_pos hbp]
              exact retNP (PT.node b6 c0 0 false (PT.node b q u h l r) (PT.node b7 p v true .nil .nil), [Var b7 eTrieNode (⟨p, v, true, kids .nil .nil⟩ : STrieNode) 91, Var b6 eTrieNode (⟨c0, 0, false, kids (PT.node b q u h l r) (PT.node b7 p v true .nil .nil)⟩ : STrieNode) 91]) ⟨by rw [ep]; rfl, fun w1 ho hh => ⟨pts_mem (T := 91) hh (by simp), ho, pts_mem (T := 91) hh (by simp), trivial, trivial⟩⟩ (by rw [ep]; rfl) (by repeat first | exact SubP.nil | refine SubP.cons (by repeat first | exact Rem.head | apply Rem.tail) ?_) w I
            | false =>
              obtain rfl : bq = true := hbqp
              have ep : putT p v (.node q u h l.tr r.tr) = (.node c0 0 false (.node p v true .nil .nil) (.node q u h l.tr r.tr), true) := by show Tr.put _ _ _ _ _ = _; rw [Tr.put, if_neg hqp, if_neg e0, if_neg e1, hc0, if_neg (by rw [hbp]; exact Bool.false_ne_true)]
              exact retNP (PT.node b6 c0 0 false (PT.node b7 p v true .nil .nil) (PT.node b q u h l r), [Var b7 eTrieNode (⟨p, v, true, kids .nil .nil⟩ : STrieNode) 91, Var b6 eTrieNode (⟨c0, 0, false, kids (PT.node b7 p v true .nil .nil) (PT.node b q u h l r)⟩ : STrieNode) 91]) ⟨by rw [ep]; rfl, fun w1 ho hh => ⟨pts_mem (T := 91) hh (by simp), ⟨pts_mem (T := 91) hh (by simp), trivial, trivial⟩, ho⟩⟩ (by rw [ep]; rfl) (by repeat first | exact SubP.nil | refine SubP.cons (by repeat first | exact Rem.head | apply Rem.tail) ?_) w I
          · refine (box (E := eTrieNode) (.t rfl) (fun b8 => ?_))
            refine hdn (al1 5 rfl ((callv en58 (.cons (.t rfl) (.cons (.t rfl) .nil)) (fun w I => bit_g _ _ w hlt bp hbp) ?_)))
            refine hdn (tk 12 rfl (Ev.indexAddrA Try.underlying58 ty57 (.t rfl) (.t rfl) (fun _ => by omega)) ?_)
            refine al1 13 rfl ((stv ty57 (Lens.comp STrieNode.l_kids (lArr (n := 2) (ovE nilPtr) _ (by omega))) (.t rfl) (.t (v := (PT.node b8 p v true .nil .nil).ptr.v) rfl) ?_))
            refine hdn (ovr (pN (seq (region (cons (opv (Ev.move (.t rfl)) (cons (opv (Ev.assign (.t rfl)) (cons (opv (Ev.assign (.c (v := .bool true) rfl)) ?_))))))))))
            refine nil (pN (ret (done rfl (.tmp rfl (.tmp rfl .nil)) (fun w I => ?_))))
            cases bp with
            | true =>
              obtain rfl : bq = false := hbqp
              have ep : putT p v (.node q u h l.tr r.tr) = (.node c0 0 false (.node q u h l.tr r.tr) (.node p v true .nil .nil), true) := by show Tr.put _ _ _ _ _ = _; rw [Tr.put, if_neg hqp, if_neg e0, if_neg e1, hc0, if_pos hbp]
              exact retNP (PT.node b6 c0 0 false (PT.node b q u h l r) (PT.node b8 p v true .nil .nil), [Var b8 eTrieNode (⟨p, v, true, kids .nil .nil⟩ : STrieNode) 91, Var b6 eTrieNode (⟨c0, 0, false, kids (PT.node b q u h l r) (PT.node b8 p v true .nil .nil)⟩ : STrieNode) 91]) ⟨by rw [ep]; rfl, fun w1 ho hh => ⟨pts_mem (T := 91) hh (by simp), ho, pts_mem (T := 91) hh (by simp), trivial, trivial⟩⟩ (by rw [ep]; rfl) (by repeat first | exact SubP.nil | refine SubP.cons (by repeat first | exact Rem.head | apply Rem.tail) ?_) w I
            | false =>
              obtain rfl : bq = true := hbqp
              have ep : putT p v (.node q u h l.tr r.tr) = (.node c0 0 false (.node p v true .nil .nil) (.node q u h l.tr r.tr), true) := by show Tr.put _ _ _ _ _ = _; rw [Tr.put, if_neg hqp, if_neg e0, if_neg e1, hc0, if_neg (by rw [hbp]; exact Bool.false_ne_true)]
              exact retNP (PT.node b6 c0 0 false (PT.node b8 p v true .nil .nil) (PT.node b q u h l r), [Var b8 eTrieNode (⟨p, v, true, kids .nil .nil⟩ : STrieNode) 91, Var b6 eTrieNode (⟨c0, 0, false, kids (PT.node b8 p v true .nil .nil) (PT.node b q u h l r)⟩ : STrieNode) 91]) ⟨by rw [ep]; rfl, fun w1 ho hh => ⟨pts_mem (T := 91) hh (by simp), ⟨pts_mem (T := 91) hh (by simp), trivial, trivial⟩, ho⟩⟩ (by rw [ep]; rfl) (by repeat first | exact SubP.nil | refine SubP.cons (by repeat first | exact Rem.head | apply Rem.tail) ?_) w I
    · refine (alloc z36 (fun b9 => ?_))
      refine hdn (al1 5 rfl ((callv en57 (.cons (.t rfl) (.cons (.t rfl) .nil)) (fun w I => both_g k q p w hq hp c0 hc0) ?_)))
      refine hdn (al1 7 rfl ((stv ty36 (Lens.id _) (.t rfl) (.t rfl) ?_)))
      refine hdn (ovr (pN (seq (seq (region (cons (opv (Ev.ldv ty36 (.t rfl) (Lens.id _)) ?_)))))))
      refine nil (pN (block (seq (region (cons (opv (Ev.move (.t rfl)) (cons (opv (Ev.nilCheck (.t rfl)) ?_))))))))
      refine cons (opv (Ev.fieldAddr (o := 0) (.t rfl) (by kernel_rfl)) ?_)
      refine cons (opv (Ev.load ty36 (.t rfl) (ptsL (fun w I => (hat.1).keep I.keeps) STrieNode.l_p)) ?_)
      refine cons (opv (Ev.eqlS rfl eqok36 rfl (by kernel_rfl) (.t rfl) (.t rfl)) ?_)
      refine cons (opv (Ev.assign (.t rfl)) (nil (pN ?_)))
      first | refine condD rfl (fun h2 => ?_) (fun h2 => ?_) | refine cond rfl (fun h2 => ?_) (fun h2 => ?_)
      · have e1 : bothP q p = q := hc0.trans ((SPrefix.eqb_iff _ _).1 h2)
        obtain ⟨bb, hbb⟩ : ∃ z, bitP q p = z := ⟨_, rfl⟩
        have e2 : pb q ++ [bb] <+: pb p := by
          rcases hway with ⟨_, g⟩ | ⟨g, _⟩ | ⟨g, _⟩
          · rw [← hbb]; exact g
          · exact absurd e1 g
          · exact absurd e1 g
        have hlt := snoc_lt hq hp e2
        have hbn := bI_nn bb
        have hbt : (bI bb).toNat < 2 := by omega
        refine seq (region (cons (opv (Ev.move (.t rfl)) (cons (opv (Ev.nilCheck (.t rfl)) ?_)))))
        refine cons (opv (Ev.load ty91 (.t rfl) (ptsL (fun w I => (hat.1).keep I.keeps) (Lens.id _))) ?_)
        refine cons (alloc z91 (fun b10 => ?_))
        refine cons (stv ty91 (Lens.id _) (.t rfl) (.t rfl) ?_)
        refine nil (pN (seq (draw' (by kernel_rfl) ?_)))
        refine tk 0 rfl (Ev.fieldAddr (o := 0) (.t rfl) (by kernel_rfl)) ?_
        refine tk 1 rfl (Ev.ldv ty31 (.t rfl) SPrefix.l_addr) ?_
        refine tk 2 rfl (Ev.move (.t rfl)) ?_
        refine tk 3 rfl (Ev.nilCheck (.t rfl)) ?_
        refine tk 4 rfl (Ev.fieldAddr (o := 0) (.t rfl) (by kernel_rfl)) ?_
        refine tk 5 rfl (Ev.fieldAddr (o := 17) (.t rfl) (by kernel_rfl)) ?_
        refine tk 6 rfl (Ev.load ty3 (.t rfl) (ptsL (fun w I => (hat.1).keep I.keeps) (Lens.comp STrieNode.l_p SPrefix.l_bits))) ?_
        refine al1 7 rfl ((callv en58 (.cons (.t rfl) (.cons (.t rfl) .nil)) (fun w I => bit_g _ _ w hlt bb hbb) ?_))
        refine hdn (tk 8 rfl (Ev.assign (.t rfl)) ?_)
        refine ovr (pN (seq (draw' (by kernel_rfl) ?_)))
        refine tk 0 rfl (Ev.move (.t rfl)) ?_
        refine tk 1 rfl (Ev.move (.t rfl)) ?_
        refine tk 2 rfl (Ev.nilCheck (.t rfl)) ?_
        refine tk 3 rfl (Ev.fieldAddr (o := 20) (.t rfl) (by kernel_rfl)) ?_
        refine tk 4 rfl (Ev.indexAddrA Try.underlying58 ty57 (.t rfl) (.t rfl) (fun _ => by omega)) ?_
        refine tk 5 rfl (Ev.to (v' := (PT.kid bb l r).ptr.v) (Ev.load ty57 (.t rfl) (ptsL (fun w I => (hat.1).keep I.keeps) (Lens.comp STrieNode.l_kids (lArr (n := 2) (ovE nilPtr) _ (by omega))))) (congrArg OV.v (kids_at l r bb hbt))) ?_
        refine tk 6 rfl (Ev.ldv ty36 (.t rfl) (Lens.id _)) ?_
        refine tk 7 rfl (Ev.move (.t rfl)) ?_
        refine al1 8 rfl ((calln (X := PT × List Res) (PutJ (PT.kid bb l r) (putT p v (PT.kid bb l r).tr).1) (fun x => .tuple #[x.1.ptr.v, .bool (putT p v (PT.kid bb l r).tr).2]) (fun x => x.2) en35 (.cons (.t rfl) (.cons (.t rfl) (.cons (.t rfl) .nil))) (fun w I => ih bb _ w (PT.At.kid (hat.2.1.keep I.keeps) (hat.2.2.keep I.keeps) bb) (kid_wf hw.2.2.1 hw.2.2.2.1 bb) e2) (fun x1 hx1 => ?_)))
        refine hdn (tk 9 rfl (Ev.move (.t rfl)) ?_)
        refine tk 10 rfl (Ev.extract (.t rfl) rfl) ?_
        refine tk 11 rfl (Ev.extract (.t rfl) rfl) ?_
        refine tk 12 rfl (Ev.assign (.t rfl)) ?_
        refine tk 13 rfl (Ev.assign (.t rfl)) ?_
        refine ovr (pN (seq (region (cons (opv (Ev.move (.t rfl)) (cons (opv (Ev.move (.t rfl)) (cons (opv (Ev.fieldAddr (o := 20) (.t rfl) (by kernel_rfl)) ?_)))))))))
        refine cons (opv (Ev.indexAddrA Try.underlying58 ty57 (.t rfl) (.t rfl) (fun _ => by omega)) ?_)
        refine cons (stv ty57 (Lens.comp STrieNode.l_kids (lArr (n := 2) (ovE nilPtr) _ (by omega))) (.t rfl) (.t rfl) ?_)
        refine nil (pN (seq (region (cons (opv (Ev.move (.t rfl)) (cons (opv (Ev.assign (.t rfl)) (cons (opv (Ev.assign (.t rfl)) (nil (pN (ret (bR (pR (done rfl (.tmp rfl (.tmp rfl .nil)) (fun w I => ?_))))))))))))))))
        cases bb with
        | true =>
          have ep : putT p v (.node q u h l.tr r.tr) = (.node q u h l.tr (putT p v r.tr).1, (putT p v r.tr).2) := by show Tr.put _ _ _ _ _ = _; rw [Tr.put, if_neg hqp, if_pos e1, if_pos hbb]
          exact retNP (PT.node b10 q u h l x1.1, Var b10 eTrieNode (⟨q, u, h, kids l x1.1⟩ : STrieNode) 91 :: x1.2) ⟨by rw [ep]; exact congrArg (Tr.node q u h l.tr) hx1.1, fun w1 ho hh => ⟨pts_mem (T := 91) hh List.mem_cons_self, ho.2.1, hx1.2 w1 ho.2.2 (fun q hq => hh q (List.mem_cons_of_mem _ hq))⟩⟩ (by rw [ep]; rfl) (by repeat first | refine SubP.cons (by repeat first | exact Rem.head | apply Rem.tail | apply Rem.app) ?_ | exact SubP.of (by repeat first | exact sR | apply sS | exact List.sublist_append_left _ _)) w I
        | false =>
          have ep : putT p v (.node q u h l.tr r.tr) = (.node q u h (putT p v l.tr).1 r.tr, (putT p v l.tr).2) := by show Tr.put _ _ _ _ _ = _; rw [Tr.put, if_neg hqp, if_pos e1, if_neg (by rw [hbb]; exact Bool.false_ne_true)]
          exact retNP (PT.node b10 q u h x1.1 r, Var b10 eTrieNode (⟨q, u, h, kids x1.1 r⟩ : STrieNode) 91 :: x1.2) ⟨by rw [ep]; exact congrArg (fun z => Tr.node q u h z r.tr) hx1.1, fun w1 ho hh => ⟨pts_mem (T := 91) hh List.mem_cons_self, hx1.2 w1 ho.2.1 (fun q hq => hh q (List.mem_cons_of_mem _ hq)), ho.2.2⟩⟩ (by rw [ep]; rfl) (by repeat first | refine SubP.cons (by repeat first | exact Rem.head | apply Rem.tail | apply Rem.app) ?_ | exact SubP.of (by repeat first | exact sR | apply sS | exact List.sublist_append_left _ _)) w I
      · have e0 : bothP q p ≠ q := by rw [hc0]; exact eqb_no h2
        refine seq (region (cons (opv (Ev.ldv ty36 (.t rfl) (Lens.id _)) ?_)))
        refine cons (opv (Ev.eqlS rfl eqok36 rfl (by kernel_rfl) (.t rfl) (.t rfl)) ?_)
        refine cons (opv (Ev.assign (.t rfl)) (nil (pN ?_)))
        first | refine condD rfl (fun h3 => ?_) (fun h3 => ?_) | refine cond rfl (fun h3 => ?_) (fun h3 => ?_)
        · have e1 : bothP q p = p := hc0.trans ((SPrefix.eqb_iff _ _).1 h3)
          obtain ⟨bb, hbb⟩ : ∃ z, bitP p q = z := ⟨_, rfl⟩
          have e2 : pb p ++ [bb] <+: pb q := by
            rcases hway with ⟨g, _⟩ | ⟨_, _, g⟩ | ⟨_, g, _⟩
            · exact absurd g e0
            · rw [← hbb]; exact g
            · exact absurd e1 g
          have hlt := snoc_lt hp hq e2
          have hbn := bI_nn bb
          have hbt : (bI bb).toNat < 2 := by omega
          refine seq (region (cons (opv (Ev.ldv ty36 (.t rfl) (Lens.id _)) ?_)))
          refine cons (opv (Ev.move (.t rfl)) (cons (opv (Ev.buildS (fs := _) (places := [(0, 18), (18, 1), (19, 1), (20, 2)]) z91 rfl Try.underlying91 (by kernel_rfl) (.cons (.t rfl) (.cons (.t rfl) (.cons (.c (v := .bool true) rfl) .nil))) (Fills.cons STrieNode.l_p rfl (Fills.cons STrieNode.l_v rfl (Fills.cons STrieNode.l_has rfl Fills.nil)))) ?_)))
          refine cons (box (E := eTrieNode) (.t rfl) (fun b11 => ?_))
          refine cons (opv (Ev.assign (.t rfl)) (nil (pN (seq (drawS 87 rfl (by repeat first | exact Rem.head | apply Rem.tail) (by kernel_rfl) ?_)))))
          refine tk 0 rfl (Ev.move (.t rfl)) ?_
          refine tk 1 rfl (Ev.move (.t rfl)) ?_
          refine tk 2 rfl (Ev.nilCheck (.t rfl)) ?_
          refine tk 3 rfl (Ev.fieldAddr (o := 0) (.t rfl) (by kernel_rfl)) ?_
          refine tk 4 rfl (Ev.fieldAddr (o := 0) (.t rfl) (by kernel_rfl)) ?_
          refine tk 5 rfl (Ev.load ty31 (.t rfl) (ptsL (fun w I => (hat.1).keep I.keeps) (Lens.comp STrieNode.l_p SPrefix.l_addr))) ?_
          refine tk 6 rfl (Ev.fieldAddr (o := 17) (.t rfl) (by kernel_rfl)) ?_
          refine tk 7 rfl (Ev.ldv ty3 (.t rfl) SPrefix.l_bits) ?_
          refine tk 9 rfl (Ev.to (v' := (PT.node b q u h l r).ptr.v) (Ev.move (.t rfl)) (rfl)) ?_
          refine tk 10 rfl (Ev.nilCheck (.t rfl)) ?_
          refine tk 11 rfl (Ev.fieldAddr (o := 20) (.t rfl) (by kernel_rfl)) ?_
          refine al1 8 rfl ((callv en58 (.cons (.t rfl) (.cons (.t rfl) .nil)) (fun w I => bit_g _ _ w hlt bb hbb) ?_))
          refine hdn (tk 12 rfl (Ev.indexAddrA Try.underlying58 ty57 (.t rfl) (.t rfl) (fun _ => by omega)) ?_)
          refine al1 13 rfl ((stv ty57 (Lens.comp STrieNode.l_kids (lArr (n := 2) (ovE nilPtr) _ (by omega))) (.t rfl) (.t rfl) ?_))
          refine hdn (ovr (pN (seq (region (cons (opv (Ev.move (.t rfl)) (cons (opv (Ev.assign (.t rfl)) (cons (opv (Ev.assign (.c (v := .bool true) rfl)) ?_))))))))))
          refine nil (pN (ret (bR (pR (done rfl (.tmp rfl (.tmp rfl .nil)) (fun w I => ?_))))))
          cases bb with
          | true =>
            have ep : putT p v (.node q u h l.tr r.tr) = (.node p v true .nil (.node q u h l.tr r.tr), true) := by show Tr.put _ _ _ _ _ = _; rw [Tr.put, if_neg hqp, if_neg e0, if_pos e1, if_pos hbb]
            exact retNP (PT.node b11 p v true .nil (PT.node b q u h l r), [Var b11 eTrieNode (⟨p, v, true, kids .nil (PT.node b q u h l r)⟩ : STrieNode) 91]) ⟨by rw [ep]; rfl, fun w1 ho hh => ⟨pts_mem (T := 91) hh (by simp), trivial, ho⟩⟩ (by rw [ep]; rfl) (by repeat first | exact SubP.nil | refine SubP.cons (by repeat first | exact Rem.head | apply Rem.tail) ?_) w I
          | false =>
            have ep : putT p v (.node q u h l.tr r.tr) = (.node p v true (.node q u h l.tr r.tr) .nil, true) := by show Tr.put _ _ _ _ _ = _; rw [Tr.put, if_neg hqp, if_neg e0, if_pos e1, if_neg (by rw [hbb]; exact Bool.false_ne_true)]
            exact retNP (PT.node b11 p v true (PT.node b q u h l r) .nil, [Var b11 eTrieNode (⟨p, v, true, kids (PT.node b q u h l r) .nil⟩ : STrieNode) 91]) ⟨by rw [ep]; rfl, fun w1 ho hh => ⟨pts_mem (T := 91) hh (by simp), ho, trivial⟩⟩ (by rw [ep]; rfl) (by repeat first | exact SubP.nil | refine SubP.cons (by repeat first | exact Rem.head | apply Rem.tail) ?_) w I
        · have e1 : bothP q p ≠ p := by rw [hc0]; exact eqb_no h3
          obtain ⟨bp, hbp⟩ : ∃ z, bitP c0 p = z := ⟨_, rfl⟩
          obtain ⟨bq, hbq⟩ : ∃ z, bitP c0 q = z := ⟨_, rfl⟩
          obtain ⟨g2, g5, g6⟩ : okP k c0 ∧ bq = (!bp) ∧ pb c0 ++ [bp] <+: pb p := by
            rcases hway with ⟨g, _⟩ | ⟨_, g, _⟩ | ⟨_, _, a2, _, a4, _, a6⟩
            · exact absurd g e0
            · exact absurd g e1
            · rw [hc0] at a2 a4 a6
              rw [hbp] at a4 a6
              exact ⟨a2, hbq.symm.trans a4, a6⟩
          have hbqp := g5
          have hlt := snoc_lt g2 hp g6
          have hbn := bI_nn bp
          have hbt : (bI bp).toNat < 2 := by omega
          have hbn2 := bI_nn bq
          have hbt2 : (bI bq).toNat < 2 := by omega
          refine skip (bN (pN (seq (region (cons (opv (Ev.ldv ty36 (.t rfl) (Lens.id _)) ?_))))))
          refine cons (opv (Ev.buildS (fs := _) (places := [(0, 18), (18, 1), (19, 1), (20, 2)]) z91 rfl Try.underlying91 (by kernel_rfl) (.cons (.t rfl) .nil) (Fills.cons STrieNode.l_p rfl Fills.nil)) ?_)
          refine cons (box (E := eTrieNode) (.t rfl) (fun b12 => ?_))
          refine cons (opv (Ev.assign (.t rfl)) (nil (pN (seq (drawS 104 rfl (by repeat first | exact Rem.head | apply Rem.tail) (by kernel_rfl) ?_)))))
          refine tk 0 rfl (Ev.move (.t rfl)) ?_
          refine tk 1 rfl (Ev.move (.t rfl)) ?_
          refine tk 2 rfl (Ev.nilCheck (.t rfl)) ?_
          refine tk 3 rfl (Ev.fieldAddr (o := 0) (.t rfl) (by kernel_rfl)) ?_
          refine tk 4 rfl (Ev.fieldAddr (o := 0) (.t rfl) (by kernel_rfl)) ?_
          refine tk 5 rfl (Ev.load ty31 (.t rfl) (ptsL (fun w I => (hat.1).keep I.keeps) (Lens.comp STrieNode.l_p SPrefix.l_addr))) ?_
          refine tk 6 rfl (Ev.fieldAddr (o := 17) (.t rfl) (by kernel_rfl)) ?_
          refine tk 7 rfl (Ev.ldv ty3 (.t rfl) SPrefix.l_bits) ?_
          refine tk 9 rfl (Ev.to (v' := (PT.node b q u h l r).ptr.v) (Ev.move (.t rfl)) (rfl)) ?_
          refine tk 10 rfl (Ev.nilCheck (.t rfl)) ?_
          refine tk 11 rfl (Ev.fieldAddr (o := 20) (.t rfl) (by kernel_rfl)) ?_
          refine al1 8 rfl ((callv en58 (.cons (.t rfl) (.cons (.t rfl) .nil)) (fun w I => bit_g _ _ w hlt bq hbq) ?_))
          refine hdn (tk 12 rfl (Ev.indexAddrA Try.underlying58 ty57 (.t rfl) (.t rfl) (fun _ => by omega)) ?_)
          refine al1 13 rfl ((stv ty57 (Lens.comp STrieNode.l_kids (lArr (n := 2) (ovE nilPtr) _ (by omega))) (.t rfl) (.t rfl) ?_))
          refine hdn (ovr (pN (seq (drawS 104 rfl (by repeat first | exact Rem.head | apply Rem.tail) (by kernel_rfl) ?_))))
          refine tk 0 rfl (Ev.move (.t rfl)) ?_
          refine tk 1 rfl (Ev.fieldAddr (o := 0) (.t rfl) (by kernel_rfl)) ?_
          refine tk 2 rfl (Ev.ldv ty31 (.t rfl) SPrefix.l_addr) ?_
          refine tk 3 rfl (Ev.fieldAddr (o := 17) (.t rfl) (by kernel_rfl)) ?_
          refine tk 4 rfl (Ev.ldv ty3 (.t rfl) SPrefix.l_bits) ?_
          refine tk 6 rfl (Ev.ldv ty36 (.t rfl) (Lens.id _)) ?_
          refine tk 7 rfl (Ev.move (.t rfl)) ?_
          refine tk 8 rfl (Ev.buildS (fs := _) (places := [(0, 18), (18, 1), (19, 1), (20, 2)]) z91 rfl Try.underlying91 (by kernel_rfl) (.cons (.t rfl) (.cons (.t rfl) (.cons (.c (v := .bool true) rfl) .nil))) (Fills.cons STrieNode.l_p rfl (Fills.cons STrieNode.l_v rfl (Fills.cons STrieNode.l_has rfl Fills.nil)))) ?_
          refine tk 10 rfl (Ev.nilCheck (.t rfl)) ?_
          refine tk 11 rfl (Ev.fieldAddr (o := 20) (.t rfl) (by kernel_rfl)) ?_
          refine all [5, 9] (by kernel_rfl) (by decide) (.cons rfl ?_ (.cons rfl ?_ .nil))
          · refine (callv en58 (.cons (.t rfl) (.cons (.t rfl) .nil)) (fun w I => bit_g _ _ w hlt bp hbp) ?_)
            refine hdn (al1 9 rfl ((box (E := eTrieNode) (.t rfl) (fun b13 => ?_))))
            refine hdn (tk 12 rfl (Ev.indexAddrA Try.underlying58 ty57 (.t rfl) (.t rfl) (fun _ => by omega)) ?_)
            refine al1 13 rfl ((stv ty57 (Lens.comp STrieNode.l_kids (lArr (n := 2) (ovE nilPtr) _ (by omega))) (.t rfl) (.t (v := (PT.node b13 p v true .nil .nil).ptr.v) rfl) ?_))
            refine hdn (ovr (pN (seq (region (cons (opv (Ev.move (.t rfl)) (cons (opv (Ev.assign (.t rfl)) (cons (opv (Ev.assign (.c (v := .bool true) rfl)) ?_))))))))))
            refine nil (pN (ret (done rfl (.tmp rfl (.tmp rfl .nil)) (fun w I => ?_))))
            cases bp with
            | true =>
              obtain rfl : bq = false := hbqp
              have ep : putT p v (.node q u h l.tr r.tr) = (.node c0 0 false (.node q u h l.tr r.tr) (.node p v true .nil .nil), true) := by show Tr.put _ _ _ _ _ = _; rw [Tr.put, if_neg hqp, if_neg e0, if_neg e1, hc0, if_pos hbp]
              exact retNP (PT.node b12 c0 0 false (PT.node b q u h l r) (PT.node b13 p v true .nil .nil), [Var b13 eTrieNode (⟨p, v, true, kids .nil .nil⟩ : STrieNode) 91, Var b12 eTrieNode (⟨c0, 0, false, kids (PT.node b q u h l r) (PT.node b13 p v true .nil .nil)⟩ : STrieNode) 91]) ⟨by rw [ep]; rfl, fun w1 ho hh => ⟨pts_mem (T := 91) hh (by simp), ho, pts_mem (T := 91) hh (by simp), trivial, trivial⟩⟩ (by rw [ep]; rfl) (by repeat first | exact SubP.nil | refine SubP.cons (by repeat first | exact Rem.head | apply Rem.tail) ?_) w I
            | false =>
              obtain rfl : bq = true := hbqp
              have ep : putT p v (.node q u h l.tr r.tr) = (.node c0 0 false (.node p v true .nil .nil) (.node q u h l.tr r.tr), true) := by show Tr.put _ _ _ _ _ = _; rw [Tr.put, if_neg hqp, if_neg e0, if_neg e1, hc0, if_neg (by rw [hbp]; exact Bool.false_ne_true)]
              exact retNP (PT.node b12 c0 0 false (PT.node b13 p v true .nil .nil) (PT.node b q u h l r), [Var b13 eTrieNode (⟨p, v, true, kids .nil .nil⟩ : STrieNode) 91, Var b12 eTrieNode (⟨c0, 0, false, kids (PT.node b13 p v true .nil .nil) (PT.node b q u h l r)⟩ : STrieNode) 91]) ⟨by rw [ep]; rfl, fun w1 ho hh => ⟨pts_mem (T := 91) hh (by simp), ⟨pts_mem (T := 91) hh (by simp), trivial, trivial⟩, ho⟩⟩ (by rw [ep]; rfl) (by repeat first | exact SubP.nil | refine SubP.cons (by repeat first | exact Rem.head | apply Rem.tail) ?_) w I
          · refine (box (E := eTrieNode) (.t rfl) (fun b14 => ?_))
            refine hdn (al1 5 rfl ((callv en58 (.cons (.t rfl) (.cons (.t rfl) .nil)) (fun w I => bit_g _ _ w hlt bp hbp) ?_)))
            refine hdn (tk 12 rfl (Ev.indexAddrA Try.underlying58 ty57 (.t rfl) (.t rfl) (fun _ => by omega)) ?_)
            refine al1 13 rfl ((stv ty57 (Lens.comp STrieNode.l_kids (lArr (n := 2) (ovE nilPtr) _ (by omega))) (.t rfl) (.t (v := (PT.node b14 p v true .nil .nil).ptr.v) rfl) ?_))
            refine hdn (ovr (pN (seq (region (cons (opv (Ev.move (.t rfl)) (cons (opv (Ev.assign (.t rfl)) (cons (opv (Ev.assign (.c (v := .bool true) rfl)) ?_))))))))))
            refine nil (pN (ret (done rfl (.tmp rfl (.tmp rfl .nil)) (fun w I => ?_))))
            cases bp with
            | true =>
              obtain rfl : bq = false := hbqp
              have ep : putT p v (.node q u h l.tr r.tr) = (.node c0 0 false (.node q u h l.tr r.tr) (.node p v true .nil .nil), true) := by show Tr.put _ _ _ _ _ = _; rw [Tr.put, if_neg hqp, if_neg e0, if_neg e1, hc0, if_pos hbp]
              exact retNP (PT.node b12 c0 0 false (PT.node b q u h l r) (PT.node b14 p v true .nil .nil), [Var b14 eTrieNode (⟨p, v, true, kids .nil .nil⟩ : STrieNode) 91, Var b12 eTrieNode (⟨c0, 0, false, kids (PT.node b q u h l r) (PT.node b14 p v true .nil .nil)⟩ : STrieNode) 91]) ⟨by rw [ep]; rfl, fun w1 ho hh => ⟨pts_mem (T := 91) hh (by simp), ho, pts_mem (T := 91) hh (by simp), trivial, trivial⟩⟩ (by rw [ep]; rfl) (by repeat first | exact SubP.nil | refine SubP.cons (by repeat first | exact Rem.head | apply Rem.tail) ?_) w I
            | false =>
              obtain rfl : bq = true := hbqp
              have ep : putT p v (.node q u h l.tr r.tr) = (.node c0 0 false (.node p v true .nil .nil) (.node q u h l.tr r.tr), true) := by show Tr.put _ _ _ _ _ = _; rw [Tr.put, if_neg hqp, if_neg e0, if_neg e1, hc0, if_neg (by rw [hbp]; exact Bool.false_ne_true)]
              exact retNP (PT.node b12 c0 0 false (PT.node b14 p v true .nil .nil) (PT.node b q u h l r), [Var b14 eTrieNode (⟨p, v, true, kids .nil .nil⟩ : STrieNode) 91, Var b12 eTrieNode (⟨c0, 0, false, kids (PT.node b14 p v true .nil .nil) (PT.node b q u h l r)⟩ : STrieNode) 91]) ⟨by rw [ep]; rfl, fun w1 ho hh => ⟨pts_mem (T := 91) hh (by simp), ⟨pts_mem (T := 91) hh (by simp), trivial, trivial⟩, ho⟩⟩ (by rw [ep]; rfl) (by repeat first | exact SubP.nil | refine SubP.cons (by repeat first | exact Rem.head | apply Rem.tail) ?_) w I

theorem put_ok (k : Bool) (p : SPrefix) (v : Int) (hp : okP k p) : ∀ (t : PT) (c : List Bool) (w : World), t.At w → t.tr.WF (okP k) pb c → c <+: pb p → Calls Try.prog 35 #[t.ptr.v, ePrefix.val p, I v] w (RetN w (PutJ t (putT p v t.tr).1) (fun x => .tuple #[x.1.ptr.v, .bool (putT p v t.tr).2]) (fun x => x.2))
  | .nil, _, w, _, _, _ => put_nil p v w
  | .node b q u h l r, c, w, hat, hw, hc => put_node k p v hp b q u h l r c w hat hw hc (fun bb c' w' h1 h2 h3 => by
    cases bb with
    | true => exact put_ok k p v hp r c' w' h1 h2 h3
    | false => exact put_ok k p v hp l c' w' h1 h2 h3)
end Go.Proofs.Ytjjlofjpdklbgaa
