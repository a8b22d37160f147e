/- Part. -/
import Derived.Test.YtakmoeladkajdaaGreatM2
set_option linter.unusedVariables false
set_option linter.unusedSimpArgs false
set_option linter.unusedSectionVars false
namespace Go.Proofs.YtakmoeladkajdaaGreat.Tri
open Go Go.Gx
theorem pts_mem {α : Type} {E : Enc α} {w : World} {b : Nat} {x : α} {T : TypeId} {Rs : List Res} (h : ∀ r ∈ Rs, r.A w) (hm : Var b E x T ∈ Rs) : PtsTo E w b 0 x := pts_of_block (h _ hm)
theorem Rem.app {r : Res} {L M : List Res} (k : List Res) (h : Rem L r M) : Rem (k ++ L) r (k ++ M) := by
  obtain ⟨A, C, rfl, rfl⟩ := h
  exact ⟨k ++ A, C, by simp, by simp⟩
theorem bit_g (a : SAddr) (i : Int) (w : World) (hi : 0 ≤ i ∧ i < 128) (z : Bool) (hz : decide (bitU a.b.toList i = 1) = z) : Calls Tryz.prog 145 #[eAddr.val a, I i] w (RetV w (I (bI z))) := by
  subst hz
  exact bit_ok a i w hi
theorem both_g (k : Bool) (p q : SPrefix) (w : World) (hp : okP k p) (hq : okP k q) (z : SPrefix) (hz : bothP p q = z) : Calls Tryz.prog 144 #[ePrefix.val p, ePrefix.val q] w (RetV w (ePrefix.val z)) := by
  subst hz
  exact both_ok_c k p q w hp hq
def PutJ (t : PT) (R : Tr SPrefix) (x : PT × List Res) : Prop := x.1.tr = R ∧ ∀ w1, t.At w1 → (∀ r ∈ x.2, r.A w1) → x.1.At w1
theorem eqb_no {q p : SPrefix} (h : SPrefix.eqb q p = false) : q ≠ p := fun e => by
  rw [(SPrefix.eqb_iff q p).2 e] at h
  cases h
theorem snoc_lt {x y : SPrefix} {b : Bool} {k : Bool} (hx : okP k x) (hy : okP k y) (h : pb x ++ [b] <+: pb y) : 0 ≤ x.bits ∧ x.bits < 128 := by
  have h1 := h.length_le
  have h2 := hx.nn
  have h3 := hy.nn
  simp at h1
  omega
abbrev putT (p : SPrefix) (v : Int) (t : Tr SPrefix) : Tr SPrefix × Bool := t.put bothP bitP p v
theorem kid_wf {k : Bool} {q : SPrefix} {l r : PT} (hl : l.tr.WF (okP k) pb (pb q ++ [false])) (hr : r.tr.WF (okP k) pb (pb q ++ [true])) (b : Bool) : (PT.kid b l r).tr.WF (okP k) pb (pb q ++ [b]) := by cases b <;> assumption
theorem z257 : (Tryz.prog.info? 257).bind (·.zero) = some (eTrieNode.val eTrieNode.zero) := by kernel_rfl
set_option maxRecDepth 8000 in
theorem put_nil (p : SPrefix) (v : Int) (w : World) : Calls Tryz.prog 107 #[.pointer none, ePrefix.val p, I v] w (RetN w (PutJ .nil (putT p v .nil).1) (fun x => .tuple #[x.1.ptr.v, .bool (putT p v .nil).2]) (fun x => x.2)) := by
  refine en0 132 Tryz.func107 ?_
  refine sg (cons (box (E := ePrefix) (.t rfl) (fun b1 => ?_)))
  refine co (Ev.assign (.c (v := (Go.Value.pointer none)) rfl)) ?_
  refine co (Ev.assign (.c (v := .bool false) rfl)) ?_
  refine nP (seq (sg (mv rfl (co (Ev.eql_p Tryz.underlying223 (.t rfl) (.c rfl)) ?_))))
  refine nP (condT rfl (rfl) ?_)
  refine sg (co (Ev.ldv ty109 (.t rfl) (Lens.id _)) ?_)
  refine mv rfl (co (Ev.buildS (fs := _) (places := [(0, 18), (18, 1), (19, 1), (20, 2)]) z257 rfl Tryz.underlying257 (by kernel_rfl) (.cons (.t rfl) (.cons (.t rfl) (.cons (.c (v := .bool true) rfl) .nil))) (Fills.cons STrieNode.l_p rfl (Fills.cons STrieNode.l_v rfl (Fills.cons STrieNode.l_has rfl Fills.nil)))) ?_)
  refine cons (box (E := eTrieNode) (.t rfl) (fun b2 => ?_))
  refine asn rfl (co (Ev.assign (.c (v := .bool true) rfl)) ?_)
  refine nP (ret (pR (done rfl (.tmp rfl (.tmp rfl .nil)) (fun w I => ?_))))
  exact retNP (PT.node b2 p v true .nil .nil, [Var b2 eTrieNode (⟨p, v, true, kids .nil .nil⟩ : STrieNode) 257]) ⟨rfl, fun w1 _ h => ⟨pts_mem (T := 257) h (by simp), trivial, trivial⟩⟩ rfl (by repeat first | exact SubP.nil | refine SubP.cons (by repeat first | exact Rem.head | apply Rem.tail) ?_) w I
theorem ty224 : TyOK Tryz.prog 224 (arrE 2 (ovE nilPtr)) := TyOK.mk' (by kernel_rfl) (by kernel_rfl)
theorem en144 : Gx.Enters Tryz.prog 144 := Gx.Enters.mk' (by kernel_rfl)
theorem ty257 : TyOK Tryz.prog 257 eTrieNode := TyOK.mk' (by kernel_rfl) (by kernel_rfl)
theorem ty223 : TyOK Tryz.prog 223 (ovE nilPtr) := TyOK.mk' (by kernel_rfl) (by kernel_rfl)
theorem en107 : Gx.Enters Tryz.prog 107 := Gx.Enters.mk' (by kernel_rfl)
set_option maxRecDepth 8000 in
theorem put_node (k : Bool) (p : SPrefix) (v : Int) (hp : okP k p) (b : Nat) (q : SPrefix) (u : Int) (h : Bool) (l r : PT) (c : List Bool) (w : World) (hat : (PT.node b q u h l r).At w) (hw : (PT.node b q u h l r).tr.WF (okP k) pb c) (hc : c <+: pb p) (ih : ∀ bb c' w', (PT.kid bb l r).At w' → (PT.kid bb l r).tr.WF (okP k) pb c' → c' <+: pb p → Calls Tryz.prog 107 #[(PT.kid bb l r).ptr.v, ePrefix.val p, I v] w' (RetN w' (PutJ (PT.kid bb l r) (putT p v (PT.kid bb l r).tr).1) (fun x => .tuple #[x.1.ptr.v, .bool (putT p v (PT.kid bb l r).tr).2]) (fun x => x.2))) : Calls Tryz.prog 107 #[.pointer (some ⟨b, 0, none⟩), ePrefix.val p, I v] w (RetN w (PutJ (PT.node b q u h l r) (putT p v (.node q u h l.tr r.tr)).1) (fun x => .tuple #[x.1.ptr.v, .bool (putT p v (.node q u h l.tr r.tr)).2]) (fun x => x.2)) := by
  have hq : okP k q := hw.1
  refine en0 132 Tryz.func107 ?_
  refine sg (cons (box (E := ePrefix) (.t rfl) (fun b1 => ?_)))
  refine co (Ev.assign (.c (v := (Go.Value.pointer none)) rfl)) ?_
  refine co (Ev.assign (.c (v := .bool false) rfl)) ?_
  refine nP (seq (sg (mv rfl (co (Ev.eql_p Tryz.underlying223 (.t rfl) (.c rfl)) ?_))))
  refine nP (condF rfl (rfl) ?_)
  refine skip (pN (seq (seq (draw' (by kernel_rfl) ?_))))
  refine tk 0 rfl (Ev.move (.t rfl)) ?_
  refine tk 1 rfl (Ev.nilCheck (.t rfl)) ?_
  refine tk 2 rfl (fA 0 (.t rfl)) ?_
  refine tk 3 rfl (Ev.load ty109 (.t rfl) (ptsL (fun w I => (hat.1).keep I.keeps) STrieNode.l_p)) ?_
  refine tk 4 rfl (Ev.ldv ty109 (.t rfl) (Lens.id _)) ?_
  refine tk 5 rfl (Ev.eqlS rfl eqok109 rfl (by kernel_rfl) (.t rfl) (.t rfl)) ?_
  refine ovr (pN ?_)
  first | refine condD rfl (fun h1 => ?_) (fun h1 => ?_) | refine cond rfl (fun h1 => ?_) (fun h1 => ?_)
  · have hqp : q = p := (SPrefix.eqb_iff _ _).1 h1
    refine seq (draw' (by kernel_rfl) ?_)
    refine tk 0 rfl (Ev.ldv ty109 (.t rfl) (Lens.id _)) ?_
    refine tk 1 rfl (Ev.move (.t rfl)) ?_
    refine tk 2 rfl (Ev.move (.t rfl)) ?_
    refine tk 3 rfl (Ev.nilCheck (.t rfl)) ?_
    refine tk 4 rfl (fA 20 (.t rfl)) ?_
    refine tk 5 rfl (Ev.load ty224 (.t rfl) (ptsL (fun w I => (hat.1).keep I.keeps) STrieNode.l_kids)) ?_
    refine tk 6 rfl (Ev.buildS (fs := _) (places := [(0, 18), (18, 1), (19, 1), (20, 2)]) z257 rfl Tryz.underlying257 (by kernel_rfl) (.cons (.t rfl) (.cons (.t rfl) (.cons (.c (v := .bool true) rfl) (.cons (.t rfl) .nil)))) (Fills.cons STrieNode.l_p rfl (Fills.cons STrieNode.l_v rfl (Fills.cons STrieNode.l_has rfl (Fills.cons STrieNode.l_kids rfl Fills.nil))))) ?_
    refine tk 8 rfl (Ev.move (.t rfl)) ?_
    refine tk 9 rfl (Ev.nilCheck (.t rfl)) ?_
    refine tk 10 rfl (fA 19 (.t rfl)) ?_
    refine tk 11 rfl (Ev.load ty4 (.t rfl) (ptsL (fun w I => (hat.1).keep I.keeps) STrieNode.l_has)) ?_
    refine tk 12 rfl (Ev.not (.t rfl)) ?_
    refine al1 7 rfl ((box (E := eTrieNode) (.t rfl) (fun b2 => ?_)))
    refine hdn (tk 13 rfl (Ev.assign (.t rfl)) ?_)
    refine tk 14 rfl (Ev.assign (.t rfl)) ?_
    refine ovr (pN (ret (pR (done rfl (.tmp rfl (.tmp rfl .nil)) (fun w I => ?_)))))
    have ep : putT p v (.node q u h l.tr r.tr) = (.node p v true l.tr r.tr, !h) := by show Tr.put _ _ _ _ _ = _; rw [Tr.put, if_pos hqp]
    exact retNP (PT.node b2 p v true l r, [Var b2 eTrieNode (⟨p, v, true, kids l r⟩ : STrieNode) 257]) ⟨by rw [ep]; rfl, fun w1 ho hh => ⟨pts_mem (T := 257) hh (by simp), ho.2.1, ho.2.2⟩⟩ (by rw [ep]; rfl) (by repeat first | exact SubP.nil | refine SubP.cons (by repeat first | exact Rem.head | apply Rem.tail) ?_) w I
  · have hqp : q ≠ p := eqb_no h1
    obtain ⟨c0, hc0⟩ : ∃ z, bothP q p = z := ⟨_, rfl⟩
    have hway := (keyLaw k).ways hq hp hqp
    refine skip (pN (seq (draw' (by kernel_rfl) ?_)))
    refine tk 0 rfl (Ev.move (.t rfl)) ?_
    refine tk 1 rfl (Ev.nilCheck (.t rfl)) ?_
    refine tk 2 rfl (fA 0 (.t rfl)) ?_
    refine tk 3 rfl (Ev.load ty109 (.t rfl) (ptsL (fun w I => (hat.1).keep I.keeps) STrieNode.l_p)) ?_
    refine tk 4 rfl (Ev.ldv ty109 (.t rfl) (Lens.id _)) ?_
    refine all [5, 6] (by kernel_rfl) (by decide) (.cons rfl ?_ (.cons rfl ?_ .nil))
    · refine (callv en144 (.cons (.t rfl) (.cons (.t rfl) .nil)) (fun w I => both_g k q p w hq hp c0 hc0) ?_)
      refine hdn (al1 6 rfl ((alloc z109 (fun b3 => ?_))))
      refine hdn (al1 7 rfl ((stv ty109 (Lens.id _) (.t rfl) (.t rfl) ?_)))
      refine hdn (ovr (pN (seq (sg (co (Ev.ldv ty109 (.t rfl) (Lens.id _)) ?_)))))
      refine nP (block (sg (mv rfl (co (Ev.nilCheck (.t rfl)) ?_))))
      refine co (fA 0 (.t rfl)) ?_
      refine co (Ev.load ty109 (.t rfl) (ptsL (fun w I => (hat.1).keep I.keeps) STrieNode.l_p)) ?_
      refine co (Ev.eqlS rfl eqok109 rfl (by kernel_rfl) (.t rfl) (.t rfl)) ?_
      refine asn rfl (nP ?_)
      first | refine condD rfl (fun h2 => ?_) (fun h2 => ?_) | refine cond rfl (fun h2 => ?_) (fun h2 => ?_)
      · have e1 : bothP q p = q := hc0.trans ((SPrefix.eqb_iff _ _).1 h2)
        obtain ⟨bb, hbb⟩ : ∃ z, bitP q p = z := ⟨_, rfl⟩
        have e2 : pb q ++ [bb] <+: pb p := by
          rcases hway with ⟨_, g⟩ | ⟨g, _⟩ | ⟨g, _⟩
          · rw [← hbb]; exact g
          · exact absurd e1 g
          · exact absurd e1 g
        have hlt := snoc_lt hq hp e2
        have hbn := bI_nn bb
        have hbt : (bI bb).toNat < 2 := by omega
        refine sg (mv rfl (co (Ev.nilCheck (.t rfl)) ?_))
        refine co (Ev.load ty257 (.t rfl) (ptsL (fun w I => (hat.1).keep I.keeps) (Lens.id _))) ?_
        refine cons (alloc z257 (fun b4 => ?_))
        refine cons (stv ty257 (Lens.id _) (.t rfl) (.t rfl) ?_)
        refine nP (seq (draw' (by kernel_rfl) ?_))
        refine tk 0 rfl (fA 0 (.t rfl)) ?_
        refine tk 1 rfl (Ev.ldv ty45 (.t rfl) SPrefix.l_addr) ?_
        refine tk 2 rfl (Ev.move (.t rfl)) ?_
        refine tk 3 rfl (Ev.nilCheck (.t rfl)) ?_
        refine tk 4 rfl (fA 0 (.t rfl)) ?_
        refine tk 5 rfl (fA 17 (.t rfl)) ?_
        refine tk 6 rfl (Ev.load ty3 (.t rfl) (ptsL (fun w I => (hat.1).keep I.keeps) (Lens.comp STrieNode.l_p SPrefix.l_bits))) ?_
        refine al1 7 rfl ((callv en145 (.cons (.t rfl) (.cons (.t rfl) .nil)) (fun w I => bit_g _ _ w hlt bb hbb) ?_))
        refine hdn (tk 8 rfl (Ev.assign (.t rfl)) ?_)
        refine ovr (pN (seq (draw' (by kernel_rfl) ?_)))
        refine tk 0 rfl (Ev.move (.t rfl)) ?_
        refine tk 1 rfl (Ev.move (.t rfl)) ?_
        refine tk 2 rfl (Ev.nilCheck (.t rfl)) ?_
        refine tk 3 rfl (fA 20 (.t rfl)) ?_
        refine tk 4 rfl (Ev.indexAddrA Tryz.underlying224 ty223 (.t rfl) (.t rfl) (fun _ => by omega)) ?_
        refine tk 5 rfl (Ev.to (v' := (PT.kid bb l r).ptr.v) (Ev.load ty223 (.t rfl) (ptsL (fun w I => (hat.1).keep I.keeps) (Lens.comp STrieNode.l_kids (lArr (n := 2) (ovE nilPtr) _ (by omega))))) (congrArg OV.v (kids_at l r bb hbt))) ?_
        refine tk 6 rfl (Ev.ldv ty109 (.t rfl) (Lens.id _)) ?_
        refine tk 7 rfl (Ev.move (.t rfl)) ?_
        refine al1 8 rfl ((calln (X := PT × List Res) (PutJ (PT.kid bb l r) (putT p v (PT.kid bb l r).tr).1) (fun x => .tuple #[x.1.ptr.v, .bool (putT p v (PT.kid bb l r).tr).2]) (fun x => x.2) en107 (.cons (.t rfl) (.cons (.t rfl) (.cons (.t rfl) .nil))) (fun w I => ih bb _ w (PT.At.kid (hat.2.1.keep I.keeps) (hat.2.2.keep I.keeps) bb) (kid_wf hw.2.2.1 hw.2.2.2.1 bb) e2) (fun x1 hx1 => ?_)))
        refine hdn (tk 9 rfl (Ev.move (.t rfl)) ?_)
        refine tk 10 rfl (Ev.extract (.t rfl) rfl) ?_
        refine tk 11 rfl (Ev.extract (.t rfl) rfl) ?_
        refine tk 12 rfl (Ev.assign (.t rfl)) ?_
        refine tk 13 rfl (Ev.assign (.t rfl)) ?_
        refine ovr (pN (sg (mv rfl (mv rfl (co (fA 20 (.t rfl)) ?_)))))
        refine co (Ev.indexAddrA Tryz.underlying224 ty223 (.t rfl) (.t rfl) (fun _ => by omega)) ?_
        refine cons (stv ty223 (Lens.comp STrieNode.l_kids (lArr (n := 2) (ovE nilPtr) _ (by omega))) (.t rfl) (.t rfl) ?_)
        refine nP (sg (mv rfl (asn rfl (asn rfl (nP (ret (bR (pR (done rfl (.tmp rfl (.tmp rfl .nil)) (fun w I => ?_))))))))))
        cases bb with
        | true =>
          have ep : putT p v (.node q u h l.tr r.tr) = (.node q u h l.tr (putT p v r.tr).1, (putT p v r.tr).2) := by show Tr.put _ _ _ _ _ = _; rw [Tr.put, if_neg hqp, if_pos e1, if_pos hbb]
          exact retNP (PT.node b4 q u h l x1.1, Var b4 eTrieNode (⟨q, u, h, kids l x1.1⟩ : STrieNode) 257 :: x1.2) ⟨by rw [ep]; exact congrArg (Tr.node q u h l.tr) hx1.1, fun w1 ho hh => ⟨pts_mem (T := 257) hh List.mem_cons_self, ho.2.1, hx1.2 w1 ho.2.2 (fun q hq => hh q (List.mem_cons_of_mem _ hq))⟩⟩ (by rw [ep]; rfl) (by repeat first | refine SubP.cons (by repeat first | exact Rem.head | apply Rem.tail | apply Rem.app) ?_ | exact SubP.of (by repeat first | exact sR | apply sS | exact List.sublist_append_left _ _)) w I
        | false =>
          have ep : putT p v (.node q u h l.tr r.tr) = (.node q u h (putT p v l.tr).1 r.tr, (putT p v l.tr).2) := by show Tr.put _ _ _ _ _ = _; rw [Tr.put, if_neg hqp, if_pos e1, if_neg (by rw [hbb]; exact Bool.false_ne_true)]
          exact retNP (PT.node b4 q u h x1.1 r, Var b4 eTrieNode (⟨q, u, h, kids x1.1 r⟩ : STrieNode) 257 :: x1.2) ⟨by rw [ep]; exact congrArg (fun z => Tr.node q u h z r.tr) hx1.1, fun w1 ho hh => ⟨pts_mem (T := 257) hh List.mem_cons_self, hx1.2 w1 ho.2.1 (fun q hq => hh q (List.mem_cons_of_mem _ hq)), ho.2.2⟩⟩ (by rw [ep]; rfl) (by repeat first | refine SubP.cons (by repeat first | exact Rem.head | apply Rem.tail | apply Rem.app) ?_ | exact SubP.of (by repeat first | exact sR | apply sS | exact List.sublist_append_left _ _)) w I
      · have e0 : bothP q p ≠ q := by rw [hc0]; exact eqb_no h2
        refine sg (co (Ev.ldv ty109 (.t rfl) (Lens.id _)) ?_)
        refine co (Ev.eqlS rfl eqok109 rfl (by kernel_rfl) (.t rfl) (.t rfl)) ?_
        refine asn rfl (nP ?_)
        first | refine condD rfl (fun h3 => ?_) (fun h3 => ?_) | refine cond rfl (fun h3 => ?_) (fun h3 => ?_)
        · have e1 : bothP q p = p := hc0.trans ((SPrefix.eqb_iff _ _).1 h3)
          obtain ⟨bb, hbb⟩ : ∃ z, bitP p q = z := ⟨_, rfl⟩
          have e2 : pb p ++ [bb] <+: pb q := by
            rcases hway with ⟨g, _⟩ | ⟨_, _, g⟩ | ⟨_, g, _⟩
            · exact absurd g e0
            · rw [← hbb]; exact g
            · exact absurd e1 g
          have hlt := snoc_lt hp hq e2
          have hbn := bI_nn bb
          have hbt : (bI bb).toNat < 2 := by omega
          refine sg (co (Ev.ldv ty109 (.t rfl) (Lens.id _)) ?_)
          refine mv rfl (co (Ev.buildS (fs := _) (places := [(0, 18), (18, 1), (19, 1), (20, 2)]) z257 rfl Tryz.underlying257 (by kernel_rfl) (.cons (.t rfl) (.cons (.t rfl) (.cons (.c (v := .bool true) rfl) .nil))) (Fills.cons STrieNode.l_p rfl (Fills.cons STrieNode.l_v rfl (Fills.cons STrieNode.l_has rfl Fills.nil)))) ?_)
          refine cons (box (E := eTrieNode) (.t rfl) (fun b5 => ?_))
          refine asn rfl (nP (seq (drawS 87 rfl (by repeat first | exact Rem.head | apply Rem.tail) (by kernel_rfl) ?_)))
          refine tk 0 rfl (Ev.move (.t rfl)) ?_
          refine tk 1 rfl (Ev.move (.t rfl)) ?_
          refine tk 2 rfl (Ev.nilCheck (.t rfl)) ?_
          refine tk 3 rfl (fA 0 (.t rfl)) ?_
          refine tk 4 rfl (fA 0 (.t rfl)) ?_
          refine tk 5 rfl (Ev.load ty45 (.t rfl) (ptsL (fun w I => (hat.1).keep I.keeps) (Lens.comp STrieNode.l_p SPrefix.l_addr))) ?_
          refine tk 6 rfl (fA 17 (.t rfl)) ?_
          refine tk 7 rfl (Ev.ldv ty3 (.t rfl) SPrefix.l_bits) ?_
          refine tk 9 rfl (Ev.to (v' := (PT.node b q u h l r).ptr.v) (Ev.move (.t rfl)) (rfl)) ?_
          refine tk 10 rfl (Ev.nilCheck (.t rfl)) ?_
          refine tk 11 rfl (fA 20 (.t rfl)) ?_
          refine al1 8 rfl ((callv en145 (.cons (.t rfl) (.cons (.t rfl) .nil)) (fun w I => bit_g _ _ w hlt bb hbb) ?_))
          refine hdn (tk 12 rfl (Ev.indexAddrA Tryz.underlying224 ty223 (.t rfl) (.t rfl) (fun _ => by omega)) ?_)
          refine al1 13 rfl ((stv ty223 (Lens.comp STrieNode.l_kids (lArr (n := 2) (ovE nilPtr) _ (by omega))) (.t rfl) (.t rfl) ?_))
          refine hdn (ovr (pN (sg (mv rfl (asn rfl (co (Ev.assign (.c (v := .bool true) rfl)) ?_))))))
          refine nP (ret (bR (pR (done rfl (.tmp rfl (.tmp rfl .nil)) (fun w I => ?_)))))
          cases bb with
          | true =>
            have ep : putT p v (.node q u h l.tr r.tr) = (.node p v true .nil (.node q u h l.tr r.tr), true) := by show Tr.put _ _ _ _ _ = _; rw [Tr.put, if_neg hqp, if_neg e0, if_pos e1, if_pos hbb]
            exact retNP (PT.node b5 p v true .nil (PT.node b q u h l r), [Var b5 eTrieNode (⟨p, v, true, kids .nil (PT.node b q u h l r)⟩ : STrieNode) 257]) ⟨by rw [ep]; rfl, fun w1 ho hh => ⟨pts_mem (T := 257) hh (by simp), trivial, ho⟩⟩ (by rw [ep]; rfl) (by repeat first | exact SubP.nil | refine SubP.cons (by repeat first | exact Rem.head | apply Rem.tail) ?_) w I
          | false =>
            have ep : putT p v (.node q u h l.tr r.tr) = (.node p v true (.node q u h l.tr r.tr) .nil, true) := by show Tr.put _ _ _ _ _ = _; rw [Tr.put, if_neg hqp, if_neg e0, if_pos e1, if_neg (by rw [hbb]; exact Bool.false_ne_true)]
            exact retNP (PT.node b5 p v true (PT.node b q u h l r) .nil, [Var b5 eTrieNode (⟨p, v, true, kids (PT.node b q u h l r) .nil⟩ : STrieNode) 257]) ⟨by rw [ep]; rfl, fun w1 ho hh => ⟨pts_mem (T := 257) hh (by simp), ho, trivial⟩⟩ (by rw [ep]; rfl) (by repeat first | exact SubP.nil | refine SubP.cons (by repeat first | exact Rem.head | apply Rem.tail) ?_) w I
        · have e1 : bothP q p ≠ p := by rw [hc0]; exact eqb_no h3
          obtain ⟨bp, hbp⟩ : ∃ z, bitP c0 p = z := ⟨_, rfl⟩
          obtain ⟨bq, hbq⟩ : ∃ z, bitP c0 q = z := ⟨_, rfl⟩
          obtain ⟨g2, g5, g6⟩ : okP k c0 ∧ bq = (!bp) ∧ pb c0 ++ [bp] <+: pb p := by
            rcases hway with ⟨g, _⟩ | ⟨_, g, _⟩ | ⟨_, _, a2, _, a4, _, a6⟩
            · exact absurd g e0
            · exact absurd g e1
            · rw [hc0] at a2 a4 a6
              rw [hbp] at a4 a6
              exact ⟨a2, hbq.symm.trans a4, a6⟩
          have hbqp := g5
          have hlt := snoc_lt g2 hp g6
          have hbn := bI_nn bp
          have hbt : (bI bp).toNat < 2 := by omega
          have hbn2 := bI_nn bq
          have hbt2 : (bI bq).toNat < 2 := by omega
          refine skip (bN (pN (sg (co (Ev.ldv ty109 (.t rfl) (Lens.id _)) ?_))))
          refine co (Ev.buildS (fs := _) (places := [(0, 18), (18, 1), (19, 1), (20, 2)]) z257 rfl Tryz.underlying257 (by kernel_rfl) (.cons (.t rfl) .nil) (Fills.cons STrieNode.l_p rfl Fills.nil)) ?_
          refine cons (box (E := eTrieNode) (.t rfl) (fun b6 => ?_))
          refine asn rfl (nP (seq (drawS 104 rfl (by repeat first | exact Rem.head | apply Rem.tail) (by kernel_rfl) ?_)))
          refine tk 0 rfl (Ev.move (.t rfl)) ?_
          refine tk 1 rfl (Ev.move (.t rfl)) ?_
          refine tk 2 rfl (Ev.nilCheck (.t rfl)) ?_
          refine tk 3 rfl (fA 0 (.t rfl)) ?_
          refine tk 4 rfl (fA 0 (.t rfl)) ?_
          refine tk 5 rfl (Ev.load ty45 (.t rfl) (ptsL (fun w I => (hat.1).keep I.keeps) (Lens.comp STrieNode.l_p SPrefix.l_addr))) ?_
          refine tk 6 rfl (fA 17 (.t rfl)) ?_
          refine tk 7 rfl (Ev.ldv ty3 (.t rfl) SPrefix.l_bits) ?_
          refine tk 9 rfl (Ev.to (v' := (PT.node b q u h l r).ptr.v) (Ev.move (.t rfl)) (rfl)) ?_
          refine tk 10 rfl (Ev.nilCheck (.t rfl)) ?_
          refine tk 11 rfl (fA 20 (.t rfl)) ?_
          refine al1 8 rfl ((callv en145 (.cons (.t rfl) (.cons (.t rfl) .nil)) (fun w I => bit_g _ _ w hlt bq hbq) ?_))
          refine hdn (tk 12 rfl (Ev.indexAddrA Tryz.underlying224 ty223 (.t rfl) (.t rfl) (fun _ => by omega)) ?_)
          refine al1 13 rfl ((stv ty223 (Lens.comp STrieNode.l_kids (lArr (n := 2) (ovE nilPtr) _ (by omega))) (.t rfl) (.t rfl) ?_))
          refine hdn (ovr (pN (seq (drawS 104 rfl (by repeat first | exact Rem.head | apply Rem.tail) (by kernel_rfl) ?_))))
          refine tk 0 rfl (Ev.move (.t rfl)) ?_
          refine tk 1 rfl (fA 0 (.t rfl)) ?_
          refine tk 2 rfl (Ev.ldv ty45 (.t rfl) SPrefix.l_addr) ?_
          refine tk 3 rfl (fA 17 (.t rfl)) ?_
          refine tk 4 rfl (Ev.ldv ty3 (.t rfl) SPrefix.l_bits) ?_
          refine tk 6 rfl (Ev.ldv ty109 (.t rfl) (Lens.id _)) ?_
          refine tk 7 rfl (Ev.move (.t rfl)) ?_
          refine tk 8 rfl (Ev.buildS (fs := _) (places := [(0, 18), (18, 1), (19, 1), (20, 2)]) z257 rfl Tryz.underlying257 (by kernel_rfl) (.cons (.t rfl) (.cons (.t rfl) (.cons (.c (v := .bool true) rfl) .nil))) (Fills.cons STrieNode.l_p rfl (Fills.cons STrieNode.l_v rfl (Fills.cons STrieNode.l_has rfl Fills.nil)))) ?_
          refine tk 10 rfl (Ev.nilCheck (.t rfl)) ?_
          refine tk 11 rfl (fA 20 (.t rfl)) ?_
          refine all [5, 9] (by kernel_rfl) (by decide) (.cons rfl ?_ (.cons rfl ?_ .nil))
          · refine (callv en145 (.cons (.t rfl) (.cons (.t rfl) .nil)) (fun w I => bit_g _ _ w hlt bp hbp) ?_)
            refine hdn (al1 9 rfl ((box (E := eTrieNode) (.t rfl) (fun b7 => ?_))))
            refine hdn (tk 12 rfl (Ev.indexAddrA Tryz.underlying224 ty223 (.t rfl) (.t rfl) (fun _ => by omega)) ?_)
            refine al1 13 rfl ((stv ty223 (Lens.comp STrieNode.l_kids (lArr (n := 2) (ovE nilPtr) _ (by omega))) (.t rfl) (.t (v := (PT.node b7 p v true .nil .nil).ptr.v) rfl) ?_))
            refine hdn (ovr (pN (sg (mv rfl (asn rfl (co (Ev.assign (.c (v := .bool true) rfl)) ?_))))))
            refine nP (ret (done rfl (.tmp rfl (.tmp rfl .nil)) (fun w I => ?_)))
            cases bp with
            | true =>
              obtain rfl : bq = false := hbqp
              have ep : putT p v (.node q u h l.tr r.tr) = (.node c0 0 false (.node q u h l.tr r.tr) (.node p v true .nil .nil), true) := by show Tr.put _ _ _ _ _ = _; rw [Tr.put, if_neg hqp, if_neg e0, if_neg e1, hc0, if_pos hbp]
              exact retNP (PT.node b6 c0 0 false (PT.node b q u h l r) (PT.node b7 p v true .nil .nil), [Var b7 eTrieNode (⟨p, v, true, kids .nil .nil⟩ : STrieNode) 257, Var b6 eTrieNode (⟨c0, 0, false, kids (PT.node b q u h l r) (PT.node b7 p v true .nil .nil)⟩ : STrieNode) 257]) ⟨by rw [ep]; rfl, fun w1 ho hh => ⟨pts_mem (T := 257) hh (by simp), ho, pts_mem (T := 257) hh (by simp), trivial, trivial⟩⟩ (by rw [ep]; rfl) (by repeat first | exact SubP.nil | refine SubP.cons (by repeat first | exact Rem.head | apply Rem.tail) ?_) w I
            | false =>
              obtain rfl : bq = true := hbqp
              have ep : putT p v (.node q u h l.tr r.tr) = (.node c0 0 false (.node p v true .nil .nil) (.node q u h l.tr r.tr), true) := by show Tr.put _ _ _ _ _ = _; rw [Tr.put, if_neg hqp, if_neg e0, if_neg e1, hc0, if_neg (by rw [hbp]; exact Bool.false_ne_true)]
              exact retNP (PT.node b6 c0 0 false (PT.node b7 p v true .nil .nil) (PT.node b q u h l r), [Var b7 eTrieNode (⟨p, v, true, kids .nil .nil⟩ : STrieNode) 257, Var b6 eTrieNode (⟨c0, 0, false, kids (PT.node b7 p v true .nil .nil) (PT.node b q u h l r)⟩ : STrieNode) 257]) ⟨by rw [ep]; rfl, fun w1 ho hh => ⟨pts_mem (T := 257) hh (by simp), ⟨pts_mem (T := 257) hh (by simp), trivial, trivial⟩, ho⟩⟩ (by rw [ep]; rfl) (by repeat first | exact SubP.nil | refine SubP.cons (by repeat first | exact Rem.head | apply Rem.tail) ?_) w I
          · refine (box (E := eTrieNode) (.t rfl) (fun b8 => ?_))
            refine hdn (al1 5 rfl ((callv en145 (.cons (.t rfl) (.cons (.t rfl) .nil)) (fun w I => bit_g _ _ w hlt bp hbp) ?_)))
            refine hdn (tk 12 rfl (Ev.indexAddrA Tryz.underlying224 ty223 (.t rfl) (.t rfl) (fun _ => by omega)) ?_)
            refine al1 13 rfl ((stv ty223 (Lens.comp STrieNode.l_kids (lArr (n := 2) (ovE nilPtr) _ (by omega))) (.t rfl) (.t (v := (PT.node b8 p v true .nil .nil).ptr.v) rfl) ?_))
            refine hdn (ovr (pN (sg (mv rfl (asn rfl (co (Ev.assign (.c (v := .bool true) rfl)) ?_))))))
            refine nP (ret (done rfl (.tmp rfl (.tmp rfl .nil)) (fun w I => ?_)))
            cases bp with
            | true =>
              obtain rfl : bq = false := hbqp
              have ep : putT p v (.node q u h l.tr r.tr) = (.node c0 0 false (.node q u h l.tr r.tr) (.node p v true .nil .nil), true) := by show Tr.put _ _ _ _ _ = _; rw [Tr.put, if_neg hqp, if_neg e0, if_neg e1, hc0, if_pos hbp]
              exact retNP (PT.node b6 c0 0 false (PT.node b q u h l r) (PT.node b8 p v true .nil .nil), [Var b8 eTrieNode (⟨p, v, true, kids .nil .nil⟩ : STrieNode) 257, Var b6 eTrieNode (⟨c0, 0, false, kids (PT.node b q u h l r) (PT.node b8 p v true .nil .nil)⟩ : STrieNode) 257]) ⟨by rw [ep]; rfl, fun w1 ho hh => ⟨pts_mem (T := 257) hh (by simp), ho, pts_mem (T := 257) hh (by simp), trivial, trivial⟩⟩ (by rw [ep]; rfl) (by repeat first | exact SubP.nil | refine SubP.cons (by repeat first | exact Rem.head | apply Rem.tail) ?_) w I
            | false =>
              obtain rfl : bq = true := hbqp
              have ep : putT p v (.node q u h l.tr r.tr) = (.node c0 0 false (.node p v true .nil .nil) (.node q u h l.tr r.tr), true) := by show Tr.put _ _ _ _ _ = _; rw [Tr.put, if_neg hqp, if_neg e0, if_neg e1, hc0, if_neg (by rw [hbp]; exact Bool.false_ne_true)]
              exact retNP (PT.node b6 c0 0 false (PT.node b8 p v true .nil .nil) (PT.node b q u h l r), [Var b8 eTrieNode (⟨p, v, true, kids .nil .nil⟩ : STrieNode) 257, Var b6 eTrieNode (⟨c0, 0, false, kids (PT.node b8 p v true .nil .nil) (PT.node b q u h l r)⟩ : STrieNode) 257]) ⟨by rw [ep]; rfl, fun w1 ho hh => ⟨pts_mem (T := 257) hh (by simp), ⟨pts_mem (T := 257) hh (by simp), trivial, trivial⟩, ho⟩⟩ (by rw [ep]; rfl) (by repeat first | exact SubP.nil | refine SubP.cons (by repeat first | exact Rem.head | apply Rem.tail) ?_) w I
    · refine (alloc z109 (fun b9 => ?_))
      refine hdn (al1 5 rfl ((callv en144 (.cons (.t rfl) (.cons (.t rfl) .nil)) (fun w I => both_g k q p w hq hp c0 hc0) ?_)))
      refine hdn (al1 7 rfl ((stv ty109 (Lens.id _) (.t rfl) (.t rfl) ?_)))
      refine hdn (ovr (pN (seq (sg (co (Ev.ldv ty109 (.t rfl) (Lens.id _)) ?_)))))
      refine nP (block (sg (mv rfl (co (Ev.nilCheck (.t rfl)) ?_))))
      refine co (fA 0 (.t rfl)) ?_
      refine co (Ev.load ty109 (.t rfl) (ptsL (fun w I => (hat.1).keep I.keeps) STrieNode.l_p)) ?_
      refine co (Ev.eqlS rfl eqok109 rfl (by kernel_rfl) (.t rfl) (.t rfl)) ?_
      refine asn rfl (nP ?_)
      first | refine condD rfl (fun h2 => ?_) (fun h2 => ?_) | refine cond rfl (fun h2 => ?_) (fun h2 => ?_)
      · have e1 : bothP q p = q := hc0.trans ((SPrefix.eqb_iff _ _).1 h2)
        obtain ⟨bb, hbb⟩ : ∃ z, bitP q p = z := ⟨_, rfl⟩
        have e2 : pb q ++ [bb] <+: pb p := by
          rcases hway with ⟨_, g⟩ | ⟨g, _⟩ | ⟨g, _⟩
          · rw [← hbb]; exact g
          · exact absurd e1 g
          · exact absurd e1 g
        have hlt := snoc_lt hq hp e2
        have hbn := bI_nn bb
        have hbt : (bI bb).toNat < 2 := by omega
        refine sg (mv rfl (co (Ev.nilCheck (.t rfl)) ?_))
        refine co (Ev.load ty257 (.t rfl) (ptsL (fun w I => (hat.1).keep I.keeps) (Lens.id _))) ?_
        refine cons (alloc z257 (fun b10 => ?_))
        refine cons (stv ty257 (Lens.id _) (.t rfl) (.t rfl) ?_)
        refine nP (seq (draw' (by kernel_rfl) ?_))
        refine tk 0 rfl (fA 0 (.t rfl)) ?_
        refine tk 1 rfl (Ev.ldv ty45 (.t rfl) SPrefix.l_addr) ?_
        refine tk 2 rfl (Ev.move (.t rfl)) ?_
        refine tk 3 rfl (Ev.nilCheck (.t rfl)) ?_
        refine tk 4 rfl (fA 0 (.t rfl)) ?_
        refine tk 5 rfl (fA 17 (.t rfl)) ?_
        refine tk 6 rfl (Ev.load ty3 (.t rfl) (ptsL (fun w I => (hat.1).keep I.keeps) (Lens.comp STrieNode.l_p SPrefix.l_bits))) ?_
        refine al1 7 rfl ((callv en145 (.cons (.t rfl) (.cons (.t rfl) .nil)) (fun w I => bit_g _ _ w hlt bb hbb) ?_))
        refine hdn (tk 8 rfl (Ev.assign (.t rfl)) ?_)
        refine ovr (pN (seq (draw' (by kernel_rfl) ?_)))
        refine tk 0 rfl (Ev.move (.t rfl)) ?_
        refine tk 1 rfl (Ev.move (.t rfl)) ?_
        refine tk 2 rfl (Ev.nilCheck (.t rfl)) ?_
        refine tk 3 rfl (fA 20 (.t rfl)) ?_
        refine tk 4 rfl (Ev.indexAddrA Tryz.underlying224 ty223 (.t rfl) (.t rfl) (fun _ => by omega)) ?_
        refine tk 5 rfl (Ev.to (v' := (PT.kid bb l r).ptr.v) (Ev.load ty223 (.t rfl) (ptsL (fun w I => (hat.1).keep I.keeps) (Lens.comp STrieNode.l_kids (lArr (n := 2) (ovE nilPtr) _ (by omega))))) (congrArg OV.v (kids_at l r bb hbt))) ?_
        refine tk 6 rfl (Ev.ldv ty109 (.t rfl) (Lens.id _)) ?_
        refine tk 7 rfl (Ev.move (.t rfl)) ?_
        refine al1 8 rfl ((calln (X := PT × List Res) (PutJ (PT.kid bb l r) (putT p v (PT.kid bb l r).tr).1) (fun x => .tuple #[x.1.ptr.v, .bool (putT p v (PT.kid bb l r).tr).2]) (fun x => x.2) en107 (.cons (.t rfl) (.cons (.t rfl) (.cons (.t rfl) .nil))) (fun w I => ih bb _ w (PT.At.kid (hat.2.1.keep I.keeps) (hat.2.2.keep I.keeps) bb) (kid_wf hw.2.2.1 hw.2.2.2.1 bb) e2) (fun x1 hx1 => ?_)))
        refine hdn (tk 9 rfl (Ev.move (.t rfl)) ?_)
        refine tk 10 rfl (Ev.extract (.t rfl) rfl) ?_
        refine tk 11 rfl (Ev.extract (.t rfl) rfl) ?_
        refine tk 12 rfl (Ev.assign (.t rfl)) ?_
        refine tk 13 rfl (Ev.assign (.t rfl)) ?_
        refine ovr (pN (sg (mv rfl (mv rfl (co (fA 20 (.t rfl)) ?_)))))
        refine co (Ev.indexAddrA Tryz.underlying224 ty223 (.t rfl) (.t rfl) (fun _ => by omega)) ?_
        refine cons (stv ty223 (Lens.comp STrieNode.l_kids (lArr (n := 2) (ovE nilPtr) _ (by omega))) (.t rfl) (.t rfl) ?_)
        refine nP (sg (mv rfl (asn rfl (asn rfl (nP (ret (bR (pR (done rfl (.tmp rfl (.tmp rfl .nil)) (fun w I => ?_))))))))))
        cases bb with
        | true =>
          have ep : putT p v (.node q u h l.tr r.tr) = (.node q u h l.tr (putT p v r.tr).1, (putT p v r.tr).2) := by show Tr.put _ _ _ _ _ = _; rw [Tr.put, if_neg hqp, if_pos e1, if_pos hbb]
          exact retNP (PT.node b10 q u h l x1.1, Var b10 eTrieNode (⟨q, u, h, kids l x1.1⟩ : STrieNode) 257 :: x1.2) ⟨by rw [ep]; exact congrArg (Tr.node q u h l.tr) hx1.1, fun w1 ho hh => ⟨pts_mem (T := 257) hh List.mem_cons_self, ho.2.1, hx1.2 w1 ho.2.2 (fun q hq => hh q (List.mem_cons_of_mem _ hq))⟩⟩ (by rw [ep]; rfl) (by repeat first | refine SubP.cons (by repeat first | exact Rem.head | apply Rem.tail | apply Rem.app) ?_ | exact SubP.of (by repeat first | exact sR | apply sS | exact List.sublist_append_left _ _)) w I
        | false =>
          have ep : putT p v (.node q u h l.tr r.tr) = (.node q u h (putT p v l.tr).1 r.tr, (putT p v l.tr).2) := by show Tr.put _ _ _ _ _ = _; rw [Tr.put, if_neg hqp, if_pos e1, if_neg (by rw [hbb]; exact Bool.false_ne_true)]
          exact retNP (PT.node b10 q u h x1.1 r, Var b10 eTrieNode (⟨q, u, h, kids x1.1 r⟩ : STrieNode) 257 :: x1.2) ⟨by rw [ep]; exact congrArg (fun z => Tr.node q u h z r.tr) hx1.1, fun w1 ho hh => ⟨pts_mem (T := 257) hh List.mem_cons_self, hx1.2 w1 ho.2.1 (fun q hq => hh q (List.mem_cons_of_mem _ hq)), ho.2.2⟩⟩ (by rw [ep]; rfl) (by repeat first | refine SubP.cons (by repeat first | exact Rem.head | apply Rem.tail | apply Rem.app) ?_ | exact SubP.of (by repeat first | exact sR | apply sS | exact List.sublist_append_left _ _)) w I
      · have e0 : bothP q p ≠ q := by rw [hc0]; exact eqb_no h2
        refine sg (co (Ev.ldv ty109 (.t rfl) (Lens.id _)) ?_)
        refine co (Ev.eqlS rfl eqok109 rfl (by kernel_rfl) (.t rfl) (.t rfl)) ?_
        refine asn rfl (nP ?_)
        first | refine condD rfl (fun h3 => ?_) (fun h3 => ?_) | refine cond rfl (fun h3 => ?_) (fun h3 => ?_)
        · have e1 : bothP q p = p := hc0.trans ((SPrefix.eqb_iff _ _).1 h3)
          obtain ⟨bb, hbb⟩ : ∃ z, bitP p q = z := ⟨_, rfl⟩
          have e2 : pb p ++ [bb] <+: pb q := by
            rcases hway with ⟨g, _⟩ | ⟨_, _, g⟩ | ⟨_, g, _⟩
            · exact absurd g e0
            · rw [← hbb]; exact g
            · exact absurd e1 g
          have hlt := snoc_lt hp hq e2
          have hbn := bI_nn bb
          have hbt : (bI bb).toNat < 2 := by omega
          refine sg (co (Ev.ldv ty109 (.t rfl) (Lens.id _)) ?_)
          refine mv rfl (co (Ev.buildS (fs := _) (places := [(0, 18), (18, 1), (19, 1), (20, 2)]) z257 rfl Tryz.underlying257 (by kernel_rfl) (.cons (.t rfl) (.cons (.t rfl) (.cons (.c (v := .bool true) rfl) .nil))) (Fills.cons STrieNode.l_p rfl (Fills.cons STrieNode.l_v rfl (Fills.cons STrieNode.l_has rfl Fills.nil)))) ?_)
          refine cons (box (E := eTrieNode) (.t rfl) (fun b11 => ?_))
          refine asn rfl (nP (seq (drawS 87 rfl (by repeat first | exact Rem.head | apply Rem.tail) (by kernel_rfl) ?_)))
          refine tk 0 rfl (Ev.move (.t rfl)) ?_
          refine tk 1 rfl (Ev.move (.t rfl)) ?_
          refine tk 2 rfl (Ev.nilCheck (.t rfl)) ?_
          refine tk 3 rfl (fA 0 (.t rfl)) ?_
          refine tk 4 rfl (fA 0 (.t rfl)) ?_
          refine tk 5 rfl (Ev.load ty45 (.t rfl) (ptsL (fun w I => (hat.1).keep I.keeps) (Lens.comp STrieNode.l_p SPrefix.l_addr))) ?_
          refine tk 6 rfl (fA 17 (.t rfl)) ?_
          refine tk 7 rfl (Ev.ldv ty3 (.t rfl) SPrefix.l_bits) ?_
          refine tk 9 rfl (Ev.to (v' := (PT.node b q u h l r).ptr.v) (Ev.move (.t rfl)) (rfl)) ?_
          refine tk 10 rfl (Ev.nilCheck (.t rfl)) ?_
          refine tk 11 rfl (fA 20 (.t rfl)) ?_
          refine al1 8 rfl ((callv en145 (.cons (.t rfl) (.cons (.t rfl) .nil)) (fun w I => bit_g _ _ w hlt bb hbb) ?_))
          refine hdn (tk 12 rfl (Ev.indexAddrA Tryz.underlying224 ty223 (.t rfl) (.t rfl) (fun _ => by omega)) ?_)
          refine al1 13 rfl ((stv ty223 (Lens.comp STrieNode.l_kids (lArr (n := 2) (ovE nilPtr) _ (by omega))) (.t rfl) (.t rfl) ?_))
          refine hdn (ovr (pN (sg (mv rfl (asn rfl (co (Ev.assign (.c (v := .bool true) rfl)) ?_))))))
          refine nP (ret (bR (pR (done rfl (.tmp rfl (.tmp rfl .nil)) (fun w I => ?_)))))
          cases bb with
          | true =>
            have ep : putT p v (.node q u h l.tr r.tr) = (.node p v true .nil (.node q u h l.tr r.tr), true) := by show Tr.put _ _ _ _ _ = _; rw [Tr.put, if_neg hqp, if_neg e0, if_pos e1, if_pos hbb]
            exact retNP (PT.node b11 p v true .nil (PT.node b q u h l r), [Var b11 eTrieNode (⟨p, v, true, kids .nil (PT.node b q u h l r)⟩ : STrieNode) 257]) ⟨by rw [ep]; rfl, fun w1 ho hh => ⟨pts_mem (T := 257) hh (by simp), trivial, ho⟩⟩ (by rw [ep]; rfl) (by repeat first | exact SubP.nil | refine SubP.cons (by repeat first | exact Rem.head | apply Rem.tail) ?_) w I
          | false =>
            have ep : putT p v (.node q u h l.tr r.tr) = (.node p v true (.node q u h l.tr r.tr) .nil, true) := by show Tr.put _ _ _ _ _ = _; rw [Tr.put, if_neg hqp, if_neg e0, if_pos e1, if_neg (by rw [hbb]; exact Bool.false_ne_true)]
            exact retNP (PT.node b11 p v true (PT.node b q u h l r) .nil, [Var b11 eTrieNode (⟨p, v, true, kids (PT.node b q u h l r) .nil⟩ : STrieNode) 257]) ⟨by rw [ep]; rfl, fun w1 ho hh => ⟨pts_mem (T := 257) hh (by simp), ho, trivial⟩⟩ (by rw [ep]; rfl) (by repeat first | exact SubP.nil | refine SubP.cons (by repeat first | exact Rem.head | apply Rem.tail) ?_) w I
        · have e1 : bothP q p ≠ p := by rw [hc0]; exact eqb_no h3
          obtain ⟨bp, hbp⟩ : ∃ z, bitP c0 p = z := ⟨_, rfl⟩
          obtain ⟨bq, hbq⟩ : ∃ z, bitP c0 q = z := ⟨_, rfl⟩
          obtain ⟨g2, g5, g6⟩ : okP k c0 ∧ bq = (!bp) ∧ pb c0 ++ [bp] <+: pb p := by
            rcases hway with ⟨g, _⟩ | ⟨_, g, _⟩ | ⟨_, _, a2, _, a4, _, a6⟩
            · exact absurd g e0
            · exact absurd g e1
            · rw [hc0] at a2 a4 a6
              rw [hbp] at a4 a6
              exact ⟨a2, hbq.symm.trans a4, a6⟩
          have hbqp := g5
          have hlt := snoc_lt g2 hp g6
          have hbn := bI_nn bp
          have hbt : (bI bp).toNat < 2 := by omega
          have hbn2 := bI_nn bq
          have hbt2 : (bI bq).toNat < 2 := by omega
          refine skip (bN (pN (sg (co (Ev.ldv ty109 (.t rfl) (Lens.id _)) ?_))))
          refine co (Ev.buildS (fs := _) (places := [(0, 18), (18, 1), (19, 1), (20, 2)]) z257 rfl Tryz.underlying257 (by kernel_rfl) (.cons (.t rfl) .nil) (Fills.cons STrieNode.l_p rfl Fills.nil)) ?_
          refine cons (box (E := eTrieNode) (.t rfl) (fun b12 => ?_))
          refine asn rfl (nP (seq (drawS 104 rfl (by repeat first | exact Rem.head | apply Rem.tail) (by kernel_rfl) ?_)))
          refine tk 0 rfl (Ev.move (.t rfl)) ?_
          refine tk 1 rfl (Ev.move (.t rfl)) ?_
          refine tk 2 rfl (Ev.nilCheck (.t rfl)) ?_
          refine tk 3 rfl (fA 0 (.t rfl)) ?_
          refine tk 4 rfl (fA 0 (.t rfl)) ?_
          refine tk 5 rfl (Ev.load ty45 (.t rfl) (ptsL (fun w I => (hat.1).keep I.keeps) (Lens.comp STrieNode.l_p SPrefix.l_addr))) ?_
          refine tk 6 rfl (fA 17 (.t rfl)) ?_
          refine tk 7 rfl (Ev.ldv ty3 (.t rfl) SPrefix.l_bits) ?_
          refine tk 9 rfl (Ev.to (v' := (PT.node b q u h l r).ptr.v) (Ev.move (.t rfl)) (rfl)) ?_
          refine tk 10 rfl (Ev.nilCheck (.t rfl)) ?_
          refine tk 11 rfl (fA 20 (.t rfl)) ?_
          refine al1 8 rfl ((callv en145 (.cons (.t rfl) (.cons (.t rfl) .nil)) (fun w I => bit_g _ _ w hlt bq hbq) ?_))
          refine hdn (tk 12 rfl (Ev.indexAddrA Tryz.underlying224 ty223 (.t rfl) (.t rfl) (fun _ => by omega)) ?_)
          refine al1 13 rfl ((stv ty223 (Lens.comp STrieNode.l_kids (lArr (n := 2) (ovE nilPtr) _ (by omega))) (.t rfl) (.t rfl) ?_))
          refine hdn (ovr (pN (seq (drawS 104 rfl (by repeat first | exact Rem.head | apply Rem.tail) (by kernel_rfl) ?_))))
          refine tk 0 rfl (Ev.move (.t rfl)) ?_
          refine tk 1 rfl (fA 0 (.t rfl)) ?_
          refine tk 2 rfl (Ev.ldv ty45 (.t rfl) SPrefix.l_addr) ?_
          refine tk 3 rfl (fA 17 (.t rfl)) ?_
          refine tk 4 rfl (Ev.ldv ty3 (.t rfl) SPrefix.l_bits) ?_
          refine tk 6 rfl (Ev.ldv ty109 (.t rfl) (Lens.id _)) ?_
          refine tk 7 rfl (Ev.move (.t rfl)) ?_
          refine tk 8 rfl (Ev.buildS (fs := _) (places := [(0, 18), (18, 1), (19, 1), (20, 2)]) z257 rfl Tryz.underlying257 (by kernel_rfl) (.cons (.t rfl) (.cons (.t rfl) (.cons (.c (v := .bool true) rfl) .nil))) (Fills.cons STrieNode.l_p rfl (Fills.cons STrieNode.l_v rfl (Fills.cons STrieNode.l_has rfl Fills.nil)))) ?_
          refine tk 10 rfl (Ev.nilCheck (.t rfl)) ?_
          refine tk 11 rfl (fA 20 (.t rfl)) ?_
          refine all [5, 9] (by kernel_rfl) (by decide) (.cons rfl ?_ (.cons rfl ?_ .nil))
          · refine (callv en145 (.cons (.t rfl) (.cons (.t rfl) .nil)) (fun w I => bit_g _ _ w hlt bp hbp) ?_)
            refine hdn (al1 9 rfl ((box (E := eTrieNode) (.t rfl) (fun b13 => ?_))))
            refine hdn (tk 12 rfl (Ev.indexAddrA Tryz.underlying224 ty223 (.t rfl) (.t rfl) (fun _ => by omega)) ?_)
            refine al1 13 rfl ((stv ty223 (Lens.comp STrieNode.l_kids (lArr (n := 2) (ovE nilPtr) _ (by omega))) (.t rfl) (.t (v := (PT.node b13 p v true .nil .nil).ptr.v) rfl) ?_))
            refine hdn (ovr (pN (sg (mv rfl (asn rfl (co (Ev.assign (.c (v := .bool true) rfl)) ?_))))))
            refine nP (ret (done rfl (.tmp rfl (.tmp rfl .nil)) (fun w I => ?_)))
            cases bp with
            | true =>
              obtain rfl : bq = false := hbqp
              have ep : putT p v (.node q u h l.tr r.tr) = (.node c0 0 false (.node q u h l.tr r.tr) (.node p v true .nil .nil), true) := by show Tr.put _ _ _ _ _ = _; rw [Tr.put, if_neg hqp, if_neg e0, if_neg e1, hc0, if_pos hbp]
              exact retNP (PT.node b12 c0 0 false (PT.node b q u h l r) (PT.node b13 p v true .nil .nil), [Var b13 eTrieNode (⟨p, v, true, kids .nil .nil⟩ : STrieNode) 257, Var b12 eTrieNode (⟨c0, 0, false, kids (PT.node b q u h l r) (PT.node b13 p v true .nil .nil)⟩ : STrieNode) 257]) ⟨by rw [ep]; rfl, fun w1 ho hh => ⟨pts_mem (T := 257) hh (by simp), ho, pts_mem (T := 257) hh (by simp), trivial, trivial⟩⟩ (by rw [ep]; rfl) (by repeat first | exact SubP.nil | refine SubP.cons (by repeat first | exact Rem.head | apply Rem.tail) ?_) w I
            | false =>
              obtain rfl : bq = true := hbqp
              have ep : putT p v (.node q u h l.tr r.tr) = (.node c0 0 false (.node p v true .nil .nil) (.node q u h l.tr r.tr), true) := by show Tr.put _ _ _ _ _ = _; rw [Tr.put, if_neg hqp, if_neg e0, if_neg e1, hc0, if_neg (by rw [hbp]; exact Bool.false_ne_true)]
              exact retNP (PT.node b12 c0 0 false (PT.node b13 p v true .nil .nil) (PT.node b q u h l r), [Var b13 eTrieNode (⟨p, v, true, kids .nil .nil⟩ : STrieNode) 257, Var b12 eTrieNode (⟨c0, 0, false, kids (PT.node b13 p v true .nil .nil) (PT.node b q u h l r)⟩ : STrieNode) 257]) ⟨by rw [ep]; rfl, fun w1 ho hh => ⟨pts_mem (T := 257) hh (by simp), ⟨pts_mem (T := 257) hh (by simp), trivial, trivial⟩, ho⟩⟩ (by rw [ep]; rfl) (by repeat first | exact SubP.nil | refine SubP.cons (by repeat first | exact Rem.head | apply Rem.tail) ?_) w I
          · refine (box (E := eTrieNode) (.t rfl) (fun b14 => ?_))
            refine hdn (al1 5 rfl ((callv en145 (.cons (.t rfl) (.cons (.t rfl) .nil)) (fun w I => bit_g _ _ w hlt bp hbp) ?_)))
            refine hdn (tk 12 rfl (Ev.indexAddrA Tryz.underlying224 ty223 (.t rfl) (.t rfl) (fun _ => by omega)) ?_)
            refine al1 13 rfl ((stv ty223 (Lens.comp STrieNode.l_kids (lArr (n := 2) (ovE nilPtr) _ (by omega))) (.t rfl) (.t (v := (PT.node b14 p v true .nil .nil).ptr.v) rfl) ?_))
            refine hdn (ovr (pN (sg (mv rfl (asn rfl (co (Ev.assign (.c (v := .bool true) rfl)) ?_))))))
            refine nP (ret (done rfl (.tmp rfl (.tmp rfl .nil)) (fun w I => ?_)))
            cases bp with
            | true =>
              obtain rfl : bq = false := hbqp
              have ep : putT p v (.node q u h l.tr r.tr) = (.node c0 0 false (.node q u h l.tr r.tr) (.node p v true .nil .nil), true) := by show Tr.put _ _ _ _ _ = _; rw [Tr.put, if_neg hqp, if_neg e0, if_neg e1, hc0, if_pos hbp]
              exact retNP (PT.node b12 c0 0 false (PT.node b q u h l r) (PT.node b14 p v true .nil .nil), [Var b14 eTrieNode (⟨p, v, true, kids .nil .nil⟩ : STrieNode) 257, Var b12 eTrieNode (⟨c0, 0, false, kids (PT.node b q u h l r) (PT.node b14 p v true .nil .nil)⟩ : STrieNode) 257]) ⟨by rw [ep]; rfl, fun w1 ho hh => ⟨pts_mem (T := 257) hh (by simp), ho, pts_mem (T := 257) hh (by simp), trivial, trivial⟩⟩ (by rw [ep]; rfl) (by repeat first | exact SubP.nil | refine SubP.cons (by repeat first | exact Rem.head | apply Rem.tail) ?_) w I
            | false =>
              obtain rfl : bq = true := hbqp
              have ep : putT p v (.node q u h l.tr r.tr) = (.node c0 0 false (.node p v true .nil .nil) (.node q u h l.tr r.tr), true) := by show Tr.put _ _ _ _ _ = _; rw [Tr.put, if_neg hqp, if_neg e0, if_neg e1, hc0, if_neg (by rw [hbp]; exact Bool.false_ne_true)]
              exact retNP (PT.node b12 c0 0 false (PT.node b14 p v true .nil .nil) (PT.node b q u h l r), [Var b14 eTrieNode (⟨p, v, true, kids .nil .nil⟩ : STrieNode) 257, Var b12 eTrieNode (⟨c0, 0, false, kids (PT.node b14 p v true .nil .nil) (PT.node b q u h l r)⟩ : STrieNode) 257]) ⟨by rw [ep]; rfl, fun w1 ho hh => ⟨pts_mem (T := 257) hh (by simp), ⟨pts_mem (T := 257) hh (by simp), trivial, trivial⟩, ho⟩⟩ (by rw [ep]; rfl) (by repeat first | exact SubP.nil | refine SubP.cons (by repeat first | exact Rem.head | apply Rem.tail) ?_) w I
theorem put_ok (k : Bool) (p : SPrefix) (v : Int) (hp : okP k p) : ∀ (t : PT) (c : List Bool) (w : World), t.At w → t.tr.WF (okP k) pb c → c <+: pb p → Calls Tryz.prog 107 #[t.ptr.v, ePrefix.val p, I v] w (RetN w (PutJ t (putT p v t.tr).1) (fun x => .tuple #[x.1.ptr.v, .bool (putT p v t.tr).2]) (fun x => x.2))
  | .nil, _, w, _, _, _ => put_nil p v w
  | .node b q u h l r, c, w, hat, hw, hc => put_node k p v hp b q u h l r c w hat hw hc (fun bb c' w' h1 h2 h3 => by
    cases bb with
    | true => exact put_ok k p v hp r c' w' h1 h2 h3
    | false => exact put_ok k p v hp l c' w' h1 h2 h3)
end Go.Proofs.YtakmoeladkajdaaGreat.Tri
namespace Go.Proofs.YtakmoeladkajdaaGreat.Tri
open Go Go.Gx
def KL (b : Bool) (l n : PT) : PT := bif b then l else n
def KR (b : Bool) (n r : PT) : PT := bif b then n else r
abbrev cutT (p : SPrefix) (t : Tr SPrefix) : Tr SPrefix := t.cut bitP p
end Go.Proofs.YtakmoeladkajdaaGreat.Tri
namespace Go.Proofs.YtakmoeladkajdaaGreat.Tri
open Go Go.Gx
structure Tt where
  b : Nat
  made : Bool
  n : Int
  l : PT
  r : PT
def Tt.ptr (t : Tt) : OV := ⟨.pointer (some ⟨t.b, 0, none⟩), rfl⟩
def Tt.val (t : Tt) : STrieTrie := ⟨t.made, t.n, kids t.l t.r⟩
def Tt.At (w : World) (t : Tt) : Prop := PtsTo eTrieTrie w t.b 0 t.val ∧ t.l.At w ∧ t.r.At w
theorem Tt.At.keep {w w' : World} {t : Tt} (h : t.At w) (k : Keeps Nope w w') : t.At w' := ⟨h.1.keep k, h.2.1.keep k, h.2.2.keep k⟩
def Tt.ents (t : Tt) : List (SPrefix × Int) := t.l.tr.ents ++ t.r.tr.ents
structure Tt.OK (t : Tt) : Prop where
  made : t.made = true
  n : t.n = t.ents.length
  l : t.l.tr.WF (okP false) pb []
  r : t.r.tr.WF (okP true) pb []
theorem Tt.OK.kid {t : Tt} (h : t.OK) (k : Bool) : (PT.kid k t.l t.r).tr.WF (okP k) pb [] := by cases k; exact h.l; exact h.r
theorem Tt.At.kid {w : World} {t : Tt} (h : t.At w) (k : Bool) : (PT.kid k t.l t.r).At w := PT.At.kid h.2.1 h.2.2 k
theorem pb_keys {k : Bool} {t : Tr SPrefix} {c : List Bool} (h : t.WF (okP k) pb c) : (t.ents.map (·.1)).Nodup := by
  have h1 := h.ents_sorted
  rw [List.nodup_iff_pairwise_ne, List.pairwise_map]
  exact h1.imp (fun {a b} hab e => by rw [e, ltB_irr] at hab; cases hab)
theorem Tt.OK.nodup {t : Tt} (h : t.OK) : (t.ents.map (·.1)).Nodup := by
  unfold Tt.ents
  rw [List.map_append, List.nodup_append]
  refine ⟨pb_keys h.l, pb_keys h.r, fun a ha b hb e => ?_⟩
  obtain ⟨x, hx, rfl⟩ := List.mem_map.1 ha
  obtain ⟨y, hy, rfl⟩ := List.mem_map.1 hb
  have h1 := (h.l.ents_in x hx).1.2
  have h2 := (h.r.ents_in y hy).1.2
  rw [e, h2] at h1
  cases h1
theorem Tt.OK.mem {t : Tt} (h : t.OK) (x : SPrefix × Int) : x ∈ t.ents ↔ x ∈ (PT.kid x.1.addr.v6 t.l t.r).tr.ents := by
  unfold Tt.ents
  rw [List.mem_append]
  constructor
  · rintro (hx | hx)
    · rw [(h.l.ents_in x hx).1.2]; exact hx
    · rw [(h.r.ents_in x hx).1.2]; exact hx
  · intro hx
    cases hv : x.1.addr.v6 with
    | false => rw [hv] at hx; exact .inl hx
    | true => rw [hv] at hx; exact .inr hx
theorem Tt.OK.mem_k {t : Tt} (h : t.OK) (k : Bool) (x : SPrefix × Int) : x ∈ (PT.kid k t.l t.r).tr.ents ↔ (x ∈ t.ents ∧ x.1.addr.v6 = k) := by
  constructor
  · intro hx
    have e := ((h.kid k).ents_in x hx).1.2
    exact ⟨(h.mem x).2 (by rw [e]; exact hx), e⟩
  · rintro ⟨hx, rfl⟩
    exact (h.mem x).1 hx
theorem nodup_of_keys {l : List (SPrefix × Int)} (h : (l.map (·.1)).Nodup) : l.Nodup := by
  rw [List.nodup_iff_pairwise_ne, List.pairwise_map] at h
  rw [List.nodup_iff_pairwise_ne]
  exact h.imp (fun {a b} hab e => hab (by rw [e]))
theorem len_new {l m : List (SPrefix × Int)} (hl : (l.map (·.1)).Nodup) (hm : (m.map (·.1)).Nodup) {p : SPrefix} {v : Int} (h : ∀ x, x ∈ m ↔ (x = (p, v) ∨ (x ∈ l ∧ x.1 ≠ p))) :
    ((∀ x ∈ l, x.1 ≠ p) → m.length = l.length + 1) ∧ ((∃ x ∈ l, x.1 = p) → m.length = l.length) := by
  constructor
  · intro hn
    have hp : m.Perm ((p, v) :: l) := (List.perm_ext_iff_of_nodup (nodup_of_keys hm) (List.nodup_cons.2 ⟨fun hx => hn _ hx rfl, nodup_of_keys hl⟩)).2 (fun x => by
      rw [h, List.mem_cons]
      exact ⟨fun g => g.imp id (·.1), fun g => g.imp id (fun g => ⟨g, hn x g⟩)⟩)
    simpa using hp.length_eq
  · rintro ⟨y, hy, hyp⟩
    have hp : (m.map (·.1)).Perm (l.map (·.1)) := (List.perm_ext_iff_of_nodup hm hl).2 (fun q => by
      simp only [List.mem_map]
      constructor
      · rintro ⟨x, hx, rfl⟩
        rcases (h x).1 hx with rfl | ⟨hx, _⟩
        · exact ⟨y, hy, hyp⟩
        · exact ⟨x, hx, rfl⟩
      · rintro ⟨x, hx, rfl⟩
        by_cases e : x.1 = p
        · exact ⟨(p, v), (h _).2 (.inl rfl), e.symm⟩
        · exact ⟨x, (h x).2 (.inr ⟨hx, e⟩), rfl⟩)
    simpa using hp.length_eq
def pO (e : Int) (b : Nat) : Option Addr := if e = 0 then some ⟨b, 0, none⟩ else none
def TputJ (t : Tt) (p : SPrefix) (v : Int) (x : Tt × List Res) : Prop := checkP p = 0 → (x.1.OK ∧ (∀ y, y ∈ x.1.ents ↔ (y = (p, v) ∨ (y ∈ t.ents ∧ y.1 ≠ p))) ∧ ∀ w1, t.At w1 → (∀ r ∈ x.2, r.A w1) → x.1.At w1)
def Tt.swap (t : Tt) (b : Nat) (n : Int) (k : Bool) (x : PT) : Tt := ⟨b, t.made, n, bif k then t.l else x, bif k then x else t.r⟩
theorem Tt.swap_kids (t : Tt) (b : Nat) (n : Int) (k : Bool) (x : PT) (h : (bI k).toNat < 2) : (kids t.l t.r).set (bI k).toNat x.ptr h = kids (t.swap b n k x).l (t.swap b n k x).r := by cases k <;> rfl
theorem Tt.swap_at {w : World} {t : Tt} {b : Nat} {n : Int} {k : Bool} {x : PT} (h : t.At w) (hx : x.At w) (hb : PtsTo eTrieTrie w b 0 (t.swap b n k x).val) : (t.swap b n k x).At w := ⟨hb, by cases k; exact hx; exact h.2.1, by cases k; exact h.2.2; exact hx⟩
theorem Tt.swap_ok {t : Tt} (h : t.OK) {k : Bool} {x : PT} {b : Nat} {n : Int} (hx : x.tr.WF (okP k) pb []) (hn : n = (t.swap b n k x).ents.length) : (t.swap b n k x).OK := ⟨h.made, hn, by cases k; exact hx; exact h.l, by cases k; exact h.r; exact hx⟩
theorem Tt.swap_mem {t : Tt} (h : t.OK) {k : Bool} {x : PT} {b : Nat} {n : Int} (hx : x.tr.WF (okP k) pb []) (y : SPrefix × Int) : y ∈ (t.swap b n k x).ents ↔ ((y.1.addr.v6 = k ∧ y ∈ x.tr.ents) ∨ (y.1.addr.v6 ≠ k ∧ y ∈ t.ents)) := by
  have hk : ∀ {z : Tr SPrefix} {j : Bool}, z.WF (okP j) pb [] → y ∈ z.ents → y.1.addr.v6 = j := fun hz hy => (hz.ents_in y hy).1.2
  cases k with
  | false =>
    show y ∈ x.tr.ents ++ t.r.tr.ents ↔ _
    unfold Tt.ents
    rw [List.mem_append, List.mem_append]
    constructor
    · rintro (hy | hy)
      · exact .inl ⟨hk hx hy, hy⟩
      · exact .inr ⟨by rw [hk h.r hy]; decide, .inr hy⟩
    · rintro (hy | ⟨hn, hy | hy⟩)
      · exact .inl hy.2
      · exact absurd (hk h.l hy) hn
      · exact .inr hy
  | true =>
    show y ∈ t.l.tr.ents ++ x.tr.ents ↔ _
    unfold Tt.ents
    rw [List.mem_append, List.mem_append]
    constructor
    · rintro (hy | hy)
      · exact .inr ⟨by rw [hk h.l hy]; decide, .inl hy⟩
      · exact .inl ⟨hk hx hy, hy⟩
    · rintro (hy | ⟨hn, hy | hy⟩)
      · exact .inr hy.2
      · exact .inl hy
      · exact absurd (hk h.r hy) hn
theorem Tt.put_mem {t : Tt} (h : t.OK) {p : SPrefix} {v : Int} {x : PT} {b : Nat} {n : Int} (hx : x.tr.WF (okP p.addr.v6) pb []) (hm : ∀ y, y ∈ x.tr.ents ↔ (y = (p, v) ∨ (y ∈ (PT.kid p.addr.v6 t.l t.r).tr.ents ∧ y.1 ≠ p))) (y : SPrefix × Int) :
    y ∈ (t.swap b n p.addr.v6 x).ents ↔ (y = (p, v) ∨ (y ∈ t.ents ∧ y.1 ≠ p)) := by
  rw [Tt.swap_mem h hx, hm, h.mem_k]
  constructor
  · rintro (⟨h1, h2 | h2⟩ | ⟨h1, h2⟩)
    · exact .inl h2
    · exact .inr ⟨h2.1.1, h2.2⟩
    · exact .inr ⟨h2, fun e => h1 (by rw [e])⟩
  · rintro (h2 | ⟨h2, h3⟩)
    · exact .inl ⟨by rw [h2], .inl h2⟩
    · by_cases e : y.1.addr.v6 = p.addr.v6
      · exact .inl ⟨e, .inr ⟨⟨h2, e⟩, h3⟩⟩
      · exact .inr ⟨e, h2⟩
theorem there_ok (t : Tt) (w : World) (ht : PtsTo eTrieTrie w t.b 0 t.val) : Calls Tryz.prog 105 #[.pointer (some ⟨t.b, 0, none⟩)] w (RetV w (.bool t.made)) := by
  refine en0 11 Tryz.func105 ?_
  refine sg (co (Ev.assign (.c (v := .bool false) rfl)) ?_)
  refine nP (sg (mv rfl (co (Ev.neq_p Tryz.underlying122 (.t rfl) (.c rfl)) ?_)))
  refine mv rfl (cg rfl rfl (Ev.move (.t rfl)) ?_)
  refine cg rfl rfl (Ev.nilCheck (.g rfl id)) ?_
  refine cg rfl rfl (fA 0 (.g rfl id)) ?_
  refine cg rfl rfl (Ev.load ty4 (.g rfl id) (ptsL (fun w I => (ht).keep I.keeps) STrieTrie.l_made)) ?_
  refine co (Ev.pkA (.t rfl) rfl) ?_
  refine asn rfl (nP (ret (done rfl (.tmp rfl .nil) (retE ?_))))
  first | rfl | (simp [Tt.val]; done) | (simp [tupV, Tt.val])
theorem z226 : (Tryz.prog.info? 226).bind (·.zero) = some (eTrieTrie.val eTrieTrie.zero) := by kernel_rfl
theorem new_ok (w : World) : Calls Tryz.prog 72 #[] w (RetN w (fun x : Tt => x.OK ∧ x.ents = [] ∧ x.made = true ∧ x.n = 0 ∧ x.l = .nil ∧ x.r = .nil) (fun x => x.ptr.v) (fun x => [Var x.b eTrieTrie x.val 226])) := by
  refine en0 3 Tryz.func72 ?_
  refine sg (co (Ev.assign (.c (v := (Go.Value.pointer none)) rfl)) ?_)
  refine nP (sg (co (Ev.buildS (fs := _) (places := [(0, 1), (1, 1), (2, 2)]) z226 rfl Tryz.underlying226 (by kernel_rfl) (.cons (.c (v := .bool true) rfl) .nil) (Fills.cons STrieTrie.l_made rfl Fills.nil)) ?_))
  refine cons (box (E := eTrieTrie) (.t rfl) (fun b1 => ?_))
  refine asn rfl (nP (ret (done rfl (.tmp rfl .nil) (fun w I => ?_))))
  exact retNP (⟨b1, true, 0, .nil, .nil⟩ : Tt) ⟨⟨rfl, rfl, trivial, trivial⟩, rfl, rfl, rfl, rfl, rfl⟩ rfl (by repeat first | exact SubP.nil | refine SubP.cons (by repeat first | exact Rem.head | apply Rem.tail) ?_) w I
theorem Tt.swap_nodup {t : Tt} (h : t.OK) {k : Bool} {x : PT} {b : Nat} {n : Int} (hx : x.tr.WF (okP k) pb []) : ((t.swap b n k x).ents.map (·.1)).Nodup := (Tt.swap_ok (b := b) (n := ((t.swap b 0 k x).ents.length : Int)) h hx rfl).nodup
theorem en105 : Gx.Enters Tryz.prog 105 := Gx.Enters.mk' (by kernel_rfl)
theorem ty226 : TyOK Tryz.prog 226 eTrieTrie := TyOK.mk' (by kernel_rfl) (by kernel_rfl)
theorem en106 : Gx.Enters Tryz.prog 106 := Gx.Enters.mk' (by kernel_rfl)
theorem tput_ok (t : Tt) (p : SPrefix) (v : Int) (w : World) (ht : t.At w) (ho : t.OK) (hn : t.n ≤ 4611686018427387904) : Calls Tryz.prog 73 #[.pointer (some ⟨t.b, 0, none⟩), ePrefix.val p, I v] w (RetN w (TputJ t p v) (fun x => .tuple #[.pointer (pO (checkP p) x.1.b), I (checkP p)]) (fun x => x.2)) := by
  refine en0 48 Tryz.func73 ?_
  refine sg (cons (box (E := ePrefix) (.t rfl) (fun b1 => ?_)))
  refine co (Ev.assign (.c (v := (Go.Value.pointer none)) rfl)) ?_
  refine co (Ev.assign (.c (v := I 0) rfl)) ?_
  refine nP (seq (sg (mv rfl (cons (callv en105 (.cons (.t rfl) .nil) (fun w I => there_ok t w (ht.1.keep I.keeps)) ?_)))))
  refine co (Ev.not (.t rfl)) ?_
  refine nP (condF rfl (by rw [ho.made]; rfl) ?_)
  refine skip (pN (seq (sg (co (Ev.ldx p ty109 (.t rfl) (Lens.id _)) ?_))))
  refine cons (callv en71 (.cons (.t rfl) .nil) (fun w I => checkP_ok _ w) ?_)
  refine asn rfl (nP (sg (mv rfl (co (Ev.neq_i (.t rfl) (.c (v := I 0) rfl)) ?_))))
  refine nP ?_
  first | refine condD rfl (fun h1 => ?_) (fun h1 => ?_) | refine cond rfl (fun h1 => ?_) (fun h1 => ?_)
  · try simp only [nb] at h1
    refine sg (mv rfl (co (Ev.assign (.c (v := (Go.Value.pointer none)) rfl)) ?_))
    refine asn rfl (nP (ret (pR (done rfl (.tmp rfl (.tmp rfl .nil)) (fun w I => ?_)))))
    exact retNP (t, []) (fun h => absurd h h1) (by show _ = Value.tuple #[.pointer (pO (checkP p) t.b), Gx.I (checkP p)]; unfold pO; rw [if_neg h1]; rfl) SubP.nil w I
  · try simp only [nb] at h1
    have hck : checkP p = 0 := Decidable.not_not.1 h1
    have hbn := bI_nn p.addr.v6
    have hbt : (bI p.addr.v6).toNat < 2 := by omega
    obtain ⟨sp1, sp2, sp3, sp4⟩ := (keyLaw p.addr.v6).put_spec (p := p) ⟨hck, rfl⟩ v (PT.kid p.addr.v6 t.l t.r).tr [] (ho.kid _) List.nil_prefix
    refine skip (pN (sg (mv rfl (co (Ev.nilCheck (.t rfl)) ?_))))
    refine co (Ev.load ty226 (.t rfl) (ptsL (fun w I => ((ht).1).keep I.keeps) (Lens.id _))) ?_
    refine cons (alloc z226 (fun b2 => ?_))
    refine cons (stv ty226 (Lens.id _) (.t rfl) (.t rfl) ?_)
    refine nP (sg (co (fA 0 (.t rfl)) ?_))
    refine co (Ev.ldx p.addr ty45 (.t rfl) SPrefix.l_addr) ?_
    refine cons (callv en106 (.cons (.t rfl) .nil) (fun w I => kind_ok _ w) ?_)
    refine asn rfl (nP (seq (draw' (by kernel_rfl) ?_)))
    refine tk 0 rfl (Ev.move (.t rfl)) ?_
    refine tk 1 rfl (Ev.move (.t rfl)) ?_
    refine tk 2 rfl (Ev.nilCheck (.t rfl)) ?_
    refine tk 3 rfl (fA 2 (.t rfl)) ?_
    refine tk 4 rfl (Ev.indexAddrA Tryz.underlying224 ty223 (.t rfl) (.t rfl) (fun _ => by omega)) ?_
    refine tk 5 rfl (Ev.to (v' := (PT.kid p.addr.v6 t.l t.r).ptr.v) (Ev.load ty223 (.t rfl) (ptsL (fun w I => ((ht).1).keep I.keeps) (Lens.comp STrieTrie.l_roots (lArr (n := 2) (ovE nilPtr) _ (by omega))))) (congrArg OV.v (kids_at t.l t.r p.addr.v6 hbt))) ?_
    refine tk 6 rfl (Ev.ldx p ty109 (.t rfl) (Lens.id _)) ?_
    refine tk 7 rfl (Ev.move (.t rfl)) ?_
    refine al1 8 rfl ((calln (X := PT × List Res) (PutJ (PT.kid p.addr.v6 t.l t.r) (putT p v (PT.kid p.addr.v6 t.l t.r).tr).1) (fun x => .tuple #[x.1.ptr.v, .bool (putT p v (PT.kid p.addr.v6 t.l t.r).tr).2]) (fun x => x.2) en107 (.cons (.t rfl) (.cons (.t rfl) (.cons (.t rfl) .nil))) (fun w I => put_ok p.addr.v6 p v ⟨hck, rfl⟩ (PT.kid p.addr.v6 t.l t.r) [] w ((ht.keep I.keeps).kid _) (ho.kid _) List.nil_prefix) (fun x1 hx1 => ?_)))
    refine hdn (tk 9 rfl (Ev.move (.t rfl)) ?_)
    refine tk 10 rfl (Ev.extract (.t rfl) rfl) ?_
    refine tk 11 rfl (Ev.extract (.t rfl) rfl) ?_
    refine tk 12 rfl (Ev.assign (.t rfl)) ?_
    refine tk 13 rfl (Ev.assign (.t rfl)) ?_
    refine ovr (pN (seq ?_))
    have hwx : x1.1.tr.WF (okP p.addr.v6) pb [] := by rw [hx1.1]; exact sp1
    have hmx := sp3
    rw [← show x1.1.tr = _ from hx1.1] at hmx
    refine region (mv rfl (mv rfl (co (fA 2 (.t rfl)) ?_)))
    refine co (Ev.indexAddrA Tryz.underlying224 ty223 (.t rfl) (.t rfl) (fun _ => by omega)) ?_
    refine cons (stv ty223 (Lens.comp STrieTrie.l_roots (lArr (n := 2) (ovE nilPtr) _ (by omega))) (.t rfl) (.t rfl) ?_)
    refine nP (seq (sg (mv rfl (nP ?_))))
    first | refine condD rfl (fun h2 => ?_) (fun h2 => ?_) | refine cond rfl (fun h2 => ?_) (fun h2 => ?_)
    · have hfr : ∀ y ∈ t.ents, y.1 ≠ p := fun y hy e => sp4.1 h2 y (by rw [← e]; exact (ho.mem y).1 hy) e
      refine region (co (fA 1 (.t rfl)) ?_)
      refine co (Ev.ldv ty3 (.t rfl) STrieTrie.l_n) ?_
      refine co (Ev.add_i (.t rfl) (.c (v := I 1) rfl) (fun _ => by show Fit (t.n + 1); unfold Fit; have := ho.n; omega)) ?_
      refine co (fA 1 (.t rfl)) ?_
      refine cons (stv ty3 STrieTrie.l_n (.t rfl) (.t rfl) ?_)
      refine nP (sg (asn rfl (co (Ev.assign (.c (v := I 0) rfl)) ?_)))
      refine nP (ret (done rfl (.tmp rfl (.tmp rfl .nil)) (fun w I => ?_)))
      have hmem := Tt.put_mem (b := b2) (n := (t.n + 1)) ho hwx hmx
      have hln := len_new ho.nodup (Tt.swap_nodup (b := b2) (n := (t.n + 1)) ho hwx) hmem
      have hcnt : (t.n + 1) = (t.swap b2 (t.n + 1) p.addr.v6 x1.1).ents.length := by
        have h8 := ho.n
        have h7 := hln.1 hfr
        omega
      refine retNP ((t.swap b2 (t.n + 1) p.addr.v6 x1.1), Var b2 eTrieTrie (t.swap b2 (t.n + 1) p.addr.v6 x1.1).val 226 :: x1.2) (fun _ => ⟨Tt.swap_ok ho hwx hcnt, hmem, fun w1 hw1 hh => Tt.swap_at hw1 (hx1.2 w1 (hw1.kid _) (fun q hq => hh q (List.mem_cons_of_mem _ hq))) (pts_mem (T := 226) hh List.mem_cons_self)⟩) (by show _ = Value.tuple #[.pointer (pO (checkP p) (t.swap b2 (t.n + 1) p.addr.v6 x1.1).b), Gx.I (checkP p)]; unfold pO; rw [if_pos hck, hck]; rfl) ?_ w I
      unfold Tt.val
      rw [← Tt.swap_kids t b2 (t.n + 1) p.addr.v6 x1.1 hbt]
      exact (by repeat first | refine SubP.cons (by repeat first | exact Rem.head | apply Rem.tail | apply Rem.app) ?_ | exact SubP.of (by repeat first | exact sR | apply sS | exact List.sublist_append_left _ _))
    · have hfr : ∃ y ∈ t.ents, y.1 = p := by
        rcases Classical.em (∃ y ∈ t.ents, y.1 = p) with g | g
        · exact g
        · exfalso
          have := sp4.2 (fun y hy e => g ⟨y, ((ho.mem_k _ y).1 hy).1, e⟩)
          rw [show (putT p v (PT.kid p.addr.v6 t.l t.r).tr).2 = false from h2] at this
          cases this
      refine skip (pN (sg (asn rfl (co (Ev.assign (.c (v := I 0) rfl)) ?_))))
      refine nP (ret (done rfl (.tmp rfl (.tmp rfl .nil)) (fun w I => ?_)))
      have hmem := Tt.put_mem (b := b2) (n := t.n) ho hwx hmx
      have hln := len_new ho.nodup (Tt.swap_nodup (b := b2) (n := t.n) ho hwx) hmem
      have hcnt : t.n = (t.swap b2 t.n p.addr.v6 x1.1).ents.length := by
        have h8 := ho.n
        have h7 := hln.2 hfr
        omega
      refine retNP ((t.swap b2 t.n p.addr.v6 x1.1), Var b2 eTrieTrie (t.swap b2 t.n p.addr.v6 x1.1).val 226 :: x1.2) (fun _ => ⟨Tt.swap_ok ho hwx hcnt, hmem, fun w1 hw1 hh => Tt.swap_at hw1 (hx1.2 w1 (hw1.kid _) (fun q hq => hh q (List.mem_cons_of_mem _ hq))) (pts_mem (T := 226) hh List.mem_cons_self)⟩) (by show _ = Value.tuple #[.pointer (pO (checkP p) (t.swap b2 t.n p.addr.v6 x1.1).b), Gx.I (checkP p)]; unfold pO; rw [if_pos hck, hck]; rfl) ?_ w I
      unfold Tt.val
      rw [← Tt.swap_kids t b2 t.n p.addr.v6 x1.1 hbt]
      exact (by repeat first | refine SubP.cons (by repeat first | exact Rem.head | apply Rem.tail | apply Rem.app) ?_ | exact SubP.of (by repeat first | exact sR | apply sS | exact List.sublist_append_left _ _))
end Go.Proofs.YtakmoeladkajdaaGreat.Tri
namespace Go.Proofs.YtakmoeladkajdaaGreat.Tri
open Go Go.Gx
def PT.way (p : SPrefix) : PT → List PT
  | .nil => []
  | .node b q u h l r => if coversP q p = true then .node b q u h l r :: (if ltP q p = true then (if bitP q p = true then r.way p else l.way p) else []) else []
def PT.key : PT → SPrefix × Int × Bool
  | .nil => (ePrefix.zero, 0, false)
  | .node _ q u h _ _ => (q, u, h)
def PT.size : PT → Nat
  | .nil => 0
  | .node _ _ _ _ l r => l.size + r.size + 1
theorem PT.kid_size (bb : Bool) (b : Nat) (q : SPrefix) (u : Int) (h : Bool) (l r : PT) : (PT.kid bb l r).size < (PT.node b q u h l r).size := by cases bb <;> simp only [kid, size, cond_true, cond_false] <;> omega
theorem PT.way_no {p : SPrefix} {b : Nat} {q : SPrefix} {u : Int} {h : Bool} {l r : PT} (hc : coversP q p = false) : PT.way p (.node b q u h l r) = [] := by rw [PT.way, if_neg (by rw [hc]; exact Bool.false_ne_true)]
theorem PT.way_end {p : SPrefix} {b : Nat} {q : SPrefix} {u : Int} {h : Bool} {l r : PT} (hc : coversP q p = true) (hl : ¬ q.bits < p.bits) : PT.way p (.node b q u h l r) = [.node b q u h l r] := by
  have e : ¬ ltP q p = true := fun e => hl (of_decide_eq_true e)
  rw [PT.way, if_pos hc, if_neg e]
theorem PT.way_more {p : SPrefix} {b : Nat} {q : SPrefix} {u : Int} {h : Bool} {l r : PT} {bb : Bool} (hc : coversP q p = true) (hl : q.bits < p.bits) (hb : bitP q p = bb) : PT.way p (.node b q u h l r) = .node b q u h l r :: PT.way p (PT.kid bb l r) := by
  have e : ltP q p = true := decide_eq_true hl
  subst hb
  rw [PT.way, if_pos hc, if_pos e]
  cases bitP q p <;> rfl
theorem PT.way_map (p : SPrefix) : ∀ t : PT, (t.way p).map PT.key = t.tr.path coversP ltP bitP p
  | .nil => rfl
  | .node b q u h l r => by
    have h1 := PT.way_map p l
    have h2 := PT.way_map p r
    simp only [PT.way, PT.tr, Tr.path]
    split
    · split
      · split
        · rw [List.map_cons, h2]; rfl
        · rw [List.map_cons, h1]; rfl
      · rfl
    · rfl
theorem PT.way_node {p : SPrefix} : ∀ {t : PT} {x : PT}, x ∈ t.way p → ∃ b q u h l r, x = .node b q u h l r
  | .nil, x, hx => by simp [PT.way] at hx
  | .node b q u h l r, x, hx => by
    simp only [PT.way] at hx
    split at hx
    · rcases List.mem_cons.1 hx with rfl | hx
      · exact ⟨b, q, u, h, l, r, rfl⟩
      · split at hx
        · split at hx
          · exact PT.way_node hx
          · exact PT.way_node hx
        · simp at hx
    · simp at hx
theorem PT.way_at {p : SPrefix} {w : World} : ∀ {t : PT} {x : PT}, t.At w → x ∈ t.way p → x.At w
  | .nil, x, _, hx => by simp [PT.way] at hx
  | .node b q u h l r, x, hat, hx => by
    simp only [PT.way] at hx
    split at hx
    · rcases List.mem_cons.1 hx with rfl | hx
      · exact hat
      · split at hx
        · split at hx
          · exact PT.way_at hat.2.2 hx
          · exact PT.way_at hat.2.1 hx
        · simp at hx
    · simp at hx
theorem PT.split (p : SPrefix) (t : PT) : t = .nil ∨ (∃ b q u h l r, t = .node b q u h l r ∧ coversP q p = false) ∨ (∃ b q u h l r, t = .node b q u h l r ∧ coversP q p = true) := by
  cases t with
  | nil => exact .inl rfl
  | node b q u h l r =>
    cases hc : coversP q p with
    | false => exact .inr (.inl ⟨b, q, u, h, l, r, rfl, hc⟩)
    | true => exact .inr (.inr ⟨b, q, u, h, l, r, rfl, hc⟩)
def DownAt (t : Tt) (p : SPrefix) (bt bp : Nat) (w : World) : Prop := t.At w ∧ PtsTo (ovE nilPtr) w bt 0 t.ptr ∧ PtsTo ePrefix w bp 0 p
abbrev encN : PT → List Value := fun x => [x.ptr.v]
theorem ty122 : TyOK Tryz.prog 122 (ovE nilPtr) := TyOK.mk' (by kernel_rfl) (by kernel_rfl)
theorem en184 : Gx.Enters Tryz.prog 184 := Gx.Enters.mk' (by kernel_rfl)
theorem down_walk {σ : Type} (S : σ → Res) (ok : PT → σ → Prop) (J : PT → σ → Bool × σ → Prop) (yv : Value) (w : World) (s : σ) (t : Tt) (p : SPrefix) (bt bp : Nat) (hp : checkP p = 0) (hf : ∀ w', Keeps (S s).foot w w' → DownAt t p bt bp w') (hl : Okay ok J (PT.way p (PT.kid p.addr.v6 t.l t.r)) s) (hat : At (S s) w) (hY : YieldAt Tryz.prog yv encN w (S s).foot ok S J) : Calls Tryz.prog 183 #[yv, .pointer (some ⟨bt, 0, none⟩), .pointer (some ⟨bp, 0, none⟩)] w (RetR w (S s) (RunsY J (PT.way p (PT.kid p.addr.v6 t.l t.r)) s) (fun _ => .tuple #[]) S) := by
  refine enter (S s).foot 51 [S s] Tryz.func183 rfl rfl (Nat.le_of_ble_eq_true rfl) (start_at hat) ?_
  refine seq ?_
  have hbn := bI_nn p.addr.v6
  have hbt : (bI p.addr.v6).toNat < 2 := by omega
  refine draw' (by kernel_rfl) ?_
  refine tk 0 rfl (Ev.to (v' := .pointer (some ⟨t.b, 0, none⟩)) (Ev.load ty122 (.t rfl) (ptsL (fun w I => (hf w I.keeps).2.1) (Lens.id _))) (rfl)) ?_
  refine tk 1 rfl (fA 0 (.t rfl)) ?_
  refine tk 2 rfl (Ev.load ty45 (.t rfl) (ptsL (fun w I => (hf w I.keeps).2.2) SPrefix.l_addr)) ?_
  refine tk 4 rfl (Ev.nilCheck (.t rfl)) ?_
  refine tk 5 rfl (fA 2 (.t rfl)) ?_
  refine al1 3 rfl ((callv en106 (.cons (.t rfl) .nil) (fun w I => kind_ok p.addr w) ?_))
  refine hdn (tk 6 rfl (Ev.indexAddrA Tryz.underlying224 ty223 (.t rfl) (.t rfl) (fun _ => by omega)) ?_)
  refine tk 7 rfl (Ev.to (v' := (PT.kid p.addr.v6 t.l t.r).ptr.v) (Ev.load ty223 (.t rfl) (ptsL (fun w I => (hf w I.keeps).1.1) (Lens.comp STrieTrie.l_roots (lArr (n := 2) (ovE nilPtr) _ (by omega))))) (congrArg OV.v (kids_at t.l t.r p.addr.v6 hbt))) ?_
  refine tk 8 rfl (Ev.assign (.t rfl)) ?_
  refine ovr (pN (block (lp (X := PT × σ) (fun x : PT × σ => (∀ w', Keeps (S s).foot w w' → x.1.At w') ∧ (∀ z, RunsY J (PT.way p x.1) x.2 z → RunsY J (PT.way p (PT.kid p.addr.v6 t.l t.r)) s z) ∧ (Okay ok J (PT.way p x.1) x.2)) (fun x : PT × σ => [dz, (0, true, yv), (1, true, .pointer (some ⟨bt, 0, none⟩)), (2, true, .pointer (some ⟨bp, 0, none⟩)), (4, true, x.1.ptr.v)]) (fun x : PT × σ => [S x.2]) (fun x : PT × σ => x.1.size) ((PT.kid p.addr.v6 t.l t.r), s) ⟨?_, ?_, ?_⟩ (fun x hx => ?_))))
  · exact fun w1 k => (hf w1 k).1.kid _
  · exact fun z h => h
  · exact hl
  obtain ⟨cur, s1⟩ := x
  obtain ⟨hc, hr, hlv⟩ : (∀ w', Keeps (S s).foot w w' → cur.At w') ∧ (∀ z, RunsY J (PT.way p cur) s1 z → RunsY J (PT.way p (PT.kid p.addr.v6 t.l t.r)) s z) ∧ (Okay ok J (PT.way p cur) s1) := hx
  show Sat _ _ [dz, (0, true, yv), (1, true, .pointer (some ⟨bt, 0, none⟩)), (2, true, .pointer (some ⟨bp, 0, none⟩)), (4, true, cur.ptr.v)] [S s1]
  refine seq (seq ?_)
  rcases PT.split p cur with rfl | ⟨b, q, u, h, l, r, rfl, hcv⟩ | ⟨b, q, u, h, l, r, rfl, hcv⟩
  · refine wideI (drawIn ([] : List Res) (by kernel_rfl) ?_)
    refine tkI 0 rfl (Ev.move (.t rfl)) ?_
    refine tkI 1 rfl (Ev.to (v' := .bool false) (Ev.neq_p Tryz.underlying223 (.t rfl) (.c rfl)) (rfl)) ?_
    refine tkI 2 rfl (Ev.move (.t rfl)) ?_
    refine tkgI 3 rfl rfl rfl (Ev.vac (v := .bool false) rfl) ?_
    refine tkgI 4 rfl rfl rfl (Ev.vac (v := .bool false) rfl) ?_
    refine tkgI 5 rfl rfl rfl (Ev.vac (v := .bool false) rfl) ?_
    refine tkgI 6 rfl rfl rfl (Ev.vac (v := .bool false) rfl) ?_
    refine tkgI 7 rfl rfl rfl (Ev.vac (v := .bool false) rfl) ?_
    refine tkgI 8 rfl rfl rfl (Ev.vac (v := .bool false) rfl) ?_
    refine tkI 9 rfl (Ev.to (v' := .bool false) (Ev.pkA (.t rfl) rfl) (rfl)) ?_
    refine tkI 10 rfl (Ev.move (.t rfl)) ?_
    refine tkgI 11 rfl rfl rfl (Ev.vac (v := .bool false) rfl) ?_
    refine tkgI 12 rfl rfl rfl (Ev.vac (v := .bool false) rfl) ?_
    refine tkgI 13 rfl rfl rfl (Ev.vac (v := .bool false) rfl) ?_
    refine tkI 14 rfl (Ev.to (v' := .bool false) (Ev.pkA (.t rfl) rfl) (rfl)) ?_
    refine tkI 15 rfl (Ev.move (.t rfl)) ?_
    refine tkgI 16 rfl rfl rfl (Ev.vac (v := .bool false) rfl) ?_
    refine tkgI 17 rfl rfl rfl (Ev.vac (v := .bool false) rfl) ?_
    refine tkgI 18 rfl rfl rfl (Ev.vac (v := .bool false) rfl) ?_
    refine tkgI 19 rfl rfl rfl (Ev.vac (v := .bool false) rfl) ?_
    refine tkgI 20 rfl rfl rfl (Ev.vac (v := .bool false) rfl) ?_
    refine tkgI 21 rfl rfl rfl (Ev.vac (v := .bool false) rfl) ?_
    refine tkgI 22 rfl rfl rfl (Ev.vac (v := .bool false) rfl) ?_
    refine tkgI 23 rfl rfl rfl (Ev.vac (v := .bool false) rfl) ?_
    refine tkI 24 rfl (Ev.to (v' := .bool false) (Ev.pkA (.t rfl) rfl) (rfl)) ?_
    refine ovrI (pN (condF rfl (rfl) ?_))
    refine exit (pX (pX (bX (done' rfl .nil (fun w I => ?_)))))
    exact retR (X := σ) s1 (hr _ rfl) rfl (by repeat first | exact mH | apply mT | apply mA) w I
  · refine wideI (drawIn ([] : List Res) (by kernel_rfl) ?_)
    refine tkI 0 rfl (Ev.to (v' := .pointer (some ⟨b, 0, none⟩)) (Ev.move (.t rfl)) (rfl)) ?_
    refine tkI 1 rfl (Ev.to (v' := .bool true) (Ev.neq_p Tryz.underlying223 (.t rfl) (.c rfl)) (rfl)) ?_
    refine tkI 2 rfl (Ev.move (.t rfl)) ?_
    refine tkgI 3 rfl rfl rfl (Ev.to (v' := .pointer (some ⟨b, 0, none⟩)) (Ev.move (.t rfl)) (rfl)) ?_
    refine tkgI 4 rfl rfl rfl (Ev.nilCheck (.g rfl id)) ?_
    refine tkgI 5 rfl rfl rfl (fA 0 (.g rfl id)) ?_
    refine tkgI 6 rfl rfl rfl (Ev.load ty109 (.g rfl id) (ptsL (fun w I => (hc w I.keeps).1) STrieNode.l_p)) ?_
    refine tkgI 7 rfl rfl rfl (Ev.load ty109 (.t rfl) (ptsL (fun w I => (hf w I.keeps).2.2) (Lens.id _))) ?_
    refine al1I 8 rfl (opT (callg rfl rfl en184 (.cons (.g rfl id) (.cons (.g rfl id) .nil)) (fun hg w I => coversP_ok _ _ w) ?_))
    refine hdnI (tkI 9 rfl (Ev.to (v' := .bool false) (Ev.pkA (.t rfl) rfl) (congrArg Value.bool hcv)) ?_)
    refine tkI 10 rfl (Ev.move (.t rfl)) ?_
    refine tkgI 11 rfl rfl rfl (Ev.vac (v := .bool false) rfl) ?_
    refine tkgI 12 rfl rfl rfl (Ev.vac (v := .bool false) rfl) ?_
    refine tkgI 13 rfl rfl rfl (Ev.vac (v := .bool false) rfl) ?_
    refine tkI 14 rfl (Ev.to (v' := .bool false) (Ev.pkA (.t rfl) rfl) (rfl)) ?_
    refine tkI 15 rfl (Ev.move (.t rfl)) ?_
    refine tkgI 16 rfl rfl rfl (Ev.vac (v := .bool false) rfl) ?_
    refine tkgI 17 rfl rfl rfl (Ev.vac (v := .bool false) rfl) ?_
    refine tkgI 18 rfl rfl rfl (Ev.vac (v := .bool false) rfl) ?_
    refine tkgI 19 rfl rfl rfl (Ev.vac (v := .bool false) rfl) ?_
    refine tkgI 20 rfl rfl rfl (Ev.vac (v := .bool false) rfl) ?_
    refine tkgI 21 rfl rfl rfl (Ev.vac (v := .bool false) rfl) ?_
    refine tkgI 22 rfl rfl rfl (Ev.vac (v := .bool false) rfl) ?_
    refine tkgI 23 rfl rfl rfl (Ev.vac (v := .bool false) rfl) ?_
    refine tkI 24 rfl (Ev.to (v' := .bool false) (Ev.pkA (.t rfl) rfl) (rfl)) ?_
    refine ovrI (pN (condF rfl (rfl) ?_))
    refine exit (pX (pX (bX (done' rfl .nil (fun w I => ?_)))))
    exact retR (X := σ) s1 (hr _ (by rw [PT.way_no hcv]; rfl)) rfl (by repeat first | exact mH | apply mT | apply mA) w I
  · have hxin : ok (PT.node b q u h l r) s1 := by
      have h9 := hlv
      rw [PT.way, if_pos hcv] at h9
      exact h9.1
    refine wideI (drawIn ([] : List Res) (by kernel_rfl) ?_)
    refine tkI 0 rfl (Ev.to (v' := .pointer (some ⟨b, 0, none⟩)) (Ev.move (.t rfl)) (rfl)) ?_
    refine tkI 1 rfl (Ev.to (v' := .bool true) (Ev.neq_p Tryz.underlying223 (.t rfl) (.c rfl)) (rfl)) ?_
    refine tkI 2 rfl (Ev.move (.t rfl)) ?_
    refine tkgI 3 rfl rfl rfl (Ev.to (v' := .pointer (some ⟨b, 0, none⟩)) (Ev.move (.t rfl)) (rfl)) ?_
    refine tkgI 4 rfl rfl rfl (Ev.nilCheck (.g rfl id)) ?_
    refine tkgI 5 rfl rfl rfl (fA 0 (.g rfl id)) ?_
    refine tkgI 6 rfl rfl rfl (Ev.load ty109 (.g rfl id) (ptsL (fun w I => (hc w I.keeps).1) STrieNode.l_p)) ?_
    refine tkgI 7 rfl rfl rfl (Ev.load ty109 (.t rfl) (ptsL (fun w I => (hf w I.keeps).2.2) (Lens.id _))) ?_
    refine al1I 8 rfl (opT (callg rfl rfl en184 (.cons (.g rfl id) (.cons (.g rfl id) .nil)) (fun hg w I => coversP_ok _ _ w) ?_))
    refine hdnI (tkI 9 rfl (Ev.to (v' := .bool true) (Ev.pkA (.t rfl) rfl) (congrArg Value.bool hcv)) ?_)
    refine tkI 10 rfl (Ev.move (.t rfl)) ?_
    refine tkgI 11 rfl rfl rfl (Ev.move (.t rfl)) ?_
    refine tkgI 12 rfl rfl rfl (Ev.to (v' := .pointer (some ⟨b, 0, none⟩)) (Ev.move (.t rfl)) (rfl)) ?_
    refine al1I 13 rfl (opgTI rfl rfl rfl (callY (X := Bool × σ) (r := S s1) (r' := fun q => S q.2) (L' := fun q => [S q.2]) (vs := encN (PT.node b q u h l r)) (J (PT.node b q u h l r) s1) (fun q => .bool q.1) (fun q => Upd.head) (.t rfl) (.cons (.t rfl) .nil) (fun w I => hY.call (x := PT.node b q u h l r) hxin (by repeat first | exact mH | apply mT | apply mA) w I) (fun q1 hq1 => ?_)))
    refine hdnI (tkI 14 rfl (Ev.to (v' := .bool q1.1) (Ev.pkA (.t rfl) rfl) (rfl)) ?_)
    refine tkI 15 rfl (Ev.move (.t rfl)) ?_
    refine tkgI 16 rfl rfl rfl (Ev.to (v' := .pointer (some ⟨b, 0, none⟩)) (Ev.move (.t rfl)) (rfl)) ?_
    refine tkgI 17 rfl rfl rfl (Ev.nilCheck (.g rfl id)) ?_
    refine tkgI 18 rfl rfl rfl (fA 0 (.g rfl id)) ?_
    refine tkgI 19 rfl rfl rfl (fA 17 (.g rfl id)) ?_
    refine tkgI 20 rfl rfl rfl (Ev.load ty3 (.g rfl id) (ptsL (fun w I => (hc w I.keeps).1) (Lens.comp STrieNode.l_p SPrefix.l_bits))) ?_
    refine tkgI 21 rfl rfl rfl (fA 17 (.t rfl)) ?_
    refine tkgI 22 rfl rfl rfl (Ev.load ty3 (.g rfl id) (ptsL (fun w I => (hf w I.keeps).2.2) SPrefix.l_bits)) ?_
    refine tkgI 23 rfl rfl rfl (Ev.lss_i (.g rfl id) (.g rfl id)) ?_
    refine tkI 24 rfl (Ev.pkA (.t rfl) rfl) ?_
    refine ovrI (pN ?_)
    first | refine condD rfl (fun h0 => ?_) (fun h0 => ?_) | refine cond rfl (fun h0 => ?_) (fun h0 => ?_)
    · have hq : q1.1 = true ∧ q.bits < p.bits := by
        have h9 := Bool.and_eq_true_iff.1 h0
        exact ⟨h9.1, of_decide_eq_true h9.2⟩
      obtain ⟨bb, hbb⟩ : ∃ z, bitP q p = z := ⟨_, rfl⟩
      have hbb1 := bI_nn bb
      have hbb2 : (bI bb).toNat < 2 := by omega
      have hq0 : 0 ≤ q.bits ∧ q.bits < 128 := by
        have hcv2 := hcv
        unfold coversP at hcv2
        simp only [Bool.and_eq_true] at hcv2
        have h1 := (checkP_zero q).1 ((hasP_iff _ _).1 hcv2.2).1
        have h2 := (checkP_zero p).1 hp
        have := wd_le p.addr
        omega
      refine skip (pN (seq (block (skip (bN (pN (draw' (by kernel_rfl) ?_)))))))
      refine tk 0 rfl (Ev.to (v' := .pointer (some ⟨b, 0, none⟩)) (Ev.move (.t rfl)) (rfl)) ?_
      refine tk 1 rfl (fA 0 (.t rfl)) ?_
      refine tk 2 rfl (Ev.load ty45 (.t rfl) (ptsL (fun w I => (hf w I.keeps).2.2) SPrefix.l_addr)) ?_
      refine tk 3 rfl (Ev.to (v' := .pointer (some ⟨b, 0, none⟩)) (Ev.move (.t rfl)) (rfl)) ?_
      refine tk 4 rfl (Ev.nilCheck (.t rfl)) ?_
      refine tk 5 rfl (fA 0 (.t rfl)) ?_
      refine tk 6 rfl (fA 17 (.t rfl)) ?_
      refine tk 7 rfl (Ev.load ty3 (.t rfl) (ptsL (fun w I => (hc w I.keeps).1) (Lens.comp STrieNode.l_p SPrefix.l_bits))) ?_
      refine tk 9 rfl (Ev.nilCheck (.t rfl)) ?_
      refine tk 10 rfl (fA 20 (.t rfl)) ?_
      refine al1 8 rfl ((callv en145 (.cons (.t rfl) (.cons (.t rfl) .nil)) (fun w I => bit_g _ _ w hq0 bb hbb) ?_))
      refine hdn (tk 11 rfl (Ev.indexAddrA Tryz.underlying224 ty223 (.t rfl) (.t rfl) (fun _ => by omega)) ?_)
      refine tk 12 rfl (Ev.to (v' := (PT.kid bb l r).ptr.v) (Ev.load ty223 (.t rfl) (ptsL (fun w I => (hc w I.keeps).1) (Lens.comp STrieNode.l_kids (lArr (n := 2) (ovE nilPtr) _ (by omega))))) (congrArg OV.v (kids_at l r bb hbb2))) ?_
      refine tk 13 rfl (Ev.assign (.t rfl)) ?_
      refine ovr (pN (nx (X := PT × σ) ((PT.kid bb l r), q1.2) ⟨?_, ?_, ?_⟩ ?_))
      · try dsimp only
        exact fun w1 k => PT.At.kid (hc w1 k).2.1 (hc w1 k).2.2 bb
      · try dsimp only
        exact fun z hz => hr z (by rw [PT.way_more hcv hq.2 hbb]; exact ⟨q1, hq1, by rw [if_pos hq.1]; exact hz⟩)
      · try dsimp only
        rw [PT.way_more hcv hq.2 hbb] at hlv
        exact hlv.2 _ hq1 hq.1
      · try dsimp only
        exact PT.kid_size bb b q u h l r
    · have hq : ¬ (q1.1 = true ∧ q.bits < p.bits) := fun e => by
        have h9 : (q1.1 && decide (q.bits < p.bits)) = false := h0
        rw [e.1, decide_eq_true e.2] at h9
        cases h9
      refine exit (pX (pX (bX (done' rfl .nil (fun w I => ?_)))))
      refine retR (X := σ) q1.2 (hr _ ?_) rfl (by repeat first | exact mH | apply mT | apply mA) w I
      by_cases hlt : q.bits < p.bits
      · rw [PT.way_more hcv hlt rfl]
        exact ⟨q1, hq1, by rw [if_neg (fun e => hq ⟨e, hlt⟩)]⟩
      · rw [PT.way_end hcv hlt]
        refine ⟨q1, hq1, ?_⟩
        split
        · rfl
        · rfl
theorem down_iter (t : Tt) (p : SPrefix) (hp : checkP p = 0) (bt bp : Nat) (w0 : World) (M : Nat → Prop) (hf : ∀ w', Keeps M w0 w' → DownAt t p bt bp w') : IterAt Tryz.prog (bnd 183 [] [.pointer (some ⟨bt, 0, none⟩), .pointer (some ⟨bp, 0, none⟩)]).v encN w0 M (PT.way p (PT.kid p.addr.v6 t.l t.r)) := fun σ S ok J yv w s hl hk hfo hat hY =>
  CallsV.of (Gx.Enters.mk' (by kernel_rfl)) (down_walk S ok J yv.v w s t p bt bp hp (fun w' k => hf w' (hk.trans' k (fun i hi hm => (hfo i hm).resolve_left (by omega)))) hl hat hY)
theorem down_ok (t : Tt) (p : SPrefix) (w : World) : Calls Tryz.prog 182 #[t.ptr.v, ePrefix.val p] w (RetN w (fun _ : Nat × Nat => True) (fun x => (bnd 183 [] [.pointer (some ⟨x.1, 0, none⟩), .pointer (some ⟨x.2, 0, none⟩)]).v) (fun x => [Var x.2 ePrefix p 109, Var x.1 (ovE nilPtr) t.ptr 122])) := by
  refine en0 6 Tryz.func182 ?_
  refine sg (cons (box (E := (ovE nilPtr)) (.t rfl) (fun b1 => ?_)))
  refine cons (box (E := ePrefix) (.t rfl) (fun b2 => ?_))
  refine co (Ev.assign (.c (v := Go.Value.nilFunc) rfl)) ?_
  refine nP (sg (co (Ev.makeFunc (f := 183) (.cons (.t rfl) (.cons (.t rfl) .nil))) ?_))
  refine asn rfl (nP (ret (done rfl (.tmp rfl .nil) (fun w I => ?_))))
  exact retNP (b1, b2) trivial rfl (by repeat first | exact SubP.nil | refine SubP.cons (by repeat first | exact Rem.head | apply Rem.tail) ?_) w I
end Go.Proofs.YtakmoeladkajdaaGreat.Tri
namespace Go.Proofs.YtakmoeladkajdaaGreat.Tri
open Go Go.Gx
theorem findN : ∀ {xs : List PT} {s t : PT}, RunsN (fun x s s' => s' = if x.key.2.2 = true then x else s) xs s t → t = ((xs.filter (fun x => x.key.2.2)).getLast?).getD s
  | [], s, t, h => h
  | x :: xs, s, t, ⟨q, h1, h⟩ => by
    have h2 := findN h
    rw [h2, List.filter_cons]
    by_cases hx : x.key.2.2 = true
    · rw [if_pos hx, List.getLast?_cons, h1, if_pos hx]
      rfl
    · rw [if_neg hx, h1, if_neg hx]
def Tt.find (t : Tt) (a : SAddr) : Option (SPrefix × Int) := (PT.kid a.v6 t.l t.r).tr.best coversP ltP bitP (full a)
def findT (t : Tt) (a : SAddr) : SPrefix × Int × Bool := if checkA a = 0 then (match t.find a with | some x => (x.1, x.2, true) | none => (ePrefix.zero, 0, false)) else (ePrefix.zero, 0, false)
theorem find_way (t : Tt) (a : SAddr) : t.find a = (((PT.way (full a) (PT.kid a.v6 t.l t.r)).filter (fun x => x.key.2.2)).getLast?).map (fun x => (x.key.1, x.key.2.1)) := by
  unfold Tt.find Tr.best
  rw [← PT.way_map, List.filter_map, List.getLast?_map, Option.map_map]
  rfl
theorem ofE_wd (a : SAddr) : ofE a (wd a) = checkA a := by
  have := wd_le a
  unfold ofE
  split
  · rfl
  · rename_i h
    rw [if_neg (by omega)]
    exact (Decidable.not_not.1 h).symm
theorem ofV_wd {a : SAddr} (h : checkA a = 0) : ofV a (wd a) = full a := by
  have h2 : maskV (wd a) a.b = a.b := by
    unfold checkA at h
    split at h
    · assumption
    · cases h
  unfold ofV
  rw [ofE_wd, if_pos h, h2]
  rfl
theorem find_none {t : Tt} {a : SAddr} {z s : PT} (hz : z = .nil) (h : s = (((PT.way (full a) (PT.kid a.v6 t.l t.r)).filter (fun x => x.key.2.2)).getLast?).getD z) : (s = .nil ∧ t.find a = none) ∨ (s ∈ PT.way (full a) (PT.kid a.v6 t.l t.r) ∧ t.find a = some (s.key.1, s.key.2.1)) := by
  rw [find_way]
  cases hl : ((PT.way (full a) (PT.kid a.v6 t.l t.r)).filter (fun x => x.key.2.2)).getLast? with
  | none => rw [hl] at h; exact .inl ⟨h.trans hz, rfl⟩
  | some x =>
    rw [hl] at h
    have h : s = x := h
    subst h
    refine .inr ⟨?_, rfl⟩
    obtain ⟨A, hA⟩ := List.getLast?_eq_some_iff.1 hl
    have : s ∈ (PT.way (full a) (PT.kid a.v6 t.l t.r)).filter (fun x => x.key.2.2) := by rw [hA]; simp
    exact (List.mem_filter.1 this).1
theorem z223 : (Tryz.prog.info? 223).bind (·.zero) = some ((ovE nilPtr).val (ovE nilPtr).zero) := by kernel_rfl
theorem en182 : Gx.Enters Tryz.prog 182 := Gx.Enters.mk' (by kernel_rfl)
theorem find_ok (t : Tt) (a : SAddr) (w : World) (ht : t.At w) (ho : t.OK) : Calls Tryz.prog 181 #[t.ptr.v, eAddr.val a] w (RetV w (.tuple #[ePrefix.val (findT t a).1, I (findT t a).2.1, .bool (findT t a).2.2])) := by
  refine enterM0 48 Tryz.func181 rfl rfl (Nat.le_of_ble_eq_true rfl) ?_
  refine sg (cons (box (E := eAddr) (.t rfl) (fun b1 => ?_)))
  refine cons (alloc z109 (fun b2 => ?_))
  refine co (Ev.assign (.c (v := I 0) rfl)) ?_
  refine co (Ev.assign (.c (v := .bool false) rfl)) ?_
  refine nP (sg (co (Ev.assign (.c (v := I 32) rfl)) ?_))
  refine nP (cut (X := Int) (fun x : Int => (x = wd a)) (fun x : Int => [dz, (0, true, .pointer (some ⟨t.b, 0, none⟩)), (3, true, .pointer (some ⟨b1, 0, none⟩)), (4, true, .pointer (some ⟨b2, 0, none⟩)), (5, true, I 0), (6, true, .bool false), (7, true, I x)]) (fun x : Int => [Var b2 ePrefix ePrefix.zero 109, Var b1 eAddr a 45, Dm []]) ?_ (fun x hx => ?_))
  · refine sg (co (fA 0 (.t rfl)) ?_)
    refine co (Ev.ldx a.v6 ty4 (.t rfl) SAddr.l_v6) ?_
    refine nP ?_
    first | refine condD rfl (fun h0 => ?_) (fun h0 => ?_) | refine cond rfl (fun h0 => ?_) (fun h0 => ?_)
    · try simp only [nb] at h0
      refine region (co (Ev.assign (.c (v := I 128) rfl)) ?_)
      refine nP (mt (X := Int) (_) ?_)
      · try dsimp only
        unfold wd; rw [show a.v6 = _ from h0]; rfl
    · try simp only [nb] at h0
      refine skip (pN (mt (X := Int) (_) ?_))
      · try dsimp only
        unfold wd; rw [show a.v6 = _ from h0]; rfl
  obtain ⟨n, rfl⟩ : ∃ y, y = x := ⟨x, rfl⟩
  have hn : n = wd a := hx
  clear hx
  show Sat _ _ [dz, (0, true, .pointer (some ⟨t.b, 0, none⟩)), (3, true, .pointer (some ⟨b1, 0, none⟩)), (4, true, .pointer (some ⟨b2, 0, none⟩)), (5, true, I 0), (6, true, .bool false), (7, true, I n)] [Var b2 ePrefix ePrefix.zero 109, Var b1 eAddr a 45, Dm []]
  refine seq ?_
  obtain ⟨z, hz⟩ : ∃ z, ofV a n = z := ⟨_, rfl⟩
  obtain ⟨e0, he⟩ : ∃ z, ofE a n = z := ⟨_, rfl⟩
  refine region (co (Ev.ldx a ty45 (.t rfl) (Lens.id _)) ?_)
  refine mv rfl (cons (callv en154 (.cons (.t rfl) (.cons (.t rfl) .nil)) (fun w I => of_g _ _ w z e0 hz he) ?_))
  refine mv rfl (co (Ev.extract (.t rfl) rfl) (co (Ev.extract (.t rfl) rfl) (cons (alloc z109 (fun b3 => ?_)))))
  refine cons (stv ty109 (Lens.id _) (.t rfl) (.t rfl) ?_)
  refine asn rfl (nP (seq (sg (mv rfl (cons (callv en105 (.cons (.t rfl) .nil) (fun w I => there_ok t w (ht.1.keep I.keeps)) ?_))))))
  refine co (Ev.not (.t rfl)) ?_
  refine mv rfl (cg rfl rfl (Ev.move (.t rfl)) ?_)
  refine cg rfl rfl (Ev.neq_i (.g rfl id) (.c (v := I 0) rfl)) ?_
  refine co (Ev.pkO (.t rfl) rfl) ?_
  refine nP ?_
  first | refine condD rfl (fun h1 => ?_) (fun h1 => ?_) | refine cond rfl (fun h1 => ?_) (fun h1 => ?_)
  · refine sg (co (Ev.buildS (fs := _) (places := [(0, 17), (17, 1)]) z109 rfl Tryz.underlying109 (by kernel_rfl) .nil Fills.nil) ?_)
    refine cons (stv ty109 (Lens.id _) (.t rfl) (.t rfl) ?_)
    refine co (Ev.assign (.c (v := I 0) rfl)) ?_
    refine co (Ev.assign (.c (v := .bool false) rfl)) ?_
    refine nP (ret (pR (doneM (by repeat first | exact Rem.head | apply Rem.tail) rfl rfl (.cell rfl (fun w I => run_loadVar_pts ty109 (ptsVar (by repeat first | exact mH | apply mT | apply mA) (Lens.id _) w I)) (.tmp rfl (.tmp rfl .nil))) (retE ?_))))
    have hc : checkA a ≠ 0 := by
      have h9 : (!t.made) = true ∨ e0 ≠ 0 := by simpa using h1
      rw [ho.made] at h9
      rcases h9 with h9 | h9
      · cases h9
      · rw [← he, hn, ofE_wd] at h9; exact h9
    unfold findT; rw [if_neg hc]; rfl
  · have hca : checkA a = 0 := by
      have h9 : (!t.made) = false ∧ e0 = 0 := by simpa using h1
      rw [← ofE_wd, ← hn, he]; exact h9.2
    have hzf : z = full a := by rw [← hz, hn]; exact ofV_wd hca
    have hzc : checkP z = 0 := by rw [hzf]; exact (full_ok hca).1
    refine skip (pN (sg (cons (alloc z223 (fun b4 => ?_)))))
    refine nP (seq (sg (mv rfl (co (Ev.ldv ty109 (.t rfl) (Lens.id _)) ?_))))
    refine cons (calln (X := Nat × Nat) (fun _ => True) (fun x => (bnd 183 [] [.pointer (some ⟨x.1, 0, none⟩), .pointer (some ⟨x.2, 0, none⟩)]).v) (fun x => [Var x.2 ePrefix z 109, Var x.1 (ovE nilPtr) t.ptr 122]) en182 (.cons (.t rfl) (.cons (.t rfl) .nil)) (fun w I => down_ok t z w) (fun x1 _ => ?_))
    refine nP (block (rangeF (ζ := Unit) (m := []) (ps := [31]) encN (fun s : PT => Var b4 (ovE nilPtr) s.ptr 223) PT.nil (PT.way z (PT.kid z.addr.v6 t.l t.r)) (fun x s s' => s' = if x.key.2.2 = true then x else s) (fun _ _ _ _ => False) (fun x z => [dz, (10, true, .pointer (some ⟨b4, 0, none⟩)), (11, true, x.ptr.v)]) (fun x z => ([] : List Res)) (fun _ => True) trivial (fun _ _ _ _ _ => trivial) (by repeat first | exact Rem.head | apply Rem.tail) (by repeat first | exact Rem.head | apply Rem.tail) rfl (.t rfl) ⟨183, [], [.pointer (some ⟨x1.1, 0, none⟩), .pointer (some ⟨x1.2, 0, none⟩)], rfl⟩ (fun _ => rfl) rfl (fun w I hb => down_iter t z hzc x1.1 x1.2 w _ (fun w1 k => ⟨ht.keep (hb w1 k).keeps, ptsVar (E' := ovE nilPtr) (by repeat first | exact mH | apply mT | apply mA) (Lens.id _) w1 (hb w1 k), ptsVar (E' := ePrefix) (by repeat first | exact mH | apply mT | apply mA) (Lens.id _) w1 (hb w1 k)⟩)) (fun l x w => ?_) (fun l x s zv n0 w hx hn0 hinv hft hb => ?_) (fun s D hr => ?_) (fun c s D hr => ?_)))
    · refine regionI (consT (opv (Ev.assign (.t rfl)) (nilI (gd () (by repeat first | exact Sub.nil | refine Sub.cons rfl ?_) (by repeat first | exact sR | exact sN | apply sC | apply sS | apply sA)))))
    · obtain ⟨b, q, u, h, l, r, rfl⟩ := PT.way_node hx
      refine blockI (seqI (regionI (consT (opv (Ev.to (v' := .pointer (some ⟨b, 0, none⟩)) (Ev.move (.t rfl)) (rfl)) ?_))))
      refine consT (opv (Ev.nilCheck (.t rfl)) ?_)
      refine consT (opv (fA 19 (.t rfl)) ?_)
      refine consT (opv (Ev.load ty4 (.t rfl) (ptsL (fun w I => (PT.way_at ((ht.keep (hb w I.keeps).keeps).kid z.addr.v6) hx).1) STrieNode.l_has)) ?_)
      refine nilI (pN ?_)
      first | refine iteDI rfl (fun h2 => ?_) (fun h2 => ?_) | refine iteI rfl (fun h2 => ?_) (fun h2 => ?_)
      · refine regionI (consT (opv (Ev.move (.t rfl)) (consT (stv ty223 (Lens.id _) (.t rfl) (.t rfl) ?_))))
        refine nilI (bN ?_)
        exact rdN hn0 (PT.node b q u h l r) (by rw [if_pos (show (PT.node b q u h l r).key.2.2 = true from h2)]) mH
      · refine skipI (bN ?_)
        exact rdN hn0 s (by rw [if_neg (show ¬ (PT.node b q u h l r).key.2.2 = true from by rw [show (PT.node b q u h l r).key.2.2 = h from rfl, show h = false from h2]; exact Bool.false_ne_true)]) mH
    · have hfd := findN hr
      rw [hzf] at hfd
      have hfn := find_none (t := t) (a := a) rfl hfd
      refine bN (pN (seq (sg (co (Ev.to (v' := .pointer s.adr) (Ev.ldv ty223 (.t rfl) (Lens.id _)) (rfl)) ?_))))
      refine co (Ev.eql_p Tryz.underlying223 (.t rfl) (.c rfl)) ?_
      refine nP ?_
      first | refine condD rfl (fun h3 => ?_) (fun h3 => ?_) | refine cond rfl (fun h3 => ?_) (fun h3 => ?_)
      · refine sg (co (Ev.buildS (fs := _) (places := [(0, 17), (17, 1)]) z109 rfl Tryz.underlying109 (by kernel_rfl) .nil Fills.nil) ?_)
        refine cons (stv ty109 (Lens.id _) (.t rfl) (.t rfl) ?_)
        refine co (Ev.assign (.c (v := I 0) rfl)) ?_
        refine co (Ev.assign (.c (v := .bool false) rfl)) ?_
        refine nP (ret (pR (doneM (by repeat first | exact Rem.head | apply Rem.tail) rfl rfl (.cell rfl (fun w I => run_loadVar_pts ty109 (ptsVar (by repeat first | exact mH | apply mT | apply mA) (Lens.id _) w I)) (.tmp rfl (.tmp rfl .nil))) (retE ?_))))
        have hg : t.find a = none := by
          rcases hfn with g | ⟨g, _⟩
          · exact g.2
          · obtain ⟨b, q, u, h, l, r, rfl⟩ := PT.way_node g
            cases h3
        unfold findT; rw [if_pos hca, hg]; rfl
      · refine skip (pN (seq ?_))
        replace hfn := hfn.resolve_left (fun g => by rw [g.1] at h3; cases h3)
        obtain ⟨b, q, u, h, l, r, rfl⟩ := PT.way_node hfn.1
        have hsx : PT.node b q u h l r ∈ PT.way z (PT.kid z.addr.v6 t.l t.r) := by rw [hzf]; exact hfn.1
        refine drawS 4 rfl (by repeat first | exact Rem.head | apply Rem.tail) (by kernel_rfl) ?_
        refine tk 0 rfl (Ev.to (v' := .pointer (some ⟨b, 0, none⟩)) (Ev.ldv ty223 (.t rfl) (Lens.id _)) (rfl)) ?_
        refine tk 1 rfl (Ev.nilCheck (.t rfl)) ?_
        refine tk 2 rfl (fA 0 (.t rfl)) ?_
        refine tk 3 rfl (Ev.load ty109 (.t rfl) (ptsL (fun w I => (PT.way_at ((ht.keep I.keeps).kid z.addr.v6) hsx).1) STrieNode.l_p)) ?_
        refine tk 4 rfl (Ev.to (v' := .pointer (some ⟨b, 0, none⟩)) (Ev.ldv ty223 (.t rfl) (Lens.id _)) (rfl)) ?_
        refine tk 5 rfl (Ev.nilCheck (.t rfl)) ?_
        refine tk 6 rfl (fA 18 (.t rfl)) ?_
        refine tk 7 rfl (Ev.load ty3 (.t rfl) (ptsL (fun w I => (PT.way_at ((ht.keep I.keeps).kid z.addr.v6) hsx).1) STrieNode.l_v)) ?_
        refine al1 8 rfl ((stv ty109 (Lens.id _) (.t rfl) (.t rfl) ?_))
        refine hdn (tk 9 rfl (Ev.assign (.t rfl)) ?_)
        refine tk 10 rfl (Ev.assign (.c (v := .bool true) rfl)) ?_
        refine ovr (pN (ret (doneM (by repeat first | exact Rem.head | apply Rem.tail) rfl rfl (.cell rfl (fun w I => run_loadVar_pts ty109 (ptsVar (by repeat first | exact mH | apply mT | apply mA) (Lens.id _) w I)) (.tmp rfl (.tmp rfl .nil))) (retE ?_))))
        unfold findT; rw [if_pos hca, hfn.2]; rfl
    · exfalso
      have : ∀ (xs : List PT) (s0 s : PT), RunsX (fun x s s' => s' = if x.key.2.2 = true then x else s) (fun _ _ _ _ => False) c xs s0 s → False := by
        intro xs
        induction xs with
        | nil => intro _ _ h; exact h
        | cons x xs ih => rintro s0 s (h | ⟨q, _, h⟩)
                          · exact h
                          · exact ih _ _ h
      exact this _ _ _ hr
end Go.Proofs.YtakmoeladkajdaaGreat.Tri
namespace Go.Proofs.YtakmoeladkajdaaGreat.Tri
open Go Go.Gx
theorem put_n {t x : Tt} {p : SPrefix} {v : Int} (ho : t.OK) (hx : x.OK) (h : ∀ y, y ∈ x.ents ↔ (y = (p, v) ∨ (y ∈ t.ents ∧ y.1 ≠ p))) : x.n ≤ t.n + 1 := by
  have h1 := len_new ho.nodup hx.nodup h
  rw [ho.n, hx.n]
  rcases Classical.em (∃ y ∈ t.ents, y.1 = p) with g | g
  · have := h1.2 g
    omega
  · have := h1.1 (fun y hy e => g ⟨y, hy, e⟩)
    omega
def routesL (l : List SRoute) : SPrefix × Int → Prop := l.foldl (fun Q r y => y = (r.to_, r.out) ∨ (Q y ∧ y.1 ≠ r.to_)) (fun _ => False)
theorem routesL_snoc (l : List SRoute) (r : SRoute) (y : SPrefix × Int) : routesL (l ++ [r]) y ↔ (y = (r.to_, r.out) ∨ (routesL l y ∧ y.1 ≠ r.to_)) := by
  unfold routesL
  rw [List.foldl_append]
  exact Iff.rfl
def ofR (l : List SRoute) : Int := if l.all (fun r => decide (checkP r.to_ = 0)) = true then 0 else 151
theorem checkP_01 (p : SPrefix) : checkP p = 0 ∨ checkP p = 151 := by
  unfold checkP
  split
  · exact .inr rfl
  · exact .inl rfl
def TofJ (l : List SRoute) (x : Tt × List Res) : Prop := ofR l = 0 → (x.1.OK ∧ (∀ y, y ∈ x.1.ents ↔ routesL l y) ∧ x.1.n ≤ l.length ∧ ∀ w1, (∀ r ∈ x.2, r.A w1) → x.1.At w1)
theorem take_snoc' {α : Type} (l : List α) (i : Int) (h0 : 0 ≤ i) (h1 : i < l.length) (z : α) : l.take (i + 1).toNat = l.take i.toNat ++ [l.getD i.toNat z] := by
  have e : (i + 1).toNat = i.toNat + 1 := by omega
  have hl : i.toNat < l.length := by omega
  rw [e, List.take_add_one, List.getElem?_eq_getElem hl]
  simp [List.getD, hl]
theorem key_uniq {l : List (SPrefix × Int)} (h : (l.map (·.1)).Nodup) {a b : SPrefix × Int} (ha : a ∈ l) (hb : b ∈ l) (e : a.1 = b.1) : a = b := by
  induction l with
  | nil => simp at ha
  | cons z l ih =>
    rw [List.map_cons, List.nodup_cons] at h
    rcases List.mem_cons.1 ha with ha | ha <;> rcases List.mem_cons.1 hb with hb | hb
    · rw [ha, hb]
    · exact absurd (List.mem_map.2 ⟨b, hb, by rw [← e, ha]⟩) h.1
    · exact absurd (List.mem_map.2 ⟨a, ha, by rw [e, hb]⟩) h.1
    · exact ih h.2 ha hb
theorem find_spec {t : Tt} (ho : t.OK) (a : SAddr) : (∃ x ∈ t.ents, hasP x.1 a = true ∧ findT t a = (x.1, x.2, true) ∧ ∀ y ∈ t.ents, hasP y.1 a = true → coversP y.1 x.1 = true) ∨ (findT t a = (ePrefix.zero, 0, false) ∧ ∀ y ∈ t.ents, hasP y.1 a = false) := by
  by_cases hc : checkA a = 0
  · have hk := keyLaw a.v6
    have cl := covLaw a.v6
    have hfo := full_ok hc
    cases hb : t.find a with
    | none =>
      refine .inr ⟨by unfold findT; rw [if_pos hc, hb], fun y hy => ?_⟩
      have hn := hk.best_none cl hfo (ho.kid a.v6) hb
      cases hh : hasP y.1 a with
      | false => rfl
      | true =>
        have h2 := (has_full hc).1 hh
        exact absurd h2.2 (hn y ((ho.mem_k _ y).2 ⟨hy, h2.1.2⟩))
    | some x =>
      obtain ⟨h1, h2, h3⟩ := hk.best_some cl hfo (ho.kid a.v6) hb
      have hx := (ho.mem_k _ x).1 h1
      have hox : okP a.v6 x.1 := ((ho.kid a.v6).ents_in x h1).1
      refine .inl ⟨x, hx.1, (has_full hc).2 ⟨hox, h2⟩, by unfold findT; rw [if_pos hc, hb], fun y hy hh => ?_⟩
      have h4 := (has_full hc).1 hh
      exact (covers_iff h4.1 hox).2 (h3 y ((ho.mem_k _ y).2 ⟨hy, h4.1.2⟩) h4.2)
  · refine .inr ⟨by unfold findT; rw [if_neg hc], fun y _ => ?_⟩
    cases hh : hasP y.1 a with
    | false => rfl
    | true => exact absurd ((hasP_iff _ _).1 hh).2.1 hc
theorem find_of {t : Tt} (ho : t.OK) {a : SAddr} {x : SPrefix × Int} (hx : x ∈ t.ents) (hh : hasP x.1 a = true) (hm : ∀ y ∈ t.ents, hasP y.1 a = true → y.1.bits ≤ x.1.bits) : findT t a = (x.1, x.2, true) := by
  rcases find_spec ho a with ⟨z, h1, h2, h3, h4⟩ | ⟨h1, h2⟩
  · have hc := ((hasP_iff _ _).1 hh).2.1
    have oz := ((has_full hc).1 h2).1
    have ox := ((has_full hc).1 hh).1
    have e1 := (covers_iff ox oz).1 (h4 x hx hh)
    have e2 := hm z h1 h2
    have n1 := ox.nn
    have n2 := oz.nn
    have e : x.1 = z.1 := pb_inj ox oz (pre_len e1 (by simp; omega))
    rw [key_uniq ho.nodup hx h1 e]
    exact h3
  · rw [h2 x hx] at hh
    cases hh
theorem getD_in' {α : Type} (l : List α) (i : Nat) (d : α) (h : i < l.length) : l.getD i d ∈ l := by simp [List.getD, h]
theorem en72 : Gx.Enters Tryz.prog 72 := Gx.Enters.mk' (by kernel_rfl)
theorem en73 : Gx.Enters Tryz.prog 73 := Gx.Enters.mk' (by kernel_rfl)
theorem tof_ok (u : Value) (rs : List SRoute) (w : World) (hs : IsSl eRoute w u rs) (hl : rs.length ≤ 4611686018427387) : Calls Tryz.prog 43 #[u] w (RetN w (TofJ rs) (fun x => .tuple #[.pointer (pO (ofR rs) x.1.b), I (ofR rs)]) (fun x => x.2)) := by
  have hle := hs.le
  refine en0 41 Tryz.func43 ?_
  refine sg (co (Ev.assign (.c (v := (Go.Value.pointer none)) rfl)) ?_)
  refine co (Ev.assign (.c (v := I 0) rfl)) ?_
  refine nP (seq (sg (mv rfl (co (Ev.len Tryz.underlying23 (.t rfl) (fun w I => hs.keep0 I.keeps)) ?_))))
  refine co (Ev.move (.c (v := I 0) rfl)) ?_
  refine nP (block (lp (X := Int) (fun x : Int => (0 ≤ x ∧ x ≤ rs.length) ∧ (∀ j : Nat, j < x → checkP (rs.getD j eRoute.zero).to_ = 0)) (fun x : Int => [dz, (0, true, u), (2, true, .pointer none), (3, true, I 0), (10, true, u), (11, true, I rs.length), (12, true, I x)]) (fun x : Int => []) (fun x : Int => ((rs.length : Int) - x).toNat) (0) ⟨?_, ?_⟩ (fun x hx => ?_)))
  · omega
  · intro j h; omega
  obtain ⟨i, rfl⟩ : ∃ y, y = x := ⟨x, rfl⟩
  obtain ⟨hi, hq⟩ : (0 ≤ i ∧ i ≤ rs.length) ∧ (∀ j : Nat, j < i → checkP (rs.getD j eRoute.zero).to_ = 0) := hx
  show Sat _ _ [dz, (0, true, u), (2, true, .pointer none), (3, true, I 0), (10, true, u), (11, true, I rs.length), (12, true, I i)] []
  refine sg (co (Ev.lss_i (.t rfl) (.t rfl)) ?_)
  refine nP (seq ?_)
  first | refine condD rfl (fun h0 => ?_) (fun h0 => ?_) | refine cond rfl (fun h0 => ?_) (fun h0 => ?_)
  · try simp only [nb] at h0
    refine skip (pN (seq (block (sg (co (Ev.indexAddr Tryz.underlying23 ty172 (.t rfl) (.t rfl) (fun w I => hs.keep0 I.keeps) (fun _ => by omega)) ?_)))))
    refine co (Ev.loadS0 ty172 (.t rfl) (fun w I => hs.keep0 I.keeps) (fun _ => by omega)) ?_
    refine cons (alloc z172 (fun b1 => ?_))
    refine cons (stv ty172 (Lens.id _) (.t rfl) (.t rfl) ?_)
    refine nP (sg (co (fA 0 (.t rfl)) ?_))
    refine co (Ev.ldv ty109 (.t rfl) SRoute.l_to_) ?_
    refine cons (callv en71 (.cons (.t rfl) .nil) (fun w I => checkP_ok _ w) ?_)
    refine asn rfl (nP (sg (mv rfl (co (Ev.neq_i (.t rfl) (.c (v := I 0) rfl)) ?_))))
    refine nP ?_
    first | refine condD rfl (fun h1 => ?_) (fun h1 => ?_) | refine cond rfl (fun h1 => ?_) (fun h1 => ?_)
    · try simp only [nb] at h1
      refine sg (mv rfl (co (Ev.assign (.c (v := (Go.Value.pointer none)) rfl)) ?_))
      refine asn rfl (nP (ret (bR (pR (pR (bR (pR (done rfl (.tmp rfl (.tmp rfl .nil)) (fun w I => ?_)))))))))
      have he : ofR rs = 151 := by
        unfold ofR
        rw [if_neg]
        intro h
        exact h1 (of_decide_eq_true (List.all_eq_true.1 h _ (getD_in' rs i.toNat eRoute.zero (by omega))))
      have hc : checkP (rs.getD i.toNat eRoute.zero).to_ = 151 := (checkP_01 _).resolve_left h1
      exact retNP ((⟨0, true, 0, .nil, .nil⟩ : Tt), []) (fun h => by rw [he] at h; cases h) (by show _ = Value.tuple #[.pointer (pO (ofR rs) 0), Gx.I (ofR rs)]; rw [he, ← hc]; unfold pO; rw [if_neg (show ¬ checkP (rs.getD i.toNat eRoute.zero).to_ = 0 from h1)]; rfl) SubP.nil w I
    · try simp only [nb] at h1
      refine skip (bN (pN (region (co (Ev.add_i (.t rfl) (.c (v := I 1) rfl) (fun _ => by omega)) ?_))))
      refine mv rfl (nP (nx (X := Int) (i + 1) ⟨?_, ?_⟩ ?_))
      · try dsimp only
        omega
      · try dsimp only
        intro j hj
        by_cases e : (j : Int) < i
        · exact hq j e
        · obtain rfl : j = i.toNat := by omega
          exact Decidable.not_not.1 h1
      · try dsimp only
        omega
  · try simp only [nb] at h0
    refine exit (pX (pX (bX (pN (seq ?_)))))
    have hgood : ∀ r ∈ rs, checkP r.to_ = 0 := fun r hr => by
      obtain ⟨j, hj, rfl⟩ := List.mem_iff_getElem.1 hr
      have := hq j (by omega)
      simpa [List.getD, hj] using this
    have he0 : ofR rs = 0 := by
      unfold ofR
      rw [if_pos (List.all_eq_true.2 (fun r hr => decide_eq_true (hgood r hr)))]
    refine region (cons (calln (X := Tt) (fun x : Tt => x.OK ∧ x.ents = [] ∧ x.made = true ∧ x.n = 0 ∧ x.l = .nil ∧ x.r = .nil) (fun x => x.ptr.v) (fun x => [Var x.b eTrieTrie x.val 226]) en72 .nil (fun w I => new_ok w) (fun t0 ht0 => ?_)))
    refine asn rfl (nP (seq (sg (mv rfl (co (Ev.len Tryz.underlying23 (.t rfl) (fun w I => hs.keep0 I.keeps)) ?_)))))
    refine co (Ev.move (.c (v := I 0) rfl)) ?_
    refine nP (block (lp (X := Int × Tt × (List Res)) (fun x : Int × Tt × (List Res) => (0 ≤ x.1 ∧ x.1 ≤ rs.length) ∧ (x.2.1.OK) ∧ (x.2.1.n ≤ x.1) ∧ (∀ y, y ∈ x.2.1.ents ↔ routesL (rs.take x.1.toNat) y) ∧ (∀ w1 : World, (∀ r ∈ x.2.2, r.A w1) → x.2.1.At w1)) (fun x : Int × Tt × (List Res) => [dz, (7, true, x.2.1.ptr.v), (24, true, u), (25, true, I rs.length), (26, true, I x.1)]) (fun x : Int × Tt × (List Res) => x.2.2) (fun x : Int × Tt × (List Res) => ((rs.length : Int) - x.1).toNat) (0, t0, [Var t0.b eTrieTrie t0.val 226]) ⟨?_, ?_, ?_, ?_, ?_⟩ (fun x hx => ?_)))
    · omega
    · exact ht0.1
    · rw [ht0.2.2.2.1]; exact Int.le_refl _
    · exact fun y => by rw [ht0.2.1]; exact ⟨fun h => (by simp at h), fun h => h.elim⟩
    · exact fun w1 h => ⟨pts_mem (T := 226) h List.mem_cons_self, by rw [ht0.2.2.2.2.1]; trivial, by rw [ht0.2.2.2.2.2]; trivial⟩
    obtain ⟨i2, tt, Rs⟩ := x
    obtain ⟨hi2, hok, hn, hmm, hat⟩ : (0 ≤ i2 ∧ i2 ≤ rs.length) ∧ (tt.OK) ∧ (tt.n ≤ i2) ∧ (∀ y, y ∈ tt.ents ↔ routesL (rs.take i2.toNat) y) ∧ (∀ w1 : World, (∀ r ∈ Rs, r.A w1) → tt.At w1) := hx
    show Sat _ _ [dz, (7, true, tt.ptr.v), (24, true, u), (25, true, I rs.length), (26, true, I i2)] Rs
    refine sg (co (Ev.lss_i (.t rfl) (.t rfl)) ?_)
    refine nP (seq ?_)
    first | refine condD rfl (fun h2 => ?_) (fun h2 => ?_) | refine cond rfl (fun h2 => ?_) (fun h2 => ?_)
    · try simp only [nb] at h2
      refine skip (pN (seq (block (sg (co (Ev.indexAddr Tryz.underlying23 ty172 (.t rfl) (.t rfl) (fun w I => hs.keep0 I.keeps) (fun _ => by omega)) ?_)))))
      refine co (Ev.loadS0 ty172 (.t rfl) (fun w I => hs.keep0 I.keeps) (fun _ => by omega)) ?_
      refine cons (alloc z172 (fun b2 => ?_))
      refine cons (stv ty172 (Lens.id _) (.t rfl) (.t rfl) ?_)
      refine nP ?_
      have hck : checkP (rs.getD i2.toNat eRoute.zero).to_ = 0 := hgood _ (getD_in' rs i2.toNat eRoute.zero (by omega))
      refine region (mv rfl (co (fA 0 (.t rfl)) ?_))
      refine co (Ev.ldv ty109 (.t rfl) SRoute.l_to_) ?_
      refine co (fA 18 (.t rfl)) ?_
      refine co (Ev.ldv ty3 (.t rfl) SRoute.l_out) ?_
      refine cons (calln (X := Tt × List Res) (TputJ tt (rs.getD i2.toNat eRoute.zero).to_ (rs.getD i2.toNat eRoute.zero).out) (fun x => .tuple #[.pointer (pO (checkP (rs.getD i2.toNat eRoute.zero).to_) x.1.b), I (checkP (rs.getD i2.toNat eRoute.zero).to_)]) (fun x => x.2) en73 (.cons (.t rfl) (.cons (.t rfl) (.cons (.t rfl) .nil))) (fun w I => tput_ok tt _ _ w (hat w (fun r hr => (I.own r (by repeat first | exact hr | apply List.Mem.tail)).1)) hok (by omega)) (fun x1 hx1 => ?_))
      refine mv rfl (co (Ev.to (v' := x1.1.ptr.v) (Ev.extract (.t rfl) rfl) (congrArg Value.pointer (if_pos hck))) ?_)
      refine co (Ev.extract (.t rfl) rfl) (asn rfl (nil (bN (pN ?_))))
      obtain ⟨hok1, hmm1, hat1⟩ := hx1 hck
      have hn1 := put_n hok hok1 hmm1
      refine region (co (Ev.add_i (.t rfl) (.c (v := I 1) rfl) (fun _ => by omega)) ?_)
      refine mv rfl (nP (nx (X := Int × Tt × (List Res)) (i2 + 1, x1.1, x1.2 ++ Rs) ⟨?_, ?_, ?_, ?_, ?_⟩ ?_ (hL := (by first | exact List.Sublist.refl _ | (apply List.Sublist.append_left; repeat first | exact List.Sublist.refl _ | apply List.Sublist.cons)))))
      · try dsimp only
        omega
      · try dsimp only
        exact hok1
      · try dsimp only
        omega
      · try dsimp only
        exact fun y => by rw [take_snoc' rs i2 hi2.1 (by omega) eRoute.zero, routesL_snoc, hmm1, hmm]
      · try dsimp only
        exact fun w1 h => hat1 w1 (hat w1 (fun r hr => h r (List.mem_append_right _ hr))) (fun r hr => h r (List.mem_append_left _ hr))
      · try dsimp only
        omega
    · try simp only [nb] at h2
      refine exit (pX (pX (bX (pN (sg (mv rfl (asn rfl (co (Ev.assign (.c (v := I 0) rfl)) ?_))))))))
      refine nP (ret (done rfl (.tmp rfl (.tmp rfl .nil)) (fun w I => ?_)))
      have hi9 : i2.toNat = rs.length := by omega
      rw [hi9, List.take_length] at hmm
      refine retNP (tt, Rs) (fun _ => ⟨hok, hmm, by show tt.n ≤ rs.length; omega, hat⟩) (by show _ = Value.tuple #[.pointer (pO (ofR rs) tt.b), Gx.I (ofR rs)]; rw [he0]; rfl) (SubP.of (List.Sublist.refl _)) w I
end Go.Proofs.YtakmoeladkajdaaGreat.Tri
namespace Go.Proofs.YtakmoeladkajdaaGreat
open Go Go.Gx
def frontN (h : SHeader) : Int := bif h.src.v6 then 40 else 20
def midN (p : UInt8) : Int := if p = 6 then 20 else if p = 17 then 8 else 0
def atN (p : UInt8) : Int := if p = 6 then 16 else 6
def checkH (h : SHeader) (n : Int) : Int :=
  if checkA h.src ≠ 0 ∨ checkA h.dst ≠ 0 ∨ h.src.v6 ≠ h.dst.v6 ∨ (bif h.src.v6 then 1048575 else 65535) < h.id then 2
  else if midN h.proto = 0 ∧ (h.srcPort ≠ 0 ∨ h.dstPort ≠ 0) ∨ h.proto ≠ 6 ∧ (h.flags ≠ 0 ∨ h.seq ≠ 0) then 2
  else if 2048 < frontN h + midN h.proto + n then 4 else 0
def addrB (a : SAddr) : List UInt8 := a.b.toList.take (bif a.v6 then 16 else 4)
theorem front_ok (h : SHeader) (w : World) : Calls Tryz.prog 50 #[eHeader.val h] w (RetV w (I (frontN h))) := by
  refine en0 6 Tryz.func50 ?_
  refine sg (cons (box (E := eHeader) (.t rfl) (fun b1 => ?_)))
  refine co (Ev.assign (.c (v := I 0) rfl)) ?_
  refine nP (seq (sg (co (fA 0 (.t rfl)) ?_)))
  refine co (fA 0 (.t rfl)) ?_
  refine co (Ev.ldx h.src.v6 ty4 (.t rfl) (Lens.comp SHeader.l_src SAddr.l_v6)) ?_
  refine nP ?_
  first | refine condD rfl (fun h0 => ?_) (fun h0 => ?_) | refine cond rfl (fun h0 => ?_) (fun h0 => ?_)
  · try simp only [Gx.nb] at h0
    refine sg (co (Ev.assign (.c (v := I 40) rfl)) ?_)
    refine nP (ret (pR (done rfl (.tmp rfl .nil) (retE ?_))))
    first | rfl | simp [frontN, *]
  · try simp only [Gx.nb] at h0
    refine skip (pN (sg (co (Ev.assign (.c (v := I 20) rfl)) ?_)))
    refine nP (ret (done rfl (.tmp rfl .nil) (retE ?_)))
    first | rfl | simp [frontN, *]
theorem middle_ok (p : UInt8) (w : World) : Calls Tryz.prog 60 #[U8 p] w (RetV w (I (midN p))) := by
  refine en0 8 Tryz.func60 ?_
  refine sg (co (Ev.assign (.c (v := I 0) rfl)) ?_)
  refine nP (seq (sg (mv rfl (nP (block (sg (co (Ev.eql_u8 (.t rfl) (.c (v := U8 6) rfl)) ?_)))))))
  refine asn rfl (nP ?_)
  first | refine condD rfl (fun h0 => ?_) (fun h0 => ?_) | refine cond rfl (fun h0 => ?_) (fun h0 => ?_)
  · try simp only [Gx.nb] at h0
    refine sg (co (Ev.assign (.c (v := I 20) rfl)) ?_)
    refine nP (ret (bR (pR (done rfl (.tmp rfl .nil) (retE ?_)))))
    simp [midN, *]
  · try simp only [Gx.nb] at h0
    refine sg (co (Ev.eql_u8 (.t rfl) (.c (v := U8 17) rfl)) ?_)
    refine asn rfl (nP ?_)
    first | refine condD rfl (fun h1 => ?_) (fun h1 => ?_) | refine cond rfl (fun h1 => ?_) (fun h1 => ?_)
    · try simp only [Gx.nb] at h1
      refine sg (co (Ev.assign (.c (v := I 8) rfl)) ?_)
      refine nP (ret (bR (pR (done rfl (.tmp rfl .nil) (retE ?_)))))
      simp [midN, *]
    · try simp only [Gx.nb] at h1
      refine skip (bN (pN (sg (co (Ev.assign (.c (v := I 0) rfl)) ?_))))
      refine nP (ret (done rfl (.tmp rfl .nil) (retE ?_)))
      simp [midN, *]
theorem at_ok (p : UInt8) (w : World) : Calls Tryz.prog 62 #[U8 p] w (RetV w (I (atN p))) := by
  refine en0 5 Tryz.func62 ?_
  refine sg (co (Ev.assign (.c (v := I 0) rfl)) ?_)
  refine nP (seq (sg (mv rfl (co (Ev.eql_u8 (.t rfl) (.c (v := U8 6) rfl)) ?_))))
  refine nP ?_
  first | refine condD rfl (fun h0 => ?_) (fun h0 => ?_) | refine cond rfl (fun h0 => ?_) (fun h0 => ?_)
  · try simp only [Gx.nb] at h0
    refine sg (co (Ev.assign (.c (v := I 16) rfl)) ?_)
    refine nP (ret (pR (done rfl (.tmp rfl .nil) (retE ?_))))
    simp [atN, *]
  · try simp only [Gx.nb] at h0
    refine skip (pN (sg (co (Ev.assign (.c (v := I 6) rfl)) ?_)))
    refine nP (ret (done rfl (.tmp rfl .nil) (retE ?_)))
    simp [atN, *]
theorem equal_ok (u v : Value) (a b : List UInt8) (w : World) (ha : IsSl u8E w u a) (hb : IsSl u8E w v b) : Calls Tryz.prog 51 #[u, v] w (RetV w (.bool (decide (a = b)))) := by
  refine en0 10 Tryz.func51 ?_
  refine sg (co (Ev.assign (.c (v := .bool false) rfl)) ?_)
  refine nP (sg (mv rfl (co (Ev.convBS Tryz.underlying63 Tryz.underlying5 Tryz.underlying9 (.t rfl) (by first | exact isSl_own (by repeat first | exact mH | apply mT | apply mA) | exact fun w I => IsSl.keep0 (by assumption) I.keeps)) ?_)))
  refine mv rfl (co (Ev.convBS Tryz.underlying63 Tryz.underlying5 Tryz.underlying9 (.t rfl) (by first | exact isSl_own (by repeat first | exact mH | apply mT | apply mA) | exact fun w I => IsSl.keep0 (by assumption) I.keeps)) ?_)
  refine co (Ev.eql_s (.t rfl) (.t rfl)) ?_
  refine asn rfl (nP (ret (done rfl (.tmp rfl .nil) (retE ?_))))
  exact congrArg Value.bool (decide_eq_decide.2 ⟨fun h => by simpa using h, fun h => by rw [h]⟩)
theorem en60 : Gx.Enters Tryz.prog 60 := Gx.Enters.mk' (by kernel_rfl)
theorem ty93 : TyOK Tryz.prog 93 eHeader := TyOK.mk' (by kernel_rfl) (by kernel_rfl)
theorem ty63 : TyOK Tryz.prog 63 (ovE nilSl) := TyOK.mk' (by kernel_rfl) (by kernel_rfl)
theorem en50 : Gx.Enters Tryz.prog 50 := Gx.Enters.mk' (by kernel_rfl)
theorem ty91 : TyOK Tryz.prog 91 u32E := TyOK.mk' (by kernel_rfl) (by kernel_rfl)
set_option maxRecDepth 8000 in
theorem pcheck_ok (h : SHeader) (d : List UInt8) (w : World) (hd : IsSl u8E w h.data.v d) (hl : d.length ≤ 1152921504606846975) : Calls Tryz.prog 55 #[eHeader.val h] w (RetV w (I (checkH h d.length))) := by
  have hfl : 0 ≤ frontN h ∧ frontN h ≤ 40 := by unfold frontN; cases h.src.v6 <;> decide
  have hml : 0 ≤ midN h.proto ∧ midN h.proto ≤ 20 := by unfold midN; split <;> (try split) <;> decide
  refine en0 67 Tryz.func55 ?_
  refine sg (cons (box (E := eHeader) (.t rfl) (fun b1 => ?_)))
  refine co (Ev.assign (.c (v := I 0) rfl)) ?_
  refine nP (sg (co (Ev.assign (.c (v := U32 65535) rfl)) ?_))
  refine nP (seq (sg (co (fA 0 (.t rfl)) ?_)))
  refine co (fA 0 (.t rfl)) ?_
  refine co (Ev.ldx h.src.v6 ty4 (.t rfl) (Lens.comp SHeader.l_src SAddr.l_v6)) ?_
  refine nP ?_
  first | refine condD rfl (fun h0 => ?_) (fun h0 => ?_) | refine cond rfl (fun h0 => ?_) (fun h0 => ?_)
  · try simp only [Gx.nb] at h0
    refine region (co (Ev.assign (.c (v := U32 1048575) rfl)) ?_)
    refine nP (sg (co (fA 34 (.t rfl)) ?_))
    refine co (Ev.ldx h.proto ty5 (.t rfl) SHeader.l_proto) ?_
    refine cons (callv en60 (.cons (.t rfl) .nil) (fun w I => middle_ok _ w) ?_)
    refine asn rfl (nP (seq (block (seq (sg (co (fA 0 (.t rfl)) ?_))))))
    refine co (Ev.ldx h.src ty45 (.t rfl) SHeader.l_src) ?_
    refine cons (callv en85 (.cons (.t rfl) .nil) (fun w I => checkA_ok _ w) ?_)
    refine co (Ev.neq_i (.t rfl) (.c (v := I 0) rfl)) ?_
    refine asn rfl (nP ?_)
    first | refine condD rfl (fun h1 => ?_) (fun h1 => ?_) | refine cond rfl (fun h1 => ?_) (fun h1 => ?_)
    · try simp only [Gx.nb] at h1
      refine skip (pN ?_)
      first | refine condD rfl (fun h4 => ?_) (fun h4 => ?_) | refine cond rfl (fun h4 => ?_) (fun h4 => ?_)
      · try simp only [Gx.nb] at h4
        refine sg (co (Ev.assign (.c (v := I 2) rfl)) ?_)
        refine nP (ret (bR (pR (done rfl (.tmp rfl .nil) (retE ?_)))))
        unfold checkH
        first
          | (simp_all; done)
          | (have hA : ¬ (checkA h.src ≠ 0 ∨ checkA h.dst ≠ 0 ∨ h.src.v6 ≠ h.dst.v6 ∨ (bif h.src.v6 then 1048575 else 65535) < h.id) := by simp_all
             rw [if_neg hA]
             simp_all; done)
      · try simp only [Gx.nb] at h4
        refine seq (sg (mv rfl (co (Ev.eql_i (.t rfl) (.c (v := I 0) rfl)) ?_)))
        refine mv rfl (cg rfl rfl (fA 35 (.t rfl)) ?_)
        refine cg rfl rfl (Ev.ldx h.srcPort ty46 (.g rfl id) SHeader.l_srcPort) ?_
        refine cg rfl rfl (Ev.neq_u16 (.g rfl id) (.c (v := U16 0) rfl)) ?_
        refine cg rfl rfl (Ev.move (.g rfl id)) ?_
        refine cg rfl rfl (fA 36 (.t rfl)) ?_
        refine cg rfl rfl (Ev.ldx h.dstPort ty46 (.g rfl id) SHeader.l_dstPort) ?_
        refine cg rfl rfl (Ev.neq_u16 (.g rfl id) (.c (v := U16 0) rfl)) ?_
        refine cg rfl rfl (Ev.pkO (.g rfl id) rfl) ?_
        refine co (Ev.pkA (.t rfl) rfl) ?_
        refine asn rfl (nP ?_)
        first | refine condD rfl (fun h5 => ?_) (fun h5 => ?_) | refine cond rfl (fun h5 => ?_) (fun h5 => ?_)
        · try simp only [Gx.nb] at h5
          refine skip (pN ?_)
          first | refine condD rfl (fun h6 => ?_) (fun h6 => ?_) | refine cond rfl (fun h6 => ?_) (fun h6 => ?_)
          · try simp only [Gx.nb] at h6
            refine sg (co (Ev.assign (.c (v := I 2) rfl)) ?_)
            refine nP (ret (bR (pR (done rfl (.tmp rfl .nil) (retE ?_)))))
            unfold checkH
            first
              | (simp_all; done)
              | (have hA : ¬ (checkA h.src ≠ 0 ∨ checkA h.dst ≠ 0 ∨ h.src.v6 ≠ h.dst.v6 ∨ (bif h.src.v6 then 1048575 else 65535) < h.id) := by simp_all
                 rw [if_neg hA]
                 simp_all; done)
          · try simp only [Gx.nb] at h6
            refine seq (draw' (by kernel_rfl) ?_)
            refine tk 0 rfl (Ev.ldx h ty93 (.t rfl) (Lens.id _)) ?_
            refine tk 2 rfl (Ev.move (.t rfl)) ?_
            refine tk 4 rfl (fA 42 (.t rfl)) ?_
            refine tk 5 rfl (Ev.ldx h.data ty63 (.t rfl) SHeader.l_data) ?_
            refine tk 6 rfl (Ev.len Tryz.underlying63 (.t rfl) (fun w I => hd.keep0 I.keeps)) ?_
            refine al1 1 rfl ((callv en50 (.cons (.t rfl) .nil) (fun w I => front_ok _ w) ?_))
            refine hdn (tk 3 rfl (Ev.add_i (.t rfl) (.t rfl) (fun _ => by omega)) ?_)
            refine tk 7 rfl (Ev.add_i (.t rfl) (.t rfl) (fun _ => by omega)) ?_
            refine tk 8 rfl (Ev.gtr_i (.t rfl) (.c (v := I 2048) rfl)) ?_
            refine tk 9 rfl (Ev.assign (.t rfl)) ?_
            refine ovr (pN ?_)
            first | refine condD rfl (fun h7 => ?_) (fun h7 => ?_) | refine cond rfl (fun h7 => ?_) (fun h7 => ?_)
            · try simp only [Gx.nb] at h7
              refine sg (co (Ev.assign (.c (v := I 4) rfl)) ?_)
              refine nP (ret (bR (pR (done rfl (.tmp rfl .nil) (retE ?_)))))
              first
                | (exfalso; simp_all; done)
                | (have hA : ¬ (checkA h.src ≠ 0 ∨ checkA h.dst ≠ 0 ∨ h.src.v6 ≠ h.dst.v6 ∨ (bif h.src.v6 then 1048575 else 65535) < h.id) := by simp_all
                   have hB : ¬ (midN h.proto = 0 ∧ (h.srcPort ≠ 0 ∨ h.dstPort ≠ 0) ∨ h.proto ≠ 6 ∧ (h.flags ≠ 0 ∨ h.seq ≠ 0)) := by
                     intro hc
                     rcases hc with hc | hc <;> simp_all
                   unfold checkH
                   rw [if_neg hA, if_neg hB]
                   first
                     | (rw [if_pos (by omega)]; rfl)
                     | (rw [if_neg (by omega)]; rfl))
            · try simp only [Gx.nb] at h7
              refine skip (bN (pN (sg (co (Ev.assign (.c (v := I 0) rfl)) ?_))))
              refine nP (ret (done rfl (.tmp rfl .nil) (retE ?_)))
              first
                | (exfalso; simp_all; done)
                | (have hA : ¬ (checkA h.src ≠ 0 ∨ checkA h.dst ≠ 0 ∨ h.src.v6 ≠ h.dst.v6 ∨ (bif h.src.v6 then 1048575 else 65535) < h.id) := by simp_all
                   have hB : ¬ (midN h.proto = 0 ∧ (h.srcPort ≠ 0 ∨ h.dstPort ≠ 0) ∨ h.proto ≠ 6 ∧ (h.flags ≠ 0 ∨ h.seq ≠ 0)) := by
                     intro hc
                     rcases hc with hc | hc <;> simp_all
                   unfold checkH
                   rw [if_neg hA, if_neg hB]
                   first
                     | (rw [if_pos (by omega)]; rfl)
                     | (rw [if_neg (by omega)]; rfl))
        · try simp only [Gx.nb] at h5
          refine region (co (fA 34 (.t rfl)) ?_)
          refine co (Ev.ldx h.proto ty5 (.t rfl) SHeader.l_proto) ?_
          refine co (Ev.neq_u8 (.t rfl) (.c (v := U8 6) rfl)) ?_
          refine mv rfl (cg rfl rfl (fA 40 (.t rfl)) ?_)
          refine cg rfl rfl (Ev.ldx h.flags ty5 (.g rfl id) SHeader.l_flags) ?_
          refine cg rfl rfl (Ev.neq_u8 (.g rfl id) (.c (v := U8 0) rfl)) ?_
          refine cg rfl rfl (Ev.move (.g rfl id)) ?_
          refine cg rfl rfl (fA 41 (.t rfl)) ?_
          refine cg rfl rfl (Ev.ldx h.seq ty91 (.g rfl id) SHeader.l_seq) ?_
          refine cg rfl rfl (Ev.neq_u32 (.g rfl id) (.c (v := U32 0) rfl)) ?_
          refine cg rfl rfl (Ev.pkO (.g rfl id) rfl) ?_
          refine co (Ev.pkA (.t rfl) rfl) ?_
          refine asn rfl (nP ?_)
          first | refine condD rfl (fun h6 => ?_) (fun h6 => ?_) | refine cond rfl (fun h6 => ?_) (fun h6 => ?_)
          · try simp only [Gx.nb] at h6
            refine sg (co (Ev.assign (.c (v := I 2) rfl)) ?_)
            refine nP (ret (bR (pR (done rfl (.tmp rfl .nil) (retE ?_)))))
            unfold checkH
            first
              | (simp_all; done)
              | (have hA : ¬ (checkA h.src ≠ 0 ∨ checkA h.dst ≠ 0 ∨ h.src.v6 ≠ h.dst.v6 ∨ (bif h.src.v6 then 1048575 else 65535) < h.id) := by simp_all
                 rw [if_neg hA]
                 simp_all; done)
          · try simp only [Gx.nb] at h6
            refine seq (draw' (by kernel_rfl) ?_)
            refine tk 0 rfl (Ev.ldx h ty93 (.t rfl) (Lens.id _)) ?_
            refine tk 2 rfl (Ev.move (.t rfl)) ?_
            refine tk 4 rfl (fA 42 (.t rfl)) ?_
            refine tk 5 rfl (Ev.ldx h.data ty63 (.t rfl) SHeader.l_data) ?_
            refine tk 6 rfl (Ev.len Tryz.underlying63 (.t rfl) (fun w I => hd.keep0 I.keeps)) ?_
            refine al1 1 rfl ((callv en50 (.cons (.t rfl) .nil) (fun w I => front_ok _ w) ?_))
            refine hdn (tk 3 rfl (Ev.add_i (.t rfl) (.t rfl) (fun _ => by omega)) ?_)
            refine tk 7 rfl (Ev.add_i (.t rfl) (.t rfl) (fun _ => by omega)) ?_
            refine tk 8 rfl (Ev.gtr_i (.t rfl) (.c (v := I 2048) rfl)) ?_
            refine tk 9 rfl (Ev.assign (.t rfl)) ?_
            refine ovr (pN ?_)
            first | refine condD rfl (fun h7 => ?_) (fun h7 => ?_) | refine cond rfl (fun h7 => ?_) (fun h7 => ?_)
            · try simp only [Gx.nb] at h7
              refine sg (co (Ev.assign (.c (v := I 4) rfl)) ?_)
              refine nP (ret (bR (pR (done rfl (.tmp rfl .nil) (retE ?_)))))
              first
                | (exfalso; simp_all; done)
                | (have hA : ¬ (checkA h.src ≠ 0 ∨ checkA h.dst ≠ 0 ∨ h.src.v6 ≠ h.dst.v6 ∨ (bif h.src.v6 then 1048575 else 65535) < h.id) := by simp_all
                   have hB : ¬ (midN h.proto = 0 ∧ (h.srcPort ≠ 0 ∨ h.dstPort ≠ 0) ∨ h.proto ≠ 6 ∧ (h.flags ≠ 0 ∨ h.seq ≠ 0)) := by
                     intro hc
                     rcases hc with hc | hc <;> simp_all
                   unfold checkH
                   rw [if_neg hA, if_neg hB]
                   first
                     | (rw [if_pos (by omega)]; rfl)
                     | (rw [if_neg (by omega)]; rfl))
            · try simp only [Gx.nb] at h7
              refine skip (bN (pN (sg (co (Ev.assign (.c (v := I 0) rfl)) ?_))))
              refine nP (ret (done rfl (.tmp rfl .nil) (retE ?_)))
              first
                | (exfalso; simp_all; done)
                | (have hA : ¬ (checkA h.src ≠ 0 ∨ checkA h.dst ≠ 0 ∨ h.src.v6 ≠ h.dst.v6 ∨ (bif h.src.v6 then 1048575 else 65535) < h.id) := by simp_all
                   have hB : ¬ (midN h.proto = 0 ∧ (h.srcPort ≠ 0 ∨ h.dstPort ≠ 0) ∨ h.proto ≠ 6 ∧ (h.flags ≠ 0 ∨ h.seq ≠ 0)) := by
                     intro hc
                     rcases hc with hc | hc <;> simp_all
                   unfold checkH
                   rw [if_neg hA, if_neg hB]
                   first
                     | (rw [if_pos (by omega)]; rfl)
                     | (rw [if_neg (by omega)]; rfl))
    · try simp only [Gx.nb] at h1
      refine sg (co (fA 17 (.t rfl)) ?_)
      refine co (Ev.ldx h.dst ty45 (.t rfl) SHeader.l_dst) ?_
      refine cons (callv en85 (.cons (.t rfl) .nil) (fun w I => checkA_ok _ w) ?_)
      refine co (Ev.neq_i (.t rfl) (.c (v := I 0) rfl)) ?_
      refine asn rfl (nP ?_)
      first | refine condD rfl (fun h2 => ?_) (fun h2 => ?_) | refine cond rfl (fun h2 => ?_) (fun h2 => ?_)
      · try simp only [Gx.nb] at h2
        refine skip (pN ?_)
        first | refine condD rfl (fun h4 => ?_) (fun h4 => ?_) | refine cond rfl (fun h4 => ?_) (fun h4 => ?_)
        · try simp only [Gx.nb] at h4
          refine sg (co (Ev.assign (.c (v := I 2) rfl)) ?_)
          refine nP (ret (bR (pR (done rfl (.tmp rfl .nil) (retE ?_)))))
          unfold checkH
          first
            | (simp_all; done)
            | (have hA : ¬ (checkA h.src ≠ 0 ∨ checkA h.dst ≠ 0 ∨ h.src.v6 ≠ h.dst.v6 ∨ (bif h.src.v6 then 1048575 else 65535) < h.id) := by simp_all
               rw [if_neg hA]
               simp_all; done)
        · try simp only [Gx.nb] at h4
          refine seq (sg (mv rfl (co (Ev.eql_i (.t rfl) (.c (v := I 0) rfl)) ?_)))
          refine mv rfl (cg rfl rfl (fA 35 (.t rfl)) ?_)
          refine cg rfl rfl (Ev.ldx h.srcPort ty46 (.g rfl id) SHeader.l_srcPort) ?_
          refine cg rfl rfl (Ev.neq_u16 (.g rfl id) (.c (v := U16 0) rfl)) ?_
          refine cg rfl rfl (Ev.move (.g rfl id)) ?_
          refine cg rfl rfl (fA 36 (.t rfl)) ?_
          refine cg rfl rfl (Ev.ldx h.dstPort ty46 (.g rfl id) SHeader.l_dstPort) ?_
          refine cg rfl rfl (Ev.neq_u16 (.g rfl id) (.c (v := U16 0) rfl)) ?_
          refine cg rfl rfl (Ev.pkO (.g rfl id) rfl) ?_
          refine co (Ev.pkA (.t rfl) rfl) ?_
          refine asn rfl (nP ?_)
          first | refine condD rfl (fun h5 => ?_) (fun h5 => ?_) | refine cond rfl (fun h5 => ?_) (fun h5 => ?_)
          · try simp only [Gx.nb] at h5
            refine skip (pN ?_)
            first | refine condD rfl (fun h6 => ?_) (fun h6 => ?_) | refine cond rfl (fun h6 => ?_) (fun h6 => ?_)
            · try simp only [Gx.nb] at h6
              refine sg (co (Ev.assign (.c (v := I 2) rfl)) ?_)
              refine nP (ret (bR (pR (done rfl (.tmp rfl .nil) (retE ?_)))))
              unfold checkH
              first
                | (simp_all; done)
                | (have hA : ¬ (checkA h.src ≠ 0 ∨ checkA h.dst ≠ 0 ∨ h.src.v6 ≠ h.dst.v6 ∨ (bif h.src.v6 then 1048575 else 65535) < h.id) := by simp_all
                   rw [if_neg hA]
                   simp_all; done)
            · try simp only [Gx.nb] at h6
              refine seq (draw' (by kernel_rfl) ?_)
              refine tk 0 rfl (Ev.ldx h ty93 (.t rfl) (Lens.id _)) ?_
              refine tk 2 rfl (Ev.move (.t rfl)) ?_
              refine tk 4 rfl (fA 42 (.t rfl)) ?_
              refine tk 5 rfl (Ev.ldx h.data ty63 (.t rfl) SHeader.l_data) ?_
              refine tk 6 rfl (Ev.len Tryz.underlying63 (.t rfl) (fun w I => hd.keep0 I.keeps)) ?_
              refine al1 1 rfl ((callv en50 (.cons (.t rfl) .nil) (fun w I => front_ok _ w) ?_))
              refine hdn (tk 3 rfl (Ev.add_i (.t rfl) (.t rfl) (fun _ => by omega)) ?_)
              refine tk 7 rfl (Ev.add_i (.t rfl) (.t rfl) (fun _ => by omega)) ?_
              refine tk 8 rfl (Ev.gtr_i (.t rfl) (.c (v := I 2048) rfl)) ?_
              refine tk 9 rfl (Ev.assign (.t rfl)) ?_
              refine ovr (pN ?_)
              first | refine condD rfl (fun h7 => ?_) (fun h7 => ?_) | refine cond rfl (fun h7 => ?_) (fun h7 => ?_)
              · try simp only [Gx.nb] at h7
                refine sg (co (Ev.assign (.c (v := I 4) rfl)) ?_)
                refine nP (ret (bR (pR (done rfl (.tmp rfl .nil) (retE ?_)))))
                first
                  | (exfalso; simp_all; done)
                  | (have hA : ¬ (checkA h.src ≠ 0 ∨ checkA h.dst ≠ 0 ∨ h.src.v6 ≠ h.dst.v6 ∨ (bif h.src.v6 then 1048575 else 65535) < h.id) := by simp_all
                     have hB : ¬ (midN h.proto = 0 ∧ (h.srcPort ≠ 0 ∨ h.dstPort ≠ 0) ∨ h.proto ≠ 6 ∧ (h.flags ≠ 0 ∨ h.seq ≠ 0)) := by
                       intro hc
                       rcases hc with hc | hc <;> simp_all
                     unfold checkH
                     rw [if_neg hA, if_neg hB]
                     first
                       | (rw [if_pos (by omega)]; rfl)
                       | (rw [if_neg (by omega)]; rfl))
              · try simp only [Gx.nb] at h7
                refine skip (bN (pN (sg (co (Ev.assign (.c (v := I 0) rfl)) ?_))))
                refine nP (ret (done rfl (.tmp rfl .nil) (retE ?_)))
                first
                  | (exfalso; simp_all; done)
                  | (have hA : ¬ (checkA h.src ≠ 0 ∨ checkA h.dst ≠ 0 ∨ h.src.v6 ≠ h.dst.v6 ∨ (bif h.src.v6 then 1048575 else 65535) < h.id) := by simp_all
                     have hB : ¬ (midN h.proto = 0 ∧ (h.srcPort ≠ 0 ∨ h.dstPort ≠ 0) ∨ h.proto ≠ 6 ∧ (h.flags ≠ 0 ∨ h.seq ≠ 0)) := by
                       intro hc
                       rcases hc with hc | hc <;> simp_all
                     unfold checkH
                     rw [if_neg hA, if_neg hB]
                     first
                       | (rw [if_pos (by omega)]; rfl)
                       | (rw [if_neg (by omega)]; rfl))
          · try simp only [Gx.nb] at h5
            refine region (co (fA 34 (.t rfl)) ?_)
            refine co (Ev.ldx h.proto ty5 (.t rfl) SHeader.l_proto) ?_
            refine co (Ev.neq_u8 (.t rfl) (.c (v := U8 6) rfl)) ?_
            refine mv rfl (cg rfl rfl (fA 40 (.t rfl)) ?_)
            refine cg rfl rfl (Ev.ldx h.flags ty5 (.g rfl id) SHeader.l_flags) ?_
            refine cg rfl rfl (Ev.neq_u8 (.g rfl id) (.c (v := U8 0) rfl)) ?_
            refine cg rfl rfl (Ev.move (.g rfl id)) ?_
            refine cg rfl rfl (fA 41 (.t rfl)) ?_
            refine cg rfl rfl (Ev.ldx h.seq ty91 (.g rfl id) SHeader.l_seq) ?_
            refine cg rfl rfl (Ev.neq_u32 (.g rfl id) (.c (v := U32 0) rfl)) ?_
            refine cg rfl rfl (Ev.pkO (.g rfl id) rfl) ?_
            refine co (Ev.pkA (.t rfl) rfl) ?_
            refine asn rfl (nP ?_)
            first | refine condD rfl (fun h6 => ?_) (fun h6 => ?_) | refine cond rfl (fun h6 => ?_) (fun h6 => ?_)
            · try simp only [Gx.nb] at h6
              refine sg (co (Ev.assign (.c (v := I 2) rfl)) ?_)
              refine nP (ret (bR (pR (done rfl (.tmp rfl .nil) (retE ?_)))))
              unfold checkH
              first
                | (simp_all; done)
                | (have hA : ¬ (checkA h.src ≠ 0 ∨ checkA h.dst ≠ 0 ∨ h.src.v6 ≠ h.dst.v6 ∨ (bif h.src.v6 then 1048575 else 65535) < h.id) := by simp_all
                   rw [if_neg hA]
                   simp_all; done)
            · try simp only [Gx.nb] at h6
              refine seq (draw' (by kernel_rfl) ?_)
              refine tk 0 rfl (Ev.ldx h ty93 (.t rfl) (Lens.id _)) ?_
              refine tk 2 rfl (Ev.move (.t rfl)) ?_
              refine tk 4 rfl (fA 42 (.t rfl)) ?_
              refine tk 5 rfl (Ev.ldx h.data ty63 (.t rfl) SHeader.l_data) ?_
              refine tk 6 rfl (Ev.len Tryz.underlying63 (.t rfl) (fun w I => hd.keep0 I.keeps)) ?_
              refine al1 1 rfl ((callv en50 (.cons (.t rfl) .nil) (fun w I => front_ok _ w) ?_))
              refine hdn (tk 3 rfl (Ev.add_i (.t rfl) (.t rfl) (fun _ => by omega)) ?_)
              refine tk 7 rfl (Ev.add_i (.t rfl) (.t rfl) (fun _ => by omega)) ?_
              refine tk 8 rfl (Ev.gtr_i (.t rfl) (.c (v := I 2048) rfl)) ?_
              refine tk 9 rfl (Ev.assign (.t rfl)) ?_
              refine ovr (pN ?_)
              first | refine condD rfl (fun h7 => ?_) (fun h7 => ?_) | refine cond rfl (fun h7 => ?_) (fun h7 => ?_)
              · try simp only [Gx.nb] at h7
                refine sg (co (Ev.assign (.c (v := I 4) rfl)) ?_)
                refine nP (ret (bR (pR (done rfl (.tmp rfl .nil) (retE ?_)))))
                first
                  | (exfalso; simp_all; done)
                  | (have hA : ¬ (checkA h.src ≠ 0 ∨ checkA h.dst ≠ 0 ∨ h.src.v6 ≠ h.dst.v6 ∨ (bif h.src.v6 then 1048575 else 65535) < h.id) := by simp_all
                     have hB : ¬ (midN h.proto = 0 ∧ (h.srcPort ≠ 0 ∨ h.dstPort ≠ 0) ∨ h.proto ≠ 6 ∧ (h.flags ≠ 0 ∨ h.seq ≠ 0)) := by
                       intro hc
                       rcases hc with hc | hc <;> simp_all
                     unfold checkH
                     rw [if_neg hA, if_neg hB]
                     first
                       | (rw [if_pos (by omega)]; rfl)
                       | (rw [if_neg (by omega)]; rfl))
              · try simp only [Gx.nb] at h7
                refine skip (bN (pN (sg (co (Ev.assign (.c (v := I 0) rfl)) ?_))))
                refine nP (ret (done rfl (.tmp rfl .nil) (retE ?_)))
                first
                  | (exfalso; simp_all; done)
                  | (have hA : ¬ (checkA h.src ≠ 0 ∨ checkA h.dst ≠ 0 ∨ h.src.v6 ≠ h.dst.v6 ∨ (bif h.src.v6 then 1048575 else 65535) < h.id) := by simp_all
                     have hB : ¬ (midN h.proto = 0 ∧ (h.srcPort ≠ 0 ∨ h.dstPort ≠ 0) ∨ h.proto ≠ 6 ∧ (h.flags ≠ 0 ∨ h.seq ≠ 0)) := by
                       intro hc
                       rcases hc with hc | hc <;> simp_all
                     unfold checkH
                     rw [if_neg hA, if_neg hB]
                     first
                       | (rw [if_pos (by omega)]; rfl)
                       | (rw [if_neg (by omega)]; rfl))
      · try simp only [Gx.nb] at h2
        refine sg (co (fA 0 (.t rfl)) ?_)
        refine co (fA 0 (.t rfl)) ?_
        refine co (Ev.ldx h.src.v6 ty4 (.t rfl) (Lens.comp SHeader.l_src SAddr.l_v6)) ?_
        refine co (fA 17 (.t rfl)) ?_
        refine co (fA 0 (.t rfl)) ?_
        refine co (Ev.ldx h.dst.v6 ty4 (.t rfl) (Lens.comp SHeader.l_dst SAddr.l_v6)) ?_
        refine co (Ev.neq_b Tryz.underlying4 (.t rfl) (.t rfl)) ?_
        refine asn rfl (nP ?_)
        first | refine condD rfl (fun h3 => ?_) (fun h3 => ?_) | refine cond rfl (fun h3 => ?_) (fun h3 => ?_)
        · try simp only [Gx.nb] at h3
          refine skip (pN ?_)
          first | refine condD rfl (fun h4 => ?_) (fun h4 => ?_) | refine cond rfl (fun h4 => ?_) (fun h4 => ?_)
          · try simp only [Gx.nb] at h4
            refine sg (co (Ev.assign (.c (v := I 2) rfl)) ?_)
            refine nP (ret (bR (pR (done rfl (.tmp rfl .nil) (retE ?_)))))
            unfold checkH
            first
              | (simp_all; done)
              | (have hA : ¬ (checkA h.src ≠ 0 ∨ checkA h.dst ≠ 0 ∨ h.src.v6 ≠ h.dst.v6 ∨ (bif h.src.v6 then 1048575 else 65535) < h.id) := by simp_all
                 rw [if_neg hA]
                 simp_all; done)
          · try simp only [Gx.nb] at h4
            refine seq (sg (mv rfl (co (Ev.eql_i (.t rfl) (.c (v := I 0) rfl)) ?_)))
            refine mv rfl (cg rfl rfl (fA 35 (.t rfl)) ?_)
            refine cg rfl rfl (Ev.ldx h.srcPort ty46 (.g rfl id) SHeader.l_srcPort) ?_
            refine cg rfl rfl (Ev.neq_u16 (.g rfl id) (.c (v := U16 0) rfl)) ?_
            refine cg rfl rfl (Ev.move (.g rfl id)) ?_
            refine cg rfl rfl (fA 36 (.t rfl)) ?_
            refine cg rfl rfl (Ev.ldx h.dstPort ty46 (.g rfl id) SHeader.l_dstPort) ?_
            refine cg rfl rfl (Ev.neq_u16 (.g rfl id) (.c (v := U16 0) rfl)) ?_
            refine cg rfl rfl (Ev.pkO (.g rfl id) rfl) ?_
            refine co (Ev.pkA (.t rfl) rfl) ?_
            refine asn rfl (nP ?_)
            first | refine condD rfl (fun h5 => ?_) (fun h5 => ?_) | refine cond rfl (fun h5 => ?_) (fun h5 => ?_)
            · try simp only [Gx.nb] at h5
              refine skip (pN ?_)
              first | refine condD rfl (fun h6 => ?_) (fun h6 => ?_) | refine cond rfl (fun h6 => ?_) (fun h6 => ?_)
              · try simp only [Gx.nb] at h6
                refine sg (co (Ev.assign (.c (v := I 2) rfl)) ?_)
                refine nP (ret (bR (pR (done rfl (.tmp rfl .nil) (retE ?_)))))
                unfold checkH
                first
                  | (simp_all; done)
                  | (have hA : ¬ (checkA h.src ≠ 0 ∨ checkA h.dst ≠ 0 ∨ h.src.v6 ≠ h.dst.v6 ∨ (bif h.src.v6 then 1048575 else 65535) < h.id) := by simp_all
                     rw [if_neg hA]
                     simp_all; done)
              · try simp only [Gx.nb] at h6
                refine seq (draw' (by kernel_rfl) ?_)
                refine tk 0 rfl (Ev.ldx h ty93 (.t rfl) (Lens.id _)) ?_
                refine tk 2 rfl (Ev.move (.t rfl)) ?_
                refine tk 4 rfl (fA 42 (.t rfl)) ?_
                refine tk 5 rfl (Ev.ldx h.data ty63 (.t rfl) SHeader.l_data) ?_
                refine tk 6 rfl (Ev.len Tryz.underlying63 (.t rfl) (fun w I => hd.keep0 I.keeps)) ?_
                refine al1 1 rfl ((callv en50 (.cons (.t rfl) .nil) (fun w I => front_ok _ w) ?_))
                refine hdn (tk 3 rfl (Ev.add_i (.t rfl) (.t rfl) (fun _ => by omega)) ?_)
                refine tk 7 rfl (Ev.add_i (.t rfl) (.t rfl) (fun _ => by omega)) ?_
                refine tk 8 rfl (Ev.gtr_i (.t rfl) (.c (v := I 2048) rfl)) ?_
                refine tk 9 rfl (Ev.assign (.t rfl)) ?_
                refine ovr (pN ?_)
                first | refine condD rfl (fun h7 => ?_) (fun h7 => ?_) | refine cond rfl (fun h7 => ?_) (fun h7 => ?_)
                · try simp only [Gx.nb] at h7
                  refine sg (co (Ev.assign (.c (v := I 4) rfl)) ?_)
                  refine nP (ret (bR (pR (done rfl (.tmp rfl .nil) (retE ?_)))))
                  first
                    | (exfalso; simp_all; done)
                    | (have hA : ¬ (checkA h.src ≠ 0 ∨ checkA h.dst ≠ 0 ∨ h.src.v6 ≠ h.dst.v6 ∨ (bif h.src.v6 then 1048575 else 65535) < h.id) := by simp_all
                       have hB : ¬ (midN h.proto = 0 ∧ (h.srcPort ≠ 0 ∨ h.dstPort ≠ 0) ∨ h.proto ≠ 6 ∧ (h.flags ≠ 0 ∨ h.seq ≠ 0)) := by
                         intro hc
                         rcases hc with hc | hc <;> simp_all
                       unfold checkH
                       rw [if_neg hA, if_neg hB]
                       first
                         | (rw [if_pos (by omega)]; rfl)
                         | (rw [if_neg (by omega)]; rfl))
                · try simp only [Gx.nb] at h7
                  refine skip (bN (pN (sg (co (Ev.assign (.c (v := I 0) rfl)) ?_))))
                  refine nP (ret (done rfl (.tmp rfl .nil) (retE ?_)))
                  first
                    | (exfalso; simp_all; done)
                    | (have hA : ¬ (checkA h.src ≠ 0 ∨ checkA h.dst ≠ 0 ∨ h.src.v6 ≠ h.dst.v6 ∨ (bif h.src.v6 then 1048575 else 65535) < h.id) := by simp_all
                       have hB : ¬ (midN h.proto = 0 ∧ (h.srcPort ≠ 0 ∨ h.dstPort ≠ 0) ∨ h.proto ≠ 6 ∧ (h.flags ≠ 0 ∨ h.seq ≠ 0)) := by
                         intro hc
                         rcases hc with hc | hc <;> simp_all
                       unfold checkH
                       rw [if_neg hA, if_neg hB]
                       first
                         | (rw [if_pos (by omega)]; rfl)
                         | (rw [if_neg (by omega)]; rfl))
            · try simp only [Gx.nb] at h5
              refine region (co (fA 34 (.t rfl)) ?_)
              refine co (Ev.ldx h.proto ty5 (.t rfl) SHeader.l_proto) ?_
              refine co (Ev.neq_u8 (.t rfl) (.c (v := U8 6) rfl)) ?_
              refine mv rfl (cg rfl rfl (fA 40 (.t rfl)) ?_)
              refine cg rfl rfl (Ev.ldx h.flags ty5 (.g rfl id) SHeader.l_flags) ?_
              refine cg rfl rfl (Ev.neq_u8 (.g rfl id) (.c (v := U8 0) rfl)) ?_
              refine cg rfl rfl (Ev.move (.g rfl id)) ?_
              refine cg rfl rfl (fA 41 (.t rfl)) ?_
              refine cg rfl rfl (Ev.ldx h.seq ty91 (.g rfl id) SHeader.l_seq) ?_
              refine cg rfl rfl (Ev.neq_u32 (.g rfl id) (.c (v := U32 0) rfl)) ?_
              refine cg rfl rfl (Ev.pkO (.g rfl id) rfl) ?_
              refine co (Ev.pkA (.t rfl) rfl) ?_
              refine asn rfl (nP ?_)
              first | refine condD rfl (fun h6 => ?_) (fun h6 => ?_) | refine cond rfl (fun h6 => ?_) (fun h6 => ?_)
              · try simp only [Gx.nb] at h6
                refine sg (co (Ev.assign (.c (v := I 2) rfl)) ?_)
                refine nP (ret (bR (pR (done rfl (.tmp rfl .nil) (retE ?_)))))
                unfold checkH
                first
                  | (simp_all; done)
                  | (have hA : ¬ (checkA h.src ≠ 0 ∨ checkA h.dst ≠ 0 ∨ h.src.v6 ≠ h.dst.v6 ∨ (bif h.src.v6 then 1048575 else 65535) < h.id) := by simp_all
                     rw [if_neg hA]
                     simp_all; done)
              · try simp only [Gx.nb] at h6
                refine seq (draw' (by kernel_rfl) ?_)
                refine tk 0 rfl (Ev.ldx h ty93 (.t rfl) (Lens.id _)) ?_
                refine tk 2 rfl (Ev.move (.t rfl)) ?_
                refine tk 4 rfl (fA 42 (.t rfl)) ?_
                refine tk 5 rfl (Ev.ldx h.data ty63 (.t rfl) SHeader.l_data) ?_
                refine tk 6 rfl (Ev.len Tryz.underlying63 (.t rfl) (fun w I => hd.keep0 I.keeps)) ?_
                refine al1 1 rfl ((callv en50 (.cons (.t rfl) .nil) (fun w I => front_ok _ w) ?_))
                refine hdn (tk 3 rfl (Ev.add_i (.t rfl) (.t rfl) (fun _ => by omega)) ?_)
                refine tk 7 rfl (Ev.add_i (.t rfl) (.t rfl) (fun _ => by omega)) ?_
                refine tk 8 rfl (Ev.gtr_i (.t rfl) (.c (v := I 2048) rfl)) ?_
                refine tk 9 rfl (Ev.assign (.t rfl)) ?_
                refine ovr (pN ?_)
                first | refine condD rfl (fun h7 => ?_) (fun h7 => ?_) | refine cond rfl (fun h7 => ?_) (fun h7 => ?_)
                · try simp only [Gx.nb] at h7
                  refine sg (co (Ev.assign (.c (v := I 4) rfl)) ?_)
                  refine nP (ret (bR (pR (done rfl (.tmp rfl .nil) (retE ?_)))))
                  first
                    | (exfalso; simp_all; done)
                    | (have hA : ¬ (checkA h.src ≠ 0 ∨ checkA h.dst ≠ 0 ∨ h.src.v6 ≠ h.dst.v6 ∨ (bif h.src.v6 then 1048575 else 65535) < h.id) := by simp_all
                       have hB : ¬ (midN h.proto = 0 ∧ (h.srcPort ≠ 0 ∨ h.dstPort ≠ 0) ∨ h.proto ≠ 6 ∧ (h.flags ≠ 0 ∨ h.seq ≠ 0)) := by
                         intro hc
                         rcases hc with hc | hc <;> simp_all
                       unfold checkH
                       rw [if_neg hA, if_neg hB]
                       first
                         | (rw [if_pos (by omega)]; rfl)
                         | (rw [if_neg (by omega)]; rfl))
                · try simp only [Gx.nb] at h7
                  refine skip (bN (pN (sg (co (Ev.assign (.c (v := I 0) rfl)) ?_))))
                  refine nP (ret (done rfl (.tmp rfl .nil) (retE ?_)))
                  first
                    | (exfalso; simp_all; done)
                    | (have hA : ¬ (checkA h.src ≠ 0 ∨ checkA h.dst ≠ 0 ∨ h.src.v6 ≠ h.dst.v6 ∨ (bif h.src.v6 then 1048575 else 65535) < h.id) := by simp_all
                       have hB : ¬ (midN h.proto = 0 ∧ (h.srcPort ≠ 0 ∨ h.dstPort ≠ 0) ∨ h.proto ≠ 6 ∧ (h.flags ≠ 0 ∨ h.seq ≠ 0)) := by
                         intro hc
                         rcases hc with hc | hc <;> simp_all
                       unfold checkH
                       rw [if_neg hA, if_neg hB]
                       first
                         | (rw [if_pos (by omega)]; rfl)
                         | (rw [if_neg (by omega)]; rfl))
        · try simp only [Gx.nb] at h3
          refine region (co (fA 39 (.t rfl)) ?_)
          refine co (Ev.ldx h.id ty91 (.t rfl) SHeader.l_id) ?_
          refine mv rfl (co (Ev.gtr_u32 (.t rfl) (.t rfl)) ?_)
          refine asn rfl (nP ?_)
          first | refine condD rfl (fun h4 => ?_) (fun h4 => ?_) | refine cond rfl (fun h4 => ?_) (fun h4 => ?_)
          · try simp only [Gx.nb] at h4
            refine sg (co (Ev.assign (.c (v := I 2) rfl)) ?_)
            refine nP (ret (bR (pR (done rfl (.tmp rfl .nil) (retE ?_)))))
            unfold checkH
            first
              | (simp_all; done)
              | (have hA : ¬ (checkA h.src ≠ 0 ∨ checkA h.dst ≠ 0 ∨ h.src.v6 ≠ h.dst.v6 ∨ (bif h.src.v6 then 1048575 else 65535) < h.id) := by simp_all
                 rw [if_neg hA]
                 simp_all; done)
          · try simp only [Gx.nb] at h4
            refine seq (sg (mv rfl (co (Ev.eql_i (.t rfl) (.c (v := I 0) rfl)) ?_)))
            refine mv rfl (cg rfl rfl (fA 35 (.t rfl)) ?_)
            refine cg rfl rfl (Ev.ldx h.srcPort ty46 (.g rfl id) SHeader.l_srcPort) ?_
            refine cg rfl rfl (Ev.neq_u16 (.g rfl id) (.c (v := U16 0) rfl)) ?_
            refine cg rfl rfl (Ev.move (.g rfl id)) ?_
            refine cg rfl rfl (fA 36 (.t rfl)) ?_
            refine cg rfl rfl (Ev.ldx h.dstPort ty46 (.g rfl id) SHeader.l_dstPort) ?_
            refine cg rfl rfl (Ev.neq_u16 (.g rfl id) (.c (v := U16 0) rfl)) ?_
            refine cg rfl rfl (Ev.pkO (.g rfl id) rfl) ?_
            refine co (Ev.pkA (.t rfl) rfl) ?_
            refine asn rfl (nP ?_)
            first | refine condD rfl (fun h5 => ?_) (fun h5 => ?_) | refine cond rfl (fun h5 => ?_) (fun h5 => ?_)
            · try simp only [Gx.nb] at h5
              refine skip (pN ?_)
              first | refine condD rfl (fun h6 => ?_) (fun h6 => ?_) | refine cond rfl (fun h6 => ?_) (fun h6 => ?_)
              · try simp only [Gx.nb] at h6
                refine sg (co (Ev.assign (.c (v := I 2) rfl)) ?_)
                refine nP (ret (bR (pR (done rfl (.tmp rfl .nil) (retE ?_)))))
                unfold checkH
                first
                  | (simp_all; done)
                  | (have hA : ¬ (checkA h.src ≠ 0 ∨ checkA h.dst ≠ 0 ∨ h.src.v6 ≠ h.dst.v6 ∨ (bif h.src.v6 then 1048575 else 65535) < h.id) := by simp_all
                     rw [if_neg hA]
                     simp_all; done)
              · try simp only [Gx.nb] at h6
                refine seq (draw' (by kernel_rfl) ?_)
                refine tk 0 rfl (Ev.ldx h ty93 (.t rfl) (Lens.id _)) ?_
                refine tk 2 rfl (Ev.move (.t rfl)) ?_
                refine tk 4 rfl (fA 42 (.t rfl)) ?_
                refine tk 5 rfl (Ev.ldx h.data ty63 (.t rfl) SHeader.l_data) ?_
                refine tk 6 rfl (Ev.len Tryz.underlying63 (.t rfl) (fun w I => hd.keep0 I.keeps)) ?_
                refine al1 1 rfl ((callv en50 (.cons (.t rfl) .nil) (fun w I => front_ok _ w) ?_))
                refine hdn (tk 3 rfl (Ev.add_i (.t rfl) (.t rfl) (fun _ => by omega)) ?_)
                refine tk 7 rfl (Ev.add_i (.t rfl) (.t rfl) (fun _ => by omega)) ?_
                refine tk 8 rfl (Ev.gtr_i (.t rfl) (.c (v := I 2048) rfl)) ?_
                refine tk 9 rfl (Ev.assign (.t rfl)) ?_
                refine ovr (pN ?_)
                first | refine condD rfl (fun h7 => ?_) (fun h7 => ?_) | refine cond rfl (fun h7 => ?_) (fun h7 => ?_)
                · try simp only [Gx.nb] at h7
                  refine sg (co (Ev.assign (.c (v := I 4) rfl)) ?_)
                  refine nP (ret (bR (pR (done rfl (.tmp rfl .nil) (retE ?_)))))
                  first
                    | (exfalso; simp_all; done)
                    | (have hA : ¬ (checkA h.src ≠ 0 ∨ checkA h.dst ≠ 0 ∨ h.src.v6 ≠ h.dst.v6 ∨ (bif h.src.v6 then 1048575 else 65535) < h.id) := by simp_all
                       have hB : ¬ (midN h.proto = 0 ∧ (h.srcPort ≠ 0 ∨ h.dstPort ≠ 0) ∨ h.proto ≠ 6 ∧ (h.flags ≠ 0 ∨ h.seq ≠ 0)) := by
                         intro hc
                         rcases hc with hc | hc <;> simp_all
                       unfold checkH
                       rw [if_neg hA, if_neg hB]
                       first
                         | (rw [if_pos (by omega)]; rfl)
                         | (rw [if_neg (by omega)]; rfl))
                · try simp only [Gx.nb] at h7
                  refine skip (bN (pN (sg (co (Ev.assign (.c (v := I 0) rfl)) ?_))))
                  refine nP (ret (done rfl (.tmp rfl .nil) (retE ?_)))
                  first
                    | (exfalso; simp_all; done)
                    | (have hA : ¬ (checkA h.src ≠ 0 ∨ checkA h.dst ≠ 0 ∨ h.src.v6 ≠ h.dst.v6 ∨ (bif h.src.v6 then 1048575 else 65535) < h.id) := by simp_all
                       have hB : ¬ (midN h.proto = 0 ∧ (h.srcPort ≠ 0 ∨ h.dstPort ≠ 0) ∨ h.proto ≠ 6 ∧ (h.flags ≠ 0 ∨ h.seq ≠ 0)) := by
                         intro hc
                         rcases hc with hc | hc <;> simp_all
                       unfold checkH
                       rw [if_neg hA, if_neg hB]
                       first
                         | (rw [if_pos (by omega)]; rfl)
                         | (rw [if_neg (by omega)]; rfl))
            · try simp only [Gx.nb] at h5
              refine region (co (fA 34 (.t rfl)) ?_)
              refine co (Ev.ldx h.proto ty5 (.t rfl) SHeader.l_proto) ?_
              refine co (Ev.neq_u8 (.t rfl) (.c (v := U8 6) rfl)) ?_
              refine mv rfl (cg rfl rfl (fA 40 (.t rfl)) ?_)
              refine cg rfl rfl (Ev.ldx h.flags ty5 (.g rfl id) SHeader.l_flags) ?_
              refine cg rfl rfl (Ev.neq_u8 (.g rfl id) (.c (v := U8 0) rfl)) ?_
              refine cg rfl rfl (Ev.move (.g rfl id)) ?_
              refine cg rfl rfl (fA 41 (.t rfl)) ?_
              refine cg rfl rfl (Ev.ldx h.seq ty91 (.g rfl id) SHeader.l_seq) ?_
              refine cg rfl rfl (Ev.neq_u32 (.g rfl id) (.c (v := U32 0) rfl)) ?_
              refine cg rfl rfl (Ev.pkO (.g rfl id) rfl) ?_
              refine co (Ev.pkA (.t rfl) rfl) ?_
              refine asn rfl (nP ?_)
              first | refine condD rfl (fun h6 => ?_) (fun h6 => ?_) | refine cond rfl (fun h6 => ?_) (fun h6 => ?_)
              · try simp only [Gx.nb] at h6
                refine sg (co (Ev.assign (.c (v := I 2) rfl)) ?_)
                refine nP (ret (bR (pR (done rfl (.tmp rfl .nil) (retE ?_)))))
                unfold checkH
                first
                  | (simp_all; done)
                  | (have hA : ¬ (checkA h.src ≠ 0 ∨ checkA h.dst ≠ 0 ∨ h.src.v6 ≠ h.dst.v6 ∨ (bif h.src.v6 then 1048575 else 65535) < h.id) := by simp_all
                     rw [if_neg hA]
                     simp_all; done)
              · try simp only [Gx.nb] at h6
                refine seq (draw' (by kernel_rfl) ?_)
                refine tk 0 rfl (Ev.ldx h ty93 (.t rfl) (Lens.id _)) ?_
                refine tk 2 rfl (Ev.move (.t rfl)) ?_
                refine tk 4 rfl (fA 42 (.t rfl)) ?_
                refine tk 5 rfl (Ev.ldx h.data ty63 (.t rfl) SHeader.l_data) ?_
                refine tk 6 rfl (Ev.len Tryz.underlying63 (.t rfl) (fun w I => hd.keep0 I.keeps)) ?_
                refine al1 1 rfl ((callv en50 (.cons (.t rfl) .nil) (fun w I => front_ok _ w) ?_))
                refine hdn (tk 3 rfl (Ev.add_i (.t rfl) (.t rfl) (fun _ => by omega)) ?_)
                refine tk 7 rfl (Ev.add_i (.t rfl) (.t rfl) (fun _ => by omega)) ?_
                refine tk 8 rfl (Ev.gtr_i (.t rfl) (.c (v := I 2048) rfl)) ?_
                refine tk 9 rfl (Ev.assign (.t rfl)) ?_
                refine ovr (pN ?_)
                first | refine condD rfl (fun h7 => ?_) (fun h7 => ?_) | refine cond rfl (fun h7 => ?_) (fun h7 => ?_)
                · try simp only [Gx.nb] at h7
                  refine sg (co (Ev.assign (.c (v := I 4) rfl)) ?_)
                  refine nP (ret (bR (pR (done rfl (.tmp rfl .nil) (retE ?_)))))
                  first
                    | (exfalso; simp_all; done)
                    | (have hA : ¬ (checkA h.src ≠ 0 ∨ checkA h.dst ≠ 0 ∨ h.src.v6 ≠ h.dst.v6 ∨ (bif h.src.v6 then 1048575 else 65535) < h.id) := by simp_all
                       have hB : ¬ (midN h.proto = 0 ∧ (h.srcPort ≠ 0 ∨ h.dstPort ≠ 0) ∨ h.proto ≠ 6 ∧ (h.flags ≠ 0 ∨ h.seq ≠ 0)) := by
                         intro hc
                         rcases hc with hc | hc <;> simp_all
                       unfold checkH
                       rw [if_neg hA, if_neg hB]
                       first
                         | (rw [if_pos (by omega)]; rfl)
                         | (rw [if_neg (by omega)]; rfl))
                · try simp only [Gx.nb] at h7
                  refine skip (bN (pN (sg (co (Ev.assign (.c (v := I 0) rfl)) ?_))))
                  refine nP (ret (done rfl (.tmp rfl .nil) (retE ?_)))
                  first
                    | (exfalso; simp_all; done)
                    | (have hA : ¬ (checkA h.src ≠ 0 ∨ checkA h.dst ≠ 0 ∨ h.src.v6 ≠ h.dst.v6 ∨ (bif h.src.v6 then 1048575 else 65535) < h.id) := by simp_all
                       have hB : ¬ (midN h.proto = 0 ∧ (h.srcPort ≠ 0 ∨ h.dstPort ≠ 0) ∨ h.proto ≠ 6 ∧ (h.flags ≠ 0 ∨ h.seq ≠ 0)) := by
                         intro hc
                         rcases hc with hc | hc <;> simp_all
                       unfold checkH
                       rw [if_neg hA, if_neg hB]
                       first
                         | (rw [if_pos (by omega)]; rfl)
                         | (rw [if_neg (by omega)]; rfl))
  · try simp only [Gx.nb] at h0
    refine skip (pN (sg (co (fA 34 (.t rfl)) ?_)))
    refine co (Ev.ldx h.proto ty5 (.t rfl) SHeader.l_proto) ?_
    refine cons (callv en60 (.cons (.t rfl) .nil) (fun w I => middle_ok _ w) ?_)
    refine asn rfl (nP (seq (block (seq (sg (co (fA 0 (.t rfl)) ?_))))))
    refine co (Ev.ldx h.src ty45 (.t rfl) SHeader.l_src) ?_
    refine cons (callv en85 (.cons (.t rfl) .nil) (fun w I => checkA_ok _ w) ?_)
    refine co (Ev.neq_i (.t rfl) (.c (v := I 0) rfl)) ?_
    refine asn rfl (nP ?_)
    first | refine condD rfl (fun h1 => ?_) (fun h1 => ?_) | refine cond rfl (fun h1 => ?_) (fun h1 => ?_)
    · try simp only [Gx.nb] at h1
      refine skip (pN ?_)
      first | refine condD rfl (fun h4 => ?_) (fun h4 => ?_) | refine cond rfl (fun h4 => ?_) (fun h4 => ?_)
      · try simp only [Gx.nb] at h4
        refine sg (co (Ev.assign (.c (v := I 2) rfl)) ?_)
        refine nP (ret (bR (pR (done rfl (.tmp rfl .nil) (retE ?_)))))
        unfold checkH
        first
          | (simp_all; done)
          | (have hA : ¬ (checkA h.src ≠ 0 ∨ checkA h.dst ≠ 0 ∨ h.src.v6 ≠ h.dst.v6 ∨ (bif h.src.v6 then 1048575 else 65535) < h.id) := by simp_all
             rw [if_neg hA]
             simp_all; done)
      · try simp only [Gx.nb] at h4
        refine seq (sg (mv rfl (co (Ev.eql_i (.t rfl) (.c (v := I 0) rfl)) ?_)))
        refine mv rfl (cg rfl rfl (fA 35 (.t rfl)) ?_)
        refine cg rfl rfl (Ev.ldx h.srcPort ty46 (.g rfl id) SHeader.l_srcPort) ?_
        refine cg rfl rfl (Ev.neq_u16 (.g rfl id) (.c (v := U16 0) rfl)) ?_
        refine cg rfl rfl (Ev.move (.g rfl id)) ?_
        refine cg rfl rfl (fA 36 (.t rfl)) ?_
        refine cg rfl rfl (Ev.ldx h.dstPort ty46 (.g rfl id) SHeader.l_dstPort) ?_
        refine cg rfl rfl (Ev.neq_u16 (.g rfl id) (.c (v := U16 0) rfl)) ?_
        refine cg rfl rfl (Ev.pkO (.g rfl id) rfl) ?_
        refine co (Ev.pkA (.t rfl) rfl) ?_
        refine asn rfl (nP ?_)
        first | refine condD rfl (fun h5 => ?_) (fun h5 => ?_) | refine cond rfl (fun h5 => ?_) (fun h5 => ?_)
        · try simp only [Gx.nb] at h5
          refine skip (pN ?_)
          first | refine condD rfl (fun h6 => ?_) (fun h6 => ?_) | refine cond rfl (fun h6 => ?_) (fun h6 => ?_)
          · try simp only [Gx.nb] at h6
            refine sg (co (Ev.assign (.c (v := I 2) rfl)) ?_)
            refine nP (ret (bR (pR (done rfl (.tmp rfl .nil) (retE ?_)))))
            unfold checkH
            first
              | (simp_all; done)
              | (have hA : ¬ (checkA h.src ≠ 0 ∨ checkA h.dst ≠ 0 ∨ h.src.v6 ≠ h.dst.v6 ∨ (bif h.src.v6 then 1048575 else 65535) < h.id) := by simp_all
                 rw [if_neg hA]
                 simp_all; done)
          · try simp only [Gx.nb] at h6
            refine seq (draw' (by kernel_rfl) ?_)
            refine tk 0 rfl (Ev.ldx h ty93 (.t rfl) (Lens.id _)) ?_
            refine tk 2 rfl (Ev.move (.t rfl)) ?_
            refine tk 4 rfl (fA 42 (.t rfl)) ?_
            refine tk 5 rfl (Ev.ldx h.data ty63 (.t rfl) SHeader.l_data) ?_
            refine tk 6 rfl (Ev.len Tryz.underlying63 (.t rfl) (fun w I => hd.keep0 I.keeps)) ?_
            refine al1 1 rfl ((callv en50 (.cons (.t rfl) .nil) (fun w I => front_ok _ w) ?_))
            refine hdn (tk 3 rfl (Ev.add_i (.t rfl) (.t rfl) (fun _ => by omega)) ?_)
            refine tk 7 rfl (Ev.add_i (.t rfl) (.t rfl) (fun _ => by omega)) ?_
            refine tk 8 rfl (Ev.gtr_i (.t rfl) (.c (v := I 2048) rfl)) ?_
            refine tk 9 rfl (Ev.assign (.t rfl)) ?_
            refine ovr (pN ?_)
            first | refine condD rfl (fun h7 => ?_) (fun h7 => ?_) | refine cond rfl (fun h7 => ?_) (fun h7 => ?_)
            · try simp only [Gx.nb] at h7
              refine sg (co (Ev.assign (.c (v := I 4) rfl)) ?_)
              refine nP (ret (bR (pR (done rfl (.tmp rfl .nil) (retE ?_)))))
              first
                | (exfalso; simp_all; done)
                | (have hA : ¬ (checkA h.src ≠ 0 ∨ checkA h.dst ≠ 0 ∨ h.src.v6 ≠ h.dst.v6 ∨ (bif h.src.v6 then 1048575 else 65535) < h.id) := by simp_all
                   have hB : ¬ (midN h.proto = 0 ∧ (h.srcPort ≠ 0 ∨ h.dstPort ≠ 0) ∨ h.proto ≠ 6 ∧ (h.flags ≠ 0 ∨ h.seq ≠ 0)) := by
                     intro hc
                     rcases hc with hc | hc <;> simp_all
                   unfold checkH
                   rw [if_neg hA, if_neg hB]
                   first
                     | (rw [if_pos (by omega)]; rfl)
                     | (rw [if_neg (by omega)]; rfl))
            · try simp only [Gx.nb] at h7
              refine skip (bN (pN (sg (co (Ev.assign (.c (v := I 0) rfl)) ?_))))
              refine nP (ret (done rfl (.tmp rfl .nil) (retE ?_)))
              first
                | (exfalso; simp_all; done)
                | (have hA : ¬ (checkA h.src ≠ 0 ∨ checkA h.dst ≠ 0 ∨ h.src.v6 ≠ h.dst.v6 ∨ (bif h.src.v6 then 1048575 else 65535) < h.id) := by simp_all
                   have hB : ¬ (midN h.proto = 0 ∧ (h.srcPort ≠ 0 ∨ h.dstPort ≠ 0) ∨ h.proto ≠ 6 ∧ (h.flags ≠ 0 ∨ h.seq ≠ 0)) := by
                     intro hc
                     rcases hc with hc | hc <;> simp_all
                   unfold checkH
                   rw [if_neg hA, if_neg hB]
                   first
                     | (rw [if_pos (by omega)]; rfl)
                     | (rw [if_neg (by omega)]; rfl))
        · try simp only [Gx.nb] at h5
          refine region (co (fA 34 (.t rfl)) ?_)
          refine co (Ev.ldx h.proto ty5 (.t rfl) SHeader.l_proto) ?_
          refine co (Ev.neq_u8 (.t rfl) (.c (v := U8 6) rfl)) ?_
          refine mv rfl (cg rfl rfl (fA 40 (.t rfl)) ?_)
          refine cg rfl rfl (Ev.ldx h.flags ty5 (.g rfl id) SHeader.l_flags) ?_
          refine cg rfl rfl (Ev.neq_u8 (.g rfl id) (.c (v := U8 0) rfl)) ?_
          refine cg rfl rfl (Ev.move (.g rfl id)) ?_
          refine cg rfl rfl (fA 41 (.t rfl)) ?_
          refine cg rfl rfl (Ev.ldx h.seq ty91 (.g rfl id) SHeader.l_seq) ?_
          refine cg rfl rfl (Ev.neq_u32 (.g rfl id) (.c (v := U32 0) rfl)) ?_
          refine cg rfl rfl (Ev.pkO (.g rfl id) rfl) ?_
          refine co (Ev.pkA (.t rfl) rfl) ?_
          refine asn rfl (nP ?_)
          first | refine condD rfl (fun h6 => ?_) (fun h6 => ?_) | refine cond rfl (fun h6 => ?_) (fun h6 => ?_)
          · try simp only [Gx.nb] at h6
            refine sg (co (Ev.assign (.c (v := I 2) rfl)) ?_)
            refine nP (ret (bR (pR (done rfl (.tmp rfl .nil) (retE ?_)))))
            unfold checkH
            first
              | (simp_all; done)
              | (have hA : ¬ (checkA h.src ≠ 0 ∨ checkA h.dst ≠ 0 ∨ h.src.v6 ≠ h.dst.v6 ∨ (bif h.src.v6 then 1048575 else 65535) < h.id) := by simp_all
                 rw [if_neg hA]
                 simp_all; done)
          · try simp only [Gx.nb] at h6
            refine seq (draw' (by kernel_rfl) ?_)
            refine tk 0 rfl (Ev.ldx h ty93 (.t rfl) (Lens.id _)) ?_
            refine tk 2 rfl (Ev.move (.t rfl)) ?_
            refine tk 4 rfl (fA 42 (.t rfl)) ?_
            refine tk 5 rfl (Ev.ldx h.data ty63 (.t rfl) SHeader.l_data) ?_
            refine tk 6 rfl (Ev.len Tryz.underlying63 (.t rfl) (fun w I => hd.keep0 I.keeps)) ?_
            refine al1 1 rfl ((callv en50 (.cons (.t rfl) .nil) (fun w I => front_ok _ w) ?_))
            refine hdn (tk 3 rfl (Ev.add_i (.t rfl) (.t rfl) (fun _ => by omega)) ?_)
            refine tk 7 rfl (Ev.add_i (.t rfl) (.t rfl) (fun _ => by omega)) ?_
            refine tk 8 rfl (Ev.gtr_i (.t rfl) (.c (v := I 2048) rfl)) ?_
            refine tk 9 rfl (Ev.assign (.t rfl)) ?_
            refine ovr (pN ?_)
            first | refine condD rfl (fun h7 => ?_) (fun h7 => ?_) | refine cond rfl (fun h7 => ?_) (fun h7 => ?_)
            · try simp only [Gx.nb] at h7
              refine sg (co (Ev.assign (.c (v := I 4) rfl)) ?_)
              refine nP (ret (bR (pR (done rfl (.tmp rfl .nil) (retE ?_)))))
              first
                | (exfalso; simp_all; done)
                | (have hA : ¬ (checkA h.src ≠ 0 ∨ checkA h.dst ≠ 0 ∨ h.src.v6 ≠ h.dst.v6 ∨ (bif h.src.v6 then 1048575 else 65535) < h.id) := by simp_all
                   have hB : ¬ (midN h.proto = 0 ∧ (h.srcPort ≠ 0 ∨ h.dstPort ≠ 0) ∨ h.proto ≠ 6 ∧ (h.flags ≠ 0 ∨ h.seq ≠ 0)) := by
                     intro hc
                     rcases hc with hc | hc <;> simp_all
                   unfold checkH
                   rw [if_neg hA, if_neg hB]
                   first
                     | (rw [if_pos (by omega)]; rfl)
                     | (rw [if_neg (by omega)]; rfl))
            · try simp only [Gx.nb] at h7
              refine skip (bN (pN (sg (co (Ev.assign (.c (v := I 0) rfl)) ?_))))
              refine nP (ret (done rfl (.tmp rfl .nil) (retE ?_)))
              first
                | (exfalso; simp_all; done)
                | (have hA : ¬ (checkA h.src ≠ 0 ∨ checkA h.dst ≠ 0 ∨ h.src.v6 ≠ h.dst.v6 ∨ (bif h.src.v6 then 1048575 else 65535) < h.id) := by simp_all
                   have hB : ¬ (midN h.proto = 0 ∧ (h.srcPort ≠ 0 ∨ h.dstPort ≠ 0) ∨ h.proto ≠ 6 ∧ (h.flags ≠ 0 ∨ h.seq ≠ 0)) := by
                     intro hc
                     rcases hc with hc | hc <;> simp_all
                   unfold checkH
                   rw [if_neg hA, if_neg hB]
                   first
                     | (rw [if_pos (by omega)]; rfl)
                     | (rw [if_neg (by omega)]; rfl))
    · try simp only [Gx.nb] at h1
      refine sg (co (fA 17 (.t rfl)) ?_)
      refine co (Ev.ldx h.dst ty45 (.t rfl) SHeader.l_dst) ?_
      refine cons (callv en85 (.cons (.t rfl) .nil) (fun w I => checkA_ok _ w) ?_)
      refine co (Ev.neq_i (.t rfl) (.c (v := I 0) rfl)) ?_
      refine asn rfl (nP ?_)
      first | refine condD rfl (fun h2 => ?_) (fun h2 => ?_) | refine cond rfl (fun h2 => ?_) (fun h2 => ?_)
      · try simp only [Gx.nb] at h2
        refine skip (pN ?_)
        first | refine condD rfl (fun h4 => ?_) (fun h4 => ?_) | refine cond rfl (fun h4 => ?_) (fun h4 => ?_)
        · try simp only [Gx.nb] at h4
          refine sg (co (Ev.assign (.c (v := I 2) rfl)) ?_)
          refine nP (ret (bR (pR (done rfl (.tmp rfl .nil) (retE ?_)))))
          unfold checkH
          first
            | (simp_all; done)
            | (have hA : ¬ (checkA h.src ≠ 0 ∨ checkA h.dst ≠ 0 ∨ h.src.v6 ≠ h.dst.v6 ∨ (bif h.src.v6 then 1048575 else 65535) < h.id) := by simp_all
               rw [if_neg hA]
               simp_all; done)
        · try simp only [Gx.nb] at h4
          refine seq (sg (mv rfl (co (Ev.eql_i (.t rfl) (.c (v := I 0) rfl)) ?_)))
          refine mv rfl (cg rfl rfl (fA 35 (.t rfl)) ?_)
          refine cg rfl rfl (Ev.ldx h.srcPort ty46 (.g rfl id) SHeader.l_srcPort) ?_
          refine cg rfl rfl (Ev.neq_u16 (.g rfl id) (.c (v := U16 0) rfl)) ?_
          refine cg rfl rfl (Ev.move (.g rfl id)) ?_
          refine cg rfl rfl (fA 36 (.t rfl)) ?_
          refine cg rfl rfl (Ev.ldx h.dstPort ty46 (.g rfl id) SHeader.l_dstPort) ?_
          refine cg rfl rfl (Ev.neq_u16 (.g rfl id) (.c (v := U16 0) rfl)) ?_
          refine cg rfl rfl (Ev.pkO (.g rfl id) rfl) ?_
          refine co (Ev.pkA (.t rfl) rfl) ?_
          refine asn rfl (nP ?_)
          first | refine condD rfl (fun h5 => ?_) (fun h5 => ?_) | refine cond rfl (fun h5 => ?_) (fun h5 => ?_)
          · try simp only [Gx.nb] at h5
            refine skip (pN ?_)
            first | refine condD rfl (fun h6 => ?_) (fun h6 => ?_) | refine cond rfl (fun h6 => ?_) (fun h6 => ?_)
            · try simp only [Gx.nb] at h6
              refine sg (co (Ev.assign (.c (v := I 2) rfl)) ?_)
              refine nP (ret (bR (pR (done rfl (.tmp rfl .nil) (retE ?_)))))
              unfold checkH
              first
                | (simp_all; done)
                | (have hA : ¬ (checkA h.src ≠ 0 ∨ checkA h.dst ≠ 0 ∨ h.src.v6 ≠ h.dst.v6 ∨ (bif h.src.v6 then 1048575 else 65535) < h.id) := by simp_all
                   rw [if_neg hA]
                   simp_all; done)
            · try simp only [Gx.nb] at h6
              refine seq (draw' (by kernel_rfl) ?_)
              refine tk 0 rfl (Ev.ldx h ty93 (.t rfl) (Lens.id _)) ?_
              refine tk 2 rfl (Ev.move (.t rfl)) ?_
              refine tk 4 rfl (fA 42 (.t rfl)) ?_
              refine tk 5 rfl (Ev.ldx h.data ty63 (.t rfl) SHeader.l_data) ?_
              refine tk 6 rfl (Ev.len Tryz.underlying63 (.t rfl) (fun w I => hd.keep0 I.keeps)) ?_
              refine al1 1 rfl ((callv en50 (.cons (.t rfl) .nil) (fun w I => front_ok _ w) ?_))
              refine hdn (tk 3 rfl (Ev.add_i (.t rfl) (.t rfl) (fun _ => by omega)) ?_)
              refine tk 7 rfl (Ev.add_i (.t rfl) (.t rfl) (fun _ => by omega)) ?_
              refine tk 8 rfl (Ev.gtr_i (.t rfl) (.c (v := I 2048) rfl)) ?_
              refine tk 9 rfl (Ev.assign (.t rfl)) ?_
              refine ovr (pN ?_)
              first | refine condD rfl (fun h7 => ?_) (fun h7 => ?_) | refine cond rfl (fun h7 => ?_) (fun h7 => ?_)
              · try simp only [Gx.nb] at h7
                refine sg (co (Ev.assign (.c (v := I 4) rfl)) ?_)
                refine nP (ret (bR (pR (done rfl (.tmp rfl .nil) (retE ?_)))))
                first
                  | (exfalso; simp_all; done)
                  | (have hA : ¬ (checkA h.src ≠ 0 ∨ checkA h.dst ≠ 0 ∨ h.src.v6 ≠ h.dst.v6 ∨ (bif h.src.v6 then 1048575 else 65535) < h.id) := by simp_all
                     have hB : ¬ (midN h.proto = 0 ∧ (h.srcPort ≠ 0 ∨ h.dstPort ≠ 0) ∨ h.proto ≠ 6 ∧ (h.flags ≠ 0 ∨ h.seq ≠ 0)) := by
                       intro hc
                       rcases hc with hc | hc <;> simp_all
                     unfold checkH
                     rw [if_neg hA, if_neg hB]
                     first
                       | (rw [if_pos (by omega)]; rfl)
                       | (rw [if_neg (by omega)]; rfl))
              · try simp only [Gx.nb] at h7
                refine skip (bN (pN (sg (co (Ev.assign (.c (v := I 0) rfl)) ?_))))
                refine nP (ret (done rfl (.tmp rfl .nil) (retE ?_)))
                first
                  | (exfalso; simp_all; done)
                  | (have hA : ¬ (checkA h.src ≠ 0 ∨ checkA h.dst ≠ 0 ∨ h.src.v6 ≠ h.dst.v6 ∨ (bif h.src.v6 then 1048575 else 65535) < h.id) := by simp_all
                     have hB : ¬ (midN h.proto = 0 ∧ (h.srcPort ≠ 0 ∨ h.dstPort ≠ 0) ∨ h.proto ≠ 6 ∧ (h.flags ≠ 0 ∨ h.seq ≠ 0)) := by
                       intro hc
                       rcases hc with hc | hc <;> simp_all
                     unfold checkH
                     rw [if_neg hA, if_neg hB]
                     first
                       | (rw [if_pos (by omega)]; rfl)
                       | (rw [if_neg (by omega)]; rfl))
          · try simp only [Gx.nb] at h5
            refine region (co (fA 34 (.t rfl)) ?_)
            refine co (Ev.ldx h.proto ty5 (.t rfl) SHeader.l_proto) ?_
            refine co (Ev.neq_u8 (.t rfl) (.c (v := U8 6) rfl)) ?_
            refine mv rfl (cg rfl rfl (fA 40 (.t rfl)) ?_)
            refine cg rfl rfl (Ev.ldx h.flags ty5 (.g rfl id) SHeader.l_flags) ?_
            refine cg rfl rfl (Ev.neq_u8 (.g rfl id) (.c (v := U8 0) rfl)) ?_
            refine cg rfl rfl (Ev.move (.g rfl id)) ?_
            refine cg rfl rfl (fA 41 (.t rfl)) ?_
            refine cg rfl rfl (Ev.ldx h.seq ty91 (.g rfl id) SHeader.l_seq) ?_
            refine cg rfl rfl (Ev.neq_u32 (.g rfl id) (.c (v := U32 0) rfl)) ?_
            refine cg rfl rfl (Ev.pkO (.g rfl id) rfl) ?_
            refine co (Ev.pkA (.t rfl) rfl) ?_
            refine asn rfl (nP ?_)
            first | refine condD rfl (fun h6 => ?_) (fun h6 => ?_) | refine cond rfl (fun h6 => ?_) (fun h6 => ?_)
            · try simp only [Gx.nb] at h6
              refine sg (co (Ev.assign (.c (v := I 2) rfl)) ?_)
              refine nP (ret (bR (pR (done rfl (.tmp rfl .nil) (retE ?_)))))
              unfold checkH
              first
                | (simp_all; done)
                | (have hA : ¬ (checkA h.src ≠ 0 ∨ checkA h.dst ≠ 0 ∨ h.src.v6 ≠ h.dst.v6 ∨ (bif h.src.v6 then 1048575 else 65535) < h.id) := by simp_all
                   rw [if_neg hA]
                   simp_all; done)
            · try simp only [Gx.nb] at h6
              refine seq (draw' (by kernel_rfl) ?_)
              refine tk 0 rfl (Ev.ldx h ty93 (.t rfl) (Lens.id _)) ?_
              refine tk 2 rfl (Ev.move (.t rfl)) ?_
              refine tk 4 rfl (fA 42 (.t rfl)) ?_
              refine tk 5 rfl (Ev.ldx h.data ty63 (.t rfl) SHeader.l_data) ?_
              refine tk 6 rfl (Ev.len Tryz.underlying63 (.t rfl) (fun w I => hd.keep0 I.keeps)) ?_
              refine al1 1 rfl ((callv en50 (.cons (.t rfl) .nil) (fun w I => front_ok _ w) ?_))
              refine hdn (tk 3 rfl (Ev.add_i (.t rfl) (.t rfl) (fun _ => by omega)) ?_)
              refine tk 7 rfl (Ev.add_i (.t rfl) (.t rfl) (fun _ => by omega)) ?_
              refine tk 8 rfl (Ev.gtr_i (.t rfl) (.c (v := I 2048) rfl)) ?_
              refine tk 9 rfl (Ev.assign (.t rfl)) ?_
              refine ovr (pN ?_)
              first | refine condD rfl (fun h7 => ?_) (fun h7 => ?_) | refine cond rfl (fun h7 => ?_) (fun h7 => ?_)
              · try simp only [Gx.nb] at h7
                refine sg (co (Ev.assign (.c (v := I 4) rfl)) ?_)
                refine nP (ret (bR (pR (done rfl (.tmp rfl .nil) (retE ?_)))))
                first
                  | (exfalso; simp_all; done)
                  | (have hA : ¬ (checkA h.src ≠ 0 ∨ checkA h.dst ≠ 0 ∨ h.src.v6 ≠ h.dst.v6 ∨ (bif h.src.v6 then 1048575 else 65535) < h.id) := by simp_all
                     have hB : ¬ (midN h.proto = 0 ∧ (h.srcPort ≠ 0 ∨ h.dstPort ≠ 0) ∨ h.proto ≠ 6 ∧ (h.flags ≠ 0 ∨ h.seq ≠ 0)) := by
                       intro hc
                       rcases hc with hc | hc <;> simp_all
                     unfold checkH
                     rw [if_neg hA, if_neg hB]
                     first
                       | (rw [if_pos (by omega)]; rfl)
                       | (rw [if_neg (by omega)]; rfl))
              · try simp only [Gx.nb] at h7
                refine skip (bN (pN (sg (co (Ev.assign (.c (v := I 0) rfl)) ?_))))
                refine nP (ret (done rfl (.tmp rfl .nil) (retE ?_)))
                first
                  | (exfalso; simp_all; done)
                  | (have hA : ¬ (checkA h.src ≠ 0 ∨ checkA h.dst ≠ 0 ∨ h.src.v6 ≠ h.dst.v6 ∨ (bif h.src.v6 then 1048575 else 65535) < h.id) := by simp_all
                     have hB : ¬ (midN h.proto = 0 ∧ (h.srcPort ≠ 0 ∨ h.dstPort ≠ 0) ∨ h.proto ≠ 6 ∧ (h.flags ≠ 0 ∨ h.seq ≠ 0)) := by
                       intro hc
                       rcases hc with hc | hc <;> simp_all
                     unfold checkH
                     rw [if_neg hA, if_neg hB]
                     first
                       | (rw [if_pos (by omega)]; rfl)
                       | (rw [if_neg (by omega)]; rfl))
      · try simp only [Gx.nb] at h2
        refine sg (co (fA 0 (.t rfl)) ?_)
        refine co (fA 0 (.t rfl)) ?_
        refine co (Ev.ldx h.src.v6 ty4 (.t rfl) (Lens.comp SHeader.l_src SAddr.l_v6)) ?_
        refine co (fA 17 (.t rfl)) ?_
        refine co (fA 0 (.t rfl)) ?_
        refine co (Ev.ldx h.dst.v6 ty4 (.t rfl) (Lens.comp SHeader.l_dst SAddr.l_v6)) ?_
        refine co (Ev.neq_b Tryz.underlying4 (.t rfl) (.t rfl)) ?_
        refine asn rfl (nP ?_)
        first | refine condD rfl (fun h3 => ?_) (fun h3 => ?_) | refine cond rfl (fun h3 => ?_) (fun h3 => ?_)
        · try simp only [Gx.nb] at h3
          refine skip (pN ?_)
          first | refine condD rfl (fun h4 => ?_) (fun h4 => ?_) | refine cond rfl (fun h4 => ?_) (fun h4 => ?_)
          · try simp only [Gx.nb] at h4
            refine sg (co (Ev.assign (.c (v := I 2) rfl)) ?_)
            refine nP (ret (bR (pR (done rfl (.tmp rfl .nil) (retE ?_)))))
            unfold checkH
            first
              | (simp_all; done)
              | (have hA : ¬ (checkA h.src ≠ 0 ∨ checkA h.dst ≠ 0 ∨ h.src.v6 ≠ h.dst.v6 ∨ (bif h.src.v6 then 1048575 else 65535) < h.id) := by simp_all
                 rw [if_neg hA]
                 simp_all; done)
          · try simp only [Gx.nb] at h4
            refine seq (sg (mv rfl (co (Ev.eql_i (.t rfl) (.c (v := I 0) rfl)) ?_)))
            refine mv rfl (cg rfl rfl (fA 35 (.t rfl)) ?_)
            refine cg rfl rfl (Ev.ldx h.srcPort ty46 (.g rfl id) SHeader.l_srcPort) ?_
            refine cg rfl rfl (Ev.neq_u16 (.g rfl id) (.c (v := U16 0) rfl)) ?_
            refine cg rfl rfl (Ev.move (.g rfl id)) ?_
            refine cg rfl rfl (fA 36 (.t rfl)) ?_
            refine cg rfl rfl (Ev.ldx h.dstPort ty46 (.g rfl id) SHeader.l_dstPort) ?_
            refine cg rfl rfl (Ev.neq_u16 (.g rfl id) (.c (v := U16 0) rfl)) ?_
            refine cg rfl rfl (Ev.pkO (.g rfl id) rfl) ?_
            refine co (Ev.pkA (.t rfl) rfl) ?_
            refine asn rfl (nP ?_)
            first | refine condD rfl (fun h5 => ?_) (fun h5 => ?_) | refine cond rfl (fun h5 => ?_) (fun h5 => ?_)
            · try simp only [Gx.nb] at h5
              refine skip (pN ?_)
              first | refine condD rfl (fun h6 => ?_) (fun h6 => ?_) | refine cond rfl (fun h6 => ?_) (fun h6 => ?_)
              · try simp only [Gx.nb] at h6
                refine sg (co (Ev.assign (.c (v := I 2) rfl)) ?_)
                refine nP (ret (bR (pR (done rfl (.tmp rfl .nil) (retE ?_)))))
                unfold checkH
                first
                  | (simp_all; done)
                  | (have hA : ¬ (checkA h.src ≠ 0 ∨ checkA h.dst ≠ 0 ∨ h.src.v6 ≠ h.dst.v6 ∨ (bif h.src.v6 then 1048575 else 65535) < h.id) := by simp_all
                     rw [if_neg hA]
                     simp_all; done)
              · try simp only [Gx.nb] at h6
                refine seq (draw' (by kernel_rfl) ?_)
                refine tk 0 rfl (Ev.ldx h ty93 (.t rfl) (Lens.id _)) ?_
                refine tk 2 rfl (Ev.move (.t rfl)) ?_
                refine tk 4 rfl (fA 42 (.t rfl)) ?_
                refine tk 5 rfl (Ev.ldx h.data ty63 (.t rfl) SHeader.l_data) ?_
                refine tk 6 rfl (Ev.len Tryz.underlying63 (.t rfl) (fun w I => hd.keep0 I.keeps)) ?_
                refine al1 1 rfl ((callv en50 (.cons (.t rfl) .nil) (fun w I => front_ok _ w) ?_))
                refine hdn (tk 3 rfl (Ev.add_i (.t rfl) (.t rfl) (fun _ => by omega)) ?_)
                refine tk 7 rfl (Ev.add_i (.t rfl) (.t rfl) (fun _ => by omega)) ?_
                refine tk 8 rfl (Ev.gtr_i (.t rfl) (.c (v := I 2048) rfl)) ?_
                refine tk 9 rfl (Ev.assign (.t rfl)) ?_
                refine ovr (pN ?_)
                first | refine condD rfl (fun h7 => ?_) (fun h7 => ?_) | refine cond rfl (fun h7 => ?_) (fun h7 => ?_)
                · try simp only [Gx.nb] at h7
                  refine sg (co (Ev.assign (.c (v := I 4) rfl)) ?_)
                  refine nP (ret (bR (pR (done rfl (.tmp rfl .nil) (retE ?_)))))
                  first
                    | (exfalso; simp_all; done)
                    | (have hA : ¬ (checkA h.src ≠ 0 ∨ checkA h.dst ≠ 0 ∨ h.src.v6 ≠ h.dst.v6 ∨ (bif h.src.v6 then 1048575 else 65535) < h.id) := by simp_all
                       have hB : ¬ (midN h.proto = 0 ∧ (h.srcPort ≠ 0 ∨ h.dstPort ≠ 0) ∨ h.proto ≠ 6 ∧ (h.flags ≠ 0 ∨ h.seq ≠ 0)) := by
                         intro hc
                         rcases hc with hc | hc <;> simp_all
                       unfold checkH
                       rw [if_neg hA, if_neg hB]
                       first
                         | (rw [if_pos (by omega)]; rfl)
                         | (rw [if_neg (by omega)]; rfl))
                · try simp only [Gx.nb] at h7
                  refine skip (bN (pN (sg (co (Ev.assign (.c (v := I 0) rfl)) ?_))))
                  refine nP (ret (done rfl (.tmp rfl .nil) (retE ?_)))
                  first
                    | (exfalso; simp_all; done)
                    | (have hA : ¬ (checkA h.src ≠ 0 ∨ checkA h.dst ≠ 0 ∨ h.src.v6 ≠ h.dst.v6 ∨ (bif h.src.v6 then 1048575 else 65535) < h.id) := by simp_all
                       have hB : ¬ (midN h.proto = 0 ∧ (h.srcPort ≠ 0 ∨ h.dstPort ≠ 0) ∨ h.proto ≠ 6 ∧ (h.flags ≠ 0 ∨ h.seq ≠ 0)) := by
                         intro hc
                         rcases hc with hc | hc <;> simp_all
                       unfold checkH
                       rw [if_neg hA, if_neg hB]
                       first
                         | (rw [if_pos (by omega)]; rfl)
                         | (rw [if_neg (by omega)]; rfl))
            · try simp only [Gx.nb] at h5
              refine region (co (fA 34 (.t rfl)) ?_)
              refine co (Ev.ldx h.proto ty5 (.t rfl) SHeader.l_proto) ?_
              refine co (Ev.neq_u8 (.t rfl) (.c (v := U8 6) rfl)) ?_
              refine mv rfl (cg rfl rfl (fA 40 (.t rfl)) ?_)
              refine cg rfl rfl (Ev.ldx h.flags ty5 (.g rfl id) SHeader.l_flags) ?_
              refine cg rfl rfl (Ev.neq_u8 (.g rfl id) (.c (v := U8 0) rfl)) ?_
              refine cg rfl rfl (Ev.move (.g rfl id)) ?_
              refine cg rfl rfl (fA 41 (.t rfl)) ?_
              refine cg rfl rfl (Ev.ldx h.seq ty91 (.g rfl id) SHeader.l_seq) ?_
              refine cg rfl rfl (Ev.neq_u32 (.g rfl id) (.c (v := U32 0) rfl)) ?_
              refine cg rfl rfl (Ev.pkO (.g rfl id) rfl) ?_
              refine co (Ev.pkA (.t rfl) rfl) ?_
              refine asn rfl (nP ?_)
              first | refine condD rfl (fun h6 => ?_) (fun h6 => ?_) | refine cond rfl (fun h6 => ?_) (fun h6 => ?_)
              · try simp only [Gx.nb] at h6
                refine sg (co (Ev.assign (.c (v := I 2) rfl)) ?_)
                refine nP (ret (bR (pR (done rfl (.tmp rfl .nil) (retE ?_)))))
                unfold checkH
                first
                  | (simp_all; done)
                  | (have hA : ¬ (checkA h.src ≠ 0 ∨ checkA h.dst ≠ 0 ∨ h.src.v6 ≠ h.dst.v6 ∨ (bif h.src.v6 then 1048575 else 65535) < h.id) := by simp_all
                     rw [if_neg hA]
                     simp_all; done)
              · try simp only [Gx.nb] at h6
                refine seq (draw' (by kernel_rfl) ?_)
                refine tk 0 rfl (Ev.ldx h ty93 (.t rfl) (Lens.id _)) ?_
                refine tk 2 rfl (Ev.move (.t rfl)) ?_
                refine tk 4 rfl (fA 42 (.t rfl)) ?_
                refine tk 5 rfl (Ev.ldx h.data ty63 (.t rfl) SHeader.l_data) ?_
                refine tk 6 rfl (Ev.len Tryz.underlying63 (.t rfl) (fun w I => hd.keep0 I.keeps)) ?_
                refine al1 1 rfl ((callv en50 (.cons (.t rfl) .nil) (fun w I => front_ok _ w) ?_))
                refine hdn (tk 3 rfl (Ev.add_i (.t rfl) (.t rfl) (fun _ => by omega)) ?_)
                refine tk 7 rfl (Ev.add_i (.t rfl) (.t rfl) (fun _ => by omega)) ?_
                refine tk 8 rfl (Ev.gtr_i (.t rfl) (.c (v := I 2048) rfl)) ?_
                refine tk 9 rfl (Ev.assign (.t rfl)) ?_
                refine ovr (pN ?_)
                first | refine condD rfl (fun h7 => ?_) (fun h7 => ?_) | refine cond rfl (fun h7 => ?_) (fun h7 => ?_)
                · try simp only [Gx.nb] at h7
                  refine sg (co (Ev.assign (.c (v := I 4) rfl)) ?_)
                  refine nP (ret (bR (pR (done rfl (.tmp rfl .nil) (retE ?_)))))
                  first
                    | (exfalso; simp_all; done)
                    | (have hA : ¬ (checkA h.src ≠ 0 ∨ checkA h.dst ≠ 0 ∨ h.src.v6 ≠ h.dst.v6 ∨ (bif h.src.v6 then 1048575 else 65535) < h.id) := by simp_all
                       have hB : ¬ (midN h.proto = 0 ∧ (h.srcPort ≠ 0 ∨ h.dstPort ≠ 0) ∨ h.proto ≠ 6 ∧ (h.flags ≠ 0 ∨ h.seq ≠ 0)) := by
                         intro hc
                         rcases hc with hc | hc <;> simp_all
                       unfold checkH
                       rw [if_neg hA, if_neg hB]
                       first
                         | (rw [if_pos (by omega)]; rfl)
                         | (rw [if_neg (by omega)]; rfl))
                · try simp only [Gx.nb] at h7
                  refine skip (bN (pN (sg (co (Ev.assign (.c (v := I 0) rfl)) ?_))))
                  refine nP (ret (done rfl (.tmp rfl .nil) (retE ?_)))
                  first
                    | (exfalso; simp_all; done)
                    | (have hA : ¬ (checkA h.src ≠ 0 ∨ checkA h.dst ≠ 0 ∨ h.src.v6 ≠ h.dst.v6 ∨ (bif h.src.v6 then 1048575 else 65535) < h.id) := by simp_all
                       have hB : ¬ (midN h.proto = 0 ∧ (h.srcPort ≠ 0 ∨ h.dstPort ≠ 0) ∨ h.proto ≠ 6 ∧ (h.flags ≠ 0 ∨ h.seq ≠ 0)) := by
                         intro hc
                         rcases hc with hc | hc <;> simp_all
                       unfold checkH
                       rw [if_neg hA, if_neg hB]
                       first
                         | (rw [if_pos (by omega)]; rfl)
                         | (rw [if_neg (by omega)]; rfl))
        · try simp only [Gx.nb] at h3
          refine region (co (fA 39 (.t rfl)) ?_)
          refine co (Ev.ldx h.id ty91 (.t rfl) SHeader.l_id) ?_
          refine mv rfl (co (Ev.gtr_u32 (.t rfl) (.t rfl)) ?_)
          refine asn rfl (nP ?_)
          first | refine condD rfl (fun h4 => ?_) (fun h4 => ?_) | refine cond rfl (fun h4 => ?_) (fun h4 => ?_)
          · try simp only [Gx.nb] at h4
            refine sg (co (Ev.assign (.c (v := I 2) rfl)) ?_)
            refine nP (ret (bR (pR (done rfl (.tmp rfl .nil) (retE ?_)))))
            unfold checkH
            first
              | (simp_all; done)
              | (have hA : ¬ (checkA h.src ≠ 0 ∨ checkA h.dst ≠ 0 ∨ h.src.v6 ≠ h.dst.v6 ∨ (bif h.src.v6 then 1048575 else 65535) < h.id) := by simp_all
                 rw [if_neg hA]
                 simp_all; done)
          · try simp only [Gx.nb] at h4
            refine seq (sg (mv rfl (co (Ev.eql_i (.t rfl) (.c (v := I 0) rfl)) ?_)))
            refine mv rfl (cg rfl rfl (fA 35 (.t rfl)) ?_)
            refine cg rfl rfl (Ev.ldx h.srcPort ty46 (.g rfl id) SHeader.l_srcPort) ?_
            refine cg rfl rfl (Ev.neq_u16 (.g rfl id) (.c (v := U16 0) rfl)) ?_
            refine cg rfl rfl (Ev.move (.g rfl id)) ?_
            refine cg rfl rfl (fA 36 (.t rfl)) ?_
            refine cg rfl rfl (Ev.ldx h.dstPort ty46 (.g rfl id) SHeader.l_dstPort) ?_
            refine cg rfl rfl (Ev.neq_u16 (.g rfl id) (.c (v := U16 0) rfl)) ?_
            refine cg rfl rfl (Ev.pkO (.g rfl id) rfl) ?_
            refine co (Ev.pkA (.t rfl) rfl) ?_
            refine asn rfl (nP ?_)
            first | refine condD rfl (fun h5 => ?_) (fun h5 => ?_) | refine cond rfl (fun h5 => ?_) (fun h5 => ?_)
            · try simp only [Gx.nb] at h5
              refine skip (pN ?_)
              first | refine condD rfl (fun h6 => ?_) (fun h6 => ?_) | refine cond rfl (fun h6 => ?_) (fun h6 => ?_)
              · try simp only [Gx.nb] at h6
                refine sg (co (Ev.assign (.c (v := I 2) rfl)) ?_)
                refine nP (ret (bR (pR (done rfl (.tmp rfl .nil) (retE ?_)))))
                unfold checkH
                first
                  | (simp_all; done)
                  | (have hA : ¬ (checkA h.src ≠ 0 ∨ checkA h.dst ≠ 0 ∨ h.src.v6 ≠ h.dst.v6 ∨ (bif h.src.v6 then 1048575 else 65535) < h.id) := by simp_all
                     rw [if_neg hA]
                     simp_all; done)
              · try simp only [Gx.nb] at h6
                refine seq (draw' (by kernel_rfl) ?_)
                refine tk 0 rfl (Ev.ldx h ty93 (.t rfl) (Lens.id _)) ?_
                refine tk 2 rfl (Ev.move (.t rfl)) ?_
                refine tk 4 rfl (fA 42 (.t rfl)) ?_
                refine tk 5 rfl (Ev.ldx h.data ty63 (.t rfl) SHeader.l_data) ?_
                refine tk 6 rfl (Ev.len Tryz.underlying63 (.t rfl) (fun w I => hd.keep0 I.keeps)) ?_
                refine al1 1 rfl ((callv en50 (.cons (.t rfl) .nil) (fun w I => front_ok _ w) ?_))
                refine hdn (tk 3 rfl (Ev.add_i (.t rfl) (.t rfl) (fun _ => by omega)) ?_)
                refine tk 7 rfl (Ev.add_i (.t rfl) (.t rfl) (fun _ => by omega)) ?_
                refine tk 8 rfl (Ev.gtr_i (.t rfl) (.c (v := I 2048) rfl)) ?_
                refine tk 9 rfl (Ev.assign (.t rfl)) ?_
                refine ovr (pN ?_)
                first | refine condD rfl (fun h7 => ?_) (fun h7 => ?_) | refine cond rfl (fun h7 => ?_) (fun h7 => ?_)
                · try simp only [Gx.nb] at h7
                  refine sg (co (Ev.assign (.c (v := I 4) rfl)) ?_)
                  refine nP (ret (bR (pR (done rfl (.tmp rfl .nil) (retE ?_)))))
                  first
                    | (exfalso; simp_all; done)
                    | (have hA : ¬ (checkA h.src ≠ 0 ∨ checkA h.dst ≠ 0 ∨ h.src.v6 ≠ h.dst.v6 ∨ (bif h.src.v6 then 1048575 else 65535) < h.id) := by simp_all
                       have hB : ¬ (midN h.proto = 0 ∧ (h.srcPort ≠ 0 ∨ h.dstPort ≠ 0) ∨ h.proto ≠ 6 ∧ (h.flags ≠ 0 ∨ h.seq ≠ 0)) := by
                         intro hc
                         rcases hc with hc | hc <;> simp_all
                       unfold checkH
                       rw [if_neg hA, if_neg hB]
                       first
                         | (rw [if_pos (by omega)]; rfl)
                         | (rw [if_neg (by omega)]; rfl))
                · try simp only [Gx.nb] at h7
                  refine skip (bN (pN (sg (co (Ev.assign (.c (v := I 0) rfl)) ?_))))
                  refine nP (ret (done rfl (.tmp rfl .nil) (retE ?_)))
                  first
                    | (exfalso; simp_all; done)
                    | (have hA : ¬ (checkA h.src ≠ 0 ∨ checkA h.dst ≠ 0 ∨ h.src.v6 ≠ h.dst.v6 ∨ (bif h.src.v6 then 1048575 else 65535) < h.id) := by simp_all
                       have hB : ¬ (midN h.proto = 0 ∧ (h.srcPort ≠ 0 ∨ h.dstPort ≠ 0) ∨ h.proto ≠ 6 ∧ (h.flags ≠ 0 ∨ h.seq ≠ 0)) := by
                         intro hc
                         rcases hc with hc | hc <;> simp_all
                       unfold checkH
                       rw [if_neg hA, if_neg hB]
                       first
                         | (rw [if_pos (by omega)]; rfl)
                         | (rw [if_neg (by omega)]; rfl))
            · try simp only [Gx.nb] at h5
              refine region (co (fA 34 (.t rfl)) ?_)
              refine co (Ev.ldx h.proto ty5 (.t rfl) SHeader.l_proto) ?_
              refine co (Ev.neq_u8 (.t rfl) (.c (v := U8 6) rfl)) ?_
              refine mv rfl (cg rfl rfl (fA 40 (.t rfl)) ?_)
              refine cg rfl rfl (Ev.ldx h.flags ty5 (.g rfl id) SHeader.l_flags) ?_
              refine cg rfl rfl (Ev.neq_u8 (.g rfl id) (.c (v := U8 0) rfl)) ?_
              refine cg rfl rfl (Ev.move (.g rfl id)) ?_
              refine cg rfl rfl (fA 41 (.t rfl)) ?_
              refine cg rfl rfl (Ev.ldx h.seq ty91 (.g rfl id) SHeader.l_seq) ?_
              refine cg rfl rfl (Ev.neq_u32 (.g rfl id) (.c (v := U32 0) rfl)) ?_
              refine cg rfl rfl (Ev.pkO (.g rfl id) rfl) ?_
              refine co (Ev.pkA (.t rfl) rfl) ?_
              refine asn rfl (nP ?_)
              first | refine condD rfl (fun h6 => ?_) (fun h6 => ?_) | refine cond rfl (fun h6 => ?_) (fun h6 => ?_)
              · try simp only [Gx.nb] at h6
                refine sg (co (Ev.assign (.c (v := I 2) rfl)) ?_)
                refine nP (ret (bR (pR (done rfl (.tmp rfl .nil) (retE ?_)))))
                unfold checkH
                first
                  | (simp_all; done)
                  | (have hA : ¬ (checkA h.src ≠ 0 ∨ checkA h.dst ≠ 0 ∨ h.src.v6 ≠ h.dst.v6 ∨ (bif h.src.v6 then 1048575 else 65535) < h.id) := by simp_all
                     rw [if_neg hA]
                     simp_all; done)
              · try simp only [Gx.nb] at h6
                refine seq (draw' (by kernel_rfl) ?_)
                refine tk 0 rfl (Ev.ldx h ty93 (.t rfl) (Lens.id _)) ?_
                refine tk 2 rfl (Ev.move (.t rfl)) ?_
                refine tk 4 rfl (fA 42 (.t rfl)) ?_
                refine tk 5 rfl (Ev.ldx h.data ty63 (.t rfl) SHeader.l_data) ?_
                refine tk 6 rfl (Ev.len Tryz.underlying63 (.t rfl) (fun w I => hd.keep0 I.keeps)) ?_
                refine al1 1 rfl ((callv en50 (.cons (.t rfl) .nil) (fun w I => front_ok _ w) ?_))
                refine hdn (tk 3 rfl (Ev.add_i (.t rfl) (.t rfl) (fun _ => by omega)) ?_)
                refine tk 7 rfl (Ev.add_i (.t rfl) (.t rfl) (fun _ => by omega)) ?_
                refine tk 8 rfl (Ev.gtr_i (.t rfl) (.c (v := I 2048) rfl)) ?_
                refine tk 9 rfl (Ev.assign (.t rfl)) ?_
                refine ovr (pN ?_)
                first | refine condD rfl (fun h7 => ?_) (fun h7 => ?_) | refine cond rfl (fun h7 => ?_) (fun h7 => ?_)
                · try simp only [Gx.nb] at h7
                  refine sg (co (Ev.assign (.c (v := I 4) rfl)) ?_)
                  refine nP (ret (bR (pR (done rfl (.tmp rfl .nil) (retE ?_)))))
                  first
                    | (exfalso; simp_all; done)
                    | (have hA : ¬ (checkA h.src ≠ 0 ∨ checkA h.dst ≠ 0 ∨ h.src.v6 ≠ h.dst.v6 ∨ (bif h.src.v6 then 1048575 else 65535) < h.id) := by simp_all
                       have hB : ¬ (midN h.proto = 0 ∧ (h.srcPort ≠ 0 ∨ h.dstPort ≠ 0) ∨ h.proto ≠ 6 ∧ (h.flags ≠ 0 ∨ h.seq ≠ 0)) := by
                         intro hc
                         rcases hc with hc | hc <;> simp_all
                       unfold checkH
                       rw [if_neg hA, if_neg hB]
                       first
                         | (rw [if_pos (by omega)]; rfl)
                         | (rw [if_neg (by omega)]; rfl))
                · try simp only [Gx.nb] at h7
                  refine skip (bN (pN (sg (co (Ev.assign (.c (v := I 0) rfl)) ?_))))
                  refine nP (ret (done rfl (.tmp rfl .nil) (retE ?_)))
                  first
                    | (exfalso; simp_all; done)
                    | (have hA : ¬ (checkA h.src ≠ 0 ∨ checkA h.dst ≠ 0 ∨ h.src.v6 ≠ h.dst.v6 ∨ (bif h.src.v6 then 1048575 else 65535) < h.id) := by simp_all
                       have hB : ¬ (midN h.proto = 0 ∧ (h.srcPort ≠ 0 ∨ h.dstPort ≠ 0) ∨ h.proto ≠ 6 ∧ (h.flags ≠ 0 ∨ h.seq ≠ 0)) := by
                         intro hc
                         rcases hc with hc | hc <;> simp_all
                       unfold checkH
                       rw [if_neg hA, if_neg hB]
                       first
                         | (rw [if_pos (by omega)]; rfl)
                         | (rw [if_neg (by omega)]; rfl))
end Go.Proofs.YtakmoeladkajdaaGreat
namespace Go.Proofs.YtakmoeladkajdaaGreat
open Go Go.Gx Go.Proofs.YtakmoeladkajdaaGreat.Tri
structure SPlanPlan where
  conf : SConf
  ports : OV
  routes : OV
  rules : OV
  deciders : OV
  verdicts : OV
def SPlanPlan.to : (SConf × (OV × (OV × (OV × (OV × OV))))) → SPlanPlan := fun x => ⟨x.1, x.2.1, x.2.2.1, x.2.2.2.1, x.2.2.2.2.1, x.2.2.2.2.2⟩
def SPlanPlan.of : SPlanPlan → (SConf × (OV × (OV × (OV × (OV × OV))))) := fun x => (x.conf, x.ports, x.routes, x.rules, x.deciders, x.verdicts)
def ePlanPlan : Enc SPlanPlan := isoE (prodE eConf (prodE (ovE nilMap) (prodE (ovE nilPtr) (prodE (ovE nilPtr) (prodE (ovE nilSl) (ovE nilSl)))))) SPlanPlan.to SPlanPlan.of
def SPlanPlan.l_conf : Lens ePlanPlan eConf 0 := lIso _ SPlanPlan.to SPlanPlan.of (fun _ => rfl) (lFst eConf (prodE (ovE nilMap) (prodE (ovE nilPtr) (prodE (ovE nilPtr) (prodE (ovE nilSl) (ovE nilSl))))))
@[simp] theorem SPlanPlan.get_conf (x : SPlanPlan) : SPlanPlan.l_conf.get x = x.conf := rfl
@[simp] theorem SPlanPlan.set_conf (x : SPlanPlan) (y : SConf) : SPlanPlan.l_conf.set x y = { x with conf := y } := rfl
def SPlanPlan.l_ports : Lens ePlanPlan (ovE nilMap) 6 := lIso _ SPlanPlan.to SPlanPlan.of (fun _ => rfl) (Lens.comp (lSnd eConf (prodE (ovE nilMap) (prodE (ovE nilPtr) (prodE (ovE nilPtr) (prodE (ovE nilSl) (ovE nilSl)))))) (lFst (ovE nilMap) (prodE (ovE nilPtr) (prodE (ovE nilPtr) (prodE (ovE nilSl) (ovE nilSl))))))
@[simp] theorem SPlanPlan.get_ports (x : SPlanPlan) : SPlanPlan.l_ports.get x = x.ports := rfl
@[simp] theorem SPlanPlan.set_ports (x : SPlanPlan) (y : OV) : SPlanPlan.l_ports.set x y = { x with ports := y } := rfl
def SPlanPlan.l_routes : Lens ePlanPlan (ovE nilPtr) 7 := lIso _ SPlanPlan.to SPlanPlan.of (fun _ => rfl) (Lens.comp (lSnd eConf (prodE (ovE nilMap) (prodE (ovE nilPtr) (prodE (ovE nilPtr) (prodE (ovE nilSl) (ovE nilSl)))))) (Lens.comp (lSnd (ovE nilMap) (prodE (ovE nilPtr) (prodE (ovE nilPtr) (prodE (ovE nilSl) (ovE nilSl))))) (lFst (ovE nilPtr) (prodE (ovE nilPtr) (prodE (ovE nilSl) (ovE nilSl))))))
@[simp] theorem SPlanPlan.get_routes (x : SPlanPlan) : SPlanPlan.l_routes.get x = x.routes := rfl
@[simp] theorem SPlanPlan.set_routes (x : SPlanPlan) (y : OV) : SPlanPlan.l_routes.set x y = { x with routes := y } := rfl
def SPlanPlan.l_rules : Lens ePlanPlan (ovE nilPtr) 8 := lIso _ SPlanPlan.to SPlanPlan.of (fun _ => rfl) (Lens.comp (lSnd eConf (prodE (ovE nilMap) (prodE (ovE nilPtr) (prodE (ovE nilPtr) (prodE (ovE nilSl) (ovE nilSl)))))) (Lens.comp (lSnd (ovE nilMap) (prodE (ovE nilPtr) (prodE (ovE nilPtr) (prodE (ovE nilSl) (ovE nilSl))))) (Lens.comp (lSnd (ovE nilPtr) (prodE (ovE nilPtr) (prodE (ovE nilSl) (ovE nilSl)))) (lFst (ovE nilPtr) (prodE (ovE nilSl) (ovE nilSl))))))
@[simp] theorem SPlanPlan.get_rules (x : SPlanPlan) : SPlanPlan.l_rules.get x = x.rules := rfl
@[simp] theorem SPlanPlan.set_rules (x : SPlanPlan) (y : OV) : SPlanPlan.l_rules.set x y = { x with rules := y } := rfl
def SPlanPlan.l_deciders : Lens ePlanPlan (ovE nilSl) 9 := lIso _ SPlanPlan.to SPlanPlan.of (fun _ => rfl) (Lens.comp (lSnd eConf (prodE (ovE nilMap) (prodE (ovE nilPtr) (prodE (ovE nilPtr) (prodE (ovE nilSl) (ovE nilSl)))))) (Lens.comp (lSnd (ovE nilMap) (prodE (ovE nilPtr) (prodE (ovE nilPtr) (prodE (ovE nilSl) (ovE nilSl))))) (Lens.comp (lSnd (ovE nilPtr) (prodE (ovE nilPtr) (prodE (ovE nilSl) (ovE nilSl)))) (Lens.comp (lSnd (ovE nilPtr) (prodE (ovE nilSl) (ovE nilSl))) (lFst (ovE nilSl) (ovE nilSl))))))
@[simp] theorem SPlanPlan.get_deciders (x : SPlanPlan) : SPlanPlan.l_deciders.get x = x.deciders := rfl
@[simp] theorem SPlanPlan.set_deciders (x : SPlanPlan) (y : OV) : SPlanPlan.l_deciders.set x y = { x with deciders := y } := rfl
def SPlanPlan.l_verdicts : Lens ePlanPlan (ovE nilSl) 10 := lIso _ SPlanPlan.to SPlanPlan.of (fun _ => rfl) (Lens.comp (lSnd eConf (prodE (ovE nilMap) (prodE (ovE nilPtr) (prodE (ovE nilPtr) (prodE (ovE nilSl) (ovE nilSl)))))) (Lens.comp (lSnd (ovE nilMap) (prodE (ovE nilPtr) (prodE (ovE nilPtr) (prodE (ovE nilSl) (ovE nilSl))))) (Lens.comp (lSnd (ovE nilPtr) (prodE (ovE nilPtr) (prodE (ovE nilSl) (ovE nilSl)))) (Lens.comp (lSnd (ovE nilPtr) (prodE (ovE nilSl) (ovE nilSl))) (Lens.comp (lSnd (ovE nilSl) (ovE nilSl)) (Lens.id (ovE nilSl)))))))
@[simp] theorem SPlanPlan.get_verdicts (x : SPlanPlan) : SPlanPlan.l_verdicts.get x = x.verdicts := rfl
@[simp] theorem SPlanPlan.set_verdicts (x : SPlanPlan) (y : OV) : SPlanPlan.l_verdicts.set x y = { x with verdicts := y } := rfl
structure SPlanRouted where
  routes : OV
def SPlanRouted.to : OV → SPlanRouted := fun x => ⟨x⟩
def SPlanRouted.of : SPlanRouted → OV := fun x => x.routes
def ePlanRouted : Enc SPlanRouted := isoE (ovE nilPtr) SPlanRouted.to SPlanRouted.of
def SPlanRouted.l_routes : Lens ePlanRouted (ovE nilPtr) 0 := lIso _ SPlanRouted.to SPlanRouted.of (fun _ => rfl) (Lens.id (ovE nilPtr))
@[simp] theorem SPlanRouted.get_routes (x : SPlanRouted) : SPlanRouted.l_routes.get x = x.routes := rfl
@[simp] theorem SPlanRouted.set_routes (x : SPlanRouted) (y : OV) : SPlanRouted.l_routes.set x y = { x with routes := y } := rfl
structure SVerdict where
  action : Int
  out : Int
  rule : Int
  meter : Int
  mirror : Int
def SVerdict.to : (Int × (Int × (Int × (Int × Int)))) → SVerdict := fun x => ⟨x.1, x.2.1, x.2.2.1, x.2.2.2.1, x.2.2.2.2⟩
def SVerdict.of : SVerdict → (Int × (Int × (Int × (Int × Int)))) := fun x => (x.action, x.out, x.rule, x.meter, x.mirror)
def eVerdict : Enc SVerdict := isoE (prodE iE (prodE iE (prodE iE (prodE iE iE)))) SVerdict.to SVerdict.of
def SVerdict.l_action : Lens eVerdict iE 0 := lIso _ SVerdict.to SVerdict.of (fun _ => rfl) (lFst iE (prodE iE (prodE iE (prodE iE iE))))
@[simp] theorem SVerdict.get_action (x : SVerdict) : SVerdict.l_action.get x = x.action := rfl
@[simp] theorem SVerdict.set_action (x : SVerdict) (y : Int) : SVerdict.l_action.set x y = { x with action := y } := rfl
def SVerdict.l_out : Lens eVerdict iE 1 := lIso _ SVerdict.to SVerdict.of (fun _ => rfl) (Lens.comp (lSnd iE (prodE iE (prodE iE (prodE iE iE)))) (lFst iE (prodE iE (prodE iE iE))))
@[simp] theorem SVerdict.get_out (x : SVerdict) : SVerdict.l_out.get x = x.out := rfl
@[simp] theorem SVerdict.set_out (x : SVerdict) (y : Int) : SVerdict.l_out.set x y = { x with out := y } := rfl
def SVerdict.l_rule : Lens eVerdict iE 2 := lIso _ SVerdict.to SVerdict.of (fun _ => rfl) (Lens.comp (lSnd iE (prodE iE (prodE iE (prodE iE iE)))) (Lens.comp (lSnd iE (prodE iE (prodE iE iE))) (lFst iE (prodE iE iE))))
@[simp] theorem SVerdict.get_rule (x : SVerdict) : SVerdict.l_rule.get x = x.rule := rfl
@[simp] theorem SVerdict.set_rule (x : SVerdict) (y : Int) : SVerdict.l_rule.set x y = { x with rule := y } := rfl
def SVerdict.l_meter : Lens eVerdict iE 3 := lIso _ SVerdict.to SVerdict.of (fun _ => rfl) (Lens.comp (lSnd iE (prodE iE (prodE iE (prodE iE iE)))) (Lens.comp (lSnd iE (prodE iE (prodE iE iE))) (Lens.comp (lSnd iE (prodE iE iE)) (lFst iE iE))))
@[simp] theorem SVerdict.get_meter (x : SVerdict) : SVerdict.l_meter.get x = x.meter := rfl
@[simp] theorem SVerdict.set_meter (x : SVerdict) (y : Int) : SVerdict.l_meter.set x y = { x with meter := y } := rfl
def SVerdict.l_mirror : Lens eVerdict iE 4 := lIso _ SVerdict.to SVerdict.of (fun _ => rfl) (Lens.comp (lSnd iE (prodE iE (prodE iE (prodE iE iE)))) (Lens.comp (lSnd iE (prodE iE (prodE iE iE))) (Lens.comp (lSnd iE (prodE iE iE)) (Lens.comp (lSnd iE iE) (Lens.id iE)))))
@[simp] theorem SVerdict.get_mirror (x : SVerdict) : SVerdict.l_mirror.get x = x.mirror := rfl
@[simp] theorem SVerdict.set_mirror (x : SVerdict) (y : Int) : SVerdict.l_mirror.set x y = { x with mirror := y } := rfl
def SVerdict.eqb (x y : SVerdict) : Bool := eqd x.action y.action && (eqd x.out y.out && (eqd x.rule y.rule && (eqd x.meter y.meter && (eqd x.mirror y.mirror && (true)))))
theorem SVerdict.eqb_iff (x y : SVerdict) : SVerdict.eqb x y = true ↔ x = y := by
  obtain ⟨a0, a1, a2, a3, a4⟩ := x
  obtain ⟨b0, b1, b2, b3, b4⟩ := y
  simp only [SVerdict.eqb, Bool.and_eq_true, eqd_iff, eqd_iff, eqd_iff, eqd_iff, eqd_iff, SVerdict.mk.injEq, and_true]
instance : DecidableEq SVerdict := fun x y => decidable_of_iff (SVerdict.eqb x y = true) (SVerdict.eqb_iff x y)
@[simp] theorem SVerdict.eqb_dec (x y : SVerdict) : SVerdict.eqb x y = decide (x = y) := by
  rw [Bool.eq_iff_iff, decide_eq_true_iff]
  exact SVerdict.eqb_iff x y
theorem rule_okM {l : CL} {r : SRule} {i : Int} (h : ruleE l r i = 0) : okM r.match_ = true := by
  unfold ruleE at h
  split at h
  · cases h
  split at h
  · cases h
  split at h
  · cases h
  · rename_i h3
    simpa using h3
def mtL (l : CL) : List SMatch := l.us.map fun r => r.match_
theorem may_comp {l : CL} {d : Int} (h : mayB l d = true) : compE (mtL l) = 0 := by
  have hl := may_lens h
  have hg := (may_good h).us
  have h1 : (mtL l).length = l.us.length := by simp [mtL]
  have h2 : (mtL l).all okM = true := List.all_eq_true.2 fun m hm => by
    obtain ⟨r, hr, rfl⟩ := List.mem_map.1 hm
    obtain ⟨i, hi, rfl⟩ := List.mem_iff_getElem.1 hr
    have := rule_okM (hg i hi)
    simpa [List.getD, hi] using this
  unfold compE
  rw [decide_eq_false (by omega), h2]
  rfl
def putN {α κ β : Type} (q : κ → κ → Bool) (f : α → κ) (g : Nat → β) (l : List α) : Nat → List (κ × β)
  | 0 => []
  | n + 1 => match l[n]? with
    | none => putN q f g l n
    | some x => putL q (f x) (g n) (putN q f g l n)
theorem putN_stepI {α κ β : Type} (q : κ → κ → Bool) (f : α → κ) (g : Nat → β) (l : List α) (z : α) {i : Int} (h : 0 ≤ i ∧ i < l.length) : putN q f g l (i + 1).toNat = putL q (f (l.getD i.toNat z)) (g i.toNat) (putN q f g l i.toNat) := by
  have e : (i + 1).toNat = i.toNat + 1 := by omega
  have e2 : l[i.toNat]? = some (l.getD i.toNat z) := by
    have : i.toNat < l.length := by omega
    simp [List.getD, List.getElem?_eq_getElem this]
  rw [e, putN, e2]
theorem putN_step {α κ β : Type} (q : κ → κ → Bool) (f : α → κ) (g : Nat → β) (l : List α) {n : Nat} (h : n < l.length) : putN q f g l (n + 1) = putL q (f l[n]) (g n) (putN q f g l n) := by
  rw [putN, List.getElem?_eq_getElem h]
theorem putN_none {α κ β : Type} {q : κ → κ → Bool} (hi : ∀ x y, q x y = true ↔ x = y) (f : α → κ) (g : Nat → β) (l : List α) {k : κ} (hk : k ∉ l.map f) : ∀ n, n ≤ l.length → Gx.findV q k (putN q f g l n) = none
  | 0, _ => rfl
  | n + 1, h => by
    rw [putN_step q f g l (by omega), findV_put hi, if_neg, putN_none hi f g l hk n (by omega)]
    intro hq
    exact hk (List.mem_map.2 ⟨l[n], List.getElem_mem _, ((hi _ _).1 hq).symm⟩)
theorem putN_at {α κ β : Type} {q : κ → κ → Bool} (hi : ∀ x y, q x y = true ↔ x = y) {f : α → κ} (g : Nat → β) {l : List α} (hu : (l.map f).Nodup) {j : Nat} (hj : j < l.length) : ∀ n, n ≤ l.length → j < n → Gx.findV q (f l[j]) (putN q f g l n) = some (g j)
  | 0, _, h => by omega
  | n + 1, h, hjn => by
    rw [putN_step q f g l (by omega), findV_put hi]
    by_cases e : j = n
    · subst e
      rw [if_pos ((hi _ _).2 rfl)]
    · rw [if_neg, putN_at hi g hu hj n (by omega) (by omega)]
      intro hq
      have e2 := (hi _ _).1 hq
      exact List.pairwise_iff_getElem.1 hu j n (by simpa using hj) (by simp; omega) (by omega) (by simpa using e2)
theorem putN_mem {α κ : Type} {q : κ → κ → Bool} (hi : ∀ x y, q x y = true ↔ x = y) (f : α → κ) (l : List α) (k : κ) : ∀ n, n ≤ l.length → (Gx.findV q k (putN q f (fun _ => true) l n)).getD false = (l.take n).any (fun x => q k (f x))
  | 0, _ => rfl
  | n + 1, h => by
    rw [putN_step q f _ l (by omega), findV_put hi, List.take_succ_eq_append_getElem (by omega), List.any_append, ← putN_mem hi f l k n (by omega)]
    cases hq : q k (f l[n]) with
    | true => rw [if_pos rfl]; simp [hq]
    | false => rw [if_neg Bool.false_ne_true]; simp [hq]
theorem idx_none' {α : Type} {p : α → Bool} {l : List α} (h : ∀ y ∈ l, p y = false) : idxF p l = -1 := by
  unfold idxF
  rw [List.findIdx?_eq_none_iff.2 h]
def numB (m : List (ByteArray × Int)) (s : ByteArray) : Int := match Gx.findV eqs s m with
  | some i => i
  | none => -1
def nameI {α : Type} (f : α → ByteArray) (l : List α) (s : ByteArray) : Int := idxF (fun x => decide (f x = s)) l
theorem name_num {α : Type} {f : α → ByteArray} {l : List α} (hu : (l.map f).Nodup) (s : ByteArray) : numB (putN eqs f (fun k : Nat => (k : Int)) l l.length) s = nameI f l s := by
  unfold numB nameI
  by_cases hs : s ∈ l.map f
  · obtain ⟨x, hx, rfl⟩ := List.mem_map.1 hs
    obtain ⟨j, hj, rfl⟩ := List.mem_iff_getElem.1 hx
    rw [putN_at eqs_iff _ hu hj _ (Nat.le_refl _) hj]
    have h1 := idx_at (p := fun x => decide (f x = f l[j])) (l := l) (i := (j : Int)) l[j] ⟨by omega, by omega⟩ (fun k hk => by
      have hkl : k < l.length := by omega
      have e : l.getD k l[j] = l[k] := by simp [List.getD, hkl]
      rw [e]
      exact decide_eq_false fun e2 => List.pairwise_iff_getElem.1 hu k j (by simpa using hkl) (by simpa using hj) (by omega) (by simpa using e2)) (by simp [List.getD, hj])
    exact h1.symm
  · rw [putN_none eqs_iff f _ l hs _ (Nat.le_refl _)]
    refine (idx_none' (p := fun x => decide (f x = s)) fun y hy => decide_eq_false fun e => hs (List.mem_map.2 ⟨y, hy, e⟩)).symm
def longN (rs : List SRoute) (a : SAddr) : Nat → Int
  | 0 => -1
  | n + 1 => if (hasP (rs.getD n eRoute.zero).to_ a && (decide (longN rs a n < 0) || decide ((rs.getD (longN rs a n).toNat eRoute.zero).to_.bits < (rs.getD n eRoute.zero).to_.bits))) = true then (n : Int) else longN rs a n
def longK (rs : List SRoute) (a : SAddr) : Int := longN rs a rs.length
theorem longN_spec (rs : List SRoute) (a : SAddr) : ∀ n, (longN rs a n = -1 ∧ ∀ j, j < n → hasP (rs.getD j eRoute.zero).to_ a = false) ∨ (∃ k : Nat, longN rs a n = k ∧ k < n ∧ hasP (rs.getD k eRoute.zero).to_ a = true ∧ ∀ j, j < n → hasP (rs.getD j eRoute.zero).to_ a = true → (rs.getD j eRoute.zero).to_.bits ≤ (rs.getD k eRoute.zero).to_.bits)
  | 0 => .inl ⟨rfl, fun j h => by omega⟩
  | n + 1 => by
    rw [longN]
    rcases longN_spec rs a n with ⟨h1, h2⟩ | ⟨k, h1, h2, h3, h4⟩
    · rw [h1]
      cases hh : hasP (rs.getD n eRoute.zero).to_ a with
      | true =>
        refine .inr ⟨n, by simp, by omega, hh, fun j hj hjh => ?_⟩
        by_cases e : j = n
        · subst e; exact Int.le_refl _
        · rw [h2 j (by omega)] at hjh; cases hjh
      | false =>
        refine .inl ⟨by simp, fun j hj => ?_⟩
        by_cases e : j = n
        · subst e; exact hh
        · exact h2 j (by omega)
    · rw [h1]
      have ek : ((k : Int)).toNat = k := by omega
      rw [ek]
      split
      · rename_i hc
        simp only [Bool.and_eq_true, Bool.or_eq_true, decide_eq_true_eq] at hc
        have hlt : (rs.getD k eRoute.zero).to_.bits < (rs.getD n eRoute.zero).to_.bits := by
          rcases hc.2 with g | g
          · omega
          · exact g
        refine .inr ⟨n, rfl, by omega, hc.1, fun j hj hjh => ?_⟩
        by_cases e : j = n
        · subst e; exact Int.le_refl _
        · have := h4 j (by omega) hjh
          omega
      · rename_i hc
        refine .inr ⟨k, rfl, by omega, h3, fun j hj hjh => ?_⟩
        by_cases e : j = n
        · subst e
          rcases Int.lt_or_le (rs.getD k eRoute.zero).to_.bits (rs.getD j eRoute.zero).to_.bits with g | g
          · exact absurd (by simp only [Bool.and_eq_true, Bool.or_eq_true, decide_eq_true_eq]; exact ⟨hjh, .inr g⟩) hc
          · exact g
        · exact h4 j (by omega) hjh
theorem routesL_mem {rs : List SRoute} (hn : (rs.map (·.to_)).Nodup) (y : SPrefix × Int) : Tri.routesL rs y ↔ ∃ r ∈ rs, y = (r.to_, r.out) := by
  have key : ∀ n, n ≤ rs.length → (Tri.routesL (rs.take n) y ↔ ∃ r ∈ rs.take n, y = (r.to_, r.out)) := by
    intro n
    induction n with
    | zero => exact fun _ => ⟨fun h => h.elim, fun ⟨r, hr, _⟩ => by simp at hr⟩
    | succ n ih =>
      intro h
      rw [List.take_succ_eq_append_getElem (by omega), Tri.routesL_snoc, ih (by omega)]
      constructor
      · rintro (e | ⟨⟨r, hr, e⟩, _⟩)
        · exact ⟨rs[n], List.mem_append_right _ (List.mem_singleton_self _), e⟩
        · exact ⟨r, List.mem_append_left _ hr, e⟩
      · rintro ⟨r, hr, e⟩
        rcases List.mem_append.1 hr with hr | hr
        · refine .inr ⟨⟨r, hr, e⟩, fun e2 => ?_⟩
          obtain ⟨j, hj, rfl⟩ := List.mem_iff_getElem.1 hr
          have hj2 : j < n := by simp at hj; omega
          rw [e] at e2
          exact List.pairwise_iff_getElem.1 hn j n (by simp; omega) (by simp; omega) hj2 (by simpa using e2)
        · rw [List.mem_singleton] at hr
          subst hr
          exact .inl e
  have := key rs.length (Nat.le_refl _)
  rwa [List.take_length] at this
def routeV (rs : List SRoute) (a : SAddr) : Int × Bool := if longK rs a < 0 then (0, false) else ((rs.getD (longK rs a).toNat eRoute.zero).out, true)
theorem find_long {t : Tt} (ho : t.OK) {rs : List SRoute} (hm : ∀ y, y ∈ t.ents ↔ Tri.routesL rs y) (hn : (rs.map (·.to_)).Nodup) (a : SAddr) : (Tri.findT t a).2 = routeV rs a := by
  unfold routeV longK
  rcases longN_spec rs a rs.length with ⟨h1, h2⟩ | ⟨k, h1, h2, h3, h4⟩
  · rw [h1, if_pos (by decide)]
    rcases Tri.find_spec ho a with ⟨x, hx, hh, _⟩ | ⟨e, _⟩
    · exfalso
      obtain ⟨r, hr, e⟩ := (routesL_mem hn x).1 ((hm x).1 hx)
      obtain ⟨j, hj, rfl⟩ := List.mem_iff_getElem.1 hr
      have := h2 j hj
      have e2 : rs.getD j eRoute.zero = rs[j] := by simp [List.getD, hj]
      rw [e2] at this
      rw [e] at hh
      rw [this] at hh
      cases hh
    · rw [e]
  · have e0 : ((k : Int)).toNat = k := by omega
    have e2 : rs.getD k eRoute.zero = rs[k] := by simp [List.getD, h2]
    rw [h1, if_neg (by omega), e0]
    have hx : ((rs.getD k eRoute.zero).to_, (rs.getD k eRoute.zero).out) ∈ t.ents := (hm _).2 ((routesL_mem hn _).2 ⟨rs.getD k eRoute.zero, by rw [e2]; exact List.getElem_mem _, rfl⟩)
    rw [Tri.find_of ho hx h3 (fun y hy hh => by
      obtain ⟨r, hr, e⟩ := (routesL_mem hn y).1 ((hm y).1 hy)
      obtain ⟨j, hj, rfl⟩ := List.mem_iff_getElem.1 hr
      have e3 : rs.getD j eRoute.zero = rs[j] := by simp [List.getD, hj]
      have := h4 j hj (by rw [e3]; rw [e] at hh; exact hh)
      rw [e3] at this
      rw [e]
      exact this)]
def decO (r : OV) (a o : Int) : OV := if a = 3 then ifc 179 (I o) else if a = 1 then ifc 181 (ePlanRouted.val ⟨r⟩) else ifc 182 (I a)
def decL (r : OV) (l : CL) (d : Int) : List OV := l.us.map (fun u => decO r u.action u.out) ++ [decO r d 0]
def vdV (l : CL) (k : Nat) : SVerdict := ⟨0, 0, (k : Int), nameI (·.name) l.ms (l.us.getD k eRule.zero).meter, nameI (·.name) l.xs (l.us.getD k eRule.zero).mirror⟩
def noV : SVerdict := ⟨0, 0, -1, -1, -1⟩
def dropV : SVerdict := ⟨2, -1, -1, -1, -1⟩
def vdL (l : CL) : List SVerdict := (List.range l.us.length).map (vdV l) ++ [noV]
def actO (rs : List SRoute) (a o : Int) (x : SAddr) : Int × Int := if a = 3 then (3, o) else if a = 1 then (if (routeV rs x).2 = true then (3, (routeV rs x).1) else (4, -1)) else (a, -1)
def metI (l : CL) (n : Int) (h : SHeader) : Int := firstF (fun m => metB m n h) (mtL l) 0
def ruleI (l : CL) (n : Int) (h : SHeader) : Nat := if metI l n h < 0 then l.us.length else (metI l n h).toNat
def actI (l : CL) (d : Int) (k : Nat) : Int × Int := if k < l.us.length then ((l.us.getD k eRule.zero).action, (l.us.getD k eRule.zero).out) else (d, 0)
def decV (l : CL) (d n : Int) (h : SHeader) : SVerdict := if l.ps.any (fun x => decide (n = x)) = true then { (vdL l).getD (ruleI l n h) eVerdict.zero with action := (actO l.rs (actI l d (ruleI l n h)).1 (actI l d (ruleI l n h)).2 h.dst).1, out := (actO l.rs (actI l d (ruleI l n h)).1 (actI l d (ruleI l n h)).2 h.dst).2 } else dropV
structure Pl where
  b : Nat
  cb : CB
  pm : Nat
  tr : Tt
  rb : Nat
  dv : OV
  vv : OV
def ptrV (b : Nat) : OV := ⟨.pointer (some ⟨b, 0, none⟩), rfl⟩
def Pl.val (p : Pl) (d : Int) : SPlanPlan := ⟨p.cb.c d, mapV p.pm, p.tr.ptr, ptrV p.rb, p.dv, p.vv⟩
def portsP (l : CL) : List (Int × Bool) := putN eqd (fun x => x) (fun _ => true) l.ps l.ps.length
structure PlanAt (w : World) (p : Pl) (l : CL) (d : Int) : Prop where
  pt : PtsTo ePlanPlan w p.b 0 (p.val d)
  cf : ConfAt w (p.cb.c d) l
  pm : MapAt w p.pm iE bE (portsP l)
  tr : p.tr.At w
  ru : RulesAt w p.rb (mtL l)
  ds : IsSl (ovE nilIf) w p.dv.v (decL p.tr.ptr l d)
  vs : IsSl eVerdict w p.vv.v (vdL l)
theorem PlanAt.keep {w w' : World} {p : Pl} {l : CL} {d : Int} (h : PlanAt w p l d) (k : Keeps Nope w w') : PlanAt w' p l d := ⟨h.pt.keep k, h.cf.keep0 k, h.pm.keep0 k, h.tr.keep k, h.ru.keep k, h.ds.keep0 k, h.vs.keep0 k⟩
structure PlanOK (p : Pl) (l : CL) (d : Int) : Prop where
  may : mayB l d = true
  ok : p.tr.OK
  ents : ∀ y, y ∈ p.tr.ents ↔ Tri.routesL l.rs y
theorem PlanOK.route {p : Pl} {l : CL} {d : Int} (h : PlanOK p l d) (a : SAddr) : (Tri.findT p.tr a).2 = routeV l.rs a := find_long h.ok h.ents (good_rs (may_good h.may)) a
def CompileJ (l : CL) (d : Int) (x : Pl × List Res) : Prop := mayB l d = true → PlanOK x.1 l d ∧ ∀ w, (∀ r ∈ x.2, r.A w) → PlanAt w x.1 l d
def plO (l : CL) (d : Int) (b : Nat) : Option Addr := if mayB l d = true then some ⟨b, 0, none⟩ else none
def plE (l : CL) (d : Int) : Int := if mayB l d = true then 0 else 210
theorem may_ofR {l : CL} {d : Int} (h : mayB l d = true) : Tri.ofR l.rs = 0 := by
  unfold Tri.ofR
  rw [if_pos]
  refine List.all_eq_true.2 fun r hr => decide_eq_true ?_
  obtain ⟨i, hi, rfl⟩ := List.mem_iff_getElem.1 hr
  have h1 := (routeE_z.1 ((may_good h).rs i hi)).1
  have e : l.rs.getD i eRoute.zero = l.rs[i] := by simp [List.getD, hi]
  rwa [e] at h1
theorem portsP_any (l : CL) (n : Int) : (Gx.findV eqd n (portsP l)).getD false = l.ps.any (fun x => decide (n = x)) := by
  unfold portsP
  rw [putN_mem eqd_iff _ _ _ _ (Nat.le_refl _), List.take_length]
  rfl
theorem firstF_rng (q : SMatch → Bool) : ∀ (ms : List SMatch) (k : Int), firstF q ms k = -1 ∨ (k ≤ firstF q ms k ∧ firstF q ms k < k + ms.length)
  | [], k => .inl rfl
  | m :: ms, k => by
    unfold firstF
    cases q m with
    | true => exact .inr ⟨Int.le_refl _, by simp; omega⟩
    | false =>
      rcases firstF_rng q ms (k + 1) with g | ⟨g1, g2⟩
      · exact .inl g
      · refine .inr ⟨?_, ?_⟩
        · show k ≤ firstF q ms (k + 1)
          omega
        · show firstF q ms (k + 1) < _
          simp only [List.length_cons]
          omega
theorem mtL_len (l : CL) : (mtL l).length = l.us.length := by simp [mtL]
theorem metI_rng (l : CL) (n : Int) (h : SHeader) : metI l n h = -1 ∨ (0 ≤ metI l n h ∧ metI l n h < l.us.length) := by
  have h1 := firstF_rng (fun m => metB m n h) (mtL l) 0
  rw [mtL_len] at h1
  unfold metI
  omega
theorem ruleI_le (l : CL) (n : Int) (h : SHeader) : ruleI l n h ≤ l.us.length := by
  have := metI_rng l n h
  unfold ruleI
  split <;> omega
end Go.Proofs.YtakmoeladkajdaaGreat
namespace Go.Proofs.YtakmoeladkajdaaGreat
open Go Go.Gx Go.Proofs.YtakmoeladkajdaaGreat.Tri
theorem ty121 : TyOK Tryz.prog 121 (ovE nilMap) := TyOK.mk' (by kernel_rfl) (by kernel_rfl)
theorem pthere_ok (b : Nat) (x : SPlanPlan) (m : Nat) (w : World) (hb : PtsTo ePlanPlan w b 0 x) (hm : x.ports = mapV m) : Calls Tryz.prog 54 #[.pointer (some ⟨b, 0, none⟩)] w (RetV w (.bool true)) := by
  refine en0 12 Tryz.func54 ?_
  refine sg (co (Ev.assign (.c (v := .bool false) rfl)) ?_)
  refine nP (sg (mv rfl (co (Ev.neq_p Tryz.underlying51 (.t rfl) (.c rfl)) ?_)))
  refine mv rfl (cg rfl rfl (Ev.move (.t rfl)) ?_)
  refine cg rfl rfl (Ev.nilCheck (.g rfl id)) ?_
  refine cg rfl rfl (fA 6 (.g rfl id)) ?_
  refine cg rfl rfl (Ev.to (v' := .map (some m)) (Ev.load ty121 (.g rfl id) (ptsL (fun w I => hb.keep I.keeps) SPlanPlan.l_ports)) (congrArg OV.v hm)) ?_
  refine cg rfl rfl (Ev.neq_m Tryz.underlying121 (.g rfl id) (.c rfl)) ?_
  refine co (Ev.pkA (.t rfl) rfl) ?_
  refine asn rfl (nP (ret (done rfl (.tmp rfl .nil) (retE ?_))))
  first | rfl | (simp; done)
theorem z181 : (Tryz.prog.info? 181).bind (·.zero) = some (ePlanRouted.val ePlanRouted.zero) := by kernel_rfl
theorem decider_ok (b : Nat) (x : SPlanPlan) (a o : Int) (w : World) (hb : PtsTo ePlanPlan w b 0 x) : Calls Tryz.prog 45 #[.pointer (some ⟨b, 0, none⟩), I a, I o] w (RetV w (decO x.routes a o).v) := by
  refine en0 22 Tryz.func45 ?_
  refine sg (co (Ev.assign (.c (v := Go.Value.nilIface) rfl)) ?_)
  refine nP (seq (sg (mv rfl (nP (block (sg (co (Ev.eql_i (.t rfl) (.c (v := I 3) rfl)) ?_)))))))
  refine asn rfl (nP ?_)
  first | refine condD rfl (fun h0 => ?_) (fun h0 => ?_) | refine cond rfl (fun h0 => ?_) (fun h0 => ?_)
  · refine sg (mv rfl (co (Ev.makeIf Tryz.underlying179 rfl (.t rfl)) ?_))
    refine asn rfl (nP (ret (bR (pR (done rfl (.tmp rfl .nil) (retE ?_))))))
    have e : a = 3 := by simpa using h0
    unfold decO; rw [if_pos e]; rfl
  · refine sg (co (Ev.eql_i (.t rfl) (.c (v := I 1) rfl)) ?_)
    refine asn rfl (nP ?_)
    first | refine condD rfl (fun h1 => ?_) (fun h1 => ?_) | refine cond rfl (fun h1 => ?_) (fun h1 => ?_)
    · refine sg (mv rfl (co (Ev.nilCheck (.t rfl)) ?_))
      refine co (fA 7 (.t rfl)) ?_
      refine co (Ev.load ty122 (.t rfl) (ptsL (fun w I => hb.keep I.keeps) SPlanPlan.l_routes)) ?_
      refine co (Ev.buildS (fs := _) (places := [(0, 1)]) z181 rfl Tryz.underlying181 (by kernel_rfl) (.cons (.t rfl) .nil) (Fills.cons SPlanRouted.l_routes rfl Fills.nil)) ?_
      refine co (Ev.makeIf Tryz.underlying181 rfl (.t rfl)) ?_
      refine asn rfl (nP (ret (bR (pR (done rfl (.tmp rfl .nil) (retE ?_))))))
      have e : ¬ a = 3 := by simpa using h0
      have e2 : a = 1 := by simpa using h1
      unfold decO; rw [if_neg e, if_pos e2]; rfl
    · refine skip (bN (pN (sg (mv rfl (co (Ev.makeIf Tryz.underlying182 rfl (.t rfl)) ?_)))))
      refine asn rfl (nP (ret (done rfl (.tmp rfl .nil) (retE ?_))))
      have e : ¬ a = 3 := by simpa using h0
      have e2 : ¬ a = 1 := by simpa using h1
      unfold decO; rw [if_neg e, if_neg e2]; rfl
theorem number_ok (b : Nat) (m : List (ByteArray × Int)) (s : ByteArray) (z : Int) (w : World) (hm : MapAt w b sE iE m) (hz : numB m s = z) : Calls Tryz.prog 44 #[.map (some b), .string s] w (RetV w (I z)) := by
  refine en0 15 Tryz.func44 ?_
  refine sg (co (Ev.assign (.c (v := I 0) rfl)) ?_)
  refine nP (seq (sg (mv rfl (mv rfl (co (Ev.lookupT Tryz.underlying130 Tryz.underlying9 key9 z3 (.t rfl) (.t rfl) (fun _ => (fun w I => hm.keep0 I.keeps))) ?_)))))
  refine mv rfl (co (Ev.extract (.t rfl) rfl) (co (Ev.extract (.t rfl) rfl) (asn rfl (asn rfl (nP (sg (mv rfl (nP ?_))))))))
  first | refine condD rfl (fun h0 => ?_) (fun h0 => ?_) | refine cond rfl (fun h0 => ?_) (fun h0 => ?_)
  · refine sg (mv rfl (asn rfl (nP (ret (pR (done rfl (.tmp rfl .nil) (retE ?_)))))))
    rw [← hz]
    unfold numB
    cases hf : Gx.findV eqs s m with
    | none => rw [hf] at h0; cases h0
    | some i => rfl
  · refine skip (pN (sg (co (Ev.assign (.c (v := I (-1)) rfl)) ?_)))
    refine nP (ret (done rfl (.tmp rfl .nil) (retE ?_)))
    rw [← hz]
    unfold numB
    cases hf : Gx.findV eqs s m with
    | none => rfl
    | some i => rw [hf] at h0; cases h0
theorem dout_ok (o : Int) (u : Value) (w : World) : Calls Tryz.prog 179 #[I o, u] w (RetV w (.tuple #[I 3, I o])) := by
  refine en0 7 Tryz.func179 ?_
  refine sg (co (Ev.assign (.c (v := I 0) rfl)) ?_)
  refine co (Ev.assign (.c (v := I 0) rfl)) ?_
  refine nP (sg (mv rfl (co (Ev.assign (.c (v := I 3) rfl)) ?_)))
  refine asn rfl (nP (ret (done rfl (.tmp rfl (.tmp rfl .nil)) (retE ?_))))
  rfl
theorem dnot_ok (o : Int) (u : Value) (w : World) : Calls Tryz.prog 185 #[I o, u] w (RetV w (.tuple #[I o, I (-1)])) := by
  refine en0 7 Tryz.func185 ?_
  refine sg (co (Ev.assign (.c (v := I 0) rfl)) ?_)
  refine co (Ev.assign (.c (v := I 0) rfl)) ?_
  refine nP (sg (mv rfl (asn rfl (co (Ev.assign (.c (v := I (-1)) rfl)) ?_))))
  refine nP (ret (done rfl (.tmp rfl (.tmp rfl .nil)) (retE ?_)))
  rfl
theorem tfind_to (t : Tt) (a : SAddr) (w : World) (z : SPrefix × Int × Bool) (hz : Tri.findT t a = z) (ht : t.At w) (ho : t.OK) : Calls Tryz.prog 181 #[t.ptr.v, eAddr.val a] w (RetV w (.tuple #[ePrefix.val z.1, I z.2.1, .bool z.2.2])) := by
  subst hz
  exact Tri.find_ok t a w ht ho
theorem en181 : Gx.Enters Tryz.prog 181 := Gx.Enters.mk' (by kernel_rfl)
theorem drouted_ok (t : Tt) (hb : Nat) (h : SHeader) (z : SPrefix × Int × Bool) (w : World) (hz : Tri.findT t h.dst = z) (hh : PtsTo eHeader w hb 0 h) (ht : t.At w) (ho : t.OK) : Calls Tryz.prog 180 #[ePlanRouted.val ⟨t.ptr⟩, .pointer (some ⟨hb, 0, none⟩)] w (RetV w (.tuple #[I (if z.2.2 = true then 3 else 4), I (if z.2.2 = true then z.2.1 else -1)])) := by
  refine en0 22 Tryz.func180 ?_
  refine sg (cons (box (E := ePlanRouted) (.t rfl) (fun b1 => ?_)))
  refine co (Ev.assign (.c (v := I 0) rfl)) ?_
  refine co (Ev.assign (.c (v := I 0) rfl)) ?_
  refine nP (seq (seq (draw' (by kernel_rfl) ?_)))
  refine tk 0 rfl (fA 0 (.t rfl)) ?_
  refine tk 1 rfl (Ev.ldv ty122 (.t rfl) SPlanRouted.l_routes) ?_
  refine tk 2 rfl (Ev.move (.t rfl)) ?_
  refine tk 3 rfl (Ev.nilCheck (.t rfl)) ?_
  refine tk 4 rfl (fA 17 (.t rfl)) ?_
  refine tk 5 rfl (Ev.load ty45 (.t rfl) (ptsL (fun w I => hh.keep I.keeps) SHeader.l_dst)) ?_
  refine all [6, 11] (by kernel_rfl) (by decide) (.cons rfl ?_ (.cons rfl ?_ .nil))
  · refine (callv en181 (.cons (.t rfl) (.cons (.t rfl) .nil)) (fun w I => tfind_to t h.dst w z hz (ht.keep I.keeps) ho) ?_)
    refine hdn (tk 7 rfl (Ev.move (.t rfl)) ?_)
    refine tk 8 rfl (Ev.extract (.t rfl) rfl) ?_
    refine tk 9 rfl (Ev.extract (.t rfl) rfl) ?_
    refine tk 10 rfl (Ev.extract (.t rfl) rfl) ?_
    refine al1 11 rfl ((alloc z109 (fun b2 => ?_)))
    refine hdn (al1 12 rfl ((stv ty109 (Lens.id _) (.t rfl) (.t rfl) ?_)))
    refine hdn (tk 13 rfl (Ev.assign (.t rfl)) ?_)
    refine tk 14 rfl (Ev.assign (.t rfl)) ?_
    refine ovr (pN (sg (mv rfl (nP ?_))))
    first | refine condD rfl (fun h0 => ?_) (fun h0 => ?_) | refine cond rfl (fun h0 => ?_) (fun h0 => ?_)
    · refine sg (mv rfl (co (Ev.assign (.c (v := I 3) rfl)) ?_))
      refine asn rfl (nP (ret (pR (done rfl (.tmp rfl (.tmp rfl .nil)) (retE ?_)))))
      rw [if_pos h0, if_pos h0]; rfl
    · refine skip (pN (sg (co (Ev.assign (.c (v := I 4) rfl)) ?_)))
      refine co (Ev.assign (.c (v := I (-1)) rfl)) ?_
      refine nP (ret (done rfl (.tmp rfl (.tmp rfl .nil)) (retE ?_)))
      have e : ¬ z.2.2 = true := by rw [h0]; exact Bool.false_ne_true
      rw [if_neg e, if_neg e]; rfl
  · refine (alloc z109 (fun b3 => ?_))
    refine hdn (al1 6 rfl ((callv en181 (.cons (.t rfl) (.cons (.t rfl) .nil)) (fun w I => tfind_to t h.dst w z hz (ht.keep I.keeps) ho) ?_)))
    refine hdn (tk 7 rfl (Ev.move (.t rfl)) ?_)
    refine tk 8 rfl (Ev.extract (.t rfl) rfl) ?_
    refine tk 9 rfl (Ev.extract (.t rfl) rfl) ?_
    refine tk 10 rfl (Ev.extract (.t rfl) rfl) ?_
    refine al1 12 rfl ((stv ty109 (Lens.id _) (.t rfl) (.t rfl) ?_))
    refine hdn (tk 13 rfl (Ev.assign (.t rfl)) ?_)
    refine tk 14 rfl (Ev.assign (.t rfl)) ?_
    refine ovr (pN (sg (mv rfl (nP ?_))))
    first | refine condD rfl (fun h0 => ?_) (fun h0 => ?_) | refine cond rfl (fun h0 => ?_) (fun h0 => ?_)
    · refine sg (mv rfl (co (Ev.assign (.c (v := I 3) rfl)) ?_))
      refine asn rfl (nP (ret (pR (done rfl (.tmp rfl (.tmp rfl .nil)) (retE ?_)))))
      rw [if_pos h0, if_pos h0]; rfl
    · refine skip (pN (sg (co (Ev.assign (.c (v := I 4) rfl)) ?_)))
      refine co (Ev.assign (.c (v := I (-1)) rfl)) ?_
      refine nP (ret (done rfl (.tmp rfl (.tmp rfl .nil)) (retE ?_)))
      have e : ¬ z.2.2 = true := by rw [h0]; exact Bool.false_ne_true
      rw [if_neg e, if_neg e]; rfl
theorem decide_if (t : Tt) (l : CL) (a o : Int) (hb : Nat) (h : SHeader) (w : World) (hh : PtsTo eHeader w hb 0 h) (ht : t.At w) (ho : t.OK) (hr : (Tri.findT t h.dst).2 = routeV l.rs h.dst) : IfAt Tryz.prog (decO t.ptr a o) "patchbay/plan.decide" [.pointer (some ⟨hb, 0, none⟩)] w (.tuple #[I (actO l.rs a o h.dst).1, I (actO l.rs a o h.dst).2]) := by
  unfold decO actO
  split
  · exact ⟨_, _, _, 179, rfl, MethAt.val (by kernel_rfl) Tryz.underlying179 rfl (by decide +kernel), Gx.Enters.mk' (by kernel_rfl), dout_ok o _ w⟩
  · split
    · have hc := drouted_ok t hb h _ w rfl hh ht ho
      rw [hr] at hc
      refine ⟨_, _, _, 180, rfl, MethAt.val (by kernel_rfl) Tryz.underlying181 rfl (by decide +kernel), Gx.Enters.mk' (by kernel_rfl), ?_⟩
      cases hb2 : (routeV l.rs h.dst).2 with
      | true => rw [hb2] at hc; exact hc
      | false => rw [hb2] at hc; exact hc
    · exact ⟨_, _, _, 185, rfl, MethAt.val (by kernel_rfl) Tryz.underlying182 rfl (by decide +kernel), Gx.Enters.mk' (by kernel_rfl), dnot_ok a _ w⟩
end Go.Proofs.YtakmoeladkajdaaGreat
