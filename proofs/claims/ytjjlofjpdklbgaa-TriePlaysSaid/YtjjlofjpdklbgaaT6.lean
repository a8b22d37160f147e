/- trie -/
import Derived.Test.YtjjlofjpdklbgaaT5
set_option linter.unusedVariables false
set_option linter.unusedSimpArgs false
namespace Go.Proofs.Ytjjlofjpdklbgaa
open Go Go.Gx

def KL (b : Bool) (l n : PT) : PT := bif b then l else n
def KR (b : Bool) (n r : PT) : PT := bif b then n else r
theorem kids_set (b : Bool) (l r n : PT) (h : (bI b).toNat < 2) : (kids l r).set (bI b).toNat n.ptr h = kids (KL b l n) (KR b n r) := by cases b <;> rfl
theorem KLR_at {w : World} {l r n : PT} (hl : l.At w) (hr : r.At w) (hn : n.At w) (b : Bool) : (KL b l n).At w ∧ (KR b n r).At w := by cases b <;> exact ⟨by assumption, by assumption⟩
theorem PT.At.of_kid {w : World} {l r : PT} {b : Bool} {x : PT} (hx : (PT.kid b l r).At w → x.At w) (hl : l.At w) (hr : r.At w) : x.At w := hx (PT.At.kid hl hr b)
abbrev cutT (p : SPrefix) (t : Tr SPrefix) : Tr SPrefix := t.cut bitP p
theorem kid_has {k : Bool} {p q : SPrefix} {u : Int} {h : Bool} {l r : PT} {c : List Bool} (hw : (PT.node 0 q u h l r).tr.WF (okP k) pb c) (hp : okP k p) (hne : q ≠ p) (hex : ∃ x ∈ (Tr.node q u h l.tr r.tr).ents, x.1 = p) : ∃ x ∈ (PT.kid (bitP q p) l r).tr.ents, x.1 = p := by
  obtain ⟨x, hx, hxp⟩ := hex
  obtain ⟨hq, h2, h3, h4, h5⟩ := hw
  simp only [Tr.ents, List.mem_append] at hx
  rcases hx with hx | hx | hx
  · split at hx
    · simp only [List.mem_singleton] at hx
      rw [hx] at hxp
      exact absurd hxp hne
    · simp at hx
  · have e2 := (h3.ents_in x hx).2
    rw [hxp] at e2
    have hb : bitP q p = false := by rw [(keyLaw k).bit q p hq hp (pre_snoc e2) (snoc_ne e2)]; exact nb_of e2
    rw [hb]
    exact ⟨x, hx, hxp⟩
  · have e2 := (h4.ents_in x hx).2
    rw [hxp] at e2
    have hb : bitP q p = true := by rw [(keyLaw k).bit q p hq hp (pre_snoc e2) (snoc_ne e2)]; exact nb_of e2
    rw [hb]
    exact ⟨x, hx, hxp⟩

theorem en61 : Gx.Enters Try.prog 61 := Gx.Enters.mk' (by kernel_rfl)

theorem en42 : Gx.Enters Try.prog 42 := Gx.Enters.mk' (by kernel_rfl)

theorem cut_node (k : Bool) (p : SPrefix) (hp : okP k p) (b : Nat) (q : SPrefix) (u : Int) (h : Bool) (l r : PT) (c : List Bool) (w : World) (hat : (PT.node b q u h l r).At w) (hw : (PT.node b q u h l r).tr.WF (okP k) pb c) (hex : ∃ x ∈ (Tr.node q u h l.tr r.tr).ents, x.1 = p) (ih : ∀ bb c' w', (PT.kid bb l r).At w' → (PT.kid bb l r).tr.WF (okP k) pb c' → (∃ x ∈ (PT.kid bb l r).tr.ents, x.1 = p) → Calls Try.prog 42 #[(PT.kid bb l r).ptr.v, ePrefix.val p] w' (RetN w' (PutJ (PT.kid bb l r) (cutT p (PT.kid bb l r).tr)) (fun x => x.1.ptr.v) (fun x => x.2))) : Calls Try.prog 42 #[.pointer (some ⟨b, 0, none⟩), ePrefix.val p] w (RetN w (PutJ (PT.node b q u h l r) (cutT p (.node q u h l.tr r.tr))) (fun x => x.1.ptr.v) (fun x => x.2)) := by
  have hq : okP k q := hw.1
  refine enter0 39 Try.func42 rfl rfl (Nat.le_of_ble_eq_true rfl) ?_
  refine seq (region (cons (box (E := ePrefix) (.t rfl) (fun b1 => ?_))))
  refine cons (opv (Ev.assign (.c (v := (Go.Value.pointer none)) rfl)) ?_)
  refine nil (pN (seq (region (cons (opv (Ev.move (.t rfl)) (cons (opv (Ev.nilCheck (.t rfl)) ?_)))))))
  refine cons (opv (Ev.load ty91 (.t rfl) (ptsL (fun w I => (hat.1).keep I.keeps) (Lens.id _))) ?_)
  refine cons (alloc z91 (fun b2 => ?_))
  refine cons (stv ty91 (Lens.id _) (.t rfl) (.t rfl) ?_)
  refine nil (pN (seq (seq (draw' (by kernel_rfl) ?_))))
  refine tk 0 rfl (Ev.move (.t rfl)) ?_
  refine tk 1 rfl (Ev.nilCheck (.t rfl)) ?_
  refine tk 2 rfl (Ev.fieldAddr (o := 0) (.t rfl) (by kernel_rfl)) ?_
  refine tk 3 rfl (Ev.load ty36 (.t rfl) (ptsL (fun w I => (hat.1).keep I.keeps) STrieNode.l_p)) ?_
  refine tk 4 rfl (Ev.ldx p ty36 (.t rfl) (Lens.id _)) ?_
  refine tk 5 rfl (Ev.eqlS rfl eqok36 rfl (by kernel_rfl) (.t rfl) (.t rfl)) ?_
  refine ovr (pN ?_)
  first | refine condD rfl (fun h0 => ?_) (fun h0 => ?_) | refine cond rfl (fun h0 => ?_) (fun h0 => ?_)
  · have hqp : q = p := (SPrefix.eqb_iff _ _).1 h0
    refine seq (region (cons (opv (Ev.fieldAddr (o := 18) (.t rfl) (by kernel_rfl)) ?_)))
    refine cons (stv ty3 STrieNode.l_v (.t rfl) (.c (v := I 0) rfl) ?_)
    refine cons (opv (Ev.fieldAddr (o := 19) (.t rfl) (by kernel_rfl)) ?_)
    refine cons (stv ty4 STrieNode.l_has (.t rfl) (.c (v := .bool false) rfl) ?_)
    refine nil (pN (seq (region (cons (callv en61 (.cons (.t rfl) .nil) (fun w I => bare_ok _ q 0 false l r w (ptsVar (E' := eTrieNode) (by repeat first | exact mH | apply mT | apply mA) (Lens.id _) w I)) ?_)))))
    refine cons (opv (Ev.assign (.t rfl)) (nil (pN (ret (pR (done rfl (.tmp rfl .nil) (fun w I => ?_)))))))
    exact retNP (PT.bare (PT.node b2 q 0 false l r), [Var b2 eTrieNode (⟨q, 0, false, kids l r⟩ : STrieNode) 91]) ⟨by rw [PT.tr_bare]; show _ = Tr.cut _ _ _; rw [Tr.cut, if_pos hqp]; rfl, fun w1 ho hh => PT.At.bare (t := (PT.node b2 q 0 false l r)) ⟨pts_mem (T := 91) hh (by simp), ho.2.1, ho.2.2⟩⟩ rfl (by repeat first | exact SubP.nil | refine SubP.cons (by repeat first | exact Rem.head | apply Rem.tail) ?_) w I
  · have hqp : q ≠ p := eqb_no h0
    obtain ⟨bb, hbb⟩ : ∃ z, bitP q p = z := ⟨_, rfl⟩
    have hkex := kid_has (k := k) (c := c) hw hp hqp hex
    rw [hbb] at hkex
    have hlt : 0 ≤ q.bits ∧ q.bits < 128 := by
      obtain ⟨y, hy, hyp⟩ := hkex
      have e2 := ((kid_wf hw.2.2.1 hw.2.2.2.1 bb).ents_in y hy).2
      rw [hyp] at e2
      exact snoc_lt hq hp e2
    have hbn := bI_nn bb
    have hbt : (bI bb).toNat < 2 := by omega
    have hks := fun n : PT => kids_set bb l r n hbt
    refine skip (pN (seq (draw' (by kernel_rfl) ?_)))
    refine tk 0 rfl (Ev.fieldAddr (o := 0) (.t rfl) (by kernel_rfl)) ?_
    refine tk 1 rfl (Ev.ldx p.addr ty31 (.t rfl) SPrefix.l_addr) ?_
    refine tk 2 rfl (Ev.move (.t rfl)) ?_
    refine tk 3 rfl (Ev.nilCheck (.t rfl)) ?_
    refine tk 4 rfl (Ev.fieldAddr (o := 0) (.t rfl) (by kernel_rfl)) ?_
    refine tk 5 rfl (Ev.fieldAddr (o := 17) (.t rfl) (by kernel_rfl)) ?_
    refine tk 6 rfl (Ev.load ty3 (.t rfl) (ptsL (fun w I => (hat.1).keep I.keeps) (Lens.comp STrieNode.l_p SPrefix.l_bits))) ?_
    refine al1 7 rfl ((callv en58 (.cons (.t rfl) (.cons (.t rfl) .nil)) (fun w I => bit_g _ _ w hlt bb hbb) ?_))
    refine hdn (tk 8 rfl (Ev.assign (.t rfl)) ?_)
    refine ovr (pN (seq (drawS 5 rfl (by repeat first | exact Rem.head | apply Rem.tail) (by kernel_rfl) ?_)))
    refine tk 0 rfl (Ev.move (.t rfl)) ?_
    refine tk 1 rfl (Ev.move (.t rfl)) ?_
    refine tk 2 rfl (Ev.move (.t rfl)) ?_
    refine tk 3 rfl (Ev.nilCheck (.t rfl)) ?_
    refine tk 4 rfl (Ev.fieldAddr (o := 20) (.t rfl) (by kernel_rfl)) ?_
    refine tk 5 rfl (Ev.indexAddrA Try.underlying58 ty57 (.t rfl) (.t rfl) (fun _ => by omega)) ?_
    refine tk 6 rfl (Ev.to (v' := (PT.kid bb l r).ptr.v) (Ev.load ty57 (.t rfl) (ptsL (fun w I => (hat.1).keep I.keeps) (Lens.comp STrieNode.l_kids (lArr (n := 2) (ovE nilPtr) _ (by omega))))) (congrArg OV.v (kids_at l r bb hbt))) ?_
    refine tk 7 rfl (Ev.ldx p ty36 (.t rfl) (Lens.id _)) ?_
    refine tk 9 rfl (Ev.fieldAddr (o := 20) (.t rfl) (by kernel_rfl)) ?_
    refine al1 8 rfl ((calln (X := PT × List Res) (PutJ (PT.kid bb l r) (cutT p (PT.kid bb l r).tr)) (fun x => x.1.ptr.v) (fun x => x.2) en42 (.cons (.t rfl) (.cons (.t rfl) .nil)) (fun w I => ih bb _ w (PT.At.kid (hat.2.1.keep I.keeps) (hat.2.2.keep I.keeps) bb) (kid_wf hw.2.2.1 hw.2.2.2.1 bb) hkex) (fun x1 hx1 => ?_)))
    refine hdn (tk 10 rfl (Ev.indexAddrA Try.underlying58 ty57 (.t rfl) (.t rfl) (fun _ => by omega)) ?_)
    refine al1 11 rfl ((stv ty57 (Lens.comp STrieNode.l_kids (lArr (n := 2) (ovE nilPtr) _ (by omega))) (.t rfl) (.t rfl) ?_))
    refine hdn (ovr (pN (seq (region (cons (callv en61 (.cons (.t rfl) .nil) (fun w I => bare_ok _ q u h (KL bb l x1.1) (KR bb x1.1 r) w (by rw [← hks]; exact ptsVar (E' := eTrieNode) (by repeat first | exact mH | apply mT | apply mA) (Lens.id _) w I)) ?_))))))
    refine cons (opv (Ev.assign (.t rfl)) (nil (pN (ret (done rfl (.tmp rfl .nil) (fun w I => ?_))))))
    have ec : cutT p (.node q u h l.tr r.tr) = (PT.bare (PT.node b2 q u h (KL bb l x1.1) (KR bb x1.1 r))).tr := by
      rw [PT.tr_bare]
      show Tr.cut _ _ _ = _
      rw [Tr.cut, if_neg hqp]
      have e9 := hx1.1
      cases bb with
      | true => rw [if_pos hbb]; exact (congrArg (fun z => (Tr.node q u h l.tr z).bare) e9).symm
      | false => rw [if_neg (by rw [hbb]; exact Bool.false_ne_true)]; exact (congrArg (fun z => (Tr.node q u h z r.tr).bare) e9).symm
    refine retNP (PT.bare (PT.node b2 q u h (KL bb l x1.1) (KR bb x1.1 r)), Var b2 eTrieNode (⟨q, u, h, kids (KL bb l x1.1) (KR bb x1.1 r)⟩ : STrieNode) 91 :: x1.2) ⟨ec.symm, fun w1 ho hh => PT.At.bare (t := (PT.node b2 q u h (KL bb l x1.1) (KR bb x1.1 r))) ⟨pts_mem (T := 91) hh List.mem_cons_self, KLR_at ho.2.1 ho.2.2 (hx1.2 w1 (PT.At.kid ho.2.1 ho.2.2 bb) (fun q hq => hh q (List.mem_cons_of_mem _ hq))) bb⟩⟩ rfl ?_ w I
    rw [← hks]
    exact (by repeat first | refine SubP.cons (by repeat first | exact Rem.head | apply Rem.tail | apply Rem.app) ?_ | exact SubP.of (by repeat first | exact sR | apply sS | exact List.sublist_append_left _ _))

theorem cut_ok (k : Bool) (p : SPrefix) (hp : okP k p) : ∀ (t : PT) (c : List Bool) (w : World), t.At w → t.tr.WF (okP k) pb c → (∃ x ∈ t.tr.ents, x.1 = p) → Calls Try.prog 42 #[t.ptr.v, ePrefix.val p] w (RetN w (PutJ t (cutT p t.tr)) (fun x => x.1.ptr.v) (fun x => x.2))
  | .nil, _, w, _, _, h => by obtain ⟨x, hx, _⟩ := h; simp [PT.tr, Tr.ents] at hx
  | .node b q u h l r, c, w, hat, hw, hex => cut_node k p hp b q u h l r c w hat hw hex (fun bb c' w' h1 h2 h3 => by
    cases bb with
    | true => exact cut_ok k p hp r c' w' h1 h2 h3
    | false => exact cut_ok k p hp l c' w' h1 h2 h3)
end Go.Proofs.Ytjjlofjpdklbgaa
