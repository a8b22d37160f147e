/- trie -/
import Derived.Test.YtjjlofjpdklbgaaT8
set_option linter.unusedVariables false
set_option linter.unusedSimpArgs false
namespace Go.Proofs.Ytjjlofjpdklbgaa
open Go Go.Gx

def isP (p : SPrefix) (x : PT) : Bool := decide (x.key.1 = p) && x.key.2.2
theorem getN {p : SPrefix} : ∀ {xs : List PT} {s t : Int × Bool}, RunsN (fun x s s' => isP p x = false ∧ s' = s) xs s t → t = s ∧ xs.find? (isP p) = none
  | [], s, t, h => ⟨h, rfl⟩
  | x :: xs, s, t, ⟨q, ⟨h1, h2⟩, h⟩ => by
    subst h2
    obtain ⟨e1, e2⟩ := getN h
    exact ⟨e1, by rw [List.find?_cons, h1]; exact e2⟩
theorem getX {p : SPrefix} {c : Code} : ∀ {xs : List PT} {s t : Int × Bool}, RunsX (fun x s s' => isP p x = false ∧ s' = s) (fun x s c s' => c = .ret ∧ isP p x = true ∧ s' = (x.key.2.1, true)) c xs s t → c = .ret ∧ ∃ x, xs.find? (isP p) = some x ∧ t = (x.key.2.1, true)
  | [], s, t, h => h.elim
  | x :: xs, s, t, .inl ⟨h1, h2, h3⟩ => ⟨h1, x, by rw [List.find?_cons, h2], h3⟩
  | x :: xs, s, t, .inr ⟨q, ⟨h1, h2⟩, h⟩ => by
    obtain ⟨e1, y, e2, e3⟩ := getX h
    exact ⟨e1, y, by rw [List.find?_cons, h1]; exact e2, e3⟩
/-- What Get answers. -/
def Tt.get (t : Tt) (p : SPrefix) : Option Int := (PT.kid p.addr.v6 t.l t.r).tr.get coversP ltP bitP p
def getV (t : Tt) (p : SPrefix) : Int × Bool := if checkP p = 0 then (match t.get p with | some v => (v, true) | none => (0, false)) else (0, false)
theorem get_way (t : Tt) (p : SPrefix) : t.get p = ((PT.way p (PT.kid p.addr.v6 t.l t.r)).find? (isP p)).map (fun x => x.key.2.1) := by
  unfold Tt.get Tr.get
  rw [← PT.way_map, List.find?_map, Option.map_map]
  rfl
theorem Tt.OK.get_iff {t : Tt} (h : t.OK) {p : SPrefix} (hp : checkP p = 0) (v : Int) : t.get p = some v ↔ (p, v) ∈ t.ents := by
  unfold Tt.get
  rw [(keyLaw p.addr.v6).get_spec (covLaw p.addr.v6) ⟨hp, rfl⟩ (h.kid _), h.mem_k]
  exact ⟨fun g => g.1, fun g => ⟨g, rfl⟩⟩
theorem getV_iff {t : Tt} (h : t.OK) (p : SPrefix) (v : Int) : (getV t p).2 = true ∧ (getV t p).1 = v ↔ (p, v) ∈ t.ents := by
  unfold getV
  by_cases hp : checkP p = 0
  · rw [if_pos hp, ← h.get_iff hp]
    cases t.get p with
    | none => simp
    | some u => simp
  · rw [if_neg hp]
    exact ⟨fun g => (by cases g.1), fun g => absurd (h.valid g) hp⟩

theorem z3 : (Try.prog.info? 3).bind (·.zero) = some (iE.val iE.zero) := by kernel_rfl

theorem z4 : (Try.prog.info? 4).bind (·.zero) = some (bE.val bE.zero) := by kernel_rfl

theorem en39 : Gx.Enters Try.prog 39 := Gx.Enters.mk' (by kernel_rfl)

theorem get_ok (t : Tt) (p : SPrefix) (w : World) (ht : t.At w) (ho : t.OK) : Calls Try.prog 13 #[t.ptr.v, ePrefix.val p] w (RetV w (.tuple #[I (getV t p).1, .bool (getV t p).2])) := by
  refine enterM0 35 Try.func13 rfl rfl (Nat.le_of_ble_eq_true rfl) ?_
  refine seq (region (cons (box (E := ePrefix) (.t rfl) (fun b1 => ?_))))
  refine cons (alloc z3 (fun b2 => ?_))
  refine cons (alloc z4 (fun b3 => ?_))
  refine nil (pN (seq (seq (region (cons (opv (Ev.move (.t rfl)) (cons (callv en33 (.cons (.t rfl) .nil) (fun w I => there_ok t w (ht.1.keep I.keeps)) ?_))))))))
  refine cons (opv (Ev.not (.t rfl)) ?_)
  refine cons (opv (Ev.move (.t rfl)) (cons (opg rfl rfl (Ev.ldx p ty36 (.t rfl) (Lens.id _)) ?_)))
  refine cons (callg rfl rfl en10 (.cons (.g rfl id) .nil) (fun hg w I => checkP_ok _ w) ?_)
  refine cons (opg rfl rfl (Ev.neq_i (.g rfl id) (.c (v := I 0) rfl)) ?_)
  refine cons (opv (Ev.pickO (.t rfl) (.c (v := .bool true) rfl) (fun {_} h => by cases h; rfl) ⟨_, rfl⟩ (by intro h1 h; first | (rw [h] <;> rfl) | (rw [h1, h] <;> rfl) | (rw [h, h1] <;> rfl) | simp_all)) ?_)
  refine nil (pN ?_)
  first | refine condD rfl (fun h0 => ?_) (fun h0 => ?_) | refine cond rfl (fun h0 => ?_) (fun h0 => ?_)
  · refine seq (region (cons (stv ty3 (Lens.id _) (.t rfl) (.c (v := I 0) rfl) ?_)))
    refine cons (stv ty4 (Lens.id _) (.t rfl) (.c (v := .bool false) rfl) ?_)
    refine nil (pN (ret (pR (doneM (by repeat first | exact Rem.head | apply Rem.tail) rfl rfl (.cell rfl (fun w I => run_loadVar_pts ty3 (ptsVar (by repeat first | exact mH | apply mT | apply mA) (Lens.id _) w I)) (.cell rfl (fun w I => run_loadVar_pts ty4 (ptsVar (by repeat first | exact mH | apply mT | apply mA) (Lens.id _) w I)) .nil)) (retE ?_)))))
    have hc : checkP p ≠ 0 := by
      have h9 : (!t.made) = true ∨ checkP p ≠ 0 := by simpa using h0
      rw [ho.made] at h9
      rcases h9 with h9 | h9
      · cases h9
      · exact h9
    unfold getV; rw [if_neg hc]; rfl
  · have hck : checkP p = 0 := by
      have h9 : (!t.made) = false ∧ checkP p = 0 := by simpa using h0
      exact h9.2
    refine skip (pN (seq (seq (region (cons (opv (Ev.move (.t rfl)) (cons (opv (Ev.ldx p ty36 (.t rfl) (Lens.id _)) ?_))))))))
    refine cons (calln (X := Nat × Nat) (fun _ => True) (fun x => (bnd 59 [] [.pointer (some ⟨x.1, 0, none⟩), .pointer (some ⟨x.2, 0, none⟩)]).v) (fun x => [Var x.2 ePrefix p 36, Var x.1 (ovE nilPtr) t.ptr 24]) en39 (.cons (.t rfl) (.cons (.t rfl) .nil)) (fun w I => down_ok t p w) (fun x1 _ => ?_))
    refine nil (pN (block (sepIn (r := Var b2 iE 0 3) (s := Var b3 bE false 4) (by repeat first | exact Rem.head | apply Rem.tail) (by repeat first | exact Rem.head | apply Rem.tail) ?_)))
    refine rangeF (ζ := Unit) (m := []) (ps := [18]) encN (fun s : Int × Bool => Sep (Var b2 iE s.1 3) (Var b3 bE s.2 4)) ((0, false) : Int × Bool) (PT.way p (PT.kid p.addr.v6 t.l t.r)) (fun x s s' => isP p x = false ∧ s' = s) (fun x s c s' => c = .ret ∧ isP p x = true ∧ s' = (x.key.2.1, true)) (fun x z => [dz, (3, true, .pointer (some ⟨b1, 0, none⟩)), (4, true, .pointer (some ⟨b2, 0, none⟩)), (5, true, .pointer (some ⟨b3, 0, none⟩)), (6, true, x.ptr.v)]) (fun x z => ([] : List Res)) (fun _ => True) trivial (fun _ _ _ _ _ => trivial) (by repeat first | exact Rem.head | apply Rem.tail) (by repeat first | exact Rem.head | apply Rem.tail) rfl (.t rfl) ⟨59, [], [.pointer (some ⟨x1.1, 0, none⟩), .pointer (some ⟨x1.2, 0, none⟩)], rfl⟩ (fun _ => rfl) rfl (fun w I hb => down_iter t p hck x1.1 x1.2 w _ (fun w1 k => ⟨ht.keep (hb w1 k).keeps, ptsVar (E' := ovE nilPtr) (by repeat first | exact mH | apply mT | apply mA) (Lens.id _) w1 (hb w1 k), ptsVar (E' := ePrefix) (by repeat first | exact mH | apply mT | apply mA) (Lens.id _) w1 (hb w1 k)⟩)) (fun l x w => ?_) (fun l x s zv n0 w hx hn0 hinv hft hb => ?_) (fun s D hr => ?_) (fun c s D hr => ?_)
    · refine regionI (consT (opv (Ev.assign (.t rfl)) (nilI (gd () (by repeat first | exact Sub.nil | refine Sub.cons rfl ?_) (by repeat first | exact sR | exact sN | apply sC | apply sS | apply sA)))))
    · obtain ⟨b, q, u, h, l, r, rfl⟩ := PT.way_node hx
      refine sepOut Rem.head ?_
      refine blockI (seqI (drawI' (by kernel_rfl) ?_))
      refine tkI 0 rfl (Ev.move (.t rfl)) ?_
      refine tkI 1 rfl (Ev.nilCheck (.t rfl)) ?_
      refine tkI 2 rfl (Ev.fieldAddr (o := 0) (.t rfl) (by kernel_rfl)) ?_
      refine tkI 3 rfl (Ev.load ty36 (.t rfl) (ptsL (fun w I => (PT.way_at ((ht.keep (hb w I.keeps).keeps).kid p.addr.v6) hx).1) STrieNode.l_p)) ?_
      refine tkI 4 rfl (Ev.load ty36 (.t rfl) (fun w I => ptsVar (by repeat first | exact mH | apply mT | apply mA) (Lens.id _) w (hb w I.keeps))) ?_
      refine tkI 5 rfl (Ev.eqlS rfl eqok36 rfl (by kernel_rfl) (.t rfl) (.t rfl)) ?_
      refine tkI 6 rfl (Ev.move (.t rfl)) ?_
      refine tkgI 7 rfl rfl rfl (Ev.move (.t rfl)) ?_
      refine tkgI 8 rfl rfl rfl (Ev.nilCheck (.g rfl id)) ?_
      refine tkgI 9 rfl rfl rfl (Ev.fieldAddr (o := 19) (.g rfl id) (by kernel_rfl)) ?_
      refine tkgI 10 rfl rfl rfl (Ev.load ty4 (.g rfl id) (ptsL (fun w I => (PT.way_at ((ht.keep (hb w I.keeps).keeps).kid p.addr.v6) hx).1) STrieNode.l_has)) ?_
      refine tkI 11 rfl (Ev.pickA (.t rfl) (fun {_} h => by cases h; rfl) ⟨_, rfl⟩ (by intro h1 h; first | (rw [h] <;> rfl) | (rw [h1, h] <;> rfl) | (rw [h, h1] <;> rfl) | simp_all) (.c (v := .bool false) rfl)) ?_
      refine ovrI (pN ?_)
      first | refine iteDI rfl (fun h1 => ?_) (fun h1 => ?_) | refine iteI rfl (fun h1 => ?_) (fun h1 => ?_)
      · refine seqI (regionI (consT (opv (Ev.move (.t rfl)) (consT (opv (Ev.nilCheck (.t rfl)) ?_)))))
        refine consT (opv (Ev.fieldAddr (o := 18) (.t rfl) (by kernel_rfl)) ?_)
        refine consT (opv (Ev.load ty3 (.t rfl) (ptsL (fun w I => (PT.way_at ((ht.keep (hb w I.keeps).keeps).kid p.addr.v6) hx).1) STrieNode.l_v)) ?_)
        refine consT (stv ty3 (Lens.id _) (.t rfl) (.t rfl) ?_)
        refine consT (stv ty4 (Lens.id _) (.t rfl) (.c (v := .bool true) rfl) ?_)
        refine nilI (pN (retI (bR ?_)))
        have hk : isP p (PT.node b q u h l r) = true := by
          unfold isP PT.key
          have h9 : (SPrefix.eqb q p && h) = true := h1
          rw [SPrefix.eqb_dec] at h9
          exact h9
        refine sepIn (r := Var b2 iE u 3) (s := Var b3 bE true 4) (by repeat first | exact Rem.head | apply Rem.tail) (by repeat first | exact Rem.head | apply Rem.tail) ?_
        exact rdR hn0 ((u, true) : Int × Bool) ⟨rfl, hk, rfl⟩ mH
      · refine skipI (bN ?_)
        have hk : isP p (PT.node b q u h l r) = false := by
          unfold isP PT.key
          have h9 : (SPrefix.eqb q p && h) = false := h1
          rw [SPrefix.eqb_dec] at h9
          exact h9
        refine sepIn (r := Var b2 iE s.1 3) (s := Var b3 bE s.2 4) (by repeat first | exact Rem.head | apply Rem.tail) (by repeat first | exact Rem.head | apply Rem.tail) ?_
        exact rdN hn0 s ⟨hk, rfl⟩ mH
    · obtain ⟨rfl, hfd⟩ := getN hr
      refine sepOut Rem.head ?_
      refine bN (pN (seq (region (cons (stv ty3 (Lens.id _) (.t rfl) (.c (v := I 0) rfl) ?_)))))
      refine cons (stv ty4 (Lens.id _) (.t rfl) (.c (v := .bool false) rfl) ?_)
      refine nil (pN (ret (doneM (by repeat first | exact Rem.head | apply Rem.tail) rfl rfl (.cell rfl (fun w I => run_loadVar_pts ty3 (ptsVar (by repeat first | exact mH | apply mT | apply mA) (Lens.id _) w I)) (.cell rfl (fun w I => run_loadVar_pts ty4 (ptsVar (by repeat first | exact mH | apply mT | apply mA) (Lens.id _) w I)) .nil)) (retE ?_))))
      have hg : getV t p = (0, false) := by unfold getV; rw [if_pos hck, get_way, hfd]; rfl
      rw [hg]; rfl
    · obtain ⟨rfl, y, hfd, rfl⟩ := getX hr
      refine sepOut Rem.head ?_
      refine ret (bR (pR (doneM (by repeat first | exact Rem.head | apply Rem.tail) rfl rfl (.cell rfl (fun w I => run_loadVar_pts ty3 (ptsVar (by repeat first | exact mH | apply mT | apply mA) (Lens.id _) w I)) (.cell rfl (fun w I => run_loadVar_pts ty4 (ptsVar (by repeat first | exact mH | apply mT | apply mA) (Lens.id _) w I)) .nil)) (retE ?_))))
      have hg : getV t p = (y.key.2.1, true) := by unfold getV; rw [if_pos hck, get_way, hfd]; rfl
      rw [hg]; rfl
end Go.Proofs.Ytjjlofjpdklbgaa
