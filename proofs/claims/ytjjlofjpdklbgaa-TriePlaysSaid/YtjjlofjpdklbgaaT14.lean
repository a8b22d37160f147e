/- trie -/
import Derived.Test.YtjjlofjpdklbgaaT13
set_option linter.unusedVariables false
set_option linter.unusedSimpArgs false
namespace Go.Proofs.Ytjjlofjpdklbgaa
open Go Go.Gx

structure SRoute where
  to_ : SPrefix
  out : Int

def SRoute.to : (SPrefix × Int) → SRoute := fun x => ⟨x.1, x.2⟩

def SRoute.of : SRoute → (SPrefix × Int) := fun x => (x.to_, x.out)

def eRoute : Enc SRoute := isoE (prodE ePrefix iE) SRoute.to SRoute.of

def SRoute.l_to_ : Lens eRoute ePrefix 0 := lIso _ SRoute.to SRoute.of (fun _ => rfl) (lFst ePrefix iE)

@[simp] theorem SRoute.get_to_ (x : SRoute) : SRoute.l_to_.get x = x.to_ := rfl

@[simp] theorem SRoute.set_to_ (x : SRoute) (y : SPrefix) : SRoute.l_to_.set x y = { x with to_ := y } := rfl

def SRoute.l_out : Lens eRoute iE 18 := lIso _ SRoute.to SRoute.of (fun _ => rfl) (Lens.comp (lSnd ePrefix iE) (Lens.id iE))

@[simp] theorem SRoute.get_out (x : SRoute) : SRoute.l_out.get x = x.out := rfl

@[simp] theorem SRoute.set_out (x : SRoute) (y : Int) : SRoute.l_out.set x y = { x with out := y } := rfl

def cutE (t : Tt) (p : SPrefix) : Int := if checkP p ≠ 0 then checkP p else if (getV t p).2 = false then 5 else 0
def TcutJ (t : Tt) (p : SPrefix) (x : Tt × List Res) : Prop := cutE t p = 0 → (x.1.OK ∧ (∀ y, y ∈ x.1.ents ↔ (y ∈ t.ents ∧ y.1 ≠ p)) ∧ ∀ w1, t.At w1 → (∀ r ∈ x.2, r.A w1) → x.1.At w1)
theorem put_n {t x : Tt} {p : SPrefix} {v : Int} (ho : t.OK) (hx : x.OK) (h : ∀ y, y ∈ x.ents ↔ (y = (p, v) ∨ (y ∈ t.ents ∧ y.1 ≠ p))) : x.n ≤ t.n + 1 := by
  have h1 := len_new ho.nodup hx.nodup h
  rw [ho.n, hx.n]
  rcases Classical.em (∃ y ∈ t.ents, y.1 = p) with g | g
  · have := h1.2 g
    omega
  · have := h1.1 (fun y hy e => g ⟨y, hy, e⟩)
    omega
/-- What of routes stays, put one after the other. -/
def routesL (l : List SRoute) : SPrefix × Int → Prop := l.foldl (fun Q r y => y = (r.to_, r.out) ∨ (Q y ∧ y.1 ≠ r.to_)) (fun _ => False)
theorem routesL_snoc (l : List SRoute) (r : SRoute) (y : SPrefix × Int) : routesL (l ++ [r]) y ↔ (y = (r.to_, r.out) ∨ (routesL l y ∧ y.1 ≠ r.to_)) := by
  unfold routesL
  rw [List.foldl_append]
  exact Iff.rfl
def ofR (l : List SRoute) : Int := if l.all (fun r => decide (checkP r.to_ = 0)) = true then 0 else 151
theorem checkP_01 (p : SPrefix) : checkP p = 0 ∨ checkP p = 151 := by
  unfold checkP
  split
  · exact .inr rfl
  · exact .inl rfl
def TofJ (l : List SRoute) (x : Tt × List Res) : Prop := ofR l = 0 → (x.1.OK ∧ (∀ y, y ∈ x.1.ents ↔ routesL l y) ∧ x.1.n ≤ l.length ∧ ∀ w1, (∀ r ∈ x.2, r.A w1) → x.1.At w1)
theorem take_snoc' {α : Type} (l : List α) (i : Int) (h0 : 0 ≤ i) (h1 : i < l.length) (z : α) : l.take (i + 1).toNat = l.take i.toNat ++ [l.getD i.toNat z] := by
  have e : (i + 1).toNat = i.toNat + 1 := by omega
  have hl : i.toNat < l.length := by omega
  rw [e, List.take_add_one, List.getElem?_eq_getElem hl]
  simp [List.getD, hl]
theorem key_uniq {l : List (SPrefix × Int)} (h : (l.map (·.1)).Nodup) {a b : SPrefix × Int} (ha : a ∈ l) (hb : b ∈ l) (e : a.1 = b.1) : a = b := by
  induction l with
  | nil => simp at ha
  | cons z l ih =>
    rw [List.map_cons, List.nodup_cons] at h
    rcases List.mem_cons.1 ha with ha | ha <;> rcases List.mem_cons.1 hb with hb | hb
    · rw [ha, hb]
    · exact absurd (List.mem_map.2 ⟨b, hb, by rw [← e, ha]⟩) h.1
    · exact absurd (List.mem_map.2 ⟨a, ha, by rw [e, hb]⟩) h.1
    · exact ih h.2 ha hb
/-- Find's answer, told by the entries. -/
theorem find_spec {t : Tt} (ho : t.OK) (a : SAddr) : (∃ x ∈ t.ents, hasP x.1 a = true ∧ findV t a = (x.1, x.2, true) ∧ ∀ y ∈ t.ents, hasP y.1 a = true → coversP y.1 x.1 = true) ∨ (findV t a = (ePrefix.zero, 0, false) ∧ ∀ y ∈ t.ents, hasP y.1 a = false) := by
  by_cases hc : checkA a = 0
  · have hk := keyLaw a.v6
    have cl := covLaw a.v6
    have hfo := full_ok hc
    cases hb : t.find a with
    | none =>
      refine .inr ⟨by unfold findV; rw [if_pos hc, hb], fun y hy => ?_⟩
      have hn := hk.best_none cl hfo (ho.kid a.v6) hb
      cases hh : hasP y.1 a with
      | false => rfl
      | true =>
        have h2 := (has_full hc).1 hh
        exact absurd h2.2 (hn y ((ho.mem_k _ y).2 ⟨hy, h2.1.2⟩))
    | some x =>
      obtain ⟨h1, h2, h3⟩ := hk.best_some cl hfo (ho.kid a.v6) hb
      have hx := (ho.mem_k _ x).1 h1
      have hox : okP a.v6 x.1 := ((ho.kid a.v6).ents_in x h1).1
      refine .inl ⟨x, hx.1, (has_full hc).2 ⟨hox, h2⟩, by unfold findV; rw [if_pos hc, hb], fun y hy hh => ?_⟩
      have h4 := (has_full hc).1 hh
      exact (covers_iff h4.1 hox).2 (h3 y ((ho.mem_k _ y).2 ⟨hy, h4.1.2⟩) h4.2)
  · refine .inr ⟨by unfold findV; rw [if_neg hc], fun y _ => ?_⟩
    cases hh : hasP y.1 a with
    | false => rfl
    | true => exact absurd ((hasP_iff _ _).1 hh).2.1 hc
theorem found_fold (a : SAddr) : ∀ (xs : List (SPrefix × Int)) (s : SPrefix × Int × Bool), (xs.foldl (fStep a) s = s ∧ ∀ y ∈ xs, hasP y.1 a = true → s.2.2 = true ∧ y.1.bits ≤ s.1.bits) ∨
    (∃ x ∈ xs, hasP x.1 a = true ∧ xs.foldl (fStep a) s = (x.1, x.2, true) ∧ (∀ y ∈ xs, hasP y.1 a = true → y.1.bits ≤ x.1.bits) ∧ (s.2.2 = true → s.1.bits < x.1.bits))
  | [], s => .inl ⟨rfl, fun y hy => by simp at hy⟩
  | x :: xs, s => by
    rw [List.foldl_cons]
    by_cases hs : (hasP x.1 a && (!s.2.2 || decide (s.1.bits < x.1.bits))) = true
    · have e : fStep a s x = (x.1, x.2, true) := by unfold fStep; rw [if_pos hs]
      rw [e]
      simp only [Bool.and_eq_true, Bool.or_eq_true, Bool.not_eq_true', decide_eq_true_eq] at hs
      rcases found_fold a xs (x.1, x.2, true) with ⟨h1, h2⟩ | ⟨z, h1, h2, h3, h4, h5⟩
      · refine .inr ⟨x, List.mem_cons_self, hs.1, h1, fun y hy hh => ?_, fun h => ?_⟩
        · rcases List.mem_cons.1 hy with rfl | hy
          · exact Int.le_refl _
          · exact (h2 y hy hh).2
        · rcases hs.2 with g | g
          · rw [g] at h; cases h
          · exact g
      · refine .inr ⟨z, List.mem_cons_of_mem _ h1, h2, h3, fun y hy hh => ?_, fun h => ?_⟩
        · rcases List.mem_cons.1 hy with rfl | hy
          · exact Int.le_of_lt (h5 rfl)
          · exact h4 y hy hh
        · have := h5 rfl
          simp only at this
          rcases hs.2 with g | g
          · rw [g] at h; cases h
          · omega
    · have e : fStep a s x = s := by unfold fStep; rw [if_neg hs]
      rw [e]
      have hx : hasP x.1 a = true → s.2.2 = true ∧ x.1.bits ≤ s.1.bits := fun hh => by
        rw [hh] at hs
        simp only [Bool.true_and, Bool.or_eq_true, Bool.not_eq_true', decide_eq_true_eq, not_or, Bool.not_eq_false, Int.not_lt] at hs
        exact hs
      rcases found_fold a xs s with ⟨h1, h2⟩ | ⟨z, h1, h2, h3, h4, h5⟩
      · refine .inl ⟨h1, fun y hy hh => ?_⟩
        rcases List.mem_cons.1 hy with rfl | hy
        · exact hx hh
        · exact h2 y hy hh
      · refine .inr ⟨z, List.mem_cons_of_mem _ h1, h2, h3, fun y hy hh => ?_, h5⟩
        rcases List.mem_cons.1 hy with rfl | hy
        · have h6 := hx hh
          have := h5 h6.1
          omega
        · exact h4 y hy hh
theorem find_found {t : Tt} (ho : t.OK) (a : SAddr) : findV t a = foundV a t.ents := by
  unfold foundV
  rcases find_spec ho a with ⟨x, h1, h2, h3, h4⟩ | ⟨h1, h2⟩
  · rcases found_fold a t.ents (ePrefix.zero, 0, false) with ⟨g1, g2⟩ | ⟨z, g1, g2, g3, g4, _⟩
    · have := (g2 x h1 h2).1
      cases this
    · rw [h3, g3]
      have hc := ((hasP_iff _ _).1 h2).2.1
      have ox := ((has_full hc).1 h2).1
      have oz := ((has_full hc).1 g2).1
      have e1 := (covers_iff oz ox).1 (h4 z g1 g2)
      have e2 := g4 x h1 h2
      have n1 := ox.nn
      have n2 := oz.nn
      have e : z.1 = x.1 := pb_inj oz ox (pre_len e1 (by simp; omega))
      rw [key_uniq ho.nodup g1 h1 e]
  · rcases found_fold a t.ents (ePrefix.zero, 0, false) with ⟨g1, g2⟩ | ⟨z, g1, g2, _⟩
    · rw [h1, g1]
    · rw [h2 z g1] at g2
      cases g2
theorem find_of {t : Tt} (ho : t.OK) {a : SAddr} {x : SPrefix × Int} (hx : x ∈ t.ents) (hh : hasP x.1 a = true) (hm : ∀ y ∈ t.ents, hasP y.1 a = true → y.1.bits ≤ x.1.bits) : findV t a = (x.1, x.2, true) := by
  rcases find_spec ho a with ⟨z, h1, h2, h3, h4⟩ | ⟨h1, h2⟩
  · have hc := ((hasP_iff _ _).1 hh).2.1
    have oz := ((has_full hc).1 h2).1
    have ox := ((has_full hc).1 hh).1
    have e1 := (covers_iff ox oz).1 (h4 x hx hh)
    have e2 := hm z h1 h2
    have n1 := ox.nn
    have n2 := oz.nn
    have e : x.1 = z.1 := pb_inj ox oz (pre_len e1 (by simp; omega))
    rw [key_uniq ho.nodup hx h1 e]
    exact h3
  · rw [h2 x hx] at hh
    cases hh

theorem en13 : Gx.Enters Try.prog 13 := Gx.Enters.mk' (by kernel_rfl)

theorem tcut_ok (t : Tt) (p : SPrefix) (w : World) (ht : t.At w) (ho : t.OK) (hn : t.n ≤ 4611686018427387904) : Calls Try.prog 17 #[.pointer (some ⟨t.b, 0, none⟩), ePrefix.val p] w (RetN w (TcutJ t p) (fun x => .tuple #[.pointer (pO (cutE t p) x.1.b), I (cutE t p)]) (fun x => x.2)) := by
  refine enter0 48 Try.func17 rfl rfl (Nat.le_of_ble_eq_true rfl) ?_
  refine seq (region (cons (box (E := ePrefix) (.t rfl) (fun b1 => ?_))))
  refine cons (opv (Ev.assign (.c (v := (Go.Value.pointer none)) rfl)) ?_)
  refine cons (opv (Ev.assign (.c (v := I 0) rfl)) ?_)
  refine nil (pN (seq (seq (region (cons (opv (Ev.move (.t rfl)) (cons (callv en33 (.cons (.t rfl) .nil) (fun w I => there_ok t w (ht.1.keep I.keeps)) ?_))))))))
  refine cons (opv (Ev.not (.t rfl)) ?_)
  refine nil (pN (condF rfl (by rw [ho.made]; rfl) ?_))
  refine skip (pN (seq (seq (region (cons (opv (Ev.ldx p ty36 (.t rfl) (Lens.id _)) ?_))))))
  refine cons (callv en10 (.cons (.t rfl) .nil) (fun w I => checkP_ok _ w) ?_)
  refine cons (opv (Ev.assign (.t rfl)) (nil (pN (seq (region (cons (opv (Ev.move (.t rfl)) (cons (opv (Ev.neq_i (.t rfl) (.c (v := I 0) rfl)) ?_)))))))))
  refine nil (pN ?_)
  first | refine condD rfl (fun h1 => ?_) (fun h1 => ?_) | refine cond rfl (fun h1 => ?_) (fun h1 => ?_)
  · try simp only [nb] at h1
    refine seq (region (cons (opv (Ev.move (.t rfl)) (cons (opv (Ev.assign (.c (v := (Go.Value.pointer none)) rfl)) ?_)))))
    refine cons (opv (Ev.assign (.t rfl)) (nil (pN (ret (pR (done rfl (.tmp rfl (.tmp rfl .nil)) (fun w I => ?_)))))))
    have hce : cutE t p = checkP p := by unfold cutE; rw [if_pos h1]
    exact retNP (t, []) (fun h => absurd (hce.symm.trans h) h1) (by show _ = Value.tuple #[.pointer (pO (cutE t p) t.b), Gx.I (cutE t p)]; rw [hce]; unfold pO; rw [if_neg h1]; rfl) SubP.nil w I
  · try simp only [nb] at h1
    have hck : checkP p = 0 := Decidable.not_not.1 h1
    have hbn := bI_nn p.addr.v6
    have hbt : (bI p.addr.v6).toNat < 2 := by omega
    refine skip (pN (seq (seq (region (cons (opv (Ev.move (.t rfl)) (cons (opv (Ev.ldx p ty36 (.t rfl) (Lens.id _)) ?_))))))))
    refine cons (callv en13 (.cons (.t rfl) (.cons (.t rfl) .nil)) (fun w I => get_ok t p w (ht.keep I.keeps) ho) ?_)
    refine cons (opv (Ev.move (.t rfl)) (cons (opv (Ev.extract (.t rfl) rfl) (cons (opv (Ev.extract (.t rfl) rfl) (cons (opv (Ev.assign (.t rfl)) (cons (opv (Ev.assign (.t rfl)) (nil (pN (seq (region (cons (opv (Ev.move (.t rfl)) (cons (opv (Ev.not (.t rfl)) ?_)))))))))))))))))
    refine nil (pN ?_)
    first | refine condD rfl (fun h2 => ?_) (fun h2 => ?_) | refine cond rfl (fun h2 => ?_) (fun h2 => ?_)
    · refine seq (region (cons (opv (Ev.assign (.c (v := (Go.Value.pointer none)) rfl)) ?_)))
      refine cons (opv (Ev.assign (.c (v := I 5) rfl)) ?_)
      refine nil (pN (ret (pR (done rfl (.tmp rfl (.tmp rfl .nil)) (fun w I => ?_)))))
      have hce : cutE t p = 5 := by unfold cutE; rw [if_neg (by rw [hck]; decide), if_pos (by simpa using h2)]
      exact retNP (t, []) (fun h => by rw [hce] at h; cases h) (by show _ = Value.tuple #[.pointer (pO (cutE t p) t.b), Gx.I (cutE t p)]; rw [hce]; rfl) SubP.nil w I
    · have his : (getV t p).2 = true := by simpa using h2
      have hex : ∃ y ∈ t.ents, y.1 = p := ⟨(p, (getV t p).1), (getV_iff ho p _).1 ⟨his, rfl⟩, rfl⟩
      have hkex : ∃ x ∈ (PT.kid p.addr.v6 t.l t.r).tr.ents, x.1 = p := by
        obtain ⟨y, hy, e⟩ := hex
        exact ⟨y, (ho.mem_k _ y).2 ⟨hy, by rw [e]⟩, e⟩
      obtain ⟨sp1, sp2⟩ := (keyLaw p.addr.v6).cut_spec (p := p) ⟨hck, rfl⟩ (PT.kid p.addr.v6 t.l t.r).tr [] (ho.kid _) hkex
      have hn1 : 1 ≤ t.n := by
        obtain ⟨y, hy, _⟩ := hex
        have h8 := ho.n
        have := List.length_pos_of_mem hy
        omega
      refine skip (pN (seq (region (cons (opv (Ev.move (.t rfl)) (cons (opv (Ev.nilCheck (.t rfl)) ?_)))))))
      refine cons (opv (Ev.load ty60 (.t rfl) (ptsL (fun w I => ((ht).1).keep I.keeps) (Lens.id _))) ?_)
      refine cons (alloc z60 (fun b2 => ?_))
      refine cons (stv ty60 (Lens.id _) (.t rfl) (.t rfl) ?_)
      refine nil (pN (seq (region (cons (opv (Ev.fieldAddr (o := 0) (.t rfl) (by kernel_rfl)) ?_)))))
      refine cons (opv (Ev.ldx p.addr ty31 (.t rfl) SPrefix.l_addr) ?_)
      refine cons (callv en34 (.cons (.t rfl) .nil) (fun w I => kind_ok _ w) ?_)
      refine cons (opv (Ev.assign (.t rfl)) (nil (pN (seq (drawS 9 rfl (by repeat first | exact Rem.head | apply Rem.tail) (by kernel_rfl) ?_)))))
      refine tk 0 rfl (Ev.move (.t rfl)) ?_
      refine tk 1 rfl (Ev.move (.t rfl)) ?_
      refine tk 2 rfl (Ev.move (.t rfl)) ?_
      refine tk 3 rfl (Ev.nilCheck (.t rfl)) ?_
      refine tk 4 rfl (Ev.fieldAddr (o := 2) (.t rfl) (by kernel_rfl)) ?_
      refine tk 5 rfl (Ev.indexAddrA Try.underlying58 ty57 (.t rfl) (.t rfl) (fun _ => by omega)) ?_
      refine tk 6 rfl (Ev.to (v' := (PT.kid p.addr.v6 t.l t.r).ptr.v) (Ev.load ty57 (.t rfl) (ptsL (fun w I => ((ht).1).keep I.keeps) (Lens.comp STrieTrie.l_roots (lArr (n := 2) (ovE nilPtr) _ (by omega))))) (congrArg OV.v (kids_at t.l t.r p.addr.v6 hbt))) ?_
      refine tk 7 rfl (Ev.ldx p ty36 (.t rfl) (Lens.id _)) ?_
      refine tk 9 rfl (Ev.fieldAddr (o := 2) (.t rfl) (by kernel_rfl)) ?_
      refine al1 8 rfl ((calln (X := PT × List Res) (PutJ (PT.kid p.addr.v6 t.l t.r) (cutT p (PT.kid p.addr.v6 t.l t.r).tr)) (fun x => x.1.ptr.v) (fun x => x.2) en42 (.cons (.t rfl) (.cons (.t rfl) .nil)) (fun w I => cut_ok p.addr.v6 p ⟨hck, rfl⟩ (PT.kid p.addr.v6 t.l t.r) [] w ((ht.keep I.keeps).kid _) (ho.kid _) hkex) (fun x1 hx1 => ?_)))
      refine hdn (tk 10 rfl (Ev.indexAddrA Try.underlying58 ty57 (.t rfl) (.t rfl) (fun _ => by omega)) ?_)
      refine al1 11 rfl ((stv ty57 (Lens.comp STrieTrie.l_roots (lArr (n := 2) (ovE nilPtr) _ (by omega))) (.t rfl) (.t rfl) ?_))
      refine hdn (ovr (pN (seq ?_)))
      have hwx : x1.1.tr.WF (okP p.addr.v6) pb [] := by rw [hx1.1]; exact sp1
      have hmx : ∀ y, y ∈ x1.1.tr.ents ↔ (y ∈ (PT.kid p.addr.v6 t.l t.r).tr.ents ∧ y.1 ≠ p) := by rw [hx1.1]; exact sp2
      refine region (cons (opv (Ev.fieldAddr (o := 1) (.t rfl) (by kernel_rfl)) ?_))
      refine cons (opv (Ev.ldv ty3 (.t rfl) STrieTrie.l_n) ?_)
      refine cons (opv (Ev.sub_i (.t rfl) (.c (v := I 1) rfl) (fun _ => by show Fit (t.n - 1); unfold Fit; omega)) ?_)
      refine cons (opv (Ev.fieldAddr (o := 1) (.t rfl) (by kernel_rfl)) ?_)
      refine cons (stv ty3 STrieTrie.l_n (.t rfl) (.t rfl) ?_)
      refine nil (pN (seq (region (cons (opv (Ev.assign (.t rfl)) (cons (opv (Ev.assign (.c (v := I 0) rfl)) ?_)))))))
      refine nil (pN (ret (done rfl (.tmp rfl (.tmp rfl .nil)) (fun w I => ?_))))
      have hce : cutE t p = 0 := by unfold cutE; rw [if_neg (by rw [hck]; decide), if_neg (by rw [his]; decide)]
      have hmem := Tt.cut_mem (b := b2) (n := (t.n - 1)) ho hwx hmx
      have hln := len_less ho.nodup (Tt.swap_nodup (b := b2) (n := (t.n - 1)) ho hwx) hmem hex
      have hcnt : t.n - 1 = (t.swap b2 (t.n - 1) p.addr.v6 x1.1).ents.length := by
        have h8 := ho.n
        omega
      refine retNP ((t.swap b2 (t.n - 1) p.addr.v6 x1.1), Var b2 eTrieTrie (t.swap b2 (t.n - 1) p.addr.v6 x1.1).val 60 :: x1.2) (fun _ => ⟨Tt.swap_ok ho hwx hcnt, hmem, fun w1 hw1 hh => Tt.swap_at hw1 (hx1.2 w1 (hw1.kid _) (fun q hq => hh q (List.mem_cons_of_mem _ hq))) (pts_mem (T := 60) hh List.mem_cons_self)⟩) (by show _ = Value.tuple #[.pointer (pO (cutE t p) (t.swap b2 (t.n - 1) p.addr.v6 x1.1).b), Gx.I (cutE t p)]; rw [hce]; rfl) ?_ w I
      unfold Tt.val
      rw [← Tt.swap_kids t b2 (t.n - 1) p.addr.v6 x1.1 hbt]
      exact (by repeat first | refine SubP.cons (by repeat first | exact Rem.head | apply Rem.tail | apply Rem.app) ?_ | exact SubP.of (by repeat first | exact sR | apply sS | exact List.sublist_append_left _ _))

theorem getD_in' {α : Type} (l : List α) (i : Nat) (d : α) (h : i < l.length) : l.getD i d ∈ l := by simp [List.getD, h]

theorem ty38 : TyOK Try.prog 38 eRoute := TyOK.mk' (by kernel_rfl) (by kernel_rfl)

theorem z38 : (Try.prog.info? 38).bind (·.zero) = some (eRoute.val eRoute.zero) := by kernel_rfl

theorem en7 : Gx.Enters Try.prog 7 := Gx.Enters.mk' (by kernel_rfl)

theorem en9 : Gx.Enters Try.prog 9 := Gx.Enters.mk' (by kernel_rfl)

theorem tof_ok (u : Value) (rs : List SRoute) (w : World) (hs : IsSl eRoute w u rs) (hl : rs.length ≤ 4611686018427387) : Calls Try.prog 23 #[u] w (RetN w (TofJ rs) (fun x => .tuple #[.pointer (pO (ofR rs) x.1.b), I (ofR rs)]) (fun x => x.2)) := by
  have hle := hs.le
  refine enter0 41 Try.func23 rfl rfl (Nat.le_of_ble_eq_true rfl) ?_
  refine seq (region (cons (opv (Ev.assign (.c (v := (Go.Value.pointer none)) rfl)) ?_)))
  refine cons (opv (Ev.assign (.c (v := I 0) rfl)) ?_)
  refine nil (pN (seq (seq (region (cons (opv (Ev.move (.t rfl)) (cons (opv (Ev.len Try.underlying22 (.t rfl) (fun w I => hs.keep0 I.keeps)) ?_))))))))
  refine cons (opv (Ev.move (.c (v := I 0) rfl)) ?_)
  refine nil (pN (block (lp (X := Int) (fun x : Int => (0 ≤ x ∧ x ≤ rs.length) ∧ (∀ j : Nat, j < x → checkP (rs.getD j eRoute.zero).to_ = 0)) (fun x : Int => [dz, (0, true, u), (2, true, .pointer none), (3, true, I 0), (10, true, u), (11, true, I rs.length), (12, true, I x)]) (fun x : Int => []) (fun x : Int => ((rs.length : Int) - x).toNat) (0) ⟨?_, ?_⟩ (fun x hx => ?_))))
  · omega
  · intro j h; omega
  obtain ⟨i, rfl⟩ : ∃ y, y = x := ⟨x, rfl⟩
  obtain ⟨hi, hq⟩ : (0 ≤ i ∧ i ≤ rs.length) ∧ (∀ j : Nat, j < i → checkP (rs.getD j eRoute.zero).to_ = 0) := hx
  show Sat _ _ [dz, (0, true, u), (2, true, .pointer none), (3, true, I 0), (10, true, u), (11, true, I rs.length), (12, true, I i)] []
  refine seq (region (cons (opv (Ev.lss_i (.t rfl) (.t rfl)) ?_)))
  refine nil (pN (seq ?_))
  first | refine condD rfl (fun h0 => ?_) (fun h0 => ?_) | refine cond rfl (fun h0 => ?_) (fun h0 => ?_)
  · try simp only [nb] at h0
    refine skip (pN (seq (block (seq (region (cons (opv (Ev.indexAddr Try.underlying22 ty38 (.t rfl) (.t rfl) (fun w I => hs.keep0 I.keeps) (fun _ => by omega)) ?_)))))))
    refine cons (opv (Ev.loadS0 ty38 (.t rfl) (fun w I => hs.keep0 I.keeps) (fun _ => by omega)) ?_)
    refine cons (alloc z38 (fun b1 => ?_))
    refine cons (stv ty38 (Lens.id _) (.t rfl) (.t rfl) ?_)
    refine nil (pN (seq (region (cons (opv (Ev.fieldAddr (o := 0) (.t rfl) (by kernel_rfl)) ?_)))))
    refine cons (opv (Ev.ldv ty36 (.t rfl) SRoute.l_to_) ?_)
    refine cons (callv en10 (.cons (.t rfl) .nil) (fun w I => checkP_ok _ w) ?_)
    refine cons (opv (Ev.assign (.t rfl)) (nil (pN (seq (region (cons (opv (Ev.move (.t rfl)) (cons (opv (Ev.neq_i (.t rfl) (.c (v := I 0) rfl)) ?_)))))))))
    refine nil (pN ?_)
    first | refine condD rfl (fun h1 => ?_) (fun h1 => ?_) | refine cond rfl (fun h1 => ?_) (fun h1 => ?_)
    · try simp only [nb] at h1
      refine seq (region (cons (opv (Ev.move (.t rfl)) (cons (opv (Ev.assign (.c (v := (Go.Value.pointer none)) rfl)) ?_)))))
      refine cons (opv (Ev.assign (.t rfl)) (nil (pN (ret (bR (pR (pR (bR (pR (done rfl (.tmp rfl (.tmp rfl .nil)) (fun w I => ?_)))))))))))
      have he : ofR rs = 151 := by
        unfold ofR
        rw [if_neg]
        intro h
        exact h1 (of_decide_eq_true (List.all_eq_true.1 h _ (getD_in' rs i.toNat eRoute.zero (by omega))))
      have hc : checkP (rs.getD i.toNat eRoute.zero).to_ = 151 := (checkP_01 _).resolve_left h1
      exact retNP ((⟨0, true, 0, .nil, .nil⟩ : Tt), []) (fun h => by rw [he] at h; cases h) (by show _ = Value.tuple #[.pointer (pO (ofR rs) 0), Gx.I (ofR rs)]; rw [he, ← hc]; unfold pO; rw [if_neg (show ¬ checkP (rs.getD i.toNat eRoute.zero).to_ = 0 from h1)]; rfl) SubP.nil w I
    · try simp only [nb] at h1
      refine skip (bN (pN (region (cons (opv (Ev.add_i (.t rfl) (.c (v := I 1) rfl) (fun _ => by omega)) ?_)))))
      refine cons (opv (Ev.move (.t rfl)) (nil (pN (nx (X := Int) (i + 1) ⟨?_, ?_⟩ ?_))))
      · try dsimp only
        omega
      · try dsimp only
        intro j hj
        by_cases e : (j : Int) < i
        · exact hq j e
        · obtain rfl : j = i.toNat := by omega
          exact Decidable.not_not.1 h1
      · try dsimp only
        omega
  · try simp only [nb] at h0
    refine exit (pX (pX (bX (pN (seq ?_)))))
    have hgood : ∀ r ∈ rs, checkP r.to_ = 0 := fun r hr => by
      obtain ⟨j, hj, rfl⟩ := List.mem_iff_getElem.1 hr
      have := hq j (by omega)
      simpa [List.getD, hj] using this
    have he0 : ofR rs = 0 := by
      unfold ofR
      rw [if_pos (List.all_eq_true.2 (fun r hr => decide_eq_true (hgood r hr)))]
    refine region (cons (calln (X := Tt) (fun x : Tt => x.OK ∧ x.ents = [] ∧ x.made = true ∧ x.n = 0 ∧ x.l = .nil ∧ x.r = .nil) (fun x => x.ptr.v) (fun x => [Var x.b eTrieTrie x.val 60]) en7 .nil (fun w I => new_ok w) (fun t0 ht0 => ?_)))
    refine cons (opv (Ev.assign (.t rfl)) (nil (pN (seq (seq (region (cons (opv (Ev.move (.t rfl)) (cons (opv (Ev.len Try.underlying22 (.t rfl) (fun w I => hs.keep0 I.keeps)) ?_))))))))))
    refine cons (opv (Ev.move (.c (v := I 0) rfl)) ?_)
    refine nil (pN (block (lp (X := Int × Tt × (List Res)) (fun x : Int × Tt × (List Res) => (0 ≤ x.1 ∧ x.1 ≤ rs.length) ∧ (x.2.1.OK) ∧ (x.2.1.n ≤ x.1) ∧ (∀ y, y ∈ x.2.1.ents ↔ routesL (rs.take x.1.toNat) y) ∧ (∀ w1 : World, (∀ r ∈ x.2.2, r.A w1) → x.2.1.At w1)) (fun x : Int × Tt × (List Res) => [dz, (7, true, x.2.1.ptr.v), (24, true, u), (25, true, I rs.length), (26, true, I x.1)]) (fun x : Int × Tt × (List Res) => x.2.2) (fun x : Int × Tt × (List Res) => ((rs.length : Int) - x.1).toNat) (0, t0, [Var t0.b eTrieTrie t0.val 60]) ⟨?_, ?_, ?_, ?_, ?_⟩ (fun x hx => ?_))))
    · omega
    · exact ht0.1
    · rw [ht0.2.2.2.1]; exact Int.le_refl _
    · exact fun y => by rw [ht0.2.1]; exact ⟨fun h => (by simp at h), fun h => h.elim⟩
    · exact fun w1 h => ⟨pts_mem (T := 60) h List.mem_cons_self, by rw [ht0.2.2.2.2.1]; trivial, by rw [ht0.2.2.2.2.2]; trivial⟩
    obtain ⟨i2, tt, Rs⟩ := x
    obtain ⟨hi2, hok, hn, hmm, hat⟩ : (0 ≤ i2 ∧ i2 ≤ rs.length) ∧ (tt.OK) ∧ (tt.n ≤ i2) ∧ (∀ y, y ∈ tt.ents ↔ routesL (rs.take i2.toNat) y) ∧ (∀ w1 : World, (∀ r ∈ Rs, r.A w1) → tt.At w1) := hx
    show Sat _ _ [dz, (7, true, tt.ptr.v), (24, true, u), (25, true, I rs.length), (26, true, I i2)] Rs
    refine seq (region (cons (opv (Ev.lss_i (.t rfl) (.t rfl)) ?_)))
    refine nil (pN (seq ?_))
    first | refine condD rfl (fun h2 => ?_) (fun h2 => ?_) | refine cond rfl (fun h2 => ?_) (fun h2 => ?_)
    · try simp only [nb] at h2
      refine skip (pN (seq (block (seq (region (cons (opv (Ev.indexAddr Try.underlying22 ty38 (.t rfl) (.t rfl) (fun w I => hs.keep0 I.keeps) (fun _ => by omega)) ?_)))))))
      refine cons (opv (Ev.loadS0 ty38 (.t rfl) (fun w I => hs.keep0 I.keeps) (fun _ => by omega)) ?_)
      refine cons (alloc z38 (fun b2 => ?_))
      refine cons (stv ty38 (Lens.id _) (.t rfl) (.t rfl) ?_)
      refine nil (pN ?_)
      have hck : checkP (rs.getD i2.toNat eRoute.zero).to_ = 0 := hgood _ (getD_in' rs i2.toNat eRoute.zero (by omega))
      refine region (cons (opv (Ev.move (.t rfl)) (cons (opv (Ev.fieldAddr (o := 0) (.t rfl) (by kernel_rfl)) ?_))))
      refine cons (opv (Ev.ldv ty36 (.t rfl) SRoute.l_to_) ?_)
      refine cons (opv (Ev.fieldAddr (o := 18) (.t rfl) (by kernel_rfl)) ?_)
      refine cons (opv (Ev.ldv ty3 (.t rfl) SRoute.l_out) ?_)
      refine cons (calln (X := Tt × List Res) (TputJ tt (rs.getD i2.toNat eRoute.zero).to_ (rs.getD i2.toNat eRoute.zero).out) (fun x => .tuple #[.pointer (pO (checkP (rs.getD i2.toNat eRoute.zero).to_) x.1.b), I (checkP (rs.getD i2.toNat eRoute.zero).to_)]) (fun x => x.2) en9 (.cons (.t rfl) (.cons (.t rfl) (.cons (.t rfl) .nil))) (fun w I => tput_ok tt _ _ w (hat w (fun r hr => (I.own r (by repeat first | exact hr | apply List.Mem.tail)).1)) hok (by omega)) (fun x1 hx1 => ?_))
      refine cons (opv (Ev.move (.t rfl)) (cons (opv (Ev.to (v' := x1.1.ptr.v) (Ev.extract (.t rfl) rfl) (congrArg Value.pointer (if_pos hck))) ?_)))
      refine cons (opv (Ev.extract (.t rfl) rfl) (cons (opv (Ev.assign (.t rfl)) (nil (bN (pN ?_))))))
      obtain ⟨hok1, hmm1, hat1⟩ := hx1 hck
      have hn1 := put_n hok hok1 hmm1
      refine region (cons (opv (Ev.add_i (.t rfl) (.c (v := I 1) rfl) (fun _ => by omega)) ?_))
      refine cons (opv (Ev.move (.t rfl)) (nil (pN (nx (X := Int × Tt × (List Res)) (i2 + 1, x1.1, x1.2 ++ Rs) ⟨?_, ?_, ?_, ?_, ?_⟩ ?_ (hL := (by first | exact List.Sublist.refl _ | (apply List.Sublist.append_left; repeat first | exact List.Sublist.refl _ | apply List.Sublist.cons)))))))
      · try dsimp only
        omega
      · try dsimp only
        exact hok1
      · try dsimp only
        omega
      · try dsimp only
        exact fun y => by rw [take_snoc' rs i2 hi2.1 (by omega) eRoute.zero, routesL_snoc, hmm1, hmm]
      · try dsimp only
        exact fun w1 h => hat1 w1 (hat w1 (fun r hr => h r (List.mem_append_right _ hr))) (fun r hr => h r (List.mem_append_left _ hr))
      · try dsimp only
        omega
    · try simp only [nb] at h2
      refine exit (pX (pX (bX (pN (seq (region (cons (opv (Ev.move (.t rfl)) (cons (opv (Ev.assign (.t rfl)) (cons (opv (Ev.assign (.c (v := I 0) rfl)) ?_))))))))))))
      refine nil (pN (ret (done rfl (.tmp rfl (.tmp rfl .nil)) (fun w I => ?_))))
      have hi9 : i2.toNat = rs.length := by omega
      rw [hi9, List.take_length] at hmm
      refine retNP (tt, Rs) (fun _ => ⟨hok, hmm, by show tt.n ≤ rs.length; omega, hat⟩) (by show _ = Value.tuple #[.pointer (pO (ofR rs) tt.b), Gx.I (ofR rs)]; rw [he0]; rfl) (SubP.of (List.Sublist.refl _)) w I
end Go.Proofs.Ytjjlofjpdklbgaa
