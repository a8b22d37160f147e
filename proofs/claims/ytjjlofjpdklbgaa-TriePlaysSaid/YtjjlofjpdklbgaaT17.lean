/- trie -/
import Derived.Test.YtjjlofjpdklbgaaT16
set_option linter.unusedVariables false
set_option linter.unusedSimpArgs false
namespace Go.Proofs.Ytjjlofjpdklbgaa
open Go Go.Gx

structure SRef18Entry where
  p : SPrefix
  v : Int

def SRef18Entry.to : (SPrefix × Int) → SRef18Entry := fun x => ⟨x.1, x.2⟩

def SRef18Entry.of : SRef18Entry → (SPrefix × Int) := fun x => (x.p, x.v)

def eRef18Entry : Enc SRef18Entry := isoE (prodE ePrefix iE) SRef18Entry.to SRef18Entry.of

def SRef18Entry.l_p : Lens eRef18Entry ePrefix 0 := lIso _ SRef18Entry.to SRef18Entry.of (fun _ => rfl) (lFst ePrefix iE)

@[simp] theorem SRef18Entry.get_p (x : SRef18Entry) : SRef18Entry.l_p.get x = x.p := rfl

@[simp] theorem SRef18Entry.set_p (x : SRef18Entry) (y : SPrefix) : SRef18Entry.l_p.set x y = { x with p := y } := rfl

def SRef18Entry.l_v : Lens eRef18Entry iE 18 := lIso _ SRef18Entry.to SRef18Entry.of (fun _ => rfl) (Lens.comp (lSnd ePrefix iE) (Lens.id iE))

@[simp] theorem SRef18Entry.get_v (x : SRef18Entry) : SRef18Entry.l_v.get x = x.v := rfl

@[simp] theorem SRef18Entry.set_v (x : SRef18Entry) (y : Int) : SRef18Entry.l_v.set x y = { x with v := y } := rfl

def Dead (tv : OV) (w : World) : Prop := tv.v = .pointer none ∨ ∃ b, tv.v = .pointer (some ⟨b, 0, none⟩) ∧ PtsTo eTrieTrie w b 0 (⟨b, false, 0, .nil, .nil⟩ : Tt).val
theorem Dead.keep {tv : OV} {w w' : World} (h : Dead tv w) (k : Keeps Nope w w') : Dead tv w' := by
  rcases h with h | ⟨b, h, hp⟩
  · exact .inl h
  · exact .inr ⟨b, h, hp.keep k⟩
theorem there_dead (tv : OV) (w : World) (h : Dead tv w) : Calls Try.prog 33 #[tv.v] w (RetV w (.bool false)) := by
  rcases h with h | ⟨b, h, hp⟩
  · rw [h]; exact there_nil w
  · rw [h]; exact there_ok ⟨b, false, 0, .nil, .nil⟩ w hp

theorem len_dead (tv : OV) (w : World) (h : Dead tv w) : Calls Try.prog 18 #[tv.v] w (RetV w (I 0)) := by
  refine enter0 10 Try.func18 rfl rfl (Nat.le_of_ble_eq_true rfl) ?_
  refine seq (region (cons (opv (Ev.assign (.c (v := I 0) rfl)) ?_)))
  refine nil (pN (seq (seq (region (cons (opv (Ev.move (.t rfl)) (cons (callv en33 (.cons (.t rfl) .nil) (fun w I => there_dead tv w (h.keep I.keeps)) ?_))))))))
  refine cons (opv (Ev.not (.t rfl)) ?_)
  refine nil (pN (condT rfl (rfl) ?_))
  refine seq (region (cons (opv (Ev.assign (.c (v := I 0) rfl)) ?_)))
  refine nil (pN (ret (pR (done rfl (.tmp rfl .nil) (retE ?_)))))
  rfl

theorem put_dead (tv : OV) (w : World) (h : Dead tv w) (p : SPrefix) (n : Int) : Calls Try.prog 9 #[tv.v, ePrefix.val p, I n] w (RetV w (.tuple #[.pointer none, I 1])) := by
  refine enter0 48 Try.func9 rfl rfl (Nat.le_of_ble_eq_true rfl) ?_
  refine seq (region (cons (box (E := ePrefix) (.t rfl) (fun b1 => ?_))))
  refine cons (opv (Ev.assign (.c (v := (Go.Value.pointer none)) rfl)) ?_)
  refine cons (opv (Ev.assign (.c (v := I 0) rfl)) ?_)
  refine nil (pN (seq (seq (region (cons (opv (Ev.move (.t rfl)) (cons (callv en33 (.cons (.t rfl) .nil) (fun w I => there_dead tv w (h.keep I.keeps)) ?_))))))))
  refine cons (opv (Ev.not (.t rfl)) ?_)
  refine nil (pN (condT rfl (rfl) ?_))
  refine seq (region (cons (opv (Ev.assign (.c (v := (Go.Value.pointer none)) rfl)) ?_)))
  refine cons (opv (Ev.assign (.c (v := I 1) rfl)) ?_)
  refine nil (pN (ret (pR (done rfl (.tmp rfl (.tmp rfl .nil)) (retE ?_)))))
  rfl

theorem cut_dead (tv : OV) (w : World) (h : Dead tv w) (p : SPrefix) : Calls Try.prog 17 #[tv.v, ePrefix.val p] w (RetV w (.tuple #[.pointer none, I 1])) := by
  refine enter0 48 Try.func17 rfl rfl (Nat.le_of_ble_eq_true rfl) ?_
  refine seq (region (cons (box (E := ePrefix) (.t rfl) (fun b1 => ?_))))
  refine cons (opv (Ev.assign (.c (v := (Go.Value.pointer none)) rfl)) ?_)
  refine cons (opv (Ev.assign (.c (v := I 0) rfl)) ?_)
  refine nil (pN (seq (seq (region (cons (opv (Ev.move (.t rfl)) (cons (callv en33 (.cons (.t rfl) .nil) (fun w I => there_dead tv w (h.keep I.keeps)) ?_))))))))
  refine cons (opv (Ev.not (.t rfl)) ?_)
  refine nil (pN (condT rfl (rfl) ?_))
  refine seq (region (cons (opv (Ev.assign (.c (v := (Go.Value.pointer none)) rfl)) ?_)))
  refine cons (opv (Ev.assign (.c (v := I 1) rfl)) ?_)
  refine nil (pN (ret (pR (done rfl (.tmp rfl (.tmp rfl .nil)) (retE ?_)))))
  rfl

theorem get_dead (tv : OV) (w : World) (h : Dead tv w) (p : SPrefix) : Calls Try.prog 13 #[tv.v, ePrefix.val p] w (RetV w (.tuple #[I 0, .bool false])) := by
  refine enterM0 35 Try.func13 rfl rfl (Nat.le_of_ble_eq_true rfl) ?_
  refine seq (region (cons (box (E := ePrefix) (.t rfl) (fun b1 => ?_))))
  refine cons (alloc z3 (fun b2 => ?_))
  refine cons (alloc z4 (fun b3 => ?_))
  refine nil (pN (seq (seq (region (cons (opv (Ev.move (.t rfl)) (cons (callv en33 (.cons (.t rfl) .nil) (fun w I => there_dead tv w (h.keep I.keeps)) ?_))))))))
  refine cons (opv (Ev.not (.t rfl)) ?_)
  refine cons (opv (Ev.move (.t rfl)) (cons (opg rfl rfl (Ev.ldx p ty36 (.t rfl) (Lens.id _)) ?_)))
  refine cons (callg rfl rfl en10 (.cons (.g rfl id) .nil) (fun hg w I => checkP_ok _ w) ?_)
  refine cons (opg rfl rfl (Ev.neq_i (.g rfl id) (.c (v := I 0) rfl)) ?_)
  refine cons (opv (Ev.pickO (.t rfl) (.c (v := .bool true) rfl) (fun {_} h => by cases h; rfl) ⟨_, rfl⟩ (by intro h1 h; first | (rw [h] <;> rfl) | (rw [h1, h] <;> rfl) | (rw [h, h1] <;> rfl) | simp_all)) ?_)
  refine nil (pN (condT rfl (rfl) ?_))
  refine seq (region (cons (stv ty3 (Lens.id _) (.t rfl) (.c (v := I 0) rfl) ?_)))
  refine cons (stv ty4 (Lens.id _) (.t rfl) (.c (v := .bool false) rfl) ?_)
  refine nil (pN (ret (pR (doneM (by repeat first | exact Rem.head | apply Rem.tail) rfl rfl (.cell rfl (fun w I => run_loadVar_pts ty3 (ptsVar (by repeat first | exact mH | apply mT | apply mA) (Lens.id _) w I)) (.cell rfl (fun w I => run_loadVar_pts ty4 (ptsVar (by repeat first | exact mH | apply mT | apply mA) (Lens.id _) w I)) .nil)) (retE ?_)))))
  rfl

theorem nodes_dead {σ : Type} (S : σ → Res) (J : PT → σ → Bool × σ → Prop) (yv tv : OV) (s : σ) (w : World) (hd : ∀ w1, Keeps (S s).foot w w1 → Dead tv w1) (hat : At (S s) w) : Calls Try.prog 43 #[tv.v, yv.v] w (RetR w (S s) (RunsY J ([] : List PT) s) (fun _ => .tuple #[]) S) := by
  refine enter (S s).foot 25 [S s] Try.func43 rfl rfl (Nat.le_of_ble_eq_true rfl) (start_at hat) ?_
  refine seq (region (cons (box (E := (ovE nilFn)) (.t rfl) (fun b1 => ?_))))
  refine nil (pN (seq (seq (region (cons (opv (Ev.move (.t rfl)) (cons (callv en33 (.cons (.t rfl) .nil) (fun w I => there_dead tv w (hd w I.keeps)) ?_))))))))
  refine cons (opv (Ev.not (.t rfl)) ?_)
  refine nil (pN (condT rfl (rfl) ?_))
  refine ret (pR (done rfl .nil (fun w I => ?_)))
  exact retR (X := σ) (J := RunsY J ([] : List PT) s) s rfl rfl (by repeat first | exact mH | apply mT | apply mA) w I

theorem nodes_dead_iter (tv : OV) (w0 : World) (M : Nat → Prop) (hf : ∀ w', Keeps M w0 w' → Dead tv w') : IterAt Try.prog (bnd 43 [tv.v] []).v encN w0 M [] := fun σ S ok J yv w s hl hk hfo hat hY =>
  CallsV.of (Gx.Enters.mk' (by kernel_rfl)) (nodes_dead S J yv tv s w (fun w' k => hf w' (hk.trans' k (fun i hi hm => (hfo i hm).resolve_left (by omega)))) hat)
def EntD (tv : OV) (bt : Nat) (w : World) : Prop := Dead tv w ∧ PtsTo (ovE nilPtr) w bt 0 tv
theorem runsN_nil {α σ : Type} {J : α → σ → σ → Prop} {s t : σ} (h : RunsN J [] s t) : t = s := h

theorem ent_dead {σ : Type} (S : σ → Res) (J : SPrefix × Int → σ → Bool × σ → Prop) (yv tv : OV) (bt bk : Nat) (s : σ) (w : World) (hf : ∀ w1, Keeps (S s).foot w w1 → EntD tv bt w1) (hat : At (S s) w) : Calls Try.prog 56 #[yv.v, .pointer (some ⟨bt, 0, none⟩), .pointer (some ⟨bk, 0, none⟩)] w (RetR w (S s) (RunsY J ([] : List (SPrefix × Int)) s) (fun _ => .tuple #[]) S) := by
  refine enterM (S s).foot 30 [S s] Try.func56 rfl rfl (Nat.le_of_ble_eq_true rfl) (start_at hat) ?_
  refine seq (region (cons (box (E := (ovE nilFn)) (.t rfl) (fun b1 => ?_))))
  refine nil (pN (seq (region (cons (opv (Ev.to (v' := tv.v) (Ev.load ty24 (.t rfl) (ptsL (fun w I => (hf w I.keeps).2) (Lens.id _))) (rfl)) ?_)))))
  refine cons (opv (Ev.makeBound (f := 43) (.cons (.t rfl) .nil) .nil) ?_)
  refine nil (pN (block (rangeF (ζ := Unit) (m := []) (ps := [7]) encN S s ([] : List PT) (fun _ s s' => s' = s) (fun _ _ _ _ => False) (fun x z => [dz, (4, true, x.ptr.v)]) (fun x z => ([] : List Res)) (fun _ => True) trivial (fun _ _ _ _ _ => trivial) (by repeat first | exact Rem.head | apply Rem.tail) (by repeat first | exact Rem.head | apply Rem.tail) rfl (.t rfl) ⟨43, [tv.v], [], rfl⟩ (fun _ => rfl) rfl (fun w I hb => nodes_dead_iter tv w _ (fun w1 k => (hf w1 (I.later (by repeat first | exact mH | apply mT | apply mA) k)).1)) (fun l x w => ?_) (fun l x s zv n0 w hx hn0 hinv hft hb => ?_) (fun s D hr => ?_) (fun c s D hr => ?_))))
  · refine regionI (consT (opv (Ev.assign (.t rfl)) (nilI (gd () (by repeat first | exact Sub.nil | refine Sub.cons rfl ?_) (by repeat first | exact sR | exact sN | apply sC | apply sS | apply sA)))))
  · exact absurd hx List.not_mem_nil
  · have hen := runsN_nil hr
    refine bN (doneM' (by repeat first | exact Rem.head | apply Rem.tail) rfl rfl .nil (fun w I => ?_))
    exact retR (X := σ) (J := RunsY J ([] : List (SPrefix × Int)) _) (val := fun _ => .tuple #[]) (r' := S) s hen rfl (by repeat first | exact mH | apply mT | apply mA) w I
  · exact (runsX_false hr).elim

theorem ent_dead_iter (tv : OV) (bt bk : Nat) (w0 : World) (M : Nat → Prop) (hf : ∀ w', Keeps M w0 w' → EntD tv bt w') : IterAt Try.prog (bnd 56 [] [.pointer (some ⟨bt, 0, none⟩), .pointer (some ⟨bk, 0, none⟩)]).v encE w0 M [] := fun σ S ok J yv w s hl hk hfo hat hY =>
  CallsV.of (Gx.Enters.mk' (by kernel_rfl)) (ent_dead S J yv tv bt bk s w (fun w' k => hf w' (hk.trans' k (fun i hi hm => (hfo i hm).resolve_left (by omega)))) hat)

theorem entries_o (tv tk : OV) (w : World) : Calls Try.prog 31 #[tv.v, tk.v] w (RetN w (fun _ : Nat × Nat => True) (fun x => (bnd 56 [] [.pointer (some ⟨x.1, 0, none⟩), .pointer (some ⟨x.2, 0, none⟩)]).v) (fun x => [Var x.2 (ovE nilFn) tk 80, Var x.1 (ovE nilPtr) tv 24])) := by
  refine enter0 6 Try.func31 rfl rfl (Nat.le_of_ble_eq_true rfl) ?_
  refine seq (region (cons (box (E := (ovE nilPtr)) (.t rfl) (fun b1 => ?_))))
  refine cons (box (E := (ovE nilFn)) (.t rfl) (fun b2 => ?_))
  refine cons (opv (Ev.assign (.c (v := Go.Value.nilFunc) rfl)) ?_)
  refine nil (pN (seq (region (cons (opv (Ev.makeFunc (f := 56) (.cons (.t rfl) (.cons (.t rfl) .nil))) ?_)))))
  refine cons (opv (Ev.assign (.t rfl)) (nil (pN (ret (done rfl (.tmp rfl .nil) (fun w I => ?_))))))
  exact retNP (b1, b2) trivial rfl (by repeat first | exact SubP.nil | refine SubP.cons (by repeat first | exact Rem.head | apply Rem.tail) ?_) w I

theorem all_o (tv : OV) (w : World) : Calls Try.prog 8 #[tv.v] w (RetN w (fun _ : Nat × Nat => True) (fun x => (bnd 56 [] [.pointer (some ⟨x.1, 0, none⟩), .pointer (some ⟨x.2, 0, none⟩)]).v) (fun x => [Var x.2 (ovE nilFn) (clo 32 []) 80, Var x.1 (ovE nilPtr) tv 24])) := by
  refine enter0 5 Try.func8 rfl rfl (Nat.le_of_ble_eq_true rfl) ?_
  refine seq (region (cons (opv (Ev.assign (.c (v := Go.Value.nilFunc) rfl)) ?_)))
  refine nil (pN (seq (region (cons (opv (Ev.move (.t rfl)) (cons (calln (X := Nat × Nat) (fun _ => True) (fun x => (bnd 56 [] [.pointer (some ⟨x.1, 0, none⟩), .pointer (some ⟨x.2, 0, none⟩)]).v) (fun x => [Var x.2 (ovE nilFn) (clo 32 []) 80, Var x.1 (ovE nilPtr) tv 24]) en31 (.cons (.t rfl) (.cons .f .nil)) (fun w I => entries_o tv (clo 32 []) w) (fun x1 _ => ?_))))))))
  refine cons (opv (Ev.assign (.t rfl)) (nil (pN (ret (done rfl (.tmp rfl .nil) (fun w I => ?_))))))
  exact retNP x1 trivial rfl (by repeat first | exact SubP.nil | refine SubP.cons (by repeat first | exact Rem.head | apply Rem.tail) ?_) w I

theorem under_o (tv : OV) (p : SPrefix) (w : World) : Calls Try.prog 21 #[tv.v, ePrefix.val p] w (RetN w (fun _ : (Nat × Nat) × Nat => True) (fun x => (bnd 56 [] [.pointer (some ⟨x.1.1, 0, none⟩), .pointer (some ⟨x.1.2, 0, none⟩)]).v) (fun x => [Var x.1.2 (ovE nilFn) (bnd 44 [] [.pointer (some ⟨x.2, 0, none⟩)]) 80, Var x.1.1 (ovE nilPtr) tv 24, Var x.2 ePrefix p 36])) := by
  refine enter0 8 Try.func21 rfl rfl (Nat.le_of_ble_eq_true rfl) ?_
  refine seq (region (cons (box (E := ePrefix) (.t rfl) (fun b1 => ?_))))
  refine cons (opv (Ev.assign (.c (v := Go.Value.nilFunc) rfl)) ?_)
  refine nil (pN (seq (region (cons (opv (Ev.move (.t rfl)) (cons (opv (Ev.makeFunc (f := 44) (.cons (.t rfl) .nil)) ?_)))))))
  refine cons (calln (X := Nat × Nat) (fun _ => True) (fun x => (bnd 56 [] [.pointer (some ⟨x.1, 0, none⟩), .pointer (some ⟨x.2, 0, none⟩)]).v) (fun x => [Var x.2 (ovE nilFn) (bnd 44 [] [.pointer (some ⟨b1, 0, none⟩)]) 80, Var x.1 (ovE nilPtr) tv 24]) en31 (.cons (.t rfl) (.cons (.t rfl) .nil)) (fun w I => entries_o tv (bnd 44 [] [.pointer (some ⟨b1, 0, none⟩)]) w) (fun x1 _ => ?_))
  refine cons (opv (Ev.assign (.t rfl)) (nil (pN (ret (done rfl (.tmp rfl .nil) (fun w I => ?_))))))
  exact retNP (x1, b1) trivial rfl (by repeat first | exact SubP.nil | refine SubP.cons (by repeat first | exact Rem.head | apply Rem.tail) ?_) w I
end Go.Proofs.Ytjjlofjpdklbgaa
