/- trie -/
import Derived.Test.YtjjlofjpdklbgaaT12
set_option linter.unusedVariables false
set_option linter.unusedSimpArgs false
namespace Go.Proofs.Ytjjlofjpdklbgaa
open Go Go.Gx

theorem entries_ok (t : Tt) (tk : OV) (w : World) : Calls Try.prog 31 #[t.ptr.v, tk.v] w (RetN w (fun _ : Nat × Nat => True) (fun x => (bnd 56 [] [.pointer (some ⟨x.1, 0, none⟩), .pointer (some ⟨x.2, 0, none⟩)]).v) (fun x => [Var x.2 (ovE nilFn) tk 80, Var x.1 (ovE nilPtr) t.ptr 24])) := by
  refine enter0 6 Try.func31 rfl rfl (Nat.le_of_ble_eq_true rfl) ?_
  refine seq (region (cons (box (E := (ovE nilPtr)) (.t rfl) (fun b1 => ?_))))
  refine cons (box (E := (ovE nilFn)) (.t rfl) (fun b2 => ?_))
  refine cons (opv (Ev.assign (.c (v := Go.Value.nilFunc) rfl)) ?_)
  refine nil (pN (seq (region (cons (opv (Ev.makeFunc (f := 56) (.cons (.t rfl) (.cons (.t rfl) .nil))) ?_)))))
  refine cons (opv (Ev.assign (.t rfl)) (nil (pN (ret (done rfl (.tmp rfl .nil) (fun w I => ?_))))))
  exact retNP (b1, b2) trivial rfl (by repeat first | exact SubP.nil | refine SubP.cons (by repeat first | exact Rem.head | apply Rem.tail) ?_) w I

theorem all1_ok (v : Value) (w : World) : Calls Try.prog 32 #[v] w (RetV w (.bool true)) := by
  refine enter0 3 Try.func32 rfl rfl (Nat.le_of_ble_eq_true rfl) ?_
  refine seq (region (cons (opv (Ev.assign (.c (v := .bool false) rfl)) ?_)))
  refine nil (pN (seq (region (cons (opv (Ev.assign (.c (v := .bool true) rfl)) ?_)))))
  refine nil (pN (ret (done rfl (.tmp rfl .nil) (retE ?_))))
  rfl

theorem en31 : Gx.Enters Try.prog 31 := Gx.Enters.mk' (by kernel_rfl)

theorem all_ok (t : Tt) (w : World) : Calls Try.prog 8 #[t.ptr.v] w (RetN w (fun _ : Nat × Nat => True) (fun x => (bnd 56 [] [.pointer (some ⟨x.1, 0, none⟩), .pointer (some ⟨x.2, 0, none⟩)]).v) (fun x => [Var x.2 (ovE nilFn) (clo 32 []) 80, Var x.1 (ovE nilPtr) t.ptr 24])) := by
  refine enter0 5 Try.func8 rfl rfl (Nat.le_of_ble_eq_true rfl) ?_
  refine seq (region (cons (opv (Ev.assign (.c (v := Go.Value.nilFunc) rfl)) ?_)))
  refine nil (pN (seq (region (cons (opv (Ev.move (.t rfl)) (cons (calln (X := Nat × Nat) (fun _ => True) (fun x => (bnd 56 [] [.pointer (some ⟨x.1, 0, none⟩), .pointer (some ⟨x.2, 0, none⟩)]).v) (fun x => [Var x.2 (ovE nilFn) (clo 32 []) 80, Var x.1 (ovE nilPtr) t.ptr 24]) en31 (.cons (.t rfl) (.cons .f .nil)) (fun w I => entries_ok t (clo 32 []) w) (fun x1 _ => ?_))))))))
  refine cons (opv (Ev.assign (.t rfl)) (nil (pN (ret (done rfl (.tmp rfl .nil) (fun w I => ?_))))))
  exact retNP x1 trivial rfl (by repeat first | exact SubP.nil | refine SubP.cons (by repeat first | exact Rem.head | apply Rem.tail) ?_) w I

theorem ent_iter (t : Tt) (ho : t.OK) (f : FuncId) (cap : List Value) (g : PT → Bool) (henf : Gx.Enters Try.prog f) (bt bk : Nat) (w0 : World) (M : Nat → Prop) (hf : ∀ w', Keeps M w0 w' → EntAt t (clo f cap) bt bk w' ∧ TakeAt f cap g (t.l.pre ++ t.r.pre) w') : IterAt Try.prog (bnd 56 [] [.pointer (some ⟨bt, 0, none⟩), .pointer (some ⟨bk, 0, none⟩)]).v encE w0 M (entsG g (t.l.pre ++ t.r.pre)) := fun σ S ok J yv w s hl hk hfo hat hY =>
  CallsV.of (Gx.Enters.mk' (by kernel_rfl)) (ent_walk S ok J yv t f cap g bt bk s w ho henf (fun w' k => hf w' (hk.trans' k (fun i hi hm => (hfo i hm).resolve_left (by omega)))) hl hat hY)
theorem entsG_all (t : Tt) : entsG (fun _ => true) (t.l.pre ++ t.r.pre) = t.ents := by
  unfold entsG Tt.ents
  simp only [Bool.and_true]
  rw [List.filter_append, List.map_append, PT.pre_ents, PT.pre_ents]
theorem all_iter (t : Tt) (ho : t.OK) (bt bk : Nat) (w0 : World) (M : Nat → Prop) (hf : ∀ w', Keeps M w0 w' → EntAt t (clo 32 []) bt bk w') : IterAt Try.prog (bnd 56 [] [.pointer (some ⟨bt, 0, none⟩), .pointer (some ⟨bk, 0, none⟩)]).v encE w0 M t.ents := by
  rw [← entsG_all t]
  exact ent_iter t ho 32 [] (fun _ => true) (Gx.Enters.mk' (by kernel_rfl)) bt bk w0 M (fun w' k => ⟨hf w' k, fun x _ _ => all1_ok x.ptr.v w'⟩)
/-- Going over all: the longest one so far. -/
def fStep (a : SAddr) (s : SPrefix × Int × Bool) (x : SPrefix × Int) : SPrefix × Int × Bool := if (hasP x.1 a && (!s.2.2 || decide (s.1.bits < x.1.bits))) = true then (x.1, x.2, true) else s
def foundV (a : SAddr) (xs : List (SPrefix × Int)) : SPrefix × Int × Bool := xs.foldl (fStep a) (ePrefix.zero, 0, false)
theorem foundN {a : SAddr} : ∀ {xs : List (SPrefix × Int)} {s t : SPrefix × Int × Bool}, RunsN (fun x s s' => s' = fStep a s x) xs s t → t = xs.foldl (fStep a) s
  | [], s, t, h => h
  | x :: xs, s, t, ⟨q, h1, h⟩ => by rw [List.foldl_cons, ← h1]; exact foundN h
theorem runsX_false {α σ : Type} {J : α → σ → σ → Prop} {c : Code} : ∀ {xs : List α} {s t : σ}, RunsX J (fun _ _ _ _ => False) c xs s t → False
  | [], _, _, h => h
  | _ :: _, _, _, .inl h => h
  | _ :: _, _, _, .inr ⟨_, _, h⟩ => runsX_false h

theorem en8 : Gx.Enters Try.prog 8 := Gx.Enters.mk' (by kernel_rfl)

theorem found_ok (t : Tt) (a : SAddr) (w : World) (ht : t.At w) (ho : t.OK) : Calls Try.prog 12 #[t.ptr.v, eAddr.val a] w (RetV w (.tuple #[ePrefix.val (foundV a t.ents).1, I (foundV a t.ents).2.1, .bool (foundV a t.ents).2.2])) := by
  refine enterM0 40 Try.func12 rfl rfl (Nat.le_of_ble_eq_true rfl) ?_
  refine seq (region (cons (box (E := eAddr) (.t rfl) (fun b1 => ?_))))
  refine cons (alloc z36 (fun b2 => ?_))
  refine cons (opv (Ev.assign (.c (v := I 0) rfl)) ?_)
  refine cons (opv (Ev.assign (.c (v := .bool false) rfl)) ?_)
  refine nil (pN (seq (region (cons (alloc z36 (fun b3 => ?_))))))
  refine nil (pN (seq (region (cons (alloc z3 (fun b4 => ?_))))))
  refine cons (stv ty3 (Lens.id _) (.t rfl) (.c (v := I 0) rfl) ?_)
  refine nil (pN (seq (region (cons (alloc z4 (fun b5 => ?_))))))
  refine cons (stv ty4 (Lens.id _) (.t rfl) (.c (v := .bool false) rfl) ?_)
  refine nil (pN (seq (region (cons (opv (Ev.move (.t rfl)) (cons (calln (X := Nat × Nat) (fun _ => True) (fun x => (bnd 56 [] [.pointer (some ⟨x.1, 0, none⟩), .pointer (some ⟨x.2, 0, none⟩)]).v) (fun x => [Var x.2 (ovE nilFn) (clo 32 []) 80, Var x.1 (ovE nilPtr) t.ptr 24]) en8 (.cons (.t rfl) .nil) (fun w I => all_ok t w) (fun x1 _ => ?_))))))))
  refine cons (opv (Ev.assign (.t rfl)) (nil (pN (seq (seq (region (cons (opv (Ev.move (.t rfl)) (cons (opv (Ev.eql_fn Try.underlying27 (.t rfl) (.c rfl)) ?_))))))))))
  refine nil (pN (condF rfl (rfl) ?_))
  refine skip (pN (seq (seq (region (cons (opv (Ev.move (.t rfl)) (nil (pN (block (sepIn (r := Var b4 iE 0 3) (s := Var b5 bE false 4) (by repeat first | exact Rem.head | apply Rem.tail) (by repeat first | exact Rem.head | apply Rem.tail) ?_))))))))))
  refine sepIn (r := Var b3 ePrefix ePrefix.zero 36) (s := Sep (Var b4 iE 0 3) (Var b5 bE false 4)) (by repeat first | exact Rem.head | apply Rem.tail) (by repeat first | exact Rem.head | apply Rem.tail) ?_
  refine rangeF (ζ := Nat) (m := []) (ps := [19, 20]) encE (fun s : SPrefix × Int × Bool => Sep (Var b3 ePrefix s.1 36) (Sep (Var b4 iE s.2.1 3) (Var b5 bE s.2.2 4))) ((ePrefix.zero, 0, false) : SPrefix × Int × Bool) t.ents (fun x s s' => s' = fStep a s x) (fun _ _ _ _ => False) (fun x z => [dz, (3, true, .pointer (some ⟨b1, 0, none⟩)), (7, true, .pointer (some ⟨b3, 0, none⟩)), (8, true, .pointer (some ⟨b4, 0, none⟩)), (9, true, .pointer (some ⟨b5, 0, none⟩)), (11, true, .pointer (some ⟨z, 0, none⟩)), (12, true, I x.2)]) (fun x z => [Var z ePrefix x.1 36]) (fun _ => True) trivial (fun _ _ _ _ _ => trivial) (by repeat first | exact Rem.head | apply Rem.tail) (by repeat first | exact Rem.head | apply Rem.tail) rfl (.t rfl) ⟨56, [], [.pointer (some ⟨x1.1, 0, none⟩), .pointer (some ⟨x1.2, 0, none⟩)], rfl⟩ (fun _ => rfl) rfl (fun w I hb => all_iter t ho x1.1 x1.2 w _ (fun w1 k => ⟨ht.keep (hb w1 k).keeps, ptsVar (E' := ovE nilPtr) (by repeat first | exact mH | apply mT | apply mA) (Lens.id _) w1 (hb w1 k), ptsVar (E' := ovE nilFn) (by repeat first | exact mH | apply mT | apply mA) (Lens.id _) w1 (hb w1 k)⟩)) (fun l x w => ?_) (fun l x s zv n0 w hx hn0 hinv hft hb => ?_) (fun s D hr => ?_) (fun c s D hr => ?_)
  · refine seqI (regionI (consT (alloc z36 (fun b6 => ?_))))
    refine consT (stv ty36 (Lens.id _) (.t rfl) (.t rfl) ?_)
    refine nilI (pN (regionI (consT (opv (Ev.assign (.t rfl)) (nilI (gd b6 (by repeat first | exact Sub.nil | refine Sub.cons rfl ?_) (by repeat first | exact sR | exact sN | apply sC | apply sS | apply sA)))))))
  · refine sepOut Rem.head ?_
    refine sepOut (Rem.tail Rem.head) ?_
    refine blockI (seqI (regionI (consT (opv (Ev.ldv ty36 (.t rfl) (Lens.id _)) ?_))))
    refine consT (opv (Ev.load ty31 (.t rfl) (fun w I => ptsVar (by repeat first | exact mH | apply mT | apply mA) (Lens.id _) w (hb w I.keeps))) ?_)
    refine consT (callv en14 (.cons (.t rfl) (.cons (.t rfl) .nil)) (fun w I => hasP_ok x.1 a w) ?_)
    refine consT (opv (Ev.move (.t rfl)) (consT (opg rfl rfl (Ev.ldv ty4 (.t rfl) (Lens.id _)) ?_)))
    refine consT (opg rfl rfl (Ev.not (.g rfl id)) ?_)
    refine consT (opg rfl rfl (Ev.move (.g rfl id)) ?_)
    refine consT (opg rfl rfl (Ev.fieldAddr (o := 17) (.t rfl) (by kernel_rfl)) ?_)
    refine consT (opg rfl rfl (Ev.ldv ty3 (.g rfl id) SPrefix.l_bits) ?_)
    refine consT (opg rfl rfl (Ev.fieldAddr (o := 17) (.t rfl) (by kernel_rfl)) ?_)
    refine consT (opg rfl rfl (Ev.ldv ty3 (.g rfl id) SPrefix.l_bits) ?_)
    refine consT (opg rfl rfl (Ev.gtr_i (.g rfl id) (.g rfl id)) ?_)
    refine consT (opg rfl rfl (Ev.pickO (.g rfl id) (.c (v := .bool true) rfl) (fun {_} h => by cases h; rfl) ⟨_, rfl⟩ (by intro h1 h; first | (rw [h] <;> rfl) | (rw [h1, h] <;> rfl) | (rw [h, h1] <;> rfl) | simp_all)) ?_)
    refine consT (opv (Ev.pickA (.t rfl) (fun {_} h => by cases h; rfl) ⟨_, rfl⟩ (by intro h1 h; first | (rw [h] <;> rfl) | (rw [h1, h] <;> rfl) | (rw [h, h1] <;> rfl) | simp_all) (.c (v := .bool false) rfl)) ?_)
    refine nilI (pN ?_)
    first | refine iteDI rfl (fun h1 => ?_) (fun h1 => ?_) | refine iteI rfl (fun h1 => ?_) (fun h1 => ?_)
    · refine seqI (regionI (consT (opv (Ev.ldv ty36 (.t rfl) (Lens.id _)) ?_)))
      refine consT (stv ty36 (Lens.id _) (.t rfl) (.t rfl) ?_)
      refine nilI (pN (seqI (regionI (consT (opv (Ev.move (.t rfl)) (consT (stv ty3 (Lens.id _) (.t rfl) (.t rfl) ?_)))))))
      refine nilI (pN (regionI (consT (stv ty4 (Lens.id _) (.t rfl) (.c (v := .bool true) rfl) ?_))))
      refine nilI (bN ?_)
      have hk : (x.1, x.2, true) = fStep a s x := by unfold fStep; rw [if_pos (show (hasP x.1 a && (!s.2.2 || decide (s.1.bits < x.1.bits))) = true from h1)]
      refine sepIn (r := Var b4 iE x.2 3) (s := Var b5 bE true 4) (by repeat first | exact Rem.head | apply Rem.tail) (by repeat first | exact Rem.head | apply Rem.tail) ?_
      refine sepIn (r := Var b3 ePrefix x.1 36) (s := Sep (Var b4 iE x.2 3) (Var b5 bE true 4)) (by repeat first | exact Rem.head | apply Rem.tail) (by repeat first | exact Rem.head | apply Rem.tail) ?_
      exact rdN hn0 ((x.1, x.2, true) : SPrefix × Int × Bool) hk mH
    · refine skipI (bN ?_)
      have hk : s = fStep a s x := by unfold fStep; rw [if_neg (show ¬ (hasP x.1 a && (!s.2.2 || decide (s.1.bits < x.1.bits))) = true from by rw [show (hasP x.1 a && (!s.2.2 || decide (s.1.bits < x.1.bits))) = false from h1]; exact Bool.false_ne_true)]
      refine sepIn (r := Var b4 iE s.2.1 3) (s := Var b5 bE s.2.2 4) (by repeat first | exact Rem.head | apply Rem.tail) (by repeat first | exact Rem.head | apply Rem.tail) ?_
      refine sepIn (r := Var b3 ePrefix s.1 36) (s := Sep (Var b4 iE s.2.1 3) (Var b5 bE s.2.2 4)) (by repeat first | exact Rem.head | apply Rem.tail) (by repeat first | exact Rem.head | apply Rem.tail) ?_
      exact rdN hn0 s hk mH
  · have hfd := foundN hr
    refine sepOut Rem.head ?_
    refine sepOut (Rem.tail Rem.head) ?_
    refine bN (pN (seq (drawS 4 rfl (by repeat first | exact Rem.head | apply Rem.tail) (by kernel_rfl) ?_)))
    refine tk 0 rfl (Ev.ldv ty36 (.t rfl) (Lens.id _)) ?_
    refine tk 1 rfl (Ev.ldv ty3 (.t rfl) (Lens.id _)) ?_
    refine tk 2 rfl (Ev.ldv ty4 (.t rfl) (Lens.id _)) ?_
    refine al1 3 rfl ((stv ty36 (Lens.id _) (.t rfl) (.t rfl) ?_))
    refine hdn (tk 4 rfl (Ev.assign (.t rfl)) ?_)
    refine tk 5 rfl (Ev.assign (.t rfl)) ?_
    refine ovr (pN (ret (doneM (by repeat first | exact Rem.head | apply Rem.tail) rfl rfl (.cell rfl (fun w I => run_loadVar_pts ty36 (ptsVar (by repeat first | exact mH | apply mT | apply mA) (Lens.id _) w I)) (.tmp rfl (.tmp rfl .nil))) (retE ?_))))
    unfold foundV; rw [← hfd]; rfl
  · exact (runsX_false hr).elim
end Go.Proofs.Ytjjlofjpdklbgaa
