/- trie -/
import Derived.Test.YtjjlofjpdklbgaaT17
set_option linter.unusedVariables false
set_option linter.unusedSimpArgs false
namespace Go.Proofs.Ytjjlofjpdklbgaa
open Go Go.Gx

theorem find_dead (tv : OV) (w : World) (h : Dead tv w) (a : SAddr) : Calls Try.prog 11 #[tv.v, eAddr.val a] w (RetV w (.tuple #[ePrefix.val ePrefix.zero, I 0, .bool false])) := by
  refine enterM0 48 Try.func11 rfl rfl (Nat.le_of_ble_eq_true rfl) ?_
  refine seq (region (cons (box (E := eAddr) (.t rfl) (fun b1 => ?_))))
  refine cons (alloc z36 (fun b2 => ?_))
  refine cons (opv (Ev.assign (.c (v := I 0) rfl)) ?_)
  refine cons (opv (Ev.assign (.c (v := .bool false) rfl)) ?_)
  refine nil (pN (seq (region (cons (opv (Ev.assign (.c (v := I 32) rfl)) ?_)))))
  refine nil (pN (cut (X := Int) (fun x : Int => (x = wd a)) (fun x : Int => [dz, (0, true, tv.v), (3, true, .pointer (some ⟨b1, 0, none⟩)), (4, true, .pointer (some ⟨b2, 0, none⟩)), (5, true, I 0), (6, true, .bool false), (7, true, I x)]) (fun x : Int => [Var b2 ePrefix ePrefix.zero 36, Var b1 eAddr a 31, Dm []]) ?_ (fun x hx => ?_)))
  · refine seq (region (cons (opv (Ev.fieldAddr (o := 0) (.t rfl) (by kernel_rfl)) ?_)))
    refine cons (opv (Ev.ldx a.v6 ty4 (.t rfl) SAddr.l_v6) ?_)
    refine nil (pN ?_)
    first | refine condD rfl (fun h0 => ?_) (fun h0 => ?_) | refine cond rfl (fun h0 => ?_) (fun h0 => ?_)
    · try simp only [Gx.nb] at h0
      refine region (cons (opv (Ev.assign (.c (v := I 128) rfl)) ?_))
      refine nil (pN (mt (X := Int) (_) ?_))
      · try dsimp only
        unfold wd; rw [show a.v6 = _ from h0]; rfl
    · try simp only [Gx.nb] at h0
      refine skip (pN (mt (X := Int) (_) ?_))
      · try dsimp only
        unfold wd; rw [show a.v6 = _ from h0]; rfl
  obtain ⟨n, rfl⟩ : ∃ y, y = x := ⟨x, rfl⟩
  have hn : n = wd a := hx
  clear hx
  show Sat _ _ [dz, (0, true, tv.v), (3, true, .pointer (some ⟨b1, 0, none⟩)), (4, true, .pointer (some ⟨b2, 0, none⟩)), (5, true, I 0), (6, true, .bool false), (7, true, I n)] [Var b2 ePrefix ePrefix.zero 36, Var b1 eAddr a 31, Dm []]
  refine seq ?_
  obtain ⟨z, hz⟩ : ∃ z, ofV a n = z := ⟨_, rfl⟩
  obtain ⟨e0, he⟩ : ∃ z, ofE a n = z := ⟨_, rfl⟩
  refine region (cons (opv (Ev.ldx a ty31 (.t rfl) (Lens.id _)) ?_))
  refine cons (opv (Ev.move (.t rfl)) (cons (callv en38 (.cons (.t rfl) (.cons (.t rfl) .nil)) (fun w I => of_g _ _ w z e0 hz he) ?_)))
  refine cons (opv (Ev.move (.t rfl)) (cons (opv (Ev.extract (.t rfl) rfl) (cons (opv (Ev.extract (.t rfl) rfl) (cons (alloc z36 (fun b3 => ?_))))))))
  refine cons (stv ty36 (Lens.id _) (.t rfl) (.t rfl) ?_)
  refine cons (opv (Ev.assign (.t rfl)) (nil (pN (seq (seq (region (cons (opv (Ev.move (.t rfl)) (cons (callv en33 (.cons (.t rfl) .nil) (fun w I => there_dead tv w (h.keep I.keeps)) ?_))))))))))
  refine cons (opv (Ev.not (.t rfl)) ?_)
  refine cons (opv (Ev.move (.t rfl)) (cons (opg rfl rfl (Ev.move (.t rfl)) ?_)))
  refine cons (opg rfl rfl (Ev.neq_i (.g rfl id) (.c (v := I 0) rfl)) ?_)
  refine cons (opv (Ev.pickO (.t rfl) (.c (v := .bool true) rfl) (fun {_} h => by cases h; rfl) ⟨_, rfl⟩ (by intro h1 h; first | (rw [h] <;> rfl) | (rw [h1, h] <;> rfl) | (rw [h, h1] <;> rfl) | simp_all)) ?_)
  refine nil (pN (condT rfl (rfl) ?_))
  refine seq (region (cons (opv (Ev.buildS (fs := _) (places := [(0, 17), (17, 1)]) z36 rfl Try.underlying36 (by kernel_rfl) .nil Fills.nil) ?_)))
  refine cons (stv ty36 (Lens.id _) (.t rfl) (.t rfl) ?_)
  refine cons (opv (Ev.assign (.c (v := I 0) rfl)) ?_)
  refine cons (opv (Ev.assign (.c (v := .bool false) rfl)) ?_)
  refine nil (pN (ret (pR (doneM (by repeat first | exact Rem.head | apply Rem.tail) rfl rfl (.cell rfl (fun w I => run_loadVar_pts ty36 (ptsVar (by repeat first | exact mH | apply mT | apply mA) (Lens.id _) w I)) (.tmp rfl (.tmp rfl .nil))) (retE ?_)))))
  rfl

theorem z51 : (Try.prog.info? 51).bind (·.zero) = some ((ovE nilSl).val (ovE nilSl).zero) := by kernel_rfl

theorem ty51 : TyOK Try.prog 51 (ovE nilSl) := TyOK.mk' (by kernel_rfl) (by kernel_rfl)

theorem shape_dead (tv : OV) (w : World) (h : Dead tv w) : Calls Try.prog 19 #[tv.v] w (RetO w ePrefix [] 36) := by
  refine enterM0 16 Try.func19 rfl rfl (Nat.le_of_ble_eq_true rfl) ?_
  refine seq (region (cons (opv (Ev.assign (.c (v := (Go.Value.slice none 0 0)) rfl)) ?_)))
  refine nil (pN (seq (region (cons (alloc z51 (fun b1 => ?_))))))
  refine nil (pN (seq (seq (takeNil ePrefix 36 ?_))))
  refine region (cons (opv (Ev.move (.t rfl)) (cons (opv (Ev.makeBound (f := 43) (.cons (.t rfl) .nil) .nil) ?_))))
  refine nil (pN (block (emp0 ?_)))
  refine rangeF (ζ := Unit) (m := []) (ps := [7]) encN (fun _ : Unit => Emp) () ([] : List PT) (fun _ _ _ => True) (fun _ _ _ _ => False) (fun x z => [dz, (4, true, x.ptr.v)]) (fun x z => ([] : List Res)) (fun _ => True) trivial (fun _ _ _ _ _ => trivial) (by repeat first | exact Rem.head | apply Rem.tail) (by repeat first | exact Rem.head | apply Rem.tail) rfl (.t rfl) ⟨43, [tv.v], [], rfl⟩ (fun _ => rfl) rfl (fun w I hb => nodes_dead_iter tv w _ (fun w1 k => h.keep (hb w1 k).keeps)) (fun l x w => ?_) (fun l x s zv n0 w hx hn0 hinv hft hb => ?_) (fun s D hr => ?_) (fun c s D hr => ?_)
  · refine regionI (consT (opv (Ev.assign (.t rfl)) (nilI (gd () (by repeat first | exact Sub.nil | refine Sub.cons rfl ?_) (by repeat first | exact sR | exact sN | apply sC | apply sS | apply sA)))))
  · exact absurd hx List.not_mem_nil
  · refine bN (pN (seq (region (cons (opv (Ev.to (v' := nilSl.v) (Ev.ldv ty51 (.t rfl) (Lens.id _)) (rfl)) ?_)))))
    refine cons (opv (Ev.assign (.t rfl)) (nil (pN (ret (doneM (by repeat first | exact Rem.head | apply Rem.tail) rfl rfl (.tmp rfl .nil) (retOE (by repeat first | exact mH | apply mT | apply mA) ?_))))))
    rfl
  · exact (runsX_false hr).elim

def enE (x : SPrefix × Int) : SRef18Entry := ⟨x.1, x.2⟩
abbrev toldJ (most : Int) : SPrefix × Int → OV × List SRef18Entry → OV × List SRef18Entry → Prop := fun x s s' => (s.2.length : Int) < most ∧ s'.2 = s.2 ++ [enE x]
abbrev toldX (most : Int) : SPrefix × Int → OV × List SRef18Entry → Code → OV × List SRef18Entry → Prop := fun x s c s' => c = .exit 0 ∧ most ≤ (s.2.length : Int) ∧ s'.2 = s.2
theorem toldN {most : Int} : ∀ {xs : List (SPrefix × Int)} {s t : OV × List SRef18Entry}, RunsN (toldJ most) xs s t → t.2 = s.2 ++ (xs.map enE).take (most.toNat - s.2.length)
  | [], s, t, h => by rw [show t = s from h]; simp
  | x :: xs, s, t, ⟨q, ⟨h1, h2⟩, h⟩ => by
    have h3 := toldN h
    have e : most.toNat - s.2.length = (most.toNat - q.2.length) + 1 := by rw [h2]; simp; omega
    rw [h3, e, List.map_cons, List.take_succ_cons, h2, List.append_assoc]
    rfl
theorem toldE {most : Int} {c : Code} : ∀ {xs : List (SPrefix × Int)} {s t : OV × List SRef18Entry}, RunsX (toldJ most) (toldX most) c xs s t → c = .exit 0 ∧ t.2 = s.2 ++ (xs.map enE).take (most.toNat - s.2.length)
  | [], s, t, h => h.elim
  | x :: xs, s, t, .inl ⟨h1, h2, h3⟩ => ⟨h1, by rw [h3, show most.toNat - s.2.length = 0 by omega]; simp⟩
  | x :: xs, s, t, .inr ⟨q, ⟨h1, h2⟩, h⟩ => by
    obtain ⟨h4, h3⟩ := toldE h
    have e : most.toNat - s.2.length = (most.toNat - q.2.length) + 1 := by rw [h2]; simp; omega
    refine ⟨h4, ?_⟩
    rw [h3, e, List.map_cons, List.take_succ_cons, h2, List.append_assoc]
    rfl

theorem z53 : (Try.prog.info? 53).bind (·.zero) = some ((ovE nilSl).val (ovE nilSl).zero) := by kernel_rfl

theorem ty53 : TyOK Try.prog 53 (ovE nilSl) := TyOK.mk' (by kernel_rfl) (by kernel_rfl)

theorem z97 : (Try.prog.info? 97).bind (·.zero) = some (eRef18Entry.val eRef18Entry.zero) := by kernel_rfl

theorem ty97 : TyOK Try.prog 97 eRef18Entry := TyOK.mk' (by kernel_rfl) (by kernel_rfl)

theorem zb97 : (Try.prog.info? 97).map (fun i => (i.zero, i.bytes)) = some (some (eRef18Entry.val eRef18Entry.zero), 40) := by kernel_rfl

theorem zs97 : (eRef18Entry.val eRef18Entry.zero).cells.size = eRef18Entry.size := by rw [Enc.cells_val, List.size_toArray, Enc.len]

theorem told_ok (f : FuncId) (fst cap : List Value) (xs : List (SPrefix × Int)) (most : Int) (w : World) (hm : 0 ≤ most ∧ most ≤ 3000000000) (hI : ∀ (w1 : World) (M : Nat → Prop), (∀ w2, Keeps M w1 w2 → Keeps Nope w w2) → IterAt Try.prog (bnd f fst cap).v encE w1 M xs) : Calls Try.prog 20 #[(bnd f fst cap).v, I most] w (RetO w eRef18Entry ((xs.map enE).take most.toNat) 97) := by
  refine enterM0 26 Try.func20 rfl rfl (Nat.le_of_ble_eq_true rfl) ?_
  refine seq (region (cons (box (E := iE) (.t rfl) (fun b1 => ?_))))
  refine cons (opv (Ev.assign (.c (v := (Go.Value.slice none 0 0)) rfl)) ?_)
  refine nil (pN (seq (region (cons (alloc z53 (fun b2 => ?_))))))
  refine nil (pN (seq (seq (takeNil eRef18Entry 97 ?_))))
  refine region (cons (opv (Ev.move (.t rfl)) (cons (opv (Ev.eql_fn Try.underlying27 (.t rfl) (.c rfl)) ?_))))
  refine nil (pN (condF rfl (rfl) ?_))
  refine skip (pN (seq (seq (region (cons (opv (Ev.move (.t rfl)) (nil (pN (block (sepIn (r := Var b2 (ovE nilSl) nilSl 53) (s := OwnS nilSl.v eRef18Entry [] 97) (by repeat first | exact Rem.head | apply Rem.tail) (by repeat first | exact Rem.head | apply Rem.tail) ?_))))))))))
  refine rangeF (ζ := Nat) (m := []) (ps := [13, 14]) encE (fun s : OV × List SRef18Entry => Sep (Var b2 (ovE nilSl) s.1 53) (OwnS s.1.v eRef18Entry s.2 97)) ((nilSl, []) : OV × List SRef18Entry) xs (toldJ most) (toldX most) (fun x z => [dz, (3, true, .pointer (some ⟨b1, 0, none⟩)), (5, true, .pointer (some ⟨b2, 0, none⟩)), (6, true, .pointer (some ⟨z, 0, none⟩)), (7, true, I x.2)]) (fun x z => [Var z ePrefix x.1 36]) (fun _ => True) trivial (fun _ _ _ _ _ => trivial) (by repeat first | exact Rem.head | apply Rem.tail) (by repeat first | exact Rem.head | apply Rem.tail) rfl (.t rfl) ⟨f, fst, cap, rfl⟩ (fun _ => rfl) rfl (fun w I hb => hI w _ (fun w1 k => (hb w1 k).keeps)) (fun l x w => ?_) (fun l x s zv n0 w hx hn0 hinv hft hb => ?_) (fun s D hr => ?_) (fun c s D hr => ?_)
  · refine seqI (regionI (consT (alloc z36 (fun b3 => ?_))))
    refine consT (stv ty36 (Lens.id _) (.t rfl) (.t rfl) ?_)
    refine nilI (pN (regionI (consT (opv (Ev.assign (.t rfl)) (nilI (gd b3 (by repeat first | exact Sub.nil | refine Sub.cons rfl ?_) (by repeat first | exact sR | exact sN | apply sC | apply sS | apply sA)))))))
  · refine sepOut Rem.head ?_
    refine blockI (seqI (seqI (regionI (consT (opv (Ev.to (v' := s.1.v) (Ev.ldv ty53 (.t rfl) (Lens.id _)) (rfl)) ?_)))))
    refine consT (opv (Ev.len Try.underlying53 (.t rfl) (by first | exact isSl_own (by repeat first | exact mH | apply mT | apply mA) | exact fun w I => IsSl.keep0 (by assumption) I.keeps)) ?_)
    refine consT (opv (Ev.to (v' := I most) (Ev.load ty3 (.t rfl) (fun w I => ptsVar (by repeat first | exact mH | apply mT | apply mA) (Lens.id _) w (hb w I.keeps))) (rfl)) ?_)
    refine consT (opv (Ev.geq_i (.t rfl) (.t rfl)) ?_)
    refine nilI (pN ?_)
    first | refine iteDI rfl (fun h1 => ?_) (fun h1 => ?_) | refine iteI rfl (fun h1 => ?_) (fun h1 => ?_)
    · try simp only [Gx.nb] at h1
      refine exitI (pX (bO rfl (sepIn (r := Var b2 (ovE nilSl) s.1 53) (s := OwnS s.1.v eRef18Entry s.2 97) (by repeat first | exact Rem.head | apply Rem.tail) (by repeat first | exact Rem.head | apply Rem.tail) ?_)))
      exact rdX hn0 s ⟨rfl, h1, rfl⟩ mH
    · try simp only [Gx.nb] at h1
      refine skipI (pN (regionI (consT (opv (Ev.to (v' := s.1.v) (Ev.ldv ty53 (.t rfl) (Lens.id _)) (rfl)) ?_))))
      refine consT (opv (Ev.ldv ty36 (.t rfl) (Lens.id _)) ?_)
      refine consT (opv (Ev.move (.t rfl)) (consT (opv (Ev.buildS (fs := _) (places := [(0, 18), (18, 1)]) z97 rfl Try.underlying97 (by kernel_rfl) (.cons (.t rfl) (.cons (.t rfl) .nil)) (Fills.cons SRef18Entry.l_p rfl (Fills.cons SRef18Entry.l_v rfl Fills.nil))) ?_)))
      refine consT (buildSlice (E := eRef18Entry) Try.underlying53 ty97 z97 (.cons (.t rfl) .nil) rfl rfl (fun v4 => ?_))
      refine consT (app (E := eRef18Entry) Try.underlying53 ty97 zb97 zs97 (.t rfl) (.t rfl) (fun v5 => ?_) (hby := ⟨by (show _ ≤ 9223372036854775807); first | omega | (simp; done) | (simp; omega), by first | omega | (simp; done) | (simp; omega)⟩))
      refine consT (stv ty53 (Lens.id _) (.t rfl) (.t rfl) ?_)
      refine nilI (bN (sepIn (r := Var b2 (ovE nilSl) v5 53) (s := OwnS v5.v eRef18Entry (s.2 ++ [enE x]) 97) (by repeat first | exact Rem.head | apply Rem.tail) (by repeat first | exact Rem.head | apply Rem.tail) ?_))
      exact rdN hn0 ((v5, s.2 ++ [enE x]) : OV × List SRef18Entry) ⟨by omega, rfl⟩ mH
  · have htl := toldN hr
    refine sepOut Rem.head ?_
    refine bN (pN (seq (region (cons (opv (Ev.to (v' := s.1.v) (Ev.ldv ty53 (.t rfl) (Lens.id _)) (rfl)) ?_)))))
    refine cons (opv (Ev.assign (.t rfl)) (nil (pN (ret (doneM (by repeat first | exact Rem.head | apply Rem.tail) rfl rfl (.tmp rfl .nil) (retOE (by repeat first | exact mH | apply mT | apply mA) ?_))))))
    simpa using htl
  · obtain ⟨rfl, htl⟩ := toldE hr
    refine sepOut Rem.head ?_
    refine exit (bX (pN (seq (region (cons (opv (Ev.to (v' := s.1.v) (Ev.ldv ty53 (.t rfl) (Lens.id _)) (rfl)) ?_))))))
    refine cons (opv (Ev.assign (.t rfl)) (nil (pN (ret (doneM (by repeat first | exact Rem.head | apply Rem.tail) rfl rfl (.tmp rfl .nil) (retOE (by repeat first | exact mH | apply mT | apply mA) ?_))))))
    simpa using htl
end Go.Proofs.Ytjjlofjpdklbgaa
