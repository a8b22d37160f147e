/- packet -/
import Derived.Test.YtegcihhhighipaaP20
set_option linter.unusedVariables false
set_option linter.unusedSimpArgs false
namespace Go.Proofs.Ytegcihhhighipaa
open Go Go.Gx

/-- It hands back a value over a new slice. -/
def RetU (w : World) (val : OV → Value) (xs : List UInt8) : Ending → World → Prop := RetN w (fun _ : OV => True) val (fun o => [OwnS o.v u8E xs 5])
theorem uni {w : World} {c : Prop} [Decidable c] {val : OV → Value} {xs : List UInt8} {e : Ending} {w' : World} (h : RetN w (fun o : OV => ¬ c → o = nilSl) val (fun o => if c then [OwnS o.v u8E xs 5] else []) e w') : RetU w val (if c then xs else []) e w' := by
  obtain ⟨o, hj, he, hk, hn⟩ := h
  refine ⟨o, trivial, he, hk, ?_⟩
  by_cases hc : c
  · simpa only [if_pos hc] using hn
  · rw [if_neg hc, hj hc]
    refine ⟨fun r hr => ?_, List.pairwise_singleton _ _⟩
    obtain rfl := List.mem_singleton.1 hr
    exact ⟨by show (OwnS (.slice none 0 0) u8E [] 5).A w'; simpa [Enc.row, OwnS] using World.ownsRow_nil w' 0 5 u8E.size, fun b hb => by cases hb⟩
def makeU (h : SHeader) (d : List UInt8) : List UInt8 := if checkH h d.length = 0 then makeB h d else []
def readU (b : List UInt8) : List UInt8 := if readE b = 0 then readD b else []
def olderU (b : List UInt8) : List UInt8 := if olderE b = 0 then makeB (oldH (readH b)) (readD b) else []
theorem make_u (h : SHeader) (d : List UInt8) (w : World) (hd : IsSl u8E w h.data.v d) (hl : d.length ≤ 1152921504606846975) : Calls Try.prog 13 #[eHeader.val h] w (RetU w (fun o => .tuple #[o.v, I (checkH h d.length)]) (makeU h d)) := (make_ok h d w hd hl).mono fun _ _ h => uni h
theorem read_u (v : Value) (b : List UInt8) (w : World) (hb : IsSl u8E w v b) : Calls Try.prog 22 #[v] w (RetU w (fun o => .tuple #[eHeader.val (wD (readH b) o), I (readN b), I (readE b)]) (readU b)) := (read_ok v b w hb).mono fun _ _ h => uni h
theorem rread_u (v : Value) (b : List UInt8) (w : World) (hb : IsSl u8E w v b) : Calls Try.prog 51 #[v] w (RetU w (fun o => .tuple #[eHeader.val (wD (readH b) o), I (readN b), I (readE b)]) (readU b)) := (rread_ok v b w hb).mono fun _ _ h => uni h
theorem older_u (v : Value) (b : List UInt8) (w : World) (hb : IsSl u8E w v b) : Calls Try.prog 27 #[v] w (RetU w (fun o => .tuple #[o.v, I (olderE b)]) (olderU b)) := (older_ok v b w hb).mono fun _ _ h => uni h
theorem rolder_u (v : Value) (b : List UInt8) (w : World) (hb : IsSl u8E w v b) : Calls Try.prog 52 #[v] w (RetU w (fun o => .tuple #[o.v, I (olderE b)]) (olderU b)) := (rolder_ok v b w hb).mono fun _ _ h => uni h
/-- The header of the examples, its packet. -/
def plainA (x : UInt8) : Vector UInt8 16 := #v[10, 0, 0, x, 0, 0, 0, 0, 0, 0, 0, 0, 0, 0, 0, 0]
def plainH : SHeader := { eHeader.zero with src := ⟨false, plainA 1⟩, dst := ⟨false, plainA 2⟩, proto := 17, srcPort := 7, dstPort := 53, tTL := 64 }
def wireB : List UInt8 := [69, 0, 0, 29, 0, 0, 64, 0, 64, 17, 38, 206, 10, 0, 0, 1, 10, 0, 0, 2, 0, 7, 0, 53, 0, 9, 234, 157, 1]
theorem wire_check : checkH plainH ([1] : List UInt8).length = 0 := by decide +kernel
theorem wire_make : makeU plainH [1] = wireB := by decide +kernel
theorem wire_read : readE wireB = 0 ∧ readN wireB = 29 ∧ readU wireB = [1] ∧ (readH wireB).dstPort = 53 := by decide +kernel
theorem wire_same (o p : OV) : sameB (wD (readH wireB) o) (wD plainH p) [1] [1] = true := by
  have h : sameB (readH wireB) plainH [1] [1] = true := by decide +kernel
  exact h

theorem z22 : (Try.prog.info? 22).bind (·.zero) = some ((arrE 16 u8E).val (arrE 16 u8E).zero) := by kernel_rfl

theorem plain_ok (w : World) : Calls Try.prog 29 #[] w (RetU w (fun o => eHeader.val (wD plainH o)) [1]) := by
  refine enter0 11 Try.func29 rfl rfl (Nat.le_of_ble_eq_true rfl) ?_
  refine seq ?_
  refine region ?_
  refine cons (alloc z29 (fun b1 => ?_))
  refine nil ?_
  refine pN ?_
  refine seq ?_
  refine region ?_
  refine cons (buildSlice (E := u8E) Try.underlying27 ty5 z5 (.cons (.c (v := U8 1) rfl) .nil) rfl rfl (fun v2 => ?_))
  refine cons (opv (Ev.buildS (fs := _) (places := [(0, 17), (17, 17), (34, 1), (35, 1), (36, 1), (37, 1), (38, 1), (39, 1), (40, 1), (41, 1), (42, 1)]) z29 rfl Try.underlying29 (by kernel_rfl) (.cons (.c (v := U8 17) rfl) (.cons (.c (v := U16 7) rfl) (.cons (.c (v := U16 53) rfl) (.cons (.c (v := U8 64) rfl) (.cons (.t rfl) .nil))))) (Fills.cons SHeader.l_proto rfl (Fills.cons SHeader.l_srcPort rfl (Fills.cons SHeader.l_dstPort rfl (Fills.cons SHeader.l_tTL rfl (Fills.cons SHeader.l_data rfl Fills.nil)))))) ?_)
  refine cons (alloc z29 (fun b3 => ?_))
  refine cons (storeV ty29 (Lens.id _) (.t rfl) (.t rfl) (by repeat first | exact Upd.head | apply Upd.tail | apply Upd.right) ?_)
  refine nil ?_
  refine pN ?_
  refine seq ?_
  refine region ?_
  refine cons (opv (Ev.buildA z22 Try.underlying22 ty5 (.cons (.c (v := U8 10) rfl) (.cons (.c (v := U8 0) rfl) (.cons (.c (v := U8 0) rfl) (.cons (.c (v := U8 1) rfl) .nil)))) (Fills.cons (lArr u8E 0 (by decide)) rfl (Fills.cons (lArr u8E 1 (by decide)) rfl (Fills.cons (lArr u8E 2 (by decide)) rfl (Fills.cons (lArr u8E 3 (by decide)) rfl Fills.nil))))) ?_)
  refine cons (opv (Ev.fieldAddr (o := 0) (.t rfl) (by kernel_rfl)) ?_)
  refine cons (opv (Ev.fieldAddr (o := 1) (.t rfl) (by kernel_rfl)) ?_)
  refine cons (storeV ty22 (Lens.comp SHeader.l_src SAddr.l_b) (.t rfl) (.t rfl) (by repeat first | exact Upd.head | apply Upd.tail | apply Upd.right) ?_)
  refine nil ?_
  refine pN ?_
  refine seq ?_
  refine region ?_
  refine cons (opv (Ev.buildA z22 Try.underlying22 ty5 (.cons (.c (v := U8 10) rfl) (.cons (.c (v := U8 0) rfl) (.cons (.c (v := U8 0) rfl) (.cons (.c (v := U8 2) rfl) .nil)))) (Fills.cons (lArr u8E 0 (by decide)) rfl (Fills.cons (lArr u8E 1 (by decide)) rfl (Fills.cons (lArr u8E 2 (by decide)) rfl (Fills.cons (lArr u8E 3 (by decide)) rfl Fills.nil))))) ?_)
  refine cons (opv (Ev.fieldAddr (o := 17) (.t rfl) (by kernel_rfl)) ?_)
  refine cons (opv (Ev.fieldAddr (o := 1) (.t rfl) (by kernel_rfl)) ?_)
  refine cons (storeV ty22 (Lens.comp SHeader.l_dst SAddr.l_b) (.t rfl) (.t rfl) (by repeat first | exact Upd.head | apply Upd.tail | apply Upd.right) ?_)
  refine nil ?_
  refine pN ?_
  refine seq ?_
  refine region ?_
  refine cons (opv (Ev.load ty29 (.t rfl) (ptsVar (by repeat first | exact mH | apply mT | apply mA) (Lens.id _))) ?_)
  refine cons (storeV ty29 (Lens.id _) (.t rfl) (.t rfl) (by repeat first | exact Upd.head | apply Upd.tail | apply Upd.right) ?_)
  refine nil ?_
  refine pN ?_
  refine ret ?_
  refine done rfl (.cell rfl (fun w I => run_loadVar_pts ty29 (ptsVar (by repeat first | exact mH | apply mT | apply mA) (Lens.id _) w I)) .nil) (fun w I => ?_)
  exact retN v2 trivial (by rfl) (by repeat first | exact List.Sublist.refl _ | exact List.nil_sublist _ | apply List.Sublist.cons_cons | apply List.Sublist.cons) w I

theorem wire_ok (w : World) : Calls Try.prog 28 #[] w (RetO w u8E wireB 5) := by
  refine enter0 2 Try.func28 rfl rfl (Nat.le_of_ble_eq_true rfl) ?_
  refine seq ?_
  refine region ?_
  refine cons (opv (Ev.assign (.c (v := (Go.Value.slice none 0 0)) rfl)) ?_)
  refine nil ?_
  refine pN ?_
  refine seq ?_
  refine region ?_
  refine cons (buildSlice (E := u8E) Try.underlying27 ty5 z5 (.cons (.c (v := U8 69) rfl) (.cons (.c (v := U8 0) rfl) (.cons (.c (v := U8 0) rfl) (.cons (.c (v := U8 29) rfl) (.cons (.c (v := U8 0) rfl) (.cons (.c (v := U8 0) rfl) (.cons (.c (v := U8 64) rfl) (.cons (.c (v := U8 0) rfl) (.cons (.c (v := U8 64) rfl) (.cons (.c (v := U8 17) rfl) (.cons (.c (v := U8 38) rfl) (.cons (.c (v := U8 206) rfl) (.cons (.c (v := U8 10) rfl) (.cons (.c (v := U8 0) rfl) (.cons (.c (v := U8 0) rfl) (.cons (.c (v := U8 1) rfl) (.cons (.c (v := U8 10) rfl) (.cons (.c (v := U8 0) rfl) (.cons (.c (v := U8 0) rfl) (.cons (.c (v := U8 2) rfl) (.cons (.c (v := U8 0) rfl) (.cons (.c (v := U8 7) rfl) (.cons (.c (v := U8 0) rfl) (.cons (.c (v := U8 53) rfl) (.cons (.c (v := U8 0) rfl) (.cons (.c (v := U8 9) rfl) (.cons (.c (v := U8 234) rfl) (.cons (.c (v := U8 157) rfl) (.cons (.c (v := U8 1) rfl) .nil))))))))))))))))))))))))))))) rfl rfl (fun v1 => ?_))
  refine cons (opv (Ev.assign (.t rfl)) ?_)
  refine nil ?_
  refine pN ?_
  refine ret ?_
  refine done rfl (.tmp rfl .nil) (retOE (by repeat first | exact mH | apply mT | apply mA) ?_)
  rfl

theorem en29 : Enters Try.prog 29 := Enters.mk' (by kernel_rfl)

theorem en28 : Enters Try.prog 28 := Enters.mk' (by kernel_rfl)

theorem en18 : Enters Try.prog 18 := Enters.mk' (by kernel_rfl)

theorem en19 : Enters Try.prog 19 := Enters.mk' (by kernel_rfl)

theorem works_ok (w : World) : Calls Try.prog 16 #[] w (RetV w (.bool true)) := by
  refine enter0 42 Try.func16 rfl rfl (Nat.le_of_ble_eq_true rfl) ?_
  refine seq ?_
  refine region ?_
  refine cons (opv (Ev.assign (.c (v := .bool false) rfl)) ?_)
  refine nil ?_
  refine pN ?_
  refine seq ?_
  refine region ?_
  refine cons (calln (X := OV) (fun _ : OV => True) (fun o => eHeader.val (wD plainH o)) (fun o => [OwnS o.v u8E [1] 5]) en29 .nil (fun w I => plain_ok w) (fun x1 _ => ?_))
  refine cons (calln (X := OV) (fun _ : OV => True) (fun o => .tuple #[o.v, I (checkH (wD plainH x1) ([1]).length)]) (fun o => [OwnS o.v u8E (makeU (wD plainH x1) [1]) 5]) en13 (.cons (.t rfl) .nil) (fun w I => make_u (wD plainH x1) [1] w (isSl_own (by repeat first | exact mH | apply mT | apply mA) w I) (by decide)) (fun x2 _ => ?_))
  refine cons (opv (Ev.move (.t rfl)) ?_)
  refine cons (opv (Ev.extract (.t rfl) rfl) ?_)
  refine cons (opv (Ev.to (v' := I 0) (Ev.extract (.t rfl) rfl) (congrArg I wire_check)) ?_)
  refine cons (opv (Ev.assign (.t rfl)) ?_)
  refine cons (opv (Ev.assign (.t rfl)) ?_)
  refine nil ?_
  refine pN ?_
  refine seq ?_
  refine region ?_
  rw [show makeU (wD plainH x1) [1] = wireB from wire_make]
  refine cons (opv (Ev.move (.t rfl)) ?_)
  refine cons (calln (X := OV) (fun _ : OV => True) (fun o => .tuple #[eHeader.val (wD (readH wireB) o), I (readN wireB), I (readE wireB)]) (fun o => [OwnS o.v u8E (readU wireB) 5]) en22 (.cons (.t rfl) .nil) (fun w I => read_u _ wireB w (isSl_own (by repeat first | exact mH | apply mT | apply mA) w I)) (fun x3 _ => ?_))
  refine cons (opv (Ev.move (.t rfl)) ?_)
  refine cons (opv (Ev.extract (.t rfl) rfl) ?_)
  refine cons (opv (Ev.to (v' := I 29) (Ev.extract (.t rfl) rfl) (congrArg I wire_read.2.1)) ?_)
  refine cons (opv (Ev.to (v' := I 0) (Ev.extract (.t rfl) rfl) (congrArg I wire_read.1)) ?_)
  refine cons (alloc z29 (fun b1 => ?_))
  refine cons (storeV ty29 (Lens.id _) (.t rfl) (.t rfl) (by repeat first | exact Upd.head | apply Upd.tail | apply Upd.right) ?_)
  refine cons (opv (Ev.assign (.t rfl)) ?_)
  refine cons (opv (Ev.assign (.t rfl)) ?_)
  refine nil ?_
  refine pN ?_
  refine seq ?_
  refine draw' (by kernel_rfl) ?_
  refine take 0 rfl (by kernel_rfl) (by kernel_rfl) (by kernel_rfl) (by repeat first | exact sR | exact sN | apply sC | apply sS | apply sA) (Ev.move (.t rfl)) ?_
  refine take 1 rfl (by kernel_rfl) (by kernel_rfl) (by kernel_rfl) (by repeat first | exact sR | exact sN | apply sC | apply sS | apply sA) (Ev.eql_i (.t rfl) (.c (v := I 0) rfl)) ?_
  refine take 2 rfl (by kernel_rfl) (by kernel_rfl) (by kernel_rfl) (by repeat first | exact sR | exact sN | apply sC | apply sS | apply sA) (Ev.move (.t rfl)) ?_
  refine takeg 3 rfl (by kernel_rfl) (by kernel_rfl) (by kernel_rfl) (by repeat first | exact sR | exact sN | apply sC | apply sS | apply sA) rfl rfl (Ev.move (.t rfl)) ?_
  refine takeg 4 rfl (by kernel_rfl) (by kernel_rfl) (by kernel_rfl) (by repeat first | exact sR | exact sN | apply sC | apply sS | apply sA) rfl rfl (Ev.eql_i (.g rfl id) (.c (v := I 0) rfl)) ?_
  refine take 5 rfl (by kernel_rfl) (by kernel_rfl) (by kernel_rfl) (by repeat first | exact sR | exact sN | apply sC | apply sS | apply sA) (Ev.pickA (.t rfl) (fun {_} h => by cases h; rfl) ⟨_, rfl⟩ (by intro h1 h; first | (rw [h] <;> rfl) | (rw [h1, h] <;> rfl) | (rw [h, h1] <;> rfl) | simp_all) (.c (v := .bool false) rfl)) ?_
  refine take 6 rfl (by kernel_rfl) (by kernel_rfl) (by kernel_rfl) (by repeat first | exact sR | exact sN | apply sC | apply sS | apply sA) (Ev.move (.t rfl)) ?_
  refine takeg 7 rfl (by kernel_rfl) (by kernel_rfl) (by kernel_rfl) (by repeat first | exact sR | exact sN | apply sC | apply sS | apply sA) rfl rfl (Ev.move (.t rfl)) ?_
  refine takeg 8 rfl (by kernel_rfl) (by kernel_rfl) (by kernel_rfl) (by repeat first | exact sR | exact sN | apply sC | apply sS | apply sA) rfl rfl (Ev.eql_i (.g rfl id) (.c (v := I 29) rfl)) ?_
  refine take 9 rfl (by kernel_rfl) (by kernel_rfl) (by kernel_rfl) (by repeat first | exact sR | exact sN | apply sC | apply sS | apply sA) (Ev.pickA (.t rfl) (fun {_} h => by cases h; rfl) ⟨_, rfl⟩ (by intro h1 h; first | (rw [h] <;> rfl) | (rw [h1, h] <;> rfl) | (rw [h, h1] <;> rfl) | simp_all) (.c (v := .bool false) rfl)) ?_
  refine take 10 rfl (by kernel_rfl) (by kernel_rfl) (by kernel_rfl) (by repeat first | exact sR | exact sN | apply sC | apply sS | apply sA) (Ev.move (.t rfl)) ?_
  refine takeg 11 rfl (by kernel_rfl) (by kernel_rfl) (by kernel_rfl) (by repeat first | exact sR | exact sN | apply sC | apply sS | apply sA) rfl rfl (Ev.move (.t rfl)) ?_
  refine all [12] (by kernel_rfl) (by decide) (.cons rfl ?_ .nil)
  refine (opgT rfl rfl rfl ?_)
  refine (callo en28 .nil (fun w I => wire_ok w) (fun v2 => ?_))
  refine heldN_of (by repeat first | exact sR | exact sN | apply sC | apply sS | apply sA) ?_
  refine all [13] (by kernel_rfl) (by decide) (.cons rfl ?_ .nil)
  refine (callg rfl rfl en18 (.cons (.g rfl id) (.cons (.t rfl) .nil)) (fun hg w I => sameBytes_ok _ _ wireB wireB w (isSl_own (by repeat first | exact mH | apply mT | apply mA) w I) (isSl_own (by repeat first | exact mH | apply mT | apply mA) w I)) ?_)
  refine heldN_of (by repeat first | exact sR | exact sN | apply sC | apply sS | apply sA) ?_
  refine take 14 rfl (by kernel_rfl) (by kernel_rfl) (by kernel_rfl) (by repeat first | exact sR | exact sN | apply sC | apply sS | apply sA) (Ev.pickA (.t rfl) (fun {_} h => by cases h; rfl) ⟨_, rfl⟩ (by intro h1 h; first | (rw [h] <;> rfl) | (rw [h1, h] <;> rfl) | (rw [h, h1] <;> rfl) | simp_all) (.c (v := .bool false) rfl)) ?_
  refine take 15 rfl (by kernel_rfl) (by kernel_rfl) (by kernel_rfl) (by repeat first | exact sR | exact sN | apply sC | apply sS | apply sA) (Ev.move (.t rfl)) ?_
  refine takeg 16 rfl (by kernel_rfl) (by kernel_rfl) (by kernel_rfl) (by repeat first | exact sR | exact sN | apply sC | apply sS | apply sA) rfl rfl (Ev.load ty29 (.t rfl) (ptsVar (by repeat first | exact mH | apply mT | apply mA) (Lens.id _))) ?_
  refine all [17] (by kernel_rfl) (by decide) (.cons rfl ?_ .nil)
  refine (opgT rfl rfl rfl ?_)
  refine (calln (X := OV) (fun _ : OV => True) (fun o => eHeader.val (wD plainH o)) (fun o => [OwnS o.v u8E [1] 5]) en29 .nil (fun w I => plain_ok w) (fun x4 _ => ?_))
  refine heldN_of (by repeat first | exact sR | exact sN | apply sC | apply sS | apply sA) ?_
  refine all [18] (by kernel_rfl) (by decide) (.cons rfl ?_ .nil)
  refine (callg rfl rfl en19 (.cons (.g rfl id) (.cons (.t rfl) .nil)) (fun hg w I => (wire_same x3 x4) ▸ same_ok (wD (readH wireB) x3) (wD plainH x4) [1] [1] w (isSl_own (by repeat first | exact mH | apply mT | apply mA) w I) (isSl_own (by repeat first | exact mH | apply mT | apply mA) w I)) ?_)
  refine heldN_of (by repeat first | exact sR | exact sN | apply sC | apply sS | apply sA) ?_
  refine take 19 rfl (by kernel_rfl) (by kernel_rfl) (by kernel_rfl) (by repeat first | exact sR | exact sN | apply sC | apply sS | apply sA) (Ev.pickA (.t rfl) (fun {_} h => by cases h; rfl) ⟨_, rfl⟩ (by intro h1 h; first | (rw [h] <;> rfl) | (rw [h1, h] <;> rfl) | (rw [h, h1] <;> rfl) | simp_all) (.c (v := .bool false) rfl)) ?_
  refine take 20 rfl (by kernel_rfl) (by kernel_rfl) (by kernel_rfl) (by repeat first | exact sR | exact sN | apply sC | apply sS | apply sA) (Ev.move (.t rfl)) ?_
  refine takeg 21 rfl (by kernel_rfl) (by kernel_rfl) (by kernel_rfl) (by repeat first | exact sR | exact sN | apply sC | apply sS | apply sA) rfl rfl (Ev.fieldAddr (o := 36) (.t rfl) (by kernel_rfl)) ?_
  refine takeg 22 rfl (by kernel_rfl) (by kernel_rfl) (by kernel_rfl) (by repeat first | exact sR | exact sN | apply sC | apply sS | apply sA) rfl rfl (Ev.load ty25 (.g rfl id) (ptsVar (by repeat first | exact mH | apply mT | apply mA) SHeader.l_dstPort)) ?_
  refine takeg 23 rfl (by kernel_rfl) (by kernel_rfl) (by kernel_rfl) (by repeat first | exact sR | exact sN | apply sC | apply sS | apply sA) rfl rfl (Ev.to (v' := .bool true) (Ev.eql_u16 (.g rfl id) (.c (v := U16 53) rfl)) ((by exact congrArg Value.bool (decide_eq_true (show (readH wireB).dstPort = 53 from wire_read.2.2.2))))) ?_
  refine take 24 rfl (by kernel_rfl) (by kernel_rfl) (by kernel_rfl) (by repeat first | exact sR | exact sN | apply sC | apply sS | apply sA) (Ev.pickA (.t rfl) (fun {_} h => by cases h; rfl) ⟨_, rfl⟩ (by intro h1 h; first | (rw [h] <;> rfl) | (rw [h1, h] <;> rfl) | (rw [h, h1] <;> rfl) | simp_all) (.c (v := .bool false) rfl)) ?_
  refine take 25 rfl (by kernel_rfl) (by kernel_rfl) (by kernel_rfl) (by repeat first | exact sR | exact sN | apply sC | apply sS | apply sA) (Ev.assign (.t rfl)) ?_
  refine over (by kernel_rfl) ?_
  refine pN ?_
  refine ret ?_
  refine done rfl (.tmp rfl .nil) (retE ?_)
  rfl
end Go.Proofs.Ytegcihhhighipaa
