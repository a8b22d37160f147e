/- rule -/
import Derived.Test.YtkmdhmfgbgngeaaR7
set_option linter.unusedVariables false
set_option linter.unusedSimpArgs false
namespace Go.Proofs.Ytkmdhmfgbgngeaa
open Go Go.Gx

/-- What the k-th kind of question asks of a packet. -/
def qM (k : Nat) (m : SMatch) (n : Int) (h : SHeader) : Bool := match k with
  | 0 => withinB m.in_ n
  | 1 => decide (h.proto = m.proto)
  | 2 => hasP m.src h.src
  | 3 => hasP m.dst h.dst
  | 4 => withinB m.srcPort h.srcPort.toNat
  | _ => withinB m.dstPort h.dstPort.toNat
def fM (k : Nat) : Nat := ([59, 61, 62, 64, 65, 66] : List Nat).getD k 0
def ksA (c : Bool) (k : Nat) (l : List Nat) : List Nat := bif c then l ++ [k] else l
/-- The questions of a match. -/
def ks (m : SMatch) : List Nat := ksA (asksB m 32) 5 (ksA (asksB m 16) 4 (ksA (asksB m 4) 3 (ksA (asksB m 2) 2 (ksA (asksB m 8) 1 (ksA (asksB m 1) 0 [])))))
def closL (p : Nat) (l : List Nat) : List OV := l.map fun k => clo (fM k) [.pointer (some ⟨p, 0, none⟩)]
def clos (m : SMatch) (p : Nat) : List OV := closL p (ks m)
theorem ksA_mem {c : Bool} {k j : Nat} {l : List Nat} (h : j ∈ ksA c k l) : j = k ∨ j ∈ l := by
  unfold ksA at h
  cases c
  · exact .inr h
  · rcases List.mem_append.1 h with h | h
    · exact .inr h
    · exact .inl (List.mem_singleton.1 h)
theorem ks_lt {m : SMatch} {k : Nat} (h : k ∈ ks m) : k < 6 := by
  unfold ks at h
  rcases ksA_mem h with rfl | h <;> (try omega)
  rcases ksA_mem h with rfl | h <;> (try omega)
  rcases ksA_mem h with rfl | h <;> (try omega)
  rcases ksA_mem h with rfl | h <;> (try omega)
  rcases ksA_mem h with rfl | h <;> (try omega)
  rcases ksA_mem h with rfl | h <;> (try omega)
  cases h
/-- Does a packet meet a match that may be? -/
def metB (m : SMatch) (n : Int) (h : SHeader) : Bool := (ks m).all fun k => qM k m n h
def meetsB (m : SMatch) (n : Int) (h : SHeader) : Bool := okM m && metB m n h
theorem all_ksA (c : Bool) (k : Nat) (l : List Nat) (q : Nat → Bool) : (ksA c k l).all q = (l.all q && (!c || q k)) := by
  unfold ksA
  cases c <;> simp

theorem en60 : Enters Try.prog 60 := Enters.mk' (by kernel_rfl)

theorem cl0_ok (m : SMatch) (n : Int) (h : SHeader) (p hp : Nat) (w : World) (hm : PtsTo eMatch w p 0 m) (hh : PtsTo eHeader w hp 0 h) : Calls Try.prog 59 #[I n, .pointer (some ⟨hp, 0, none⟩), .pointer (some ⟨p, 0, none⟩)] w (RetV w (.bool (qM 0 m n h))) := by
  refine enter0 10 Try.func59 rfl rfl (Nat.le_of_ble_eq_true rfl) ?_
  refine seq ?_
  refine region ?_
  refine cons (opv (Ev.assign (.c (v := .bool false) rfl)) ?_)
  refine nil ?_
  refine pN ?_
  refine seq ?_
  refine region ?_
  refine cons (opv (Ev.fieldAddr (o := 1) (.t rfl) (by kernel_rfl)) ?_)
  refine cons (opv (Ev.load ty24 (.t rfl) (ptsL (fun w I => hm.keep I.keeps) SMatch.l_in_)) ?_)
  refine cons (opv (Ev.move (.t rfl)) ?_)
  refine cons (callv en60 (.cons (.t rfl) (.cons (.t rfl) .nil)) (fun w I => within_ok _ _ w) ?_)
  refine cons (opv (Ev.assign (.t rfl)) ?_)
  refine nil ?_
  refine pN ?_
  refine ret ?_
  refine done rfl (.tmp rfl .nil) (retE ?_)
  rfl

theorem cl1_ok (m : SMatch) (n : Int) (h : SHeader) (p hp : Nat) (w : World) (hm : PtsTo eMatch w p 0 m) (hh : PtsTo eHeader w hp 0 h) : Calls Try.prog 61 #[I n, .pointer (some ⟨hp, 0, none⟩), .pointer (some ⟨p, 0, none⟩)] w (RetV w (.bool (qM 1 m n h))) := by
  refine enter0 13 Try.func61 rfl rfl (Nat.le_of_ble_eq_true rfl) ?_
  refine seq ?_
  refine region ?_
  refine cons (opv (Ev.assign (.c (v := .bool false) rfl)) ?_)
  refine nil ?_
  refine pN ?_
  refine seq ?_
  refine draw' (by kernel_rfl) ?_
  refine take 0 rfl (by kernel_rfl) (by kernel_rfl) (by kernel_rfl) (by repeat first | exact sR | exact sN | apply sC | apply sS | apply sA) (Ev.move (.t rfl)) ?_
  refine take 1 rfl (by kernel_rfl) (by kernel_rfl) (by kernel_rfl) (by repeat first | exact sR | exact sN | apply sC | apply sS | apply sA) (Ev.nilCheck (.t rfl)) ?_
  refine take 2 rfl (by kernel_rfl) (by kernel_rfl) (by kernel_rfl) (by repeat first | exact sR | exact sN | apply sC | apply sS | apply sA) (Ev.fieldAddr (o := 34) (.t rfl) (by kernel_rfl)) ?_
  refine take 3 rfl (by kernel_rfl) (by kernel_rfl) (by kernel_rfl) (by repeat first | exact sR | exact sN | apply sC | apply sS | apply sA) (Ev.load ty5 (.t rfl) (ptsL (fun w I => hh.keep I.keeps) SHeader.l_proto)) ?_
  refine take 4 rfl (by kernel_rfl) (by kernel_rfl) (by kernel_rfl) (by repeat first | exact sR | exact sN | apply sC | apply sS | apply sA) (Ev.fieldAddr (o := 39) (.t rfl) (by kernel_rfl)) ?_
  refine take 5 rfl (by kernel_rfl) (by kernel_rfl) (by kernel_rfl) (by repeat first | exact sR | exact sN | apply sC | apply sS | apply sA) (Ev.load ty5 (.t rfl) (ptsL (fun w I => hm.keep I.keeps) SMatch.l_proto)) ?_
  refine take 6 rfl (by kernel_rfl) (by kernel_rfl) (by kernel_rfl) (by repeat first | exact sR | exact sN | apply sC | apply sS | apply sA) (Ev.eql_u8 (.t rfl) (.t rfl)) ?_
  refine take 7 rfl (by kernel_rfl) (by kernel_rfl) (by kernel_rfl) (by repeat first | exact sR | exact sN | apply sC | apply sS | apply sA) (Ev.assign (.t rfl)) ?_
  refine over (by kernel_rfl) ?_
  refine pN ?_
  refine ret ?_
  refine done rfl (.tmp rfl .nil) (retE ?_)
  rfl

theorem cl2_ok (m : SMatch) (n : Int) (h : SHeader) (p hp : Nat) (w : World) (hm : PtsTo eMatch w p 0 m) (hh : PtsTo eHeader w hp 0 h) : Calls Try.prog 62 #[I n, .pointer (some ⟨hp, 0, none⟩), .pointer (some ⟨p, 0, none⟩)] w (RetV w (.bool (qM 2 m n h))) := by
  refine enter0 13 Try.func62 rfl rfl (Nat.le_of_ble_eq_true rfl) ?_
  refine seq ?_
  refine region ?_
  refine cons (opv (Ev.assign (.c (v := .bool false) rfl)) ?_)
  refine nil ?_
  refine pN ?_
  refine seq ?_
  refine draw' (by kernel_rfl) ?_
  refine take 0 rfl (by kernel_rfl) (by kernel_rfl) (by kernel_rfl) (by repeat first | exact sR | exact sN | apply sC | apply sS | apply sA) (Ev.fieldAddr (o := 3) (.t rfl) (by kernel_rfl)) ?_
  refine take 1 rfl (by kernel_rfl) (by kernel_rfl) (by kernel_rfl) (by repeat first | exact sR | exact sN | apply sC | apply sS | apply sA) (Ev.load ty29 (.t rfl) (ptsL (fun w I => hm.keep I.keeps) SMatch.l_src)) ?_
  refine take 2 rfl (by kernel_rfl) (by kernel_rfl) (by kernel_rfl) (by repeat first | exact sR | exact sN | apply sC | apply sS | apply sA) (Ev.move (.t rfl)) ?_
  refine take 3 rfl (by kernel_rfl) (by kernel_rfl) (by kernel_rfl) (by repeat first | exact sR | exact sN | apply sC | apply sS | apply sA) (Ev.nilCheck (.t rfl)) ?_
  refine take 4 rfl (by kernel_rfl) (by kernel_rfl) (by kernel_rfl) (by repeat first | exact sR | exact sN | apply sC | apply sS | apply sA) (Ev.fieldAddr (o := 0) (.t rfl) (by kernel_rfl)) ?_
  refine take 5 rfl (by kernel_rfl) (by kernel_rfl) (by kernel_rfl) (by repeat first | exact sR | exact sN | apply sC | apply sS | apply sA) (Ev.load ty27 (.t rfl) (ptsL (fun w I => hh.keep I.keeps) SHeader.l_src)) ?_
  refine all [6] (by kernel_rfl) (by decide) (.cons rfl ?_ .nil)
  refine (callv en63 (.cons (.t rfl) (.cons (.t rfl) .nil)) (fun w I => hasP_ok _ _ w) ?_)
  refine heldN_of (by repeat first | exact sR | exact sN | apply sC | apply sS | apply sA) ?_
  refine take 7 rfl (by kernel_rfl) (by kernel_rfl) (by kernel_rfl) (by repeat first | exact sR | exact sN | apply sC | apply sS | apply sA) (Ev.assign (.t rfl)) ?_
  refine over (by kernel_rfl) ?_
  refine pN ?_
  refine ret ?_
  refine done rfl (.tmp rfl .nil) (retE ?_)
  rfl

theorem cl3_ok (m : SMatch) (n : Int) (h : SHeader) (p hp : Nat) (w : World) (hm : PtsTo eMatch w p 0 m) (hh : PtsTo eHeader w hp 0 h) : Calls Try.prog 64 #[I n, .pointer (some ⟨hp, 0, none⟩), .pointer (some ⟨p, 0, none⟩)] w (RetV w (.bool (qM 3 m n h))) := by
  refine enter0 13 Try.func64 rfl rfl (Nat.le_of_ble_eq_true rfl) ?_
  refine seq ?_
  refine region ?_
  refine cons (opv (Ev.assign (.c (v := .bool false) rfl)) ?_)
  refine nil ?_
  refine pN ?_
  refine seq ?_
  refine draw' (by kernel_rfl) ?_
  refine take 0 rfl (by kernel_rfl) (by kernel_rfl) (by kernel_rfl) (by repeat first | exact sR | exact sN | apply sC | apply sS | apply sA) (Ev.fieldAddr (o := 21) (.t rfl) (by kernel_rfl)) ?_
  refine take 1 rfl (by kernel_rfl) (by kernel_rfl) (by kernel_rfl) (by repeat first | exact sR | exact sN | apply sC | apply sS | apply sA) (Ev.load ty29 (.t rfl) (ptsL (fun w I => hm.keep I.keeps) SMatch.l_dst)) ?_
  refine take 2 rfl (by kernel_rfl) (by kernel_rfl) (by kernel_rfl) (by repeat first | exact sR | exact sN | apply sC | apply sS | apply sA) (Ev.move (.t rfl)) ?_
  refine take 3 rfl (by kernel_rfl) (by kernel_rfl) (by kernel_rfl) (by repeat first | exact sR | exact sN | apply sC | apply sS | apply sA) (Ev.nilCheck (.t rfl)) ?_
  refine take 4 rfl (by kernel_rfl) (by kernel_rfl) (by kernel_rfl) (by repeat first | exact sR | exact sN | apply sC | apply sS | apply sA) (Ev.fieldAddr (o := 17) (.t rfl) (by kernel_rfl)) ?_
  refine take 5 rfl (by kernel_rfl) (by kernel_rfl) (by kernel_rfl) (by repeat first | exact sR | exact sN | apply sC | apply sS | apply sA) (Ev.load ty27 (.t rfl) (ptsL (fun w I => hh.keep I.keeps) SHeader.l_dst)) ?_
  refine all [6] (by kernel_rfl) (by decide) (.cons rfl ?_ .nil)
  refine (callv en63 (.cons (.t rfl) (.cons (.t rfl) .nil)) (fun w I => hasP_ok _ _ w) ?_)
  refine heldN_of (by repeat first | exact sR | exact sN | apply sC | apply sS | apply sA) ?_
  refine take 7 rfl (by kernel_rfl) (by kernel_rfl) (by kernel_rfl) (by repeat first | exact sR | exact sN | apply sC | apply sS | apply sA) (Ev.assign (.t rfl)) ?_
  refine over (by kernel_rfl) ?_
  refine pN ?_
  refine ret ?_
  refine done rfl (.tmp rfl .nil) (retE ?_)
  rfl

theorem cl4_ok (m : SMatch) (n : Int) (h : SHeader) (p hp : Nat) (w : World) (hm : PtsTo eMatch w p 0 m) (hh : PtsTo eHeader w hp 0 h) : Calls Try.prog 65 #[I n, .pointer (some ⟨hp, 0, none⟩), .pointer (some ⟨p, 0, none⟩)] w (RetV w (.bool (qM 4 m n h))) := by
  refine enter0 14 Try.func65 rfl rfl (Nat.le_of_ble_eq_true rfl) ?_
  refine seq ?_
  refine region ?_
  refine cons (opv (Ev.assign (.c (v := .bool false) rfl)) ?_)
  refine nil ?_
  refine pN ?_
  refine seq ?_
  refine draw' (by kernel_rfl) ?_
  refine take 0 rfl (by kernel_rfl) (by kernel_rfl) (by kernel_rfl) (by repeat first | exact sR | exact sN | apply sC | apply sS | apply sA) (Ev.fieldAddr (o := 40) (.t rfl) (by kernel_rfl)) ?_
  refine take 1 rfl (by kernel_rfl) (by kernel_rfl) (by kernel_rfl) (by repeat first | exact sR | exact sN | apply sC | apply sS | apply sA) (Ev.load ty24 (.t rfl) (ptsL (fun w I => hm.keep I.keeps) SMatch.l_srcPort)) ?_
  refine take 2 rfl (by kernel_rfl) (by kernel_rfl) (by kernel_rfl) (by repeat first | exact sR | exact sN | apply sC | apply sS | apply sA) (Ev.move (.t rfl)) ?_
  refine take 3 rfl (by kernel_rfl) (by kernel_rfl) (by kernel_rfl) (by repeat first | exact sR | exact sN | apply sC | apply sS | apply sA) (Ev.nilCheck (.t rfl)) ?_
  refine take 4 rfl (by kernel_rfl) (by kernel_rfl) (by kernel_rfl) (by repeat first | exact sR | exact sN | apply sC | apply sS | apply sA) (Ev.fieldAddr (o := 35) (.t rfl) (by kernel_rfl)) ?_
  refine take 5 rfl (by kernel_rfl) (by kernel_rfl) (by kernel_rfl) (by repeat first | exact sR | exact sN | apply sC | apply sS | apply sA) (Ev.load ty22 (.t rfl) (ptsL (fun w I => hh.keep I.keeps) SHeader.l_srcPort)) ?_
  refine take 6 rfl (by kernel_rfl) (by kernel_rfl) (by kernel_rfl) (by repeat first | exact sR | exact sN | apply sC | apply sS | apply sA) (Ev.conv_u16_i Try.underlying3 Try.underlying22 (.t rfl)) ?_
  refine all [7] (by kernel_rfl) (by decide) (.cons rfl ?_ .nil)
  refine (callv en60 (.cons (.t rfl) (.cons (.t rfl) .nil)) (fun w I => within_ok _ _ w) ?_)
  refine heldN_of (by repeat first | exact sR | exact sN | apply sC | apply sS | apply sA) ?_
  refine take 8 rfl (by kernel_rfl) (by kernel_rfl) (by kernel_rfl) (by repeat first | exact sR | exact sN | apply sC | apply sS | apply sA) (Ev.assign (.t rfl)) ?_
  refine over (by kernel_rfl) ?_
  refine pN ?_
  refine ret ?_
  refine done rfl (.tmp rfl .nil) (retE ?_)
  rfl

theorem cl5_ok (m : SMatch) (n : Int) (h : SHeader) (p hp : Nat) (w : World) (hm : PtsTo eMatch w p 0 m) (hh : PtsTo eHeader w hp 0 h) : Calls Try.prog 66 #[I n, .pointer (some ⟨hp, 0, none⟩), .pointer (some ⟨p, 0, none⟩)] w (RetV w (.bool (qM 5 m n h))) := by
  refine enter0 14 Try.func66 rfl rfl (Nat.le_of_ble_eq_true rfl) ?_
  refine seq ?_
  refine region ?_
  refine cons (opv (Ev.assign (.c (v := .bool false) rfl)) ?_)
  refine nil ?_
  refine pN ?_
  refine seq ?_
  refine draw' (by kernel_rfl) ?_
  refine take 0 rfl (by kernel_rfl) (by kernel_rfl) (by kernel_rfl) (by repeat first | exact sR | exact sN | apply sC | apply sS | apply sA) (Ev.fieldAddr (o := 42) (.t rfl) (by kernel_rfl)) ?_
  refine take 1 rfl (by kernel_rfl) (by kernel_rfl) (by kernel_rfl) (by repeat first | exact sR | exact sN | apply sC | apply sS | apply sA) (Ev.load ty24 (.t rfl) (ptsL (fun w I => hm.keep I.keeps) SMatch.l_dstPort)) ?_
  refine take 2 rfl (by kernel_rfl) (by kernel_rfl) (by kernel_rfl) (by repeat first | exact sR | exact sN | apply sC | apply sS | apply sA) (Ev.move (.t rfl)) ?_
  refine take 3 rfl (by kernel_rfl) (by kernel_rfl) (by kernel_rfl) (by repeat first | exact sR | exact sN | apply sC | apply sS | apply sA) (Ev.nilCheck (.t rfl)) ?_
  refine take 4 rfl (by kernel_rfl) (by kernel_rfl) (by kernel_rfl) (by repeat first | exact sR | exact sN | apply sC | apply sS | apply sA) (Ev.fieldAddr (o := 36) (.t rfl) (by kernel_rfl)) ?_
  refine take 5 rfl (by kernel_rfl) (by kernel_rfl) (by kernel_rfl) (by repeat first | exact sR | exact sN | apply sC | apply sS | apply sA) (Ev.load ty22 (.t rfl) (ptsL (fun w I => hh.keep I.keeps) SHeader.l_dstPort)) ?_
  refine take 6 rfl (by kernel_rfl) (by kernel_rfl) (by kernel_rfl) (by repeat first | exact sR | exact sN | apply sC | apply sS | apply sA) (Ev.conv_u16_i Try.underlying3 Try.underlying22 (.t rfl)) ?_
  refine all [7] (by kernel_rfl) (by decide) (.cons rfl ?_ .nil)
  refine (callv en60 (.cons (.t rfl) (.cons (.t rfl) .nil)) (fun w I => within_ok _ _ w) ?_)
  refine heldN_of (by repeat first | exact sR | exact sN | apply sC | apply sS | apply sA) ?_
  refine take 8 rfl (by kernel_rfl) (by kernel_rfl) (by kernel_rfl) (by repeat first | exact sR | exact sN | apply sC | apply sS | apply sA) (Ev.assign (.t rfl)) ?_
  refine over (by kernel_rfl) ?_
  refine pN ?_
  refine ret ?_
  refine done rfl (.tmp rfl .nil) (retE ?_)
  rfl

theorem en59 : Enters Try.prog 59 := Enters.mk' (by kernel_rfl)

theorem en61 : Enters Try.prog 61 := Enters.mk' (by kernel_rfl)

theorem en62 : Enters Try.prog 62 := Enters.mk' (by kernel_rfl)

theorem en64 : Enters Try.prog 64 := Enters.mk' (by kernel_rfl)

theorem en65 : Enters Try.prog 65 := Enters.mk' (by kernel_rfl)

theorem en66 : Enters Try.prog 66 := Enters.mk' (by kernel_rfl)

theorem cl_en : ∀ k, k < 6 → Enters Try.prog (fM k)
  | 0, _ => en59
  | 1, _ => en61
  | 2, _ => en62
  | 3, _ => en64
  | 4, _ => en65
  | 5, _ => en66
  | k + 6, h => absurd h (by omega)
theorem cl_ok : ∀ k, k < 6 → ∀ (m : SMatch) (n : Int) (h : SHeader) (p hp : Nat) (w : World) (hm : PtsTo eMatch w p 0 m) (hh : PtsTo eHeader w hp 0 h), Calls Try.prog (fM k) #[I n, .pointer (some ⟨hp, 0, none⟩), .pointer (some ⟨p, 0, none⟩)] w (RetV w (.bool (qM k m n h)))
  | 0, _ => cl0_ok
  | 1, _ => cl1_ok
  | 2, _ => cl2_ok
  | 3, _ => cl3_ok
  | 4, _ => cl4_ok
  | 5, _ => cl5_ok
  | k + 6, h => absurd h (by omega)

theorem ty97 : TyOK Try.prog 97 (ovE nilFn) := TyOK.mk' (by kernel_rfl) (by kernel_rfl)

theorem z97 : (Try.prog.info? 97).bind (·.zero) = some ((ovE nilFn).val (ovE nilFn).zero) := by kernel_rfl

theorem zb97 : (Try.prog.info? 97).map (fun i => (i.zero, i.bytes)) = some (some ((ovE nilFn).val (ovE nilFn).zero), 8) := by kernel_rfl

theorem zs97 : ((ovE nilFn).val (ovE nilFn).zero).cells.size = (ovE nilFn).size := by rw [Enc.cells_val, List.size_toArray, Enc.len]

theorem compiled_ok (m : SMatch) (w : World) : Calls Try.prog 37 #[eMatch.val m] w (RetN w (fun _ : OV × Nat => True) (fun x => x.1.v) (fun x => [OwnS x.1.v (ovE nilFn) (clos m x.2) 97, Var x.2 eMatch m 31])) := by
  refine enter0 41 Try.func37 rfl rfl (Nat.le_of_ble_eq_true rfl) ?_
  refine seq ?_
  refine region ?_
  refine cons (box (E := eMatch) (.t rfl) (fun b1 => ?_))
  refine cons (opv (Ev.assign (.c (v := (Go.Value.slice none 0 0)) rfl)) ?_)
  refine nil ?_
  refine pN ?_
  refine seq ?_
  refine region ?_
  refine cons (opv (Ev.assign (.c (v := (Go.Value.slice none 0 0)) rfl)) ?_)
  refine takeNil (ovE nilFn) 97 ?_
  refine nil ?_
  refine pN ?_
  refine cut (X := OV × (List Nat)) (fun x : OV × (List Nat) => (x.2 = ksA (asksB m 1) 0 []) ∧ (x.2.length ≤ 1)) (fun x : OV × (List Nat) => [(1, true, .pointer (some ⟨b1, 0, none⟩)), (3, true, x.1.v)]) (fun x : OV × (List Nat) => [OwnS x.1.v (ovE nilFn) (closL b1 x.2) 97, Var b1 eMatch m 31]) ?_ (fun x hx => ?_)
  · refine seq ?_
    refine region ?_
    refine cons (opv (Ev.load (xv := m) ty31 (.t rfl) (ptsVar (by repeat first | exact mH | apply mT | apply mA) (Lens.id _))) ?_)
    refine cons (callv en34 (.cons (.t rfl) (.cons (.c (v := U8 1) rfl) .nil)) (fun w I => asks_ok _ _ w) ?_)
    refine nil ?_
    refine pN ?_
    first | refine condD rfl (fun h0 => ?_) (fun h0 => ?_) | refine cond rfl (fun h0 => ?_) (fun h0 => ?_)
    · refine region ?_
      refine cons (opv (Ev.move (.t rfl)) ?_)
      refine cons (opv (Ev.makeFunc (f := 59) (.cons (.t rfl) .nil)) ?_)
      refine cons (buildSlice (E := (ovE nilFn)) Try.underlying72 ty97 z97 (.cons (.t rfl) .nil) rfl rfl (fun v2 => ?_))
      refine cons (append (E := (ovE nilFn)) Try.underlying72 ty97 rfl zb97 zs97 (.t rfl) (.t rfl) (fun _ => by repeat first | exact Upd.head | apply Upd.tail | apply Upd.right) (by first | exact isSl_own (by repeat first | exact mH | apply mT | apply mA) | exact fun w I => IsSl.keep0 (by assumption) I.keeps) (⟨by first | ((show _ ≤ 9223372036854775807); simp; done) | ((show _ ≤ 9223372036854775807); simp [closL]; omega), by first | (simp; done) | (simp [closL]; omega)⟩) (fun v3 => ?_))
      refine cons (opv (Ev.assign (.t rfl)) ?_)
      refine nil ?_
      refine pN ?_
      refine meet (X := OV × (List Nat)) (_, [] ++ [0]) ⟨?_, ?_⟩ (by repeat first | exact Sub.nil | refine Sub.cons rfl ?_) (by first | exact List.Sublist.refl _ | (simp only [closL, List.map_append, List.map_cons, List.map_nil]; repeat first | exact List.Sublist.refl _ | apply List.Sublist.cons_cons | apply List.Sublist.cons))
      · try dsimp only
        unfold ksA; simp_all [asksB]
      · try dsimp only
        first | omega | (simp; omega) | simp
    · refine skip ?_
      refine pN ?_
      refine meet (X := OV × (List Nat)) (nilSl, []) ⟨?_, ?_⟩ (by repeat first | exact Sub.nil | refine Sub.cons rfl ?_) (by first | exact List.Sublist.refl _ | (simp only [closL, List.map_append, List.map_cons, List.map_nil]; repeat first | exact List.Sublist.refl _ | apply List.Sublist.cons_cons | apply List.Sublist.cons))
      · try dsimp only
        unfold ksA; simp_all [asksB]
      · try dsimp only
        first | omega | (simp; omega) | simp
  obtain ⟨o1, l1⟩ := x
  obtain ⟨hl1, hn1⟩ : (l1 = ksA (asksB m 1) 0 []) ∧ (l1.length ≤ 1) := hx
  show Sat _ _ [(1, true, .pointer (some ⟨b1, 0, none⟩)), (3, true, o1.v)] [OwnS o1.v (ovE nilFn) (closL b1 l1) 97, Var b1 eMatch m 31]
  refine cut (X := OV × (List Nat)) (fun x : OV × (List Nat) => (x.2 = ksA (asksB m 8) 1 l1) ∧ (x.2.length ≤ 2)) (fun x : OV × (List Nat) => [(1, true, .pointer (some ⟨b1, 0, none⟩)), (3, true, x.1.v)]) (fun x : OV × (List Nat) => [OwnS x.1.v (ovE nilFn) (closL b1 x.2) 97, Var b1 eMatch m 31]) ?_ (fun x hx => ?_)
  · refine seq ?_
    refine region ?_
    refine cons (opv (Ev.load (xv := m) ty31 (.t rfl) (ptsVar (by repeat first | exact mH | apply mT | apply mA) (Lens.id _))) ?_)
    refine cons (callv en34 (.cons (.t rfl) (.cons (.c (v := U8 8) rfl) .nil)) (fun w I => asks_ok _ _ w) ?_)
    refine nil ?_
    refine pN ?_
    first | refine condD rfl (fun h1 => ?_) (fun h1 => ?_) | refine cond rfl (fun h1 => ?_) (fun h1 => ?_)
    · refine region ?_
      refine cons (opv (Ev.move (.t rfl)) ?_)
      refine cons (opv (Ev.makeFunc (f := 61) (.cons (.t rfl) .nil)) ?_)
      refine cons (buildSlice (E := (ovE nilFn)) Try.underlying72 ty97 z97 (.cons (.t rfl) .nil) rfl rfl (fun v4 => ?_))
      refine cons (append (E := (ovE nilFn)) Try.underlying72 ty97 rfl zb97 zs97 (.t rfl) (.t rfl) (fun _ => by repeat first | exact Upd.head | apply Upd.tail | apply Upd.right) (by first | exact isSl_own (by repeat first | exact mH | apply mT | apply mA) | exact fun w I => IsSl.keep0 (by assumption) I.keeps) (⟨by first | ((show _ ≤ 9223372036854775807); simp; done) | ((show _ ≤ 9223372036854775807); simp [closL]; omega), by first | (simp; done) | (simp [closL]; omega)⟩) (fun v5 => ?_))
      refine cons (opv (Ev.assign (.t rfl)) ?_)
      refine nil ?_
      refine pN ?_
      refine meet (X := OV × (List Nat)) (_, l1 ++ [1]) ⟨?_, ?_⟩ (by repeat first | exact Sub.nil | refine Sub.cons rfl ?_) (by first | exact List.Sublist.refl _ | (simp only [closL, List.map_append, List.map_cons, List.map_nil]; repeat first | exact List.Sublist.refl _ | apply List.Sublist.cons_cons | apply List.Sublist.cons))
      · try dsimp only
        unfold ksA; simp_all [asksB]
      · try dsimp only
        first | omega | (simp; omega) | simp
    · refine skip ?_
      refine pN ?_
      refine meet (X := OV × (List Nat)) (o1, l1) ⟨?_, ?_⟩ (by repeat first | exact Sub.nil | refine Sub.cons rfl ?_) (by first | exact List.Sublist.refl _ | (simp only [closL, List.map_append, List.map_cons, List.map_nil]; repeat first | exact List.Sublist.refl _ | apply List.Sublist.cons_cons | apply List.Sublist.cons))
      · try dsimp only
        unfold ksA; simp_all [asksB]
      · try dsimp only
        first | omega | (simp; omega) | simp
  obtain ⟨o2, l2⟩ := x
  obtain ⟨hl2, hn2⟩ : (l2 = ksA (asksB m 8) 1 l1) ∧ (l2.length ≤ 2) := hx
  show Sat _ _ [(1, true, .pointer (some ⟨b1, 0, none⟩)), (3, true, o2.v)] [OwnS o2.v (ovE nilFn) (closL b1 l2) 97, Var b1 eMatch m 31]
  refine cut (X := OV × (List Nat)) (fun x : OV × (List Nat) => (x.2 = ksA (asksB m 2) 2 l2) ∧ (x.2.length ≤ 3)) (fun x : OV × (List Nat) => [(1, true, .pointer (some ⟨b1, 0, none⟩)), (3, true, x.1.v)]) (fun x : OV × (List Nat) => [OwnS x.1.v (ovE nilFn) (closL b1 x.2) 97, Var b1 eMatch m 31]) ?_ (fun x hx => ?_)
  · refine seq ?_
    refine region ?_
    refine cons (opv (Ev.load (xv := m) ty31 (.t rfl) (ptsVar (by repeat first | exact mH | apply mT | apply mA) (Lens.id _))) ?_)
    refine cons (callv en34 (.cons (.t rfl) (.cons (.c (v := U8 2) rfl) .nil)) (fun w I => asks_ok _ _ w) ?_)
    refine nil ?_
    refine pN ?_
    first | refine condD rfl (fun h2 => ?_) (fun h2 => ?_) | refine cond rfl (fun h2 => ?_) (fun h2 => ?_)
    · refine region ?_
      refine cons (opv (Ev.move (.t rfl)) ?_)
      refine cons (opv (Ev.makeFunc (f := 62) (.cons (.t rfl) .nil)) ?_)
      refine cons (buildSlice (E := (ovE nilFn)) Try.underlying72 ty97 z97 (.cons (.t rfl) .nil) rfl rfl (fun v6 => ?_))
      refine cons (append (E := (ovE nilFn)) Try.underlying72 ty97 rfl zb97 zs97 (.t rfl) (.t rfl) (fun _ => by repeat first | exact Upd.head | apply Upd.tail | apply Upd.right) (by first | exact isSl_own (by repeat first | exact mH | apply mT | apply mA) | exact fun w I => IsSl.keep0 (by assumption) I.keeps) (⟨by first | ((show _ ≤ 9223372036854775807); simp; done) | ((show _ ≤ 9223372036854775807); simp [closL]; omega), by first | (simp; done) | (simp [closL]; omega)⟩) (fun v7 => ?_))
      refine cons (opv (Ev.assign (.t rfl)) ?_)
      refine nil ?_
      refine pN ?_
      refine meet (X := OV × (List Nat)) (_, l2 ++ [2]) ⟨?_, ?_⟩ (by repeat first | exact Sub.nil | refine Sub.cons rfl ?_) (by first | exact List.Sublist.refl _ | (simp only [closL, List.map_append, List.map_cons, List.map_nil]; repeat first | exact List.Sublist.refl _ | apply List.Sublist.cons_cons | apply List.Sublist.cons))
      · try dsimp only
        unfold ksA; simp_all [asksB]
      · try dsimp only
        first | omega | (simp; omega) | simp
    · refine skip ?_
      refine pN ?_
      refine meet (X := OV × (List Nat)) (o2, l2) ⟨?_, ?_⟩ (by repeat first | exact Sub.nil | refine Sub.cons rfl ?_) (by first | exact List.Sublist.refl _ | (simp only [closL, List.map_append, List.map_cons, List.map_nil]; repeat first | exact List.Sublist.refl _ | apply List.Sublist.cons_cons | apply List.Sublist.cons))
      · try dsimp only
        unfold ksA; simp_all [asksB]
      · try dsimp only
        first | omega | (simp; omega) | simp
  obtain ⟨o3, l3⟩ := x
  obtain ⟨hl3, hn3⟩ : (l3 = ksA (asksB m 2) 2 l2) ∧ (l3.length ≤ 3) := hx
  show Sat _ _ [(1, true, .pointer (some ⟨b1, 0, none⟩)), (3, true, o3.v)] [OwnS o3.v (ovE nilFn) (closL b1 l3) 97, Var b1 eMatch m 31]
  refine cut (X := OV × (List Nat)) (fun x : OV × (List Nat) => (x.2 = ksA (asksB m 4) 3 l3) ∧ (x.2.length ≤ 4)) (fun x : OV × (List Nat) => [(1, true, .pointer (some ⟨b1, 0, none⟩)), (3, true, x.1.v)]) (fun x : OV × (List Nat) => [OwnS x.1.v (ovE nilFn) (closL b1 x.2) 97, Var b1 eMatch m 31]) ?_ (fun x hx => ?_)
  · refine seq ?_
    refine region ?_
    refine cons (opv (Ev.load (xv := m) ty31 (.t rfl) (ptsVar (by repeat first | exact mH | apply mT | apply mA) (Lens.id _))) ?_)
    refine cons (callv en34 (.cons (.t rfl) (.cons (.c (v := U8 4) rfl) .nil)) (fun w I => asks_ok _ _ w) ?_)
    refine nil ?_
    refine pN ?_
    first | refine condD rfl (fun h3 => ?_) (fun h3 => ?_) | refine cond rfl (fun h3 => ?_) (fun h3 => ?_)
    · refine region ?_
      refine cons (opv (Ev.move (.t rfl)) ?_)
      refine cons (opv (Ev.makeFunc (f := 64) (.cons (.t rfl) .nil)) ?_)
      refine cons (buildSlice (E := (ovE nilFn)) Try.underlying72 ty97 z97 (.cons (.t rfl) .nil) rfl rfl (fun v8 => ?_))
      refine cons (append (E := (ovE nilFn)) Try.underlying72 ty97 rfl zb97 zs97 (.t rfl) (.t rfl) (fun _ => by repeat first | exact Upd.head | apply Upd.tail | apply Upd.right) (by first | exact isSl_own (by repeat first | exact mH | apply mT | apply mA) | exact fun w I => IsSl.keep0 (by assumption) I.keeps) (⟨by first | ((show _ ≤ 9223372036854775807); simp; done) | ((show _ ≤ 9223372036854775807); simp [closL]; omega), by first | (simp; done) | (simp [closL]; omega)⟩) (fun v9 => ?_))
      refine cons (opv (Ev.assign (.t rfl)) ?_)
      refine nil ?_
      refine pN ?_
      refine meet (X := OV × (List Nat)) (_, l3 ++ [3]) ⟨?_, ?_⟩ (by repeat first | exact Sub.nil | refine Sub.cons rfl ?_) (by first | exact List.Sublist.refl _ | (simp only [closL, List.map_append, List.map_cons, List.map_nil]; repeat first | exact List.Sublist.refl _ | apply List.Sublist.cons_cons | apply List.Sublist.cons))
      · try dsimp only
        unfold ksA; simp_all [asksB]
      · try dsimp only
        first | omega | (simp; omega) | simp
    · refine skip ?_
      refine pN ?_
      refine meet (X := OV × (List Nat)) (o3, l3) ⟨?_, ?_⟩ (by repeat first | exact Sub.nil | refine Sub.cons rfl ?_) (by first | exact List.Sublist.refl _ | (simp only [closL, List.map_append, List.map_cons, List.map_nil]; repeat first | exact List.Sublist.refl _ | apply List.Sublist.cons_cons | apply List.Sublist.cons))
      · try dsimp only
        unfold ksA; simp_all [asksB]
      · try dsimp only
        first | omega | (simp; omega) | simp
  obtain ⟨o4, l4⟩ := x
  obtain ⟨hl4, hn4⟩ : (l4 = ksA (asksB m 4) 3 l3) ∧ (l4.length ≤ 4) := hx
  show Sat _ _ [(1, true, .pointer (some ⟨b1, 0, none⟩)), (3, true, o4.v)] [OwnS o4.v (ovE nilFn) (closL b1 l4) 97, Var b1 eMatch m 31]
  refine cut (X := OV × (List Nat)) (fun x : OV × (List Nat) => (x.2 = ksA (asksB m 16) 4 l4) ∧ (x.2.length ≤ 5)) (fun x : OV × (List Nat) => [(1, true, .pointer (some ⟨b1, 0, none⟩)), (3, true, x.1.v)]) (fun x : OV × (List Nat) => [OwnS x.1.v (ovE nilFn) (closL b1 x.2) 97, Var b1 eMatch m 31]) ?_ (fun x hx => ?_)
  · refine seq ?_
    refine region ?_
    refine cons (opv (Ev.load (xv := m) ty31 (.t rfl) (ptsVar (by repeat first | exact mH | apply mT | apply mA) (Lens.id _))) ?_)
    refine cons (callv en34 (.cons (.t rfl) (.cons (.c (v := U8 16) rfl) .nil)) (fun w I => asks_ok _ _ w) ?_)
    refine nil ?_
    refine pN ?_
    first | refine condD rfl (fun h4 => ?_) (fun h4 => ?_) | refine cond rfl (fun h4 => ?_) (fun h4 => ?_)
    · refine region ?_
      refine cons (opv (Ev.move (.t rfl)) ?_)
      refine cons (opv (Ev.makeFunc (f := 65) (.cons (.t rfl) .nil)) ?_)
      refine cons (buildSlice (E := (ovE nilFn)) Try.underlying72 ty97 z97 (.cons (.t rfl) .nil) rfl rfl (fun v10 => ?_))
      refine cons (append (E := (ovE nilFn)) Try.underlying72 ty97 rfl zb97 zs97 (.t rfl) (.t rfl) (fun _ => by repeat first | exact Upd.head | apply Upd.tail | apply Upd.right) (by first | exact isSl_own (by repeat first | exact mH | apply mT | apply mA) | exact fun w I => IsSl.keep0 (by assumption) I.keeps) (⟨by first | ((show _ ≤ 9223372036854775807); simp; done) | ((show _ ≤ 9223372036854775807); simp [closL]; omega), by first | (simp; done) | (simp [closL]; omega)⟩) (fun v11 => ?_))
      refine cons (opv (Ev.assign (.t rfl)) ?_)
      refine nil ?_
      refine pN ?_
      refine meet (X := OV × (List Nat)) (_, l4 ++ [4]) ⟨?_, ?_⟩ (by repeat first | exact Sub.nil | refine Sub.cons rfl ?_) (by first | exact List.Sublist.refl _ | (simp only [closL, List.map_append, List.map_cons, List.map_nil]; repeat first | exact List.Sublist.refl _ | apply List.Sublist.cons_cons | apply List.Sublist.cons))
      · try dsimp only
        unfold ksA; simp_all [asksB]
      · try dsimp only
        first | omega | (simp; omega) | simp
    · refine skip ?_
      refine pN ?_
      refine meet (X := OV × (List Nat)) (o4, l4) ⟨?_, ?_⟩ (by repeat first | exact Sub.nil | refine Sub.cons rfl ?_) (by first | exact List.Sublist.refl _ | (simp only [closL, List.map_append, List.map_cons, List.map_nil]; repeat first | exact List.Sublist.refl _ | apply List.Sublist.cons_cons | apply List.Sublist.cons))
      · try dsimp only
        unfold ksA; simp_all [asksB]
      · try dsimp only
        first | omega | (simp; omega) | simp
  obtain ⟨o5, l5⟩ := x
  obtain ⟨hl5, hn5⟩ : (l5 = ksA (asksB m 16) 4 l4) ∧ (l5.length ≤ 5) := hx
  show Sat _ _ [(1, true, .pointer (some ⟨b1, 0, none⟩)), (3, true, o5.v)] [OwnS o5.v (ovE nilFn) (closL b1 l5) 97, Var b1 eMatch m 31]
  refine cut (X := OV × (List Nat)) (fun x : OV × (List Nat) => (x.2 = ksA (asksB m 32) 5 l5) ∧ (x.2.length ≤ 6)) (fun x : OV × (List Nat) => [(1, true, .pointer (some ⟨b1, 0, none⟩)), (3, true, x.1.v)]) (fun x : OV × (List Nat) => [OwnS x.1.v (ovE nilFn) (closL b1 x.2) 97, Var b1 eMatch m 31]) ?_ (fun x hx => ?_)
  · refine seq ?_
    refine region ?_
    refine cons (opv (Ev.load (xv := m) ty31 (.t rfl) (ptsVar (by repeat first | exact mH | apply mT | apply mA) (Lens.id _))) ?_)
    refine cons (callv en34 (.cons (.t rfl) (.cons (.c (v := U8 32) rfl) .nil)) (fun w I => asks_ok _ _ w) ?_)
    refine nil ?_
    refine pN ?_
    first | refine condD rfl (fun h5 => ?_) (fun h5 => ?_) | refine cond rfl (fun h5 => ?_) (fun h5 => ?_)
    · refine region ?_
      refine cons (opv (Ev.move (.t rfl)) ?_)
      refine cons (opv (Ev.makeFunc (f := 66) (.cons (.t rfl) .nil)) ?_)
      refine cons (buildSlice (E := (ovE nilFn)) Try.underlying72 ty97 z97 (.cons (.t rfl) .nil) rfl rfl (fun v12 => ?_))
      refine cons (append (E := (ovE nilFn)) Try.underlying72 ty97 rfl zb97 zs97 (.t rfl) (.t rfl) (fun _ => by repeat first | exact Upd.head | apply Upd.tail | apply Upd.right) (by first | exact isSl_own (by repeat first | exact mH | apply mT | apply mA) | exact fun w I => IsSl.keep0 (by assumption) I.keeps) (⟨by first | ((show _ ≤ 9223372036854775807); simp; done) | ((show _ ≤ 9223372036854775807); simp [closL]; omega), by first | (simp; done) | (simp [closL]; omega)⟩) (fun v13 => ?_))
      refine cons (opv (Ev.assign (.t rfl)) ?_)
      refine nil ?_
      refine pN ?_
      refine meet (X := OV × (List Nat)) (_, l5 ++ [5]) ⟨?_, ?_⟩ (by repeat first | exact Sub.nil | refine Sub.cons rfl ?_) (by first | exact List.Sublist.refl _ | (simp only [closL, List.map_append, List.map_cons, List.map_nil]; repeat first | exact List.Sublist.refl _ | apply List.Sublist.cons_cons | apply List.Sublist.cons))
      · try dsimp only
        unfold ksA; simp_all [asksB]
      · try dsimp only
        first | omega | (simp; omega) | simp
    · refine skip ?_
      refine pN ?_
      refine meet (X := OV × (List Nat)) (o5, l5) ⟨?_, ?_⟩ (by repeat first | exact Sub.nil | refine Sub.cons rfl ?_) (by first | exact List.Sublist.refl _ | (simp only [closL, List.map_append, List.map_cons, List.map_nil]; repeat first | exact List.Sublist.refl _ | apply List.Sublist.cons_cons | apply List.Sublist.cons))
      · try dsimp only
        unfold ksA; simp_all [asksB]
      · try dsimp only
        first | omega | (simp; omega) | simp
  obtain ⟨o6, l6⟩ := x
  obtain ⟨hl6, hn6⟩ : (l6 = ksA (asksB m 32) 5 l5) ∧ (l6.length ≤ 6) := hx
  show Sat _ _ [(1, true, .pointer (some ⟨b1, 0, none⟩)), (3, true, o6.v)] [OwnS o6.v (ovE nilFn) (closL b1 l6) 97, Var b1 eMatch m 31]
  refine seq ?_
  refine region ?_
  refine cons (opv (Ev.move (.t rfl)) ?_)
  refine cons (opv (Ev.assign (.t rfl)) ?_)
  refine nil ?_
  refine pN ?_
  refine ret ?_
  refine done rfl (.tmp rfl .nil) (fun w I => ?_)
  exact retN (o6, b1) trivial rfl (by unfold clos ks; rw [← hl1, ← hl2, ← hl3, ← hl4, ← hl5, ← hl6]; exact List.Sublist.refl _) w I
end Go.Proofs.Ytkmdhmfgbgngeaa
