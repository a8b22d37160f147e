/- test -/
import Derived.Test.YtpdanbpipabboaaF7
set_option linter.unusedVariables false
set_option linter.unusedSimpArgs false
namespace Go.Proofs.Ytpdanbpipabboaa
open Go Go.Gx

theorem cmp_self : ∀ xs : List UInt8, Lib.compareBytes xs xs = 0
  | [] => rfl
  | x :: xs => by
    unfold Lib.compareBytes
    rw [if_neg (UInt8.lt_irrefl x), if_neg (UInt8.lt_irrefl x)]
    exact cmp_self xs
@[simp] theorem cmpK_self (a : SKey) : cmpK a a = 0 := cmp_self _

theorem en11 : Enters Try.prog 11 := Enters.mk' (by kernel_rfl)

theorem en12 : Enters Try.prog 12 := Enters.mk' (by kernel_rfl)

theorem FlowCompares_walk (a b : SKey) (w : World) : Calls Try.prog 3 #[eKey.val a, eKey.val b] w (RetV w (.bool true)) := by
  refine enter0 21 Try.func3 rfl rfl (Nat.le_of_ble_eq_true rfl) ?_
  refine seq ?_
  refine region ?_
  refine cons (box (E := eKey) (.t rfl) (fun b1 => ?_))
  refine cons (box (E := eKey) (.t rfl) (fun b2 => ?_))
  refine cons (opv (Ev.assign (.c (v := .bool false) rfl)) ?_)
  refine nil ?_
  refine pN ?_
  refine seq ?_
  refine draw' (by kernel_rfl) ?_
  refine take 0 rfl (by kernel_rfl) (by kernel_rfl) (by kernel_rfl) (by repeat first | exact List.Sublist.refl _ | apply List.Sublist.cons_cons | apply List.Sublist.cons) (Ev.load ty27 (.t rfl) (ptsVar (by repeat first | exact List.Mem.head _ | apply List.Mem.tail) (Lens.id _))) ?_
  refine take 1 rfl (by kernel_rfl) (by kernel_rfl) (by kernel_rfl) (by repeat first | exact List.Sublist.refl _ | apply List.Sublist.cons_cons | apply List.Sublist.cons) (Ev.load ty27 (.t rfl) (ptsVar (by repeat first | exact List.Mem.head _ | apply List.Mem.tail) (Lens.id _))) ?_
  refine take 3 rfl (by kernel_rfl) (by kernel_rfl) (by kernel_rfl) (by repeat first | exact List.Sublist.refl _ | apply List.Sublist.cons_cons | apply List.Sublist.cons) (Ev.load ty27 (.t rfl) (ptsVar (by repeat first | exact List.Mem.head _ | apply List.Mem.tail) (Lens.id _))) ?_
  refine take 4 rfl (by kernel_rfl) (by kernel_rfl) (by kernel_rfl) (by repeat first | exact List.Sublist.refl _ | apply List.Sublist.cons_cons | apply List.Sublist.cons) (Ev.load ty27 (.t rfl) (ptsVar (by repeat first | exact List.Mem.head _ | apply List.Mem.tail) (Lens.id _))) ?_
  refine all [2] (by kernel_rfl) (by decide) (.cons rfl ?_ .nil)
  refine (callv en10 (.cons (.t rfl) (.cons (.t rfl) .nil)) (fun w I => compare_ok _ _ w) ?_)
  refine heldN_of (by repeat first | exact List.Sublist.refl _ | apply List.Sublist.cons_cons | apply List.Sublist.cons) ?_
  refine all [5] (by kernel_rfl) (by decide) (.cons rfl ?_ .nil)
  refine (callv en11 (.cons (.t rfl) (.cons (.t rfl) .nil)) (fun w I => rcompare_ok _ _ w) ?_)
  refine heldN_of (by repeat first | exact List.Sublist.refl _ | apply List.Sublist.cons_cons | apply List.Sublist.cons) ?_
  refine take 6 rfl (by kernel_rfl) (by kernel_rfl) (by kernel_rfl) (by repeat first | exact List.Sublist.refl _ | apply List.Sublist.cons_cons | apply List.Sublist.cons) (Ev.eql_i (.t rfl) (.t rfl)) ?_
  refine take 7 rfl (by kernel_rfl) (by kernel_rfl) (by kernel_rfl) (by repeat first | exact List.Sublist.refl _ | apply List.Sublist.cons_cons | apply List.Sublist.cons) (Ev.move (.t rfl)) ?_
  refine takeg 8 rfl (by kernel_rfl) (by kernel_rfl) (by kernel_rfl) (by repeat first | exact List.Sublist.refl _ | apply List.Sublist.cons_cons | apply List.Sublist.cons) rfl rfl (Ev.load ty27 (.t rfl) (ptsVar (by repeat first | exact List.Mem.head _ | apply List.Mem.tail) (Lens.id _))) ?_
  refine takeg 9 rfl (by kernel_rfl) (by kernel_rfl) (by kernel_rfl) (by repeat first | exact List.Sublist.refl _ | apply List.Sublist.cons_cons | apply List.Sublist.cons) rfl rfl (Ev.load ty27 (.t rfl) (ptsVar (by repeat first | exact List.Mem.head _ | apply List.Mem.tail) (Lens.id _))) ?_
  refine all [10] (by kernel_rfl) (by decide) (.cons rfl ?_ .nil)
  refine (callg rfl rfl en10 (.cons (.g rfl id) (.cons (.g rfl id) .nil)) (fun hg w I => compare_ok _ _ w) ?_)
  refine heldN_of (by repeat first | exact List.Sublist.refl _ | apply List.Sublist.cons_cons | apply List.Sublist.cons) ?_
  refine takeg 11 rfl (by kernel_rfl) (by kernel_rfl) (by kernel_rfl) (by repeat first | exact List.Sublist.refl _ | apply List.Sublist.cons_cons | apply List.Sublist.cons) rfl rfl (Ev.eql_i (.g rfl id) (.c (v := I 0) rfl)) ?_
  refine take 12 rfl (by kernel_rfl) (by kernel_rfl) (by kernel_rfl) (by repeat first | exact List.Sublist.refl _ | apply List.Sublist.cons_cons | apply List.Sublist.cons) (Ev.pickA (.t rfl) (fun {_} h => by cases h; rfl) ⟨_, rfl⟩ (by first | exact (fun _ h => by rw [h] <;> rfl) | simp_all) (.c (v := .bool false) rfl)) ?_
  refine take 13 rfl (by kernel_rfl) (by kernel_rfl) (by kernel_rfl) (by repeat first | exact List.Sublist.refl _ | apply List.Sublist.cons_cons | apply List.Sublist.cons) (Ev.move (.t rfl)) ?_
  refine all [14] (by kernel_rfl) (by decide) (.cons rfl ?_ .nil)
  refine (callg rfl rfl en12 .nil (fun hg w I => awake_ok w) ?_)
  refine heldN_of (by repeat first | exact List.Sublist.refl _ | apply List.Sublist.cons_cons | apply List.Sublist.cons) ?_
  refine take 15 rfl (by kernel_rfl) (by kernel_rfl) (by kernel_rfl) (by repeat first | exact List.Sublist.refl _ | apply List.Sublist.cons_cons | apply List.Sublist.cons) (Ev.pickA (.t rfl) (fun {_} h => by cases h; rfl) ⟨_, rfl⟩ (by first | exact (fun _ h => by rw [h] <;> rfl) | simp_all) (.c (v := .bool false) rfl)) ?_
  refine take 16 rfl (by kernel_rfl) (by kernel_rfl) (by kernel_rfl) (by repeat first | exact List.Sublist.refl _ | apply List.Sublist.cons_cons | apply List.Sublist.cons) (Ev.assign (.t rfl)) ?_
  refine over (by kernel_rfl) ?_
  refine pN ?_
  refine ret ?_
  refine done rfl (.tmp rfl .nil) (retE ?_)
  refine bX2 ?_
  simp

theorem ty34 : TyOK Try.prog 34 eHeader := TyOK.mk' (by kernel_rfl) (by kernel_rfl)

theorem en13 : Enters Try.prog 13 := Enters.mk' (by kernel_rfl)

theorem en14 : Enters Try.prog 14 := Enters.mk' (by kernel_rfl)

def SAddr.eqb (x y : SAddr) : Bool := eqd x.v6 y.v6 && ((eqA 16 eqd) x.b y.b && (true))

theorem SAddr.eqb_iff (x y : SAddr) : SAddr.eqb x y = true ↔ x = y := by
  obtain ⟨a0, a1⟩ := x
  obtain ⟨b0, b1⟩ := y
  simp only [SAddr.eqb, Bool.and_eq_true, eqd_iff, (eqA_iff eqd_iff), SAddr.mk.injEq, and_true]

theorem ty22 : TyOK Try.prog 22 (arrE 16 u8E) := TyOK.mk' (by kernel_rfl) (by kernel_rfl)

theorem eqok24 : EqOK Try.prog 24 eAddr SAddr.eqb 3 := eqok_struct (fs := _) Try.underlying24 (by kernel_rfl) rfl (EqF.cons (by decide) rfl SAddr.l_v6 ty4 (fun d hd => (eqok_b Try.underlying4) d (by omega)) (EqF.cons (by decide) rfl SAddr.l_b ty22 (eqok_arr Try.underlying22 ty5 (eqok_u8 Try.underlying5)) EqF.nil)) (fun _ _ => rfl)

@[simp] theorem SAddr.eqb_self (x : SAddr) : SAddr.eqb x x = true := (SAddr.eqb_iff x x).2 rfl

def SKey.eqb (x y : SKey) : Bool := SAddr.eqb x.src y.src && (SAddr.eqb x.dst y.dst && (eqd x.proto y.proto && (eqd x.srcPort y.srcPort && (eqd x.dstPort y.dstPort && (true)))))

theorem SKey.eqb_iff (x y : SKey) : SKey.eqb x y = true ↔ x = y := by
  obtain ⟨a0, a1, a2, a3, a4⟩ := x
  obtain ⟨b0, b1, b2, b3, b4⟩ := y
  simp only [SKey.eqb, Bool.and_eq_true, SAddr.eqb_iff, SAddr.eqb_iff, eqd_iff, eqd_iff, eqd_iff, SKey.mk.injEq, and_true]

theorem eqok27 : EqOK Try.prog 27 eKey SKey.eqb 4 := eqok_struct (fs := _) Try.underlying27 (by kernel_rfl) rfl (EqF.cons (by decide) rfl SKey.l_src ty24 eqok24 (EqF.cons (by decide) rfl SKey.l_dst ty24 eqok24 (EqF.cons (by decide) rfl SKey.l_proto ty5 (fun d hd => (eqok_u8 Try.underlying5) d (by omega)) (EqF.cons (by decide) rfl SKey.l_srcPort ty25 (fun d hd => (eqok_u16 Try.underlying25) d (by omega)) (EqF.cons (by decide) rfl SKey.l_dstPort ty25 (fun d hd => (eqok_u16 Try.underlying25) d (by omega)) EqF.nil))))) (fun _ _ => rfl)

@[simp] theorem SKey.eqb_self (x : SKey) : SKey.eqb x x = true := (SKey.eqb_iff x x).2 rfl

theorem en16 : Enters Try.prog 16 := Enters.mk' (by kernel_rfl)

theorem z34 : (Try.prog.info? 34).bind (·.zero) = some (eHeader.val eHeader.zero) := by kernel_rfl

theorem FlowOf_walk (h o : SHeader) (w : World) : Calls Try.prog 4 #[eHeader.val h, eHeader.val o] w (RetV w (.bool true)) := by
  refine enter0 64 Try.func4 rfl rfl (Nat.le_of_ble_eq_true rfl) ?_
  refine seq ?_
  refine region ?_
  refine cons (box (E := eHeader) (.t rfl) (fun b1 => ?_))
  refine cons (box (E := eHeader) (.t rfl) (fun b2 => ?_))
  refine cons (opv (Ev.assign (.c (v := .bool false) rfl)) ?_)
  refine nil ?_
  refine pN ?_
  refine seq ?_
  refine region ?_
  refine cons (opv (Ev.load ty34 (.t rfl) (ptsVar (by repeat first | exact List.Mem.head _ | apply List.Mem.tail) (Lens.id _))) ?_)
  refine cons (callv en13 (.cons (.t rfl) .nil) (fun w I => rof_ok _ w) ?_)
  refine cons (alloc z27 (fun b3 => ?_))
  refine cons (storeV ty27 (Lens.id _) (.t rfl) (.t rfl) (by repeat first | exact Upd.head | apply Upd.tail) ?_)
  refine nil ?_
  refine pN ?_
  refine seq ?_
  refine seq ?_
  refine draw' (by kernel_rfl) ?_
  refine take 0 rfl (by kernel_rfl) (by kernel_rfl) (by kernel_rfl) (by repeat first | exact List.Sublist.refl _ | apply List.Sublist.cons_cons | apply List.Sublist.cons) (Ev.load ty34 (.t rfl) (ptsVar (by repeat first | exact List.Mem.head _ | apply List.Mem.tail) (Lens.id _))) ?_
  refine take 2 rfl (by kernel_rfl) (by kernel_rfl) (by kernel_rfl) (by repeat first | exact List.Sublist.refl _ | apply List.Sublist.cons_cons | apply List.Sublist.cons) (Ev.load ty27 (.t rfl) (ptsVar (by repeat first | exact List.Mem.head _ | apply List.Mem.tail) (Lens.id _))) ?_
  refine all [1] (by kernel_rfl) (by decide) (.cons rfl ?_ .nil)
  refine (callv en14 (.cons (.t rfl) .nil) (fun w I => of_ok _ w) ?_)
  refine heldN_of (by repeat first | exact List.Sublist.refl _ | apply List.Sublist.cons_cons | apply List.Sublist.cons) ?_
  refine take 3 rfl (by kernel_rfl) (by kernel_rfl) (by kernel_rfl) (by repeat first | exact List.Sublist.refl _ | apply List.Sublist.cons_cons | apply List.Sublist.cons) (Ev.neqS rfl eqok27 rfl (by kernel_rfl) (.t rfl) (.t rfl)) ?_
  refine take 4 rfl (by kernel_rfl) (by kernel_rfl) (by kernel_rfl) (by repeat first | exact List.Sublist.refl _ | apply List.Sublist.cons_cons | apply List.Sublist.cons) (Ev.move (.t rfl)) ?_
  refine takeg 5 rfl (by kernel_rfl) (by kernel_rfl) (by kernel_rfl) (by repeat first | exact List.Sublist.refl _ | apply List.Sublist.cons_cons | apply List.Sublist.cons) rfl rfl (Ev.load ty27 (.t rfl) (ptsVar (by repeat first | exact List.Mem.head _ | apply List.Mem.tail) (Lens.id _))) ?_
  refine takeg 7 rfl (by kernel_rfl) (by kernel_rfl) (by kernel_rfl) (by repeat first | exact List.Sublist.refl _ | apply List.Sublist.cons_cons | apply List.Sublist.cons) rfl rfl (Ev.load ty27 (.t rfl) (ptsVar (by repeat first | exact List.Mem.head _ | apply List.Mem.tail) (Lens.id _))) ?_
  refine all [6] (by kernel_rfl) (by decide) (.cons rfl ?_ .nil)
  refine (callg rfl rfl en15 (.cons (.g rfl id) .nil) (fun hg w I => back_ok _ w) ?_)
  refine heldN_of (by repeat first | exact List.Sublist.refl _ | apply List.Sublist.cons_cons | apply List.Sublist.cons) ?_
  refine all [8] (by kernel_rfl) (by decide) (.cons rfl ?_ .nil)
  refine (callg rfl rfl en16 (.cons (.g rfl id) .nil) (fun hg w I => rback_ok _ w) ?_)
  refine heldN_of (by repeat first | exact List.Sublist.refl _ | apply List.Sublist.cons_cons | apply List.Sublist.cons) ?_
  refine takeg 9 rfl (by kernel_rfl) (by kernel_rfl) (by kernel_rfl) (by repeat first | exact List.Sublist.refl _ | apply List.Sublist.cons_cons | apply List.Sublist.cons) rfl rfl (Ev.neqS rfl eqok27 rfl (by kernel_rfl) (.g rfl id) (.g rfl id)) ?_
  refine take 10 rfl (by kernel_rfl) (by kernel_rfl) (by kernel_rfl) (by repeat first | exact List.Sublist.refl _ | apply List.Sublist.cons_cons | apply List.Sublist.cons) (Ev.pickO (.t rfl) (.c (v := .bool true) rfl) (fun {_} h => by cases h; rfl) ⟨_, rfl⟩ (by first | exact (fun _ h => by rw [h] <;> rfl) | simp_all)) ?_
  refine over (by kernel_rfl) ?_
  refine pN ?_
  first | refine condD rfl (fun h0 => ?_) (fun h0 => ?_) | refine cond rfl (fun h0 => ?_) (fun h0 => ?_)
  · try simp only [Bool.and_eq_true, Bool.or_eq_true, Bool.or_eq_false_iff, Bool.and_eq_false_iff, Bool.not_eq_true', Bool.not_eq_false', decide_eq_true_eq, decide_eq_false_iff_not, Decidable.not_not] at h0
    simp at h0
  · try simp only [Bool.and_eq_true, Bool.or_eq_true, Bool.or_eq_false_iff, Bool.and_eq_false_iff, Bool.not_eq_true', Bool.not_eq_false', decide_eq_true_eq, decide_eq_false_iff_not, Decidable.not_not] at h0
    refine skip ?_
    refine pN ?_
    refine seq ?_
    refine region ?_
    refine cons (opv (Ev.load ty34 (.t rfl) (ptsVar (by repeat first | exact List.Mem.head _ | apply List.Mem.tail) (Lens.id _))) ?_)
    refine cons (alloc z34 (fun b4 => ?_))
    refine cons (storeV ty34 (Lens.id _) (.t rfl) (.t rfl) (by repeat first | exact Upd.head | apply Upd.tail) ?_)
    refine nil ?_
    refine pN ?_
    refine seq ?_
    refine region ?_
    refine cons (opv (Ev.fieldAddr (o := 17) (.t rfl) (by kernel_rfl)) ?_)
    refine cons (opv (Ev.load ty24 (.t rfl) (ptsVar (by repeat first | exact List.Mem.head _ | apply List.Mem.tail) SHeader.l_dst)) ?_)
    refine cons (opv (Ev.fieldAddr (o := 0) (.t rfl) (by kernel_rfl)) ?_)
    refine cons (storeV ty24 SHeader.l_src (.t rfl) (.t rfl) (by repeat first | exact Upd.head | apply Upd.tail) ?_)
    refine nil ?_
    refine pN ?_
    refine seq ?_
    refine region ?_
    refine cons (opv (Ev.fieldAddr (o := 0) (.t rfl) (by kernel_rfl)) ?_)
    refine cons (opv (Ev.load ty24 (.t rfl) (ptsVar (by repeat first | exact List.Mem.head _ | apply List.Mem.tail) SHeader.l_src)) ?_)
    refine cons (opv (Ev.fieldAddr (o := 17) (.t rfl) (by kernel_rfl)) ?_)
    refine cons (storeV ty24 SHeader.l_dst (.t rfl) (.t rfl) (by repeat first | exact Upd.head | apply Upd.tail) ?_)
    refine nil ?_
    refine pN ?_
    refine seq ?_
    refine region ?_
    refine cons (opv (Ev.fieldAddr (o := 36) (.t rfl) (by kernel_rfl)) ?_)
    refine cons (opv (Ev.load ty25 (.t rfl) (ptsVar (by repeat first | exact List.Mem.head _ | apply List.Mem.tail) SHeader.l_dstPort)) ?_)
    refine cons (opv (Ev.fieldAddr (o := 35) (.t rfl) (by kernel_rfl)) ?_)
    refine cons (storeV ty25 SHeader.l_srcPort (.t rfl) (.t rfl) (by repeat first | exact Upd.head | apply Upd.tail) ?_)
    refine nil ?_
    refine pN ?_
    refine seq ?_
    refine region ?_
    refine cons (opv (Ev.fieldAddr (o := 35) (.t rfl) (by kernel_rfl)) ?_)
    refine cons (opv (Ev.load ty25 (.t rfl) (ptsVar (by repeat first | exact List.Mem.head _ | apply List.Mem.tail) SHeader.l_srcPort)) ?_)
    refine cons (opv (Ev.fieldAddr (o := 36) (.t rfl) (by kernel_rfl)) ?_)
    refine cons (storeV ty25 SHeader.l_dstPort (.t rfl) (.t rfl) (by repeat first | exact Upd.head | apply Upd.tail) ?_)
    refine nil ?_
    refine pN ?_
    refine seq ?_
    refine region ?_
    refine cons (opv (Ev.load ty34 (.t rfl) (ptsVar (by repeat first | exact List.Mem.head _ | apply List.Mem.tail) (Lens.id _))) ?_)
    refine cons (alloc z34 (fun b5 => ?_))
    refine cons (storeV ty34 (Lens.id _) (.t rfl) (.t rfl) (by repeat first | exact Upd.head | apply Upd.tail) ?_)
    refine nil ?_
    refine pN ?_
    refine seq ?_
    refine region ?_
    refine cons (opv (Ev.fieldAddr (o := 0) (.t rfl) (by kernel_rfl)) ?_)
    refine cons (opv (Ev.load ty24 (.t rfl) (ptsVar (by repeat first | exact List.Mem.head _ | apply List.Mem.tail) SHeader.l_src)) ?_)
    refine cons (opv (Ev.fieldAddr (o := 0) (.t rfl) (by kernel_rfl)) ?_)
    refine cons (storeV ty24 SHeader.l_src (.t rfl) (.t rfl) (by repeat first | exact Upd.head | apply Upd.tail) ?_)
    refine nil ?_
    refine pN ?_
    refine seq ?_
    refine region ?_
    refine cons (opv (Ev.fieldAddr (o := 17) (.t rfl) (by kernel_rfl)) ?_)
    refine cons (opv (Ev.load ty24 (.t rfl) (ptsVar (by repeat first | exact List.Mem.head _ | apply List.Mem.tail) SHeader.l_dst)) ?_)
    refine cons (opv (Ev.fieldAddr (o := 17) (.t rfl) (by kernel_rfl)) ?_)
    refine cons (storeV ty24 SHeader.l_dst (.t rfl) (.t rfl) (by repeat first | exact Upd.head | apply Upd.tail) ?_)
    refine nil ?_
    refine pN ?_
    refine seq ?_
    refine region ?_
    refine cons (opv (Ev.fieldAddr (o := 34) (.t rfl) (by kernel_rfl)) ?_)
    refine cons (opv (Ev.load ty5 (.t rfl) (ptsVar (by repeat first | exact List.Mem.head _ | apply List.Mem.tail) SHeader.l_proto)) ?_)
    refine cons (opv (Ev.fieldAddr (o := 34) (.t rfl) (by kernel_rfl)) ?_)
    refine cons (storeV ty5 SHeader.l_proto (.t rfl) (.t rfl) (by repeat first | exact Upd.head | apply Upd.tail) ?_)
    refine nil ?_
    refine pN ?_
    refine seq ?_
    refine region ?_
    refine cons (opv (Ev.fieldAddr (o := 35) (.t rfl) (by kernel_rfl)) ?_)
    refine cons (opv (Ev.load ty25 (.t rfl) (ptsVar (by repeat first | exact List.Mem.head _ | apply List.Mem.tail) SHeader.l_srcPort)) ?_)
    refine cons (opv (Ev.fieldAddr (o := 35) (.t rfl) (by kernel_rfl)) ?_)
    refine cons (storeV ty25 SHeader.l_srcPort (.t rfl) (.t rfl) (by repeat first | exact Upd.head | apply Upd.tail) ?_)
    refine nil ?_
    refine pN ?_
    refine seq ?_
    refine region ?_
    refine cons (opv (Ev.fieldAddr (o := 36) (.t rfl) (by kernel_rfl)) ?_)
    refine cons (opv (Ev.load ty25 (.t rfl) (ptsVar (by repeat first | exact List.Mem.head _ | apply List.Mem.tail) SHeader.l_dstPort)) ?_)
    refine cons (opv (Ev.fieldAddr (o := 36) (.t rfl) (by kernel_rfl)) ?_)
    refine cons (storeV ty25 SHeader.l_dstPort (.t rfl) (.t rfl) (by repeat first | exact Upd.head | apply Upd.tail) ?_)
    refine nil ?_
    refine pN ?_
    refine seq ?_
    refine draw' (by kernel_rfl) ?_
    refine take 0 rfl (by kernel_rfl) (by kernel_rfl) (by kernel_rfl) (by repeat first | exact List.Sublist.refl _ | apply List.Sublist.cons_cons | apply List.Sublist.cons) (Ev.load ty34 (.t rfl) (ptsVar (by repeat first | exact List.Mem.head _ | apply List.Mem.tail) (Lens.id _))) ?_
    refine take 2 rfl (by kernel_rfl) (by kernel_rfl) (by kernel_rfl) (by repeat first | exact List.Sublist.refl _ | apply List.Sublist.cons_cons | apply List.Sublist.cons) (Ev.load ty27 (.t rfl) (ptsVar (by repeat first | exact List.Mem.head _ | apply List.Mem.tail) (Lens.id _))) ?_
    refine all [1] (by kernel_rfl) (by decide) (.cons rfl ?_ .nil)
    refine (callv en14 (.cons (.t rfl) .nil) (fun w I => of_ok _ w) ?_)
    refine heldN_of (by repeat first | exact List.Sublist.refl _ | apply List.Sublist.cons_cons | apply List.Sublist.cons) ?_
    refine all [3] (by kernel_rfl) (by decide) (.cons rfl ?_ .nil)
    refine (callv en16 (.cons (.t rfl) .nil) (fun w I => rback_ok _ w) ?_)
    refine heldN_of (by repeat first | exact List.Sublist.refl _ | apply List.Sublist.cons_cons | apply List.Sublist.cons) ?_
    refine take 4 rfl (by kernel_rfl) (by kernel_rfl) (by kernel_rfl) (by repeat first | exact List.Sublist.refl _ | apply List.Sublist.cons_cons | apply List.Sublist.cons) (Ev.eqlS rfl eqok27 rfl (by kernel_rfl) (.t rfl) (.t rfl)) ?_
    refine take 5 rfl (by kernel_rfl) (by kernel_rfl) (by kernel_rfl) (by repeat first | exact List.Sublist.refl _ | apply List.Sublist.cons_cons | apply List.Sublist.cons) (Ev.move (.t rfl)) ?_
    refine takeg 6 rfl (by kernel_rfl) (by kernel_rfl) (by kernel_rfl) (by repeat first | exact List.Sublist.refl _ | apply List.Sublist.cons_cons | apply List.Sublist.cons) rfl rfl (Ev.load ty34 (.t rfl) (ptsVar (by repeat first | exact List.Mem.head _ | apply List.Mem.tail) (Lens.id _))) ?_
    refine takeg 8 rfl (by kernel_rfl) (by kernel_rfl) (by kernel_rfl) (by repeat first | exact List.Sublist.refl _ | apply List.Sublist.cons_cons | apply List.Sublist.cons) rfl rfl (Ev.load ty27 (.t rfl) (ptsVar (by repeat first | exact List.Mem.head _ | apply List.Mem.tail) (Lens.id _))) ?_
    refine all [7] (by kernel_rfl) (by decide) (.cons rfl ?_ .nil)
    refine (callg rfl rfl en14 (.cons (.g rfl id) .nil) (fun hg w I => of_ok _ w) ?_)
    refine heldN_of (by repeat first | exact List.Sublist.refl _ | apply List.Sublist.cons_cons | apply List.Sublist.cons) ?_
    refine takeg 9 rfl (by kernel_rfl) (by kernel_rfl) (by kernel_rfl) (by repeat first | exact List.Sublist.refl _ | apply List.Sublist.cons_cons | apply List.Sublist.cons) rfl rfl (Ev.eqlS rfl eqok27 rfl (by kernel_rfl) (.g rfl id) (.g rfl id)) ?_
    refine take 10 rfl (by kernel_rfl) (by kernel_rfl) (by kernel_rfl) (by repeat first | exact List.Sublist.refl _ | apply List.Sublist.cons_cons | apply List.Sublist.cons) (Ev.pickA (.t rfl) (fun {_} h => by cases h; rfl) ⟨_, rfl⟩ (by first | exact (fun _ h => by rw [h] <;> rfl) | simp_all) (.c (v := .bool false) rfl)) ?_
    refine take 11 rfl (by kernel_rfl) (by kernel_rfl) (by kernel_rfl) (by repeat first | exact List.Sublist.refl _ | apply List.Sublist.cons_cons | apply List.Sublist.cons) (Ev.move (.t rfl)) ?_
    refine all [12] (by kernel_rfl) (by decide) (.cons rfl ?_ .nil)
    refine (callg rfl rfl en12 .nil (fun hg w I => awake_ok w) ?_)
    refine heldN_of (by repeat first | exact List.Sublist.refl _ | apply List.Sublist.cons_cons | apply List.Sublist.cons) ?_
    refine take 13 rfl (by kernel_rfl) (by kernel_rfl) (by kernel_rfl) (by repeat first | exact List.Sublist.refl _ | apply List.Sublist.cons_cons | apply List.Sublist.cons) (Ev.pickA (.t rfl) (fun {_} h => by cases h; rfl) ⟨_, rfl⟩ (by first | exact (fun _ h => by rw [h] <;> rfl) | simp_all) (.c (v := .bool false) rfl)) ?_
    refine take 14 rfl (by kernel_rfl) (by kernel_rfl) (by kernel_rfl) (by repeat first | exact List.Sublist.refl _ | apply List.Sublist.cons_cons | apply List.Sublist.cons) (Ev.assign (.t rfl)) ?_
    refine over (by kernel_rfl) ?_
    refine pN ?_
    refine ret ?_
    refine done rfl (.tmp rfl .nil) (retE ?_)
    refine bX2 ?_
    have e1 : ∀ (h : SHeader), ofK { h with src := h.dst, dst := h.src, srcPort := h.dstPort, dstPort := h.srcPort } = backK (ofK h) := fun h => by
      unfold ofK backK
      dsimp only
      split <;> rfl
    simp [SKey.eqb_iff]
    exact ⟨e1 h, rfl⟩

theorem en22 : Enters Try.prog 22 := Enters.mk' (by kernel_rfl)

theorem en23 : Enters Try.prog 23 := Enters.mk' (by kernel_rfl)

theorem en24 : Enters Try.prog 24 := Enters.mk' (by kernel_rfl)

theorem en25 : Enters Try.prog 25 := Enters.mk' (by kernel_rfl)

theorem FlowLanes_walk (k : SKey) (n : Int) (f : UInt64) (w : World) : Calls Try.prog 6 #[eKey.val k, I n, U64 f] w (RetV w (.bool true)) := by
  refine enter0 60 Try.func6 rfl rfl (Nat.le_of_ble_eq_true rfl) ?_
  refine seq ?_
  refine region ?_
  refine cons (box (E := eKey) (.t rfl) (fun b1 => ?_))
  refine cons (opv (Ev.assign (.c (v := .bool false) rfl)) ?_)
  refine nil ?_
  refine pN ?_
  refine seq ?_
  refine region ?_
  refine cons (opv (Ev.load ty27 (.t rfl) (ptsVar (by repeat first | exact List.Mem.head _ | apply List.Mem.tail) (Lens.id _))) ?_)
  refine cons (opv (Ev.move (.t rfl)) ?_)
  refine cons (callv en22 (.cons (.t rfl) (.cons (.t rfl) .nil)) (fun w I => lane_ok _ _ w) ?_)
  refine cons (opv (Ev.move (.t rfl)) ?_)
  refine cons (opv (Ev.extract (.t rfl) rfl) ?_)
  refine cons (opv (Ev.extract (.t rfl) rfl) ?_)
  refine cons (opv (Ev.assign (.t rfl)) ?_)
  refine cons (opv (Ev.assign (.t rfl)) ?_)
  refine nil ?_
  refine pN ?_
  refine seq ?_
  refine region ?_
  refine cons (opv (Ev.load ty27 (.t rfl) (ptsVar (by repeat first | exact List.Mem.head _ | apply List.Mem.tail) (Lens.id _))) ?_)
  refine cons (opv (Ev.move (.t rfl)) ?_)
  refine cons (callv en23 (.cons (.t rfl) (.cons (.t rfl) .nil)) (fun w I => rlane_ok _ _ w) ?_)
  refine cons (opv (Ev.move (.t rfl)) ?_)
  refine cons (opv (Ev.extract (.t rfl) rfl) ?_)
  refine cons (opv (Ev.extract (.t rfl) rfl) ?_)
  refine cons (opv (Ev.assign (.t rfl)) ?_)
  refine cons (opv (Ev.assign (.t rfl)) ?_)
  refine nil ?_
  refine pN ?_
  refine seq ?_
  refine region ?_
  refine cons (opv (Ev.load ty27 (.t rfl) (ptsVar (by repeat first | exact List.Mem.head _ | apply List.Mem.tail) (Lens.id _))) ?_)
  refine cons (opv (Ev.move (.t rfl)) ?_)
  refine cons (callv en24 (.cons (.t rfl) (.cons (.t rfl) .nil)) (fun w I => part_ok _ _ w) ?_)
  refine cons (opv (Ev.move (.t rfl)) ?_)
  refine cons (opv (Ev.extract (.t rfl) rfl) ?_)
  refine cons (opv (Ev.extract (.t rfl) rfl) ?_)
  refine cons (opv (Ev.assign (.t rfl)) ?_)
  refine cons (opv (Ev.assign (.t rfl)) ?_)
  refine nil ?_
  refine pN ?_
  refine seq ?_
  refine region ?_
  refine cons (opv (Ev.load ty27 (.t rfl) (ptsVar (by repeat first | exact List.Mem.head _ | apply List.Mem.tail) (Lens.id _))) ?_)
  refine cons (opv (Ev.move (.t rfl)) ?_)
  refine cons (callv en25 (.cons (.t rfl) (.cons (.t rfl) .nil)) (fun w I => rpart_ok _ _ w) ?_)
  refine cons (opv (Ev.move (.t rfl)) ?_)
  refine cons (opv (Ev.extract (.t rfl) rfl) ?_)
  refine cons (opv (Ev.extract (.t rfl) rfl) ?_)
  refine cons (opv (Ev.assign (.t rfl)) ?_)
  refine cons (opv (Ev.assign (.t rfl)) ?_)
  refine nil ?_
  refine pN ?_
  refine seq ?_
  refine region ?_
  refine cons (opv (Ev.move (.t rfl)) ?_)
  refine cons (opv (Ev.move (.t rfl)) ?_)
  refine cons (opv (Ev.eql_i (.t rfl) (.t rfl)) ?_)
  refine cons (opv (Ev.move (.t rfl)) ?_)
  refine cons (opg rfl rfl (Ev.move (.t rfl)) ?_)
  refine cons (opg rfl rfl (Ev.move (.t rfl)) ?_)
  refine cons (opg rfl rfl (Ev.eql_i (.g rfl id) (.g rfl id)) ?_)
  refine cons (opv (Ev.pickA (.t rfl) (fun {_} h => by cases h; rfl) ⟨_, rfl⟩ (by first | exact (fun _ h => by rw [h] <;> rfl) | simp_all) (.c (v := .bool false) rfl)) ?_)
  refine cons (opv (Ev.move (.t rfl)) ?_)
  refine cons (opg rfl rfl (Ev.move (.t rfl)) ?_)
  refine cons (opg rfl rfl (Ev.move (.t rfl)) ?_)
  refine cons (opg rfl rfl (Ev.eql_u64 (.g rfl id) (.g rfl id)) ?_)
  refine cons (opv (Ev.pickA (.t rfl) (fun {_} h => by cases h; rfl) ⟨_, rfl⟩ (by first | exact (fun _ h => by rw [h] <;> rfl) | simp_all) (.c (v := .bool false) rfl)) ?_)
  refine cons (opv (Ev.move (.t rfl)) ?_)
  refine cons (opg rfl rfl (Ev.move (.t rfl)) ?_)
  refine cons (opg rfl rfl (Ev.move (.t rfl)) ?_)
  refine cons (opg rfl rfl (Ev.eql_i (.g rfl id) (.g rfl id)) ?_)
  refine cons (opv (Ev.pickA (.t rfl) (fun {_} h => by cases h; rfl) ⟨_, rfl⟩ (by first | exact (fun _ h => by rw [h] <;> rfl) | simp_all) (.c (v := .bool false) rfl)) ?_)
  refine cons (opv (Ev.move (.t rfl)) ?_)
  refine cons (callg rfl rfl en12 .nil (fun hg w I => awake_ok w) ?_)
  refine cons (opv (Ev.pickA (.t rfl) (fun {_} h => by cases h; rfl) ⟨_, rfl⟩ (by first | exact (fun _ h => by rw [h] <;> rfl) | simp_all) (.c (v := .bool false) rfl)) ?_)
  refine cons (opv (Ev.assign (.t rfl)) ?_)
  refine nil ?_
  refine pN ?_
  refine ret ?_
  refine done rfl (.tmp rfl .nil) (retE ?_)
  refine bX2 ?_
  simp

theorem FlowNames_walk (w : World) : Calls Try.prog 9 #[] w (RetV w (.bool true)) := by
  refine enter0 103 Try.func9 rfl rfl (Nat.le_of_ble_eq_true rfl) ?_
  refine seq ?_
  refine region ?_
  refine cons (opv (Ev.assign (.c (v := .bool false) rfl)) ?_)
  refine nil ?_
  refine pN ?_
  refine seq ?_
  refine region ?_
  refine cons (callv en27 .nil (fun w I => example_ok w) ?_)
  refine cons (alloc z27 (fun b1 => ?_))
  refine cons (storeV ty27 (Lens.id _) (.t rfl) (.t rfl) (by repeat first | exact Upd.head | apply Upd.tail) ?_)
  refine nil ?_
  refine pN ?_
  refine seq ?_
  refine region ?_
  refine cons (opv (Ev.load ty27 (.t rfl) (ptsVar (by repeat first | exact List.Mem.head _ | apply List.Mem.tail) (Lens.id _))) ?_)
  refine cons (callv en22 (.cons (.t rfl) (.cons (.c (v := I 0) rfl) .nil)) (fun w I => lane_ok _ _ w) ?_)
  refine cons (opv (Ev.move (.t rfl)) ?_)
  refine cons (opv (Ev.extract (.t rfl) rfl) ?_)
  refine cons (opv (Ev.extract (.t rfl) rfl) ?_)
  refine cons (opv (Ev.assign (.t rfl)) ?_)
  refine cons (opv (Ev.assign (.t rfl)) ?_)
  refine nil ?_
  refine pN ?_
  refine seq ?_
  refine region ?_
  refine cons (opv (Ev.load ty27 (.t rfl) (ptsVar (by repeat first | exact List.Mem.head _ | apply List.Mem.tail) (Lens.id _))) ?_)
  refine cons (callv en22 (.cons (.t rfl) (.cons (.c (v := I 17) rfl) .nil)) (fun w I => lane_ok _ _ w) ?_)
  refine cons (opv (Ev.move (.t rfl)) ?_)
  refine cons (opv (Ev.extract (.t rfl) rfl) ?_)
  refine cons (opv (Ev.extract (.t rfl) rfl) ?_)
  refine cons (opv (Ev.assign (.t rfl)) ?_)
  refine cons (opv (Ev.assign (.t rfl)) ?_)
  refine nil ?_
  refine pN ?_
  refine seq ?_
  refine region ?_
  refine cons (opv (Ev.load ty27 (.t rfl) (ptsVar (by repeat first | exact List.Mem.head _ | apply List.Mem.tail) (Lens.id _))) ?_)
  refine cons (callv en22 (.cons (.t rfl) (.cons (.c (v := I 1) rfl) .nil)) (fun w I => lane_ok _ _ w) ?_)
  refine cons (opv (Ev.move (.t rfl)) ?_)
  refine cons (opv (Ev.extract (.t rfl) rfl) ?_)
  refine cons (opv (Ev.extract (.t rfl) rfl) ?_)
  refine cons (opv (Ev.assign (.t rfl)) ?_)
  refine cons (opv (Ev.assign (.t rfl)) ?_)
  refine nil ?_
  refine pN ?_
  refine seq ?_
  refine region ?_
  refine cons (opv (Ev.load ty27 (.t rfl) (ptsVar (by repeat first | exact List.Mem.head _ | apply List.Mem.tail) (Lens.id _))) ?_)
  refine cons (callv en24 (.cons (.t rfl) (.cons (.c (v := U64 0) rfl) .nil)) (fun w I => part_ok _ _ w) ?_)
  refine cons (opv (Ev.move (.t rfl)) ?_)
  refine cons (opv (Ev.extract (.t rfl) rfl) ?_)
  refine cons (opv (Ev.extract (.t rfl) rfl) ?_)
  refine cons (opv (Ev.assign (.t rfl)) ?_)
  refine cons (opv (Ev.assign (.t rfl)) ?_)
  refine nil ?_
  refine pN ?_
  refine seq ?_
  refine region ?_
  refine cons (opv (Ev.load ty27 (.t rfl) (ptsVar (by repeat first | exact List.Mem.head _ | apply List.Mem.tail) (Lens.id _))) ?_)
  refine cons (callv en24 (.cons (.t rfl) (.cons (.c (v := U64 1) rfl) .nil)) (fun w I => part_ok _ _ w) ?_)
  refine cons (opv (Ev.move (.t rfl)) ?_)
  refine cons (opv (Ev.extract (.t rfl) rfl) ?_)
  refine cons (opv (Ev.extract (.t rfl) rfl) ?_)
  refine cons (opv (Ev.assign (.t rfl)) ?_)
  refine cons (opv (Ev.assign (.t rfl)) ?_)
  refine nil ?_
  refine pN ?_
  refine seq ?_
  refine region ?_
  refine cons (opv (Ev.load ty27 (.t rfl) (ptsVar (by repeat first | exact List.Mem.head _ | apply List.Mem.tail) (Lens.id _))) ?_)
  refine cons (callv en22 (.cons (.t rfl) (.cons (.c (v := I (-1)) rfl) .nil)) (fun w I => lane_ok _ _ w) ?_)
  refine cons (opv (Ev.move (.t rfl)) ?_)
  refine cons (opv (Ev.extract (.t rfl) rfl) ?_)
  refine cons (opv (Ev.extract (.t rfl) rfl) ?_)
  refine cons (opv (Ev.assign (.t rfl)) ?_)
  refine cons (opv (Ev.assign (.t rfl)) ?_)
  refine nil ?_
  refine pN ?_
  refine seq ?_
  refine region ?_
  refine cons (opv (Ev.fieldAddr (o := 0) (.t rfl) (by kernel_rfl)) ?_)
  refine cons (opv (Ev.load ty24 (.t rfl) (ptsVar (by repeat first | exact List.Mem.head _ | apply List.Mem.tail) SKey.l_src)) ?_)
  refine cons (opv (Ev.fieldAddr (o := 17) (.t rfl) (by kernel_rfl)) ?_)
  refine cons (opv (Ev.load ty24 (.t rfl) (ptsVar (by repeat first | exact List.Mem.head _ | apply List.Mem.tail) SKey.l_dst)) ?_)
  refine cons (opv (Ev.buildS (fs := _) (places := [(0, 17), (17, 17), (34, 1), (35, 1), (36, 1), (37, 1), (38, 1), (39, 1), (40, 1), (41, 1), (42, 1)]) z34 rfl Try.underlying34 (by kernel_rfl) (.cons (.t rfl) (.cons (.t rfl) (.cons (.c (v := U8 1) rfl) (.cons (.c (v := U16 53) rfl) (.cons (.c (v := U16 1024) rfl) .nil))))) (Fills.cons SHeader.l_src rfl (Fills.cons SHeader.l_dst rfl (Fills.cons SHeader.l_proto rfl (Fills.cons SHeader.l_srcPort rfl (Fills.cons SHeader.l_dstPort rfl Fills.nil)))))) ?_)
  refine cons (callv en14 (.cons (.t rfl) .nil) (fun w I => of_ok _ w) ?_)
  refine cons (alloc z27 (fun b2 => ?_))
  refine cons (storeV ty27 (Lens.id _) (.t rfl) (.t rfl) (by repeat first | exact Upd.head | apply Upd.tail) ?_)
  refine nil ?_
  refine pN ?_
  refine seq ?_
  refine draw' (by kernel_rfl) ?_
  refine take 0 rfl (by kernel_rfl) (by kernel_rfl) (by kernel_rfl) (by repeat first | exact List.Sublist.refl _ | apply List.Sublist.cons_cons | apply List.Sublist.cons) (Ev.move (.c (v := .bool true) rfl)) ?_
  refine all [1] (by kernel_rfl) (by decide) (.cons rfl ?_ .nil)
  refine (callg rfl rfl en12 .nil (fun hg w I => awake_ok w) ?_)
  refine heldN_of (by repeat first | exact List.Sublist.refl _ | apply List.Sublist.cons_cons | apply List.Sublist.cons) ?_
  refine take 2 rfl (by kernel_rfl) (by kernel_rfl) (by kernel_rfl) (by repeat first | exact List.Sublist.refl _ | apply List.Sublist.cons_cons | apply List.Sublist.cons) (Ev.pickA (.t rfl) (fun {_} h => by cases h; rfl) ⟨_, rfl⟩ (by first | exact (fun _ h => by rw [h] <;> rfl) | simp_all) (.c (v := .bool false) rfl)) ?_
  refine take 3 rfl (by kernel_rfl) (by kernel_rfl) (by kernel_rfl) (by repeat first | exact List.Sublist.refl _ | apply List.Sublist.cons_cons | apply List.Sublist.cons) (Ev.move (.t rfl)) ?_
  refine takeg 4 rfl (by kernel_rfl) (by kernel_rfl) (by kernel_rfl) (by repeat first | exact List.Sublist.refl _ | apply List.Sublist.cons_cons | apply List.Sublist.cons) rfl rfl (Ev.move (.t rfl)) ?_
  refine takeg 5 rfl (by kernel_rfl) (by kernel_rfl) (by kernel_rfl) (by repeat first | exact List.Sublist.refl _ | apply List.Sublist.cons_cons | apply List.Sublist.cons) rfl rfl (Ev.eql_i (.g rfl id) (.c (v := I 2) rfl)) ?_
  refine take 6 rfl (by kernel_rfl) (by kernel_rfl) (by kernel_rfl) (by repeat first | exact List.Sublist.refl _ | apply List.Sublist.cons_cons | apply List.Sublist.cons) (Ev.pickA (.t rfl) (fun {_} h => by cases h; rfl) ⟨_, rfl⟩ (by first | exact (fun _ h => by rw [h] <;> rfl) | simp_all) (.c (v := .bool false) rfl)) ?_
  refine take 7 rfl (by kernel_rfl) (by kernel_rfl) (by kernel_rfl) (by repeat first | exact List.Sublist.refl _ | apply List.Sublist.cons_cons | apply List.Sublist.cons) (Ev.move (.t rfl)) ?_
  refine takeg 8 rfl (by kernel_rfl) (by kernel_rfl) (by kernel_rfl) (by repeat first | exact List.Sublist.refl _ | apply List.Sublist.cons_cons | apply List.Sublist.cons) rfl rfl (Ev.move (.t rfl)) ?_
  refine takeg 9 rfl (by kernel_rfl) (by kernel_rfl) (by kernel_rfl) (by repeat first | exact List.Sublist.refl _ | apply List.Sublist.cons_cons | apply List.Sublist.cons) rfl rfl (Ev.eql_i (.g rfl id) (.c (v := I 2) rfl)) ?_
  refine take 10 rfl (by kernel_rfl) (by kernel_rfl) (by kernel_rfl) (by repeat first | exact List.Sublist.refl _ | apply List.Sublist.cons_cons | apply List.Sublist.cons) (Ev.pickA (.t rfl) (fun {_} h => by cases h; rfl) ⟨_, rfl⟩ (by first | exact (fun _ h => by rw [h] <;> rfl) | simp_all) (.c (v := .bool false) rfl)) ?_
  refine take 11 rfl (by kernel_rfl) (by kernel_rfl) (by kernel_rfl) (by repeat first | exact List.Sublist.refl _ | apply List.Sublist.cons_cons | apply List.Sublist.cons) (Ev.move (.t rfl)) ?_
  refine takeg 12 rfl (by kernel_rfl) (by kernel_rfl) (by kernel_rfl) (by repeat first | exact List.Sublist.refl _ | apply List.Sublist.cons_cons | apply List.Sublist.cons) rfl rfl (Ev.move (.t rfl)) ?_
  refine takeg 13 rfl (by kernel_rfl) (by kernel_rfl) (by kernel_rfl) (by repeat first | exact List.Sublist.refl _ | apply List.Sublist.cons_cons | apply List.Sublist.cons) rfl rfl (Ev.eql_i (.g rfl id) (.c (v := I 0) rfl)) ?_
  refine take 14 rfl (by kernel_rfl) (by kernel_rfl) (by kernel_rfl) (by repeat first | exact List.Sublist.refl _ | apply List.Sublist.cons_cons | apply List.Sublist.cons) (Ev.pickA (.t rfl) (fun {_} h => by cases h; rfl) ⟨_, rfl⟩ (by first | exact (fun _ h => by rw [h] <;> rfl) | simp_all) (.c (v := .bool false) rfl)) ?_
  refine take 15 rfl (by kernel_rfl) (by kernel_rfl) (by kernel_rfl) (by repeat first | exact List.Sublist.refl _ | apply List.Sublist.cons_cons | apply List.Sublist.cons) (Ev.move (.t rfl)) ?_
  refine takeg 16 rfl (by kernel_rfl) (by kernel_rfl) (by kernel_rfl) (by repeat first | exact List.Sublist.refl _ | apply List.Sublist.cons_cons | apply List.Sublist.cons) rfl rfl (Ev.move (.t rfl)) ?_
  refine takeg 17 rfl (by kernel_rfl) (by kernel_rfl) (by kernel_rfl) (by repeat first | exact List.Sublist.refl _ | apply List.Sublist.cons_cons | apply List.Sublist.cons) rfl rfl (Ev.eql_i (.g rfl id) (.c (v := I 0) rfl)) ?_
  refine take 18 rfl (by kernel_rfl) (by kernel_rfl) (by kernel_rfl) (by repeat first | exact List.Sublist.refl _ | apply List.Sublist.cons_cons | apply List.Sublist.cons) (Ev.pickA (.t rfl) (fun {_} h => by cases h; rfl) ⟨_, rfl⟩ (by first | exact (fun _ h => by rw [h] <;> rfl) | simp_all) (.c (v := .bool false) rfl)) ?_
  refine take 19 rfl (by kernel_rfl) (by kernel_rfl) (by kernel_rfl) (by repeat first | exact List.Sublist.refl _ | apply List.Sublist.cons_cons | apply List.Sublist.cons) (Ev.move (.t rfl)) ?_
  refine takeg 20 rfl (by kernel_rfl) (by kernel_rfl) (by kernel_rfl) (by repeat first | exact List.Sublist.refl _ | apply List.Sublist.cons_cons | apply List.Sublist.cons) rfl rfl (Ev.move (.t rfl)) ?_
  refine takeg 21 rfl (by kernel_rfl) (by kernel_rfl) (by kernel_rfl) (by repeat first | exact List.Sublist.refl _ | apply List.Sublist.cons_cons | apply List.Sublist.cons) rfl rfl (Ev.eql_i (.g rfl id) (.c (v := I 2) rfl)) ?_
  refine take 22 rfl (by kernel_rfl) (by kernel_rfl) (by kernel_rfl) (by repeat first | exact List.Sublist.refl _ | apply List.Sublist.cons_cons | apply List.Sublist.cons) (Ev.pickA (.t rfl) (fun {_} h => by cases h; rfl) ⟨_, rfl⟩ (by first | exact (fun _ h => by rw [h] <;> rfl) | simp_all) (.c (v := .bool false) rfl)) ?_
  refine take 23 rfl (by kernel_rfl) (by kernel_rfl) (by kernel_rfl) (by repeat first | exact List.Sublist.refl _ | apply List.Sublist.cons_cons | apply List.Sublist.cons) (Ev.move (.t rfl)) ?_
  refine takeg 24 rfl (by kernel_rfl) (by kernel_rfl) (by kernel_rfl) (by repeat first | exact List.Sublist.refl _ | apply List.Sublist.cons_cons | apply List.Sublist.cons) rfl rfl (Ev.move (.t rfl)) ?_
  refine takeg 25 rfl (by kernel_rfl) (by kernel_rfl) (by kernel_rfl) (by repeat first | exact List.Sublist.refl _ | apply List.Sublist.cons_cons | apply List.Sublist.cons) rfl rfl (Ev.eql_u64 (.g rfl id) (.c (v := U64 0) rfl)) ?_
  refine take 26 rfl (by kernel_rfl) (by kernel_rfl) (by kernel_rfl) (by repeat first | exact List.Sublist.refl _ | apply List.Sublist.cons_cons | apply List.Sublist.cons) (Ev.pickA (.t rfl) (fun {_} h => by cases h; rfl) ⟨_, rfl⟩ (by first | exact (fun _ h => by rw [h] <;> rfl) | simp_all) (.c (v := .bool false) rfl)) ?_
  refine take 27 rfl (by kernel_rfl) (by kernel_rfl) (by kernel_rfl) (by repeat first | exact List.Sublist.refl _ | apply List.Sublist.cons_cons | apply List.Sublist.cons) (Ev.move (.t rfl)) ?_
  refine takeg 28 rfl (by kernel_rfl) (by kernel_rfl) (by kernel_rfl) (by repeat first | exact List.Sublist.refl _ | apply List.Sublist.cons_cons | apply List.Sublist.cons) rfl rfl (Ev.move (.t rfl)) ?_
  refine takeg 29 rfl (by kernel_rfl) (by kernel_rfl) (by kernel_rfl) (by repeat first | exact List.Sublist.refl _ | apply List.Sublist.cons_cons | apply List.Sublist.cons) rfl rfl (Ev.eql_i (.g rfl id) (.c (v := I 0) rfl)) ?_
  refine take 30 rfl (by kernel_rfl) (by kernel_rfl) (by kernel_rfl) (by repeat first | exact List.Sublist.refl _ | apply List.Sublist.cons_cons | apply List.Sublist.cons) (Ev.pickA (.t rfl) (fun {_} h => by cases h; rfl) ⟨_, rfl⟩ (by first | exact (fun _ h => by rw [h] <;> rfl) | simp_all) (.c (v := .bool false) rfl)) ?_
  refine take 31 rfl (by kernel_rfl) (by kernel_rfl) (by kernel_rfl) (by repeat first | exact List.Sublist.refl _ | apply List.Sublist.cons_cons | apply List.Sublist.cons) (Ev.move (.t rfl)) ?_
  refine takeg 32 rfl (by kernel_rfl) (by kernel_rfl) (by kernel_rfl) (by repeat first | exact List.Sublist.refl _ | apply List.Sublist.cons_cons | apply List.Sublist.cons) rfl rfl (Ev.move (.t rfl)) ?_
  refine takeg 33 rfl (by kernel_rfl) (by kernel_rfl) (by kernel_rfl) (by repeat first | exact List.Sublist.refl _ | apply List.Sublist.cons_cons | apply List.Sublist.cons) rfl rfl (Ev.eql_i (.g rfl id) (.c (v := I 2) rfl)) ?_
  refine take 34 rfl (by kernel_rfl) (by kernel_rfl) (by kernel_rfl) (by repeat first | exact List.Sublist.refl _ | apply List.Sublist.cons_cons | apply List.Sublist.cons) (Ev.pickA (.t rfl) (fun {_} h => by cases h; rfl) ⟨_, rfl⟩ (by first | exact (fun _ h => by rw [h] <;> rfl) | simp_all) (.c (v := .bool false) rfl)) ?_
  refine take 35 rfl (by kernel_rfl) (by kernel_rfl) (by kernel_rfl) (by repeat first | exact List.Sublist.refl _ | apply List.Sublist.cons_cons | apply List.Sublist.cons) (Ev.move (.t rfl)) ?_
  refine takeg 36 rfl (by kernel_rfl) (by kernel_rfl) (by kernel_rfl) (by repeat first | exact List.Sublist.refl _ | apply List.Sublist.cons_cons | apply List.Sublist.cons) rfl rfl (Ev.load ty27 (.t rfl) (ptsVar (by repeat first | exact List.Mem.head _ | apply List.Mem.tail) (Lens.id _))) ?_
  refine takeg 37 rfl (by kernel_rfl) (by kernel_rfl) (by kernel_rfl) (by repeat first | exact List.Sublist.refl _ | apply List.Sublist.cons_cons | apply List.Sublist.cons) rfl rfl (Ev.fieldAddr (o := 0) (.t rfl) (by kernel_rfl)) ?_
  refine takeg 38 rfl (by kernel_rfl) (by kernel_rfl) (by kernel_rfl) (by repeat first | exact List.Sublist.refl _ | apply List.Sublist.cons_cons | apply List.Sublist.cons) rfl rfl (Ev.load ty24 (.g rfl id) (ptsVar (by repeat first | exact List.Mem.head _ | apply List.Mem.tail) SKey.l_src)) ?_
  refine takeg 39 rfl (by kernel_rfl) (by kernel_rfl) (by kernel_rfl) (by repeat first | exact List.Sublist.refl _ | apply List.Sublist.cons_cons | apply List.Sublist.cons) rfl rfl (Ev.fieldAddr (o := 17) (.t rfl) (by kernel_rfl)) ?_
  refine takeg 40 rfl (by kernel_rfl) (by kernel_rfl) (by kernel_rfl) (by repeat first | exact List.Sublist.refl _ | apply List.Sublist.cons_cons | apply List.Sublist.cons) rfl rfl (Ev.load ty24 (.g rfl id) (ptsVar (by repeat first | exact List.Mem.head _ | apply List.Mem.tail) SKey.l_dst)) ?_
  refine takeg 41 rfl (by kernel_rfl) (by kernel_rfl) (by kernel_rfl) (by repeat first | exact List.Sublist.refl _ | apply List.Sublist.cons_cons | apply List.Sublist.cons) rfl rfl (Ev.buildS (fs := _) (places := [(0, 17), (17, 17), (34, 1), (35, 1), (36, 1)]) z27 rfl Try.underlying27 (by kernel_rfl) (.cons (.g rfl id) (.cons (.g rfl id) (.cons (.c (v := U8 1) rfl) .nil))) (Fills.cons SKey.l_src rfl (Fills.cons SKey.l_dst rfl (Fills.cons SKey.l_proto rfl Fills.nil)))) ?_
  refine takeg 42 rfl (by kernel_rfl) (by kernel_rfl) (by kernel_rfl) (by repeat first | exact List.Sublist.refl _ | apply List.Sublist.cons_cons | apply List.Sublist.cons) rfl rfl (Ev.eqlS rfl eqok27 rfl (by kernel_rfl) (.g rfl id) (.g rfl id)) ?_
  refine take 43 rfl (by kernel_rfl) (by kernel_rfl) (by kernel_rfl) (by repeat first | exact List.Sublist.refl _ | apply List.Sublist.cons_cons | apply List.Sublist.cons) (Ev.pickA (.t rfl) (fun {_} h => by cases h; rfl) ⟨_, rfl⟩ (by first | exact (fun _ h => by rw [h] <;> rfl) | simp_all) (.c (v := .bool false) rfl)) ?_
  refine take 44 rfl (by kernel_rfl) (by kernel_rfl) (by kernel_rfl) (by repeat first | exact List.Sublist.refl _ | apply List.Sublist.cons_cons | apply List.Sublist.cons) (Ev.move (.t rfl)) ?_
  refine takeg 45 rfl (by kernel_rfl) (by kernel_rfl) (by kernel_rfl) (by repeat first | exact List.Sublist.refl _ | apply List.Sublist.cons_cons | apply List.Sublist.cons) rfl rfl (Ev.buildS (fs := _) (places := [(0, 17), (17, 17), (34, 1), (35, 1), (36, 1)]) z27 rfl Try.underlying27 (by kernel_rfl) .nil Fills.nil) ?_
  refine takeg 47 rfl (by kernel_rfl) (by kernel_rfl) (by kernel_rfl) (by repeat first | exact List.Sublist.refl _ | apply List.Sublist.cons_cons | apply List.Sublist.cons) rfl rfl (Ev.load ty27 (.t rfl) (ptsVar (by repeat first | exact List.Mem.head _ | apply List.Mem.tail) (Lens.id _))) ?_
  refine all [46] (by kernel_rfl) (by decide) (.cons rfl ?_ .nil)
  refine (callg rfl rfl en20 (.cons (.g rfl id) .nil) (fun hg w I => fhash_ok _ w) ?_)
  refine heldN_of (by repeat first | exact List.Sublist.refl _ | apply List.Sublist.cons_cons | apply List.Sublist.cons) ?_
  refine all [48] (by kernel_rfl) (by decide) (.cons rfl ?_ .nil)
  refine (callg rfl rfl en20 (.cons (.g rfl id) .nil) (fun hg w I => fhash_ok _ w) ?_)
  refine heldN_of (by repeat first | exact List.Sublist.refl _ | apply List.Sublist.cons_cons | apply List.Sublist.cons) ?_
  refine takeg 49 rfl (by kernel_rfl) (by kernel_rfl) (by kernel_rfl) (by repeat first | exact List.Sublist.refl _ | apply List.Sublist.cons_cons | apply List.Sublist.cons) rfl rfl (Ev.neq_u64 (.g rfl id) (.g rfl id)) ?_
  refine take 50 rfl (by kernel_rfl) (by kernel_rfl) (by kernel_rfl) (by repeat first | exact List.Sublist.refl _ | apply List.Sublist.cons_cons | apply List.Sublist.cons) (Ev.pickA (.t rfl) (fun {_} h => by cases h; rfl) ⟨_, rfl⟩ (by first | exact (fun _ h => by rw [h] <;> rfl) | simp_all) (.c (v := .bool false) rfl)) ?_
  refine take 51 rfl (by kernel_rfl) (by kernel_rfl) (by kernel_rfl) (by repeat first | exact List.Sublist.refl _ | apply List.Sublist.cons_cons | apply List.Sublist.cons) (Ev.assign (.t rfl)) ?_
  refine over (by kernel_rfl) ?_
  refine pN ?_
  refine ret ?_
  refine done rfl (.tmp rfl .nil) (retE ?_)
  refine bX2 ?_
  kernel_rfl
end Go.Proofs.Ytpdanbpipabboaa
