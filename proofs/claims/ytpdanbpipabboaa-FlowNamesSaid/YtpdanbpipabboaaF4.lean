/- test -/
import Derived.Test.YtpdanbpipabboaaF3
set_option linter.unusedVariables false
set_option linter.unusedSimpArgs false
namespace Go.Proofs.Ytpdanbpipabboaa
open Go Go.Gx

def addrB (a : SAddr) : List UInt8 := (if a.v6 = true then 1 else 0) :: a.b.toList
def keyB (k : SKey) : List UInt8 := addrB k.src ++ addrB k.dst ++ [k.proto] ++ putB 2 k.srcPort.toUInt64 ++ putB 2 k.dstPort.toUInt64
theorem addrB_length (a : SAddr) : (addrB a).length = 17 := by simp [addrB]
theorem keyB_length (k : SKey) : (keyB k).length = 39 := by simp [keyB, addrB_length, putB_length]
theorem putB_one (v : UInt8) : putB 1 v.toUInt64 = [v] := by
  have e : (shr64 v.toUInt64 (8 * 0)).toUInt8 = v := by
    apply UInt8.toNat_inj.1
    have h := v.toNat_lt
    simp [toNat_shr64]
  show [(shr64 v.toUInt64 (8 * 0)).toUInt8] = [v]
  rw [e]
theorem addr_step (a : SAddr) (v : UInt8) (h : v = if a.v6 = true then 1 else 0) : putB 1 v.toUInt64 ++ (a.b.toList.take 16).drop 0 = addrB a := by
  rw [putB_one, List.drop_zero, List.take_of_length_le (by simp), h]
  rfl
theorem take_flat {α : Type} (f : α → List UInt8) (l : List α) (i : Int) (h0 : 0 ≤ i) (h1 : i < l.length) (z : α) : (l.take (i + 1).toNat).flatMap f = (l.take i.toNat).flatMap f ++ f (l.getD i.toNat z) := by
  have e : (i + 1).toNat = i.toNat + 1 := by omega
  have h2 : i.toNat < l.length := by omega
  rw [e, List.take_succ_eq_append_getElem h2, List.flatMap_append]
  simp [List.getD, h2]

theorem z56 : (Try.prog.info? 56).bind (·.zero) = some ((arrE 2 eAddr).val (arrE 2 eAddr).zero) := by kernel_rfl

theorem z24 : (Try.prog.info? 24).bind (·.zero) = some (eAddr.val eAddr.zero) := by kernel_rfl

theorem ty4 : TyOK Try.prog 4 bE := TyOK.mk' (by kernel_rfl) (by kernel_rfl)

theorem en29 : Enters Try.prog 29 := Enters.mk' (by kernel_rfl)

theorem en30 : Enters Try.prog 30 := Enters.mk' (by kernel_rfl)

theorem bytes_ok (k : SKey) (w : World) : Calls Try.prog 17 #[eKey.val k] w (RetO w u8E (keyB k) 5) := by
  refine enter0 38 Try.func17 rfl rfl (Nat.le_of_ble_eq_true rfl) ?_
  refine seq ?_
  refine region ?_
  refine cons (box (E := eKey) (.t rfl) (fun b1 => ?_))
  refine cons (opv (Ev.assign (.c (v := (Go.Value.slice none 0 0)) rfl)) ?_)
  refine nil ?_
  refine pN ?_
  refine seq ?_
  refine region ?_
  refine cons (opv (Ev.assign (.c (v := (Go.Value.slice none 0 0)) rfl)) ?_)
  refine nil ?_
  refine pN ?_
  refine seq ?_
  refine seq ?_
  refine region ?_
  refine cons (opv (Ev.fieldAddr (o := 0) (.t rfl) (by kernel_rfl)) ?_)
  refine cons (opv (Ev.load ty24 (.t rfl) (ptsVar (by repeat first | exact List.Mem.head _ | apply List.Mem.tail) SKey.l_src)) ?_)
  refine cons (opv (Ev.fieldAddr (o := 17) (.t rfl) (by kernel_rfl)) ?_)
  refine cons (opv (Ev.load ty24 (.t rfl) (ptsVar (by repeat first | exact List.Mem.head _ | apply List.Mem.tail) SKey.l_dst)) ?_)
  refine cons (opv (Ev.buildA z56 Try.underlying56 ty24 (.cons (.t rfl) (.cons (.t rfl) .nil)) (Fills.cons (lArr eAddr 0 (by decide)) rfl (Fills.cons (lArr eAddr 1 (by decide)) rfl Fills.nil))) ?_)
  refine cons (opv (Ev.move (.c (v := I 0) rfl)) ?_)
  refine nil ?_
  refine pN ?_
  refine block ?_
  refine takeNil u8E 5 ?_
  refine loop (X := Int × OV × (List UInt8)) (fun x : Int × OV × (List UInt8) => (0 ≤ x.1 ∧ x.1 ≤ 2) ∧ (x.2.2 = ([k.src, k.dst].take x.1.toNat).flatMap addrB) ∧ (x.2.2.length = 17 * x.1.toNat)) (fun x : Int × OV × (List UInt8) => [(1, true, .pointer (some ⟨b1, 0, none⟩)), (3, true, x.2.1.v), (11, true, (arrE 2 eAddr).val #v[k.src, k.dst]), (12, true, I x.1)]) (fun x : Int × OV × (List UInt8) => [OwnS x.2.1.v u8E x.2.2 5, Var b1 eKey k 27]) (fun x : Int × OV × (List UInt8) => (2 - x.1).toNat) (0, nilSl, []) ⟨?_, ?_, ?_⟩ (by repeat first | exact Sub.nil | refine Sub.cons rfl ?_) (by repeat first | exact List.Sublist.refl _ | apply List.Sublist.cons_cons | apply List.Sublist.cons) (fun x hx => ?_)
  · omega
  · rfl
  · rfl
  obtain ⟨i, o, xs⟩ := x
  obtain ⟨hi, hx, hl⟩ : (0 ≤ i ∧ i ≤ 2) ∧ (xs = ([k.src, k.dst].take i.toNat).flatMap addrB) ∧ (xs.length = 17 * i.toNat) := hx
  show Sat _ _ [(1, true, .pointer (some ⟨b1, 0, none⟩)), (3, true, o.v), (11, true, (arrE 2 eAddr).val #v[k.src, k.dst]), (12, true, I i)] [OwnS o.v u8E xs 5, Var b1 eKey k 27]
  refine seq ?_
  refine region ?_
  refine cons (opv (Ev.lss_i (.t rfl) (.c (v := I 2) rfl)) ?_)
  refine nil ?_
  refine pN ?_
  refine seq ?_
  first | refine condD rfl (fun hlt => ?_) (fun hge => ?_) | refine cond rfl (fun hlt => ?_) (fun hge => ?_)
  · try simp only [Bool.and_eq_true, Bool.or_eq_true, Bool.or_eq_false_iff, Bool.and_eq_false_iff, Bool.not_eq_true', Bool.not_eq_false', decide_eq_true_eq, decide_eq_false_iff_not, Decidable.not_not] at hlt
    refine skip ?_
    refine pN ?_
    refine seq ?_
    refine block ?_
    refine seq ?_
    refine region ?_
    have hil : i.toNat < 2 := by omega
    refine cons (opv (Ev.indexA Try.underlying56 ty24 (.t rfl) (.t rfl) (fun _ => by omega)) ?_)
    refine cons (alloc z24 (fun b2 => ?_))
    refine cons (storeV ty24 (Lens.id _) (.t rfl) (.t rfl) (by repeat first | exact Upd.head | apply Upd.tail) ?_)
    refine nil ?_
    refine pN ?_
    refine seq ?_
    refine region ?_
    refine cons (opv (Ev.assign (.c (v := U8 0) rfl)) ?_)
    refine nil ?_
    refine pN ?_
    refine seq ?_
    refine seq ?_
    refine region ?_
    refine cons (opv (Ev.fieldAddr (o := 0) (.t rfl) (by kernel_rfl)) ?_)
    refine cons (opv (Ev.load ty4 (.t rfl) (ptsVar (by repeat first | exact List.Mem.head _ | apply List.Mem.tail) SAddr.l_v6)) ?_)
    refine nil ?_
    refine pN ?_
    first | refine condD rfl (fun ha => ?_) (fun ha => ?_) | refine cond rfl (fun ha => ?_) (fun ha => ?_)
    · try simp only [Bool.and_eq_true, Bool.or_eq_true, Bool.or_eq_false_iff, Bool.and_eq_false_iff, Bool.not_eq_true', Bool.not_eq_false', decide_eq_true_eq, decide_eq_false_iff_not, Decidable.not_not] at ha
      refine region ?_
      refine cons (opv (Ev.move (.t rfl)) ?_)
      refine cons (opv (Ev.add_u8 (.t rfl) (.c (v := U8 1) rfl)) ?_)
      refine cons (opv (Ev.assign (.t rfl)) ?_)
      refine nil ?_
      refine pN ?_
      refine draw' (by kernel_rfl) ?_
      refine take 0 rfl (by kernel_rfl) (by kernel_rfl) (by kernel_rfl) (by repeat first | exact List.Sublist.refl _ | apply List.Sublist.cons_cons | apply List.Sublist.cons) (Ev.move (.t rfl)) ?_
      refine take 1 rfl (by kernel_rfl) (by kernel_rfl) (by kernel_rfl) (by repeat first | exact List.Sublist.refl _ | apply List.Sublist.cons_cons | apply List.Sublist.cons) (Ev.move (.t rfl)) ?_
      refine take 3 rfl (by kernel_rfl) (by kernel_rfl) (by kernel_rfl) (by repeat first | exact List.Sublist.refl _ | apply List.Sublist.cons_cons | apply List.Sublist.cons) (Ev.fieldAddr (o := 1) (.t rfl) (by kernel_rfl)) ?_
      refine take 4 rfl (by kernel_rfl) (by kernel_rfl) (by kernel_rfl) (by repeat first | exact List.Sublist.refl _ | apply List.Sublist.cons_cons | apply List.Sublist.cons) (Ev.sliceArr (l := 0) (h := 16) Try.underlying22 ty5 (.t rfl) rfl rfl (fun _ => by decide)) ?_
      refine all [2] (by kernel_rfl) (by decide) (.cons rfl ?_ .nil)
      refine (callo en29 (.cons (.t rfl) (.cons (.t rfl) .nil)) (fun w I => put_uint8_ok _ _ _ w (by first | exact isSl_own (by repeat first | exact List.Mem.head _ | apply List.Mem.tail) w I | exact IsSl.keep0 (by assumption) I.keeps) (by first | assumption | omega | (simp [putB_length]; omega))) (fun v3 => ?_))
      refine heldN_of (by repeat first | exact List.Sublist.refl _ | apply List.Sublist.cons_cons | apply List.Sublist.cons) ?_
      refine all [5] (by kernel_rfl) (by decide) (.cons rfl ?_ .nil)
      refine (append (E := u8E) Try.underlying32 ty5 rfl zb5 zs5 (.t rfl) (.t rfl) (fun _ => by repeat first | exact Upd.head | apply Upd.tail) (fun w I => isSl_arr (ptsVar (by repeat first | exact List.Mem.head _ | apply List.Mem.tail) SAddr.l_b w I) (by decide) (by decide) (by decide)) (⟨by (show _ ≤ 9223372036854775807); simp [putB_length]; omega, by simp [putB_length]; omega⟩) (fun v4 => ?_))
      refine heldN_of (by repeat first | exact List.Sublist.refl _ | apply List.Sublist.cons_cons | apply List.Sublist.cons) ?_
      refine take 6 rfl (by kernel_rfl) (by kernel_rfl) (by kernel_rfl) (by repeat first | exact List.Sublist.refl _ | apply List.Sublist.cons_cons | apply List.Sublist.cons) (Ev.assign (.t rfl)) ?_
      refine over (by kernel_rfl) ?_
      refine bN ?_
      refine pN ?_
      refine region ?_
      refine cons (opv (Ev.add_i (.t rfl) (.c (v := I 1) rfl) (fun _ => by omega)) ?_)
      refine cons (opv (Ev.move (.t rfl)) ?_)
      refine nil ?_
      refine pN ?_
      refine next (X := Int × OV × (List UInt8)) (i + 1, _, _) ⟨?_, ?_, ?_⟩ ?_ (by repeat first | exact Sub.nil | refine Sub.cons rfl ?_) (by repeat first | exact List.Sublist.refl _ | apply List.Sublist.cons_cons | apply List.Sublist.cons)
      · try dsimp only
        omega
      · try dsimp only
        rw [List.append_assoc]
        refine Eq.trans (congrArg (fun l => xs ++ l) (addr_step ([k.src, k.dst].getD i.toNat eAddr.zero) _ (by first | exact (if_pos ha).symm | exact (if_neg (fun h => Bool.false_ne_true (ha.symm.trans h))).symm))) ?_
        rw [hx, take_flat addrB _ i hi.1 (by simp; omega) eAddr.zero]
      · try dsimp only
        simp [putB_length, hl]; omega
      · try dsimp only
        omega
    · try simp only [Bool.and_eq_true, Bool.or_eq_true, Bool.or_eq_false_iff, Bool.and_eq_false_iff, Bool.not_eq_true', Bool.not_eq_false', decide_eq_true_eq, decide_eq_false_iff_not, Decidable.not_not] at ha
      refine skip ?_
      refine pN ?_
      refine draw' (by kernel_rfl) ?_
      refine take 0 rfl (by kernel_rfl) (by kernel_rfl) (by kernel_rfl) (by repeat first | exact List.Sublist.refl _ | apply List.Sublist.cons_cons | apply List.Sublist.cons) (Ev.move (.t rfl)) ?_
      refine take 1 rfl (by kernel_rfl) (by kernel_rfl) (by kernel_rfl) (by repeat first | exact List.Sublist.refl _ | apply List.Sublist.cons_cons | apply List.Sublist.cons) (Ev.move (.t rfl)) ?_
      refine take 3 rfl (by kernel_rfl) (by kernel_rfl) (by kernel_rfl) (by repeat first | exact List.Sublist.refl _ | apply List.Sublist.cons_cons | apply List.Sublist.cons) (Ev.fieldAddr (o := 1) (.t rfl) (by kernel_rfl)) ?_
      refine take 4 rfl (by kernel_rfl) (by kernel_rfl) (by kernel_rfl) (by repeat first | exact List.Sublist.refl _ | apply List.Sublist.cons_cons | apply List.Sublist.cons) (Ev.sliceArr (l := 0) (h := 16) Try.underlying22 ty5 (.t rfl) rfl rfl (fun _ => by decide)) ?_
      refine all [2] (by kernel_rfl) (by decide) (.cons rfl ?_ .nil)
      refine (callo en29 (.cons (.t rfl) (.cons (.t rfl) .nil)) (fun w I => put_uint8_ok _ _ _ w (by first | exact isSl_own (by repeat first | exact List.Mem.head _ | apply List.Mem.tail) w I | exact IsSl.keep0 (by assumption) I.keeps) (by first | assumption | omega | (simp [putB_length]; omega))) (fun v5 => ?_))
      refine heldN_of (by repeat first | exact List.Sublist.refl _ | apply List.Sublist.cons_cons | apply List.Sublist.cons) ?_
      refine all [5] (by kernel_rfl) (by decide) (.cons rfl ?_ .nil)
      refine (append (E := u8E) Try.underlying32 ty5 rfl zb5 zs5 (.t rfl) (.t rfl) (fun _ => by repeat first | exact Upd.head | apply Upd.tail) (fun w I => isSl_arr (ptsVar (by repeat first | exact List.Mem.head _ | apply List.Mem.tail) SAddr.l_b w I) (by decide) (by decide) (by decide)) (⟨by (show _ ≤ 9223372036854775807); simp [putB_length]; omega, by simp [putB_length]; omega⟩) (fun v6 => ?_))
      refine heldN_of (by repeat first | exact List.Sublist.refl _ | apply List.Sublist.cons_cons | apply List.Sublist.cons) ?_
      refine take 6 rfl (by kernel_rfl) (by kernel_rfl) (by kernel_rfl) (by repeat first | exact List.Sublist.refl _ | apply List.Sublist.cons_cons | apply List.Sublist.cons) (Ev.assign (.t rfl)) ?_
      refine over (by kernel_rfl) ?_
      refine bN ?_
      refine pN ?_
      refine region ?_
      refine cons (opv (Ev.add_i (.t rfl) (.c (v := I 1) rfl) (fun _ => by omega)) ?_)
      refine cons (opv (Ev.move (.t rfl)) ?_)
      refine nil ?_
      refine pN ?_
      refine next (X := Int × OV × (List UInt8)) (i + 1, _, _) ⟨?_, ?_, ?_⟩ ?_ (by repeat first | exact Sub.nil | refine Sub.cons rfl ?_) (by repeat first | exact List.Sublist.refl _ | apply List.Sublist.cons_cons | apply List.Sublist.cons)
      · try dsimp only
        omega
      · try dsimp only
        rw [List.append_assoc]
        refine Eq.trans (congrArg (fun l => xs ++ l) (addr_step ([k.src, k.dst].getD i.toNat eAddr.zero) _ (by first | exact (if_pos ha).symm | exact (if_neg (fun h => Bool.false_ne_true (ha.symm.trans h))).symm))) ?_
        rw [hx, take_flat addrB _ i hi.1 (by simp; omega) eAddr.zero]
      · try dsimp only
        simp [putB_length, hl]; omega
      · try dsimp only
        omega
  · try simp only [Bool.and_eq_true, Bool.or_eq_true, Bool.or_eq_false_iff, Bool.and_eq_false_iff, Bool.not_eq_true', Bool.not_eq_false', decide_eq_true_eq, decide_eq_false_iff_not, Decidable.not_not] at hge
    refine exit ?_
    refine pX ?_
    refine pX ?_
    refine bX ?_
    refine pN ?_
    refine seq ?_
    refine region ?_
    refine cons (opv (Ev.move (.t rfl)) ?_)
    refine cons (opv (Ev.fieldAddr (o := 34) (.t rfl) (by kernel_rfl)) ?_)
    refine cons (opv (Ev.load ty5 (.t rfl) (ptsVar (by repeat first | exact List.Mem.head _ | apply List.Mem.tail) SKey.l_proto)) ?_)
    refine cons (callo en29 (.cons (.t rfl) (.cons (.t rfl) .nil)) (fun w I => put_uint8_ok _ _ _ w (by first | exact isSl_own (by repeat first | exact List.Mem.head _ | apply List.Mem.tail) w I | exact IsSl.keep0 (by assumption) I.keeps) (by first | assumption | omega | (simp [putB_length]; omega))) (fun v7 => ?_))
    refine cons (opv (Ev.assign (.t rfl)) ?_)
    refine nil ?_
    refine pN ?_
    refine seq ?_
    refine region ?_
    refine cons (opv (Ev.move (.t rfl)) ?_)
    refine cons (opv (Ev.fieldAddr (o := 35) (.t rfl) (by kernel_rfl)) ?_)
    refine cons (opv (Ev.load ty25 (.t rfl) (ptsVar (by repeat first | exact List.Mem.head _ | apply List.Mem.tail) SKey.l_srcPort)) ?_)
    refine cons (callo en30 (.cons (.t rfl) (.cons (.t rfl) .nil)) (fun w I => put_uint16_ok _ _ _ w (by first | exact isSl_own (by repeat first | exact List.Mem.head _ | apply List.Mem.tail) w I | exact IsSl.keep0 (by assumption) I.keeps) (by first | assumption | omega | (simp [putB_length]; omega))) (fun v8 => ?_))
    refine cons (opv (Ev.assign (.t rfl)) ?_)
    refine nil ?_
    refine pN ?_
    refine seq ?_
    refine region ?_
    refine cons (opv (Ev.move (.t rfl)) ?_)
    refine cons (opv (Ev.fieldAddr (o := 36) (.t rfl) (by kernel_rfl)) ?_)
    refine cons (opv (Ev.load ty25 (.t rfl) (ptsVar (by repeat first | exact List.Mem.head _ | apply List.Mem.tail) SKey.l_dstPort)) ?_)
    refine cons (callo en30 (.cons (.t rfl) (.cons (.t rfl) .nil)) (fun w I => put_uint16_ok _ _ _ w (by first | exact isSl_own (by repeat first | exact List.Mem.head _ | apply List.Mem.tail) w I | exact IsSl.keep0 (by assumption) I.keeps) (by first | assumption | omega | (simp [putB_length]; omega))) (fun v9 => ?_))
    refine cons (opv (Ev.assign (.t rfl)) ?_)
    refine nil ?_
    refine pN ?_
    refine ret ?_
    refine done rfl (.tmp rfl .nil) (retOE (by repeat first | exact List.Mem.head _ | apply List.Mem.tail) ?_)
    have e : i.toNat = 2 := by omega
    rw [e] at hx
    rw [hx, putB_one]; simp [keyB]
end Go.Proofs.Ytpdanbpipabboaa
