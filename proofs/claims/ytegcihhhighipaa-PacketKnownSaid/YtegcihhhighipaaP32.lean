/- packet -/
import Derived.Test.YtegcihhhighipaaP31
set_option linter.unusedVariables false
set_option linter.unusedSimpArgs false
namespace Go.Proofs.Ytegcihhhighipaa
open Go Go.Gx

theorem ty31 : TyOK Try.prog 31 iE := TyOK.mk' (by kernel_rfl) (by kernel_rfl)

theorem z31 : (Try.prog.info? 31).bind (·.zero) = some (iE.val iE.zero) := by kernel_rfl

theorem zb31 : (Try.prog.info? 31).map (fun i => (i.zero, i.bytes)) = some (some (iE.val iE.zero), 8) := by kernel_rfl

theorem zs31 : (iE.val iE.zero).cells.size = iE.size := by rw [Enc.cells_val, List.size_toArray, Enc.len]

set_option maxRecDepth 10000 in
theorem PacketKnown_walk (w : World) : Calls Try.prog 10 #[] w (RetV w (.bool true)) := by
  refine enter0 245 Try.func10 rfl rfl (Nat.le_of_ble_eq_true rfl) ?_
  refine seq ?_
  refine region ?_
  refine cons (opv (Ev.assign (.c (v := .bool false) rfl)) ?_)
  refine nil ?_
  refine pN ?_
  refine seq ?_
  refine region ?_
  refine cons (callo en28 .nil (fun w I => wire_ok w) (fun v1 => ?_))
  refine cons (opv (Ev.assign (.t rfl)) ?_)
  refine nil ?_
  refine pN ?_
  refine seq ?_
  refine region ?_
  refine cons (opv (Ev.move (.t rfl)) ?_)
  refine cons (opv (Ev.sliceH Try.underlying27 ty5 (.t rfl) (.c (v := I 28) rfl) (by first | exact isSl_own (by repeat first | exact mH | apply mT | apply mA) | exact fun w I => IsSl.keep0 (by assumption) I.keeps) (fun _ => by decide)) ?_)
  refine cons (calln (X := OV) (fun _ : OV => True) (fun o => .tuple #[eHeader.val (wD (readH (wireB.take 28)) o), I (readN (wireB.take 28)), I (readE (wireB.take 28))]) (fun o => [OwnS o.v u8E (readU (wireB.take 28)) 5]) en22 (.cons (.t rfl) .nil) (fun w I => read_u _ (wireB.take 28) w (IsSl.sub (isSl_own (by repeat first | exact mH | apply mT | apply mA) w I) (by decide) (by decide))) (fun r1 _ => ?_))
  refine cons (opv (Ev.move (.t rfl)) ?_)
  refine cons (opv (Ev.extract (.t rfl) rfl) ?_)
  refine cons (opv (Ev.extract (.t rfl) rfl) ?_)
  refine cons (opv (Ev.to (v' := I 160) (Ev.extract (.t rfl) rfl) (congrArg I wire_cut.1)) ?_)
  refine cons (alloc z29 (fun b2 => ?_))
  refine cons (storeV ty29 (Lens.id _) (.t rfl) (.t rfl) (by repeat first | exact Upd.head | apply Upd.tail | apply Upd.right) ?_)
  refine cons (opv (Ev.assign (.t rfl)) ?_)
  refine cons (opv (Ev.assign (.t rfl)) ?_)
  refine nil ?_
  refine pN ?_
  refine seq ?_
  refine region ?_
  refine cons (callo en28 .nil (fun w I => wire_ok w) (fun v3 => ?_))
  refine cons (opv (Ev.assign (.t rfl)) ?_)
  refine nil ?_
  refine pN ?_
  refine seq ?_
  refine region ?_
  refine cons (opv (Ev.move (.t rfl)) ?_)
  refine cons (opv (Ev.indexAddr Try.underlying27 ty5 (.t rfl) (.c (v := I 28) rfl) (by first | exact isSl_own (by repeat first | exact mH | apply mT | apply mA) | exact fun w I => IsSl.keep0 (by assumption) I.keeps) (fun _ => by decide)) ?_)
  refine cons (storeS0 (i := 28) ty5 (.t rfl) (.c (v := U8 2) rfl) (by repeat first | exact Upd.head | apply Upd.tail | apply Upd.right) (by decide) ?_)
  refine nil ?_
  refine pN ?_
  refine seq ?_
  refine region ?_
  refine cons (opv (Ev.move (.t rfl)) ?_)
  refine cons (calln (X := OV) (fun _ : OV => True) (fun o => .tuple #[eHeader.val (wD (readH (wireB.set (Int.toNat 28) 2)) o), I (readN (wireB.set (Int.toNat 28) 2)), I (readE (wireB.set (Int.toNat 28) 2))]) (fun o => [OwnS o.v u8E (readU (wireB.set (Int.toNat 28) 2)) 5]) en22 (.cons (.t rfl) .nil) (fun w I => read_u _ (wireB.set (Int.toNat 28) 2) w (isSl_own (by repeat first | exact mH | apply mT | apply mA) w I)) (fun r2 _ => ?_))
  refine cons (opv (Ev.move (.t rfl)) ?_)
  refine cons (opv (Ev.extract (.t rfl) rfl) ?_)
  refine cons (opv (Ev.extract (.t rfl) rfl) ?_)
  refine cons (opv (Ev.to (v' := I 162) (Ev.extract (.t rfl) rfl) (congrArg I wire_cut.2.1)) ?_)
  refine cons (alloc z29 (fun b4 => ?_))
  refine cons (storeV ty29 (Lens.id _) (.t rfl) (.t rfl) (by repeat first | exact Upd.head | apply Upd.tail | apply Upd.right) ?_)
  refine cons (opv (Ev.assign (.t rfl)) ?_)
  refine cons (opv (Ev.assign (.t rfl)) ?_)
  refine nil ?_
  refine pN ?_
  refine seq ?_
  refine region ?_
  refine cons (opv (Ev.move (.t rfl)) ?_)
  refine cons (calln (X := OV) (fun _ : OV => True) (fun o => .tuple #[o.v, I (olderE wireB)]) (fun o => [OwnS o.v u8E (olderU wireB) 5]) en27 (.cons (.t rfl) .nil) (fun w I => older_u _ wireB w (isSl_own (by repeat first | exact mH | apply mT | apply mA) w I)) (fun r3 _ => ?_))
  refine cons (opv (Ev.move (.t rfl)) ?_)
  refine cons (opv (Ev.extract (.t rfl) rfl) ?_)
  refine cons (opv (Ev.to (v' := I 0) (Ev.extract (.t rfl) rfl) (congrArg I wire_older.1)) ?_)
  refine cons (opv (Ev.assign (.t rfl)) ?_)
  refine cons (opv (Ev.assign (.t rfl)) ?_)
  refine nil ?_
  refine pN ?_
  refine seq ?_
  refine region ?_
  rw [wire_older.2]
  refine cons (opv (Ev.move (.t rfl)) ?_)
  refine cons (opv (Ev.eql_i (.t rfl) (.c (v := I 0) rfl)) ?_)
  refine cons (opv (Ev.move (.t rfl)) ?_)
  refine cons (opg rfl rfl (Ev.move (.t rfl)) ?_)
  refine cons (opg rfl rfl (Ev.len Try.underlying27 (.g rfl id) (by first | exact isSl_own (by repeat first | exact mH | apply mT | apply mA) | exact fun w I => IsSl.keep0 (by assumption) I.keeps)) ?_)
  refine cons (opg rfl rfl (Ev.eql_i (.g rfl id) (.c (v := I 29) rfl)) ?_)
  refine cons (opv (Ev.pickA (.t rfl) (fun {_} h => by cases h; rfl) ⟨_, rfl⟩ (by intro h1 h; first | (rw [h] <;> rfl) | (rw [h1, h] <;> rfl) | (rw [h, h1] <;> rfl) | simp_all) (.c (v := .bool false) rfl)) ?_)
  refine cons (opv (Ev.move (.t rfl)) ?_)
  refine cons (opg rfl rfl (Ev.move (.t rfl)) ?_)
  refine cons (opg rfl rfl (Ev.indexAddr Try.underlying27 ty5 (.g rfl id) (.c (v := I 8) rfl) (by first | exact isSl_own (by repeat first | exact mH | apply mT | apply mA) | exact fun w I => IsSl.keep0 (by assumption) I.keeps) (fun _ => by decide)) ?_)
  refine cons (opg rfl rfl (Ev.loadS0 (i := 8) ty5 (.g rfl id) (by first | exact isSl_own (by repeat first | exact mH | apply mT | apply mA) | exact fun w I => IsSl.keep0 (by assumption) I.keeps) (fun _ => by decide)) ?_)
  refine cons (opg rfl rfl (Ev.eql_u8 (.g rfl id) (.c (v := U8 63) rfl)) ?_)
  refine cons (opv (Ev.pickA (.t rfl) (fun {_} h => by cases h; rfl) ⟨_, rfl⟩ (by intro h1 h; first | (rw [h] <;> rfl) | (rw [h1, h] <;> rfl) | (rw [h, h1] <;> rfl) | simp_all) (.c (v := .bool false) rfl)) ?_)
  refine cons (opv (Ev.move (.t rfl)) ?_)
  refine cons (opg rfl rfl (Ev.move (.t rfl)) ?_)
  refine cons (opg rfl rfl (Ev.indexAddr Try.underlying27 ty5 (.g rfl id) (.c (v := I 10) rfl) (by first | exact isSl_own (by repeat first | exact mH | apply mT | apply mA) | exact fun w I => IsSl.keep0 (by assumption) I.keeps) (fun _ => by decide)) ?_)
  refine cons (opg rfl rfl (Ev.loadS0 (i := 10) ty5 (.g rfl id) (by first | exact isSl_own (by repeat first | exact mH | apply mT | apply mA) | exact fun w I => IsSl.keep0 (by assumption) I.keeps) (fun _ => by decide)) ?_)
  refine cons (opg rfl rfl (Ev.eql_u8 (.g rfl id) (.c (v := U8 39) rfl)) ?_)
  refine cons (opv (Ev.pickA (.t rfl) (fun {_} h => by cases h; rfl) ⟨_, rfl⟩ (by intro h1 h; first | (rw [h] <;> rfl) | (rw [h1, h] <;> rfl) | (rw [h, h1] <;> rfl) | simp_all) (.c (v := .bool false) rfl)) ?_)
  refine cons (opv (Ev.move (.t rfl)) ?_)
  refine cons (opg rfl rfl (Ev.move (.t rfl)) ?_)
  refine cons (opg rfl rfl (Ev.indexAddr Try.underlying27 ty5 (.g rfl id) (.c (v := I 11) rfl) (by first | exact isSl_own (by repeat first | exact mH | apply mT | apply mA) | exact fun w I => IsSl.keep0 (by assumption) I.keeps) (fun _ => by decide)) ?_)
  refine cons (opg rfl rfl (Ev.loadS0 (i := 11) ty5 (.g rfl id) (by first | exact isSl_own (by repeat first | exact mH | apply mT | apply mA) | exact fun w I => IsSl.keep0 (by assumption) I.keeps) (fun _ => by decide)) ?_)
  refine cons (opg rfl rfl (Ev.eql_u8 (.g rfl id) (.c (v := U8 206) rfl)) ?_)
  refine cons (opv (Ev.to (v' := .bool true) (Ev.pickA (.t rfl) (fun {_} h => by cases h; rfl) ⟨_, rfl⟩ (by intro h1 h; first | (rw [h] <;> rfl) | (rw [h1, h] <;> rfl) | (rw [h, h1] <;> rfl) | simp_all) (.c (v := .bool false) rfl)) (by exact congrArg Value.bool (by decide +kernel))) ?_)
  refine cons (opv (Ev.assign (.t rfl)) ?_)
  refine nil ?_
  refine pN ?_
  refine seq ?_
  refine region ?_
  refine cons (opv (Ev.assign (.c (v := (Go.Value.slice none 0 0)) rfl)) ?_)
  refine takeNil iE 31 ?_
  refine nil ?_
  refine pN ?_
  refine seq ?_
  refine region ?_
  refine cons (calln (X := OV) (fun _ : OV => True) (fun o => eHeader.val (wD plainH o)) (fun o => [OwnS o.v u8E [1] 5]) en29 .nil (fun w I => plain_ok w) (fun y1 _ => ?_))
  refine cons (alloc z29 (fun b5 => ?_))
  refine cons (storeV ty29 (Lens.id _) (.t rfl) (.t rfl) (by repeat first | exact Upd.head | apply Upd.tail | apply Upd.right) ?_)
  refine nil ?_
  refine pN ?_
  refine seq ?_
  refine region ?_
  refine cons (opv (Ev.fieldAddr (o := 34) (.t rfl) (by kernel_rfl)) ?_)
  refine cons (storeV ty5 SHeader.l_proto (.t rfl) (.c (v := U8 1) rfl) (by repeat first | exact Upd.head | apply Upd.tail | apply Upd.right) ?_)
  refine nil ?_
  refine pN ?_
  refine seq ?_
  refine region ?_
  refine cons (opv (Ev.move (.t rfl)) ?_)
  refine cons (opv (Ev.load ty29 (.t rfl) (ptsVar (by repeat first | exact mH | apply mT | apply mA) (Lens.id _))) ?_)
  refine cons (callv en14 (.cons (.t rfl) .nil) (fun w I => (by have k := check_ok (wD { plainH with proto := 1 } y1) [1] w (isSl_own (by repeat first | exact mH | apply mT | apply mA) w I) (by decide); rw [ck1] at k; exact k)) ?_)
  refine cons (buildSlice (E := iE) Try.underlying56 ty31 z31 (.cons (.t rfl) .nil) rfl rfl (fun v6 => ?_))
  refine cons (append (E := iE) Try.underlying56 ty31 rfl zb31 zs31 (.t rfl) (.t rfl) (fun _ => by repeat first | exact Upd.head | apply Upd.tail | apply Upd.right) (by first | exact isSl_own (by repeat first | exact mH | apply mT | apply mA) | exact fun w I => IsSl.keep0 (by assumption) I.keeps) (⟨by (show _ ≤ 9223372036854775807); first | omega | (simp; done) | (simp; omega), by first | omega | (simp; done) | (simp; omega)⟩) (fun v7 => ?_))
  refine cons (opv (Ev.assign (.t rfl)) ?_)
  refine nil ?_
  refine pN ?_
  refine seq ?_
  refine region ?_
  refine cons (opv (Ev.fieldAddr (o := 35) (.t rfl) (by kernel_rfl)) ?_)
  refine cons (storeV ty25 SHeader.l_srcPort (.t rfl) (.c (v := U16 0) rfl) (by repeat first | exact Upd.head | apply Upd.tail | apply Upd.right) ?_)
  refine cons (opv (Ev.fieldAddr (o := 36) (.t rfl) (by kernel_rfl)) ?_)
  refine cons (storeV ty25 SHeader.l_dstPort (.t rfl) (.c (v := U16 0) rfl) (by repeat first | exact Upd.head | apply Upd.tail | apply Upd.right) ?_)
  refine nil ?_
  refine pN ?_
  refine seq ?_
  refine region ?_
  refine cons (opv (Ev.move (.t rfl)) ?_)
  refine cons (opv (Ev.load ty29 (.t rfl) (ptsVar (by repeat first | exact mH | apply mT | apply mA) (Lens.id _))) ?_)
  refine cons (callv en14 (.cons (.t rfl) .nil) (fun w I => (by have k := check_ok (wD { plainH with proto := 1, srcPort := 0, dstPort := 0 } y1) [1] w (isSl_own (by repeat first | exact mH | apply mT | apply mA) w I) (by decide); rw [ck2] at k; exact k)) ?_)
  refine cons (buildSlice (E := iE) Try.underlying56 ty31 z31 (.cons (.t rfl) .nil) rfl rfl (fun v8 => ?_))
  refine cons (append (E := iE) Try.underlying56 ty31 rfl zb31 zs31 (.t rfl) (.t rfl) (fun _ => by repeat first | exact Upd.head | apply Upd.tail | apply Upd.right) (by first | exact isSl_own (by repeat first | exact mH | apply mT | apply mA) | exact fun w I => IsSl.keep0 (by assumption) I.keeps) (⟨by (show _ ≤ 9223372036854775807); first | omega | (simp; done) | (simp; omega), by first | omega | (simp; done) | (simp; omega)⟩) (fun v9 => ?_))
  refine cons (opv (Ev.assign (.t rfl)) ?_)
  refine nil ?_
  refine pN ?_
  refine seq ?_
  refine region ?_
  refine cons (calln (X := OV) (fun _ : OV => True) (fun o => eHeader.val (wD plainH o)) (fun o => [OwnS o.v u8E [1] 5]) en29 .nil (fun w I => plain_ok w) (fun y2 _ => ?_))
  refine cons (storeV ty29 (Lens.id _) (.t rfl) (.t rfl) (by repeat first | exact Upd.head | apply Upd.tail | apply Upd.right) ?_)
  refine nil ?_
  refine pN ?_
  refine seq ?_
  refine region ?_
  refine cons (opv (Ev.fieldAddr (o := 39) (.t rfl) (by kernel_rfl)) ?_)
  refine cons (storeV ty26 SHeader.l_id (.t rfl) (.c (v := U32 65536) rfl) (by repeat first | exact Upd.head | apply Upd.tail | apply Upd.right) ?_)
  refine nil ?_
  refine pN ?_
  refine seq ?_
  refine region ?_
  refine cons (opv (Ev.move (.t rfl)) ?_)
  refine cons (opv (Ev.load ty29 (.t rfl) (ptsVar (by repeat first | exact mH | apply mT | apply mA) (Lens.id _))) ?_)
  refine cons (callv en14 (.cons (.t rfl) .nil) (fun w I => (by have k := check_ok (wD { plainH with id := 65536 } y2) [1] w (isSl_own (by repeat first | exact mH | apply mT | apply mA) w I) (by decide); rw [ck3] at k; exact k)) ?_)
  refine cons (buildSlice (E := iE) Try.underlying56 ty31 z31 (.cons (.t rfl) .nil) rfl rfl (fun v10 => ?_))
  refine cons (append (E := iE) Try.underlying56 ty31 rfl zb31 zs31 (.t rfl) (.t rfl) (fun _ => by repeat first | exact Upd.head | apply Upd.tail | apply Upd.right) (by first | exact isSl_own (by repeat first | exact mH | apply mT | apply mA) | exact fun w I => IsSl.keep0 (by assumption) I.keeps) (⟨by (show _ ≤ 9223372036854775807); first | omega | (simp; done) | (simp; omega), by first | omega | (simp; done) | (simp; omega)⟩) (fun v11 => ?_))
  refine cons (opv (Ev.assign (.t rfl)) ?_)
  refine nil ?_
  refine pN ?_
  refine seq ?_
  refine region ?_
  refine cons (calln (X := OV) (fun _ : OV => True) (fun o => eHeader.val (wD plainH o)) (fun o => [OwnS o.v u8E [1] 5]) en29 .nil (fun w I => plain_ok w) (fun y3 _ => ?_))
  refine cons (storeV ty29 (Lens.id _) (.t rfl) (.t rfl) (by repeat first | exact Upd.head | apply Upd.tail | apply Upd.right) ?_)
  refine nil ?_
  refine pN ?_
  refine seq ?_
  refine region ?_
  refine cons (opv (Ev.fieldAddr (o := 17) (.t rfl) (by kernel_rfl)) ?_)
  refine cons (opv (Ev.fieldAddr (o := 0) (.t rfl) (by kernel_rfl)) ?_)
  refine cons (storeV ty4 (Lens.comp SHeader.l_dst SAddr.l_v6) (.t rfl) (.c (v := .bool true) rfl) (by repeat first | exact Upd.head | apply Upd.tail | apply Upd.right) ?_)
  refine nil ?_
  refine pN ?_
  refine seq ?_
  refine region ?_
  refine cons (opv (Ev.move (.t rfl)) ?_)
  refine cons (opv (Ev.load ty29 (.t rfl) (ptsVar (by repeat first | exact mH | apply mT | apply mA) (Lens.id _))) ?_)
  refine cons (callv en14 (.cons (.t rfl) .nil) (fun w I => (by have k := check_ok (wD { plainH with dst := ⟨true, plainA 2⟩ } y3) [1] w (isSl_own (by repeat first | exact mH | apply mT | apply mA) w I) (by decide); rw [ck4] at k; exact k)) ?_)
  refine cons (buildSlice (E := iE) Try.underlying56 ty31 z31 (.cons (.t rfl) .nil) rfl rfl (fun v12 => ?_))
  refine cons (append (E := iE) Try.underlying56 ty31 rfl zb31 zs31 (.t rfl) (.t rfl) (fun _ => by repeat first | exact Upd.head | apply Upd.tail | apply Upd.right) (by first | exact isSl_own (by repeat first | exact mH | apply mT | apply mA) | exact fun w I => IsSl.keep0 (by assumption) I.keeps) (⟨by (show _ ≤ 9223372036854775807); first | omega | (simp; done) | (simp; omega), by first | omega | (simp; done) | (simp; omega)⟩) (fun v13 => ?_))
  refine cons (opv (Ev.assign (.t rfl)) ?_)
  refine nil ?_
  refine pN ?_
  refine seq ?_
  refine region ?_
  refine cons (calln (X := OV) (fun _ : OV => True) (fun o => eHeader.val (wD plainH o)) (fun o => [OwnS o.v u8E [1] 5]) en29 .nil (fun w I => plain_ok w) (fun y4 _ => ?_))
  refine cons (storeV ty29 (Lens.id _) (.t rfl) (.t rfl) (by repeat first | exact Upd.head | apply Upd.tail | apply Upd.right) ?_)
  refine nil ?_
  refine pN ?_
  refine seq ?_
  refine region ?_
  refine cons (makeSl (E := u8E) Try.underlying27 ty5 rfl zb5 (.c (v := I 2020) rfl) (.c (v := I 2020) rfl) ⟨by decide, by decide⟩ ⟨by decide, by decide⟩ (fun mk2020 => ?_))
  refine cons (opv (Ev.fieldAddr (o := 42) (.t rfl) (by kernel_rfl)) ?_)
  refine cons (storeV ty27 SHeader.l_data (.t rfl) (.t rfl) (by repeat first | exact Upd.head | apply Upd.tail | apply Upd.right) ?_)
  refine nil ?_
  refine pN ?_
  refine seq ?_
  refine region ?_
  refine cons (opv (Ev.move (.t rfl)) ?_)
  refine cons (opv (Ev.load ty29 (.t rfl) (ptsVar (by repeat first | exact mH | apply mT | apply mA) (Lens.id _))) ?_)
  refine cons (callv en14 (.cons (.t rfl) .nil) (fun w I => (by have k := check_ok (wD plainH mk2020) (List.replicate (Int.toNat 2020) u8E.zero) w (isSl_own (by repeat first | exact mH | apply mT | apply mA) w I) (by rw [List.length_replicate]; decide); rw [ck5] at k; exact k)) ?_)
  refine cons (buildSlice (E := iE) Try.underlying56 ty31 z31 (.cons (.t rfl) .nil) rfl rfl (fun v14 => ?_))
  refine cons (append (E := iE) Try.underlying56 ty31 rfl zb31 zs31 (.t rfl) (.t rfl) (fun _ => by repeat first | exact Upd.head | apply Upd.tail | apply Upd.right) (by first | exact isSl_own (by repeat first | exact mH | apply mT | apply mA) | exact fun w I => IsSl.keep0 (by assumption) I.keeps) (⟨by (show _ ≤ 9223372036854775807); first | omega | (simp; done) | (simp; omega), by first | omega | (simp; done) | (simp; omega)⟩) (fun v15 => ?_))
  refine cons (opv (Ev.assign (.t rfl)) ?_)
  refine nil ?_
  refine pN ?_
  refine seq ?_
  refine region ?_
  refine cons (makeSl (E := u8E) Try.underlying27 ty5 rfl zb5 (.c (v := I 2021) rfl) (.c (v := I 2021) rfl) ⟨by decide, by decide⟩ ⟨by decide, by decide⟩ (fun mk2021 => ?_))
  refine cons (opv (Ev.fieldAddr (o := 42) (.t rfl) (by kernel_rfl)) ?_)
  refine cons (storeV ty27 SHeader.l_data (.t rfl) (.t rfl) (by repeat first | exact Upd.head | apply Upd.tail | apply Upd.right) ?_)
  refine nil ?_
  refine pN ?_
  refine seq ?_
  refine region ?_
  refine cons (opv (Ev.move (.t rfl)) ?_)
  refine cons (opv (Ev.load ty29 (.t rfl) (ptsVar (by repeat first | exact mH | apply mT | apply mA) (Lens.id _))) ?_)
  refine cons (callv en14 (.cons (.t rfl) .nil) (fun w I => (by have k := check_ok (wD plainH mk2021) (List.replicate (Int.toNat 2021) u8E.zero) w (isSl_own (by repeat first | exact mH | apply mT | apply mA) w I) (by rw [List.length_replicate]; decide); rw [ck6] at k; exact k)) ?_)
  refine cons (buildSlice (E := iE) Try.underlying56 ty31 z31 (.cons (.t rfl) .nil) rfl rfl (fun v16 => ?_))
  refine cons (append (E := iE) Try.underlying56 ty31 rfl zb31 zs31 (.t rfl) (.t rfl) (fun _ => by repeat first | exact Upd.head | apply Upd.tail | apply Upd.right) (by first | exact isSl_own (by repeat first | exact mH | apply mT | apply mA) | exact fun w I => IsSl.keep0 (by assumption) I.keeps) (⟨by (show _ ≤ 9223372036854775807); first | omega | (simp; done) | (simp; omega), by first | omega | (simp; done) | (simp; omega)⟩) (fun v17 => ?_))
  refine cons (opv (Ev.assign (.t rfl)) ?_)
  refine nil ?_
  refine pN ?_
  refine seq ?_
  refine region ?_
  refine cons (opv (Ev.move (.t rfl)) ?_)
  refine cons (opv (Ev.indexAddr Try.underlying56 ty31 (.t rfl) (.c (v := I 0) rfl) (by first | exact isSl_own (by repeat first | exact mH | apply mT | apply mA) | exact fun w I => IsSl.keep0 (by assumption) I.keeps) (fun _ => by decide)) ?_)
  refine cons (opv (Ev.loadS0 (i := 0) ty31 (.t rfl) (by first | exact isSl_own (by repeat first | exact mH | apply mT | apply mA) | exact fun w I => IsSl.keep0 (by assumption) I.keeps) (fun _ => by decide)) ?_)
  refine cons (opv (Ev.eql_i (.t rfl) (.c (v := I 2) rfl)) ?_)
  refine cons (opv (Ev.move (.t rfl)) ?_)
  refine cons (opg rfl rfl (Ev.move (.t rfl)) ?_)
  refine cons (opg rfl rfl (Ev.indexAddr Try.underlying56 ty31 (.g rfl id) (.c (v := I 1) rfl) (by first | exact isSl_own (by repeat first | exact mH | apply mT | apply mA) | exact fun w I => IsSl.keep0 (by assumption) I.keeps) (fun _ => by decide)) ?_)
  refine cons (opg rfl rfl (Ev.loadS0 (i := 1) ty31 (.g rfl id) (by first | exact isSl_own (by repeat first | exact mH | apply mT | apply mA) | exact fun w I => IsSl.keep0 (by assumption) I.keeps) (fun _ => by decide)) ?_)
  refine cons (opg rfl rfl (Ev.eql_i (.g rfl id) (.c (v := I 0) rfl)) ?_)
  refine cons (opv (Ev.pickA (.t rfl) (fun {_} h => by cases h; rfl) ⟨_, rfl⟩ (by intro h1 h; first | (rw [h] <;> rfl) | (rw [h1, h] <;> rfl) | (rw [h, h1] <;> rfl) | simp_all) (.c (v := .bool false) rfl)) ?_)
  refine cons (opv (Ev.move (.t rfl)) ?_)
  refine cons (opg rfl rfl (Ev.move (.t rfl)) ?_)
  refine cons (opg rfl rfl (Ev.indexAddr Try.underlying56 ty31 (.g rfl id) (.c (v := I 2) rfl) (by first | exact isSl_own (by repeat first | exact mH | apply mT | apply mA) | exact fun w I => IsSl.keep0 (by assumption) I.keeps) (fun _ => by decide)) ?_)
  refine cons (opg rfl rfl (Ev.loadS0 (i := 2) ty31 (.g rfl id) (by first | exact isSl_own (by repeat first | exact mH | apply mT | apply mA) | exact fun w I => IsSl.keep0 (by assumption) I.keeps) (fun _ => by decide)) ?_)
  refine cons (opg rfl rfl (Ev.eql_i (.g rfl id) (.c (v := I 2) rfl)) ?_)
  refine cons (opv (Ev.pickA (.t rfl) (fun {_} h => by cases h; rfl) ⟨_, rfl⟩ (by intro h1 h; first | (rw [h] <;> rfl) | (rw [h1, h] <;> rfl) | (rw [h, h1] <;> rfl) | simp_all) (.c (v := .bool false) rfl)) ?_)
  refine cons (opv (Ev.move (.t rfl)) ?_)
  refine cons (opg rfl rfl (Ev.move (.t rfl)) ?_)
  refine cons (opg rfl rfl (Ev.indexAddr Try.underlying56 ty31 (.g rfl id) (.c (v := I 3) rfl) (by first | exact isSl_own (by repeat first | exact mH | apply mT | apply mA) | exact fun w I => IsSl.keep0 (by assumption) I.keeps) (fun _ => by decide)) ?_)
  refine cons (opg rfl rfl (Ev.loadS0 (i := 3) ty31 (.g rfl id) (by first | exact isSl_own (by repeat first | exact mH | apply mT | apply mA) | exact fun w I => IsSl.keep0 (by assumption) I.keeps) (fun _ => by decide)) ?_)
  refine cons (opg rfl rfl (Ev.eql_i (.g rfl id) (.c (v := I 2) rfl)) ?_)
  refine cons (opv (Ev.pickA (.t rfl) (fun {_} h => by cases h; rfl) ⟨_, rfl⟩ (by intro h1 h; first | (rw [h] <;> rfl) | (rw [h1, h] <;> rfl) | (rw [h, h1] <;> rfl) | simp_all) (.c (v := .bool false) rfl)) ?_)
  refine cons (opv (Ev.move (.t rfl)) ?_)
  refine cons (opg rfl rfl (Ev.move (.t rfl)) ?_)
  refine cons (opg rfl rfl (Ev.indexAddr Try.underlying56 ty31 (.g rfl id) (.c (v := I 4) rfl) (by first | exact isSl_own (by repeat first | exact mH | apply mT | apply mA) | exact fun w I => IsSl.keep0 (by assumption) I.keeps) (fun _ => by decide)) ?_)
  refine cons (opg rfl rfl (Ev.loadS0 (i := 4) ty31 (.g rfl id) (by first | exact isSl_own (by repeat first | exact mH | apply mT | apply mA) | exact fun w I => IsSl.keep0 (by assumption) I.keeps) (fun _ => by decide)) ?_)
  refine cons (opg rfl rfl (Ev.eql_i (.g rfl id) (.c (v := I 0) rfl)) ?_)
  refine cons (opv (Ev.pickA (.t rfl) (fun {_} h => by cases h; rfl) ⟨_, rfl⟩ (by intro h1 h; first | (rw [h] <;> rfl) | (rw [h1, h] <;> rfl) | (rw [h, h1] <;> rfl) | simp_all) (.c (v := .bool false) rfl)) ?_)
  refine cons (opv (Ev.move (.t rfl)) ?_)
  refine cons (opg rfl rfl (Ev.move (.t rfl)) ?_)
  refine cons (opg rfl rfl (Ev.indexAddr Try.underlying56 ty31 (.g rfl id) (.c (v := I 5) rfl) (by first | exact isSl_own (by repeat first | exact mH | apply mT | apply mA) | exact fun w I => IsSl.keep0 (by assumption) I.keeps) (fun _ => by decide)) ?_)
  refine cons (opg rfl rfl (Ev.loadS0 (i := 5) ty31 (.g rfl id) (by first | exact isSl_own (by repeat first | exact mH | apply mT | apply mA) | exact fun w I => IsSl.keep0 (by assumption) I.keeps) (fun _ => by decide)) ?_)
  refine cons (opg rfl rfl (Ev.eql_i (.g rfl id) (.c (v := I 4) rfl)) ?_)
  refine cons (opv (Ev.to (v' := .bool true) (Ev.pickA (.t rfl) (fun {_} h => by cases h; rfl) ⟨_, rfl⟩ (by intro h1 h; first | (rw [h] <;> rfl) | (rw [h1, h] <;> rfl) | (rw [h, h1] <;> rfl) | simp_all) (.c (v := .bool false) rfl)) (by exact congrArg Value.bool (by decide +kernel))) ?_)
  refine cons (opv (Ev.assign (.t rfl)) ?_)
  refine nil ?_
  refine pN ?_
  refine seq ?_
  refine region ?_
  refine cons (calln (X := OV) (fun _ : OV => True) (fun o => .tuple #[eHeader.val (wD (readH []) o), I (readN []), I (readE [])]) (fun o => [OwnS o.v u8E (readU []) 5]) en22 (.cons (.c (v := (Go.Value.slice none 0 0)) rfl) .nil) (fun w I => read_u _ [] w (IsSl.nil _ w)) (fun r4 _ => ?_))
  refine cons (opv (Ev.move (.t rfl)) ?_)
  refine cons (opv (Ev.extract (.t rfl) rfl) ?_)
  refine cons (opv (Ev.extract (.t rfl) rfl) ?_)
  refine cons (opv (Ev.to (v' := I 160) (Ev.extract (.t rfl) rfl) (congrArg I wire_cut.2.2.1)) ?_)
  refine cons (alloc z29 (fun b18 => ?_))
  refine cons (storeV ty29 (Lens.id _) (.t rfl) (.t rfl) (by repeat first | exact Upd.head | apply Upd.tail | apply Upd.right) ?_)
  refine cons (opv (Ev.assign (.t rfl)) ?_)
  refine cons (opv (Ev.assign (.t rfl)) ?_)
  refine nil ?_
  refine pN ?_
  refine seq ?_
  refine region ?_
  refine cons (buildSlice (E := u8E) Try.underlying27 ty5 z5 (.cons (.c (v := U8 0) rfl) .nil) rfl rfl (fun v19 => ?_))
  refine cons (calln (X := OV) (fun _ : OV => True) (fun o => .tuple #[eHeader.val (wD (readH [0]) o), I (readN [0]), I (readE [0])]) (fun o => [OwnS o.v u8E (readU [0]) 5]) en22 (.cons (.t rfl) .nil) (fun w I => read_u _ [0] w (isSl_own (by repeat first | exact mH | apply mT | apply mA) w I)) (fun r5 _ => ?_))
  refine cons (opv (Ev.move (.t rfl)) ?_)
  refine cons (opv (Ev.extract (.t rfl) rfl) ?_)
  refine cons (opv (Ev.extract (.t rfl) rfl) ?_)
  refine cons (opv (Ev.to (v' := I 161) (Ev.extract (.t rfl) rfl) (congrArg I wire_cut.2.2.2.1)) ?_)
  refine cons (alloc z29 (fun b20 => ?_))
  refine cons (storeV ty29 (Lens.id _) (.t rfl) (.t rfl) (by repeat first | exact Upd.head | apply Upd.tail | apply Upd.right) ?_)
  refine cons (opv (Ev.assign (.t rfl)) ?_)
  refine cons (opv (Ev.assign (.t rfl)) ?_)
  refine nil ?_
  refine pN ?_
  refine seq ?_
  refine region ?_
  refine cons (buildSlice (E := u8E) Try.underlying27 ty5 z5 (.cons (.c (v := U8 69) rfl) .nil) rfl rfl (fun v21 => ?_))
  refine cons (calln (X := OV) (fun _ : OV => True) (fun o => .tuple #[eHeader.val (wD (readH [69]) o), I (readN [69]), I (readE [69])]) (fun o => [OwnS o.v u8E (readU [69]) 5]) en22 (.cons (.t rfl) .nil) (fun w I => read_u _ [69] w (isSl_own (by repeat first | exact mH | apply mT | apply mA) w I)) (fun r6 _ => ?_))
  refine cons (opv (Ev.move (.t rfl)) ?_)
  refine cons (opv (Ev.extract (.t rfl) rfl) ?_)
  refine cons (opv (Ev.extract (.t rfl) rfl) ?_)
  refine cons (opv (Ev.to (v' := I 160) (Ev.extract (.t rfl) rfl) (congrArg I wire_cut.2.2.2.2.1)) ?_)
  refine cons (alloc z29 (fun b22 => ?_))
  refine cons (storeV ty29 (Lens.id _) (.t rfl) (.t rfl) (by repeat first | exact Upd.head | apply Upd.tail | apply Upd.right) ?_)
  refine cons (opv (Ev.assign (.t rfl)) ?_)
  refine cons (opv (Ev.assign (.t rfl)) ?_)
  refine nil ?_
  refine pN ?_
  refine seq ?_
  refine region ?_
  refine cons (makeSl (E := u8E) Try.underlying27 ty5 rfl zb5 (.c (v := I 20) rfl) (.c (v := I 20) rfl) ⟨by decide, by decide⟩ ⟨by decide, by decide⟩ (fun mk20 => ?_))
  refine cons (opv (Ev.assign (.t rfl)) ?_)
  refine nil ?_
  refine pN ?_
  refine seq ?_
  refine region ?_
  refine cons (opv (Ev.move (.t rfl)) ?_)
  refine cons (opv (Ev.indexAddr Try.underlying27 ty5 (.t rfl) (.c (v := I 0) rfl) (by first | exact isSl_own (by repeat first | exact mH | apply mT | apply mA) | exact fun w I => IsSl.keep0 (by assumption) I.keeps) (fun _ => by decide)) ?_)
  refine cons (storeS0 (i := 0) ty5 (.t rfl) (.c (v := U8 70) rfl) (by repeat first | exact Upd.head | apply Upd.tail | apply Upd.right) (by decide) ?_)
  refine nil ?_
  refine pN ?_
  refine seq ?_
  refine region ?_
  refine cons (opv (Ev.move (.t rfl)) ?_)
  refine cons (calln (X := OV) (fun _ : OV => True) (fun o => .tuple #[eHeader.val (wD (readH ((List.replicate (Int.toNat 20) u8E.zero).set (Int.toNat 0) 70)) o), I (readN ((List.replicate (Int.toNat 20) u8E.zero).set (Int.toNat 0) 70)), I (readE ((List.replicate (Int.toNat 20) u8E.zero).set (Int.toNat 0) 70))]) (fun o => [OwnS o.v u8E (readU ((List.replicate (Int.toNat 20) u8E.zero).set (Int.toNat 0) 70)) 5]) en22 (.cons (.t rfl) .nil) (fun w I => read_u _ ((List.replicate (Int.toNat 20) u8E.zero).set (Int.toNat 0) 70) w (isSl_own (by repeat first | exact mH | apply mT | apply mA) w I)) (fun r7 _ => ?_))
  refine cons (opv (Ev.move (.t rfl)) ?_)
  refine cons (opv (Ev.extract (.t rfl) rfl) ?_)
  refine cons (opv (Ev.extract (.t rfl) rfl) ?_)
  refine cons (opv (Ev.to (v' := I 161) (Ev.extract (.t rfl) rfl) (congrArg I wire_cut.2.2.2.2.2)) ?_)
  refine cons (alloc z29 (fun b23 => ?_))
  refine cons (storeV ty29 (Lens.id _) (.t rfl) (.t rfl) (by repeat first | exact Upd.head | apply Upd.tail | apply Upd.right) ?_)
  refine cons (opv (Ev.assign (.t rfl)) ?_)
  refine cons (opv (Ev.assign (.t rfl)) ?_)
  refine nil ?_
  refine pN ?_
  refine seq ?_
  refine region ?_
  refine cons (makeSl (E := u8E) Try.underlying27 ty5 rfl zb5 (.c (v := I 40) rfl) (.c (v := I 40) rfl) ⟨by decide, by decide⟩ ⟨by decide, by decide⟩ (fun mk40 => ?_))
  refine cons (opv (Ev.assign (.t rfl)) ?_)
  refine nil ?_
  refine pN ?_
  refine seq ?_
  refine region ?_
  refine cons (opv (Ev.move (.t rfl)) ?_)
  refine cons (opv (Ev.indexAddr Try.underlying27 ty5 (.t rfl) (.c (v := I 0) rfl) (by first | exact isSl_own (by repeat first | exact mH | apply mT | apply mA) | exact fun w I => IsSl.keep0 (by assumption) I.keeps) (fun _ => by decide)) ?_)
  refine cons (storeS0 (i := 0) ty5 (.t rfl) (.c (v := U8 96) rfl) (by repeat first | exact Upd.head | apply Upd.tail | apply Upd.right) (by decide) ?_)
  refine nil ?_
  refine pN ?_
  refine seq ?_
  refine region ?_
  refine cons (opv (Ev.move (.t rfl)) ?_)
  refine cons (calln (X := OV) (fun _ : OV => True) (fun o => .tuple #[eHeader.val (wD (readH sixW) o), I (readN sixW), I (readE sixW)]) (fun o => [OwnS o.v u8E (readU sixW) 5]) en22 (.cons (.t rfl) .nil) (fun w I => read_u _ sixW w (isSl_own (by repeat first | exact mH | apply mT | apply mA) w I)) (fun r8 _ => ?_))
  refine cons (opv (Ev.move (.t rfl)) ?_)
  refine cons (opv (Ev.extract (.t rfl) rfl) ?_)
  refine cons (opv (Ev.to (v' := I 40) (Ev.extract (.t rfl) rfl) (congrArg I six_read.2.1)) ?_)
  refine cons (opv (Ev.to (v' := I 0) (Ev.extract (.t rfl) rfl) (congrArg I six_read.1)) ?_)
  refine cons (alloc z29 (fun b24 => ?_))
  refine cons (storeV ty29 (Lens.id _) (.t rfl) (.t rfl) (by repeat first | exact Upd.head | apply Upd.tail | apply Upd.right) ?_)
  refine cons (opv (Ev.assign (.t rfl)) ?_)
  refine cons (opv (Ev.assign (.t rfl)) ?_)
  refine nil ?_
  refine pN ?_
  refine seq ?_
  refine region ?_
  refine cons (opv (Ev.move (.t rfl)) ?_)
  refine cons (opv (Ev.eql_i (.t rfl) (.c (v := I 160) rfl)) ?_)
  refine cons (opv (Ev.move (.t rfl)) ?_)
  refine cons (opg rfl rfl (Ev.move (.t rfl)) ?_)
  refine cons (opg rfl rfl (Ev.eql_i (.g rfl id) (.c (v := I 161) rfl)) ?_)
  refine cons (opv (Ev.pickA (.t rfl) (fun {_} h => by cases h; rfl) ⟨_, rfl⟩ (by intro h1 h; first | (rw [h] <;> rfl) | (rw [h1, h] <;> rfl) | (rw [h, h1] <;> rfl) | simp_all) (.c (v := .bool false) rfl)) ?_)
  refine cons (opv (Ev.move (.t rfl)) ?_)
  refine cons (opg rfl rfl (Ev.move (.t rfl)) ?_)
  refine cons (opg rfl rfl (Ev.eql_i (.g rfl id) (.c (v := I 160) rfl)) ?_)
  refine cons (opv (Ev.pickA (.t rfl) (fun {_} h => by cases h; rfl) ⟨_, rfl⟩ (by intro h1 h; first | (rw [h] <;> rfl) | (rw [h1, h] <;> rfl) | (rw [h, h1] <;> rfl) | simp_all) (.c (v := .bool false) rfl)) ?_)
  refine cons (opv (Ev.move (.t rfl)) ?_)
  refine cons (opg rfl rfl (Ev.move (.t rfl)) ?_)
  refine cons (opg rfl rfl (Ev.eql_i (.g rfl id) (.c (v := I 161) rfl)) ?_)
  refine cons (opv (Ev.pickA (.t rfl) (fun {_} h => by cases h; rfl) ⟨_, rfl⟩ (by intro h1 h; first | (rw [h] <;> rfl) | (rw [h1, h] <;> rfl) | (rw [h, h1] <;> rfl) | simp_all) (.c (v := .bool false) rfl)) ?_)
  refine cons (opv (Ev.move (.t rfl)) ?_)
  refine cons (opg rfl rfl (Ev.move (.t rfl)) ?_)
  refine cons (opg rfl rfl (Ev.eql_i (.g rfl id) (.c (v := I 0) rfl)) ?_)
  refine cons (opv (Ev.pickA (.t rfl) (fun {_} h => by cases h; rfl) ⟨_, rfl⟩ (by intro h1 h; first | (rw [h] <;> rfl) | (rw [h1, h] <;> rfl) | (rw [h, h1] <;> rfl) | simp_all) (.c (v := .bool false) rfl)) ?_)
  refine cons (opv (Ev.move (.t rfl)) ?_)
  refine cons (opg rfl rfl (Ev.move (.t rfl)) ?_)
  refine cons (opg rfl rfl (Ev.eql_i (.g rfl id) (.c (v := I 40) rfl)) ?_)
  refine cons (opv (Ev.pickA (.t rfl) (fun {_} h => by cases h; rfl) ⟨_, rfl⟩ (by intro h1 h; first | (rw [h] <;> rfl) | (rw [h1, h] <;> rfl) | (rw [h, h1] <;> rfl) | simp_all) (.c (v := .bool false) rfl)) ?_)
  refine cons (opv (Ev.move (.t rfl)) ?_)
  refine cons (opg rfl rfl (Ev.fieldAddr (o := 0) (.t rfl) (by kernel_rfl)) ?_)
  refine cons (opg rfl rfl (Ev.fieldAddr (o := 0) (.g rfl id) (by kernel_rfl)) ?_)
  refine cons (opg rfl rfl (Ev.to (v' := .bool true) (Ev.load ty4 (.g rfl id) (ptsVar (by repeat first | exact mH | apply mT | apply mA) (Lens.comp SHeader.l_src SAddr.l_v6))) (by exact congrArg Value.bool (show (readH sixW).src.v6 = true from six_read.2.2.1))) ?_)
  refine cons (opv (Ev.pickA (.t rfl) (fun {_} h => by cases h; rfl) ⟨_, rfl⟩ (by intro h1 h; first | (rw [h] <;> rfl) | (rw [h1, h] <;> rfl) | (rw [h, h1] <;> rfl) | simp_all) (.c (v := .bool false) rfl)) ?_)
  refine cons (opv (Ev.move (.t rfl)) ?_)
  refine cons (opg rfl rfl (Ev.fieldAddr (o := 34) (.t rfl) (by kernel_rfl)) ?_)
  refine cons (opg rfl rfl (Ev.to (v' := U8 0) (Ev.load ty5 (.g rfl id) (ptsVar (by repeat first | exact mH | apply mT | apply mA) SHeader.l_proto)) (by exact congrArg U8 (show (readH sixW).proto = 0 from six_read.2.2.2))) ?_)
  refine cons (opg rfl rfl (Ev.eql_u8 (.g rfl id) (.c (v := U8 0) rfl)) ?_)
  refine cons (opv (Ev.pickA (.t rfl) (fun {_} h => by cases h; rfl) ⟨_, rfl⟩ (by intro h1 h; first | (rw [h] <;> rfl) | (rw [h1, h] <;> rfl) | (rw [h, h1] <;> rfl) | simp_all) (.c (v := .bool false) rfl)) ?_)
  refine cons (opv (Ev.assign (.t rfl)) ?_)
  refine nil ?_
  refine pN ?_
  refine seq ?_
  refine region ?_
  refine cons (opv (Ev.move (.c (v := .bool true) rfl)) ?_)
  refine cons (callg rfl rfl en16 .nil (fun hg w I => works_ok w) ?_)
  refine cons (opv (Ev.pickA (.t rfl) (fun {_} h => by cases h; rfl) ⟨_, rfl⟩ (by intro h1 h; first | (rw [h] <;> rfl) | (rw [h1, h] <;> rfl) | (rw [h, h1] <;> rfl) | simp_all) (.c (v := .bool false) rfl)) ?_)
  refine cons (opv (Ev.move (.t rfl)) ?_)
  refine cons (opg rfl rfl (Ev.move (.t rfl)) ?_)
  refine cons (opg rfl rfl (Ev.eql_i (.g rfl id) (.c (v := I 160) rfl)) ?_)
  refine cons (opv (Ev.pickA (.t rfl) (fun {_} h => by cases h; rfl) ⟨_, rfl⟩ (by intro h1 h; first | (rw [h] <;> rfl) | (rw [h1, h] <;> rfl) | (rw [h, h1] <;> rfl) | simp_all) (.c (v := .bool false) rfl)) ?_)
  refine cons (opv (Ev.move (.t rfl)) ?_)
  refine cons (opg rfl rfl (Ev.move (.t rfl)) ?_)
  refine cons (opg rfl rfl (Ev.eql_i (.g rfl id) (.c (v := I 162) rfl)) ?_)
  refine cons (opv (Ev.pickA (.t rfl) (fun {_} h => by cases h; rfl) ⟨_, rfl⟩ (by intro h1 h; first | (rw [h] <;> rfl) | (rw [h1, h] <;> rfl) | (rw [h, h1] <;> rfl) | simp_all) (.c (v := .bool false) rfl)) ?_)
  refine cons (opv (Ev.move (.t rfl)) ?_)
  refine cons (opg rfl rfl (Ev.move (.t rfl)) ?_)
  refine cons (opv (Ev.pickA (.t rfl) (fun {_} h => by cases h; rfl) ⟨_, rfl⟩ (by intro h1 h; first | (rw [h] <;> rfl) | (rw [h1, h] <;> rfl) | (rw [h, h1] <;> rfl) | simp_all) (.c (v := .bool false) rfl)) ?_)
  refine cons (opv (Ev.move (.t rfl)) ?_)
  refine cons (opg rfl rfl (Ev.move (.t rfl)) ?_)
  refine cons (opv (Ev.pickA (.t rfl) (fun {_} h => by cases h; rfl) ⟨_, rfl⟩ (by intro h1 h; first | (rw [h] <;> rfl) | (rw [h1, h] <;> rfl) | (rw [h, h1] <;> rfl) | simp_all) (.c (v := .bool false) rfl)) ?_)
  refine cons (opv (Ev.move (.t rfl)) ?_)
  refine cons (opg rfl rfl (Ev.move (.t rfl)) ?_)
  refine cons (opv (Ev.pickA (.t rfl) (fun {_} h => by cases h; rfl) ⟨_, rfl⟩ (by intro h1 h; first | (rw [h] <;> rfl) | (rw [h1, h] <;> rfl) | (rw [h, h1] <;> rfl) | simp_all) (.c (v := .bool false) rfl)) ?_)
  refine cons (opv (Ev.assign (.t rfl)) ?_)
  refine nil ?_
  refine pN ?_
  refine ret ?_
  refine done rfl (.tmp rfl .nil) (retE ?_)
  rfl
end Go.Proofs.Ytegcihhhighipaa
