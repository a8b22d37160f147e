/- octets -/
import Derived.Test.YtcmpdhggeilkfaaO5
set_option linter.unusedVariables false
set_option linter.unusedSimpArgs false
namespace Go.Proofs.Ytcmpdhggeilkfaa
open Go Go.Gx

theorem en14 : Enters Try.prog 14 := Enters.mk' (by kernel_rfl)

theorem en24 : Enters Try.prog 24 := Enters.mk' (by kernel_rfl)

theorem en18 : Enters Try.prog 18 := Enters.mk' (by kernel_rfl)

theorem z22 : (Try.prog.info? 22).bind (·.zero) = some ((ovE nilSl).val (ovE nilSl).zero) := by kernel_rfl

theorem en29 : Enters Try.prog 29 := Enters.mk' (by kernel_rfl)

theorem en31 : Enters Try.prog 31 := Enters.mk' (by kernel_rfl)

theorem works_ok (w : World) : Calls Try.prog 22 #[] w (RetV w (.bool true)) := by
  refine enter0 45 Try.func22 rfl rfl (Nat.le_of_ble_eq_true rfl) ?_
  refine seq ?_
  refine region ?_
  refine cons (opv (Ev.assign (.c (v := .bool false) rfl)) ?_)
  refine nil ?_
  refine pN ?_
  refine seq ?_
  refine region ?_
  refine cons (buildSlice (E := u8E) Try.underlying22 ty5 z5 (.cons (.c (v := U8 7) rfl) .nil) rfl rfl (fun v1 => ?_))
  refine cons (callo en14 (.cons (.t rfl) (.cons (.c (v := U16 258) rfl) .nil)) (fun w I => put_uint16_ok _ _ _ w (by first | exact isSl_own (by repeat first | exact List.Mem.head _ | apply List.Mem.tail) w I | exact IsSl.keep0 (by assumption) I.keeps) (by first | assumption | omega | (simp [putB_length]; done) | (simp [putB_length]; omega))) (fun v2 => ?_))
  refine cons (opv (Ev.assign (.t rfl)) ?_)
  refine nil ?_
  refine pN ?_
  refine seq ?_
  refine region ?_
  refine cons (opv (Ev.move (.t rfl)) ?_)
  refine cons (callv en24 (.cons (.t rfl) (.cons (.c (v := I 1) rfl) .nil)) (fun w I => take_uint16_ok _ _ _ w (by first | exact isSl_own (by repeat first | exact List.Mem.head _ | apply List.Mem.tail) w I | exact IsSl.keep0 (by assumption) I.keeps)) ?_)
  refine cons (opv (Ev.move (.t rfl)) ?_)
  refine cons (opv (Ev.extract (.t rfl) rfl) ?_)
  refine cons (opv (Ev.extract (.t rfl) rfl) ?_)
  refine cons (opv (Ev.assign (.t rfl)) ?_)
  refine cons (opv (Ev.assign (.t rfl)) ?_)
  refine nil ?_
  refine pN ?_
  refine seq ?_
  refine region ?_
  refine cons (opv (Ev.move (.t rfl)) ?_)
  refine cons (callv en24 (.cons (.t rfl) (.cons (.c (v := I 2) rfl) .nil)) (fun w I => take_uint16_ok _ _ _ w (by first | exact isSl_own (by repeat first | exact List.Mem.head _ | apply List.Mem.tail) w I | exact IsSl.keep0 (by assumption) I.keeps)) ?_)
  refine cons (opv (Ev.move (.t rfl)) ?_)
  refine cons (opv (Ev.extract (.t rfl) rfl) ?_)
  refine cons (opv (Ev.extract (.t rfl) rfl) ?_)
  refine cons (opv (Ev.assign (.t rfl)) ?_)
  refine cons (opv (Ev.assign (.t rfl)) ?_)
  refine nil ?_
  refine pN ?_
  refine seq ?_
  refine region ?_
  refine cons (opv (Ev.move (.t rfl)) ?_)
  refine cons (buildSlice (E := u8E) Try.underlying22 ty5 z5 (.cons (.c (v := U8 7) rfl) (.cons (.c (v := U8 1) rfl) (.cons (.c (v := U8 2) rfl) .nil))) rfl rfl (fun v3 => ?_))
  refine cons (callv en18 (.cons (.t rfl) (.cons (.t rfl) .nil)) (fun w I => sameBytes_ok _ _ _ _ w (by first | exact isSl_own (by repeat first | exact List.Mem.head _ | apply List.Mem.tail) w I | exact IsSl.keep0 (by assumption) I.keeps) (by first | exact isSl_own (by repeat first | exact List.Mem.head _ | apply List.Mem.tail) w I | exact IsSl.keep0 (by assumption) I.keeps)) ?_)
  refine cons (opv (Ev.to (v' := .bool true) (Ev.move (.t rfl)) (congrArg Value.bool (by decide +kernel))) ?_)
  refine cons (opg rfl rfl (Ev.move (.t rfl)) ?_)
  refine cons (opg rfl rfl (Ev.eql_u16 (.g rfl id) (.c (v := U16 258) rfl)) ?_)
  refine cons (opv (Ev.pickA (.t rfl) (fun {_} h => by cases h; rfl) ⟨_, rfl⟩ (by intro h1 h; first | (rw [h] <;> rfl) | (rw [h, h1] <;> rfl) | simp_all) (.c (v := .bool false) rfl)) ?_)
  refine cons (opv (Ev.to (v' := .bool true) (Ev.move (.t rfl)) (congrArg Value.bool (by decide +kernel))) ?_)
  refine cons (opg rfl rfl (Ev.move (.t rfl)) ?_)
  refine cons (opg rfl rfl (Ev.eql_i (.g rfl id) (.c (v := I 0) rfl)) ?_)
  refine cons (opv (Ev.pickA (.t rfl) (fun {_} h => by cases h; rfl) ⟨_, rfl⟩ (by intro h1 h; first | (rw [h] <;> rfl) | (rw [h, h1] <;> rfl) | simp_all) (.c (v := .bool false) rfl)) ?_)
  refine cons (opv (Ev.to (v' := .bool true) (Ev.move (.t rfl)) (congrArg Value.bool (by decide +kernel))) ?_)
  refine cons (opg rfl rfl (Ev.move (.t rfl)) ?_)
  refine cons (opg rfl rfl (Ev.eql_i (.g rfl id) (.c (v := I 5) rfl)) ?_)
  refine cons (opv (Ev.pickA (.t rfl) (fun {_} h => by cases h; rfl) ⟨_, rfl⟩ (by intro h1 h; first | (rw [h] <;> rfl) | (rw [h, h1] <;> rfl) | simp_all) (.c (v := .bool false) rfl)) ?_)
  refine cons (opv (Ev.to (v' := .bool true) (Ev.move (.t rfl)) (congrArg Value.bool (by decide +kernel))) ?_)
  refine cons (opgT rfl rfl rfl ?_)
  refine (buildSlice (E := u8E) Try.underlying22 ty5 z5 (.cons (.c (v := U8 0) rfl) (.cons (.c (v := U8 1) rfl) (.cons (.c (v := U8 242) rfl) (.cons (.c (v := U8 3) rfl) (.cons (.c (v := U8 244) rfl) (.cons (.c (v := U8 245) rfl) (.cons (.c (v := U8 246) rfl) (.cons (.c (v := U8 247) rfl) .nil)))))))) rfl rfl (fun v4 => ?_))
  refine cons (opgT rfl rfl rfl ?_)
  refine (buildSlice (E := (ovE nilSl)) Try.underlying33 ty22 z22 (.cons (.t rfl) .nil) rfl rfl (fun v5 => ?_))
  refine cons (callg rfl rfl en29 (.cons (.t rfl) .nil) (fun hg w I => sum_ok _ [[0, 1, 242, 3, 244, 245, 246, 247]] w (IsSS.mk' (isSl_own (by repeat first | exact List.Mem.head _ | apply List.Mem.tail) w I) (.cons (isSl_own (by repeat first | exact List.Mem.head _ | apply List.Mem.tail) w I) .nil))) ?_)
  refine cons (opg rfl rfl (Ev.eql_u16 (.g rfl id) (.c (v := U16 8717) rfl)) ?_)
  refine cons (opv (Ev.pickA (.t rfl) (fun {_} h => by cases h; rfl) ⟨_, rfl⟩ (by intro h1 h; first | (rw [h] <;> rfl) | (rw [h, h1] <;> rfl) | simp_all) (.c (v := .bool false) rfl)) ?_)
  refine cons (opv (Ev.to (v' := .bool true) (Ev.move (.t rfl)) (congrArg Value.bool (by decide +kernel))) ?_)
  refine cons (opgT rfl rfl rfl ?_)
  refine (buildSlice (E := u8E) Try.underlying22 ty5 z5 (.cons (.c (v := U8 97) rfl) .nil) rfl rfl (fun v6 => ?_))
  refine cons (opgT rfl rfl rfl ?_)
  refine (buildSlice (E := (ovE nilSl)) Try.underlying33 ty22 z22 (.cons (.t rfl) .nil) rfl rfl (fun v7 => ?_))
  refine cons (callg rfl rfl en31 (.cons (.t rfl) .nil) (fun hg w I => hash_ok _ [[97]] w (IsSS.mk' (isSl_own (by repeat first | exact List.Mem.head _ | apply List.Mem.tail) w I) (.cons (isSl_own (by repeat first | exact List.Mem.head _ | apply List.Mem.tail) w I) .nil))) ?_)
  refine cons (opg rfl rfl (Ev.eql_u64 (.g rfl id) (.c (v := U64 12638187200555641996) rfl)) ?_)
  refine cons (opv (Ev.pickA (.t rfl) (fun {_} h => by cases h; rfl) ⟨_, rfl⟩ (by intro h1 h; first | (rw [h] <;> rfl) | (rw [h, h1] <;> rfl) | simp_all) (.c (v := .bool false) rfl)) ?_)
  refine cons (opv (Ev.assign (.t rfl)) ?_)
  refine nil ?_
  refine pN ?_
  refine ret ?_
  refine done rfl (.tmp rfl .nil) (retE ?_)
  exact congrArg Value.bool (by decide +kernel)
end Go.Proofs.Ytcmpdhggeilkfaa
