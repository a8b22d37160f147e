/- octets -/
import Derived.Test.YtcmpdhggeilkfaaO10
set_option linter.unusedVariables false
set_option linter.unusedSimpArgs false
namespace Go.Proofs.Ytcmpdhggeilkfaa
open Go Go.Gx

theorem OctetsKnown_walk (w : World) : Calls Try.prog 11 #[] w (RetV w (.bool true)) := by
  refine enter0 185 Try.func11 rfl rfl (Nat.le_of_ble_eq_true rfl) ?_
  refine seq ?_
  refine region ?_
  refine cons (opv (Ev.assign (.c (v := .bool false) rfl)) ?_)
  refine nil ?_
  refine pN ?_
  refine seq ?_
  refine region ?_
  refine cons (callv en23 (.cons (.c (v := (Go.Value.slice none 0 0)) rfl) (.cons (.c (v := I 0) rfl) .nil)) (fun w I => take_uint8_ok _ _ _ w (IsSl.nil _ w)) ?_)
  refine cons (opv (Ev.move (.t rfl)) ?_)
  refine cons (opv (Ev.extract (.t rfl) rfl) ?_)
  refine cons (opv (Ev.extract (.t rfl) rfl) ?_)
  refine cons (opv (Ev.assign (.t rfl)) ?_)
  refine cons (opv (Ev.assign (.t rfl)) ?_)
  refine nil ?_
  refine pN ?_
  refine seq ?_
  refine region ?_
  refine cons (buildSlice (E := u8E) Try.underlying22 ty5 z5 (.cons (.c (v := U8 7) rfl) .nil) rfl rfl (fun v1 => ?_))
  refine cons (callv en23 (.cons (.t rfl) (.cons (.c (v := I (-1)) rfl) .nil)) (fun w I => take_uint8_ok _ _ _ w (by first | exact isSl_own (by repeat first | exact List.Mem.head _ | apply List.Mem.tail) w I | exact IsSl.keep0 (by assumption) I.keeps)) ?_)
  refine cons (opv (Ev.move (.t rfl)) ?_)
  refine cons (opv (Ev.extract (.t rfl) rfl) ?_)
  refine cons (opv (Ev.extract (.t rfl) rfl) ?_)
  refine cons (opv (Ev.assign (.t rfl)) ?_)
  refine cons (opv (Ev.assign (.t rfl)) ?_)
  refine nil ?_
  refine pN ?_
  refine seq ?_
  refine region ?_
  refine cons (opv (Ev.move (.t rfl)) ?_)
  refine cons (opv (Ev.eql_i (.t rfl) (.c (v := I 5) rfl)) ?_)
  refine cons (opv (Ev.to (v' := .bool true) (Ev.move (.t rfl)) (congrArg Value.bool (by decide +kernel))) ?_)
  refine cons (opg rfl rfl (Ev.move (.t rfl)) ?_)
  refine cons (opg rfl rfl (Ev.eql_i (.g rfl id) (.c (v := I 5) rfl)) ?_)
  refine cons (opv (Ev.pickA (.t rfl) (fun {_} h => by cases h; rfl) ⟨_, rfl⟩ (by intro h1 h; first | (rw [h] <;> rfl) | (rw [h, h1] <;> rfl) | simp_all) (.c (v := .bool false) rfl)) ?_)
  refine cons (opv (Ev.to (v' := .bool true) (Ev.assign (.t rfl)) (congrArg Value.bool (by decide +kernel))) ?_)
  refine nil ?_
  refine pN ?_
  refine seq ?_
  refine region ?_
  refine cons (callv en29 (.cons (.c (v := (Go.Value.slice none 0 0)) rfl) .nil) (fun w I => sum_ok _ [] w (IsSS.mk' (IsSl.nil _ w) .nil)) ?_)
  refine cons (opv (Ev.eql_u16 (.t rfl) (.c (v := U16 65535) rfl)) ?_)
  refine cons (opv (Ev.to (v' := .bool true) (Ev.move (.t rfl)) (congrArg Value.bool (by decide +kernel))) ?_)
  refine cons (opgT rfl rfl rfl ?_)
  refine (buildSlice (E := u8E) Try.underlying22 ty5 z5 (.cons (.c (v := U8 1) rfl) .nil) rfl rfl (fun v2 => ?_))
  refine cons (opgT rfl rfl rfl ?_)
  refine (buildSlice (E := (ovE nilSl)) Try.underlying33 ty22 z22 (.cons (.t rfl) .nil) rfl rfl (fun v3 => ?_))
  refine cons (callg rfl rfl en29 (.cons (.t rfl) .nil) (fun hg w I => sum_ok _ [[1]] w (IsSS.mk' (isSl_own (by repeat first | exact List.Mem.head _ | apply List.Mem.tail) w I) (.cons (isSl_own (by repeat first | exact List.Mem.head _ | apply List.Mem.tail) w I) .nil))) ?_)
  refine cons (opg rfl rfl (Ev.eql_u16 (.g rfl id) (.c (v := U16 65279) rfl)) ?_)
  refine cons (opv (Ev.pickA (.t rfl) (fun {_} h => by cases h; rfl) ⟨_, rfl⟩ (by intro h1 h; first | (rw [h] <;> rfl) | (rw [h, h1] <;> rfl) | simp_all) (.c (v := .bool false) rfl)) ?_)
  refine cons (opv (Ev.to (v' := .bool true) (Ev.move (.t rfl)) (congrArg Value.bool (by decide +kernel))) ?_)
  refine cons (opgT rfl rfl rfl ?_)
  refine (buildSlice (E := u8E) Try.underlying22 ty5 z5 (.cons (.c (v := U8 1) rfl) (.cons (.c (v := U8 0) rfl) .nil)) rfl rfl (fun v4 => ?_))
  refine cons (opgT rfl rfl rfl ?_)
  refine (buildSlice (E := (ovE nilSl)) Try.underlying33 ty22 z22 (.cons (.t rfl) .nil) rfl rfl (fun v5 => ?_))
  refine cons (callg rfl rfl en29 (.cons (.t rfl) .nil) (fun hg w I => sum_ok _ [[1, 0]] w (IsSS.mk' (isSl_own (by repeat first | exact List.Mem.head _ | apply List.Mem.tail) w I) (.cons (isSl_own (by repeat first | exact List.Mem.head _ | apply List.Mem.tail) w I) .nil))) ?_)
  refine cons (opg rfl rfl (Ev.eql_u16 (.g rfl id) (.c (v := U16 65279) rfl)) ?_)
  refine cons (opv (Ev.pickA (.t rfl) (fun {_} h => by cases h; rfl) ⟨_, rfl⟩ (by intro h1 h; first | (rw [h] <;> rfl) | (rw [h, h1] <;> rfl) | simp_all) (.c (v := .bool false) rfl)) ?_)
  refine cons (opv (Ev.to (v' := .bool true) (Ev.move (.t rfl)) (congrArg Value.bool (by decide +kernel))) ?_)
  refine cons (opgT rfl rfl rfl ?_)
  refine (buildSlice (E := u8E) Try.underlying22 ty5 z5 (.cons (.c (v := U8 1) rfl) .nil) rfl rfl (fun v6 => ?_))
  refine cons (opgT rfl rfl rfl ?_)
  refine (buildSlice (E := u8E) Try.underlying22 ty5 z5 (.cons (.c (v := U8 2) rfl) .nil) rfl rfl (fun v7 => ?_))
  refine cons (opgT rfl rfl rfl ?_)
  refine (buildSlice (E := (ovE nilSl)) Try.underlying33 ty22 z22 (.cons (.t rfl) (.cons (.t rfl) .nil)) rfl rfl (fun v8 => ?_))
  refine cons (callg rfl rfl en29 (.cons (.t rfl) .nil) (fun hg w I => sum_ok _ [[1], [2]] w (IsSS.mk' (isSl_own (by repeat first | exact List.Mem.head _ | apply List.Mem.tail) w I) (.cons (isSl_own (by repeat first | exact List.Mem.head _ | apply List.Mem.tail) w I) (.cons (isSl_own (by repeat first | exact List.Mem.head _ | apply List.Mem.tail) w I) .nil)))) ?_)
  refine cons (opg rfl rfl (Ev.eql_u16 (.g rfl id) (.c (v := U16 65277) rfl)) ?_)
  refine cons (opv (Ev.pickA (.t rfl) (fun {_} h => by cases h; rfl) ⟨_, rfl⟩ (by intro h1 h; first | (rw [h] <;> rfl) | (rw [h, h1] <;> rfl) | simp_all) (.c (v := .bool false) rfl)) ?_)
  refine cons (opv (Ev.to (v' := .bool true) (Ev.move (.t rfl)) (congrArg Value.bool (by decide +kernel))) ?_)
  refine cons (callg rfl rfl en33 (.cons (.c (v := U16 8717) rfl) (.cons (.c (v := U16 61955) rfl) (.cons (.c (v := U16 0) rfl) .nil))) (fun hg w I => update_ok _ _ _ w) ?_)
  refine cons (opg rfl rfl (Ev.eql_u16 (.g rfl id) (.c (v := U16 5137) rfl)) ?_)
  refine cons (opv (Ev.pickA (.t rfl) (fun {_} h => by cases h; rfl) ⟨_, rfl⟩ (by intro h1 h; first | (rw [h] <;> rfl) | (rw [h, h1] <;> rfl) | simp_all) (.c (v := .bool false) rfl)) ?_)
  refine cons (opv (Ev.to (v' := .bool true) (Ev.move (.t rfl)) (congrArg Value.bool (by decide +kernel))) ?_)
  refine cons (opgT rfl rfl rfl ?_)
  refine (buildSlice (E := u8E) Try.underlying22 ty5 z5 (.cons (.c (v := U8 255) rfl) (.cons (.c (v := U8 255) rfl) (.cons (.c (v := U8 255) rfl) (.cons (.c (v := U8 255) rfl) (.cons (.c (v := U8 0) rfl) (.cons (.c (v := U8 1) rfl) .nil)))))) rfl rfl (fun v9 => ?_))
  refine cons (opgT rfl rfl rfl ?_)
  refine (buildSlice (E := (ovE nilSl)) Try.underlying33 ty22 z22 (.cons (.t rfl) .nil) rfl rfl (fun v10 => ?_))
  refine cons (callg rfl rfl en29 (.cons (.t rfl) .nil) (fun hg w I => sum_ok _ [[255, 255, 255, 255, 0, 1]] w (IsSS.mk' (isSl_own (by repeat first | exact List.Mem.head _ | apply List.Mem.tail) w I) (.cons (isSl_own (by repeat first | exact List.Mem.head _ | apply List.Mem.tail) w I) .nil))) ?_)
  refine cons (opg rfl rfl (Ev.eql_u16 (.g rfl id) (.c (v := U16 65534) rfl)) ?_)
  refine cons (opv (Ev.pickA (.t rfl) (fun {_} h => by cases h; rfl) ⟨_, rfl⟩ (by intro h1 h; first | (rw [h] <;> rfl) | (rw [h, h1] <;> rfl) | simp_all) (.c (v := .bool false) rfl)) ?_)
  refine cons (opv (Ev.to (v' := .bool true) (Ev.move (.t rfl)) (congrArg Value.bool (by decide +kernel))) ?_)
  refine cons (callg rfl rfl en33 (.cons (.c (v := U16 0) rfl) (.cons (.c (v := U16 0) rfl) (.cons (.c (v := U16 1) rfl) .nil))) (fun hg w I => update_ok _ _ _ w) ?_)
  refine cons (opg rfl rfl (Ev.eql_u16 (.g rfl id) (.c (v := U16 65534) rfl)) ?_)
  refine cons (opv (Ev.pickA (.t rfl) (fun {_} h => by cases h; rfl) ⟨_, rfl⟩ (by intro h1 h; first | (rw [h] <;> rfl) | (rw [h, h1] <;> rfl) | simp_all) (.c (v := .bool false) rfl)) ?_)
  refine cons (opv (Ev.to (v' := .bool true) (Ev.move (.t rfl)) (congrArg Value.bool (by decide +kernel))) ?_)
  refine cons (opgT rfl rfl rfl ?_)
  refine (buildSlice (E := u8E) Try.underlying22 ty5 z5 (.cons (.c (v := U8 0) rfl) (.cons (.c (v := U8 1) rfl) (.cons (.c (v := U8 0) rfl) (.cons (.c (v := U8 0) rfl) (.cons (.c (v := U8 244) rfl) (.cons (.c (v := U8 245) rfl) (.cons (.c (v := U8 246) rfl) (.cons (.c (v := U8 247) rfl) .nil)))))))) rfl rfl (fun v11 => ?_))
  refine cons (opgT rfl rfl rfl ?_)
  refine (buildSlice (E := (ovE nilSl)) Try.underlying33 ty22 z22 (.cons (.t rfl) .nil) rfl rfl (fun v12 => ?_))
  refine cons (callg rfl rfl en29 (.cons (.t rfl) .nil) (fun hg w I => sum_ok _ [[0, 1, 0, 0, 244, 245, 246, 247]] w (IsSS.mk' (isSl_own (by repeat first | exact List.Mem.head _ | apply List.Mem.tail) w I) (.cons (isSl_own (by repeat first | exact List.Mem.head _ | apply List.Mem.tail) w I) .nil))) ?_)
  refine cons (opg rfl rfl (Ev.eql_u16 (.g rfl id) (.c (v := U16 5137) rfl)) ?_)
  refine cons (opv (Ev.pickA (.t rfl) (fun {_} h => by cases h; rfl) ⟨_, rfl⟩ (by intro h1 h; first | (rw [h] <;> rfl) | (rw [h, h1] <;> rfl) | simp_all) (.c (v := .bool false) rfl)) ?_)
  refine cons (opv (Ev.to (v' := .bool true) (Ev.assign (.t rfl)) (congrArg Value.bool (by decide +kernel))) ?_)
  refine nil ?_
  refine pN ?_
  refine seq ?_
  refine region ?_
  refine cons (callv en31 (.cons (.c (v := (Go.Value.slice none 0 0)) rfl) .nil) (fun w I => hash_ok _ [] w (IsSS.mk' (IsSl.nil _ w) .nil)) ?_)
  refine cons (opv (Ev.eql_u64 (.t rfl) (.c (v := U64 14695981039346656037) rfl)) ?_)
  refine cons (opv (Ev.to (v' := .bool true) (Ev.move (.t rfl)) (congrArg Value.bool (by decide +kernel))) ?_)
  refine cons (opgT rfl rfl rfl ?_)
  refine (buildSlice (E := u8E) Try.underlying22 ty5 z5 (.cons (.c (v := U8 97) rfl) .nil) rfl rfl (fun v13 => ?_))
  refine cons (opgT rfl rfl rfl ?_)
  refine (convMark (xs := [97]) Try.underlying22 Try.underlying5 (.t rfl) (by decide) (by repeat first | exact Upd.head | apply Upd.tail) ?_)
  refine cons (opgT rfl rfl rfl ?_)
  refine (buildSlice (E := u8E) Try.underlying22 ty5 z5 (.cons (.c (v := U8 98) rfl) .nil) rfl rfl (fun v14 => ?_))
  refine cons (opgT rfl rfl rfl ?_)
  refine (convMark (xs := [98]) Try.underlying22 Try.underlying5 (.t rfl) (by decide) (by repeat first | exact Upd.head | apply Upd.tail) ?_)
  refine cons (opgT rfl rfl rfl ?_)
  refine (buildSlice (E := (ovE nilSl)) Try.underlying33 ty22 z22 (.cons (.t rfl) (.cons (.t rfl) .nil)) rfl rfl (fun v15 => ?_))
  refine cons (callg rfl rfl en31 (.cons (.t rfl) .nil) (fun hg w I => hash_ok _ [[97], [98]] w (IsSS.mk' (isSl_own (by repeat first | exact List.Mem.head _ | apply List.Mem.tail) w I) (.cons (isSl_rd (by repeat first | exact List.Mem.head _ | apply List.Mem.tail) w I) (.cons (isSl_rd (by repeat first | exact List.Mem.head _ | apply List.Mem.tail) w I) .nil)))) ?_)
  refine cons (opgT rfl rfl rfl ?_)
  refine (buildSlice (E := u8E) Try.underlying22 ty5 z5 (.cons (.c (v := U8 97) rfl) (.cons (.c (v := U8 98) rfl) .nil)) rfl rfl (fun v16 => ?_))
  refine cons (opgT rfl rfl rfl ?_)
  refine (convMark (xs := [97, 98]) Try.underlying22 Try.underlying5 (.t rfl) (by decide) (by repeat first | exact Upd.head | apply Upd.tail) ?_)
  refine cons (opgT rfl rfl rfl ?_)
  refine (buildSlice (E := (ovE nilSl)) Try.underlying33 ty22 z22 (.cons (.t rfl) .nil) rfl rfl (fun v17 => ?_))
  refine cons (callg rfl rfl en31 (.cons (.t rfl) .nil) (fun hg w I => hash_ok _ [[97, 98]] w (IsSS.mk' (isSl_own (by repeat first | exact List.Mem.head _ | apply List.Mem.tail) w I) (.cons (isSl_rd (by repeat first | exact List.Mem.head _ | apply List.Mem.tail) w I) .nil))) ?_)
  refine cons (opg rfl rfl (Ev.eql_u64 (.g rfl id) (.g rfl id)) ?_)
  refine cons (opv (Ev.pickA (.t rfl) (fun {_} h => by cases h; rfl) ⟨_, rfl⟩ (by intro h1 h; first | (rw [h] <;> rfl) | (rw [h, h1] <;> rfl) | simp_all) (.c (v := .bool false) rfl)) ?_)
  refine cons (opv (Ev.to (v' := .bool true) (Ev.assign (.t rfl)) (congrArg Value.bool (by decide +kernel))) ?_)
  refine nil ?_
  refine pN ?_
  refine seq ?_
  refine region ?_
  refine cons (buildSlice (E := u8E) Try.underlying22 ty5 z5 (.cons (.c (v := U8 165) rfl) .nil) rfl rfl (fun v18 => ?_))
  refine cons (callv en36 (.cons (.t rfl) (.cons (.c (v := I 0) rfl) (.cons (.c (v := I 4) rfl) .nil))) (fun w I => bits_ok _ _ _ _ w (by first | exact isSl_own (by repeat first | exact List.Mem.head _ | apply List.Mem.tail) w I | exact IsSl.keep0 (by assumption) I.keeps) (by first | omega | (simp; done)) (by first | assumption | (unfold Fit; omega)) (by first | assumption | (unfold Fit; omega))) ?_)
  refine cons (opv (Ev.move (.t rfl)) ?_)
  refine cons (opv (Ev.extract (.t rfl) rfl) ?_)
  refine cons (opv (Ev.extract (.t rfl) rfl) ?_)
  refine cons (opv (Ev.assign (.t rfl)) ?_)
  refine cons (opv (Ev.assign (.t rfl)) ?_)
  refine nil ?_
  refine pN ?_
  refine seq ?_
  refine region ?_
  refine cons (buildSlice (E := u8E) Try.underlying22 ty5 z5 (.cons (.c (v := U8 165) rfl) (.cons (.c (v := U8 15) rfl) .nil)) rfl rfl (fun v19 => ?_))
  refine cons (callv en36 (.cons (.t rfl) (.cons (.c (v := I 4) rfl) (.cons (.c (v := I 8) rfl) .nil))) (fun w I => bits_ok _ _ _ _ w (by first | exact isSl_own (by repeat first | exact List.Mem.head _ | apply List.Mem.tail) w I | exact IsSl.keep0 (by assumption) I.keeps) (by first | omega | (simp; done)) (by first | assumption | (unfold Fit; omega)) (by first | assumption | (unfold Fit; omega))) ?_)
  refine cons (opv (Ev.move (.t rfl)) ?_)
  refine cons (opv (Ev.extract (.t rfl) rfl) ?_)
  refine cons (opv (Ev.extract (.t rfl) rfl) ?_)
  refine cons (opv (Ev.assign (.t rfl)) ?_)
  refine cons (opv (Ev.assign (.t rfl)) ?_)
  refine nil ?_
  refine pN ?_
  refine seq ?_
  refine region ?_
  refine cons (buildSlice (E := u8E) Try.underlying22 ty5 z5 (.cons (.c (v := U8 165) rfl) .nil) rfl rfl (fun v20 => ?_))
  refine cons (callv en36 (.cons (.t rfl) (.cons (.c (v := I 3) rfl) (.cons (.c (v := I 0) rfl) .nil))) (fun w I => bits_ok _ _ _ _ w (by first | exact isSl_own (by repeat first | exact List.Mem.head _ | apply List.Mem.tail) w I | exact IsSl.keep0 (by assumption) I.keeps) (by first | omega | (simp; done)) (by first | assumption | (unfold Fit; omega)) (by first | assumption | (unfold Fit; omega))) ?_)
  refine cons (opv (Ev.move (.t rfl)) ?_)
  refine cons (opv (Ev.extract (.t rfl) rfl) ?_)
  refine cons (opv (Ev.extract (.t rfl) rfl) ?_)
  refine cons (opv (Ev.assign (.t rfl)) ?_)
  refine cons (opv (Ev.assign (.t rfl)) ?_)
  refine nil ?_
  refine pN ?_
  refine seq ?_
  refine region ?_
  refine cons (buildSlice (E := u8E) Try.underlying22 ty5 z5 (.cons (.c (v := U8 165) rfl) .nil) rfl rfl (fun v21 => ?_))
  refine cons (callv en36 (.cons (.t rfl) (.cons (.c (v := I 5) rfl) (.cons (.c (v := I 4) rfl) .nil))) (fun w I => bits_ok _ _ _ _ w (by first | exact isSl_own (by repeat first | exact List.Mem.head _ | apply List.Mem.tail) w I | exact IsSl.keep0 (by assumption) I.keeps) (by first | omega | (simp; done)) (by first | assumption | (unfold Fit; omega)) (by first | assumption | (unfold Fit; omega))) ?_)
  refine cons (opv (Ev.move (.t rfl)) ?_)
  refine cons (opv (Ev.extract (.t rfl) rfl) ?_)
  refine cons (opv (Ev.extract (.t rfl) rfl) ?_)
  refine cons (opv (Ev.assign (.t rfl)) ?_)
  refine cons (opv (Ev.assign (.t rfl)) ?_)
  refine nil ?_
  refine pN ?_
  refine seq ?_
  refine region ?_
  refine cons (buildSlice (E := u8E) Try.underlying22 ty5 z5 (.cons (.c (v := U8 165) rfl) .nil) rfl rfl (fun v22 => ?_))
  refine cons (callv en36 (.cons (.t rfl) (.cons (.c (v := I 0) rfl) (.cons (.c (v := I 65) rfl) .nil))) (fun w I => bits_ok _ _ _ _ w (by first | exact isSl_own (by repeat first | exact List.Mem.head _ | apply List.Mem.tail) w I | exact IsSl.keep0 (by assumption) I.keeps) (by first | omega | (simp; done)) (by first | assumption | (unfold Fit; omega)) (by first | assumption | (unfold Fit; omega))) ?_)
  refine cons (opv (Ev.move (.t rfl)) ?_)
  refine cons (opv (Ev.extract (.t rfl) rfl) ?_)
  refine cons (opv (Ev.extract (.t rfl) rfl) ?_)
  refine cons (opv (Ev.assign (.t rfl)) ?_)
  refine cons (opv (Ev.assign (.t rfl)) ?_)
  refine nil ?_
  refine pN ?_
  refine seq ?_
  refine region ?_
  refine cons (opv (Ev.move (.t rfl)) ?_)
  refine cons (opv (Ev.eql_u64 (.t rfl) (.c (v := U64 10) rfl)) ?_)
  refine cons (opv (Ev.to (v' := .bool true) (Ev.move (.t rfl)) (congrArg Value.bool (by decide +kernel))) ?_)
  refine cons (opg rfl rfl (Ev.move (.t rfl)) ?_)
  refine cons (opg rfl rfl (Ev.eql_i (.g rfl id) (.c (v := I 0) rfl)) ?_)
  refine cons (opv (Ev.pickA (.t rfl) (fun {_} h => by cases h; rfl) ⟨_, rfl⟩ (by intro h1 h; first | (rw [h] <;> rfl) | (rw [h, h1] <;> rfl) | simp_all) (.c (v := .bool false) rfl)) ?_)
  refine cons (opv (Ev.to (v' := .bool true) (Ev.move (.t rfl)) (congrArg Value.bool (by decide +kernel))) ?_)
  refine cons (opg rfl rfl (Ev.move (.t rfl)) ?_)
  refine cons (opg rfl rfl (Ev.eql_u64 (.g rfl id) (.c (v := U64 80) rfl)) ?_)
  refine cons (opv (Ev.pickA (.t rfl) (fun {_} h => by cases h; rfl) ⟨_, rfl⟩ (by intro h1 h; first | (rw [h] <;> rfl) | (rw [h, h1] <;> rfl) | simp_all) (.c (v := .bool false) rfl)) ?_)
  refine cons (opv (Ev.to (v' := .bool true) (Ev.move (.t rfl)) (congrArg Value.bool (by decide +kernel))) ?_)
  refine cons (opg rfl rfl (Ev.move (.t rfl)) ?_)
  refine cons (opg rfl rfl (Ev.eql_i (.g rfl id) (.c (v := I 0) rfl)) ?_)
  refine cons (opv (Ev.pickA (.t rfl) (fun {_} h => by cases h; rfl) ⟨_, rfl⟩ (by intro h1 h; first | (rw [h] <;> rfl) | (rw [h, h1] <;> rfl) | simp_all) (.c (v := .bool false) rfl)) ?_)
  refine cons (opv (Ev.to (v' := .bool true) (Ev.move (.t rfl)) (congrArg Value.bool (by decide +kernel))) ?_)
  refine cons (opg rfl rfl (Ev.move (.t rfl)) ?_)
  refine cons (opg rfl rfl (Ev.eql_u64 (.g rfl id) (.c (v := U64 0) rfl)) ?_)
  refine cons (opv (Ev.pickA (.t rfl) (fun {_} h => by cases h; rfl) ⟨_, rfl⟩ (by intro h1 h; first | (rw [h] <;> rfl) | (rw [h, h1] <;> rfl) | simp_all) (.c (v := .bool false) rfl)) ?_)
  refine cons (opv (Ev.to (v' := .bool true) (Ev.move (.t rfl)) (congrArg Value.bool (by decide +kernel))) ?_)
  refine cons (opg rfl rfl (Ev.move (.t rfl)) ?_)
  refine cons (opg rfl rfl (Ev.eql_i (.g rfl id) (.c (v := I 0) rfl)) ?_)
  refine cons (opv (Ev.pickA (.t rfl) (fun {_} h => by cases h; rfl) ⟨_, rfl⟩ (by intro h1 h; first | (rw [h] <;> rfl) | (rw [h, h1] <;> rfl) | simp_all) (.c (v := .bool false) rfl)) ?_)
  refine cons (opv (Ev.to (v' := .bool true) (Ev.move (.t rfl)) (congrArg Value.bool (by decide +kernel))) ?_)
  refine cons (opg rfl rfl (Ev.move (.t rfl)) ?_)
  refine cons (opg rfl rfl (Ev.eql_i (.g rfl id) (.c (v := I 5) rfl)) ?_)
  refine cons (opv (Ev.pickA (.t rfl) (fun {_} h => by cases h; rfl) ⟨_, rfl⟩ (by intro h1 h; first | (rw [h] <;> rfl) | (rw [h, h1] <;> rfl) | simp_all) (.c (v := .bool false) rfl)) ?_)
  refine cons (opv (Ev.to (v' := .bool true) (Ev.move (.t rfl)) (congrArg Value.bool (by decide +kernel))) ?_)
  refine cons (opg rfl rfl (Ev.move (.t rfl)) ?_)
  refine cons (opg rfl rfl (Ev.eql_i (.g rfl id) (.c (v := I 2) rfl)) ?_)
  refine cons (opv (Ev.pickA (.t rfl) (fun {_} h => by cases h; rfl) ⟨_, rfl⟩ (by intro h1 h; first | (rw [h] <;> rfl) | (rw [h, h1] <;> rfl) | simp_all) (.c (v := .bool false) rfl)) ?_)
  refine cons (opv (Ev.to (v' := .bool true) (Ev.assign (.t rfl)) (congrArg Value.bool (by decide +kernel))) ?_)
  refine nil ?_
  refine pN ?_
  refine seq ?_
  refine region ?_
  refine cons (buildSlice (E := u8E) Try.underlying22 ty5 z5 (.cons (.c (v := U8 165) rfl) (.cons (.c (v := U8 15) rfl) .nil)) rfl rfl (fun v23 => ?_))
  refine cons (buildSlice (E := u8E) Try.underlying22 ty5 z5 (.cons (.c (v := U8 165) rfl) (.cons (.c (v := U8 31) rfl) .nil)) rfl rfl (fun v24 => ?_))
  refine cons (callv en37 (.cons (.t rfl) (.cons (.t rfl) .nil)) (fun w I => common_ok _ _ _ _ w (by first | exact isSl_own (by repeat first | exact List.Mem.head _ | apply List.Mem.tail) w I | exact IsSl.keep0 (by assumption) I.keeps) (by first | exact isSl_own (by repeat first | exact List.Mem.head _ | apply List.Mem.tail) w I | exact IsSl.keep0 (by assumption) I.keeps) (by first | omega | (simp; done))) ?_)
  refine cons (opv (Ev.eql_i (.t rfl) (.c (v := I 11) rfl)) ?_)
  refine cons (opv (Ev.to (v' := .bool true) (Ev.move (.t rfl)) (congrArg Value.bool (by decide +kernel))) ?_)
  refine cons (opgT rfl rfl rfl ?_)
  refine (buildSlice (E := u8E) Try.underlying22 ty5 z5 (.cons (.c (v := U8 165) rfl) .nil) rfl rfl (fun v25 => ?_))
  refine cons (opgT rfl rfl rfl ?_)
  refine (buildSlice (E := u8E) Try.underlying22 ty5 z5 (.cons (.c (v := U8 165) rfl) (.cons (.c (v := U8 15) rfl) .nil)) rfl rfl (fun v26 => ?_))
  refine cons (callg rfl rfl en37 (.cons (.t rfl) (.cons (.t rfl) .nil)) (fun hg w I => common_ok _ _ _ _ w (by first | exact isSl_own (by repeat first | exact List.Mem.head _ | apply List.Mem.tail) w I | exact IsSl.keep0 (by assumption) I.keeps) (by first | exact isSl_own (by repeat first | exact List.Mem.head _ | apply List.Mem.tail) w I | exact IsSl.keep0 (by assumption) I.keeps) (by first | omega | (simp; done))) ?_)
  refine cons (opg rfl rfl (Ev.eql_i (.g rfl id) (.c (v := I 8) rfl)) ?_)
  refine cons (opv (Ev.pickA (.t rfl) (fun {_} h => by cases h; rfl) ⟨_, rfl⟩ (by intro h1 h; first | (rw [h] <;> rfl) | (rw [h, h1] <;> rfl) | simp_all) (.c (v := .bool false) rfl)) ?_)
  refine cons (opv (Ev.to (v' := .bool true) (Ev.move (.t rfl)) (congrArg Value.bool (by decide +kernel))) ?_)
  refine cons (opgT rfl rfl rfl ?_)
  refine (buildSlice (E := u8E) Try.underlying22 ty5 z5 (.cons (.c (v := U8 165) rfl) .nil) rfl rfl (fun v27 => ?_))
  refine cons (callg rfl rfl en37 (.cons (.c (v := (Go.Value.slice none 0 0)) rfl) (.cons (.t rfl) .nil)) (fun hg w I => common_ok _ _ _ _ w (IsSl.nil _ w) (by first | exact isSl_own (by repeat first | exact List.Mem.head _ | apply List.Mem.tail) w I | exact IsSl.keep0 (by assumption) I.keeps) (by first | omega | (simp; done))) ?_)
  refine cons (opg rfl rfl (Ev.eql_i (.g rfl id) (.c (v := I 0) rfl)) ?_)
  refine cons (opv (Ev.pickA (.t rfl) (fun {_} h => by cases h; rfl) ⟨_, rfl⟩ (by intro h1 h; first | (rw [h] <;> rfl) | (rw [h, h1] <;> rfl) | simp_all) (.c (v := .bool false) rfl)) ?_)
  refine cons (opv (Ev.to (v' := .bool true) (Ev.move (.t rfl)) (congrArg Value.bool (by decide +kernel))) ?_)
  refine cons (opgT rfl rfl rfl ?_)
  refine (buildSlice (E := u8E) Try.underlying22 ty5 z5 (.cons (.c (v := U8 128) rfl) .nil) rfl rfl (fun v28 => ?_))
  refine cons (opgT rfl rfl rfl ?_)
  refine (buildSlice (E := u8E) Try.underlying22 ty5 z5 (.cons (.c (v := U8 0) rfl) .nil) rfl rfl (fun v29 => ?_))
  refine cons (callg rfl rfl en37 (.cons (.t rfl) (.cons (.t rfl) .nil)) (fun hg w I => common_ok _ _ _ _ w (by first | exact isSl_own (by repeat first | exact List.Mem.head _ | apply List.Mem.tail) w I | exact IsSl.keep0 (by assumption) I.keeps) (by first | exact isSl_own (by repeat first | exact List.Mem.head _ | apply List.Mem.tail) w I | exact IsSl.keep0 (by assumption) I.keeps) (by first | omega | (simp; done))) ?_)
  refine cons (opg rfl rfl (Ev.eql_i (.g rfl id) (.c (v := I 0) rfl)) ?_)
  refine cons (opv (Ev.pickA (.t rfl) (fun {_} h => by cases h; rfl) ⟨_, rfl⟩ (by intro h1 h; first | (rw [h] <;> rfl) | (rw [h, h1] <;> rfl) | simp_all) (.c (v := .bool false) rfl)) ?_)
  refine cons (opv (Ev.to (v' := .bool true) (Ev.assign (.t rfl)) (congrArg Value.bool (by decide +kernel))) ?_)
  refine nil ?_
  refine pN ?_
  refine seq ?_
  refine region ?_
  refine cons (opv (Ev.move (.c (v := .bool true) rfl)) ?_)
  refine cons (callg rfl rfl en22 .nil (fun hg w I => works_ok w) ?_)
  refine cons (opv (Ev.pickA (.t rfl) (fun {_} h => by cases h; rfl) ⟨_, rfl⟩ (by intro h1 h; first | (rw [h] <;> rfl) | (rw [h, h1] <;> rfl) | simp_all) (.c (v := .bool false) rfl)) ?_)
  refine cons (opv (Ev.move (.t rfl)) ?_)
  refine cons (opg rfl rfl (Ev.move (.t rfl)) ?_)
  refine cons (opv (Ev.pickA (.t rfl) (fun {_} h => by cases h; rfl) ⟨_, rfl⟩ (by intro h1 h; first | (rw [h] <;> rfl) | (rw [h, h1] <;> rfl) | simp_all) (.c (v := .bool false) rfl)) ?_)
  refine cons (opv (Ev.move (.t rfl)) ?_)
  refine cons (opg rfl rfl (Ev.move (.t rfl)) ?_)
  refine cons (opv (Ev.pickA (.t rfl) (fun {_} h => by cases h; rfl) ⟨_, rfl⟩ (by intro h1 h; first | (rw [h] <;> rfl) | (rw [h, h1] <;> rfl) | simp_all) (.c (v := .bool false) rfl)) ?_)
  refine cons (opv (Ev.move (.t rfl)) ?_)
  refine cons (opg rfl rfl (Ev.move (.t rfl)) ?_)
  refine cons (opv (Ev.pickA (.t rfl) (fun {_} h => by cases h; rfl) ⟨_, rfl⟩ (by intro h1 h; first | (rw [h] <;> rfl) | (rw [h, h1] <;> rfl) | simp_all) (.c (v := .bool false) rfl)) ?_)
  refine cons (opv (Ev.move (.t rfl)) ?_)
  refine cons (opg rfl rfl (Ev.move (.t rfl)) ?_)
  refine cons (opv (Ev.pickA (.t rfl) (fun {_} h => by cases h; rfl) ⟨_, rfl⟩ (by intro h1 h; first | (rw [h] <;> rfl) | (rw [h, h1] <;> rfl) | simp_all) (.c (v := .bool false) rfl)) ?_)
  refine cons (opv (Ev.move (.t rfl)) ?_)
  refine cons (opg rfl rfl (Ev.move (.t rfl)) ?_)
  refine cons (opv (Ev.pickA (.t rfl) (fun {_} h => by cases h; rfl) ⟨_, rfl⟩ (by intro h1 h; first | (rw [h] <;> rfl) | (rw [h, h1] <;> rfl) | simp_all) (.c (v := .bool false) rfl)) ?_)
  refine cons (opv (Ev.assign (.t rfl)) ?_)
  refine nil ?_
  refine pN ?_
  refine ret ?_
  refine done rfl (.tmp rfl .nil) (retE ?_)
  exact congrArg Value.bool (by decide +kernel)
end Go.Proofs.Ytcmpdhggeilkfaa
