/- octets -/
import Derived.Test.YtcmpdhggeilkfaaO6
set_option linter.unusedVariables false
set_option linter.unusedSimpArgs false
namespace Go.Proofs.Ytcmpdhggeilkfaa
open Go Go.Gx

theorem en33 : Enters Try.prog 33 := Enters.mk' (by kernel_rfl)

theorem en34 : Enters Try.prog 34 := Enters.mk' (by kernel_rfl)

theorem en22 : Enters Try.prog 22 := Enters.mk' (by kernel_rfl)

theorem OctetsUpdates_walk (s o n : UInt16) (w : World) : Calls Try.prog 7 #[U16 s, U16 o, U16 n] w (RetV w (.bool true)) := by
  refine enter0 19 Try.func7 rfl rfl (Nat.le_of_ble_eq_true rfl) ?_
  refine seq ?_
  refine region ?_
  refine cons (opv (Ev.assign (.c (v := .bool false) rfl)) ?_)
  refine nil ?_
  refine pN ?_
  refine seq ?_
  refine region ?_
  refine cons (opv (Ev.move (.t rfl)) ?_)
  refine cons (opv (Ev.move (.t rfl)) ?_)
  refine cons (opv (Ev.move (.t rfl)) ?_)
  refine cons (callv en33 (.cons (.t rfl) (.cons (.t rfl) (.cons (.t rfl) .nil))) (fun w I => update_ok _ _ _ w) ?_)
  refine cons (opv (Ev.move (.t rfl)) ?_)
  refine cons (opv (Ev.move (.t rfl)) ?_)
  refine cons (opv (Ev.move (.t rfl)) ?_)
  refine cons (callv en34 (.cons (.t rfl) (.cons (.t rfl) (.cons (.t rfl) .nil))) (fun w I => rupdate_ok _ _ _ w) ?_)
  refine cons (opv (Ev.eql_u16 (.t rfl) (.t rfl)) ?_)
  refine cons (opv (Ev.move (.t rfl)) ?_)
  refine cons (callg rfl rfl en22 .nil (fun hg w I => works_ok w) ?_)
  refine cons (opv (Ev.pickA (.t rfl) (fun {_} h => by cases h; rfl) ⟨_, rfl⟩ (by intro h1 h; first | (rw [h] <;> rfl) | (rw [h, h1] <;> rfl) | simp_all) (.c (v := .bool false) rfl)) ?_)
  refine cons (opv (Ev.assign (.t rfl)) ?_)
  refine nil ?_
  refine pN ?_
  refine ret ?_
  refine done rfl (.tmp rfl .nil) (retE ?_)
  simp [tupV]

theorem en23 : Enters Try.prog 23 := Enters.mk' (by kernel_rfl)

theorem en25 : Enters Try.prog 25 := Enters.mk' (by kernel_rfl)

theorem en26 : Enters Try.prog 26 := Enters.mk' (by kernel_rfl)

theorem en27 : Enters Try.prog 27 := Enters.mk' (by kernel_rfl)

theorem en28 : Enters Try.prog 28 := Enters.mk' (by kernel_rfl)

theorem OctetsTakes_walk (u : Value) (b : List UInt8) (p0 : Int) (w : World) (hb : IsSl u8E w u b) (hp : Fit p0) : Calls Try.prog 4 #[u, I p0] w (RetV w (.bool true)) := by
  have hbl := hb.le
  refine enter0 99 Try.func4 rfl rfl (Nat.le_of_ble_eq_true rfl) ?_
  refine seq ?_
  refine region ?_
  refine cons (opv (Ev.assign (.c (v := .bool false) rfl)) ?_)
  refine nil ?_
  refine pN ?_
  refine seq ?_
  refine seq ?_
  refine region ?_
  refine cons (opv (Ev.assign (.c (v := I 0) rfl)) ?_)
  refine nil ?_
  refine pN ?_
  refine block ?_
  refine loop (X := Int) (fun x : Int => (0 ≤ x ∧ x ≤ 40)) (fun x : Int => [(0, true, u), (1, true, I p0), (5, true, I x)]) (fun x : Int => []) (fun x : Int => (40 - x).toNat) (0) ?_ (by repeat first | exact Sub.nil | refine Sub.cons rfl ?_) (by repeat first | exact List.Sublist.refl _ | apply List.Sublist.cons_cons | apply List.Sublist.cons) (fun x hx => ?_)
  · omega
  obtain ⟨i, rfl⟩ : ∃ y, y = x := ⟨x, rfl⟩
  have hi : 0 ≤ i ∧ i ≤ 40 := hx
  clear hx
  show Sat _ _ [(0, true, u), (1, true, I p0), (5, true, I i)] []
  refine seq ?_
  refine seq ?_
  refine region ?_
  refine cons (opv (Ev.move (.t rfl)) ?_)
  refine cons (opv (Ev.lss_i (.t rfl) (.c (v := I 40) rfl)) ?_)
  refine nil ?_
  refine pN ?_
  first | refine condD rfl (fun h0 => ?_) (fun h0 => ?_) | refine cond rfl (fun h0 => ?_) (fun h0 => ?_)
  · try simp only [Bool.and_eq_true, Bool.or_eq_true, Bool.or_eq_false_iff, Bool.and_eq_false_iff, Bool.not_eq_true', Bool.not_eq_false', decide_eq_true_eq, decide_eq_false_iff_not, Decidable.not_not] at h0
    refine skip ?_
    refine pN ?_
    refine seq ?_
    refine block ?_
    refine seq ?_
    refine region ?_
    refine cons (opv (Ev.move (.t rfl)) ?_)
    refine cons (opv (Ev.assign (.t rfl)) ?_)
    refine nil ?_
    refine pN ?_
    refine cut (X := Int) (fun x : Int => (Fit x)) (fun x : Int => [(0, true, u), (1, true, I p0), (5, true, I i), (6, true, I x)]) (fun x : Int => []) ?_ (fun x hx => ?_)
    · refine seq ?_
      refine region ?_
      refine cons (opv (Ev.move (.t rfl)) ?_)
      refine cons (opv (Ev.gtr_i (.t rfl) (.c (v := I 0) rfl)) ?_)
      refine nil ?_
      refine pN ?_
      first | refine condD rfl (fun h1 => ?_) (fun h1 => ?_) | refine cond rfl (fun h1 => ?_) (fun h1 => ?_)
      · try simp only [Bool.and_eq_true, Bool.or_eq_true, Bool.or_eq_false_iff, Bool.and_eq_false_iff, Bool.not_eq_true', Bool.not_eq_false', decide_eq_true_eq, decide_eq_false_iff_not, Decidable.not_not] at h1
        refine region ?_
        refine cons (opv (Ev.move (.t rfl)) ?_)
        refine cons (opv (Ev.sub_i (.t rfl) (.c (v := I 3) rfl) (fun _ => by omega)) ?_)
        refine cons (opv (Ev.assign (.t rfl)) ?_)
        refine nil ?_
        refine pN ?_
        refine meet (X := Int) (_) ?_ (by repeat first | exact Sub.nil | refine Sub.cons rfl ?_) (by repeat first | exact List.Sublist.refl _ | apply List.Sublist.cons_cons | apply List.Sublist.cons)
        · try dsimp only
          first | exact hp | (unfold Fit; omega)
      · try simp only [Bool.and_eq_true, Bool.or_eq_true, Bool.or_eq_false_iff, Bool.and_eq_false_iff, Bool.not_eq_true', Bool.not_eq_false', decide_eq_true_eq, decide_eq_false_iff_not, Decidable.not_not] at h1
        refine skip ?_
        refine pN ?_
        refine meet (X := Int) (_) ?_ (by repeat first | exact Sub.nil | refine Sub.cons rfl ?_) (by repeat first | exact List.Sublist.refl _ | apply List.Sublist.cons_cons | apply List.Sublist.cons)
        · try dsimp only
          first | exact hp | (unfold Fit; omega)
    obtain ⟨p, rfl⟩ : ∃ y, y = x := ⟨x, rfl⟩
    have hf : Fit p := hx
    clear hx
    show Sat _ _ [(0, true, u), (1, true, I p0), (5, true, I i), (6, true, I p)] []
    refine seq ?_
    refine region ?_
    refine cons (opv (Ev.move (.t rfl)) ?_)
    refine cons (opv (Ev.move (.t rfl)) ?_)
    refine cons (callv en23 (.cons (.t rfl) (.cons (.t rfl) .nil)) (fun w I => take_uint8_ok _ _ _ w (by first | exact isSl_own (by repeat first | exact List.Mem.head _ | apply List.Mem.tail) w I | exact IsSl.keep0 (by assumption) I.keeps)) ?_)
    refine cons (opv (Ev.move (.t rfl)) ?_)
    refine cons (opv (Ev.extract (.t rfl) rfl) ?_)
    refine cons (opv (Ev.extract (.t rfl) rfl) ?_)
    refine cons (opv (Ev.assign (.t rfl)) ?_)
    refine cons (opv (Ev.assign (.t rfl)) ?_)
    refine nil ?_
    refine pN ?_
    refine seq ?_
    refine region ?_
    refine cons (opv (Ev.move (.t rfl)) ?_)
    refine cons (opv (Ev.move (.t rfl)) ?_)
    refine cons (callv en24 (.cons (.t rfl) (.cons (.t rfl) .nil)) (fun w I => take_uint16_ok _ _ _ w (by first | exact isSl_own (by repeat first | exact List.Mem.head _ | apply List.Mem.tail) w I | exact IsSl.keep0 (by assumption) I.keeps)) ?_)
    refine cons (opv (Ev.move (.t rfl)) ?_)
    refine cons (opv (Ev.extract (.t rfl) rfl) ?_)
    refine cons (opv (Ev.extract (.t rfl) rfl) ?_)
    refine cons (opv (Ev.assign (.t rfl)) ?_)
    refine cons (opv (Ev.assign (.t rfl)) ?_)
    refine nil ?_
    refine pN ?_
    refine seq ?_
    refine region ?_
    refine cons (opv (Ev.move (.t rfl)) ?_)
    refine cons (opv (Ev.move (.t rfl)) ?_)
    refine cons (callv en25 (.cons (.t rfl) (.cons (.t rfl) .nil)) (fun w I => take_uint32_ok _ _ _ w (by first | exact isSl_own (by repeat first | exact List.Mem.head _ | apply List.Mem.tail) w I | exact IsSl.keep0 (by assumption) I.keeps)) ?_)
    refine cons (opv (Ev.move (.t rfl)) ?_)
    refine cons (opv (Ev.extract (.t rfl) rfl) ?_)
    refine cons (opv (Ev.extract (.t rfl) rfl) ?_)
    refine cons (opv (Ev.assign (.t rfl)) ?_)
    refine cons (opv (Ev.assign (.t rfl)) ?_)
    refine nil ?_
    refine pN ?_
    refine seq ?_
    refine region ?_
    refine cons (opv (Ev.move (.t rfl)) ?_)
    refine cons (opv (Ev.move (.t rfl)) ?_)
    refine cons (callv en26 (.cons (.t rfl) (.cons (.t rfl) .nil)) (fun w I => take_uint64_ok _ _ _ w (by first | exact isSl_own (by repeat first | exact List.Mem.head _ | apply List.Mem.tail) w I | exact IsSl.keep0 (by assumption) I.keeps)) ?_)
    refine cons (opv (Ev.move (.t rfl)) ?_)
    refine cons (opv (Ev.extract (.t rfl) rfl) ?_)
    refine cons (opv (Ev.extract (.t rfl) rfl) ?_)
    refine cons (opv (Ev.assign (.t rfl)) ?_)
    refine cons (opv (Ev.assign (.t rfl)) ?_)
    refine nil ?_
    refine pN ?_
    refine seq ?_
    refine region ?_
    refine cons (opv (Ev.move (.t rfl)) ?_)
    refine cons (opv (Ev.move (.t rfl)) ?_)
    refine cons (callv en27 (.cons (.t rfl) (.cons (.t rfl) .nil)) (fun w I => take_own_ok _ _ _ w (by first | exact isSl_own (by repeat first | exact List.Mem.head _ | apply List.Mem.tail) w I | exact IsSl.keep0 (by assumption) I.keeps)) ?_)
    refine cons (opv (Ev.move (.t rfl)) ?_)
    refine cons (opv (Ev.extract (.t rfl) rfl) ?_)
    refine cons (opv (Ev.extract (.t rfl) rfl) ?_)
    refine cons (opv (Ev.assign (.t rfl)) ?_)
    refine cons (opv (Ev.assign (.t rfl)) ?_)
    refine nil ?_
    refine pN ?_
    refine seq ?_
    refine region ?_
    refine cons (opv (Ev.move (.t rfl)) ?_)
    refine cons (opv (Ev.move (.t rfl)) ?_)
    refine cons (opv (Ev.move (.t rfl)) ?_)
    refine cons (opv (Ev.to (v' := U64 (takeB b p 1).1) (Ev.conv_u8_u64 Try.underlying23 Try.underlying5 (.t rfl)) (congrArg U64 (cut8 (takeB_lt b p 1 (by omega))))) ?_)
    refine cons (opv (Ev.move (.t rfl)) ?_)
    refine cons (callv en28 (.cons (.t rfl) (.cons (.t rfl) (.cons (.c (v := I 1) rfl) (.cons (.t rfl) (.cons (.t rfl) .nil))))) (fun w I => taken_ok _ _ _ 1 w (by first | exact isSl_own (by repeat first | exact List.Mem.head _ | apply List.Mem.tail) w I | exact IsSl.keep0 (by assumption) I.keeps) hf (by omega)) ?_)
    refine cons (opv (Ev.not (.t rfl)) ?_)
    refine cons (opv (Ev.move (.t rfl)) ?_)
    refine cons (opg rfl rfl (Ev.move (.t rfl)) ?_)
    refine cons (opg rfl rfl (Ev.move (.t rfl)) ?_)
    refine cons (opg rfl rfl (Ev.move (.t rfl)) ?_)
    refine cons (opg rfl rfl (Ev.to (v' := U64 (takeB b p 2).1) (Ev.conv_u16_u64 Try.underlying23 Try.underlying27 (.g rfl id)) (congrArg U64 (cut16 (takeB_lt b p 2 (by omega))))) ?_)
    refine cons (opg rfl rfl (Ev.move (.t rfl)) ?_)
    refine cons (callg rfl rfl en28 (.cons (.g rfl id) (.cons (.g rfl id) (.cons (.c (v := I 2) rfl) (.cons (.g rfl id) (.cons (.g rfl id) .nil))))) (fun hg w I => taken_ok _ _ _ 2 w (by first | exact isSl_own (by repeat first | exact List.Mem.head _ | apply List.Mem.tail) w I | exact IsSl.keep0 (by assumption) I.keeps) hf (by omega)) ?_)
    refine cons (opg rfl rfl (Ev.not (.g rfl id)) ?_)
    refine cons (opv (Ev.pickO (.t rfl) (.c (v := .bool true) rfl) (fun {_} h => by cases h; rfl) ⟨_, rfl⟩ (by intro h1 h; first | (rw [h] <;> rfl) | (rw [h, h1] <;> rfl) | simp_all)) ?_)
    refine cons (opv (Ev.move (.t rfl)) ?_)
    refine cons (opg rfl rfl (Ev.move (.t rfl)) ?_)
    refine cons (opg rfl rfl (Ev.move (.t rfl)) ?_)
    refine cons (opg rfl rfl (Ev.move (.t rfl)) ?_)
    refine cons (opg rfl rfl (Ev.to (v' := U64 (takeB b p 4).1) (Ev.conv_u32_u64 Try.underlying23 Try.underlying29 (.g rfl id)) (congrArg U64 (cut32 (takeB_lt b p 4 (by omega))))) ?_)
    refine cons (opg rfl rfl (Ev.move (.t rfl)) ?_)
    refine cons (callg rfl rfl en28 (.cons (.g rfl id) (.cons (.g rfl id) (.cons (.c (v := I 4) rfl) (.cons (.g rfl id) (.cons (.g rfl id) .nil))))) (fun hg w I => taken_ok _ _ _ 4 w (by first | exact isSl_own (by repeat first | exact List.Mem.head _ | apply List.Mem.tail) w I | exact IsSl.keep0 (by assumption) I.keeps) hf (by omega)) ?_)
    refine cons (opg rfl rfl (Ev.not (.g rfl id)) ?_)
    refine cons (opv (Ev.pickO (.t rfl) (.c (v := .bool true) rfl) (fun {_} h => by cases h; rfl) ⟨_, rfl⟩ (by intro h1 h; first | (rw [h] <;> rfl) | (rw [h, h1] <;> rfl) | simp_all)) ?_)
    refine cons (opv (Ev.move (.t rfl)) ?_)
    refine cons (opg rfl rfl (Ev.move (.t rfl)) ?_)
    refine cons (opg rfl rfl (Ev.move (.t rfl)) ?_)
    refine cons (opg rfl rfl (Ev.move (.t rfl)) ?_)
    refine cons (opg rfl rfl (Ev.move (.t rfl)) ?_)
    refine cons (callg rfl rfl en28 (.cons (.g rfl id) (.cons (.g rfl id) (.cons (.c (v := I 8) rfl) (.cons (.g rfl id) (.cons (.g rfl id) .nil))))) (fun hg w I => taken_ok _ _ _ 8 w (by first | exact isSl_own (by repeat first | exact List.Mem.head _ | apply List.Mem.tail) w I | exact IsSl.keep0 (by assumption) I.keeps) hf (by omega)) ?_)
    refine cons (opg rfl rfl (Ev.not (.g rfl id)) ?_)
    refine cons (opv (Ev.pickO (.t rfl) (.c (v := .bool true) rfl) (fun {_} h => by cases h; rfl) ⟨_, rfl⟩ (by intro h1 h; first | (rw [h] <;> rfl) | (rw [h, h1] <;> rfl) | simp_all)) ?_)
    refine cons (opv (Ev.move (.t rfl)) ?_)
    refine cons (opg rfl rfl (Ev.move (.t rfl)) ?_)
    refine cons (opg rfl rfl (Ev.move (.t rfl)) ?_)
    refine cons (opg rfl rfl (Ev.move (.t rfl)) ?_)
    refine cons (opg rfl rfl (Ev.to (v' := U64 (takeB b p 2).1) (Ev.conv_u16_u64 Try.underlying23 Try.underlying32 (.g rfl id)) (congrArg U64 (cut16 (takeB_lt b p 2 (by omega))))) ?_)
    refine cons (opg rfl rfl (Ev.move (.t rfl)) ?_)
    refine cons (callg rfl rfl en28 (.cons (.g rfl id) (.cons (.g rfl id) (.cons (.c (v := I 2) rfl) (.cons (.g rfl id) (.cons (.g rfl id) .nil))))) (fun hg w I => taken_ok _ _ _ 2 w (by first | exact isSl_own (by repeat first | exact List.Mem.head _ | apply List.Mem.tail) w I | exact IsSl.keep0 (by assumption) I.keeps) hf (by omega)) ?_)
    refine cons (opg rfl rfl (Ev.not (.g rfl id)) ?_)
    refine cons (opv (Ev.pickO (.t rfl) (.c (v := .bool true) rfl) (fun {_} h => by cases h; rfl) ⟨_, rfl⟩ (by intro h1 h; first | (rw [h] <;> rfl) | (rw [h, h1] <;> rfl) | simp_all)) ?_)
    refine nil ?_
    refine pN ?_
    first | refine condD rfl (fun h2 => ?_) (fun h2 => ?_) | refine cond rfl (fun h2 => ?_) (fun h2 => ?_)
    · simp at h2
    · refine skip ?_
      refine bN ?_
      refine pN ?_
      refine region ?_
      refine cons (opv (Ev.move (.t rfl)) ?_)
      refine cons (opv (Ev.add_i (.t rfl) (.c (v := I 1) rfl) (fun _ => by omega)) ?_)
      refine cons (opv (Ev.assign (.t rfl)) ?_)
      refine nil ?_
      refine pN ?_
      refine next (X := Int) (i + 1) ?_ ?_ (by repeat first | exact Sub.nil | refine Sub.cons rfl ?_) (by repeat first | exact List.Sublist.refl _ | apply List.Sublist.cons_cons | apply List.Sublist.cons)
      · try dsimp only
        omega
      · try dsimp only
        omega
  · try simp only [Bool.and_eq_true, Bool.or_eq_true, Bool.or_eq_false_iff, Bool.and_eq_false_iff, Bool.not_eq_true', Bool.not_eq_false', decide_eq_true_eq, decide_eq_false_iff_not, Decidable.not_not] at h0
    refine exit ?_
    refine pX ?_
    refine pX ?_
    refine bX ?_
    refine pN ?_
    refine seq ?_
    refine region ?_
    refine cons (callv en22 .nil (fun w I => works_ok w) ?_)
    refine cons (opv (Ev.assign (.t rfl)) ?_)
    refine nil ?_
    refine pN ?_
    refine ret ?_
    refine done rfl (.tmp rfl .nil) (retE ?_)
    rfl
end Go.Proofs.Ytcmpdhggeilkfaa
