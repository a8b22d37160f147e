/- packet -/
import Derived.Test.YtegcihhhighipaaP13
set_option linter.unusedVariables false
set_option linter.unusedSimpArgs false
namespace Go.Proofs.Ytegcihhhighipaa
open Go Go.Gx

theorem pseudoB_le (h : SHeader) (n : Int) : (pseudoB h n).length ≤ 8 := by unfold pseudoB; cases h.src.v6 <;> simp
theorem subl_own {α : Type} {E : Enc α} {v : Value} {xs ys : List α} {T : TypeId} {L : List Res} (e : xs = ys) : [OwnS v E ys T].Sublist (OwnS v E xs T :: L) := by
  subst e
  exact List.cons_sublist_cons.2 (List.nil_sublist _)
theorem bodyB_zero (h : SHeader) (d : List UInt8) (s : UInt16) (h0 : midN h.proto = 0) : bodyB h d s = d := by
  unfold bodyB
  rcases midN_cases h.proto with _ | ⟨e, e2⟩ | ⟨e, e2⟩
  · unfold midN at h0
    split at h0
    · exact absurd h0 (by decide)
    · split at h0
      · exact absurd h0 (by decide)
      · rw [if_neg (by assumption), if_neg (by assumption)]
  · omega
  · omega
/-- What body hands back. -/
def RetB (w : World) (h : SHeader) (d : List UInt8) (s : UInt16) : Ending → World → Prop :=
  RetN w (fun o : OV => midN h.proto = 0 → o = h.data) (fun o => o.v) (fun o => if midN h.proto = 0 then [] else [OwnS o.v u8E (bodyB h d s) 5])
theorem isSl_body {K : Ctx} {L : List Res} {h : SHeader} {d : List UInt8} {s : UInt16} {o : OV} (hx : midN h.proto = 0 → o = h.data) (hm : ∀ r ∈ (if midN h.proto = 0 then [] else [OwnS o.v u8E (bodyB h d s) 5]), r ∈ L) (hd : ∀ w, WInv K L w → IsSl u8E w h.data.v d) (w : World) (I : WInv K L w) : IsSl u8E w o.v (bodyB h d s) := by
  by_cases h0 : midN h.proto = 0
  · rw [hx h0, bodyB_zero h d s h0]
    exact hd w I
  · exact isSl_own (hm _ (by rw [if_neg h0]; exact List.mem_cons_self)) w I

theorem en59 : Enters Try.prog 59 := Enters.mk' (by kernel_rfl)

theorem en43 : Enters Try.prog 43 := Enters.mk' (by kernel_rfl)

theorem rbody_ok (h : SHeader) (d : List UInt8) (s : UInt16) (w : World) (hd : IsSl u8E w h.data.v d) (hl : d.length ≤ 1000000) : Calls Try.prog 41 #[eHeader.val h, U16 s] w (RetB w h d s) := by
  refine enter0 53 Try.func41 rfl rfl (Nat.le_of_ble_eq_true rfl) ?_
  refine seq ?_
  refine region ?_
  refine cons (box (E := eHeader) (.t rfl) (fun b1 => ?_))
  refine cons (opv (Ev.assign (.c (v := (Go.Value.slice none 0 0)) rfl)) ?_)
  refine nil ?_
  refine pN ?_
  refine seq ?_
  refine draw' (by kernel_rfl) ?_
  refine take 0 rfl (by kernel_rfl) (by kernel_rfl) (by kernel_rfl) (by repeat first | exact sR | exact sN | apply sC | apply sS | apply sA) (Ev.fieldAddr (o := 35) (.t rfl) (by kernel_rfl)) ?_
  refine take 1 rfl (by kernel_rfl) (by kernel_rfl) (by kernel_rfl) (by repeat first | exact sR | exact sN | apply sC | apply sS | apply sA) (Ev.load (xv := h.srcPort) ty25 (.t rfl) (ptsVar (by repeat first | exact mH | apply mT | apply mA) SHeader.l_srcPort)) ?_
  refine take 2 rfl (by kernel_rfl) (by kernel_rfl) (by kernel_rfl) (by repeat first | exact sR | exact sN | apply sC | apply sS | apply sA) (Ev.conv_u16_i Try.underlying3 Try.underlying25 (.t rfl)) ?_
  refine take 4 rfl (by kernel_rfl) (by kernel_rfl) (by kernel_rfl) (by repeat first | exact sR | exact sN | apply sC | apply sS | apply sA) (Ev.fieldAddr (o := 36) (.t rfl) (by kernel_rfl)) ?_
  refine take 5 rfl (by kernel_rfl) (by kernel_rfl) (by kernel_rfl) (by repeat first | exact sR | exact sN | apply sC | apply sS | apply sA) (Ev.load (xv := h.dstPort) ty25 (.t rfl) (ptsVar (by repeat first | exact mH | apply mT | apply mA) SHeader.l_dstPort)) ?_
  refine take 6 rfl (by kernel_rfl) (by kernel_rfl) (by kernel_rfl) (by repeat first | exact sR | exact sN | apply sC | apply sS | apply sA) (Ev.conv_u16_i Try.underlying3 Try.underlying25 (.t rfl)) ?_
  refine all [3] (by kernel_rfl) (by decide) (.cons rfl ?_ .nil)
  refine (callo en59 (.cons (.t rfl) .nil) (fun w I => rtwo_ok _ w) (fun v2 => ?_))
  refine heldN_of (by repeat first | exact sR | exact sN | apply sC | apply sS | apply sA) ?_
  refine all [7] (by kernel_rfl) (by decide) (.cons rfl ?_ .nil)
  refine (callo en59 (.cons (.t rfl) .nil) (fun w I => rtwo_ok _ w) (fun v3 => ?_))
  refine heldN_of (by repeat first | exact sR | exact sN | apply sC | apply sS | apply sA) ?_
  refine all [8] (by kernel_rfl) (by decide) (.cons rfl ?_ .nil)
  refine (buildSlice (E := (ovE nilSl)) Try.underlying79 ty27 z27 (.cons (.t rfl) (.cons (.t rfl) .nil)) rfl rfl (fun v4 => ?_))
  refine heldN_of (by repeat first | exact sR | exact sN | apply sC | apply sS | apply sA) ?_
  refine all [9] (by kernel_rfl) (by decide) (.cons rfl ?_ .nil)
  refine (callo en43 (.cons (.t rfl) .nil) (fun w I => join_ok _ _ w (IsSS.mk' (isSl_own (by repeat first | exact mH | apply mT | apply mA) w I) (.cons (isSl_own (by repeat first | exact mH | apply mT | apply mA) w I) (.cons (isSl_own (by repeat first | exact mH | apply mT | apply mA) w I) .nil))) (by simp [putB_length]; try omega)) (fun v5 => ?_))
  refine heldN_of (by repeat first | exact sR | exact sN | apply sC | apply sS | apply sA) ?_
  refine take 10 rfl (by kernel_rfl) (by kernel_rfl) (by kernel_rfl) (by repeat first | exact sR | exact sN | apply sC | apply sS | apply sA) (Ev.assign (.t rfl)) ?_
  refine over (by kernel_rfl) ?_
  refine pN ?_
  refine seq ?_
  refine seq ?_
  refine region ?_
  refine cons (opv (Ev.fieldAddr (o := 34) (.t rfl) (by kernel_rfl)) ?_)
  refine cons (opv (Ev.load (xv := h.proto) ty5 (.t rfl) (ptsVar (by repeat first | exact mH | apply mT | apply mA) SHeader.l_proto)) ?_)
  refine nil ?_
  refine pN ?_
  refine block ?_
  refine seq ?_
  refine region ?_
  refine cons (opv (Ev.eql_u8 (.t rfl) (.c (v := U8 6) rfl)) ?_)
  refine cons (opv (Ev.assign (.t rfl)) ?_)
  refine nil ?_
  refine pN ?_
  first | refine condD rfl (fun h0 => ?_) (fun h0 => ?_) | refine cond rfl (fun h0 => ?_) (fun h0 => ?_)
  · try simp only [Bool.and_eq_true, Bool.or_eq_true, Bool.or_eq_false_iff, Bool.and_eq_false_iff, Bool.not_eq_true', Bool.not_eq_false', decide_eq_true_eq, decide_eq_false_iff_not, Decidable.not_not] at h0
    refine seq ?_
    refine draw' (by kernel_rfl) ?_
    refine take 0 rfl (by kernel_rfl) (by kernel_rfl) (by kernel_rfl) (by repeat first | exact sR | exact sN | apply sC | apply sS | apply sA) (Ev.move (.t rfl)) ?_
    refine take 1 rfl (by kernel_rfl) (by kernel_rfl) (by kernel_rfl) (by repeat first | exact sR | exact sN | apply sC | apply sS | apply sA) (Ev.fieldAddr (o := 41) (.t rfl) (by kernel_rfl)) ?_
    refine take 2 rfl (by kernel_rfl) (by kernel_rfl) (by kernel_rfl) (by repeat first | exact sR | exact sN | apply sC | apply sS | apply sA) (Ev.load (xv := h.seq) ty26 (.t rfl) (ptsVar (by repeat first | exact mH | apply mT | apply mA) SHeader.l_seq)) ?_
    refine take 3 rfl (by kernel_rfl) (by kernel_rfl) (by kernel_rfl) (by repeat first | exact sR | exact sN | apply sC | apply sS | apply sA) (Ev.conv_u32_u64 Try.underlying66 Try.underlying26 (.t rfl)) ?_
    refine take 5 rfl (by kernel_rfl) (by kernel_rfl) (by kernel_rfl) (by repeat first | exact sR | exact sN | apply sC | apply sS | apply sA) (Ev.fieldAddr (o := 40) (.t rfl) (by kernel_rfl)) ?_
    refine take 6 rfl (by kernel_rfl) (by kernel_rfl) (by kernel_rfl) (by repeat first | exact sR | exact sN | apply sC | apply sS | apply sA) (Ev.load (xv := h.flags) ty5 (.t rfl) (ptsVar (by repeat first | exact mH | apply mT | apply mA) SHeader.l_flags)) ?_
    refine take 8 rfl (by kernel_rfl) (by kernel_rfl) (by kernel_rfl) (by repeat first | exact sR | exact sN | apply sC | apply sS | apply sA) (Ev.move (.t rfl)) ?_
    refine take 9 rfl (by kernel_rfl) (by kernel_rfl) (by kernel_rfl) (by repeat first | exact sR | exact sN | apply sC | apply sS | apply sA) (Ev.conv_u16_i Try.underlying3 Try.underlying25 (.t rfl)) ?_
    refine take 12 rfl (by kernel_rfl) (by kernel_rfl) (by kernel_rfl) (by repeat first | exact sR | exact sN | apply sC | apply sS | apply sA) (Ev.fieldAddr (o := 42) (.t rfl) (by kernel_rfl)) ?_
    refine take 13 rfl (by kernel_rfl) (by kernel_rfl) (by kernel_rfl) (by repeat first | exact sR | exact sN | apply sC | apply sS | apply sA) (Ev.load (xv := h.data) ty27 (.t rfl) (ptsVar (by repeat first | exact mH | apply mT | apply mA) SHeader.l_data)) ?_
    refine all [4, 7, 11] (by kernel_rfl) (by decide) (.cons rfl ?_ (.cons rfl ?_ (.cons rfl ?_ .nil)))
    · refine (callo en44 (.cons (.t rfl) (.cons (.c (v := I 4) rfl) .nil)) (fun w I => bytes_ok _ _ w (by decide)) (fun v6 => ?_))
      refine heldN_of (by repeat first | exact sR | exact sN | apply sC | apply sS | apply sA) ?_
      refine all [7, 10, 11] (by kernel_rfl) (by decide) (.cons rfl ?_ (.cons rfl ?_ (.cons rfl ?_ .nil)))
      · refine (buildSlice (E := u8E) Try.underlying27 ty5 z5 (.cons (.c (v := U8 0) rfl) (.cons (.c (v := U8 0) rfl) (.cons (.c (v := U8 0) rfl) (.cons (.c (v := U8 0) rfl) (.cons (.c (v := U8 80) rfl) (.cons (.t rfl) (.cons (.c (v := U8 255) rfl) (.cons (.c (v := U8 255) rfl) .nil)))))))) rfl rfl (fun v7 => ?_))
        refine heldN_of (by repeat first | exact sR | exact sN | apply sC | apply sS | apply sA) ?_
        refine all [10, 11] (by kernel_rfl) (by decide) (.cons rfl ?_ (.cons rfl ?_ .nil))
        · refine (callo en59 (.cons (.t rfl) .nil) (fun w I => rtwo_ok _ w) (fun v8 => ?_))
          refine heldN_of (by repeat first | exact sR | exact sN | apply sC | apply sS | apply sA) ?_
          refine all [11] (by kernel_rfl) (by decide) (.cons rfl ?_ .nil)
          refine (buildSlice (E := u8E) Try.underlying27 ty5 z5 (.cons (.c (v := U8 0) rfl) (.cons (.c (v := U8 0) rfl) .nil)) rfl rfl (fun v9 => ?_))
          refine heldN_of (by repeat first | exact sR | exact sN | apply sC | apply sS | apply sA) ?_
          refine all [14] (by kernel_rfl) (by decide) (.cons rfl ?_ .nil)
          refine (buildSlice (E := (ovE nilSl)) Try.underlying79 ty27 z27 (.cons (.t rfl) (.cons (.t rfl) (.cons (.t rfl) (.cons (.t rfl) (.cons (.t rfl) (.cons (.t rfl) .nil)))))) rfl rfl (fun v10 => ?_))
          refine heldN_of (by repeat first | exact sR | exact sN | apply sC | apply sS | apply sA) ?_
          refine all [15] (by kernel_rfl) (by decide) (.cons rfl ?_ .nil)
          refine (callo en43 (.cons (.t rfl) .nil) (fun w I => join_ok _ _ w (IsSS.mk' (isSl_own (by repeat first | exact mH | apply mT | apply mA) w I) (.cons (isSl_own (by repeat first | exact mH | apply mT | apply mA) w I) (.cons (isSl_own (by repeat first | exact mH | apply mT | apply mA) w I) (.cons (isSl_own (by repeat first | exact mH | apply mT | apply mA) w I) (.cons (isSl_own (by repeat first | exact mH | apply mT | apply mA) w I) (.cons (isSl_own (by repeat first | exact mH | apply mT | apply mA) w I) (.cons (hd.keep0 I.keeps) .nil))))))) (by simp [putB_length]; try omega)) (fun v11 => ?_))
          refine heldN_of (by repeat first | exact sR | exact sN | apply sC | apply sS | apply sA) ?_
          refine take 16 rfl (by kernel_rfl) (by kernel_rfl) (by kernel_rfl) (by repeat first | exact sR | exact sN | apply sC | apply sS | apply sA) (Ev.assign (.t rfl)) ?_
          refine over (by kernel_rfl) ?_
          refine pN ?_
          refine ret ?_
          refine bR ?_
          refine pR ?_
          refine done rfl (.tmp rfl .nil) (fun w I => ?_)
          have hm : ¬ midN h.proto = 0 := by unfold midN; rw [if_pos h0]; decide
          exact retN v11 (fun k => absurd k hm) rfl (by rw [if_neg hm]; exact subl_own (by unfold bodyB; rw [if_pos h0]; simp only [List.flatten_cons, List.flatten_nil, List.append_nil, List.append_assoc, ofInt16, putB2_int])) w I
        · refine (buildSlice (E := u8E) Try.underlying27 ty5 z5 (.cons (.c (v := U8 0) rfl) (.cons (.c (v := U8 0) rfl) .nil)) rfl rfl (fun v12 => ?_))
          refine heldN_of (by repeat first | exact sR | exact sN | apply sC | apply sS | apply sA) ?_
          refine all [10] (by kernel_rfl) (by decide) (.cons rfl ?_ .nil)
          refine (callo en59 (.cons (.t rfl) .nil) (fun w I => rtwo_ok _ w) (fun v13 => ?_))
          refine heldN_of (by repeat first | exact sR | exact sN | apply sC | apply sS | apply sA) ?_
          refine all [14] (by kernel_rfl) (by decide) (.cons rfl ?_ .nil)
          refine (buildSlice (E := (ovE nilSl)) Try.underlying79 ty27 z27 (.cons (.t rfl) (.cons (.t rfl) (.cons (.t rfl) (.cons (.t rfl) (.cons (.t rfl) (.cons (.t rfl) .nil)))))) rfl rfl (fun v14 => ?_))
          refine heldN_of (by repeat first | exact sR | exact sN | apply sC | apply sS | apply sA) ?_
          refine all [15] (by kernel_rfl) (by decide) (.cons rfl ?_ .nil)
          refine (callo en43 (.cons (.t rfl) .nil) (fun w I => join_ok _ _ w (IsSS.mk' (isSl_own (by repeat first | exact mH | apply mT | apply mA) w I) (.cons (isSl_own (by repeat first | exact mH | apply mT | apply mA) w I) (.cons (isSl_own (by repeat first | exact mH | apply mT | apply mA) w I) (.cons (isSl_own (by repeat first | exact mH | apply mT | apply mA) w I) (.cons (isSl_own (by repeat first | exact mH | apply mT | apply mA) w I) (.cons (isSl_own (by repeat first | exact mH | apply mT | apply mA) w I) (.cons (hd.keep0 I.keeps) .nil))))))) (by simp [putB_length]; try omega)) (fun v15 => ?_))
          refine heldN_of (by repeat first | exact sR | exact sN | apply sC | apply sS | apply sA) ?_
          refine take 16 rfl (by kernel_rfl) (by kernel_rfl) (by kernel_rfl) (by repeat first | exact sR | exact sN | apply sC | apply sS | apply sA) (Ev.assign (.t rfl)) ?_
          refine over (by kernel_rfl) ?_
          refine pN ?_
          refine ret ?_
          refine bR ?_
          refine pR ?_
          refine done rfl (.tmp rfl .nil) (fun w I => ?_)
          have hm : ¬ midN h.proto = 0 := by unfold midN; rw [if_pos h0]; decide
          exact retN v15 (fun k => absurd k hm) rfl (by rw [if_neg hm]; exact subl_own (by unfold bodyB; rw [if_pos h0]; simp only [List.flatten_cons, List.flatten_nil, List.append_nil, List.append_assoc, ofInt16, putB2_int])) w I
      · refine (callo en59 (.cons (.t rfl) .nil) (fun w I => rtwo_ok _ w) (fun v16 => ?_))
        refine heldN_of (by repeat first | exact sR | exact sN | apply sC | apply sS | apply sA) ?_
        refine all [7, 11] (by kernel_rfl) (by decide) (.cons rfl ?_ (.cons rfl ?_ .nil))
        · refine (buildSlice (E := u8E) Try.underlying27 ty5 z5 (.cons (.c (v := U8 0) rfl) (.cons (.c (v := U8 0) rfl) (.cons (.c (v := U8 0) rfl) (.cons (.c (v := U8 0) rfl) (.cons (.c (v := U8 80) rfl) (.cons (.t rfl) (.cons (.c (v := U8 255) rfl) (.cons (.c (v := U8 255) rfl) .nil)))))))) rfl rfl (fun v17 => ?_))
          refine heldN_of (by repeat first | exact sR | exact sN | apply sC | apply sS | apply sA) ?_
          refine all [11] (by kernel_rfl) (by decide) (.cons rfl ?_ .nil)
          refine (buildSlice (E := u8E) Try.underlying27 ty5 z5 (.cons (.c (v := U8 0) rfl) (.cons (.c (v := U8 0) rfl) .nil)) rfl rfl (fun v18 => ?_))
          refine heldN_of (by repeat first | exact sR | exact sN | apply sC | apply sS | apply sA) ?_
          refine all [14] (by kernel_rfl) (by decide) (.cons rfl ?_ .nil)
          refine (buildSlice (E := (ovE nilSl)) Try.underlying79 ty27 z27 (.cons (.t rfl) (.cons (.t rfl) (.cons (.t rfl) (.cons (.t rfl) (.cons (.t rfl) (.cons (.t rfl) .nil)))))) rfl rfl (fun v19 => ?_))
          refine heldN_of (by repeat first | exact sR | exact sN | apply sC | apply sS | apply sA) ?_
          refine all [15] (by kernel_rfl) (by decide) (.cons rfl ?_ .nil)
          refine (callo en43 (.cons (.t rfl) .nil) (fun w I => join_ok _ _ w (IsSS.mk' (isSl_own (by repeat first | exact mH | apply mT | apply mA) w I) (.cons (isSl_own (by repeat first | exact mH | apply mT | apply mA) w I) (.cons (isSl_own (by repeat first | exact mH | apply mT | apply mA) w I) (.cons (isSl_own (by repeat first | exact mH | apply mT | apply mA) w I) (.cons (isSl_own (by repeat first | exact mH | apply mT | apply mA) w I) (.cons (isSl_own (by repeat first | exact mH | apply mT | apply mA) w I) (.cons (hd.keep0 I.keeps) .nil))))))) (by simp [putB_length]; try omega)) (fun v20 => ?_))
          refine heldN_of (by repeat first | exact sR | exact sN | apply sC | apply sS | apply sA) ?_
          refine take 16 rfl (by kernel_rfl) (by kernel_rfl) (by kernel_rfl) (by repeat first | exact sR | exact sN | apply sC | apply sS | apply sA) (Ev.assign (.t rfl)) ?_
          refine over (by kernel_rfl) ?_
          refine pN ?_
          refine ret ?_
          refine bR ?_
          refine pR ?_
          refine done rfl (.tmp rfl .nil) (fun w I => ?_)
          have hm : ¬ midN h.proto = 0 := by unfold midN; rw [if_pos h0]; decide
          exact retN v20 (fun k => absurd k hm) rfl (by rw [if_neg hm]; exact subl_own (by unfold bodyB; rw [if_pos h0]; simp only [List.flatten_cons, List.flatten_nil, List.append_nil, List.append_assoc, ofInt16, putB2_int])) w I
        · refine (buildSlice (E := u8E) Try.underlying27 ty5 z5 (.cons (.c (v := U8 0) rfl) (.cons (.c (v := U8 0) rfl) .nil)) rfl rfl (fun v21 => ?_))
          refine heldN_of (by repeat first | exact sR | exact sN | apply sC | apply sS | apply sA) ?_
          refine all [7] (by kernel_rfl) (by decide) (.cons rfl ?_ .nil)
          refine (buildSlice (E := u8E) Try.underlying27 ty5 z5 (.cons (.c (v := U8 0) rfl) (.cons (.c (v := U8 0) rfl) (.cons (.c (v := U8 0) rfl) (.cons (.c (v := U8 0) rfl) (.cons (.c (v := U8 80) rfl) (.cons (.t rfl) (.cons (.c (v := U8 255) rfl) (.cons (.c (v := U8 255) rfl) .nil)))))))) rfl rfl (fun v22 => ?_))
          refine heldN_of (by repeat first | exact sR | exact sN | apply sC | apply sS | apply sA) ?_
          refine all [14] (by kernel_rfl) (by decide) (.cons rfl ?_ .nil)
          refine (buildSlice (E := (ovE nilSl)) Try.underlying79 ty27 z27 (.cons (.t rfl) (.cons (.t rfl) (.cons (.t rfl) (.cons (.t rfl) (.cons (.t rfl) (.cons (.t rfl) .nil)))))) rfl rfl (fun v23 => ?_))
          refine heldN_of (by repeat first | exact sR | exact sN | apply sC | apply sS | apply sA) ?_
          refine all [15] (by kernel_rfl) (by decide) (.cons rfl ?_ .nil)
          refine (callo en43 (.cons (.t rfl) .nil) (fun w I => join_ok _ _ w (IsSS.mk' (isSl_own (by repeat first | exact mH | apply mT | apply mA) w I) (.cons (isSl_own (by repeat first | exact mH | apply mT | apply mA) w I) (.cons (isSl_own (by repeat first | exact mH | apply mT | apply mA) w I) (.cons (isSl_own (by repeat first | exact mH | apply mT | apply mA) w I) (.cons (isSl_own (by repeat first | exact mH | apply mT | apply mA) w I) (.cons (isSl_own (by repeat first | exact mH | apply mT | apply mA) w I) (.cons (hd.keep0 I.keeps) .nil))))))) (by simp [putB_length]; try omega)) (fun v24 => ?_))
          refine heldN_of (by repeat first | exact sR | exact sN | apply sC | apply sS | apply sA) ?_
          refine take 16 rfl (by kernel_rfl) (by kernel_rfl) (by kernel_rfl) (by repeat first | exact sR | exact sN | apply sC | apply sS | apply sA) (Ev.assign (.t rfl)) ?_
          refine over (by kernel_rfl) ?_
          refine pN ?_
          refine ret ?_
          refine bR ?_
          refine pR ?_
          refine done rfl (.tmp rfl .nil) (fun w I => ?_)
          have hm : ¬ midN h.proto = 0 := by unfold midN; rw [if_pos h0]; decide
          exact retN v24 (fun k => absurd k hm) rfl (by rw [if_neg hm]; exact subl_own (by unfold bodyB; rw [if_pos h0]; simp only [List.flatten_cons, List.flatten_nil, List.append_nil, List.append_assoc, ofInt16, putB2_int])) w I
      · refine (buildSlice (E := u8E) Try.underlying27 ty5 z5 (.cons (.c (v := U8 0) rfl) (.cons (.c (v := U8 0) rfl) .nil)) rfl rfl (fun v25 => ?_))
        refine heldN_of (by repeat first | exact sR | exact sN | apply sC | apply sS | apply sA) ?_
        refine all [7, 10] (by kernel_rfl) (by decide) (.cons rfl ?_ (.cons rfl ?_ .nil))
        · refine (buildSlice (E := u8E) Try.underlying27 ty5 z5 (.cons (.c (v := U8 0) rfl) (.cons (.c (v := U8 0) rfl) (.cons (.c (v := U8 0) rfl) (.cons (.c (v := U8 0) rfl) (.cons (.c (v := U8 80) rfl) (.cons (.t rfl) (.cons (.c (v := U8 255) rfl) (.cons (.c (v := U8 255) rfl) .nil)))))))) rfl rfl (fun v26 => ?_))
          refine heldN_of (by repeat first | exact sR | exact sN | apply sC | apply sS | apply sA) ?_
          refine all [10] (by kernel_rfl) (by decide) (.cons rfl ?_ .nil)
          refine (callo en59 (.cons (.t rfl) .nil) (fun w I => rtwo_ok _ w) (fun v27 => ?_))
          refine heldN_of (by repeat first | exact sR | exact sN | apply sC | apply sS | apply sA) ?_
          refine all [14] (by kernel_rfl) (by decide) (.cons rfl ?_ .nil)
          refine (buildSlice (E := (ovE nilSl)) Try.underlying79 ty27 z27 (.cons (.t rfl) (.cons (.t rfl) (.cons (.t rfl) (.cons (.t rfl) (.cons (.t rfl) (.cons (.t rfl) .nil)))))) rfl rfl (fun v28 => ?_))
          refine heldN_of (by repeat first | exact sR | exact sN | apply sC | apply sS | apply sA) ?_
          refine all [15] (by kernel_rfl) (by decide) (.cons rfl ?_ .nil)
          refine (callo en43 (.cons (.t rfl) .nil) (fun w I => join_ok _ _ w (IsSS.mk' (isSl_own (by repeat first | exact mH | apply mT | apply mA) w I) (.cons (isSl_own (by repeat first | exact mH | apply mT | apply mA) w I) (.cons (isSl_own (by repeat first | exact mH | apply mT | apply mA) w I) (.cons (isSl_own (by repeat first | exact mH | apply mT | apply mA) w I) (.cons (isSl_own (by repeat first | exact mH | apply mT | apply mA) w I) (.cons (isSl_own (by repeat first | exact mH | apply mT | apply mA) w I) (.cons (hd.keep0 I.keeps) .nil))))))) (by simp [putB_length]; try omega)) (fun v29 => ?_))
          refine heldN_of (by repeat first | exact sR | exact sN | apply sC | apply sS | apply sA) ?_
          refine take 16 rfl (by kernel_rfl) (by kernel_rfl) (by kernel_rfl) (by repeat first | exact sR | exact sN | apply sC | apply sS | apply sA) (Ev.assign (.t rfl)) ?_
          refine over (by kernel_rfl) ?_
          refine pN ?_
          refine ret ?_
          refine bR ?_
          refine pR ?_
          refine done rfl (.tmp rfl .nil) (fun w I => ?_)
          have hm : ¬ midN h.proto = 0 := by unfold midN; rw [if_pos h0]; decide
          exact retN v29 (fun k => absurd k hm) rfl (by rw [if_neg hm]; exact subl_own (by unfold bodyB; rw [if_pos h0]; simp only [List.flatten_cons, List.flatten_nil, List.append_nil, List.append_assoc, ofInt16, putB2_int])) w I
        · refine (callo en59 (.cons (.t rfl) .nil) (fun w I => rtwo_ok _ w) (fun v30 => ?_))
          refine heldN_of (by repeat first | exact sR | exact sN | apply sC | apply sS | apply sA) ?_
          refine all [7] (by kernel_rfl) (by decide) (.cons rfl ?_ .nil)
          refine (buildSlice (E := u8E) Try.underlying27 ty5 z5 (.cons (.c (v := U8 0) rfl) (.cons (.c (v := U8 0) rfl) (.cons (.c (v := U8 0) rfl) (.cons (.c (v := U8 0) rfl) (.cons (.c (v := U8 80) rfl) (.cons (.t rfl) (.cons (.c (v := U8 255) rfl) (.cons (.c (v := U8 255) rfl) .nil)))))))) rfl rfl (fun v31 => ?_))
          refine heldN_of (by repeat first | exact sR | exact sN | apply sC | apply sS | apply sA) ?_
          refine all [14] (by kernel_rfl) (by decide) (.cons rfl ?_ .nil)
          refine (buildSlice (E := (ovE nilSl)) Try.underlying79 ty27 z27 (.cons (.t rfl) (.cons (.t rfl) (.cons (.t rfl) (.cons (.t rfl) (.cons (.t rfl) (.cons (.t rfl) .nil)))))) rfl rfl (fun v32 => ?_))
          refine heldN_of (by repeat first | exact sR | exact sN | apply sC | apply sS | apply sA) ?_
          refine all [15] (by kernel_rfl) (by decide) (.cons rfl ?_ .nil)
          refine (callo en43 (.cons (.t rfl) .nil) (fun w I => join_ok _ _ w (IsSS.mk' (isSl_own (by repeat first | exact mH | apply mT | apply mA) w I) (.cons (isSl_own (by repeat first | exact mH | apply mT | apply mA) w I) (.cons (isSl_own (by repeat first | exact mH | apply mT | apply mA) w I) (.cons (isSl_own (by repeat first | exact mH | apply mT | apply mA) w I) (.cons (isSl_own (by repeat first | exact mH | apply mT | apply mA) w I) (.cons (isSl_own (by repeat first | exact mH | apply mT | apply mA) w I) (.cons (hd.keep0 I.keeps) .nil))))))) (by simp [putB_length]; try omega)) (fun v33 => ?_))
          refine heldN_of (by repeat first | exact sR | exact sN | apply sC | apply sS | apply sA) ?_
          refine take 16 rfl (by kernel_rfl) (by kernel_rfl) (by kernel_rfl) (by repeat first | exact sR | exact sN | apply sC | apply sS | apply sA) (Ev.assign (.t rfl)) ?_
          refine over (by kernel_rfl) ?_
          refine pN ?_
          refine ret ?_
          refine bR ?_
          refine pR ?_
          refine done rfl (.tmp rfl .nil) (fun w I => ?_)
          have hm : ¬ midN h.proto = 0 := by unfold midN; rw [if_pos h0]; decide
          exact retN v33 (fun k => absurd k hm) rfl (by rw [if_neg hm]; exact subl_own (by unfold bodyB; rw [if_pos h0]; simp only [List.flatten_cons, List.flatten_nil, List.append_nil, List.append_assoc, ofInt16, putB2_int])) w I
    · refine (buildSlice (E := u8E) Try.underlying27 ty5 z5 (.cons (.c (v := U8 0) rfl) (.cons (.c (v := U8 0) rfl) (.cons (.c (v := U8 0) rfl) (.cons (.c (v := U8 0) rfl) (.cons (.c (v := U8 80) rfl) (.cons (.t rfl) (.cons (.c (v := U8 255) rfl) (.cons (.c (v := U8 255) rfl) .nil)))))))) rfl rfl (fun v34 => ?_))
      refine heldN_of (by repeat first | exact sR | exact sN | apply sC | apply sS | apply sA) ?_
      refine all [4, 11] (by kernel_rfl) (by decide) (.cons rfl ?_ (.cons rfl ?_ .nil))
      · refine (callo en44 (.cons (.t rfl) (.cons (.c (v := I 4) rfl) .nil)) (fun w I => bytes_ok _ _ w (by decide)) (fun v35 => ?_))
        refine heldN_of (by repeat first | exact sR | exact sN | apply sC | apply sS | apply sA) ?_
        refine all [10, 11] (by kernel_rfl) (by decide) (.cons rfl ?_ (.cons rfl ?_ .nil))
        · refine (callo en59 (.cons (.t rfl) .nil) (fun w I => rtwo_ok _ w) (fun v36 => ?_))
          refine heldN_of (by repeat first | exact sR | exact sN | apply sC | apply sS | apply sA) ?_
          refine all [11] (by kernel_rfl) (by decide) (.cons rfl ?_ .nil)
          refine (buildSlice (E := u8E) Try.underlying27 ty5 z5 (.cons (.c (v := U8 0) rfl) (.cons (.c (v := U8 0) rfl) .nil)) rfl rfl (fun v37 => ?_))
          refine heldN_of (by repeat first | exact sR | exact sN | apply sC | apply sS | apply sA) ?_
          refine all [14] (by kernel_rfl) (by decide) (.cons rfl ?_ .nil)
          refine (buildSlice (E := (ovE nilSl)) Try.underlying79 ty27 z27 (.cons (.t rfl) (.cons (.t rfl) (.cons (.t rfl) (.cons (.t rfl) (.cons (.t rfl) (.cons (.t rfl) .nil)))))) rfl rfl (fun v38 => ?_))
          refine heldN_of (by repeat first | exact sR | exact sN | apply sC | apply sS | apply sA) ?_
          refine all [15] (by kernel_rfl) (by decide) (.cons rfl ?_ .nil)
          refine (callo en43 (.cons (.t rfl) .nil) (fun w I => join_ok _ _ w (IsSS.mk' (isSl_own (by repeat first | exact mH | apply mT | apply mA) w I) (.cons (isSl_own (by repeat first | exact mH | apply mT | apply mA) w I) (.cons (isSl_own (by repeat first | exact mH | apply mT | apply mA) w I) (.cons (isSl_own (by repeat first | exact mH | apply mT | apply mA) w I) (.cons (isSl_own (by repeat first | exact mH | apply mT | apply mA) w I) (.cons (isSl_own (by repeat first | exact mH | apply mT | apply mA) w I) (.cons (hd.keep0 I.keeps) .nil))))))) (by simp [putB_length]; try omega)) (fun v39 => ?_))
          refine heldN_of (by repeat first | exact sR | exact sN | apply sC | apply sS | apply sA) ?_
          refine take 16 rfl (by kernel_rfl) (by kernel_rfl) (by kernel_rfl) (by repeat first | exact sR | exact sN | apply sC | apply sS | apply sA) (Ev.assign (.t rfl)) ?_
          refine over (by kernel_rfl) ?_
          refine pN ?_
          refine ret ?_
          refine bR ?_
          refine pR ?_
          refine done rfl (.tmp rfl .nil) (fun w I => ?_)
          have hm : ¬ midN h.proto = 0 := by unfold midN; rw [if_pos h0]; decide
          exact retN v39 (fun k => absurd k hm) rfl (by rw [if_neg hm]; exact subl_own (by unfold bodyB; rw [if_pos h0]; simp only [List.flatten_cons, List.flatten_nil, List.append_nil, List.append_assoc, ofInt16, putB2_int])) w I
        · refine (buildSlice (E := u8E) Try.underlying27 ty5 z5 (.cons (.c (v := U8 0) rfl) (.cons (.c (v := U8 0) rfl) .nil)) rfl rfl (fun v40 => ?_))
          refine heldN_of (by repeat first | exact sR | exact sN | apply sC | apply sS | apply sA) ?_
          refine all [10] (by kernel_rfl) (by decide) (.cons rfl ?_ .nil)
          refine (callo en59 (.cons (.t rfl) .nil) (fun w I => rtwo_ok _ w) (fun v41 => ?_))
          refine heldN_of (by repeat first | exact sR | exact sN | apply sC | apply sS | apply sA) ?_
          refine all [14] (by kernel_rfl) (by decide) (.cons rfl ?_ .nil)
          refine (buildSlice (E := (ovE nilSl)) Try.underlying79 ty27 z27 (.cons (.t rfl) (.cons (.t rfl) (.cons (.t rfl) (.cons (.t rfl) (.cons (.t rfl) (.cons (.t rfl) .nil)))))) rfl rfl (fun v42 => ?_))
          refine heldN_of (by repeat first | exact sR | exact sN | apply sC | apply sS | apply sA) ?_
          refine all [15] (by kernel_rfl) (by decide) (.cons rfl ?_ .nil)
          refine (callo en43 (.cons (.t rfl) .nil) (fun w I => join_ok _ _ w (IsSS.mk' (isSl_own (by repeat first | exact mH | apply mT | apply mA) w I) (.cons (isSl_own (by repeat first | exact mH | apply mT | apply mA) w I) (.cons (isSl_own (by repeat first | exact mH | apply mT | apply mA) w I) (.cons (isSl_own (by repeat first | exact mH | apply mT | apply mA) w I) (.cons (isSl_own (by repeat first | exact mH | apply mT | apply mA) w I) (.cons (isSl_own (by repeat first | exact mH | apply mT | apply mA) w I) (.cons (hd.keep0 I.keeps) .nil))))))) (by simp [putB_length]; try omega)) (fun v43 => ?_))
          refine heldN_of (by repeat first | exact sR | exact sN | apply sC | apply sS | apply sA) ?_
          refine take 16 rfl (by kernel_rfl) (by kernel_rfl) (by kernel_rfl) (by repeat first | exact sR | exact sN | apply sC | apply sS | apply sA) (Ev.assign (.t rfl)) ?_
          refine over (by kernel_rfl) ?_
          refine pN ?_
          refine ret ?_
          refine bR ?_
          refine pR ?_
          refine done rfl (.tmp rfl .nil) (fun w I => ?_)
          have hm : ¬ midN h.proto = 0 := by unfold midN; rw [if_pos h0]; decide
          exact retN v43 (fun k => absurd k hm) rfl (by rw [if_neg hm]; exact subl_own (by unfold bodyB; rw [if_pos h0]; simp only [List.flatten_cons, List.flatten_nil, List.append_nil, List.append_assoc, ofInt16, putB2_int])) w I
      · refine (buildSlice (E := u8E) Try.underlying27 ty5 z5 (.cons (.c (v := U8 0) rfl) (.cons (.c (v := U8 0) rfl) .nil)) rfl rfl (fun v44 => ?_))
        refine heldN_of (by repeat first | exact sR | exact sN | apply sC | apply sS | apply sA) ?_
        refine all [4] (by kernel_rfl) (by decide) (.cons rfl ?_ .nil)
        refine (callo en44 (.cons (.t rfl) (.cons (.c (v := I 4) rfl) .nil)) (fun w I => bytes_ok _ _ w (by decide)) (fun v45 => ?_))
        refine heldN_of (by repeat first | exact sR | exact sN | apply sC | apply sS | apply sA) ?_
        refine all [10] (by kernel_rfl) (by decide) (.cons rfl ?_ .nil)
        refine (callo en59 (.cons (.t rfl) .nil) (fun w I => rtwo_ok _ w) (fun v46 => ?_))
        refine heldN_of (by repeat first | exact sR | exact sN | apply sC | apply sS | apply sA) ?_
        refine all [14] (by kernel_rfl) (by decide) (.cons rfl ?_ .nil)
        refine (buildSlice (E := (ovE nilSl)) Try.underlying79 ty27 z27 (.cons (.t rfl) (.cons (.t rfl) (.cons (.t rfl) (.cons (.t rfl) (.cons (.t rfl) (.cons (.t rfl) .nil)))))) rfl rfl (fun v47 => ?_))
        refine heldN_of (by repeat first | exact sR | exact sN | apply sC | apply sS | apply sA) ?_
        refine all [15] (by kernel_rfl) (by decide) (.cons rfl ?_ .nil)
        refine (callo en43 (.cons (.t rfl) .nil) (fun w I => join_ok _ _ w (IsSS.mk' (isSl_own (by repeat first | exact mH | apply mT | apply mA) w I) (.cons (isSl_own (by repeat first | exact mH | apply mT | apply mA) w I) (.cons (isSl_own (by repeat first | exact mH | apply mT | apply mA) w I) (.cons (isSl_own (by repeat first | exact mH | apply mT | apply mA) w I) (.cons (isSl_own (by repeat first | exact mH | apply mT | apply mA) w I) (.cons (isSl_own (by repeat first | exact mH | apply mT | apply mA) w I) (.cons (hd.keep0 I.keeps) .nil))))))) (by simp [putB_length]; try omega)) (fun v48 => ?_))
        refine heldN_of (by repeat first | exact sR | exact sN | apply sC | apply sS | apply sA) ?_
        refine take 16 rfl (by kernel_rfl) (by kernel_rfl) (by kernel_rfl) (by repeat first | exact sR | exact sN | apply sC | apply sS | apply sA) (Ev.assign (.t rfl)) ?_
        refine over (by kernel_rfl) ?_
        refine pN ?_
        refine ret ?_
        refine bR ?_
        refine pR ?_
        refine done rfl (.tmp rfl .nil) (fun w I => ?_)
        have hm : ¬ midN h.proto = 0 := by unfold midN; rw [if_pos h0]; decide
        exact retN v48 (fun k => absurd k hm) rfl (by rw [if_neg hm]; exact subl_own (by unfold bodyB; rw [if_pos h0]; simp only [List.flatten_cons, List.flatten_nil, List.append_nil, List.append_assoc, ofInt16, putB2_int])) w I
    · refine (buildSlice (E := u8E) Try.underlying27 ty5 z5 (.cons (.c (v := U8 0) rfl) (.cons (.c (v := U8 0) rfl) .nil)) rfl rfl (fun v49 => ?_))
      refine heldN_of (by repeat first | exact sR | exact sN | apply sC | apply sS | apply sA) ?_
      refine all [4, 7] (by kernel_rfl) (by decide) (.cons rfl ?_ (.cons rfl ?_ .nil))
      · refine (callo en44 (.cons (.t rfl) (.cons (.c (v := I 4) rfl) .nil)) (fun w I => bytes_ok _ _ w (by decide)) (fun v50 => ?_))
        refine heldN_of (by repeat first | exact sR | exact sN | apply sC | apply sS | apply sA) ?_
        refine all [7, 10] (by kernel_rfl) (by decide) (.cons rfl ?_ (.cons rfl ?_ .nil))
        · refine (buildSlice (E := u8E) Try.underlying27 ty5 z5 (.cons (.c (v := U8 0) rfl) (.cons (.c (v := U8 0) rfl) (.cons (.c (v := U8 0) rfl) (.cons (.c (v := U8 0) rfl) (.cons (.c (v := U8 80) rfl) (.cons (.t rfl) (.cons (.c (v := U8 255) rfl) (.cons (.c (v := U8 255) rfl) .nil)))))))) rfl rfl (fun v51 => ?_))
          refine heldN_of (by repeat first | exact sR | exact sN | apply sC | apply sS | apply sA) ?_
          refine all [10] (by kernel_rfl) (by decide) (.cons rfl ?_ .nil)
          refine (callo en59 (.cons (.t rfl) .nil) (fun w I => rtwo_ok _ w) (fun v52 => ?_))
          refine heldN_of (by repeat first | exact sR | exact sN | apply sC | apply sS | apply sA) ?_
          refine all [14] (by kernel_rfl) (by decide) (.cons rfl ?_ .nil)
          refine (buildSlice (E := (ovE nilSl)) Try.underlying79 ty27 z27 (.cons (.t rfl) (.cons (.t rfl) (.cons (.t rfl) (.cons (.t rfl) (.cons (.t rfl) (.cons (.t rfl) .nil)))))) rfl rfl (fun v53 => ?_))
          refine heldN_of (by repeat first | exact sR | exact sN | apply sC | apply sS | apply sA) ?_
          refine all [15] (by kernel_rfl) (by decide) (.cons rfl ?_ .nil)
          refine (callo en43 (.cons (.t rfl) .nil) (fun w I => join_ok _ _ w (IsSS.mk' (isSl_own (by repeat first | exact mH | apply mT | apply mA) w I) (.cons (isSl_own (by repeat first | exact mH | apply mT | apply mA) w I) (.cons (isSl_own (by repeat first | exact mH | apply mT | apply mA) w I) (.cons (isSl_own (by repeat first | exact mH | apply mT | apply mA) w I) (.cons (isSl_own (by repeat first | exact mH | apply mT | apply mA) w I) (.cons (isSl_own (by repeat first | exact mH | apply mT | apply mA) w I) (.cons (hd.keep0 I.keeps) .nil))))))) (by simp [putB_length]; try omega)) (fun v54 => ?_))
          refine heldN_of (by repeat first | exact sR | exact sN | apply sC | apply sS | apply sA) ?_
          refine take 16 rfl (by kernel_rfl) (by kernel_rfl) (by kernel_rfl) (by repeat first | exact sR | exact sN | apply sC | apply sS | apply sA) (Ev.assign (.t rfl)) ?_
          refine over (by kernel_rfl) ?_
          refine pN ?_
          refine ret ?_
          refine bR ?_
          refine pR ?_
          refine done rfl (.tmp rfl .nil) (fun w I => ?_)
          have hm : ¬ midN h.proto = 0 := by unfold midN; rw [if_pos h0]; decide
          exact retN v54 (fun k => absurd k hm) rfl (by rw [if_neg hm]; exact subl_own (by unfold bodyB; rw [if_pos h0]; simp only [List.flatten_cons, List.flatten_nil, List.append_nil, List.append_assoc, ofInt16, putB2_int])) w I
        · refine (callo en59 (.cons (.t rfl) .nil) (fun w I => rtwo_ok _ w) (fun v55 => ?_))
          refine heldN_of (by repeat first | exact sR | exact sN | apply sC | apply sS | apply sA) ?_
          refine all [7] (by kernel_rfl) (by decide) (.cons rfl ?_ .nil)
          refine (buildSlice (E := u8E) Try.underlying27 ty5 z5 (.cons (.c (v := U8 0) rfl) (.cons (.c (v := U8 0) rfl) (.cons (.c (v := U8 0) rfl) (.cons (.c (v := U8 0) rfl) (.cons (.c (v := U8 80) rfl) (.cons (.t rfl) (.cons (.c (v := U8 255) rfl) (.cons (.c (v := U8 255) rfl) .nil)))))))) rfl rfl (fun v56 => ?_))
          refine heldN_of (by repeat first | exact sR | exact sN | apply sC | apply sS | apply sA) ?_
          refine all [14] (by kernel_rfl) (by decide) (.cons rfl ?_ .nil)
          refine (buildSlice (E := (ovE nilSl)) Try.underlying79 ty27 z27 (.cons (.t rfl) (.cons (.t rfl) (.cons (.t rfl) (.cons (.t rfl) (.cons (.t rfl) (.cons (.t rfl) .nil)))))) rfl rfl (fun v57 => ?_))
          refine heldN_of (by repeat first | exact sR | exact sN | apply sC | apply sS | apply sA) ?_
          refine all [15] (by kernel_rfl) (by decide) (.cons rfl ?_ .nil)
          refine (callo en43 (.cons (.t rfl) .nil) (fun w I => join_ok _ _ w (IsSS.mk' (isSl_own (by repeat first | exact mH | apply mT | apply mA) w I) (.cons (isSl_own (by repeat first | exact mH | apply mT | apply mA) w I) (.cons (isSl_own (by repeat first | exact mH | apply mT | apply mA) w I) (.cons (isSl_own (by repeat first | exact mH | apply mT | apply mA) w I) (.cons (isSl_own (by repeat first | exact mH | apply mT | apply mA) w I) (.cons (isSl_own (by repeat first | exact mH | apply mT | apply mA) w I) (.cons (hd.keep0 I.keeps) .nil))))))) (by simp [putB_length]; try omega)) (fun v58 => ?_))
          refine heldN_of (by repeat first | exact sR | exact sN | apply sC | apply sS | apply sA) ?_
          refine take 16 rfl (by kernel_rfl) (by kernel_rfl) (by kernel_rfl) (by repeat first | exact sR | exact sN | apply sC | apply sS | apply sA) (Ev.assign (.t rfl)) ?_
          refine over (by kernel_rfl) ?_
          refine pN ?_
          refine ret ?_
          refine bR ?_
          refine pR ?_
          refine done rfl (.tmp rfl .nil) (fun w I => ?_)
          have hm : ¬ midN h.proto = 0 := by unfold midN; rw [if_pos h0]; decide
          exact retN v58 (fun k => absurd k hm) rfl (by rw [if_neg hm]; exact subl_own (by unfold bodyB; rw [if_pos h0]; simp only [List.flatten_cons, List.flatten_nil, List.append_nil, List.append_assoc, ofInt16, putB2_int])) w I
      · refine (buildSlice (E := u8E) Try.underlying27 ty5 z5 (.cons (.c (v := U8 0) rfl) (.cons (.c (v := U8 0) rfl) (.cons (.c (v := U8 0) rfl) (.cons (.c (v := U8 0) rfl) (.cons (.c (v := U8 80) rfl) (.cons (.t rfl) (.cons (.c (v := U8 255) rfl) (.cons (.c (v := U8 255) rfl) .nil)))))))) rfl rfl (fun v59 => ?_))
        refine heldN_of (by repeat first | exact sR | exact sN | apply sC | apply sS | apply sA) ?_
        refine all [4] (by kernel_rfl) (by decide) (.cons rfl ?_ .nil)
        refine (callo en44 (.cons (.t rfl) (.cons (.c (v := I 4) rfl) .nil)) (fun w I => bytes_ok _ _ w (by decide)) (fun v60 => ?_))
        refine heldN_of (by repeat first | exact sR | exact sN | apply sC | apply sS | apply sA) ?_
        refine all [10] (by kernel_rfl) (by decide) (.cons rfl ?_ .nil)
        refine (callo en59 (.cons (.t rfl) .nil) (fun w I => rtwo_ok _ w) (fun v61 => ?_))
        refine heldN_of (by repeat first | exact sR | exact sN | apply sC | apply sS | apply sA) ?_
        refine all [14] (by kernel_rfl) (by decide) (.cons rfl ?_ .nil)
        refine (buildSlice (E := (ovE nilSl)) Try.underlying79 ty27 z27 (.cons (.t rfl) (.cons (.t rfl) (.cons (.t rfl) (.cons (.t rfl) (.cons (.t rfl) (.cons (.t rfl) .nil)))))) rfl rfl (fun v62 => ?_))
        refine heldN_of (by repeat first | exact sR | exact sN | apply sC | apply sS | apply sA) ?_
        refine all [15] (by kernel_rfl) (by decide) (.cons rfl ?_ .nil)
        refine (callo en43 (.cons (.t rfl) .nil) (fun w I => join_ok _ _ w (IsSS.mk' (isSl_own (by repeat first | exact mH | apply mT | apply mA) w I) (.cons (isSl_own (by repeat first | exact mH | apply mT | apply mA) w I) (.cons (isSl_own (by repeat first | exact mH | apply mT | apply mA) w I) (.cons (isSl_own (by repeat first | exact mH | apply mT | apply mA) w I) (.cons (isSl_own (by repeat first | exact mH | apply mT | apply mA) w I) (.cons (isSl_own (by repeat first | exact mH | apply mT | apply mA) w I) (.cons (hd.keep0 I.keeps) .nil))))))) (by simp [putB_length]; try omega)) (fun v63 => ?_))
        refine heldN_of (by repeat first | exact sR | exact sN | apply sC | apply sS | apply sA) ?_
        refine take 16 rfl (by kernel_rfl) (by kernel_rfl) (by kernel_rfl) (by repeat first | exact sR | exact sN | apply sC | apply sS | apply sA) (Ev.assign (.t rfl)) ?_
        refine over (by kernel_rfl) ?_
        refine pN ?_
        refine ret ?_
        refine bR ?_
        refine pR ?_
        refine done rfl (.tmp rfl .nil) (fun w I => ?_)
        have hm : ¬ midN h.proto = 0 := by unfold midN; rw [if_pos h0]; decide
        exact retN v63 (fun k => absurd k hm) rfl (by rw [if_neg hm]; exact subl_own (by unfold bodyB; rw [if_pos h0]; simp only [List.flatten_cons, List.flatten_nil, List.append_nil, List.append_assoc, ofInt16, putB2_int])) w I
  · try simp only [Bool.and_eq_true, Bool.or_eq_true, Bool.or_eq_false_iff, Bool.and_eq_false_iff, Bool.not_eq_true', Bool.not_eq_false', decide_eq_true_eq, decide_eq_false_iff_not, Decidable.not_not] at h0
    refine seq ?_
    refine region ?_
    refine cons (opv (Ev.eql_u8 (.t rfl) (.c (v := U8 17) rfl)) ?_)
    refine cons (opv (Ev.assign (.t rfl)) ?_)
    refine nil ?_
    refine pN ?_
    first | refine condD rfl (fun h1 => ?_) (fun h1 => ?_) | refine cond rfl (fun h1 => ?_) (fun h1 => ?_)
    · try simp only [Bool.and_eq_true, Bool.or_eq_true, Bool.or_eq_false_iff, Bool.and_eq_false_iff, Bool.not_eq_true', Bool.not_eq_false', decide_eq_true_eq, decide_eq_false_iff_not, Decidable.not_not] at h1
      refine seq ?_
      refine draw' (by kernel_rfl) ?_
      refine take 0 rfl (by kernel_rfl) (by kernel_rfl) (by kernel_rfl) (by repeat first | exact sR | exact sN | apply sC | apply sS | apply sA) (Ev.move (.t rfl)) ?_
      refine take 1 rfl (by kernel_rfl) (by kernel_rfl) (by kernel_rfl) (by repeat first | exact sR | exact sN | apply sC | apply sS | apply sA) (Ev.fieldAddr (o := 42) (.t rfl) (by kernel_rfl)) ?_
      refine take 2 rfl (by kernel_rfl) (by kernel_rfl) (by kernel_rfl) (by repeat first | exact sR | exact sN | apply sC | apply sS | apply sA) (Ev.load (xv := h.data) ty27 (.t rfl) (ptsVar (by repeat first | exact mH | apply mT | apply mA) SHeader.l_data)) ?_
      refine take 3 rfl (by kernel_rfl) (by kernel_rfl) (by kernel_rfl) (by repeat first | exact sR | exact sN | apply sC | apply sS | apply sA) (Ev.len Try.underlying27 (.t rfl) (fun w I => hd.keep0 I.keeps)) ?_
      refine take 4 rfl (by kernel_rfl) (by kernel_rfl) (by kernel_rfl) (by repeat first | exact sR | exact sN | apply sC | apply sS | apply sA) (Ev.add_i (.c (v := I 8) rfl) (.t rfl) (fun _ => by omega)) ?_
      refine take 6 rfl (by kernel_rfl) (by kernel_rfl) (by kernel_rfl) (by repeat first | exact sR | exact sN | apply sC | apply sS | apply sA) (Ev.move (.t rfl)) ?_
      refine take 7 rfl (by kernel_rfl) (by kernel_rfl) (by kernel_rfl) (by repeat first | exact sR | exact sN | apply sC | apply sS | apply sA) (Ev.conv_u16_i Try.underlying3 Try.underlying25 (.t rfl)) ?_
      refine take 9 rfl (by kernel_rfl) (by kernel_rfl) (by kernel_rfl) (by repeat first | exact sR | exact sN | apply sC | apply sS | apply sA) (Ev.fieldAddr (o := 42) (.t rfl) (by kernel_rfl)) ?_
      refine take 10 rfl (by kernel_rfl) (by kernel_rfl) (by kernel_rfl) (by repeat first | exact sR | exact sN | apply sC | apply sS | apply sA) (Ev.load (xv := h.data) ty27 (.t rfl) (ptsVar (by repeat first | exact mH | apply mT | apply mA) SHeader.l_data)) ?_
      refine all [5] (by kernel_rfl) (by decide) (.cons rfl ?_ .nil)
      refine (callo en59 (.cons (.t rfl) .nil) (fun w I => rtwo_ok _ w) (fun v64 => ?_))
      refine heldN_of (by repeat first | exact sR | exact sN | apply sC | apply sS | apply sA) ?_
      refine all [8] (by kernel_rfl) (by decide) (.cons rfl ?_ .nil)
      refine (callo en59 (.cons (.t rfl) .nil) (fun w I => rtwo_ok _ w) (fun v65 => ?_))
      refine heldN_of (by repeat first | exact sR | exact sN | apply sC | apply sS | apply sA) ?_
      refine all [11] (by kernel_rfl) (by decide) (.cons rfl ?_ .nil)
      refine (buildSlice (E := (ovE nilSl)) Try.underlying79 ty27 z27 (.cons (.t rfl) (.cons (.t rfl) (.cons (.t rfl) (.cons (.t rfl) .nil)))) rfl rfl (fun v66 => ?_))
      refine heldN_of (by repeat first | exact sR | exact sN | apply sC | apply sS | apply sA) ?_
      refine all [12] (by kernel_rfl) (by decide) (.cons rfl ?_ .nil)
      refine (callo en43 (.cons (.t rfl) .nil) (fun w I => join_ok _ _ w (IsSS.mk' (isSl_own (by repeat first | exact mH | apply mT | apply mA) w I) (.cons (isSl_own (by repeat first | exact mH | apply mT | apply mA) w I) (.cons (isSl_own (by repeat first | exact mH | apply mT | apply mA) w I) (.cons (isSl_own (by repeat first | exact mH | apply mT | apply mA) w I) (.cons (hd.keep0 I.keeps) .nil))))) (by simp [putB_length]; try omega)) (fun v67 => ?_))
      refine heldN_of (by repeat first | exact sR | exact sN | apply sC | apply sS | apply sA) ?_
      refine take 13 rfl (by kernel_rfl) (by kernel_rfl) (by kernel_rfl) (by repeat first | exact sR | exact sN | apply sC | apply sS | apply sA) (Ev.assign (.t rfl)) ?_
      refine over (by kernel_rfl) ?_
      refine pN ?_
      refine ret ?_
      refine bR ?_
      refine pR ?_
      refine done rfl (.tmp rfl .nil) (fun w I => ?_)
      have hm : ¬ midN h.proto = 0 := by unfold midN; rw [if_neg h0, if_pos h1]; decide
      exact retN v67 (fun k => absurd k hm) rfl (by rw [if_neg hm]; exact subl_own (by unfold bodyB; rw [if_neg h0, if_pos h1]; simp only [List.flatten_cons, List.flatten_nil, List.append_nil, List.append_assoc, ofInt16, putB2_int])) w I
    · try simp only [Bool.and_eq_true, Bool.or_eq_true, Bool.or_eq_false_iff, Bool.and_eq_false_iff, Bool.not_eq_true', Bool.not_eq_false', decide_eq_true_eq, decide_eq_false_iff_not, Decidable.not_not] at h1
      refine skip ?_
      refine bN ?_
      refine pN ?_
      refine seq ?_
      refine region ?_
      refine cons (opv (Ev.fieldAddr (o := 42) (.t rfl) (by kernel_rfl)) ?_)
      refine cons (opv (Ev.load (xv := h.data) ty27 (.t rfl) (ptsVar (by repeat first | exact mH | apply mT | apply mA) SHeader.l_data)) ?_)
      refine cons (opv (Ev.assign (.t rfl)) ?_)
      refine nil ?_
      refine pN ?_
      refine ret ?_
      refine done rfl (.tmp rfl .nil) (fun w I => ?_)
      have hm : midN h.proto = 0 := by unfold midN; rw [if_neg h0, if_neg h1]
      exact retN h.data (fun _ => rfl) rfl (by rw [if_pos hm]; exact List.nil_sublist _) w I

theorem en41 : Enters Try.prog 41 := Enters.mk' (by kernel_rfl)

theorem en45 : Enters Try.prog 45 := Enters.mk' (by kernel_rfl)

theorem en47 : Enters Try.prog 47 := Enters.mk' (by kernel_rfl)

theorem rSum_ok (h : SHeader) (d : List UInt8) (w : World) (hd : IsSl u8E w h.data.v d) (hl : d.length ≤ 1000000) : Calls Try.prog 42 #[eHeader.val h] w (RetV w (U16 (sumH h (bodyB h d 0)))) := by
  have hbl := bodyB_length h d 0
  have hmc := midN_cases h.proto
  have ha1 := addrB_le h.src
  have ha2 := addrB_le h.dst
  have hps := pseudoB_le h (bodyB h d 0).length
  refine enter0 48 Try.func42 rfl rfl (Nat.le_of_ble_eq_true rfl) ?_
  refine seq ?_
  refine region ?_
  refine cons (box (E := eHeader) (.t rfl) (fun b1 => ?_))
  refine cons (opv (Ev.assign (.c (v := U16 0) rfl)) ?_)
  refine nil ?_
  refine pN ?_
  refine seq ?_
  refine region ?_
  refine cons (opv (Ev.load (xv := h) ty29 (.t rfl) (ptsVar (by repeat first | exact mH | apply mT | apply mA) (Lens.id _))) ?_)
  refine cons (calln (X := OV) (fun o : OV => midN h.proto = 0 → o = h.data) (fun o => o.v) (fun o => if midN h.proto = 0 then [] else [OwnS o.v u8E (bodyB h d 0) 5]) en41 (.cons (.t rfl) (.cons (.c (v := U16 0) rfl) .nil)) (fun w I => rbody_ok h d 0 w (hd.keep0 I.keeps) (by omega)) (fun x1 hx1 => ?_))
  refine cons (opv (Ev.assign (.t rfl)) ?_)
  refine nil ?_
  refine pN ?_
  refine seq ?_
  refine region ?_
  refine cons (opv (Ev.move (.t rfl)) ?_)
  refine cons (opv (Ev.len Try.underlying27 (.t rfl) (fun w I => (isSl_body hx1 (fun r hr => by repeat first | exact hr | exact List.mem_append_left _ hr | apply List.Mem.tail | apply List.mem_append_right) (fun w I => hd.keep0 I.keeps) w I))) ?_)
  refine cons (opv (Ev.conv_i_u64 Try.underlying66 Try.underlying3 (.t rfl)) ?_)
  refine cons (opv (Ev.assign (.t rfl)) ?_)
  refine nil ?_
  refine pN ?_
  refine seq ?_
  refine draw' (by kernel_rfl) ?_
  refine take 0 rfl (by kernel_rfl) (by kernel_rfl) (by kernel_rfl) (by repeat first | exact sR | exact sN | apply sC | apply sS | apply sA) (Ev.fieldAddr (o := 34) (.t rfl) (by kernel_rfl)) ?_
  refine take 1 rfl (by kernel_rfl) (by kernel_rfl) (by kernel_rfl) (by repeat first | exact sR | exact sN | apply sC | apply sS | apply sA) (Ev.load (xv := h.proto) ty5 (.t rfl) (ptsVar (by repeat first | exact mH | apply mT | apply mA) SHeader.l_proto)) ?_
  refine take 3 rfl (by kernel_rfl) (by kernel_rfl) (by kernel_rfl) (by repeat first | exact sR | exact sN | apply sC | apply sS | apply sA) (Ev.move (.t rfl)) ?_
  refine all [2, 4] (by kernel_rfl) (by decide) (.cons rfl ?_ (.cons rfl ?_ .nil))
  · refine (buildSlice (E := u8E) Try.underlying27 ty5 z5 (.cons (.c (v := U8 0) rfl) (.cons (.t rfl) .nil)) rfl rfl (fun v2 => ?_))
    refine heldN_of (by repeat first | exact sR | exact sN | apply sC | apply sS | apply sA) ?_
    refine all [4] (by kernel_rfl) (by decide) (.cons rfl ?_ .nil)
    refine (callo en44 (.cons (.t rfl) (.cons (.c (v := I 2) rfl) .nil)) (fun w I => bytes_ok _ _ w (by decide)) (fun v3 => ?_))
    refine heldN_of (by repeat first | exact sR | exact sN | apply sC | apply sS | apply sA) ?_
    refine all [5] (by kernel_rfl) (by decide) (.cons rfl ?_ .nil)
    refine (buildSlice (E := (ovE nilSl)) Try.underlying79 ty27 z27 (.cons (.t rfl) (.cons (.t rfl) .nil)) rfl rfl (fun v4 => ?_))
    refine heldN_of (by repeat first | exact sR | exact sN | apply sC | apply sS | apply sA) ?_
    refine all [6] (by kernel_rfl) (by decide) (.cons rfl ?_ .nil)
    refine (callo en43 (.cons (.t rfl) .nil) (fun w I => join_ok _ _ w (IsSS.mk' (isSl_own (by repeat first | exact mH | apply mT | apply mA) w I) (.cons (isSl_own (by repeat first | exact mH | apply mT | apply mA) w I) (.cons (isSl_own (by repeat first | exact mH | apply mT | apply mA) w I) .nil))) (by simp [putB_length]; try omega)) (fun v5 => ?_))
    refine heldN_of (by repeat first | exact sR | exact sN | apply sC | apply sS | apply sA) ?_
    refine take 7 rfl (by kernel_rfl) (by kernel_rfl) (by kernel_rfl) (by repeat first | exact sR | exact sN | apply sC | apply sS | apply sA) (Ev.assign (.t rfl)) ?_
    refine over (by kernel_rfl) ?_
    refine pN ?_
    refine cut (X := OV × (List UInt8)) (fun x : OV × (List UInt8) => (x.2 = pseudoB h (bodyB h d 0).length)) (fun x : OV × (List UInt8) => [(1, true, .pointer (some ⟨b1, 0, none⟩)), (3, true, x1.v), (5, true, x.1.v)]) (fun x : OV × (List UInt8) => (OwnS x.1.v u8E x.2 5 :: ((if midN h.proto = 0 then [] else [OwnS x1.v u8E (bodyB h d 0) 5]) ++ [Var b1 eHeader h 29]))) ?_ (fun x hx => ?_)
    · refine seq ?_
      refine region ?_
      refine cons (opv (Ev.fieldAddr (o := 0) (.t rfl) (by kernel_rfl)) ?_)
      refine cons (opv (Ev.fieldAddr (o := 0) (.t rfl) (by kernel_rfl)) ?_)
      refine cons (opv (Ev.load (xv := h.src.v6) ty4 (.t rfl) (ptsVar (by repeat first | exact mH | apply mT | apply mA) (Lens.comp SHeader.l_src SAddr.l_v6))) ?_)
      refine nil ?_
      refine pN ?_
      first | refine condD rfl (fun h0 => ?_) (fun h0 => ?_) | refine cond rfl (fun h0 => ?_) (fun h0 => ?_)
      · try simp only [Bool.and_eq_true, Bool.or_eq_true, Bool.or_eq_false_iff, Bool.and_eq_false_iff, Bool.not_eq_true', Bool.not_eq_false', decide_eq_true_eq, decide_eq_false_iff_not, Decidable.not_not] at h0
        refine draw' (by kernel_rfl) ?_
        refine take 0 rfl (by kernel_rfl) (by kernel_rfl) (by kernel_rfl) (by repeat first | exact sR | exact sN | apply sC | apply sS | apply sA) (Ev.move (.t rfl)) ?_
        refine take 2 rfl (by kernel_rfl) (by kernel_rfl) (by kernel_rfl) (by repeat first | exact sR | exact sN | apply sC | apply sS | apply sA) (Ev.fieldAddr (o := 34) (.t rfl) (by kernel_rfl)) ?_
        refine take 3 rfl (by kernel_rfl) (by kernel_rfl) (by kernel_rfl) (by repeat first | exact sR | exact sN | apply sC | apply sS | apply sA) (Ev.load (xv := h.proto) ty5 (.t rfl) (ptsVar (by repeat first | exact mH | apply mT | apply mA) SHeader.l_proto)) ?_
        refine all [1, 4] (by kernel_rfl) (by decide) (.cons rfl ?_ (.cons rfl ?_ .nil))
        · refine (callo en44 (.cons (.t rfl) (.cons (.c (v := I 4) rfl) .nil)) (fun w I => bytes_ok _ _ w (by decide)) (fun v6 => ?_))
          refine heldN_of (by repeat first | exact sR | exact sN | apply sC | apply sS | apply sA) ?_
          refine all [4] (by kernel_rfl) (by decide) (.cons rfl ?_ .nil)
          refine (buildSlice (E := u8E) Try.underlying27 ty5 z5 (.cons (.c (v := U8 0) rfl) (.cons (.c (v := U8 0) rfl) (.cons (.c (v := U8 0) rfl) (.cons (.t rfl) .nil)))) rfl rfl (fun v7 => ?_))
          refine heldN_of (by repeat first | exact sR | exact sN | apply sC | apply sS | apply sA) ?_
          refine all [5] (by kernel_rfl) (by decide) (.cons rfl ?_ .nil)
          refine (buildSlice (E := (ovE nilSl)) Try.underlying79 ty27 z27 (.cons (.t rfl) (.cons (.t rfl) .nil)) rfl rfl (fun v8 => ?_))
          refine heldN_of (by repeat first | exact sR | exact sN | apply sC | apply sS | apply sA) ?_
          refine all [6] (by kernel_rfl) (by decide) (.cons rfl ?_ .nil)
          refine (callo en43 (.cons (.t rfl) .nil) (fun w I => join_ok _ _ w (IsSS.mk' (isSl_own (by repeat first | exact mH | apply mT | apply mA) w I) (.cons (isSl_own (by repeat first | exact mH | apply mT | apply mA) w I) (.cons (isSl_own (by repeat first | exact mH | apply mT | apply mA) w I) .nil))) (by simp [putB_length]; try omega)) (fun v9 => ?_))
          refine heldN_of (by repeat first | exact sR | exact sN | apply sC | apply sS | apply sA) ?_
          refine take 7 rfl (by kernel_rfl) (by kernel_rfl) (by kernel_rfl) (by repeat first | exact sR | exact sN | apply sC | apply sS | apply sA) (Ev.assign (.t rfl)) ?_
          refine over (by kernel_rfl) ?_
          refine pN ?_
          refine meet (X := OV × (List UInt8)) (_, _) ?_ (by repeat first | exact Sub.nil | refine Sub.cons rfl ?_) (by repeat first | exact sR | exact sN | apply sC | apply sS | apply sA)
          · try dsimp only
            unfold pseudoB
            rw [h0]
            simp only [cond_true, cond_false, List.flatten_cons, List.flatten_nil, List.append_nil, putB2_int, putB4_int]
            rfl
        · refine (buildSlice (E := u8E) Try.underlying27 ty5 z5 (.cons (.c (v := U8 0) rfl) (.cons (.c (v := U8 0) rfl) (.cons (.c (v := U8 0) rfl) (.cons (.t rfl) .nil)))) rfl rfl (fun v10 => ?_))
          refine heldN_of (by repeat first | exact sR | exact sN | apply sC | apply sS | apply sA) ?_
          refine all [1] (by kernel_rfl) (by decide) (.cons rfl ?_ .nil)
          refine (callo en44 (.cons (.t rfl) (.cons (.c (v := I 4) rfl) .nil)) (fun w I => bytes_ok _ _ w (by decide)) (fun v11 => ?_))
          refine heldN_of (by repeat first | exact sR | exact sN | apply sC | apply sS | apply sA) ?_
          refine all [5] (by kernel_rfl) (by decide) (.cons rfl ?_ .nil)
          refine (buildSlice (E := (ovE nilSl)) Try.underlying79 ty27 z27 (.cons (.t rfl) (.cons (.t rfl) .nil)) rfl rfl (fun v12 => ?_))
          refine heldN_of (by repeat first | exact sR | exact sN | apply sC | apply sS | apply sA) ?_
          refine all [6] (by kernel_rfl) (by decide) (.cons rfl ?_ .nil)
          refine (callo en43 (.cons (.t rfl) .nil) (fun w I => join_ok _ _ w (IsSS.mk' (isSl_own (by repeat first | exact mH | apply mT | apply mA) w I) (.cons (isSl_own (by repeat first | exact mH | apply mT | apply mA) w I) (.cons (isSl_own (by repeat first | exact mH | apply mT | apply mA) w I) .nil))) (by simp [putB_length]; try omega)) (fun v13 => ?_))
          refine heldN_of (by repeat first | exact sR | exact sN | apply sC | apply sS | apply sA) ?_
          refine take 7 rfl (by kernel_rfl) (by kernel_rfl) (by kernel_rfl) (by repeat first | exact sR | exact sN | apply sC | apply sS | apply sA) (Ev.assign (.t rfl)) ?_
          refine over (by kernel_rfl) ?_
          refine pN ?_
          refine meet (X := OV × (List UInt8)) (_, _) ?_ (by repeat first | exact Sub.nil | refine Sub.cons rfl ?_) (by repeat first | exact sR | exact sN | apply sC | apply sS | apply sA)
          · try dsimp only
            unfold pseudoB
            rw [h0]
            simp only [cond_true, cond_false, List.flatten_cons, List.flatten_nil, List.append_nil, putB2_int, putB4_int]
            rfl
      · try simp only [Bool.and_eq_true, Bool.or_eq_true, Bool.or_eq_false_iff, Bool.and_eq_false_iff, Bool.not_eq_true', Bool.not_eq_false', decide_eq_true_eq, decide_eq_false_iff_not, Decidable.not_not] at h0
        refine skip ?_
        refine pN ?_
        refine meet (X := OV × (List UInt8)) (_, _) ?_ (by repeat first | exact Sub.nil | refine Sub.cons rfl ?_) (by repeat first | exact sR | exact sN | apply sC | apply sS | apply sA)
        · try dsimp only
          unfold pseudoB
          rw [h0]
          simp only [cond_true, cond_false, List.flatten_cons, List.flatten_nil, List.append_nil, putB2_int, putB4_int]
          rfl
    obtain ⟨o, xs⟩ := x
    have hxs : xs = pseudoB h (bodyB h d 0).length := hx
    clear hx
    show Sat _ _ [(1, true, .pointer (some ⟨b1, 0, none⟩)), (3, true, x1.v), (5, true, o.v)] (OwnS o.v u8E xs 5 :: ((if midN h.proto = 0 then [] else [OwnS x1.v u8E (bodyB h d 0) 5]) ++ [Var b1 eHeader h 29]))
    subst hxs
    refine seq ?_
    refine draw' (by kernel_rfl) ?_
    refine take 0 rfl (by kernel_rfl) (by kernel_rfl) (by kernel_rfl) (by repeat first | exact sR | exact sN | apply sC | apply sS | apply sA) (Ev.fieldAddr (o := 0) (.t rfl) (by kernel_rfl)) ?_
    refine take 1 rfl (by kernel_rfl) (by kernel_rfl) (by kernel_rfl) (by repeat first | exact sR | exact sN | apply sC | apply sS | apply sA) (Ev.load (xv := h.src) ty24 (.t rfl) (ptsVar (by repeat first | exact mH | apply mT | apply mA) SHeader.l_src)) ?_
    refine take 3 rfl (by kernel_rfl) (by kernel_rfl) (by kernel_rfl) (by repeat first | exact sR | exact sN | apply sC | apply sS | apply sA) (Ev.fieldAddr (o := 17) (.t rfl) (by kernel_rfl)) ?_
    refine take 4 rfl (by kernel_rfl) (by kernel_rfl) (by kernel_rfl) (by repeat first | exact sR | exact sN | apply sC | apply sS | apply sA) (Ev.load (xv := h.dst) ty24 (.t rfl) (ptsVar (by repeat first | exact mH | apply mT | apply mA) SHeader.l_dst)) ?_
    refine take 6 rfl (by kernel_rfl) (by kernel_rfl) (by kernel_rfl) (by repeat first | exact sR | exact sN | apply sC | apply sS | apply sA) (Ev.move (.t rfl)) ?_
    refine take 7 rfl (by kernel_rfl) (by kernel_rfl) (by kernel_rfl) (by repeat first | exact sR | exact sN | apply sC | apply sS | apply sA) (Ev.move (.t rfl)) ?_
    refine all [2] (by kernel_rfl) (by decide) (.cons rfl ?_ .nil)
    refine (callo en45 (.cons (.t rfl) .nil) (fun w I => rbytes_ok _ w) (fun v14 => ?_))
    refine heldN_of (by repeat first | exact sR | exact sN | apply sC | apply sS | apply sA) ?_
    refine all [5] (by kernel_rfl) (by decide) (.cons rfl ?_ .nil)
    refine (callo en45 (.cons (.t rfl) .nil) (fun w I => rbytes_ok _ w) (fun v15 => ?_))
    refine heldN_of (by repeat first | exact sR | exact sN | apply sC | apply sS | apply sA) ?_
    refine all [8] (by kernel_rfl) (by decide) (.cons rfl ?_ .nil)
    refine (buildSlice (E := (ovE nilSl)) Try.underlying79 ty27 z27 (.cons (.t rfl) (.cons (.t rfl) (.cons (.t rfl) (.cons (.t rfl) .nil)))) rfl rfl (fun v16 => ?_))
    refine heldN_of (by repeat first | exact sR | exact sN | apply sC | apply sS | apply sA) ?_
    refine all [9] (by kernel_rfl) (by decide) (.cons rfl ?_ .nil)
    refine (callo en43 (.cons (.t rfl) .nil) (fun w I => join_ok _ _ w (IsSS.mk' (isSl_own (by repeat first | exact mH | apply mT | apply mA) w I) (.cons (isSl_own (by repeat first | exact mH | apply mT | apply mA) w I) (.cons (isSl_own (by repeat first | exact mH | apply mT | apply mA) w I) (.cons (isSl_own (by repeat first | exact mH | apply mT | apply mA) w I) (.cons (isSl_body hx1 (fun r hr => by repeat first | exact hr | exact List.mem_append_left _ hr | apply List.Mem.tail | apply List.mem_append_right) (fun w I => hd.keep0 I.keeps) w I) .nil))))) (by simp [putB_length]; try omega)) (fun v17 => ?_))
    refine heldN_of (by repeat first | exact sR | exact sN | apply sC | apply sS | apply sA) ?_
    refine all [10] (by kernel_rfl) (by decide) (.cons rfl ?_ .nil)
    refine (callv en47 (.cons (.t rfl) .nil) (fun w I => rsum_ok _ _ w (by first | exact isSl_own (by repeat first | exact mH | apply mT | apply mA) w I | exact IsSl.keep0 (by assumption) I.keeps)) ?_)
    refine heldN_of (by repeat first | exact sR | exact sN | apply sC | apply sS | apply sA) ?_
    refine take 11 rfl (by kernel_rfl) (by kernel_rfl) (by kernel_rfl) (by repeat first | exact sR | exact sN | apply sC | apply sS | apply sA) (Ev.assign (.t rfl)) ?_
    refine over (by kernel_rfl) ?_
    refine pN ?_
    refine seq ?_
    refine seq ?_
    refine region ?_
    refine cons (opv (Ev.fieldAddr (o := 34) (.t rfl) (by kernel_rfl)) ?_)
    refine cons (opv (Ev.load (xv := h.proto) ty5 (.t rfl) (ptsVar (by repeat first | exact mH | apply mT | apply mA) SHeader.l_proto)) ?_)
    refine cons (opv (Ev.eql_u8 (.t rfl) (.c (v := U8 17) rfl)) ?_)
    refine cons (opv (Ev.move (.t rfl)) ?_)
    refine cons (opg rfl rfl (Ev.move (.t rfl)) ?_)
    refine cons (opg rfl rfl (Ev.eql_u16 (.g rfl id) (.c (v := U16 0) rfl)) ?_)
    refine cons (opv (Ev.pickA (.t rfl) (fun {_} h => by cases h; rfl) ⟨_, rfl⟩ (by intro h1 h; first | (rw [h] <;> rfl) | (rw [h1, h] <;> rfl) | (rw [h, h1] <;> rfl) | simp_all) (.c (v := .bool false) rfl)) ?_)
    refine nil ?_
    refine pN ?_
    first | refine condD rfl (fun h1 => ?_) (fun h1 => ?_) | refine cond rfl (fun h1 => ?_) (fun h1 => ?_)
    · try simp only [Bool.and_eq_true, Bool.or_eq_true, Bool.or_eq_false_iff, Bool.and_eq_false_iff, Bool.not_eq_true', Bool.not_eq_false', decide_eq_true_eq, decide_eq_false_iff_not, Decidable.not_not] at h1
      refine seq ?_
      refine region ?_
      refine cons (opv (Ev.assign (.c (v := U16 65535) rfl)) ?_)
      refine nil ?_
      refine pN ?_
      refine ret ?_
      refine pR ?_
      refine done rfl (.tmp rfl .nil) (retE ?_)
      unfold sumH
      have hs : ∀ x y : UInt16, (x = 0 ∧ h.proto = 17 → y = 65535) → (¬ (x = 0 ∧ h.proto = 17) → y = x) → y = if x = 0 ∧ h.proto = 17 then 65535 else x := fun x y p q => by split <;> simp_all
      refine congrArg U16 (hs _ _ (fun e => ?_) (fun e => ?_))
      · first
          | rfl
          | (exfalso
             simp only [List.append_assoc, List.flatten_cons, List.flatten_nil, List.append_nil] at e h1
             rcases h1 with h | h
             · exact h e.2
             · exact h e.1)
      · first
          | (exfalso
             exact e ⟨by simpa using h1.2, h1.1⟩)
          | (simp; done)
    · try simp only [Bool.and_eq_true, Bool.or_eq_true, Bool.or_eq_false_iff, Bool.and_eq_false_iff, Bool.not_eq_true', Bool.not_eq_false', decide_eq_true_eq, decide_eq_false_iff_not, Decidable.not_not] at h1
      refine skip ?_
      refine pN ?_
      refine seq ?_
      refine region ?_
      refine cons (opv (Ev.move (.t rfl)) ?_)
      refine cons (opv (Ev.assign (.t rfl)) ?_)
      refine nil ?_
      refine pN ?_
      refine ret ?_
      refine done rfl (.tmp rfl .nil) (retE ?_)
      unfold sumH
      have hs : ∀ x y : UInt16, (x = 0 ∧ h.proto = 17 → y = 65535) → (¬ (x = 0 ∧ h.proto = 17) → y = x) → y = if x = 0 ∧ h.proto = 17 then 65535 else x := fun x y p q => by split <;> simp_all
      refine congrArg U16 (hs _ _ (fun e => ?_) (fun e => ?_))
      · first
          | rfl
          | (exfalso
             simp only [List.append_assoc, List.flatten_cons, List.flatten_nil, List.append_nil] at e h1
             rcases h1 with h | h
             · exact h e.2
             · exact h e.1)
      · first
          | (exfalso
             exact e ⟨by simpa using h1.2, h1.1⟩)
          | (simp; done)
  · refine (callo en44 (.cons (.t rfl) (.cons (.c (v := I 2) rfl) .nil)) (fun w I => bytes_ok _ _ w (by decide)) (fun v18 => ?_))
    refine heldN_of (by repeat first | exact sR | exact sN | apply sC | apply sS | apply sA) ?_
    refine all [2] (by kernel_rfl) (by decide) (.cons rfl ?_ .nil)
    refine (buildSlice (E := u8E) Try.underlying27 ty5 z5 (.cons (.c (v := U8 0) rfl) (.cons (.t rfl) .nil)) rfl rfl (fun v19 => ?_))
    refine heldN_of (by repeat first | exact sR | exact sN | apply sC | apply sS | apply sA) ?_
    refine all [5] (by kernel_rfl) (by decide) (.cons rfl ?_ .nil)
    refine (buildSlice (E := (ovE nilSl)) Try.underlying79 ty27 z27 (.cons (.t rfl) (.cons (.t rfl) .nil)) rfl rfl (fun v20 => ?_))
    refine heldN_of (by repeat first | exact sR | exact sN | apply sC | apply sS | apply sA) ?_
    refine all [6] (by kernel_rfl) (by decide) (.cons rfl ?_ .nil)
    refine (callo en43 (.cons (.t rfl) .nil) (fun w I => join_ok _ _ w (IsSS.mk' (isSl_own (by repeat first | exact mH | apply mT | apply mA) w I) (.cons (isSl_own (by repeat first | exact mH | apply mT | apply mA) w I) (.cons (isSl_own (by repeat first | exact mH | apply mT | apply mA) w I) .nil))) (by simp [putB_length]; try omega)) (fun v21 => ?_))
    refine heldN_of (by repeat first | exact sR | exact sN | apply sC | apply sS | apply sA) ?_
    refine take 7 rfl (by kernel_rfl) (by kernel_rfl) (by kernel_rfl) (by repeat first | exact sR | exact sN | apply sC | apply sS | apply sA) (Ev.assign (.t rfl)) ?_
    refine over (by kernel_rfl) ?_
    refine pN ?_
    refine cut (X := OV × (List UInt8)) (fun x : OV × (List UInt8) => (x.2 = pseudoB h (bodyB h d 0).length)) (fun x : OV × (List UInt8) => [(1, true, .pointer (some ⟨b1, 0, none⟩)), (3, true, x1.v), (5, true, x.1.v)]) (fun x : OV × (List UInt8) => (OwnS x.1.v u8E x.2 5 :: ((if midN h.proto = 0 then [] else [OwnS x1.v u8E (bodyB h d 0) 5]) ++ [Var b1 eHeader h 29]))) ?_ (fun x hx => ?_)
    · refine seq ?_
      refine region ?_
      refine cons (opv (Ev.fieldAddr (o := 0) (.t rfl) (by kernel_rfl)) ?_)
      refine cons (opv (Ev.fieldAddr (o := 0) (.t rfl) (by kernel_rfl)) ?_)
      refine cons (opv (Ev.load (xv := h.src.v6) ty4 (.t rfl) (ptsVar (by repeat first | exact mH | apply mT | apply mA) (Lens.comp SHeader.l_src SAddr.l_v6))) ?_)
      refine nil ?_
      refine pN ?_
      first | refine condD rfl (fun h0 => ?_) (fun h0 => ?_) | refine cond rfl (fun h0 => ?_) (fun h0 => ?_)
      · try simp only [Bool.and_eq_true, Bool.or_eq_true, Bool.or_eq_false_iff, Bool.and_eq_false_iff, Bool.not_eq_true', Bool.not_eq_false', decide_eq_true_eq, decide_eq_false_iff_not, Decidable.not_not] at h0
        refine draw' (by kernel_rfl) ?_
        refine take 0 rfl (by kernel_rfl) (by kernel_rfl) (by kernel_rfl) (by repeat first | exact sR | exact sN | apply sC | apply sS | apply sA) (Ev.move (.t rfl)) ?_
        refine take 2 rfl (by kernel_rfl) (by kernel_rfl) (by kernel_rfl) (by repeat first | exact sR | exact sN | apply sC | apply sS | apply sA) (Ev.fieldAddr (o := 34) (.t rfl) (by kernel_rfl)) ?_
        refine take 3 rfl (by kernel_rfl) (by kernel_rfl) (by kernel_rfl) (by repeat first | exact sR | exact sN | apply sC | apply sS | apply sA) (Ev.load (xv := h.proto) ty5 (.t rfl) (ptsVar (by repeat first | exact mH | apply mT | apply mA) SHeader.l_proto)) ?_
        refine all [1, 4] (by kernel_rfl) (by decide) (.cons rfl ?_ (.cons rfl ?_ .nil))
        · refine (callo en44 (.cons (.t rfl) (.cons (.c (v := I 4) rfl) .nil)) (fun w I => bytes_ok _ _ w (by decide)) (fun v22 => ?_))
          refine heldN_of (by repeat first | exact sR | exact sN | apply sC | apply sS | apply sA) ?_
          refine all [4] (by kernel_rfl) (by decide) (.cons rfl ?_ .nil)
          refine (buildSlice (E := u8E) Try.underlying27 ty5 z5 (.cons (.c (v := U8 0) rfl) (.cons (.c (v := U8 0) rfl) (.cons (.c (v := U8 0) rfl) (.cons (.t rfl) .nil)))) rfl rfl (fun v23 => ?_))
          refine heldN_of (by repeat first | exact sR | exact sN | apply sC | apply sS | apply sA) ?_
          refine all [5] (by kernel_rfl) (by decide) (.cons rfl ?_ .nil)
          refine (buildSlice (E := (ovE nilSl)) Try.underlying79 ty27 z27 (.cons (.t rfl) (.cons (.t rfl) .nil)) rfl rfl (fun v24 => ?_))
          refine heldN_of (by repeat first | exact sR | exact sN | apply sC | apply sS | apply sA) ?_
          refine all [6] (by kernel_rfl) (by decide) (.cons rfl ?_ .nil)
          refine (callo en43 (.cons (.t rfl) .nil) (fun w I => join_ok _ _ w (IsSS.mk' (isSl_own (by repeat first | exact mH | apply mT | apply mA) w I) (.cons (isSl_own (by repeat first | exact mH | apply mT | apply mA) w I) (.cons (isSl_own (by repeat first | exact mH | apply mT | apply mA) w I) .nil))) (by simp [putB_length]; try omega)) (fun v25 => ?_))
          refine heldN_of (by repeat first | exact sR | exact sN | apply sC | apply sS | apply sA) ?_
          refine take 7 rfl (by kernel_rfl) (by kernel_rfl) (by kernel_rfl) (by repeat first | exact sR | exact sN | apply sC | apply sS | apply sA) (Ev.assign (.t rfl)) ?_
          refine over (by kernel_rfl) ?_
          refine pN ?_
          refine meet (X := OV × (List UInt8)) (_, _) ?_ (by repeat first | exact Sub.nil | refine Sub.cons rfl ?_) (by repeat first | exact sR | exact sN | apply sC | apply sS | apply sA)
          · try dsimp only
            unfold pseudoB
            rw [h0]
            simp only [cond_true, cond_false, List.flatten_cons, List.flatten_nil, List.append_nil, putB2_int, putB4_int]
            rfl
        · refine (buildSlice (E := u8E) Try.underlying27 ty5 z5 (.cons (.c (v := U8 0) rfl) (.cons (.c (v := U8 0) rfl) (.cons (.c (v := U8 0) rfl) (.cons (.t rfl) .nil)))) rfl rfl (fun v26 => ?_))
          refine heldN_of (by repeat first | exact sR | exact sN | apply sC | apply sS | apply sA) ?_
          refine all [1] (by kernel_rfl) (by decide) (.cons rfl ?_ .nil)
          refine (callo en44 (.cons (.t rfl) (.cons (.c (v := I 4) rfl) .nil)) (fun w I => bytes_ok _ _ w (by decide)) (fun v27 => ?_))
          refine heldN_of (by repeat first | exact sR | exact sN | apply sC | apply sS | apply sA) ?_
          refine all [5] (by kernel_rfl) (by decide) (.cons rfl ?_ .nil)
          refine (buildSlice (E := (ovE nilSl)) Try.underlying79 ty27 z27 (.cons (.t rfl) (.cons (.t rfl) .nil)) rfl rfl (fun v28 => ?_))
          refine heldN_of (by repeat first | exact sR | exact sN | apply sC | apply sS | apply sA) ?_
          refine all [6] (by kernel_rfl) (by decide) (.cons rfl ?_ .nil)
          refine (callo en43 (.cons (.t rfl) .nil) (fun w I => join_ok _ _ w (IsSS.mk' (isSl_own (by repeat first | exact mH | apply mT | apply mA) w I) (.cons (isSl_own (by repeat first | exact mH | apply mT | apply mA) w I) (.cons (isSl_own (by repeat first | exact mH | apply mT | apply mA) w I) .nil))) (by simp [putB_length]; try omega)) (fun v29 => ?_))
          refine heldN_of (by repeat first | exact sR | exact sN | apply sC | apply sS | apply sA) ?_
          refine take 7 rfl (by kernel_rfl) (by kernel_rfl) (by kernel_rfl) (by repeat first | exact sR | exact sN | apply sC | apply sS | apply sA) (Ev.assign (.t rfl)) ?_
          refine over (by kernel_rfl) ?_
          refine pN ?_
          refine meet (X := OV × (List UInt8)) (_, _) ?_ (by repeat first | exact Sub.nil | refine Sub.cons rfl ?_) (by repeat first | exact sR | exact sN | apply sC | apply sS | apply sA)
          · try dsimp only
            unfold pseudoB
            rw [h0]
            simp only [cond_true, cond_false, List.flatten_cons, List.flatten_nil, List.append_nil, putB2_int, putB4_int]
            rfl
      · try simp only [Bool.and_eq_true, Bool.or_eq_true, Bool.or_eq_false_iff, Bool.and_eq_false_iff, Bool.not_eq_true', Bool.not_eq_false', decide_eq_true_eq, decide_eq_false_iff_not, Decidable.not_not] at h0
        refine skip ?_
        refine pN ?_
        refine meet (X := OV × (List UInt8)) (_, _) ?_ (by repeat first | exact Sub.nil | refine Sub.cons rfl ?_) (by repeat first | exact sR | exact sN | apply sC | apply sS | apply sA)
        · try dsimp only
          unfold pseudoB
          rw [h0]
          simp only [cond_true, cond_false, List.flatten_cons, List.flatten_nil, List.append_nil, putB2_int, putB4_int]
          rfl
    obtain ⟨o, xs⟩ := x
    have hxs : xs = pseudoB h (bodyB h d 0).length := hx
    clear hx
    show Sat _ _ [(1, true, .pointer (some ⟨b1, 0, none⟩)), (3, true, x1.v), (5, true, o.v)] (OwnS o.v u8E xs 5 :: ((if midN h.proto = 0 then [] else [OwnS x1.v u8E (bodyB h d 0) 5]) ++ [Var b1 eHeader h 29]))
    subst hxs
    refine seq ?_
    refine draw' (by kernel_rfl) ?_
    refine take 0 rfl (by kernel_rfl) (by kernel_rfl) (by kernel_rfl) (by repeat first | exact sR | exact sN | apply sC | apply sS | apply sA) (Ev.fieldAddr (o := 0) (.t rfl) (by kernel_rfl)) ?_
    refine take 1 rfl (by kernel_rfl) (by kernel_rfl) (by kernel_rfl) (by repeat first | exact sR | exact sN | apply sC | apply sS | apply sA) (Ev.load (xv := h.src) ty24 (.t rfl) (ptsVar (by repeat first | exact mH | apply mT | apply mA) SHeader.l_src)) ?_
    refine take 3 rfl (by kernel_rfl) (by kernel_rfl) (by kernel_rfl) (by repeat first | exact sR | exact sN | apply sC | apply sS | apply sA) (Ev.fieldAddr (o := 17) (.t rfl) (by kernel_rfl)) ?_
    refine take 4 rfl (by kernel_rfl) (by kernel_rfl) (by kernel_rfl) (by repeat first | exact sR | exact sN | apply sC | apply sS | apply sA) (Ev.load (xv := h.dst) ty24 (.t rfl) (ptsVar (by repeat first | exact mH | apply mT | apply mA) SHeader.l_dst)) ?_
    refine take 6 rfl (by kernel_rfl) (by kernel_rfl) (by kernel_rfl) (by repeat first | exact sR | exact sN | apply sC | apply sS | apply sA) (Ev.move (.t rfl)) ?_
    refine take 7 rfl (by kernel_rfl) (by kernel_rfl) (by kernel_rfl) (by repeat first | exact sR | exact sN | apply sC | apply sS | apply sA) (Ev.move (.t rfl)) ?_
    refine all [2] (by kernel_rfl) (by decide) (.cons rfl ?_ .nil)
    refine (callo en45 (.cons (.t rfl) .nil) (fun w I => rbytes_ok _ w) (fun v30 => ?_))
    refine heldN_of (by repeat first | exact sR | exact sN | apply sC | apply sS | apply sA) ?_
    refine all [5] (by kernel_rfl) (by decide) (.cons rfl ?_ .nil)
    refine (callo en45 (.cons (.t rfl) .nil) (fun w I => rbytes_ok _ w) (fun v31 => ?_))
    refine heldN_of (by repeat first | exact sR | exact sN | apply sC | apply sS | apply sA) ?_
    refine all [8] (by kernel_rfl) (by decide) (.cons rfl ?_ .nil)
    refine (buildSlice (E := (ovE nilSl)) Try.underlying79 ty27 z27 (.cons (.t rfl) (.cons (.t rfl) (.cons (.t rfl) (.cons (.t rfl) .nil)))) rfl rfl (fun v32 => ?_))
    refine heldN_of (by repeat first | exact sR | exact sN | apply sC | apply sS | apply sA) ?_
    refine all [9] (by kernel_rfl) (by decide) (.cons rfl ?_ .nil)
    refine (callo en43 (.cons (.t rfl) .nil) (fun w I => join_ok _ _ w (IsSS.mk' (isSl_own (by repeat first | exact mH | apply mT | apply mA) w I) (.cons (isSl_own (by repeat first | exact mH | apply mT | apply mA) w I) (.cons (isSl_own (by repeat first | exact mH | apply mT | apply mA) w I) (.cons (isSl_own (by repeat first | exact mH | apply mT | apply mA) w I) (.cons (isSl_body hx1 (fun r hr => by repeat first | exact hr | exact List.mem_append_left _ hr | apply List.Mem.tail | apply List.mem_append_right) (fun w I => hd.keep0 I.keeps) w I) .nil))))) (by simp [putB_length]; try omega)) (fun v33 => ?_))
    refine heldN_of (by repeat first | exact sR | exact sN | apply sC | apply sS | apply sA) ?_
    refine all [10] (by kernel_rfl) (by decide) (.cons rfl ?_ .nil)
    refine (callv en47 (.cons (.t rfl) .nil) (fun w I => rsum_ok _ _ w (by first | exact isSl_own (by repeat first | exact mH | apply mT | apply mA) w I | exact IsSl.keep0 (by assumption) I.keeps)) ?_)
    refine heldN_of (by repeat first | exact sR | exact sN | apply sC | apply sS | apply sA) ?_
    refine take 11 rfl (by kernel_rfl) (by kernel_rfl) (by kernel_rfl) (by repeat first | exact sR | exact sN | apply sC | apply sS | apply sA) (Ev.assign (.t rfl)) ?_
    refine over (by kernel_rfl) ?_
    refine pN ?_
    refine seq ?_
    refine seq ?_
    refine region ?_
    refine cons (opv (Ev.fieldAddr (o := 34) (.t rfl) (by kernel_rfl)) ?_)
    refine cons (opv (Ev.load (xv := h.proto) ty5 (.t rfl) (ptsVar (by repeat first | exact mH | apply mT | apply mA) SHeader.l_proto)) ?_)
    refine cons (opv (Ev.eql_u8 (.t rfl) (.c (v := U8 17) rfl)) ?_)
    refine cons (opv (Ev.move (.t rfl)) ?_)
    refine cons (opg rfl rfl (Ev.move (.t rfl)) ?_)
    refine cons (opg rfl rfl (Ev.eql_u16 (.g rfl id) (.c (v := U16 0) rfl)) ?_)
    refine cons (opv (Ev.pickA (.t rfl) (fun {_} h => by cases h; rfl) ⟨_, rfl⟩ (by intro h1 h; first | (rw [h] <;> rfl) | (rw [h1, h] <;> rfl) | (rw [h, h1] <;> rfl) | simp_all) (.c (v := .bool false) rfl)) ?_)
    refine nil ?_
    refine pN ?_
    first | refine condD rfl (fun h1 => ?_) (fun h1 => ?_) | refine cond rfl (fun h1 => ?_) (fun h1 => ?_)
    · try simp only [Bool.and_eq_true, Bool.or_eq_true, Bool.or_eq_false_iff, Bool.and_eq_false_iff, Bool.not_eq_true', Bool.not_eq_false', decide_eq_true_eq, decide_eq_false_iff_not, Decidable.not_not] at h1
      refine seq ?_
      refine region ?_
      refine cons (opv (Ev.assign (.c (v := U16 65535) rfl)) ?_)
      refine nil ?_
      refine pN ?_
      refine ret ?_
      refine pR ?_
      refine done rfl (.tmp rfl .nil) (retE ?_)
      unfold sumH
      have hs : ∀ x y : UInt16, (x = 0 ∧ h.proto = 17 → y = 65535) → (¬ (x = 0 ∧ h.proto = 17) → y = x) → y = if x = 0 ∧ h.proto = 17 then 65535 else x := fun x y p q => by split <;> simp_all
      refine congrArg U16 (hs _ _ (fun e => ?_) (fun e => ?_))
      · first
          | rfl
          | (exfalso
             simp only [List.append_assoc, List.flatten_cons, List.flatten_nil, List.append_nil] at e h1
             rcases h1 with h | h
             · exact h e.2
             · exact h e.1)
      · first
          | (exfalso
             exact e ⟨by simpa using h1.2, h1.1⟩)
          | (simp; done)
    · try simp only [Bool.and_eq_true, Bool.or_eq_true, Bool.or_eq_false_iff, Bool.and_eq_false_iff, Bool.not_eq_true', Bool.not_eq_false', decide_eq_true_eq, decide_eq_false_iff_not, Decidable.not_not] at h1
      refine skip ?_
      refine pN ?_
      refine seq ?_
      refine region ?_
      refine cons (opv (Ev.move (.t rfl)) ?_)
      refine cons (opv (Ev.assign (.t rfl)) ?_)
      refine nil ?_
      refine pN ?_
      refine ret ?_
      refine done rfl (.tmp rfl .nil) (retE ?_)
      unfold sumH
      have hs : ∀ x y : UInt16, (x = 0 ∧ h.proto = 17 → y = 65535) → (¬ (x = 0 ∧ h.proto = 17) → y = x) → y = if x = 0 ∧ h.proto = 17 then 65535 else x := fun x y p q => by split <;> simp_all
      refine congrArg U16 (hs _ _ (fun e => ?_) (fun e => ?_))
      · first
          | rfl
          | (exfalso
             simp only [List.append_assoc, List.flatten_cons, List.flatten_nil, List.append_nil] at e h1
             rcases h1 with h | h
             · exact h e.2
             · exact h e.1)
      · first
          | (exfalso
             exact e ⟨by simpa using h1.2, h1.1⟩)
          | (simp; done)
end Go.Proofs.Ytegcihhhighipaa
