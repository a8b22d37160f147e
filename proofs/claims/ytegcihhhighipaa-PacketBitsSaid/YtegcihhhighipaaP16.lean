/- packet -/
import Derived.Test.YtegcihhhighipaaP15
set_option linter.unusedVariables false
set_option linter.unusedSimpArgs false
namespace Go.Proofs.Ytegcihhhighipaa
open Go Go.Gx

theorem en42 : Enters Try.prog 42 := Enters.mk' (by kernel_rfl)

theorem en46 : Enters Try.prog 46 := Enters.mk' (by kernel_rfl)

set_option maxHeartbeats 2000000 in
theorem rmake_ok (h : SHeader) (d : List UInt8) (w : World) (hd : IsSl u8E w h.data.v d) (hc : checkH h d.length = 0) : Calls Try.prog 17 #[eHeader.val h] w (RetO w u8E (makeB h d) 5) := by
  have ha1 := addrB_le h.src
  have ha2 := addrB_le h.dst
  have hcl := checkH_len h d.length hc
  have hmc := midN_cases h.proto
  have hbl := bodyB_length h d (restS h d)
  have hff : ∀ n s, (fourB h n s).length ≤ 44 := fun n s => by unfold fourB; simp; omega
  refine enter0 61 Try.func17 rfl rfl (Nat.le_of_ble_eq_true rfl) ?_
  refine seq ?_
  refine region ?_
  refine cons (box (E := eHeader) (.t rfl) (fun b1 => ?_))
  refine cons (opv (Ev.assign (.c (v := (Go.Value.slice none 0 0)) rfl)) ?_)
  refine nil ?_
  refine pN ?_
  refine seq ?_
  refine region ?_
  refine cons (opv (Ev.load (xv := h) ty29 (.t rfl) (ptsVar (by repeat first | exact mH | apply mT | apply mA) (Lens.id _))) ?_)
  refine cons (calln (X := OV) (fun o : OV => midN h.proto = 0 → o = h.data) (fun o => o.v) (fun o => if midN h.proto = 0 then [] else [OwnS o.v u8E (bodyB h d 0) 5]) en41 (.cons (.t rfl) (.cons (.c (v := U16 0) rfl) .nil)) (fun w I => rbody_ok h d 0 w (hd.keep0 I.keeps) (by omega)) (fun x1 hx1 => ?_))
  refine cons (opv (Ev.assign (.t rfl)) ?_)
  refine nil ?_
  refine pN ?_
  refine cut (X := OV) (fun x : OV => (midN h.proto = 0 → x = h.data)) (fun x : OV => [(1, true, .pointer (some ⟨b1, 0, none⟩)), (3, true, x.v)]) (fun x : OV => ((if midN h.proto = 0 then [] else [OwnS x.v u8E (bodyB h d (restS h d)) 5]) ++ [Var b1 eHeader h 29])) ?_ (fun x hx => ?_)
  · refine seq ?_
    refine region ?_
    refine cons (opv (Ev.fieldAddr (o := 34) (.t rfl) (by kernel_rfl)) ?_)
    refine cons (opv (Ev.load (xv := h.proto) ty5 (.t rfl) (ptsVar (by repeat first | exact mH | apply mT | apply mA) SHeader.l_proto)) ?_)
    refine cons (callv en31 (.cons (.t rfl) .nil) (fun w I => rmiddle_ok _ w) ?_)
    refine cons (opv (Ev.gtr_i (.t rfl) (.c (v := I 0) rfl)) ?_)
    refine nil ?_
    refine pN ?_
    first | refine condD rfl (fun h0 => ?_) (fun h0 => ?_) | refine cond rfl (fun h0 => ?_) (fun h0 => ?_)
    · try simp only [Bool.and_eq_true, Bool.or_eq_true, Bool.or_eq_false_iff, Bool.and_eq_false_iff, Bool.not_eq_true', Bool.not_eq_false', decide_eq_true_eq, decide_eq_false_iff_not, Decidable.not_not] at h0
      refine draw' (by kernel_rfl) ?_
      refine take 0 rfl (by kernel_rfl) (by kernel_rfl) (by kernel_rfl) (by repeat first | exact sR | exact sN | apply sC | apply sS | apply sA) (Ev.load (xv := h) ty29 (.t rfl) (ptsVar (by repeat first | exact mH | apply mT | apply mA) (Lens.id _))) ?_
      refine take 1 rfl (by kernel_rfl) (by kernel_rfl) (by kernel_rfl) (by repeat first | exact sR | exact sN | apply sC | apply sS | apply sA) (Ev.load (xv := h) ty29 (.t rfl) (ptsVar (by repeat first | exact mH | apply mT | apply mA) (Lens.id _))) ?_
      refine all [2] (by kernel_rfl) (by decide) (.cons rfl ?_ .nil)
      refine (callv en42 (.cons (.t rfl) .nil) (fun w I => rSum_ok _ d w (hd.keep0 I.keeps) (by omega)) ?_)
      refine heldN_of (by repeat first | exact sR | exact sN | apply sC | apply sS | apply sA) ?_
      refine all [3] (by kernel_rfl) (by decide) (.cons rfl ?_ .nil)
      refine (calln (X := OV) (fun o : OV => midN h.proto = 0 → o = h.data) (fun o => o.v) (fun o => if midN h.proto = 0 then [] else [OwnS o.v u8E (bodyB h d (sumH h (bodyB h d 0))) 5]) en41 (.cons (.t rfl) (.cons (.t rfl) .nil)) (fun w I => rbody_ok h d (sumH h (bodyB h d 0)) w (hd.keep0 I.keeps) (by omega)) (fun x2 hx2 => ?_))
      refine heldN_of (by repeat first | exact sR | exact sN | apply sC | apply sS | apply sA) ?_
      refine take 4 rfl (by kernel_rfl) (by kernel_rfl) (by kernel_rfl) (by repeat first | exact sR | exact sN | apply sC | apply sS | apply sA) (Ev.assign (.t rfl)) ?_
      refine over (by kernel_rfl) ?_
      refine pN ?_
      refine meet (X := OV) (_) ?_ (by repeat first | exact Sub.nil | refine Sub.cons rfl ?_) (by first | (have hr : restS h d = sumH h (bodyB h d 0) := if_neg (by omega); rw [hr]; exact List.Sublist.append (List.Sublist.refl _) (List.sublist_append_right _ _)) | (have hr : restS h d = 0 := if_pos (by omega); rw [hr]; exact List.Sublist.refl _))
      · try dsimp only
        assumption
    · try simp only [Bool.and_eq_true, Bool.or_eq_true, Bool.or_eq_false_iff, Bool.and_eq_false_iff, Bool.not_eq_true', Bool.not_eq_false', decide_eq_true_eq, decide_eq_false_iff_not, Decidable.not_not] at h0
      refine skip ?_
      refine pN ?_
      refine meet (X := OV) (_) ?_ (by repeat first | exact Sub.nil | refine Sub.cons rfl ?_) (by first | (have hr : restS h d = sumH h (bodyB h d 0) := if_neg (by omega); rw [hr]; exact List.Sublist.append (List.Sublist.refl _) (List.sublist_append_right _ _)) | (have hr : restS h d = 0 := if_pos (by omega); rw [hr]; exact List.Sublist.refl _))
      · try dsimp only
        assumption
  obtain ⟨o, rfl⟩ : ∃ y, y = x := ⟨x, rfl⟩
  have ho : midN h.proto = 0 → o = h.data := hx
  clear hx
  show Sat _ _ [(1, true, .pointer (some ⟨b1, 0, none⟩)), (3, true, o.v)] ((if midN h.proto = 0 then [] else [OwnS o.v u8E (bodyB h d (restS h d)) 5]) ++ [Var b1 eHeader h 29])
  refine seq ?_
  refine seq ?_
  refine region ?_
  refine cons (opv (Ev.fieldAddr (o := 0) (.t rfl) (by kernel_rfl)) ?_)
  refine cons (opv (Ev.fieldAddr (o := 0) (.t rfl) (by kernel_rfl)) ?_)
  refine cons (opv (Ev.load (xv := h.src.v6) ty4 (.t rfl) (ptsVar (by repeat first | exact mH | apply mT | apply mA) (Lens.comp SHeader.l_src SAddr.l_v6))) ?_)
  refine nil ?_
  refine pN ?_
  first | refine condD rfl (fun h1 => ?_) (fun h1 => ?_) | refine cond rfl (fun h1 => ?_) (fun h1 => ?_)
  · try simp only [Bool.and_eq_true, Bool.or_eq_true, Bool.or_eq_false_iff, Bool.and_eq_false_iff, Bool.not_eq_true', Bool.not_eq_false', decide_eq_true_eq, decide_eq_false_iff_not, Decidable.not_not] at h1
    have hv : h.src.v6 = true := h1
    refine seq ?_
    refine region ?_
    refine cons (opv (Ev.fieldAddr (o := 38) (.t rfl) (by kernel_rfl)) ?_)
    refine cons (opv (Ev.load (xv := h.class_) ty5 (.t rfl) (ptsVar (by repeat first | exact mH | apply mT | apply mA) SHeader.l_class_)) ?_)
    refine cons (opv (Ev.conv_u8_u64 Try.underlying66 Try.underlying5 (.t rfl)) ?_)
    refine cons (opv (Ev.shl_u64 (.t rfl) (.c rfl) (fun _ => by decide)) ?_)
    refine cons (opv (Ev.add_u64 (.c (v := U64 1610612736) rfl) (.t rfl)) ?_)
    refine cons (opv (Ev.fieldAddr (o := 39) (.t rfl) (by kernel_rfl)) ?_)
    refine cons (opv (Ev.load (xv := h.id) ty26 (.t rfl) (ptsVar (by repeat first | exact mH | apply mT | apply mA) SHeader.l_id)) ?_)
    refine cons (opv (Ev.conv_u32_u64 Try.underlying66 Try.underlying26 (.t rfl)) ?_)
    refine cons (opv (Ev.add_u64 (.t rfl) (.t rfl)) ?_)
    refine cons (opv (Ev.assign (.t rfl)) ?_)
    refine nil ?_
    refine pN ?_
    refine seq ?_
    refine draw' (by kernel_rfl) ?_
    refine take 0 rfl (by kernel_rfl) (by kernel_rfl) (by kernel_rfl) (by repeat first | exact sR | exact sN | apply sC | apply sS | apply sA) (Ev.move (.t rfl)) ?_
    refine take 2 rfl (by kernel_rfl) (by kernel_rfl) (by kernel_rfl) (by repeat first | exact sR | exact sN | apply sC | apply sS | apply sA) (Ev.move (.t rfl)) ?_
    refine take 3 rfl (by kernel_rfl) (by kernel_rfl) (by kernel_rfl) (by repeat first | exact sR | exact sN | apply sC | apply sS | apply sA) (Ev.len Try.underlying27 (.t rfl) (fun w I => (isSl_body ho (fun r hr => by repeat first | exact hr | exact List.mem_append_left _ hr | apply List.Mem.tail | apply List.mem_append_right) (fun w I => hd.keep0 I.keeps) w I))) ?_
    refine take 4 rfl (by kernel_rfl) (by kernel_rfl) (by kernel_rfl) (by repeat first | exact sR | exact sN | apply sC | apply sS | apply sA) (Ev.conv_i_u64 Try.underlying66 Try.underlying3 (.t rfl)) ?_
    refine take 6 rfl (by kernel_rfl) (by kernel_rfl) (by kernel_rfl) (by repeat first | exact sR | exact sN | apply sC | apply sS | apply sA) (Ev.fieldAddr (o := 34) (.t rfl) (by kernel_rfl)) ?_
    refine take 7 rfl (by kernel_rfl) (by kernel_rfl) (by kernel_rfl) (by repeat first | exact sR | exact sN | apply sC | apply sS | apply sA) (Ev.load (xv := h.proto) ty5 (.t rfl) (ptsVar (by repeat first | exact mH | apply mT | apply mA) SHeader.l_proto)) ?_
    refine take 8 rfl (by kernel_rfl) (by kernel_rfl) (by kernel_rfl) (by repeat first | exact sR | exact sN | apply sC | apply sS | apply sA) (Ev.fieldAddr (o := 37) (.t rfl) (by kernel_rfl)) ?_
    refine take 9 rfl (by kernel_rfl) (by kernel_rfl) (by kernel_rfl) (by repeat first | exact sR | exact sN | apply sC | apply sS | apply sA) (Ev.load (xv := h.tTL) ty5 (.t rfl) (ptsVar (by repeat first | exact mH | apply mT | apply mA) SHeader.l_tTL)) ?_
    refine take 11 rfl (by kernel_rfl) (by kernel_rfl) (by kernel_rfl) (by repeat first | exact sR | exact sN | apply sC | apply sS | apply sA) (Ev.fieldAddr (o := 0) (.t rfl) (by kernel_rfl)) ?_
    refine take 12 rfl (by kernel_rfl) (by kernel_rfl) (by kernel_rfl) (by repeat first | exact sR | exact sN | apply sC | apply sS | apply sA) (Ev.load (xv := h.src) ty24 (.t rfl) (ptsVar (by repeat first | exact mH | apply mT | apply mA) SHeader.l_src)) ?_
    refine take 14 rfl (by kernel_rfl) (by kernel_rfl) (by kernel_rfl) (by repeat first | exact sR | exact sN | apply sC | apply sS | apply sA) (Ev.fieldAddr (o := 17) (.t rfl) (by kernel_rfl)) ?_
    refine take 15 rfl (by kernel_rfl) (by kernel_rfl) (by kernel_rfl) (by repeat first | exact sR | exact sN | apply sC | apply sS | apply sA) (Ev.load (xv := h.dst) ty24 (.t rfl) (ptsVar (by repeat first | exact mH | apply mT | apply mA) SHeader.l_dst)) ?_
    refine take 17 rfl (by kernel_rfl) (by kernel_rfl) (by kernel_rfl) (by repeat first | exact sR | exact sN | apply sC | apply sS | apply sA) (Ev.move (.t rfl)) ?_
    refine all [1, 10] (by kernel_rfl) (by decide) (.cons rfl ?_ (.cons rfl ?_ .nil))
    · refine (callo en44 (.cons (.t rfl) (.cons (.c (v := I 4) rfl) .nil)) (fun w I => bytes_ok _ _ w (by decide)) (fun v2 => ?_))
      refine heldN_of (by repeat first | exact sR | exact sN | apply sC | apply sS | apply sA) ?_
      refine all [5, 10] (by kernel_rfl) (by decide) (.cons rfl ?_ (.cons rfl ?_ .nil))
      · refine (callo en44 (.cons (.t rfl) (.cons (.c (v := I 2) rfl) .nil)) (fun w I => bytes_ok _ _ w (by decide)) (fun v3 => ?_))
        refine heldN_of (by repeat first | exact sR | exact sN | apply sC | apply sS | apply sA) ?_
        refine all [10, 13] (by kernel_rfl) (by decide) (.cons rfl ?_ (.cons rfl ?_ .nil))
        · refine (buildSlice (E := u8E) Try.underlying27 ty5 z5 (.cons (.t rfl) (.cons (.t rfl) .nil)) rfl rfl (fun v4 => ?_))
          refine heldN_of (by repeat first | exact sR | exact sN | apply sC | apply sS | apply sA) ?_
          refine all [13] (by kernel_rfl) (by decide) (.cons rfl ?_ .nil)
          refine (callo en45 (.cons (.t rfl) .nil) (fun w I => rbytes_ok _ w) (fun v5 => ?_))
          refine heldN_of (by repeat first | exact sR | exact sN | apply sC | apply sS | apply sA) ?_
          refine all [16] (by kernel_rfl) (by decide) (.cons rfl ?_ .nil)
          refine (callo en45 (.cons (.t rfl) .nil) (fun w I => rbytes_ok _ w) (fun v6 => ?_))
          refine heldN_of (by repeat first | exact sR | exact sN | apply sC | apply sS | apply sA) ?_
          refine all [18] (by kernel_rfl) (by decide) (.cons rfl ?_ .nil)
          refine (buildSlice (E := (ovE nilSl)) Try.underlying79 ty27 z27 (.cons (.t rfl) (.cons (.t rfl) (.cons (.t rfl) (.cons (.t rfl) (.cons (.t rfl) (.cons (.t rfl) .nil)))))) rfl rfl (fun v7 => ?_))
          refine heldN_of (by repeat first | exact sR | exact sN | apply sC | apply sS | apply sA) ?_
          refine all [19] (by kernel_rfl) (by decide) (.cons rfl ?_ .nil)
          refine (callo en43 (.cons (.t rfl) .nil) (fun w I => join_ok _ _ w (IsSS.mk' (isSl_own (by repeat first | exact mH | apply mT | apply mA) w I) (.cons (isSl_own (by repeat first | exact mH | apply mT | apply mA) w I) (.cons (isSl_own (by repeat first | exact mH | apply mT | apply mA) w I) (.cons (isSl_own (by repeat first | exact mH | apply mT | apply mA) w I) (.cons (isSl_own (by repeat first | exact mH | apply mT | apply mA) w I) (.cons (isSl_own (by repeat first | exact mH | apply mT | apply mA) w I) (.cons (isSl_body ho (fun r hr => by repeat first | exact hr | exact List.mem_append_left _ hr | apply List.Mem.tail | apply List.mem_append_right) (fun w I => hd.keep0 I.keeps) w I) .nil))))))) (by simp [putB_length]; try omega)) (fun v8 => ?_))
          refine heldN_of (by repeat first | exact sR | exact sN | apply sC | apply sS | apply sA) ?_
          refine take 20 rfl (by kernel_rfl) (by kernel_rfl) (by kernel_rfl) (by repeat first | exact sR | exact sN | apply sC | apply sS | apply sA) (Ev.assign (.t rfl)) ?_
          refine over (by kernel_rfl) ?_
          refine pN ?_
          refine ret ?_
          refine pR ?_
          refine done rfl (.tmp rfl .nil) (retOE (by repeat first | exact mH | apply mT | apply mA) ?_)
          rw [makeB_six h d hv (checkH_id h _ hc hv)]
          simp only [List.flatten_cons, List.flatten_nil, List.append_nil]
          rfl
        · refine (callo en45 (.cons (.t rfl) .nil) (fun w I => rbytes_ok _ w) (fun v9 => ?_))
          refine heldN_of (by repeat first | exact sR | exact sN | apply sC | apply sS | apply sA) ?_
          refine all [10, 16] (by kernel_rfl) (by decide) (.cons rfl ?_ (.cons rfl ?_ .nil))
          · refine (buildSlice (E := u8E) Try.underlying27 ty5 z5 (.cons (.t rfl) (.cons (.t rfl) .nil)) rfl rfl (fun v10 => ?_))
            refine heldN_of (by repeat first | exact sR | exact sN | apply sC | apply sS | apply sA) ?_
            refine all [16] (by kernel_rfl) (by decide) (.cons rfl ?_ .nil)
            refine (callo en45 (.cons (.t rfl) .nil) (fun w I => rbytes_ok _ w) (fun v11 => ?_))
            refine heldN_of (by repeat first | exact sR | exact sN | apply sC | apply sS | apply sA) ?_
            refine all [18] (by kernel_rfl) (by decide) (.cons rfl ?_ .nil)
            refine (buildSlice (E := (ovE nilSl)) Try.underlying79 ty27 z27 (.cons (.t rfl) (.cons (.t rfl) (.cons (.t rfl) (.cons (.t rfl) (.cons (.t rfl) (.cons (.t rfl) .nil)))))) rfl rfl (fun v12 => ?_))
            refine heldN_of (by repeat first | exact sR | exact sN | apply sC | apply sS | apply sA) ?_
            refine all [19] (by kernel_rfl) (by decide) (.cons rfl ?_ .nil)
            refine (callo en43 (.cons (.t rfl) .nil) (fun w I => join_ok _ _ w (IsSS.mk' (isSl_own (by repeat first | exact mH | apply mT | apply mA) w I) (.cons (isSl_own (by repeat first | exact mH | apply mT | apply mA) w I) (.cons (isSl_own (by repeat first | exact mH | apply mT | apply mA) w I) (.cons (isSl_own (by repeat first | exact mH | apply mT | apply mA) w I) (.cons (isSl_own (by repeat first | exact mH | apply mT | apply mA) w I) (.cons (isSl_own (by repeat first | exact mH | apply mT | apply mA) w I) (.cons (isSl_body ho (fun r hr => by repeat first | exact hr | exact List.mem_append_left _ hr | apply List.Mem.tail | apply List.mem_append_right) (fun w I => hd.keep0 I.keeps) w I) .nil))))))) (by simp [putB_length]; try omega)) (fun v13 => ?_))
            refine heldN_of (by repeat first | exact sR | exact sN | apply sC | apply sS | apply sA) ?_
            refine take 20 rfl (by kernel_rfl) (by kernel_rfl) (by kernel_rfl) (by repeat first | exact sR | exact sN | apply sC | apply sS | apply sA) (Ev.assign (.t rfl)) ?_
            refine over (by kernel_rfl) ?_
            refine pN ?_
            refine ret ?_
            refine pR ?_
            refine done rfl (.tmp rfl .nil) (retOE (by repeat first | exact mH | apply mT | apply mA) ?_)
            rw [makeB_six h d hv (checkH_id h _ hc hv)]
            simp only [List.flatten_cons, List.flatten_nil, List.append_nil]
            rfl
          · refine (callo en45 (.cons (.t rfl) .nil) (fun w I => rbytes_ok _ w) (fun v14 => ?_))
            refine heldN_of (by repeat first | exact sR | exact sN | apply sC | apply sS | apply sA) ?_
            refine all [10] (by kernel_rfl) (by decide) (.cons rfl ?_ .nil)
            refine (buildSlice (E := u8E) Try.underlying27 ty5 z5 (.cons (.t rfl) (.cons (.t rfl) .nil)) rfl rfl (fun v15 => ?_))
            refine heldN_of (by repeat first | exact sR | exact sN | apply sC | apply sS | apply sA) ?_
            refine all [18] (by kernel_rfl) (by decide) (.cons rfl ?_ .nil)
            refine (buildSlice (E := (ovE nilSl)) Try.underlying79 ty27 z27 (.cons (.t rfl) (.cons (.t rfl) (.cons (.t rfl) (.cons (.t rfl) (.cons (.t rfl) (.cons (.t rfl) .nil)))))) rfl rfl (fun v16 => ?_))
            refine heldN_of (by repeat first | exact sR | exact sN | apply sC | apply sS | apply sA) ?_
            refine all [19] (by kernel_rfl) (by decide) (.cons rfl ?_ .nil)
            refine (callo en43 (.cons (.t rfl) .nil) (fun w I => join_ok _ _ w (IsSS.mk' (isSl_own (by repeat first | exact mH | apply mT | apply mA) w I) (.cons (isSl_own (by repeat first | exact mH | apply mT | apply mA) w I) (.cons (isSl_own (by repeat first | exact mH | apply mT | apply mA) w I) (.cons (isSl_own (by repeat first | exact mH | apply mT | apply mA) w I) (.cons (isSl_own (by repeat first | exact mH | apply mT | apply mA) w I) (.cons (isSl_own (by repeat first | exact mH | apply mT | apply mA) w I) (.cons (isSl_body ho (fun r hr => by repeat first | exact hr | exact List.mem_append_left _ hr | apply List.Mem.tail | apply List.mem_append_right) (fun w I => hd.keep0 I.keeps) w I) .nil))))))) (by simp [putB_length]; try omega)) (fun v17 => ?_))
            refine heldN_of (by repeat first | exact sR | exact sN | apply sC | apply sS | apply sA) ?_
            refine take 20 rfl (by kernel_rfl) (by kernel_rfl) (by kernel_rfl) (by repeat first | exact sR | exact sN | apply sC | apply sS | apply sA) (Ev.assign (.t rfl)) ?_
            refine over (by kernel_rfl) ?_
            refine pN ?_
            refine ret ?_
            refine pR ?_
            refine done rfl (.tmp rfl .nil) (retOE (by repeat first | exact mH | apply mT | apply mA) ?_)
            rw [makeB_six h d hv (checkH_id h _ hc hv)]
            simp only [List.flatten_cons, List.flatten_nil, List.append_nil]
            rfl
      · refine (buildSlice (E := u8E) Try.underlying27 ty5 z5 (.cons (.t rfl) (.cons (.t rfl) .nil)) rfl rfl (fun v18 => ?_))
        refine heldN_of (by repeat first | exact sR | exact sN | apply sC | apply sS | apply sA) ?_
        refine all [5] (by kernel_rfl) (by decide) (.cons rfl ?_ .nil)
        refine (callo en44 (.cons (.t rfl) (.cons (.c (v := I 2) rfl) .nil)) (fun w I => bytes_ok _ _ w (by decide)) (fun v19 => ?_))
        refine heldN_of (by repeat first | exact sR | exact sN | apply sC | apply sS | apply sA) ?_
        refine all [13] (by kernel_rfl) (by decide) (.cons rfl ?_ .nil)
        refine (callo en45 (.cons (.t rfl) .nil) (fun w I => rbytes_ok _ w) (fun v20 => ?_))
        refine heldN_of (by repeat first | exact sR | exact sN | apply sC | apply sS | apply sA) ?_
        refine all [16] (by kernel_rfl) (by decide) (.cons rfl ?_ .nil)
        refine (callo en45 (.cons (.t rfl) .nil) (fun w I => rbytes_ok _ w) (fun v21 => ?_))
        refine heldN_of (by repeat first | exact sR | exact sN | apply sC | apply sS | apply sA) ?_
        refine all [18] (by kernel_rfl) (by decide) (.cons rfl ?_ .nil)
        refine (buildSlice (E := (ovE nilSl)) Try.underlying79 ty27 z27 (.cons (.t rfl) (.cons (.t rfl) (.cons (.t rfl) (.cons (.t rfl) (.cons (.t rfl) (.cons (.t rfl) .nil)))))) rfl rfl (fun v22 => ?_))
        refine heldN_of (by repeat first | exact sR | exact sN | apply sC | apply sS | apply sA) ?_
        refine all [19] (by kernel_rfl) (by decide) (.cons rfl ?_ .nil)
        refine (callo en43 (.cons (.t rfl) .nil) (fun w I => join_ok _ _ w (IsSS.mk' (isSl_own (by repeat first | exact mH | apply mT | apply mA) w I) (.cons (isSl_own (by repeat first | exact mH | apply mT | apply mA) w I) (.cons (isSl_own (by repeat first | exact mH | apply mT | apply mA) w I) (.cons (isSl_own (by repeat first | exact mH | apply mT | apply mA) w I) (.cons (isSl_own (by repeat first | exact mH | apply mT | apply mA) w I) (.cons (isSl_own (by repeat first | exact mH | apply mT | apply mA) w I) (.cons (isSl_body ho (fun r hr => by repeat first | exact hr | exact List.mem_append_left _ hr | apply List.Mem.tail | apply List.mem_append_right) (fun w I => hd.keep0 I.keeps) w I) .nil))))))) (by simp [putB_length]; try omega)) (fun v23 => ?_))
        refine heldN_of (by repeat first | exact sR | exact sN | apply sC | apply sS | apply sA) ?_
        refine take 20 rfl (by kernel_rfl) (by kernel_rfl) (by kernel_rfl) (by repeat first | exact sR | exact sN | apply sC | apply sS | apply sA) (Ev.assign (.t rfl)) ?_
        refine over (by kernel_rfl) ?_
        refine pN ?_
        refine ret ?_
        refine pR ?_
        refine done rfl (.tmp rfl .nil) (retOE (by repeat first | exact mH | apply mT | apply mA) ?_)
        rw [makeB_six h d hv (checkH_id h _ hc hv)]
        simp only [List.flatten_cons, List.flatten_nil, List.append_nil]
        rfl
    · refine (buildSlice (E := u8E) Try.underlying27 ty5 z5 (.cons (.t rfl) (.cons (.t rfl) .nil)) rfl rfl (fun v24 => ?_))
      refine heldN_of (by repeat first | exact sR | exact sN | apply sC | apply sS | apply sA) ?_
      refine all [1] (by kernel_rfl) (by decide) (.cons rfl ?_ .nil)
      refine (callo en44 (.cons (.t rfl) (.cons (.c (v := I 4) rfl) .nil)) (fun w I => bytes_ok _ _ w (by decide)) (fun v25 => ?_))
      refine heldN_of (by repeat first | exact sR | exact sN | apply sC | apply sS | apply sA) ?_
      refine all [5] (by kernel_rfl) (by decide) (.cons rfl ?_ .nil)
      refine (callo en44 (.cons (.t rfl) (.cons (.c (v := I 2) rfl) .nil)) (fun w I => bytes_ok _ _ w (by decide)) (fun v26 => ?_))
      refine heldN_of (by repeat first | exact sR | exact sN | apply sC | apply sS | apply sA) ?_
      refine all [13] (by kernel_rfl) (by decide) (.cons rfl ?_ .nil)
      refine (callo en45 (.cons (.t rfl) .nil) (fun w I => rbytes_ok _ w) (fun v27 => ?_))
      refine heldN_of (by repeat first | exact sR | exact sN | apply sC | apply sS | apply sA) ?_
      refine all [16] (by kernel_rfl) (by decide) (.cons rfl ?_ .nil)
      refine (callo en45 (.cons (.t rfl) .nil) (fun w I => rbytes_ok _ w) (fun v28 => ?_))
      refine heldN_of (by repeat first | exact sR | exact sN | apply sC | apply sS | apply sA) ?_
      refine all [18] (by kernel_rfl) (by decide) (.cons rfl ?_ .nil)
      refine (buildSlice (E := (ovE nilSl)) Try.underlying79 ty27 z27 (.cons (.t rfl) (.cons (.t rfl) (.cons (.t rfl) (.cons (.t rfl) (.cons (.t rfl) (.cons (.t rfl) .nil)))))) rfl rfl (fun v29 => ?_))
      refine heldN_of (by repeat first | exact sR | exact sN | apply sC | apply sS | apply sA) ?_
      refine all [19] (by kernel_rfl) (by decide) (.cons rfl ?_ .nil)
      refine (callo en43 (.cons (.t rfl) .nil) (fun w I => join_ok _ _ w (IsSS.mk' (isSl_own (by repeat first | exact mH | apply mT | apply mA) w I) (.cons (isSl_own (by repeat first | exact mH | apply mT | apply mA) w I) (.cons (isSl_own (by repeat first | exact mH | apply mT | apply mA) w I) (.cons (isSl_own (by repeat first | exact mH | apply mT | apply mA) w I) (.cons (isSl_own (by repeat first | exact mH | apply mT | apply mA) w I) (.cons (isSl_own (by repeat first | exact mH | apply mT | apply mA) w I) (.cons (isSl_body ho (fun r hr => by repeat first | exact hr | exact List.mem_append_left _ hr | apply List.Mem.tail | apply List.mem_append_right) (fun w I => hd.keep0 I.keeps) w I) .nil))))))) (by simp [putB_length]; try omega)) (fun v30 => ?_))
      refine heldN_of (by repeat first | exact sR | exact sN | apply sC | apply sS | apply sA) ?_
      refine take 20 rfl (by kernel_rfl) (by kernel_rfl) (by kernel_rfl) (by repeat first | exact sR | exact sN | apply sC | apply sS | apply sA) (Ev.assign (.t rfl)) ?_
      refine over (by kernel_rfl) ?_
      refine pN ?_
      refine ret ?_
      refine pR ?_
      refine done rfl (.tmp rfl .nil) (retOE (by repeat first | exact mH | apply mT | apply mA) ?_)
      rw [makeB_six h d hv (checkH_id h _ hc hv)]
      simp only [List.flatten_cons, List.flatten_nil, List.append_nil]
      rfl
  · try simp only [Bool.and_eq_true, Bool.or_eq_true, Bool.or_eq_false_iff, Bool.and_eq_false_iff, Bool.not_eq_true', Bool.not_eq_false', decide_eq_true_eq, decide_eq_false_iff_not, Decidable.not_not] at h1
    have hv : h.src.v6 = false := by simpa using h1
    refine skip ?_
    refine pN ?_
    refine seq ?_
    refine region ?_
    refine cons (opv (Ev.move (.t rfl)) ?_)
    refine cons (opv (Ev.len Try.underlying27 (.t rfl) (fun w I => (isSl_body ho (fun r hr => by repeat first | exact hr | exact List.mem_append_left _ hr | apply List.Mem.tail | apply List.mem_append_right) (fun w I => hd.keep0 I.keeps) w I))) ?_)
    refine cons (opv (Ev.add_i (.c (v := I 20) rfl) (.t rfl) (fun _ => by omega)) ?_)
    refine cons (opv (Ev.assign (.t rfl)) ?_)
    refine nil ?_
    refine pN ?_
    refine seq ?_
    refine draw' (by kernel_rfl) ?_
    refine take 0 rfl (by kernel_rfl) (by kernel_rfl) (by kernel_rfl) (by repeat first | exact sR | exact sN | apply sC | apply sS | apply sA) (Ev.load (xv := h) ty29 (.t rfl) (ptsVar (by repeat first | exact mH | apply mT | apply mA) (Lens.id _))) ?_
    refine take 1 rfl (by kernel_rfl) (by kernel_rfl) (by kernel_rfl) (by repeat first | exact sR | exact sN | apply sC | apply sS | apply sA) (Ev.move (.t rfl)) ?_
    refine take 2 rfl (by kernel_rfl) (by kernel_rfl) (by kernel_rfl) (by repeat first | exact sR | exact sN | apply sC | apply sS | apply sA) (Ev.load (xv := h) ty29 (.t rfl) (ptsVar (by repeat first | exact mH | apply mT | apply mA) (Lens.id _))) ?_
    refine take 3 rfl (by kernel_rfl) (by kernel_rfl) (by kernel_rfl) (by repeat first | exact sR | exact sN | apply sC | apply sS | apply sA) (Ev.move (.t rfl)) ?_
    refine take 7 rfl (by kernel_rfl) (by kernel_rfl) (by kernel_rfl) (by repeat first | exact sR | exact sN | apply sC | apply sS | apply sA) (Ev.move (.t rfl)) ?_
    refine all [4] (by kernel_rfl) (by decide) (.cons rfl ?_ .nil)
    refine (callo en46 (.cons (.t rfl) (.cons (.t rfl) (.cons (.c (v := U16 0) rfl) .nil))) (fun w I => rfour_ok _ _ _ w) (fun v31 => ?_))
    refine heldN_of (by repeat first | exact sR | exact sN | apply sC | apply sS | apply sA) ?_
    refine all [5] (by kernel_rfl) (by decide) (.cons rfl ?_ .nil)
    refine (callv en47 (.cons (.t rfl) .nil) (fun w I => rsum_ok _ _ w (by first | exact isSl_own (by repeat first | exact mH | apply mT | apply mA) w I | exact IsSl.keep0 (by assumption) I.keeps)) ?_)
    refine heldN_of (by repeat first | exact sR | exact sN | apply sC | apply sS | apply sA) ?_
    refine all [6] (by kernel_rfl) (by decide) (.cons rfl ?_ .nil)
    refine (callo en46 (.cons (.t rfl) (.cons (.t rfl) (.cons (.t rfl) .nil))) (fun w I => rfour_ok _ _ _ w) (fun v32 => ?_))
    refine heldN_of (by repeat first | exact sR | exact sN | apply sC | apply sS | apply sA) ?_
    refine all [8] (by kernel_rfl) (by decide) (.cons rfl ?_ .nil)
    refine (buildSlice (E := (ovE nilSl)) Try.underlying79 ty27 z27 (.cons (.t rfl) (.cons (.t rfl) .nil)) rfl rfl (fun v33 => ?_))
    refine heldN_of (by repeat first | exact sR | exact sN | apply sC | apply sS | apply sA) ?_
    refine all [9] (by kernel_rfl) (by decide) (.cons rfl ?_ .nil)
    refine (callo en43 (.cons (.t rfl) .nil) (fun w I => join_ok _ _ w (IsSS.mk' (isSl_own (by repeat first | exact mH | apply mT | apply mA) w I) (.cons (isSl_own (by repeat first | exact mH | apply mT | apply mA) w I) (.cons (isSl_body ho (fun r hr => by repeat first | exact hr | exact List.mem_append_left _ hr | apply List.Mem.tail | apply List.mem_append_right) (fun w I => hd.keep0 I.keeps) w I) .nil))) (by simp [putB_length]; have := hff (20 + (bodyB h d (restS h d)).length) (sumB (fourB h (20 + (bodyB h d (restS h d)).length) 0)); omega)) (fun v34 => ?_))
    refine heldN_of (by repeat first | exact sR | exact sN | apply sC | apply sS | apply sA) ?_
    refine take 10 rfl (by kernel_rfl) (by kernel_rfl) (by kernel_rfl) (by repeat first | exact sR | exact sN | apply sC | apply sS | apply sA) (Ev.assign (.t rfl)) ?_
    refine over (by kernel_rfl) ?_
    refine pN ?_
    refine ret ?_
    refine done rfl (.tmp rfl .nil) (retOE (by repeat first | exact mH | apply mT | apply mA) ?_)
    rw [makeB_four h d hv]
    simp only [List.flatten_cons, List.flatten_nil, List.append_nil]
end Go.Proofs.Ytegcihhhighipaa
