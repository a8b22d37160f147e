/- octets -/
import Derived.Test.YtcmpdhggeilkfaaO9
set_option linter.unusedVariables false
set_option linter.unusedSimpArgs false
namespace Go.Proofs.Ytcmpdhggeilkfaa
open Go Go.Gx

theorem even_cut (b : List UInt8) : (b.take (b.length - b.length % 2)).length % 2 = 0 := by simp; omega
theorem sum_behind (l : List UInt8) (hl : l.length ≤ 140737488351232) (he : l.length % 2 = 0) : sumB (l ++ putB 2 (sumB l).toUInt64) = 0 := by
  obtain ⟨x, y, hxy, hs⟩ := put2_val (sumB l)
  have h1 := sumB_eq (l := l) (by omega)
  have h2 := foldN_le (sumN true l)
  have h3 := foldN_mod (sumN true l)
  have h4 : (sumB l).toNat = 65535 - foldN (sumN true l) := by rw [h1, UInt16.toNat_ofNat']; omega
  have h6 : sumN true l = 0 → foldN (sumN true l) = 0 := fun h => by rw [h]; rfl
  have h7 : (l ++ [x, y]).length ≤ 200000000000000 := by
    rw [List.length_append]
    have : [x, y].length = 2 := rfl
    omega
  rw [hxy, sumB_eq h7, sumN_even he, sumN_two, hs, h4]
  have h5 : foldN (sumN true l + (65535 - foldN (sumN true l))) = 65535 := by
    generalize foldN (sumN true l) = f at *
    unfold foldN
    rw [if_neg (by omega)]
    omega
  rw [h5]
  rfl
theorem drop_two (l : List UInt8) (i : Nat) (h : i + 1 < l.length) : l.drop i = [l.getD i 0, l.getD (i + 1) 0] ++ l.drop (i + 2) := by
  rw [List.drop_eq_getElem_cons (by omega), List.drop_eq_getElem_cons h]
  simp [List.getD, h, show i < l.length by omega]
theorem cut_three (b : List UInt8) (i j : Nat) (h : i ≤ j) (hj : j ≤ b.length) : b.take i ++ ((b.take j).drop i ++ ([] ++ (b.drop j ++ []))) = b := by
  rw [List.nil_append, List.append_nil, ← List.append_assoc]
  have h1 : b.take i = (b.take j).take i := by rw [List.take_take, Nat.min_eq_left h]
  rw [h1, List.take_append_drop, List.take_append_drop]

theorem OctetsParts_walk (u : OV) (b : List UInt8) (p0 q0 : Int) (w : World) (hb : IsSl u8E w u.v b) (hl : b.length ≤ 140737488351232) (hp : Fit p0) (hq : Fit q0) : Calls Try.prog 6 #[u.v, I p0, I q0] w (RetV w (.bool true)) := by
  have hbl := hb.le
  have hp2 := hp
  have hq2 := hq
  unfold Fit at hp2 hq2
  refine enter0 103 Try.func6 rfl rfl (Nat.le_of_ble_eq_true rfl) ?_
  refine seq ?_
  refine region ?_
  refine cons (opv (Ev.assign (.c (v := .bool false) rfl)) ?_)
  refine nil ?_
  refine pN ?_
  refine seq ?_
  refine seq ?_
  refine region ?_
  refine cons (callv en22 .nil (fun w I => works_ok w) ?_)
  refine cons (opv (Ev.not (.t rfl)) ?_)
  refine nil ?_
  refine pN ?_
  first | refine condD rfl (fun h0 => ?_) (fun h0 => ?_) | refine cond rfl (fun h0 => ?_) (fun h0 => ?_)
  · simp at h0
  · refine skip ?_
    refine pN ?_
    refine seq ?_
    refine region ?_
    obtain ⟨i, hi⟩ : ∃ i : Nat, min (max p0 0) (b.length : Int) = (i : Int) := ⟨(min (max p0 0) (b.length : Int)).toNat, by omega⟩
    obtain ⟨j, hj⟩ : ∃ j : Nat, min (max q0 (i : Int)) (b.length : Int) = (j : Int) := ⟨(min (max q0 (i : Int)) (b.length : Int)).toNat, by omega⟩
    have hij : i ≤ j := by omega
    have hjb : j ≤ b.length := by omega
    have hsI : IsSl u8E w (OV.sub u8E.size u 0 (i : Int).toNat).v (b.take i) := by simpa using hb.sub (l := 0) (k := i) (by omega) (by omega)
    have hsJ : IsSl u8E w (OV.sub u8E.size u (i : Int).toNat (j : Int).toNat).v ((b.take j).drop i) := hb.sub (l := i) (k := j) (by omega) (by omega)
    have hsK : IsSl u8E w (OV.sub u8E.size u (j : Int).toNat b.length).v (b.drop j) := by simpa using hb.sub (l := j) (k := b.length) (by omega) (by omega)
    have fl1 : [b].flatten = b := by simp
    have hfl : [b.take i, (b.take j).drop i, [], b.drop j].flatten = b := cut_three b i j hij (by omega)
    refine cons (opv (Ev.move (.t rfl)) ?_)
    refine cons (opv (Ev.max_i (.t rfl) (.c (v := I 0) rfl)) ?_)
    refine cons (opv (Ev.move (.t rfl)) ?_)
    refine cons (opv (Ev.len Try.underlying22 (.t rfl) (by first | exact isSl_own (by repeat first | exact List.Mem.head _ | apply List.Mem.tail) | exact fun w I => IsSl.keep0 (by assumption) I.keeps)) ?_)
    refine cons (opv (Ev.to (v' := I (i : Nat)) (Ev.min_i (.t rfl) (.t rfl)) (by rw [hi])) ?_)
    refine cons (opv (Ev.assign (.t rfl)) ?_)
    refine nil ?_
    refine pN ?_
    refine seq ?_
    refine region ?_
    refine cons (opv (Ev.move (.t rfl)) ?_)
    refine cons (opv (Ev.move (.t rfl)) ?_)
    refine cons (opv (Ev.max_i (.t rfl) (.t rfl)) ?_)
    refine cons (opv (Ev.move (.t rfl)) ?_)
    refine cons (opv (Ev.len Try.underlying22 (.t rfl) (by first | exact isSl_own (by repeat first | exact List.Mem.head _ | apply List.Mem.tail) | exact fun w I => IsSl.keep0 (by assumption) I.keeps)) ?_)
    refine cons (opv (Ev.to (v' := I (j : Nat)) (Ev.min_i (.t rfl) (.t rfl)) (by rw [hj])) ?_)
    refine cons (opv (Ev.assign (.t rfl)) ?_)
    refine nil ?_
    refine pN ?_
    refine seq ?_
    refine region ?_
    refine cons (opv (Ev.move (.t rfl)) ?_)
    refine cons (buildSlice (E := (ovE nilSl)) Try.underlying33 ty22 z22 (.cons (.t rfl) .nil) rfl rfl (fun v1 => ?_))
    refine cons (callv en29 (.cons (.t rfl) .nil) (fun w I => sum_ok _ [b] w (IsSS.mk' (isSl_own (by repeat first | exact List.Mem.head _ | apply List.Mem.tail) w I) (.cons (hb.keep0 I.keeps) .nil))) ?_)
    refine cons (opv (Ev.move (.t rfl)) ?_)
    refine cons (buildSlice (E := (ovE nilSl)) Try.underlying33 ty22 z22 (.cons (.t rfl) .nil) rfl rfl (fun v2 => ?_))
    refine cons (callv en31 (.cons (.t rfl) .nil) (fun w I => hash_ok _ [b] w (IsSS.mk' (isSl_own (by repeat first | exact List.Mem.head _ | apply List.Mem.tail) w I) (.cons (hb.keep0 I.keeps) .nil))) ?_)
    refine cons (opv (Ev.assign (.t rfl)) ?_)
    refine cons (opv (Ev.assign (.t rfl)) ?_)
    refine nil ?_
    refine pN ?_
    refine seq ?_
    refine seq ?_
    refine draw' (by kernel_rfl) ?_
    refine take 0 rfl (by kernel_rfl) (by kernel_rfl) (by kernel_rfl) (by repeat first | exact List.Sublist.refl _ | apply List.Sublist.cons_cons | apply List.Sublist.cons) (Ev.move (.t rfl)) ?_
    refine take 1 rfl (by kernel_rfl) (by kernel_rfl) (by kernel_rfl) (by repeat first | exact List.Sublist.refl _ | apply List.Sublist.cons_cons | apply List.Sublist.cons) (Ev.move (.t rfl)) ?_
    refine take 2 rfl (by kernel_rfl) (by kernel_rfl) (by kernel_rfl) (by repeat first | exact List.Sublist.refl _ | apply List.Sublist.cons_cons | apply List.Sublist.cons) (Ev.to (v' := (OV.sub u8E.size u 0 (i : Int).toNat).v) (Ev.sliceH Try.underlying22 ty5 (.t rfl) (.t rfl) (by first | exact isSl_own (by repeat first | exact List.Mem.head _ | apply List.Mem.tail) | exact fun w I => IsSl.keep0 (by assumption) I.keeps) (fun _ => by omega)) (rfl)) ?_
    refine take 3 rfl (by kernel_rfl) (by kernel_rfl) (by kernel_rfl) (by repeat first | exact List.Sublist.refl _ | apply List.Sublist.cons_cons | apply List.Sublist.cons) (Ev.move (.t rfl)) ?_
    refine take 4 rfl (by kernel_rfl) (by kernel_rfl) (by kernel_rfl) (by repeat first | exact List.Sublist.refl _ | apply List.Sublist.cons_cons | apply List.Sublist.cons) (Ev.move (.t rfl)) ?_
    refine take 5 rfl (by kernel_rfl) (by kernel_rfl) (by kernel_rfl) (by repeat first | exact List.Sublist.refl _ | apply List.Sublist.cons_cons | apply List.Sublist.cons) (Ev.move (.t rfl)) ?_
    refine take 6 rfl (by kernel_rfl) (by kernel_rfl) (by kernel_rfl) (by repeat first | exact List.Sublist.refl _ | apply List.Sublist.cons_cons | apply List.Sublist.cons) (Ev.to (v' := (OV.sub u8E.size u (i : Int).toNat (j : Int).toNat).v) (Ev.slice Try.underlying22 ty5 (.t rfl) (.t rfl) (.t rfl) (by first | exact isSl_own (by repeat first | exact List.Mem.head _ | apply List.Mem.tail) | exact fun w I => IsSl.keep0 (by assumption) I.keeps) (fun _ => by omega)) (rfl)) ?_
    refine take 7 rfl (by kernel_rfl) (by kernel_rfl) (by kernel_rfl) (by repeat first | exact List.Sublist.refl _ | apply List.Sublist.cons_cons | apply List.Sublist.cons) (Ev.move (.t rfl)) ?_
    refine take 8 rfl (by kernel_rfl) (by kernel_rfl) (by kernel_rfl) (by repeat first | exact List.Sublist.refl _ | apply List.Sublist.cons_cons | apply List.Sublist.cons) (Ev.move (.t rfl)) ?_
    refine take 9 rfl (by kernel_rfl) (by kernel_rfl) (by kernel_rfl) (by repeat first | exact List.Sublist.refl _ | apply List.Sublist.cons_cons | apply List.Sublist.cons) (Ev.to (v' := (OV.sub u8E.size u (j : Int).toNat b.length).v) (Ev.sliceL Try.underlying22 ty5 (.t rfl) (.t rfl) (by first | exact isSl_own (by repeat first | exact List.Mem.head _ | apply List.Mem.tail) | exact fun w I => IsSl.keep0 (by assumption) I.keeps) (fun _ => by omega)) (rfl)) ?_
    refine take 12 rfl (by kernel_rfl) (by kernel_rfl) (by kernel_rfl) (by repeat first | exact List.Sublist.refl _ | apply List.Sublist.cons_cons | apply List.Sublist.cons) (Ev.move (.t rfl)) ?_
    refine all [10] (by kernel_rfl) (by decide) (.cons rfl ?_ .nil)
    refine (buildSlice (E := (ovE nilSl)) Try.underlying33 ty22 z22 (.cons (.t rfl) (.cons (.t rfl) (.cons (.c (v := (ovE nilSl).val (ovE nilSl).zero) rfl) (.cons (.t rfl) .nil)))) rfl rfl (fun v3 => ?_))
    refine heldN_of (by repeat first | exact List.Sublist.refl _ | apply List.Sublist.cons_cons | apply List.Sublist.cons) ?_
    refine all [11] (by kernel_rfl) (by decide) (.cons rfl ?_ .nil)
    refine (callv en29 (.cons (.t rfl) .nil) (fun w I => sum_ok _ [b.take i, (b.take j).drop i, [], b.drop j] w (IsSS.mk' (isSl_own (by repeat first | exact List.Mem.head _ | apply List.Mem.tail) w I) (.cons (hsI.keep0 I.keeps) (.cons (hsJ.keep0 I.keeps) (.cons (IsSl.nil _ w) (.cons (hsK.keep0 I.keeps) .nil)))))) ?_)
    refine heldN_of (by repeat first | exact List.Sublist.refl _ | apply List.Sublist.cons_cons | apply List.Sublist.cons) ?_
    refine take 13 rfl (by kernel_rfl) (by kernel_rfl) (by kernel_rfl) (by repeat first | exact List.Sublist.refl _ | apply List.Sublist.cons_cons | apply List.Sublist.cons) (Ev.to (v' := .bool false) (Ev.neq_u16 (.t rfl) (.t rfl)) (by rw [hfl, fl1]; simp)) ?_
    refine take 14 rfl (by kernel_rfl) (by kernel_rfl) (by kernel_rfl) (by repeat first | exact List.Sublist.refl _ | apply List.Sublist.cons_cons | apply List.Sublist.cons) (Ev.to (v' := .bool false) (Ev.move (.t rfl)) (rfl)) ?_
    refine takeg 15 rfl (by kernel_rfl) (by kernel_rfl) (by kernel_rfl) (by repeat first | exact List.Sublist.refl _ | apply List.Sublist.cons_cons | apply List.Sublist.cons) rfl rfl (Ev.move (.t rfl)) ?_
    refine takeg 16 rfl (by kernel_rfl) (by kernel_rfl) (by kernel_rfl) (by repeat first | exact List.Sublist.refl _ | apply List.Sublist.cons_cons | apply List.Sublist.cons) rfl rfl (Ev.move (.t rfl)) ?_
    refine takeg 17 rfl (by kernel_rfl) (by kernel_rfl) (by kernel_rfl) (by repeat first | exact List.Sublist.refl _ | apply List.Sublist.cons_cons | apply List.Sublist.cons) rfl rfl (Ev.to (v' := (OV.sub u8E.size u 0 (i : Int).toNat).v) (Ev.sliceH Try.underlying22 ty5 (.g rfl id) (.g rfl id) (by first | exact isSl_own (by repeat first | exact List.Mem.head _ | apply List.Mem.tail) | exact fun w I => IsSl.keep0 (by assumption) I.keeps) (fun _ => by first | omega | (rename_i hg; simp at hg; omega))) (rfl)) ?_
    refine takeg 18 rfl (by kernel_rfl) (by kernel_rfl) (by kernel_rfl) (by repeat first | exact List.Sublist.refl _ | apply List.Sublist.cons_cons | apply List.Sublist.cons) rfl rfl (Ev.move (.t rfl)) ?_
    refine takeg 19 rfl (by kernel_rfl) (by kernel_rfl) (by kernel_rfl) (by repeat first | exact List.Sublist.refl _ | apply List.Sublist.cons_cons | apply List.Sublist.cons) rfl rfl (Ev.move (.t rfl)) ?_
    refine takeg 20 rfl (by kernel_rfl) (by kernel_rfl) (by kernel_rfl) (by repeat first | exact List.Sublist.refl _ | apply List.Sublist.cons_cons | apply List.Sublist.cons) rfl rfl (Ev.move (.t rfl)) ?_
    refine takeg 21 rfl (by kernel_rfl) (by kernel_rfl) (by kernel_rfl) (by repeat first | exact List.Sublist.refl _ | apply List.Sublist.cons_cons | apply List.Sublist.cons) rfl rfl (Ev.to (v' := (OV.sub u8E.size u (i : Int).toNat (j : Int).toNat).v) (Ev.slice Try.underlying22 ty5 (.g rfl id) (.g rfl id) (.g rfl id) (by first | exact isSl_own (by repeat first | exact List.Mem.head _ | apply List.Mem.tail) | exact fun w I => IsSl.keep0 (by assumption) I.keeps) (fun _ => by first | omega | (rename_i hg; simp at hg; omega))) (rfl)) ?_
    refine takeg 22 rfl (by kernel_rfl) (by kernel_rfl) (by kernel_rfl) (by repeat first | exact List.Sublist.refl _ | apply List.Sublist.cons_cons | apply List.Sublist.cons) rfl rfl (Ev.move (.t rfl)) ?_
    refine takeg 23 rfl (by kernel_rfl) (by kernel_rfl) (by kernel_rfl) (by repeat first | exact List.Sublist.refl _ | apply List.Sublist.cons_cons | apply List.Sublist.cons) rfl rfl (Ev.move (.t rfl)) ?_
    refine takeg 24 rfl (by kernel_rfl) (by kernel_rfl) (by kernel_rfl) (by repeat first | exact List.Sublist.refl _ | apply List.Sublist.cons_cons | apply List.Sublist.cons) rfl rfl (Ev.to (v' := (OV.sub u8E.size u (j : Int).toNat b.length).v) (Ev.sliceL Try.underlying22 ty5 (.g rfl id) (.g rfl id) (by first | exact isSl_own (by repeat first | exact List.Mem.head _ | apply List.Mem.tail) | exact fun w I => IsSl.keep0 (by assumption) I.keeps) (fun _ => by first | omega | (rename_i hg; simp at hg; omega))) (rfl)) ?_
    refine takeg 27 rfl (by kernel_rfl) (by kernel_rfl) (by kernel_rfl) (by repeat first | exact List.Sublist.refl _ | apply List.Sublist.cons_cons | apply List.Sublist.cons) rfl rfl (Ev.move (.t rfl)) ?_
    refine all [25] (by kernel_rfl) (by decide) (.cons rfl ?_ .nil)
    refine (opgT rfl rfl rfl ?_)
    refine (buildSlice (E := (ovE nilSl)) Try.underlying33 ty22 z22 (.cons (.g rfl id) (.cons (.g rfl id) (.cons (.c (v := (ovE nilSl).val (ovE nilSl).zero) rfl) (.cons (.g rfl id) .nil)))) rfl rfl (fun v4 => ?_))
    refine heldN_of (by repeat first | exact List.Sublist.refl _ | apply List.Sublist.cons_cons | apply List.Sublist.cons) ?_
    refine all [26] (by kernel_rfl) (by decide) (.cons rfl ?_ .nil)
    refine (callg rfl rfl en31 (.cons (.t rfl) .nil) (fun hg w I => hash_ok _ [b.take i, (b.take j).drop i, [], b.drop j] w (IsSS.mk' (isSl_own (by repeat first | exact List.Mem.head _ | apply List.Mem.tail) w I) (.cons (hsI.keep0 I.keeps) (.cons (hsJ.keep0 I.keeps) (.cons (IsSl.nil _ w) (.cons (hsK.keep0 I.keeps) .nil)))))) ?_)
    refine heldN_of (by repeat first | exact List.Sublist.refl _ | apply List.Sublist.cons_cons | apply List.Sublist.cons) ?_
    refine takeg 28 rfl (by kernel_rfl) (by kernel_rfl) (by kernel_rfl) (by repeat first | exact List.Sublist.refl _ | apply List.Sublist.cons_cons | apply List.Sublist.cons) rfl rfl (Ev.neq_u64 (.g rfl id) (.g rfl id)) ?_
    refine take 29 rfl (by kernel_rfl) (by kernel_rfl) (by kernel_rfl) (by repeat first | exact List.Sublist.refl _ | apply List.Sublist.cons_cons | apply List.Sublist.cons) (Ev.pickO (.t rfl) (.c (v := .bool true) rfl) (fun {_} h => by cases h; rfl) ⟨_, rfl⟩ (by intro h1 h; first | (rw [h] <;> rfl) | (rw [h, h1] <;> rfl) | simp_all)) ?_
    refine over (by kernel_rfl) ?_
    refine pN ?_
    first | refine condD rfl (fun h1 => ?_) (fun h1 => ?_) | refine cond rfl (fun h1 => ?_) (fun h1 => ?_)
    · exfalso
      rw [hfl, fl1] at h1
      simp at h1
    · refine skip ?_
      refine pN ?_
      refine seq ?_
      refine region ?_
      obtain ⟨m, hm⟩ : ∃ m : Nat, (b.length : Int) - (b.length : Int) % 2 = (m : Int) := ⟨((b.length : Int) - (b.length : Int) % 2).toNat, by omega⟩
      have hmb : m ≤ b.length := by omega
      have hE : IsSl u8E w (OV.sub u8E.size u 0 (m : Int).toNat).v (b.take m) := by simpa using hb.sub (l := 0) (k := m) (by omega) (by omega)
      have hEe : (b.take m).length % 2 = 0 := by simp; omega
      have hEl : (b.take m).length = m := by simp; omega
      generalize hEd : b.take m = E at hE hEe hEl
      refine cons (opv (Ev.move (.t rfl)) ?_)
      refine cons (opv (Ev.move (.t rfl)) ?_)
      refine cons (opv (Ev.len Try.underlying22 (.t rfl) (by first | exact isSl_own (by repeat first | exact List.Mem.head _ | apply List.Mem.tail) | exact fun w I => IsSl.keep0 (by assumption) I.keeps)) ?_)
      refine cons (opv (Ev.move (.t rfl)) ?_)
      refine cons (opv (Ev.len Try.underlying22 (.t rfl) (by first | exact isSl_own (by repeat first | exact List.Mem.head _ | apply List.Mem.tail) | exact fun w I => IsSl.keep0 (by assumption) I.keeps)) ?_)
      refine cons (opv (Ev.rem_n (.t rfl) (.c (v := I 2) rfl) (fun _ => by omega) (fun _ => by omega)) ?_)
      refine cons (opv (Ev.to (v' := I (m : Nat)) (Ev.sub_i (.t rfl) (.t rfl) (fun _ => by omega)) (by rw [hm])) ?_)
      refine cons (opv (Ev.to (v' := (OV.sub u8E.size u 0 (m : Int).toNat).v) (Ev.sliceH Try.underlying22 ty5 (.t rfl) (.t rfl) (by first | exact isSl_own (by repeat first | exact List.Mem.head _ | apply List.Mem.tail) | exact fun w I => IsSl.keep0 (by assumption) I.keeps) (fun _ => by omega)) (rfl)) ?_)
      refine cons (opv (Ev.assign (.t rfl)) ?_)
      refine nil ?_
      refine pN ?_
      refine seq ?_
      refine seq ?_
      refine region ?_
      refine cons (opv (Ev.move (.t rfl)) ?_)
      refine cons (opv (Ev.move (.t rfl)) ?_)
      refine cons (buildSlice (E := (ovE nilSl)) Try.underlying33 ty22 z22 (.cons (.t rfl) .nil) rfl rfl (fun v5 => ?_))
      refine cons (callv en29 (.cons (.t rfl) .nil) (fun w I => sum_ok _ [E] w (IsSS.mk' (isSl_own (by repeat first | exact List.Mem.head _ | apply List.Mem.tail) w I) (.cons (hE.keep0 I.keeps) .nil))) ?_)
      refine cons (callo en14 (.cons (.c (v := (Go.Value.slice none 0 0)) rfl) (.cons (.t rfl) .nil)) (fun w I => put_uint16_ok _ _ _ w (IsSl.nil _ w) (by first | assumption | omega | (simp [putB_length]; done) | (simp [putB_length]; omega))) (fun v6 => ?_))
      refine cons (buildSlice (E := (ovE nilSl)) Try.underlying33 ty22 z22 (.cons (.t rfl) (.cons (.t rfl) .nil)) rfl rfl (fun v7 => ?_))
      refine cons (callv en29 (.cons (.t rfl) .nil) (fun w I => sum_ok _ [E, _] w (IsSS.mk' (isSl_own (by repeat first | exact List.Mem.head _ | apply List.Mem.tail) w I) (.cons (hE.keep0 I.keeps) (.cons (isSl_own (by repeat first | exact List.Mem.head _ | apply List.Mem.tail) w I) .nil)))) ?_)
      refine cons (opv (Ev.neq_u16 (.t rfl) (.c (v := U16 0) rfl)) ?_)
      refine nil ?_
      refine pN ?_
      first | refine condD rfl (fun h2 => ?_) (fun h2 => ?_) | refine cond rfl (fun h2 => ?_) (fun h2 => ?_)
      · exfalso
        simp only [List.flatten_cons, List.flatten_nil, List.append_nil, List.nil_append, sum_behind E (by omega) hEe] at h2
        simp at h2
      · refine skip ?_
        refine pN ?_
        refine seq ?_
        refine region ?_
        refine cons (opv (Ev.assign (.c (v := (Go.Value.slice none 0 0)) rfl)) ?_)
        refine takeNil u8E 5 ?_
        refine nil ?_
        refine pN ?_
        refine seq ?_
        refine seq ?_
        refine region ?_
        refine cons (opv (Ev.move (.t rfl)) ?_)
        refine cons (opv (Ev.len Try.underlying22 (.t rfl) (fun w I => hE.keep0 I.keeps)) ?_)
        refine cons (opv (Ev.sub_i (.t rfl) (.c (v := I 2) rfl) (fun _ => by omega)) ?_)
        refine cons (opv (Ev.assign (.t rfl)) ?_)
        refine nil ?_
        refine pN ?_
        refine block ?_
        refine loop (X := Int × OV × (List UInt8)) (fun x : Int × OV × (List UInt8) => (-2 ≤ x.1 ∧ x.1 ≤ m - 2 ∧ x.1 % 2 = 0) ∧ (x.2.2.length + (x.1 + 2) = m) ∧ (sumN true x.2.2 = sumN true (E.drop (x.1 + 2).toNat))) (fun x : Int × OV × (List UInt8) => [(9, true, (OV.sub u8E.size u 0 (m : Int).toNat).v), (10, true, x.2.1.v), (11, true, I x.1)]) (fun x : Int × OV × (List UInt8) => [OwnS x.2.1.v u8E x.2.2 5]) (fun x : Int × OV × (List UInt8) => (x.1 + 2).toNat) (_, nilSl, _) ⟨?_, ?_, ?_⟩ (by repeat first | exact Sub.nil | refine Sub.cons rfl ?_) (by repeat first | exact List.Sublist.refl _ | apply List.Sublist.cons_cons | apply List.Sublist.cons) (fun x hx => ?_)
        · omega
        · (simp; omega)
        · show sumN true [] = sumN true (E.drop ((E.length : Int) - 2 + 2).toNat)
          rw [List.drop_eq_nil_of_le (by omega)]
        obtain ⟨k, o, xs⟩ := x
        obtain ⟨hk, hx, hs⟩ : (-2 ≤ k ∧ k ≤ m - 2 ∧ k % 2 = 0) ∧ (xs.length + (k + 2) = m) ∧ (sumN true xs = sumN true (E.drop (k + 2).toNat)) := hx
        show Sat _ _ [(9, true, (OV.sub u8E.size u 0 (m : Int).toNat).v), (10, true, o.v), (11, true, I k)] [OwnS o.v u8E xs 5]
        refine seq ?_
        refine seq ?_
        refine region ?_
        refine cons (opv (Ev.move (.t rfl)) ?_)
        refine cons (opv (Ev.geq_i (.t rfl) (.c (v := I 0) rfl)) ?_)
        refine nil ?_
        refine pN ?_
        first | refine condD rfl (fun hlt => ?_) (fun hge => ?_) | refine cond rfl (fun hlt => ?_) (fun hge => ?_)
        · try simp only [Bool.and_eq_true, Bool.or_eq_true, Bool.or_eq_false_iff, Bool.and_eq_false_iff, Bool.not_eq_true', Bool.not_eq_false', decide_eq_true_eq, decide_eq_false_iff_not, Decidable.not_not] at hlt
          refine skip ?_
          refine pN ?_
          refine seq ?_
          refine block ?_
          refine drawR Rem.head (by kernel_rfl) ?_
          refine take 0 rfl (by kernel_rfl) (by kernel_rfl) (by kernel_rfl) (by repeat first | exact List.Sublist.refl _ | apply List.Sublist.cons_cons | apply List.Sublist.cons) (Ev.move (.t rfl)) ?_
          refine take 1 rfl (by kernel_rfl) (by kernel_rfl) (by kernel_rfl) (by repeat first | exact List.Sublist.refl _ | apply List.Sublist.cons_cons | apply List.Sublist.cons) (Ev.move (.t rfl)) ?_
          refine take 2 rfl (by kernel_rfl) (by kernel_rfl) (by kernel_rfl) (by repeat first | exact List.Sublist.refl _ | apply List.Sublist.cons_cons | apply List.Sublist.cons) (Ev.move (.t rfl)) ?_
          refine take 3 rfl (by kernel_rfl) (by kernel_rfl) (by kernel_rfl) (by repeat first | exact List.Sublist.refl _ | apply List.Sublist.cons_cons | apply List.Sublist.cons) (Ev.indexAddr Try.underlying22 ty5 (.t rfl) (.t rfl) (fun w I => hE.keep0 I.keeps) (fun _ => by omega)) ?_
          refine take 4 rfl (by kernel_rfl) (by kernel_rfl) (by kernel_rfl) (by repeat first | exact List.Sublist.refl _ | apply List.Sublist.cons_cons | apply List.Sublist.cons) (Ev.loadS0 ty5 (.t rfl) (fun w I => hE.keep0 I.keeps) (fun _ => by omega)) ?_
          refine take 5 rfl (by kernel_rfl) (by kernel_rfl) (by kernel_rfl) (by repeat first | exact List.Sublist.refl _ | apply List.Sublist.cons_cons | apply List.Sublist.cons) (Ev.move (.t rfl)) ?_
          refine take 6 rfl (by kernel_rfl) (by kernel_rfl) (by kernel_rfl) (by repeat first | exact List.Sublist.refl _ | apply List.Sublist.cons_cons | apply List.Sublist.cons) (Ev.move (.t rfl)) ?_
          refine take 7 rfl (by kernel_rfl) (by kernel_rfl) (by kernel_rfl) (by repeat first | exact List.Sublist.refl _ | apply List.Sublist.cons_cons | apply List.Sublist.cons) (Ev.add_i (.t rfl) (.c (v := I 1) rfl) (fun _ => by omega)) ?_
          refine take 8 rfl (by kernel_rfl) (by kernel_rfl) (by kernel_rfl) (by repeat first | exact List.Sublist.refl _ | apply List.Sublist.cons_cons | apply List.Sublist.cons) (Ev.indexAddr Try.underlying22 ty5 (.t rfl) (.t rfl) (fun w I => hE.keep0 I.keeps) (fun _ => by omega)) ?_
          refine take 9 rfl (by kernel_rfl) (by kernel_rfl) (by kernel_rfl) (by repeat first | exact List.Sublist.refl _ | apply List.Sublist.cons_cons | apply List.Sublist.cons) (Ev.loadS0 ty5 (.t rfl) (fun w I => hE.keep0 I.keeps) (fun _ => by omega)) ?_
          refine all [10] (by kernel_rfl) (by decide) (.cons rfl ?_ .nil)
          refine (buildSlice (E := u8E) Try.underlying22 ty5 z5 (.cons (.t rfl) (.cons (.t rfl) .nil)) rfl rfl (fun v8 => ?_))
          refine heldN_of (by repeat first | exact List.Sublist.refl _ | apply List.Sublist.cons_cons | apply List.Sublist.cons) ?_
          refine all [11] (by kernel_rfl) (by decide) (.cons rfl ?_ .nil)
          refine (append (E := u8E) Try.underlying22 ty5 rfl zb5 zs5 (.t rfl) (.t rfl) (fun _ => by repeat first | exact Upd.head | apply Upd.tail) (by first | exact isSl_own (by repeat first | exact List.Mem.head _ | apply List.Mem.tail) | exact fun w I => IsSl.keep0 (by assumption) I.keeps) (⟨by (show _ ≤ 9223372036854775807); first | omega | (simp; omega), by first | omega | (simp; omega)⟩) (fun v9 => ?_))
          refine heldN_of (by repeat first | exact List.Sublist.refl _ | apply List.Sublist.cons_cons | apply List.Sublist.cons) ?_
          refine take 12 rfl (by kernel_rfl) (by kernel_rfl) (by kernel_rfl) (by repeat first | exact List.Sublist.refl _ | apply List.Sublist.cons_cons | apply List.Sublist.cons) (Ev.assign (.t rfl)) ?_
          refine over (by kernel_rfl) ?_
          refine bN ?_
          refine pN ?_
          refine region ?_
          refine cons (opv (Ev.move (.t rfl)) ?_)
          refine cons (opv (Ev.sub_i (.t rfl) (.c (v := I 2) rfl) (fun _ => by omega)) ?_)
          refine cons (opv (Ev.assign (.t rfl)) ?_)
          refine nil ?_
          refine pN ?_
          refine next (X := Int × OV × (List UInt8)) (k - 2, _, _) ⟨?_, ?_, ?_⟩ ?_ (by repeat first | exact Sub.nil | refine Sub.cons rfl ?_) (by repeat first | exact List.Sublist.refl _ | apply List.Sublist.cons_cons | apply List.Sublist.cons)
          · try dsimp only
            omega
          · try dsimp only
            (simp; omega)
          · try dsimp only
            have e0 : (k - 2 + 2).toNat = k.toNat := by omega
            have e1 : (k + 1).toNat = k.toNat + 1 := by omega
            have e2 : (k + 2).toNat = k.toNat + 2 := by omega
            rw [sumN_even (by omega), hs, e0, e2, drop_two E k.toNat (by omega), sumN_even (by simp), e1, Nat.add_comm]
            rfl
          · try dsimp only
            omega
        · try simp only [Bool.and_eq_true, Bool.or_eq_true, Bool.or_eq_false_iff, Bool.and_eq_false_iff, Bool.not_eq_true', Bool.not_eq_false', decide_eq_true_eq, decide_eq_false_iff_not, Decidable.not_not] at hge
          refine exit ?_
          refine pX ?_
          refine pX ?_
          refine bX ?_
          refine pN ?_
          refine seq ?_
          refine region ?_
          refine cons (opv (Ev.move (.t rfl)) ?_)
          refine cons (buildSlice (E := (ovE nilSl)) Try.underlying33 ty22 z22 (.cons (.t rfl) .nil) rfl rfl (fun v10 => ?_))
          refine cons (callv en29 (.cons (.t rfl) .nil) (fun w I => sum_ok _ [_] w (IsSS.mk' (isSl_own (by repeat first | exact List.Mem.head _ | apply List.Mem.tail) w I) (.cons (isSl_own (by repeat first | exact List.Mem.head _ | apply List.Mem.tail) w I) .nil))) ?_)
          refine cons (opv (Ev.move (.t rfl)) ?_)
          refine cons (buildSlice (E := (ovE nilSl)) Try.underlying33 ty22 z22 (.cons (.t rfl) .nil) rfl rfl (fun v11 => ?_))
          refine cons (callv en29 (.cons (.t rfl) .nil) (fun w I => sum_ok _ [E] w (IsSS.mk' (isSl_own (by repeat first | exact List.Mem.head _ | apply List.Mem.tail) w I) (.cons (hE.keep0 I.keeps) .nil))) ?_)
          refine cons (opv (Ev.eql_u16 (.t rfl) (.t rfl)) ?_)
          refine cons (opv (Ev.assign (.t rfl)) ?_)
          refine nil ?_
          refine pN ?_
          refine ret ?_
          refine done rfl (.tmp rfl .nil) (retE ?_)
          refine congrArg Value.bool ?_
          have e : (k + 2).toNat = 0 := by omega
          rw [e, List.drop_zero] at hs
          simp only [List.flatten_cons, List.flatten_nil, List.append_nil]
          rw [sumB_eq (by omega), sumB_eq (by omega), hs]
          simp
end Go.Proofs.Ytcmpdhggeilkfaa
