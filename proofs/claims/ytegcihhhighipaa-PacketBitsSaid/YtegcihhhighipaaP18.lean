/- packet -/
import Derived.Test.YtegcihhhighipaaP17
set_option linter.unusedVariables false
set_option linter.unusedSimpArgs false
namespace Go.Proofs.Ytegcihhhighipaa
open Go Go.Gx

theorem adrV_vec (b : List UInt8) (p : Int) (hp : 0 ≤ p) (h : p + 16 ≤ b.length) : adrV b p 16 = vecOf 16 (cut4 b p.toNat (p + 16).toNat) 0 := by
  apply Vector.ext
  intro i hi
  have e1 : (i : Int) < 16 := by omega
  have e2 : i < (p + 16).toNat - p.toNat := by omega
  have e3 : p.toNat + i < (p + 16).toNat := by omega
  simp only [adrV, vecOf, cut4, Vector.getElem_ofFn, e1, if_true, List.getD_eq_getElem?_getD, List.getElem?_drop, List.getElem?_take, if_pos e3]
theorem adrV_cpy (b : List UInt8) (p : Int) (hp : 0 ≤ p) (h : p + 4 ≤ b.length) : adrV b p 4 = cpyV (Vector.replicate 16 0) (cut4 b p.toNat (p + 4).toNat) 0 := by
  apply Vector.ext
  intro i hi
  have hl : (cut4 b p.toNat (p + 4).toNat).length = 4 := by unfold cut4; simp; omega
  by_cases h4 : i < 4
  · have e1 : (i : Int) < 4 := by omega
    have e3 : p.toNat + i < (p + 4).toNat := by omega
    simp only [adrV, cpyV, Vector.getElem_ofFn, e1, if_true, hl, h4]
    simp only [cut4, List.getD_eq_getElem?_getD, List.getElem?_drop, List.getElem?_take, if_pos e3]
  · have e1 : ¬ (i : Int) < 4 := by omega
    simp only [adrV, cpyV, Vector.getElem_ofFn, e1, if_false, hl, h4, Fin.getElem_fin, Vector.getElem_replicate]
theorem two_bytes (b : List UInt8) (p : Nat) (h : p + 2 ≤ b.length) : (b.take (p + 2)).drop p = [b.getD p 0, b.getD (p + 1) 0] := by
  apply List.ext_getElem
  · simp; omega
  · intro i h1 h2
    have : i = 0 ∨ i = 1 := by simp at h2; omega
    rcases this with rfl | rfl
    · simp [List.getD, show p < b.length by omega]
    · simp [List.getD, show p + 1 < b.length by omega]
theorem numB_two (x y : UInt8) : numB [x, y] = x.toUInt64 * 256 + y.toUInt64 := by simp [numB]
theorem part_iff (x y : UInt8) : (numB [x, y]).toUInt16 = 16384 ↔ x = 64 ∧ y = 0 := by
  rw [numB_two]
  have hx := x.toNat_lt
  have hy := y.toNat_lt
  constructor
  · intro h
    have h2 := congrArg UInt16.toNat h
    simp at h2
    constructor
    · apply UInt8.toNat_inj.1
      simp
      omega
    · apply UInt8.toNat_inj.1
      simp
      omega
  · rintro ⟨rfl, rfl⟩
    decide
theorem num16 (x : UInt64) (h : x.toNat < 65536) : (x.toUInt16.toNat : Int) = x.toNat := by simp; omega
theorem num16_32 (x : UInt64) (h : x.toNat < 65536) : UInt32.ofInt (x.toNat : Int) = x.toUInt16.toUInt32 := by
  apply UInt32.toNat_inj.1
  simp [UInt32.ofInt]
  omega
theorem num32_8 (x : UInt64) (h : x.toNat < 4294967296) : UInt8.ofInt ((x.toNat : Int) / 2 ^ 20) = (shr32 x.toUInt32 20).toUInt8 := by
  apply UInt8.toNat_inj.1
  simp [UInt8.ofInt, shr32]
  omega
theorem num32_20 (x : UInt64) (h : x.toNat < 4294967296) : UInt32.ofInt ((x.toNat : Int) % 1048576) = x.toUInt32 &&& 1048575 := by
  apply UInt32.toNat_inj.1
  rw [UInt32.toNat_and]
  have e : (1048575 : UInt32).toNat = 2 ^ 20 - 1 := by decide
  rw [e, Nat.and_two_pow_sub_one_eq_mod]
  simp [UInt32.ofInt]
  omega
theorem quo16 (x : UInt8) : (x / 16 = 4 ↔ shr8 x 4 = 4) ∧ (x / 16 = 6 ↔ shr8 x 4 = 6) := by
  have e : shr8 x 4 = x / 16 := by
    apply UInt8.toNat_inj.1
    have := x.toNat_lt
    simp [shr8]
    omega
  rw [e]
  exact ⟨Iff.rfl, Iff.rfl⟩

theorem numB_lt2 (b : List UInt8) (p : Int) (h : 0 ≤ p ∧ p + 2 ≤ b.length) : (numB ((b.take (p + 2).toNat).drop p.toNat)).toNat < 65536 := by
  have h1 := numB_lt ((b.take (p + 2).toNat).drop p.toNat) (by simp; omega)
  have h2 : ((b.take (p + 2).toNat).drop p.toNat).length = 2 := by simp; omega
  rw [h2] at h1
  omega
theorem two_eq (b : List UInt8) (p : Int) (h : 0 ≤ p ∧ p + 2 ≤ b.length) : ((takeB b p 2).1.toUInt16.toNat : Int) = (numB ((b.take (p + 2).toNat).drop p.toNat)).toNat := by
  rw [takeB_num b p 2 h]
  exact num16 _ (numB_lt2 b p h)
theorem hd6_eq (b : List UInt8) (h : 40 ≤ b.length) : hd6 b = { eHeader.zero with class_ := UInt8.ofInt (((numB ((b.take (0 + 4 : Int).toNat).drop (Int.toNat 0))).toNat : Int) / 2 ^ 20), id := UInt32.ofInt (((numB ((b.take (0 + 4 : Int).toNat).drop (Int.toNat 0))).toNat : Int) % 1048576), proto := b.getD 6 0, tTL := b.getD 7 0, src := ⟨true, adrV b 8 16⟩, dst := ⟨true, adrV b 24 16⟩ } := by
  have hx := numB_small b 0 4 (by omega)
  unfold hd6
  have t : (takeB b 0 4).1 = numB ((b.take (0 + 4 : Int).toNat).drop (Int.toNat 0)) := takeB_num b 0 4 (by omega)
  rw [t, ← num32_8 _ hx, ← num32_20 _ hx, adrV_vec b 8 (by decide) (by omega), adrV_vec b 24 (by decide) (by omega)]
  rfl
theorem hd4_eq (b : List UInt8) (h : 20 ≤ b.length) : hd4 b = { eHeader.zero with class_ := b.getD 1 0, id := UInt32.ofInt ((numB ((b.take (4 + 2 : Int).toNat).drop (Int.toNat 4))).toNat : Int), tTL := b.getD 8 0, proto := b.getD 9 0, src := ⟨false, adrV b 12 4⟩, dst := ⟨false, adrV b 16 4⟩ } := by
  have hx := numB_lt2 b 4 (by omega)
  unfold hd4
  rw [takeB_num b 4 2 (by omega), adrV_cpy b 12 (by decide) (by omega), adrV_cpy b 16 (by decide) (by omega)]
  have e := num16_32 _ hx
  simp only [SHeader.mk.injEq, and_true, true_and]
  exact ⟨rfl, rfl, e.symm⟩
theorem part_eq (b : List UInt8) (h : 20 ≤ b.length) : (takeB b 6 2).1.toUInt16 = 16384 ↔ b.getD 6 0 = 64 ∧ b.getD 7 0 = 0 := by
  rw [takeB_num b 6 2 (by omega)]
  have e : (b.take ((6 : Int) + (2 : Nat)).toNat).drop (Int.toNat 6) = [b.getD 6 0, b.getD 7 0] := two_bytes b 6 (by omega)
  rw [e]
  exact part_iff _ _

theorem en64 : Enters Try.prog 64 := Enters.mk' (by kernel_rfl)

theorem en68 : Enters Try.prog 68 := Enters.mk' (by kernel_rfl)

set_option maxHeartbeats 2000000 in
theorem rfronted_ok (u : Value) (b : List UInt8) (w : World) (hb : IsSl u8E w u b) : Calls Try.prog 63 #[u] w (RetV w (.tuple #[eHeader.val (frontB b).1, I (frontB b).2.1, I (frontB b).2.2])) := by
  have hbl := hb.le
  have hx16 := numB_small b 4 2
  have hx32 := numB_small b 0 4
  refine enter0 94 Try.func63 rfl rfl (Nat.le_of_ble_eq_true rfl) ?_
  refine seq ?_
  refine region ?_
  refine cons (alloc z29 (fun b1 => ?_))
  refine cons (opv (Ev.assign (.c (v := I 0) rfl)) ?_)
  refine cons (opv (Ev.assign (.c (v := I 0) rfl)) ?_)
  refine nil ?_
  refine pN ?_
  refine seq ?_
  refine seq ?_
  refine region ?_
  refine cons (opv (Ev.move (.t rfl)) ?_)
  refine cons (opv (Ev.len Try.underlying27 (.t rfl) (by first | exact isSl_own (by repeat first | exact mH | apply mT | apply mA) | exact fun w I => IsSl.keep0 (by assumption) I.keeps)) ?_)
  refine cons (opv (Ev.eql_i (.t rfl) (.c (v := I 0) rfl)) ?_)
  refine nil ?_
  refine pN ?_
  first | refine condD rfl (fun h0 => ?_) (fun h0 => ?_) | refine cond rfl (fun h0 => ?_) (fun h0 => ?_)
  · try simp only [Bool.and_eq_true, Bool.or_eq_true, Bool.or_eq_false_iff, Bool.and_eq_false_iff, Bool.not_eq_true', Bool.not_eq_false', decide_eq_true_eq, decide_eq_false_iff_not, Decidable.not_not] at h0
    refine seq ?_
    refine region ?_
    refine cons (opv (Ev.buildS (fs := _) (places := [(0, 17), (17, 17), (34, 1), (35, 1), (36, 1), (37, 1), (38, 1), (39, 1), (40, 1), (41, 1), (42, 1)]) z29 rfl Try.underlying29 (by kernel_rfl) .nil Fills.nil) ?_)
    refine cons (storeV ty29 (Lens.id _) (.t rfl) (.t rfl) (by repeat first | exact Upd.head | apply Upd.tail | apply Upd.right) ?_)
    refine cons (opv (Ev.assign (.c (v := I 0) rfl)) ?_)
    refine cons (opv (Ev.assign (.c (v := I 160) rfl)) ?_)
    refine nil ?_
    refine pN ?_
    refine ret ?_
    refine pR ?_
    refine done rfl (.cell rfl (fun w I => run_loadVar_pts ty29 (ptsVar (by repeat first | exact mH | apply mT | apply mA) (Lens.id _) w I)) (.tmp rfl (.tmp rfl .nil))) (retE ?_)
    have e : frontB b = (eHeader.zero, 0, 160) := by
      unfold frontB
      rw [if_pos (by omega)]
    rw [e]; rfl
  · try simp only [Bool.and_eq_true, Bool.or_eq_true, Bool.or_eq_false_iff, Bool.and_eq_false_iff, Bool.not_eq_true', Bool.not_eq_false', decide_eq_true_eq, decide_eq_false_iff_not, Decidable.not_not] at h0
    refine skip ?_
    refine pN ?_
    refine seq ?_
    refine region ?_
    refine cons (opv (Ev.move (.t rfl)) ?_)
    refine cons (opv (Ev.indexAddr Try.underlying27 ty5 (.t rfl) (.c (v := I 0) rfl) (by first | exact isSl_own (by repeat first | exact mH | apply mT | apply mA) | exact fun w I => IsSl.keep0 (by assumption) I.keeps) (fun _ => by omega)) ?_)
    refine cons (opv (Ev.loadS0 (i := 0) ty5 (.t rfl) (by first | exact isSl_own (by repeat first | exact mH | apply mT | apply mA) | exact fun w I => IsSl.keep0 (by assumption) I.keeps) (fun _ => by omega)) ?_)
    refine cons (opv (Ev.quo_u8 (.t rfl) (.c (v := U8 16) rfl) (fun _ => by decide)) ?_)
    refine cons (opv (Ev.assign (.t rfl)) ?_)
    refine nil ?_
    refine pN ?_
    refine seq ?_
    refine seq ?_
    refine region ?_
    refine cons (opv (Ev.move (.t rfl)) ?_)
    refine cons (opv (Ev.neq_u8 (.t rfl) (.c (v := U8 4) rfl)) ?_)
    refine cons (opv (Ev.move (.t rfl)) ?_)
    refine cons (opg rfl rfl (Ev.move (.t rfl)) ?_)
    refine cons (opg rfl rfl (Ev.neq_u8 (.g rfl id) (.c (v := U8 6) rfl)) ?_)
    refine cons (opv (Ev.pickA (.t rfl) (fun {_} h => by cases h; rfl) ⟨_, rfl⟩ (by intro h1 h; first | (rw [h] <;> rfl) | (rw [h1, h] <;> rfl) | (rw [h, h1] <;> rfl) | simp_all) (.c (v := .bool false) rfl)) ?_)
    refine nil ?_
    refine pN ?_
    first | refine condD rfl (fun h1 => ?_) (fun h1 => ?_) | refine cond rfl (fun h1 => ?_) (fun h1 => ?_)
    · try simp only [Bool.and_eq_true, Bool.or_eq_true, Bool.or_eq_false_iff, Bool.and_eq_false_iff, Bool.not_eq_true', Bool.not_eq_false', decide_eq_true_eq, decide_eq_false_iff_not, Decidable.not_not] at h1
      refine seq ?_
      refine region ?_
      refine cons (opv (Ev.buildS (fs := _) (places := [(0, 17), (17, 17), (34, 1), (35, 1), (36, 1), (37, 1), (38, 1), (39, 1), (40, 1), (41, 1), (42, 1)]) z29 rfl Try.underlying29 (by kernel_rfl) .nil Fills.nil) ?_)
      refine cons (storeV ty29 (Lens.id _) (.t rfl) (.t rfl) (by repeat first | exact Upd.head | apply Upd.tail | apply Upd.right) ?_)
      refine cons (opv (Ev.assign (.c (v := I 0) rfl)) ?_)
      refine cons (opv (Ev.assign (.c (v := I 161) rfl)) ?_)
      refine nil ?_
      refine pN ?_
      refine ret ?_
      refine pR ?_
      refine done rfl (.cell rfl (fun w I => run_loadVar_pts ty29 (ptsVar (by repeat first | exact mH | apply mT | apply mA) (Lens.id _) w I)) (.tmp rfl (.tmp rfl .nil))) (retE ?_)
      have n0 : ¬ b.length = 0 := by omega
      have e : frontB b = (eHeader.zero, 0, 161) := by
        unfold frontB
        rw [if_neg n0, if_neg (fun k => h1.1 ((quo16 (b.getD 0 0)).1.2 k)), if_neg (fun k => h1.2 ((quo16 (b.getD 0 0)).2.2 k))]
      rw [e]; rfl
    · try simp only [Bool.and_eq_true, Bool.or_eq_true, Bool.or_eq_false_iff, Bool.and_eq_false_iff, Bool.not_eq_true', Bool.not_eq_false', decide_eq_true_eq, decide_eq_false_iff_not, Decidable.not_not] at h1
      refine skip ?_
      refine pN ?_
      refine seq ?_
      refine seq ?_
      refine region ?_
      refine cons (opv (Ev.move (.t rfl)) ?_)
      refine cons (opv (Ev.eql_u8 (.t rfl) (.c (v := U8 6) rfl)) ?_)
      refine nil ?_
      refine pN ?_
      first | refine condD rfl (fun h2 => ?_) (fun h2 => ?_) | refine cond rfl (fun h2 => ?_) (fun h2 => ?_)
      · try simp only [Bool.and_eq_true, Bool.or_eq_true, Bool.or_eq_false_iff, Bool.and_eq_false_iff, Bool.not_eq_true', Bool.not_eq_false', decide_eq_true_eq, decide_eq_false_iff_not, Decidable.not_not] at h2
        refine seq ?_
        refine seq ?_
        refine region ?_
        refine cons (opv (Ev.move (.t rfl)) ?_)
        refine cons (opv (Ev.len Try.underlying27 (.t rfl) (by first | exact isSl_own (by repeat first | exact mH | apply mT | apply mA) | exact fun w I => IsSl.keep0 (by assumption) I.keeps)) ?_)
        refine cons (opv (Ev.lss_i (.t rfl) (.c (v := I 40) rfl)) ?_)
        refine nil ?_
        refine pN ?_
        first | refine condD rfl (fun h3 => ?_) (fun h3 => ?_) | refine cond rfl (fun h3 => ?_) (fun h3 => ?_)
        · try simp only [Bool.and_eq_true, Bool.or_eq_true, Bool.or_eq_false_iff, Bool.and_eq_false_iff, Bool.not_eq_true', Bool.not_eq_false', decide_eq_true_eq, decide_eq_false_iff_not, Decidable.not_not] at h3
          refine seq ?_
          refine region ?_
          refine cons (opv (Ev.buildS (fs := _) (places := [(0, 17), (17, 17), (34, 1), (35, 1), (36, 1), (37, 1), (38, 1), (39, 1), (40, 1), (41, 1), (42, 1)]) z29 rfl Try.underlying29 (by kernel_rfl) .nil Fills.nil) ?_)
          refine cons (storeV ty29 (Lens.id _) (.t rfl) (.t rfl) (by repeat first | exact Upd.head | apply Upd.tail | apply Upd.right) ?_)
          refine cons (opv (Ev.assign (.c (v := I 0) rfl)) ?_)
          refine cons (opv (Ev.assign (.c (v := I 160) rfl)) ?_)
          refine nil ?_
          refine pN ?_
          refine ret ?_
          refine pR ?_
          refine pR ?_
          refine done rfl (.cell rfl (fun w I => run_loadVar_pts ty29 (ptsVar (by repeat first | exact mH | apply mT | apply mA) (Lens.id _) w I)) (.tmp rfl (.tmp rfl .nil))) (retE ?_)
          have n0 : ¬ b.length = 0 := by omega
          have e : frontB b = (eHeader.zero, 0, 160) := by
            unfold frontB
            rw [if_neg n0, if_neg (fun k => absurd (h2.symm.trans ((quo16 (b.getD 0 0)).1.2 k)) (by decide)), if_pos ((quo16 (b.getD 0 0)).2.1 h2), if_pos (by omega)]
          rw [e]; rfl
        · try simp only [Bool.and_eq_true, Bool.or_eq_true, Bool.or_eq_false_iff, Bool.and_eq_false_iff, Bool.not_eq_true', Bool.not_eq_false', decide_eq_true_eq, decide_eq_false_iff_not, Decidable.not_not] at h3
          refine skip ?_
          refine pN ?_
          refine seq ?_
          refine region ?_
          refine cons (opv (Ev.move (.t rfl)) ?_)
          refine cons (callv en64 (.cons (.t rfl) (.cons (.c (v := I 0) rfl) (.cons (.c (v := I 4) rfl) .nil))) (fun w I => rnumber_ok _ _ _ _ w (by first | exact isSl_own (by repeat first | exact mH | apply mT | apply mA) w I | exact IsSl.keep0 (by assumption) I.keeps) (by first | omega | (simp; omega))) ?_)
          refine cons (opv (Ev.assign (.t rfl)) ?_)
          refine nil ?_
          refine pN ?_
          refine seq ?_
          refine draw' (by kernel_rfl) ?_
          refine take 0 rfl (by kernel_rfl) (by kernel_rfl) (by kernel_rfl) (by repeat first | exact sR | exact sN | apply sC | apply sS | apply sA) (Ev.move (.t rfl)) ?_
          refine take 1 rfl (by kernel_rfl) (by kernel_rfl) (by kernel_rfl) (by repeat first | exact sR | exact sN | apply sC | apply sS | apply sA) (Ev.shr_i (.t rfl) (.c rfl) (fun _ => by decide)) ?_
          refine take 2 rfl (by kernel_rfl) (by kernel_rfl) (by kernel_rfl) (by repeat first | exact sR | exact sN | apply sC | apply sS | apply sA) (Ev.conv_i_u8 Try.underlying5 Try.underlying3 (.t rfl)) ?_
          refine take 3 rfl (by kernel_rfl) (by kernel_rfl) (by kernel_rfl) (by repeat first | exact sR | exact sN | apply sC | apply sS | apply sA) (Ev.move (.t rfl)) ?_
          refine take 4 rfl (by kernel_rfl) (by kernel_rfl) (by kernel_rfl) (by repeat first | exact sR | exact sN | apply sC | apply sS | apply sA) (Ev.rem_n (.t rfl) (.c (v := I 1048576) rfl) (fun _ => by omega) (fun _ => by omega)) ?_
          refine take 5 rfl (by kernel_rfl) (by kernel_rfl) (by kernel_rfl) (by repeat first | exact sR | exact sN | apply sC | apply sS | apply sA) (Ev.conv_i_u32 Try.underlying26 Try.underlying3 (.t rfl)) ?_
          refine take 6 rfl (by kernel_rfl) (by kernel_rfl) (by kernel_rfl) (by repeat first | exact sR | exact sN | apply sC | apply sS | apply sA) (Ev.move (.t rfl)) ?_
          refine take 7 rfl (by kernel_rfl) (by kernel_rfl) (by kernel_rfl) (by repeat first | exact sR | exact sN | apply sC | apply sS | apply sA) (Ev.indexAddr Try.underlying27 ty5 (.t rfl) (.c (v := I 6) rfl) (by first | exact isSl_own (by repeat first | exact mH | apply mT | apply mA) | exact fun w I => IsSl.keep0 (by assumption) I.keeps) (fun _ => by omega)) ?_
          refine take 8 rfl (by kernel_rfl) (by kernel_rfl) (by kernel_rfl) (by repeat first | exact sR | exact sN | apply sC | apply sS | apply sA) (Ev.loadS0 (i := 6) ty5 (.t rfl) (by first | exact isSl_own (by repeat first | exact mH | apply mT | apply mA) | exact fun w I => IsSl.keep0 (by assumption) I.keeps) (fun _ => by omega)) ?_
          refine take 9 rfl (by kernel_rfl) (by kernel_rfl) (by kernel_rfl) (by repeat first | exact sR | exact sN | apply sC | apply sS | apply sA) (Ev.move (.t rfl)) ?_
          refine take 10 rfl (by kernel_rfl) (by kernel_rfl) (by kernel_rfl) (by repeat first | exact sR | exact sN | apply sC | apply sS | apply sA) (Ev.indexAddr Try.underlying27 ty5 (.t rfl) (.c (v := I 7) rfl) (by first | exact isSl_own (by repeat first | exact mH | apply mT | apply mA) | exact fun w I => IsSl.keep0 (by assumption) I.keeps) (fun _ => by omega)) ?_
          refine take 11 rfl (by kernel_rfl) (by kernel_rfl) (by kernel_rfl) (by repeat first | exact sR | exact sN | apply sC | apply sS | apply sA) (Ev.loadS0 (i := 7) ty5 (.t rfl) (by first | exact isSl_own (by repeat first | exact mH | apply mT | apply mA) | exact fun w I => IsSl.keep0 (by assumption) I.keeps) (fun _ => by omega)) ?_
          refine take 12 rfl (by kernel_rfl) (by kernel_rfl) (by kernel_rfl) (by repeat first | exact sR | exact sN | apply sC | apply sS | apply sA) (Ev.move (.t rfl)) ?_
          refine take 14 rfl (by kernel_rfl) (by kernel_rfl) (by kernel_rfl) (by repeat first | exact sR | exact sN | apply sC | apply sS | apply sA) (Ev.move (.t rfl)) ?_
          refine all [13, 17] (by kernel_rfl) (by decide) (.cons rfl ?_ (.cons rfl ?_ .nil))
          · refine (callv en68 (.cons (.t rfl) (.cons (.c (v := I 8) rfl) (.cons (.c (v := .bool true) rfl) .nil))) (fun w I => raddr_ok _ _ _ _ w (by first | exact isSl_own (by repeat first | exact mH | apply mT | apply mA) w I | exact IsSl.keep0 (by assumption) I.keeps) (by simp; omega)) ?_)
            refine heldN_of (by repeat first | exact sR | exact sN | apply sC | apply sS | apply sA) ?_
            refine all [15, 17] (by kernel_rfl) (by decide) (.cons rfl ?_ (.cons rfl ?_ .nil))
            · refine (callv en68 (.cons (.t rfl) (.cons (.c (v := I 24) rfl) (.cons (.c (v := .bool true) rfl) .nil))) (fun w I => raddr_ok _ _ _ _ w (by first | exact isSl_own (by repeat first | exact mH | apply mT | apply mA) w I | exact IsSl.keep0 (by assumption) I.keeps) (by simp; omega)) ?_)
              refine heldN_of (by repeat first | exact sR | exact sN | apply sC | apply sS | apply sA) ?_
              refine take 16 rfl (by kernel_rfl) (by kernel_rfl) (by kernel_rfl) (by repeat first | exact sR | exact sN | apply sC | apply sS | apply sA) (Ev.buildS (fs := _) (places := [(0, 17), (17, 17), (34, 1), (35, 1), (36, 1), (37, 1), (38, 1), (39, 1), (40, 1), (41, 1), (42, 1)]) z29 rfl Try.underlying29 (by kernel_rfl) (.cons (.t rfl) (.cons (.t rfl) (.cons (.t rfl) (.cons (.t rfl) (.cons (.t rfl) (.cons (.t rfl) .nil)))))) (Fills.cons SHeader.l_class_ rfl (Fills.cons SHeader.l_id rfl (Fills.cons SHeader.l_proto rfl (Fills.cons SHeader.l_tTL rfl (Fills.cons SHeader.l_src rfl (Fills.cons SHeader.l_dst rfl Fills.nil))))))) ?_
              refine all [17] (by kernel_rfl) (by decide) (.cons rfl ?_ .nil)
              refine (alloc z29 (fun b2 => ?_))
              refine heldN_of (by repeat first | exact sR | exact sN | apply sC | apply sS | apply sA) ?_
              refine all [18] (by kernel_rfl) (by decide) (.cons rfl ?_ .nil)
              refine (storeV ty29 (Lens.id _) (.t rfl) (.t rfl) (by repeat first | exact Upd.head | apply Upd.tail | apply Upd.right) ?_)
              refine heldN_of (by repeat first | exact sR | exact sN | apply sC | apply sS | apply sA) ?_
              refine over (by kernel_rfl) ?_
              refine pN ?_
              refine seq ?_
              refine drawS 2 rfl (by repeat first | exact Rem.head | apply Rem.tail) (by kernel_rfl) ?_
              refine take 0 rfl (by kernel_rfl) (by kernel_rfl) (by kernel_rfl) (by repeat first | exact sR | exact sN | apply sC | apply sS | apply sA) (Ev.load ty29 (.t rfl) (ptsVar (by repeat first | exact mH | apply mT | apply mA) (Lens.id _))) ?_
              refine take 1 rfl (by kernel_rfl) (by kernel_rfl) (by kernel_rfl) (by repeat first | exact sR | exact sN | apply sC | apply sS | apply sA) (Ev.move (.t rfl)) ?_
              refine all [2] (by kernel_rfl) (by decide) (.cons rfl ?_ .nil)
              refine (callv en64 (.cons (.t rfl) (.cons (.c (v := I 4) rfl) (.cons (.c (v := I 2) rfl) .nil))) (fun w I => rnumber_ok _ _ _ _ w (by first | exact isSl_own (by repeat first | exact mH | apply mT | apply mA) w I | exact IsSl.keep0 (by assumption) I.keeps) (by first | omega | (simp; omega))) ?_)
              refine heldN_of (by repeat first | exact sR | exact sN | apply sC | apply sS | apply sA) ?_
              refine take 3 rfl (by kernel_rfl) (by kernel_rfl) (by kernel_rfl) (by repeat first | exact sR | exact sN | apply sC | apply sS | apply sA) (Ev.add_i (.c (v := I 40) rfl) (.t rfl) (fun _ => by omega)) ?_
              refine all [4] (by kernel_rfl) (by decide) (.cons rfl ?_ .nil)
              refine (storeV ty29 (Lens.id _) (.t rfl) (.t rfl) (by repeat first | exact Upd.head | apply Upd.tail | apply Upd.right) ?_)
              refine heldN_of (by repeat first | exact sR | exact sN | apply sC | apply sS | apply sA) ?_
              refine take 5 rfl (by kernel_rfl) (by kernel_rfl) (by kernel_rfl) (by repeat first | exact sR | exact sN | apply sC | apply sS | apply sA) (Ev.assign (.t rfl)) ?_
              refine take 6 rfl (by kernel_rfl) (by kernel_rfl) (by kernel_rfl) (by repeat first | exact sR | exact sN | apply sC | apply sS | apply sA) (Ev.assign (.c (v := I 0) rfl)) ?_
              refine over (by kernel_rfl) ?_
              refine pN ?_
              refine ret ?_
              refine pR ?_
              refine done rfl (.cell rfl (fun w I => run_loadVar_pts ty29 (ptsVar (by repeat first | exact mH | apply mT | apply mA) (Lens.id _) w I)) (.tmp rfl (.tmp rfl .nil))) (retE ?_)
              have n0 : ¬ b.length = 0 := by omega
              have e : frontB b = (hd6 b, 40 + ((takeB b 4 2).1.toUInt16.toNat : Int), 0) := by
                unfold frontB
                rw [if_neg n0, if_neg (fun k => absurd (h2.symm.trans ((quo16 (b.getD 0 0)).1.2 k)) (by decide)), if_pos ((quo16 (b.getD 0 0)).2.1 h2), if_neg (by omega)]
              rw [e]
              rw [two_eq b 4 (by omega), hd6_eq b (by omega)]
              rfl
            · refine (alloc z29 (fun b3 => ?_))
              refine heldN_of (by repeat first | exact sR | exact sN | apply sC | apply sS | apply sA) ?_
              refine all [15] (by kernel_rfl) (by decide) (.cons rfl ?_ .nil)
              refine (callv en68 (.cons (.t rfl) (.cons (.c (v := I 24) rfl) (.cons (.c (v := .bool true) rfl) .nil))) (fun w I => raddr_ok _ _ _ _ w (by first | exact isSl_own (by repeat first | exact mH | apply mT | apply mA) w I | exact IsSl.keep0 (by assumption) I.keeps) (by simp; omega)) ?_)
              refine heldN_of (by repeat first | exact sR | exact sN | apply sC | apply sS | apply sA) ?_
              refine take 16 rfl (by kernel_rfl) (by kernel_rfl) (by kernel_rfl) (by repeat first | exact sR | exact sN | apply sC | apply sS | apply sA) (Ev.buildS (fs := _) (places := [(0, 17), (17, 17), (34, 1), (35, 1), (36, 1), (37, 1), (38, 1), (39, 1), (40, 1), (41, 1), (42, 1)]) z29 rfl Try.underlying29 (by kernel_rfl) (.cons (.t rfl) (.cons (.t rfl) (.cons (.t rfl) (.cons (.t rfl) (.cons (.t rfl) (.cons (.t rfl) .nil)))))) (Fills.cons SHeader.l_class_ rfl (Fills.cons SHeader.l_id rfl (Fills.cons SHeader.l_proto rfl (Fills.cons SHeader.l_tTL rfl (Fills.cons SHeader.l_src rfl (Fills.cons SHeader.l_dst rfl Fills.nil))))))) ?_
              refine all [18] (by kernel_rfl) (by decide) (.cons rfl ?_ .nil)
              refine (storeV ty29 (Lens.id _) (.t rfl) (.t rfl) (by repeat first | exact Upd.head | apply Upd.tail | apply Upd.right) ?_)
              refine heldN_of (by repeat first | exact sR | exact sN | apply sC | apply sS | apply sA) ?_
              refine over (by kernel_rfl) ?_
              refine pN ?_
              refine seq ?_
              refine drawS 2 rfl (by repeat first | exact Rem.head | apply Rem.tail) (by kernel_rfl) ?_
              refine take 0 rfl (by kernel_rfl) (by kernel_rfl) (by kernel_rfl) (by repeat first | exact sR | exact sN | apply sC | apply sS | apply sA) (Ev.load ty29 (.t rfl) (ptsVar (by repeat first | exact mH | apply mT | apply mA) (Lens.id _))) ?_
              refine take 1 rfl (by kernel_rfl) (by kernel_rfl) (by kernel_rfl) (by repeat first | exact sR | exact sN | apply sC | apply sS | apply sA) (Ev.move (.t rfl)) ?_
              refine all [2] (by kernel_rfl) (by decide) (.cons rfl ?_ .nil)
              refine (callv en64 (.cons (.t rfl) (.cons (.c (v := I 4) rfl) (.cons (.c (v := I 2) rfl) .nil))) (fun w I => rnumber_ok _ _ _ _ w (by first | exact isSl_own (by repeat first | exact mH | apply mT | apply mA) w I | exact IsSl.keep0 (by assumption) I.keeps) (by first | omega | (simp; omega))) ?_)
              refine heldN_of (by repeat first | exact sR | exact sN | apply sC | apply sS | apply sA) ?_
              refine take 3 rfl (by kernel_rfl) (by kernel_rfl) (by kernel_rfl) (by repeat first | exact sR | exact sN | apply sC | apply sS | apply sA) (Ev.add_i (.c (v := I 40) rfl) (.t rfl) (fun _ => by omega)) ?_
              refine all [4] (by kernel_rfl) (by decide) (.cons rfl ?_ .nil)
              refine (storeV ty29 (Lens.id _) (.t rfl) (.t rfl) (by repeat first | exact Upd.head | apply Upd.tail | apply Upd.right) ?_)
              refine heldN_of (by repeat first | exact sR | exact sN | apply sC | apply sS | apply sA) ?_
              refine take 5 rfl (by kernel_rfl) (by kernel_rfl) (by kernel_rfl) (by repeat first | exact sR | exact sN | apply sC | apply sS | apply sA) (Ev.assign (.t rfl)) ?_
              refine take 6 rfl (by kernel_rfl) (by kernel_rfl) (by kernel_rfl) (by repeat first | exact sR | exact sN | apply sC | apply sS | apply sA) (Ev.assign (.c (v := I 0) rfl)) ?_
              refine over (by kernel_rfl) ?_
              refine pN ?_
              refine ret ?_
              refine pR ?_
              refine done rfl (.cell rfl (fun w I => run_loadVar_pts ty29 (ptsVar (by repeat first | exact mH | apply mT | apply mA) (Lens.id _) w I)) (.tmp rfl (.tmp rfl .nil))) (retE ?_)
              have n0 : ¬ b.length = 0 := by omega
              have e : frontB b = (hd6 b, 40 + ((takeB b 4 2).1.toUInt16.toNat : Int), 0) := by
                unfold frontB
                rw [if_neg n0, if_neg (fun k => absurd (h2.symm.trans ((quo16 (b.getD 0 0)).1.2 k)) (by decide)), if_pos ((quo16 (b.getD 0 0)).2.1 h2), if_neg (by omega)]
              rw [e]
              rw [two_eq b 4 (by omega), hd6_eq b (by omega)]
              rfl
          · refine (alloc z29 (fun b4 => ?_))
            refine heldN_of (by repeat first | exact sR | exact sN | apply sC | apply sS | apply sA) ?_
            refine all [13] (by kernel_rfl) (by decide) (.cons rfl ?_ .nil)
            refine (callv en68 (.cons (.t rfl) (.cons (.c (v := I 8) rfl) (.cons (.c (v := .bool true) rfl) .nil))) (fun w I => raddr_ok _ _ _ _ w (by first | exact isSl_own (by repeat first | exact mH | apply mT | apply mA) w I | exact IsSl.keep0 (by assumption) I.keeps) (by simp; omega)) ?_)
            refine heldN_of (by repeat first | exact sR | exact sN | apply sC | apply sS | apply sA) ?_
            refine all [15] (by kernel_rfl) (by decide) (.cons rfl ?_ .nil)
            refine (callv en68 (.cons (.t rfl) (.cons (.c (v := I 24) rfl) (.cons (.c (v := .bool true) rfl) .nil))) (fun w I => raddr_ok _ _ _ _ w (by first | exact isSl_own (by repeat first | exact mH | apply mT | apply mA) w I | exact IsSl.keep0 (by assumption) I.keeps) (by simp; omega)) ?_)
            refine heldN_of (by repeat first | exact sR | exact sN | apply sC | apply sS | apply sA) ?_
            refine take 16 rfl (by kernel_rfl) (by kernel_rfl) (by kernel_rfl) (by repeat first | exact sR | exact sN | apply sC | apply sS | apply sA) (Ev.buildS (fs := _) (places := [(0, 17), (17, 17), (34, 1), (35, 1), (36, 1), (37, 1), (38, 1), (39, 1), (40, 1), (41, 1), (42, 1)]) z29 rfl Try.underlying29 (by kernel_rfl) (.cons (.t rfl) (.cons (.t rfl) (.cons (.t rfl) (.cons (.t rfl) (.cons (.t rfl) (.cons (.t rfl) .nil)))))) (Fills.cons SHeader.l_class_ rfl (Fills.cons SHeader.l_id rfl (Fills.cons SHeader.l_proto rfl (Fills.cons SHeader.l_tTL rfl (Fills.cons SHeader.l_src rfl (Fills.cons SHeader.l_dst rfl Fills.nil))))))) ?_
            refine all [18] (by kernel_rfl) (by decide) (.cons rfl ?_ .nil)
            refine (storeV ty29 (Lens.id _) (.t rfl) (.t rfl) (by repeat first | exact Upd.head | apply Upd.tail | apply Upd.right) ?_)
            refine heldN_of (by repeat first | exact sR | exact sN | apply sC | apply sS | apply sA) ?_
            refine over (by kernel_rfl) ?_
            refine pN ?_
            refine seq ?_
            refine drawS 2 rfl (by repeat first | exact Rem.head | apply Rem.tail) (by kernel_rfl) ?_
            refine take 0 rfl (by kernel_rfl) (by kernel_rfl) (by kernel_rfl) (by repeat first | exact sR | exact sN | apply sC | apply sS | apply sA) (Ev.load ty29 (.t rfl) (ptsVar (by repeat first | exact mH | apply mT | apply mA) (Lens.id _))) ?_
            refine take 1 rfl (by kernel_rfl) (by kernel_rfl) (by kernel_rfl) (by repeat first | exact sR | exact sN | apply sC | apply sS | apply sA) (Ev.move (.t rfl)) ?_
            refine all [2] (by kernel_rfl) (by decide) (.cons rfl ?_ .nil)
            refine (callv en64 (.cons (.t rfl) (.cons (.c (v := I 4) rfl) (.cons (.c (v := I 2) rfl) .nil))) (fun w I => rnumber_ok _ _ _ _ w (by first | exact isSl_own (by repeat first | exact mH | apply mT | apply mA) w I | exact IsSl.keep0 (by assumption) I.keeps) (by first | omega | (simp; omega))) ?_)
            refine heldN_of (by repeat first | exact sR | exact sN | apply sC | apply sS | apply sA) ?_
            refine take 3 rfl (by kernel_rfl) (by kernel_rfl) (by kernel_rfl) (by repeat first | exact sR | exact sN | apply sC | apply sS | apply sA) (Ev.add_i (.c (v := I 40) rfl) (.t rfl) (fun _ => by omega)) ?_
            refine all [4] (by kernel_rfl) (by decide) (.cons rfl ?_ .nil)
            refine (storeV ty29 (Lens.id _) (.t rfl) (.t rfl) (by repeat first | exact Upd.head | apply Upd.tail | apply Upd.right) ?_)
            refine heldN_of (by repeat first | exact sR | exact sN | apply sC | apply sS | apply sA) ?_
            refine take 5 rfl (by kernel_rfl) (by kernel_rfl) (by kernel_rfl) (by repeat first | exact sR | exact sN | apply sC | apply sS | apply sA) (Ev.assign (.t rfl)) ?_
            refine take 6 rfl (by kernel_rfl) (by kernel_rfl) (by kernel_rfl) (by repeat first | exact sR | exact sN | apply sC | apply sS | apply sA) (Ev.assign (.c (v := I 0) rfl)) ?_
            refine over (by kernel_rfl) ?_
            refine pN ?_
            refine ret ?_
            refine pR ?_
            refine done rfl (.cell rfl (fun w I => run_loadVar_pts ty29 (ptsVar (by repeat first | exact mH | apply mT | apply mA) (Lens.id _) w I)) (.tmp rfl (.tmp rfl .nil))) (retE ?_)
            have n0 : ¬ b.length = 0 := by omega
            have e : frontB b = (hd6 b, 40 + ((takeB b 4 2).1.toUInt16.toNat : Int), 0) := by
              unfold frontB
              rw [if_neg n0, if_neg (fun k => absurd (h2.symm.trans ((quo16 (b.getD 0 0)).1.2 k)) (by decide)), if_pos ((quo16 (b.getD 0 0)).2.1 h2), if_neg (by omega)]
            rw [e]
            rw [two_eq b 4 (by omega), hd6_eq b (by omega)]
            rfl
      · try simp only [Bool.and_eq_true, Bool.or_eq_true, Bool.or_eq_false_iff, Bool.and_eq_false_iff, Bool.not_eq_true', Bool.not_eq_false', decide_eq_true_eq, decide_eq_false_iff_not, Decidable.not_not] at h2
        refine skip ?_
        refine pN ?_
        refine seq ?_
        refine seq ?_
        refine region ?_
        refine cons (opv (Ev.move (.t rfl)) ?_)
        refine cons (opv (Ev.len Try.underlying27 (.t rfl) (by first | exact isSl_own (by repeat first | exact mH | apply mT | apply mA) | exact fun w I => IsSl.keep0 (by assumption) I.keeps)) ?_)
        refine cons (opv (Ev.lss_i (.t rfl) (.c (v := I 20) rfl)) ?_)
        refine nil ?_
        refine pN ?_
        first | refine condD rfl (fun h4 => ?_) (fun h4 => ?_) | refine cond rfl (fun h4 => ?_) (fun h4 => ?_)
        · try simp only [Bool.and_eq_true, Bool.or_eq_true, Bool.or_eq_false_iff, Bool.and_eq_false_iff, Bool.not_eq_true', Bool.not_eq_false', decide_eq_true_eq, decide_eq_false_iff_not, Decidable.not_not] at h4
          refine seq ?_
          refine region ?_
          refine cons (opv (Ev.buildS (fs := _) (places := [(0, 17), (17, 17), (34, 1), (35, 1), (36, 1), (37, 1), (38, 1), (39, 1), (40, 1), (41, 1), (42, 1)]) z29 rfl Try.underlying29 (by kernel_rfl) .nil Fills.nil) ?_)
          refine cons (storeV ty29 (Lens.id _) (.t rfl) (.t rfl) (by repeat first | exact Upd.head | apply Upd.tail | apply Upd.right) ?_)
          refine cons (opv (Ev.assign (.c (v := I 0) rfl)) ?_)
          refine cons (opv (Ev.assign (.c (v := I 160) rfl)) ?_)
          refine nil ?_
          refine pN ?_
          refine ret ?_
          refine pR ?_
          refine done rfl (.cell rfl (fun w I => run_loadVar_pts ty29 (ptsVar (by repeat first | exact mH | apply mT | apply mA) (Lens.id _) w I)) (.tmp rfl (.tmp rfl .nil))) (retE ?_)
          have n0 : ¬ b.length = 0 := by omega
          have e : frontB b = (eHeader.zero, 0, 160) := by
            unfold frontB
            rw [if_neg n0, if_pos ((quo16 (b.getD 0 0)).1.1 (h1.elim id (fun k => absurd k h2))), if_pos (by omega)]
          rw [e]; rfl
        · try simp only [Bool.and_eq_true, Bool.or_eq_true, Bool.or_eq_false_iff, Bool.and_eq_false_iff, Bool.not_eq_true', Bool.not_eq_false', decide_eq_true_eq, decide_eq_false_iff_not, Decidable.not_not] at h4
          refine skip ?_
          refine pN ?_
          refine seq ?_
          refine seq ?_
          refine region ?_
          refine cons (opv (Ev.move (.t rfl)) ?_)
          refine cons (opv (Ev.indexAddr Try.underlying27 ty5 (.t rfl) (.c (v := I 0) rfl) (by first | exact isSl_own (by repeat first | exact mH | apply mT | apply mA) | exact fun w I => IsSl.keep0 (by assumption) I.keeps) (fun _ => by omega)) ?_)
          refine cons (opv (Ev.loadS0 (i := 0) ty5 (.t rfl) (by first | exact isSl_own (by repeat first | exact mH | apply mT | apply mA) | exact fun w I => IsSl.keep0 (by assumption) I.keeps) (fun _ => by omega)) ?_)
          refine cons (opv (Ev.neq_u8 (.t rfl) (.c (v := U8 69) rfl)) ?_)
          refine cons (opv (Ev.move (.t rfl)) ?_)
          refine cons (opg rfl rfl (Ev.move (.t rfl)) ?_)
          refine cons (opg rfl rfl (Ev.indexAddr Try.underlying27 ty5 (.g rfl id) (.c (v := I 6) rfl) (by first | exact isSl_own (by repeat first | exact mH | apply mT | apply mA) | exact fun w I => IsSl.keep0 (by assumption) I.keeps) (fun _ => by first | omega | (rename_i hg; simp at hg; omega))) ?_)
          refine cons (opg rfl rfl (Ev.loadS0 (i := 6) ty5 (.g rfl id) (by first | exact isSl_own (by repeat first | exact mH | apply mT | apply mA) | exact fun w I => IsSl.keep0 (by assumption) I.keeps) (fun _ => by first | omega | (rename_i hg; simp at hg; omega))) ?_)
          refine cons (opg rfl rfl (Ev.neq_u8 (.g rfl id) (.c (v := U8 64) rfl)) ?_)
          refine cons (opv (Ev.pickO (.t rfl) (.c (v := .bool true) rfl) (fun {_} h => by cases h; rfl) ⟨_, rfl⟩ (by intro h1 h; first | (rw [h] <;> rfl) | (rw [h1, h] <;> rfl) | (rw [h, h1] <;> rfl) | simp_all)) ?_)
          refine cons (opv (Ev.move (.t rfl)) ?_)
          refine cons (opg rfl rfl (Ev.move (.t rfl)) ?_)
          refine cons (opg rfl rfl (Ev.indexAddr Try.underlying27 ty5 (.g rfl id) (.c (v := I 7) rfl) (by first | exact isSl_own (by repeat first | exact mH | apply mT | apply mA) | exact fun w I => IsSl.keep0 (by assumption) I.keeps) (fun _ => by first | omega | (rename_i hg; simp at hg; omega))) ?_)
          refine cons (opg rfl rfl (Ev.loadS0 (i := 7) ty5 (.g rfl id) (by first | exact isSl_own (by repeat first | exact mH | apply mT | apply mA) | exact fun w I => IsSl.keep0 (by assumption) I.keeps) (fun _ => by first | omega | (rename_i hg; simp at hg; omega))) ?_)
          refine cons (opg rfl rfl (Ev.neq_u8 (.g rfl id) (.c (v := U8 0) rfl)) ?_)
          refine cons (opv (Ev.pickO (.t rfl) (.c (v := .bool true) rfl) (fun {_} h => by cases h; rfl) ⟨_, rfl⟩ (by intro h1 h; first | (rw [h] <;> rfl) | (rw [h1, h] <;> rfl) | (rw [h, h1] <;> rfl) | simp_all)) ?_)
          refine nil ?_
          refine pN ?_
          first | refine condD rfl (fun h5 => ?_) (fun h5 => ?_) | refine cond rfl (fun h5 => ?_) (fun h5 => ?_)
          · try simp only [Bool.and_eq_true, Bool.or_eq_true, Bool.or_eq_false_iff, Bool.and_eq_false_iff, Bool.not_eq_true', Bool.not_eq_false', decide_eq_true_eq, decide_eq_false_iff_not, Decidable.not_not] at h5
            refine seq ?_
            refine region ?_
            refine cons (opv (Ev.buildS (fs := _) (places := [(0, 17), (17, 17), (34, 1), (35, 1), (36, 1), (37, 1), (38, 1), (39, 1), (40, 1), (41, 1), (42, 1)]) z29 rfl Try.underlying29 (by kernel_rfl) .nil Fills.nil) ?_)
            refine cons (storeV ty29 (Lens.id _) (.t rfl) (.t rfl) (by repeat first | exact Upd.head | apply Upd.tail | apply Upd.right) ?_)
            refine cons (opv (Ev.assign (.c (v := I 0) rfl)) ?_)
            refine cons (opv (Ev.assign (.c (v := I 161) rfl)) ?_)
            refine nil ?_
            refine pN ?_
            refine ret ?_
            refine pR ?_
            refine done rfl (.cell rfl (fun w I => run_loadVar_pts ty29 (ptsVar (by repeat first | exact mH | apply mT | apply mA) (Lens.id _) w I)) (.tmp rfl (.tmp rfl .nil))) (retE ?_)
            have n0 : ¬ b.length = 0 := by omega
            have hbad : b.getD 0 0 ≠ 69 ∨ (takeB b 6 2).1.toUInt16 ≠ 16384 := by
              rw [Ne, Ne, part_eq b (by omega)]
              rcases h5 with (h | h) | h
              · exact .inl h
              · exact .inr (fun k => h k.1)
              · exact .inr (fun k => h k.2)
            have e : frontB b = (eHeader.zero, 0, 161) := by
              unfold frontB
              rw [if_neg n0, if_pos ((quo16 (b.getD 0 0)).1.1 (h1.elim id (fun k => absurd k h2))), if_neg (by omega), if_pos hbad]
            rw [e]; rfl
          · try simp only [Bool.and_eq_true, Bool.or_eq_true, Bool.or_eq_false_iff, Bool.and_eq_false_iff, Bool.not_eq_true', Bool.not_eq_false', decide_eq_true_eq, decide_eq_false_iff_not, Decidable.not_not] at h5
            refine skip ?_
            refine pN ?_
            refine seq ?_
            refine draw' (by kernel_rfl) ?_
            refine take 0 rfl (by kernel_rfl) (by kernel_rfl) (by kernel_rfl) (by repeat first | exact sR | exact sN | apply sC | apply sS | apply sA) (Ev.move (.t rfl)) ?_
            refine take 1 rfl (by kernel_rfl) (by kernel_rfl) (by kernel_rfl) (by repeat first | exact sR | exact sN | apply sC | apply sS | apply sA) (Ev.indexAddr Try.underlying27 ty5 (.t rfl) (.c (v := I 1) rfl) (by first | exact isSl_own (by repeat first | exact mH | apply mT | apply mA) | exact fun w I => IsSl.keep0 (by assumption) I.keeps) (fun _ => by omega)) ?_
            refine take 2 rfl (by kernel_rfl) (by kernel_rfl) (by kernel_rfl) (by repeat first | exact sR | exact sN | apply sC | apply sS | apply sA) (Ev.loadS0 (i := 1) ty5 (.t rfl) (by first | exact isSl_own (by repeat first | exact mH | apply mT | apply mA) | exact fun w I => IsSl.keep0 (by assumption) I.keeps) (fun _ => by omega)) ?_
            refine take 3 rfl (by kernel_rfl) (by kernel_rfl) (by kernel_rfl) (by repeat first | exact sR | exact sN | apply sC | apply sS | apply sA) (Ev.move (.t rfl)) ?_
            refine take 6 rfl (by kernel_rfl) (by kernel_rfl) (by kernel_rfl) (by repeat first | exact sR | exact sN | apply sC | apply sS | apply sA) (Ev.move (.t rfl)) ?_
            refine take 7 rfl (by kernel_rfl) (by kernel_rfl) (by kernel_rfl) (by repeat first | exact sR | exact sN | apply sC | apply sS | apply sA) (Ev.indexAddr Try.underlying27 ty5 (.t rfl) (.c (v := I 8) rfl) (by first | exact isSl_own (by repeat first | exact mH | apply mT | apply mA) | exact fun w I => IsSl.keep0 (by assumption) I.keeps) (fun _ => by omega)) ?_
            refine take 8 rfl (by kernel_rfl) (by kernel_rfl) (by kernel_rfl) (by repeat first | exact sR | exact sN | apply sC | apply sS | apply sA) (Ev.loadS0 (i := 8) ty5 (.t rfl) (by first | exact isSl_own (by repeat first | exact mH | apply mT | apply mA) | exact fun w I => IsSl.keep0 (by assumption) I.keeps) (fun _ => by omega)) ?_
            refine take 9 rfl (by kernel_rfl) (by kernel_rfl) (by kernel_rfl) (by repeat first | exact sR | exact sN | apply sC | apply sS | apply sA) (Ev.move (.t rfl)) ?_
            refine take 10 rfl (by kernel_rfl) (by kernel_rfl) (by kernel_rfl) (by repeat first | exact sR | exact sN | apply sC | apply sS | apply sA) (Ev.indexAddr Try.underlying27 ty5 (.t rfl) (.c (v := I 9) rfl) (by first | exact isSl_own (by repeat first | exact mH | apply mT | apply mA) | exact fun w I => IsSl.keep0 (by assumption) I.keeps) (fun _ => by omega)) ?_
            refine take 11 rfl (by kernel_rfl) (by kernel_rfl) (by kernel_rfl) (by repeat first | exact sR | exact sN | apply sC | apply sS | apply sA) (Ev.loadS0 (i := 9) ty5 (.t rfl) (by first | exact isSl_own (by repeat first | exact mH | apply mT | apply mA) | exact fun w I => IsSl.keep0 (by assumption) I.keeps) (fun _ => by omega)) ?_
            refine take 12 rfl (by kernel_rfl) (by kernel_rfl) (by kernel_rfl) (by repeat first | exact sR | exact sN | apply sC | apply sS | apply sA) (Ev.move (.t rfl)) ?_
            refine take 14 rfl (by kernel_rfl) (by kernel_rfl) (by kernel_rfl) (by repeat first | exact sR | exact sN | apply sC | apply sS | apply sA) (Ev.move (.t rfl)) ?_
            refine all [4, 17] (by kernel_rfl) (by decide) (.cons rfl ?_ (.cons rfl ?_ .nil))
            · refine (callv en64 (.cons (.t rfl) (.cons (.c (v := I 4) rfl) (.cons (.c (v := I 2) rfl) .nil))) (fun w I => rnumber_ok _ _ _ _ w (by first | exact isSl_own (by repeat first | exact mH | apply mT | apply mA) w I | exact IsSl.keep0 (by assumption) I.keeps) (by first | omega | (simp; omega))) ?_)
              refine heldN_of (by repeat first | exact sR | exact sN | apply sC | apply sS | apply sA) ?_
              refine take 5 rfl (by kernel_rfl) (by kernel_rfl) (by kernel_rfl) (by repeat first | exact sR | exact sN | apply sC | apply sS | apply sA) (Ev.conv_i_u32 Try.underlying26 Try.underlying3 (.t rfl)) ?_
              refine all [13, 17] (by kernel_rfl) (by decide) (.cons rfl ?_ (.cons rfl ?_ .nil))
              · refine (callv en68 (.cons (.t rfl) (.cons (.c (v := I 12) rfl) (.cons (.c (v := .bool false) rfl) .nil))) (fun w I => raddr_ok _ _ _ _ w (by first | exact isSl_own (by repeat first | exact mH | apply mT | apply mA) w I | exact IsSl.keep0 (by assumption) I.keeps) (by simp; omega)) ?_)
                refine heldN_of (by repeat first | exact sR | exact sN | apply sC | apply sS | apply sA) ?_
                refine all [15, 17] (by kernel_rfl) (by decide) (.cons rfl ?_ (.cons rfl ?_ .nil))
                · refine (callv en68 (.cons (.t rfl) (.cons (.c (v := I 16) rfl) (.cons (.c (v := .bool false) rfl) .nil))) (fun w I => raddr_ok _ _ _ _ w (by first | exact isSl_own (by repeat first | exact mH | apply mT | apply mA) w I | exact IsSl.keep0 (by assumption) I.keeps) (by simp; omega)) ?_)
                  refine heldN_of (by repeat first | exact sR | exact sN | apply sC | apply sS | apply sA) ?_
                  refine take 16 rfl (by kernel_rfl) (by kernel_rfl) (by kernel_rfl) (by repeat first | exact sR | exact sN | apply sC | apply sS | apply sA) (Ev.buildS (fs := _) (places := [(0, 17), (17, 17), (34, 1), (35, 1), (36, 1), (37, 1), (38, 1), (39, 1), (40, 1), (41, 1), (42, 1)]) z29 rfl Try.underlying29 (by kernel_rfl) (.cons (.t rfl) (.cons (.t rfl) (.cons (.t rfl) (.cons (.t rfl) (.cons (.t rfl) (.cons (.t rfl) .nil)))))) (Fills.cons SHeader.l_class_ rfl (Fills.cons SHeader.l_id rfl (Fills.cons SHeader.l_tTL rfl (Fills.cons SHeader.l_proto rfl (Fills.cons SHeader.l_src rfl (Fills.cons SHeader.l_dst rfl Fills.nil))))))) ?_
                  refine all [17] (by kernel_rfl) (by decide) (.cons rfl ?_ .nil)
                  refine (alloc z29 (fun b5 => ?_))
                  refine heldN_of (by repeat first | exact sR | exact sN | apply sC | apply sS | apply sA) ?_
                  refine all [18] (by kernel_rfl) (by decide) (.cons rfl ?_ .nil)
                  refine (storeV ty29 (Lens.id _) (.t rfl) (.t rfl) (by repeat first | exact Upd.head | apply Upd.tail | apply Upd.right) ?_)
                  refine heldN_of (by repeat first | exact sR | exact sN | apply sC | apply sS | apply sA) ?_
                  refine over (by kernel_rfl) ?_
                  refine pN ?_
                  refine seq ?_
                  refine drawS 2 rfl (by repeat first | exact Rem.head | apply Rem.tail) (by kernel_rfl) ?_
                  refine take 0 rfl (by kernel_rfl) (by kernel_rfl) (by kernel_rfl) (by repeat first | exact sR | exact sN | apply sC | apply sS | apply sA) (Ev.load ty29 (.t rfl) (ptsVar (by repeat first | exact mH | apply mT | apply mA) (Lens.id _))) ?_
                  refine take 1 rfl (by kernel_rfl) (by kernel_rfl) (by kernel_rfl) (by repeat first | exact sR | exact sN | apply sC | apply sS | apply sA) (Ev.move (.t rfl)) ?_
                  refine all [2] (by kernel_rfl) (by decide) (.cons rfl ?_ .nil)
                  refine (callv en64 (.cons (.t rfl) (.cons (.c (v := I 2) rfl) (.cons (.c (v := I 2) rfl) .nil))) (fun w I => rnumber_ok _ _ _ _ w (by first | exact isSl_own (by repeat first | exact mH | apply mT | apply mA) w I | exact IsSl.keep0 (by assumption) I.keeps) (by first | omega | (simp; omega))) ?_)
                  refine heldN_of (by repeat first | exact sR | exact sN | apply sC | apply sS | apply sA) ?_
                  refine all [3] (by kernel_rfl) (by decide) (.cons rfl ?_ .nil)
                  refine (storeV ty29 (Lens.id _) (.t rfl) (.t rfl) (by repeat first | exact Upd.head | apply Upd.tail | apply Upd.right) ?_)
                  refine heldN_of (by repeat first | exact sR | exact sN | apply sC | apply sS | apply sA) ?_
                  refine take 4 rfl (by kernel_rfl) (by kernel_rfl) (by kernel_rfl) (by repeat first | exact sR | exact sN | apply sC | apply sS | apply sA) (Ev.assign (.t rfl)) ?_
                  refine take 5 rfl (by kernel_rfl) (by kernel_rfl) (by kernel_rfl) (by repeat first | exact sR | exact sN | apply sC | apply sS | apply sA) (Ev.assign (.c (v := I 0) rfl)) ?_
                  refine over (by kernel_rfl) ?_
                  refine pN ?_
                  refine ret ?_
                  refine done rfl (.cell rfl (fun w I => run_loadVar_pts ty29 (ptsVar (by repeat first | exact mH | apply mT | apply mA) (Lens.id _) w I)) (.tmp rfl (.tmp rfl .nil))) (retE ?_)
                  have n0 : ¬ b.length = 0 := by omega
                  have hgood : ¬ (b.getD 0 0 ≠ 69 ∨ (takeB b 6 2).1.toUInt16 ≠ 16384) := by
                    rw [Ne, Ne, part_eq b (by omega)]
                    rintro (h | h)
                    · exact h h5.1.1
                    · exact h ⟨h5.1.2, h5.2⟩
                  have e : frontB b = (hd4 b, ((takeB b 2 2).1.toUInt16.toNat : Int), 0) := by
                    unfold frontB
                    rw [if_neg n0, if_pos ((quo16 (b.getD 0 0)).1.1 (h1.elim id (fun k => absurd k h2))), if_neg (by omega), if_neg hgood]
                  rw [e]
                  rw [two_eq b 2 (by omega), hd4_eq b (by omega)]
                  rfl
                · refine (alloc z29 (fun b6 => ?_))
                  refine heldN_of (by repeat first | exact sR | exact sN | apply sC | apply sS | apply sA) ?_
                  refine all [15] (by kernel_rfl) (by decide) (.cons rfl ?_ .nil)
                  refine (callv en68 (.cons (.t rfl) (.cons (.c (v := I 16) rfl) (.cons (.c (v := .bool false) rfl) .nil))) (fun w I => raddr_ok _ _ _ _ w (by first | exact isSl_own (by repeat first | exact mH | apply mT | apply mA) w I | exact IsSl.keep0 (by assumption) I.keeps) (by simp; omega)) ?_)
                  refine heldN_of (by repeat first | exact sR | exact sN | apply sC | apply sS | apply sA) ?_
                  refine take 16 rfl (by kernel_rfl) (by kernel_rfl) (by kernel_rfl) (by repeat first | exact sR | exact sN | apply sC | apply sS | apply sA) (Ev.buildS (fs := _) (places := [(0, 17), (17, 17), (34, 1), (35, 1), (36, 1), (37, 1), (38, 1), (39, 1), (40, 1), (41, 1), (42, 1)]) z29 rfl Try.underlying29 (by kernel_rfl) (.cons (.t rfl) (.cons (.t rfl) (.cons (.t rfl) (.cons (.t rfl) (.cons (.t rfl) (.cons (.t rfl) .nil)))))) (Fills.cons SHeader.l_class_ rfl (Fills.cons SHeader.l_id rfl (Fills.cons SHeader.l_tTL rfl (Fills.cons SHeader.l_proto rfl (Fills.cons SHeader.l_src rfl (Fills.cons SHeader.l_dst rfl Fills.nil))))))) ?_
                  refine all [18] (by kernel_rfl) (by decide) (.cons rfl ?_ .nil)
                  refine (storeV ty29 (Lens.id _) (.t rfl) (.t rfl) (by repeat first | exact Upd.head | apply Upd.tail | apply Upd.right) ?_)
                  refine heldN_of (by repeat first | exact sR | exact sN | apply sC | apply sS | apply sA) ?_
                  refine over (by kernel_rfl) ?_
                  refine pN ?_
                  refine seq ?_
                  refine drawS 2 rfl (by repeat first | exact Rem.head | apply Rem.tail) (by kernel_rfl) ?_
                  refine take 0 rfl (by kernel_rfl) (by kernel_rfl) (by kernel_rfl) (by repeat first | exact sR | exact sN | apply sC | apply sS | apply sA) (Ev.load ty29 (.t rfl) (ptsVar (by repeat first | exact mH | apply mT | apply mA) (Lens.id _))) ?_
                  refine take 1 rfl (by kernel_rfl) (by kernel_rfl) (by kernel_rfl) (by repeat first | exact sR | exact sN | apply sC | apply sS | apply sA) (Ev.move (.t rfl)) ?_
                  refine all [2] (by kernel_rfl) (by decide) (.cons rfl ?_ .nil)
                  refine (callv en64 (.cons (.t rfl) (.cons (.c (v := I 2) rfl) (.cons (.c (v := I 2) rfl) .nil))) (fun w I => rnumber_ok _ _ _ _ w (by first | exact isSl_own (by repeat first | exact mH | apply mT | apply mA) w I | exact IsSl.keep0 (by assumption) I.keeps) (by first | omega | (simp; omega))) ?_)
                  refine heldN_of (by repeat first | exact sR | exact sN | apply sC | apply sS | apply sA) ?_
                  refine all [3] (by kernel_rfl) (by decide) (.cons rfl ?_ .nil)
                  refine (storeV ty29 (Lens.id _) (.t rfl) (.t rfl) (by repeat first | exact Upd.head | apply Upd.tail | apply Upd.right) ?_)
                  refine heldN_of (by repeat first | exact sR | exact sN | apply sC | apply sS | apply sA) ?_
                  refine take 4 rfl (by kernel_rfl) (by kernel_rfl) (by kernel_rfl) (by repeat first | exact sR | exact sN | apply sC | apply sS | apply sA) (Ev.assign (.t rfl)) ?_
                  refine take 5 rfl (by kernel_rfl) (by kernel_rfl) (by kernel_rfl) (by repeat first | exact sR | exact sN | apply sC | apply sS | apply sA) (Ev.assign (.c (v := I 0) rfl)) ?_
                  refine over (by kernel_rfl) ?_
                  refine pN ?_
                  refine ret ?_
                  refine done rfl (.cell rfl (fun w I => run_loadVar_pts ty29 (ptsVar (by repeat first | exact mH | apply mT | apply mA) (Lens.id _) w I)) (.tmp rfl (.tmp rfl .nil))) (retE ?_)
                  have n0 : ¬ b.length = 0 := by omega
                  have hgood : ¬ (b.getD 0 0 ≠ 69 ∨ (takeB b 6 2).1.toUInt16 ≠ 16384) := by
                    rw [Ne, Ne, part_eq b (by omega)]
                    rintro (h | h)
                    · exact h h5.1.1
                    · exact h ⟨h5.1.2, h5.2⟩
                  have e : frontB b = (hd4 b, ((takeB b 2 2).1.toUInt16.toNat : Int), 0) := by
                    unfold frontB
                    rw [if_neg n0, if_pos ((quo16 (b.getD 0 0)).1.1 (h1.elim id (fun k => absurd k h2))), if_neg (by omega), if_neg hgood]
                  rw [e]
                  rw [two_eq b 2 (by omega), hd4_eq b (by omega)]
                  rfl
              · refine (alloc z29 (fun b7 => ?_))
                refine heldN_of (by repeat first | exact sR | exact sN | apply sC | apply sS | apply sA) ?_
                refine all [13] (by kernel_rfl) (by decide) (.cons rfl ?_ .nil)
                refine (callv en68 (.cons (.t rfl) (.cons (.c (v := I 12) rfl) (.cons (.c (v := .bool false) rfl) .nil))) (fun w I => raddr_ok _ _ _ _ w (by first | exact isSl_own (by repeat first | exact mH | apply mT | apply mA) w I | exact IsSl.keep0 (by assumption) I.keeps) (by simp; omega)) ?_)
                refine heldN_of (by repeat first | exact sR | exact sN | apply sC | apply sS | apply sA) ?_
                refine all [15] (by kernel_rfl) (by decide) (.cons rfl ?_ .nil)
                refine (callv en68 (.cons (.t rfl) (.cons (.c (v := I 16) rfl) (.cons (.c (v := .bool false) rfl) .nil))) (fun w I => raddr_ok _ _ _ _ w (by first | exact isSl_own (by repeat first | exact mH | apply mT | apply mA) w I | exact IsSl.keep0 (by assumption) I.keeps) (by simp; omega)) ?_)
                refine heldN_of (by repeat first | exact sR | exact sN | apply sC | apply sS | apply sA) ?_
                refine take 16 rfl (by kernel_rfl) (by kernel_rfl) (by kernel_rfl) (by repeat first | exact sR | exact sN | apply sC | apply sS | apply sA) (Ev.buildS (fs := _) (places := [(0, 17), (17, 17), (34, 1), (35, 1), (36, 1), (37, 1), (38, 1), (39, 1), (40, 1), (41, 1), (42, 1)]) z29 rfl Try.underlying29 (by kernel_rfl) (.cons (.t rfl) (.cons (.t rfl) (.cons (.t rfl) (.cons (.t rfl) (.cons (.t rfl) (.cons (.t rfl) .nil)))))) (Fills.cons SHeader.l_class_ rfl (Fills.cons SHeader.l_id rfl (Fills.cons SHeader.l_tTL rfl (Fills.cons SHeader.l_proto rfl (Fills.cons SHeader.l_src rfl (Fills.cons SHeader.l_dst rfl Fills.nil))))))) ?_
                refine all [18] (by kernel_rfl) (by decide) (.cons rfl ?_ .nil)
                refine (storeV ty29 (Lens.id _) (.t rfl) (.t rfl) (by repeat first | exact Upd.head | apply Upd.tail | apply Upd.right) ?_)
                refine heldN_of (by repeat first | exact sR | exact sN | apply sC | apply sS | apply sA) ?_
                refine over (by kernel_rfl) ?_
                refine pN ?_
                refine seq ?_
                refine drawS 2 rfl (by repeat first | exact Rem.head | apply Rem.tail) (by kernel_rfl) ?_
                refine take 0 rfl (by kernel_rfl) (by kernel_rfl) (by kernel_rfl) (by repeat first | exact sR | exact sN | apply sC | apply sS | apply sA) (Ev.load ty29 (.t rfl) (ptsVar (by repeat first | exact mH | apply mT | apply mA) (Lens.id _))) ?_
                refine take 1 rfl (by kernel_rfl) (by kernel_rfl) (by kernel_rfl) (by repeat first | exact sR | exact sN | apply sC | apply sS | apply sA) (Ev.move (.t rfl)) ?_
                refine all [2] (by kernel_rfl) (by decide) (.cons rfl ?_ .nil)
                refine (callv en64 (.cons (.t rfl) (.cons (.c (v := I 2) rfl) (.cons (.c (v := I 2) rfl) .nil))) (fun w I => rnumber_ok _ _ _ _ w (by first | exact isSl_own (by repeat first | exact mH | apply mT | apply mA) w I | exact IsSl.keep0 (by assumption) I.keeps) (by first | omega | (simp; omega))) ?_)
                refine heldN_of (by repeat first | exact sR | exact sN | apply sC | apply sS | apply sA) ?_
                refine all [3] (by kernel_rfl) (by decide) (.cons rfl ?_ .nil)
                refine (storeV ty29 (Lens.id _) (.t rfl) (.t rfl) (by repeat first | exact Upd.head | apply Upd.tail | apply Upd.right) ?_)
                refine heldN_of (by repeat first | exact sR | exact sN | apply sC | apply sS | apply sA) ?_
                refine take 4 rfl (by kernel_rfl) (by kernel_rfl) (by kernel_rfl) (by repeat first | exact sR | exact sN | apply sC | apply sS | apply sA) (Ev.assign (.t rfl)) ?_
                refine take 5 rfl (by kernel_rfl) (by kernel_rfl) (by kernel_rfl) (by repeat first | exact sR | exact sN | apply sC | apply sS | apply sA) (Ev.assign (.c (v := I 0) rfl)) ?_
                refine over (by kernel_rfl) ?_
                refine pN ?_
                refine ret ?_
                refine done rfl (.cell rfl (fun w I => run_loadVar_pts ty29 (ptsVar (by repeat first | exact mH | apply mT | apply mA) (Lens.id _) w I)) (.tmp rfl (.tmp rfl .nil))) (retE ?_)
                have n0 : ¬ b.length = 0 := by omega
                have hgood : ¬ (b.getD 0 0 ≠ 69 ∨ (takeB b 6 2).1.toUInt16 ≠ 16384) := by
                  rw [Ne, Ne, part_eq b (by omega)]
                  rintro (h | h)
                  · exact h h5.1.1
                  · exact h ⟨h5.1.2, h5.2⟩
                have e : frontB b = (hd4 b, ((takeB b 2 2).1.toUInt16.toNat : Int), 0) := by
                  unfold frontB
                  rw [if_neg n0, if_pos ((quo16 (b.getD 0 0)).1.1 (h1.elim id (fun k => absurd k h2))), if_neg (by omega), if_neg hgood]
                rw [e]
                rw [two_eq b 2 (by omega), hd4_eq b (by omega)]
                rfl
            · refine (alloc z29 (fun b8 => ?_))
              refine heldN_of (by repeat first | exact sR | exact sN | apply sC | apply sS | apply sA) ?_
              refine all [4] (by kernel_rfl) (by decide) (.cons rfl ?_ .nil)
              refine (callv en64 (.cons (.t rfl) (.cons (.c (v := I 4) rfl) (.cons (.c (v := I 2) rfl) .nil))) (fun w I => rnumber_ok _ _ _ _ w (by first | exact isSl_own (by repeat first | exact mH | apply mT | apply mA) w I | exact IsSl.keep0 (by assumption) I.keeps) (by first | omega | (simp; omega))) ?_)
              refine heldN_of (by repeat first | exact sR | exact sN | apply sC | apply sS | apply sA) ?_
              refine take 5 rfl (by kernel_rfl) (by kernel_rfl) (by kernel_rfl) (by repeat first | exact sR | exact sN | apply sC | apply sS | apply sA) (Ev.conv_i_u32 Try.underlying26 Try.underlying3 (.t rfl)) ?_
              refine all [13] (by kernel_rfl) (by decide) (.cons rfl ?_ .nil)
              refine (callv en68 (.cons (.t rfl) (.cons (.c (v := I 12) rfl) (.cons (.c (v := .bool false) rfl) .nil))) (fun w I => raddr_ok _ _ _ _ w (by first | exact isSl_own (by repeat first | exact mH | apply mT | apply mA) w I | exact IsSl.keep0 (by assumption) I.keeps) (by simp; omega)) ?_)
              refine heldN_of (by repeat first | exact sR | exact sN | apply sC | apply sS | apply sA) ?_
              refine all [15] (by kernel_rfl) (by decide) (.cons rfl ?_ .nil)
              refine (callv en68 (.cons (.t rfl) (.cons (.c (v := I 16) rfl) (.cons (.c (v := .bool false) rfl) .nil))) (fun w I => raddr_ok _ _ _ _ w (by first | exact isSl_own (by repeat first | exact mH | apply mT | apply mA) w I | exact IsSl.keep0 (by assumption) I.keeps) (by simp; omega)) ?_)
              refine heldN_of (by repeat first | exact sR | exact sN | apply sC | apply sS | apply sA) ?_
              refine take 16 rfl (by kernel_rfl) (by kernel_rfl) (by kernel_rfl) (by repeat first | exact sR | exact sN | apply sC | apply sS | apply sA) (Ev.buildS (fs := _) (places := [(0, 17), (17, 17), (34, 1), (35, 1), (36, 1), (37, 1), (38, 1), (39, 1), (40, 1), (41, 1), (42, 1)]) z29 rfl Try.underlying29 (by kernel_rfl) (.cons (.t rfl) (.cons (.t rfl) (.cons (.t rfl) (.cons (.t rfl) (.cons (.t rfl) (.cons (.t rfl) .nil)))))) (Fills.cons SHeader.l_class_ rfl (Fills.cons SHeader.l_id rfl (Fills.cons SHeader.l_tTL rfl (Fills.cons SHeader.l_proto rfl (Fills.cons SHeader.l_src rfl (Fills.cons SHeader.l_dst rfl Fills.nil))))))) ?_
              refine all [18] (by kernel_rfl) (by decide) (.cons rfl ?_ .nil)
              refine (storeV ty29 (Lens.id _) (.t rfl) (.t rfl) (by repeat first | exact Upd.head | apply Upd.tail | apply Upd.right) ?_)
              refine heldN_of (by repeat first | exact sR | exact sN | apply sC | apply sS | apply sA) ?_
              refine over (by kernel_rfl) ?_
              refine pN ?_
              refine seq ?_
              refine drawS 2 rfl (by repeat first | exact Rem.head | apply Rem.tail) (by kernel_rfl) ?_
              refine take 0 rfl (by kernel_rfl) (by kernel_rfl) (by kernel_rfl) (by repeat first | exact sR | exact sN | apply sC | apply sS | apply sA) (Ev.load ty29 (.t rfl) (ptsVar (by repeat first | exact mH | apply mT | apply mA) (Lens.id _))) ?_
              refine take 1 rfl (by kernel_rfl) (by kernel_rfl) (by kernel_rfl) (by repeat first | exact sR | exact sN | apply sC | apply sS | apply sA) (Ev.move (.t rfl)) ?_
              refine all [2] (by kernel_rfl) (by decide) (.cons rfl ?_ .nil)
              refine (callv en64 (.cons (.t rfl) (.cons (.c (v := I 2) rfl) (.cons (.c (v := I 2) rfl) .nil))) (fun w I => rnumber_ok _ _ _ _ w (by first | exact isSl_own (by repeat first | exact mH | apply mT | apply mA) w I | exact IsSl.keep0 (by assumption) I.keeps) (by first | omega | (simp; omega))) ?_)
              refine heldN_of (by repeat first | exact sR | exact sN | apply sC | apply sS | apply sA) ?_
              refine all [3] (by kernel_rfl) (by decide) (.cons rfl ?_ .nil)
              refine (storeV ty29 (Lens.id _) (.t rfl) (.t rfl) (by repeat first | exact Upd.head | apply Upd.tail | apply Upd.right) ?_)
              refine heldN_of (by repeat first | exact sR | exact sN | apply sC | apply sS | apply sA) ?_
              refine take 4 rfl (by kernel_rfl) (by kernel_rfl) (by kernel_rfl) (by repeat first | exact sR | exact sN | apply sC | apply sS | apply sA) (Ev.assign (.t rfl)) ?_
              refine take 5 rfl (by kernel_rfl) (by kernel_rfl) (by kernel_rfl) (by repeat first | exact sR | exact sN | apply sC | apply sS | apply sA) (Ev.assign (.c (v := I 0) rfl)) ?_
              refine over (by kernel_rfl) ?_
              refine pN ?_
              refine ret ?_
              refine done rfl (.cell rfl (fun w I => run_loadVar_pts ty29 (ptsVar (by repeat first | exact mH | apply mT | apply mA) (Lens.id _) w I)) (.tmp rfl (.tmp rfl .nil))) (retE ?_)
              have n0 : ¬ b.length = 0 := by omega
              have hgood : ¬ (b.getD 0 0 ≠ 69 ∨ (takeB b 6 2).1.toUInt16 ≠ 16384) := by
                rw [Ne, Ne, part_eq b (by omega)]
                rintro (h | h)
                · exact h h5.1.1
                · exact h ⟨h5.1.2, h5.2⟩
              have e : frontB b = (hd4 b, ((takeB b 2 2).1.toUInt16.toNat : Int), 0) := by
                unfold frontB
                rw [if_neg n0, if_pos ((quo16 (b.getD 0 0)).1.1 (h1.elim id (fun k => absurd k h2))), if_neg (by omega), if_neg hgood]
              rw [e]
              rw [two_eq b 2 (by omega), hd4_eq b (by omega)]
              rfl
end Go.Proofs.Ytegcihhhighipaa
