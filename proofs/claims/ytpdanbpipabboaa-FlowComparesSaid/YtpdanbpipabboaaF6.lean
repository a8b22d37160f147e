/- test -/
import Derived.Test.YtpdanbpipabboaaF5
set_option linter.unusedVariables false
set_option linter.unusedSimpArgs false
namespace Go.Proofs.Ytpdanbpipabboaa
open Go Go.Gx

theorem en31 : Enters Try.prog 31 := Enters.mk' (by kernel_rfl)

theorem rbytes_ok (k : SKey) (w : World) : Calls Try.prog 19 #[eKey.val k] w (RetO w u8E (keyB k) 5) := by
  refine enter0 32 Try.func19 rfl rfl (Nat.le_of_ble_eq_true rfl) ?_
  refine seq ?_
  refine region ?_
  refine cons (box (E := eKey) (.t rfl) (fun b1 => ?_))
  refine cons (opv (Ev.assign (.c (v := (Go.Value.slice none 0 0)) rfl)) ?_)
  refine nil ?_
  refine pN ?_
  refine seq ?_
  refine region ?_
  refine cons (opv (Ev.fieldAddr (o := 0) (.t rfl) (by kernel_rfl)) ?_)
  refine cons (opv (Ev.load ty24 (.t rfl) (ptsVar (by repeat first | exact List.Mem.head _ | apply List.Mem.tail) SKey.l_src)) ?_)
  refine takeNil u8E 5 ?_
  refine cons (callm en31 (.cons (.c (v := (Go.Value.slice none 0 0)) rfl) (.cons (.t rfl) .nil)) (fun _ => by repeat first | exact Upd.head | apply Upd.tail) (fun w I ho => raddr_ok _ _ _ w ho (by simp [addrB_length])) (fun v2 => ?_))
  refine cons (opv (Ev.assign (.t rfl)) ?_)
  refine nil ?_
  refine pN ?_
  refine seq ?_
  refine region ?_
  refine cons (opv (Ev.move (.t rfl)) ?_)
  refine cons (opv (Ev.fieldAddr (o := 17) (.t rfl) (by kernel_rfl)) ?_)
  refine cons (opv (Ev.load ty24 (.t rfl) (ptsVar (by repeat first | exact List.Mem.head _ | apply List.Mem.tail) SKey.l_dst)) ?_)
  refine cons (callm en31 (.cons (.t rfl) (.cons (.t rfl) .nil)) (fun _ => by repeat first | exact Upd.head | apply Upd.tail) (fun w I ho => raddr_ok _ _ _ w ho (by simp [addrB_length])) (fun v3 => ?_))
  refine cons (opv (Ev.assign (.t rfl)) ?_)
  refine nil ?_
  refine pN ?_
  refine seq ?_
  refine region ?_
  refine cons (opv (Ev.move (.t rfl)) ?_)
  refine cons (opv (Ev.fieldAddr (o := 34) (.t rfl) (by kernel_rfl)) ?_)
  refine cons (opv (Ev.load ty5 (.t rfl) (ptsVar (by repeat first | exact List.Mem.head _ | apply List.Mem.tail) SKey.l_proto)) ?_)
  refine cons (opv (Ev.fieldAddr (o := 35) (.t rfl) (by kernel_rfl)) ?_)
  refine cons (opv (Ev.load ty25 (.t rfl) (ptsVar (by repeat first | exact List.Mem.head _ | apply List.Mem.tail) SKey.l_srcPort)) ?_)
  refine cons (opv (Ev.quo_u16 (.t rfl) (.c (v := U16 256) rfl) (fun _ => by decide)) ?_)
  refine cons (opv (Ev.conv_u16_u8 Try.underlying5 Try.underlying25 (.t rfl)) ?_)
  refine cons (opv (Ev.fieldAddr (o := 35) (.t rfl) (by kernel_rfl)) ?_)
  refine cons (opv (Ev.load ty25 (.t rfl) (ptsVar (by repeat first | exact List.Mem.head _ | apply List.Mem.tail) SKey.l_srcPort)) ?_)
  refine cons (opv (Ev.rem_u16 (.t rfl) (.c (v := U16 256) rfl) (fun _ => by decide)) ?_)
  refine cons (opv (Ev.conv_u16_u8 Try.underlying5 Try.underlying25 (.t rfl)) ?_)
  refine cons (opv (Ev.fieldAddr (o := 36) (.t rfl) (by kernel_rfl)) ?_)
  refine cons (opv (Ev.load ty25 (.t rfl) (ptsVar (by repeat first | exact List.Mem.head _ | apply List.Mem.tail) SKey.l_dstPort)) ?_)
  refine cons (opv (Ev.quo_u16 (.t rfl) (.c (v := U16 256) rfl) (fun _ => by decide)) ?_)
  refine cons (opv (Ev.conv_u16_u8 Try.underlying5 Try.underlying25 (.t rfl)) ?_)
  refine cons (opv (Ev.fieldAddr (o := 36) (.t rfl) (by kernel_rfl)) ?_)
  refine cons (opv (Ev.load ty25 (.t rfl) (ptsVar (by repeat first | exact List.Mem.head _ | apply List.Mem.tail) SKey.l_dstPort)) ?_)
  refine cons (opv (Ev.rem_u16 (.t rfl) (.c (v := U16 256) rfl) (fun _ => by decide)) ?_)
  refine cons (opv (Ev.conv_u16_u8 Try.underlying5 Try.underlying25 (.t rfl)) ?_)
  refine cons (buildSlice (E := u8E) Try.underlying32 ty5 z5 (.cons (.t rfl) (.cons (.t rfl) (.cons (.t rfl) (.cons (.t rfl) (.cons (.t rfl) .nil))))) rfl rfl (fun v4 => ?_))
  refine cons (append (E := u8E) Try.underlying32 ty5 rfl zb5 zs5 (.t rfl) (.t rfl) (fun _ => by repeat first | exact Upd.head | apply Upd.tail) (by first | exact isSl_own (by repeat first | exact List.Mem.head _ | apply List.Mem.tail) | exact fun w I => IsSl.keep0 (by assumption) I.keeps) (⟨by (show _ ≤ 9223372036854775807); simp [addrB_length], by simp [addrB_length]⟩) (fun v5 => ?_))
  refine cons (opv (Ev.assign (.t rfl)) ?_)
  refine nil ?_
  refine pN ?_
  refine ret ?_
  refine done rfl (.tmp rfl .nil) (retOE (by repeat first | exact List.Mem.head _ | apply List.Mem.tail) ?_)
  simp [keyB, putB_two]

theorem en17 : Enters Try.prog 17 := Enters.mk' (by kernel_rfl)

theorem z32 : (Try.prog.info? 32).bind (·.zero) = some ((ovE nilSl).val (ovE nilSl).zero) := by kernel_rfl

theorem en32 : Enters Try.prog 32 := Enters.mk' (by kernel_rfl)

theorem fhash_ok (k : SKey) (w : World) : Calls Try.prog 20 #[eKey.val k] w (RetV w (U64 (hashB 14695981039346656037 (keyB k)))) := by
  refine enter0 7 Try.func20 rfl rfl (Nat.le_of_ble_eq_true rfl) ?_
  refine seq ?_
  refine region ?_
  refine cons (box (E := eKey) (.t rfl) (fun b1 => ?_))
  refine cons (opv (Ev.assign (.c (v := U64 0) rfl)) ?_)
  refine nil ?_
  refine pN ?_
  refine seq ?_
  refine region ?_
  refine cons (opv (Ev.load ty27 (.t rfl) (ptsVar (by repeat first | exact List.Mem.head _ | apply List.Mem.tail) (Lens.id _))) ?_)
  refine cons (callo en17 (.cons (.t rfl) .nil) (fun w I => bytes_ok _ w) (fun v2 => ?_))
  refine cons (buildSlice (E := (ovE nilSl)) Try.underlying63 ty32 z32 (.cons (.t rfl) .nil) rfl rfl (fun v3 => ?_))
  refine cons (callv en32 (.cons (.t rfl) .nil) (fun w I => hash_ok _ [keyB k] w (IsSS.mk' (isSl_own (by repeat first | exact List.Mem.head _ | apply List.Mem.tail) w I) (.cons (isSl_own (by repeat first | exact List.Mem.head _ | apply List.Mem.tail) w I) .nil))) ?_)
  refine cons (opv (Ev.assign (.t rfl)) ?_)
  refine nil ?_
  refine pN ?_
  refine ret ?_
  refine done rfl (.tmp rfl .nil) (retE ?_)
  simp [tupV]

theorem en19 : Enters Try.prog 19 := Enters.mk' (by kernel_rfl)

theorem rhash_ok (k : SKey) (w : World) : Calls Try.prog 21 #[eKey.val k] w (RetV w (U64 (hashB 14695981039346656037 (keyB k)))) := by
  refine enter0 23 Try.func21 rfl rfl (Nat.le_of_ble_eq_true rfl) ?_
  refine seq ?_
  refine region ?_
  refine cons (box (E := eKey) (.t rfl) (fun b1 => ?_))
  refine cons (opv (Ev.assign (.c (v := U64 0) rfl)) ?_)
  refine nil ?_
  refine pN ?_
  refine seq ?_
  refine region ?_
  refine cons (opv (Ev.assign (.c (v := U64 14695981039346656037) rfl)) ?_)
  refine nil ?_
  refine pN ?_
  refine seq ?_
  refine region ?_
  refine cons (opv (Ev.load ty27 (.t rfl) (ptsVar (by repeat first | exact List.Mem.head _ | apply List.Mem.tail) (Lens.id _))) ?_)
  refine cons (callo en19 (.cons (.t rfl) .nil) (fun w I => rbytes_ok _ w) (fun v2 => ?_))
  refine cons (opv (Ev.assign (.t rfl)) ?_)
  refine nil ?_
  refine pN ?_
  refine seq ?_
  refine seq ?_
  refine region ?_
  refine cons (opv (Ev.assign (.c (v := I 0) rfl)) ?_)
  refine nil ?_
  refine pN ?_
  refine block ?_
  have hkl := keyB_length k
  refine loop (X := Int × UInt64) (fun x : Int × UInt64 => (0 ≤ x.1 ∧ x.1 ≤ 39) ∧ (hashB x.2 ((keyB k).drop x.1.toNat) = hashB 14695981039346656037 (keyB k))) (fun x : Int × UInt64 => [(3, true, U64 x.2), (4, true, v2.v), (5, true, I x.1)]) (fun x : Int × UInt64 => [OwnS v2.v u8E (keyB k) 5]) (fun x : Int × UInt64 => (39 - x.1).toNat) (0, _) ⟨?_, ?_⟩ (by repeat first | exact Sub.nil | refine Sub.cons rfl ?_) (by repeat first | exact List.Sublist.refl _ | apply List.Sublist.cons_cons | apply List.Sublist.cons) (fun x hx => ?_)
  · omega
  · rfl
  obtain ⟨i, h⟩ := x
  obtain ⟨hi, hh⟩ : (0 ≤ i ∧ i ≤ 39) ∧ (hashB h ((keyB k).drop i.toNat) = hashB 14695981039346656037 (keyB k)) := hx
  show Sat _ _ [(3, true, U64 h), (4, true, v2.v), (5, true, I i)] [OwnS v2.v u8E (keyB k) 5]
  refine seq ?_
  refine seq ?_
  refine region ?_
  refine cons (opv (Ev.move (.t rfl)) ?_)
  refine cons (opv (Ev.move (.t rfl)) ?_)
  refine cons (opv (Ev.len Try.underlying32 (.t rfl) (by first | exact isSl_own (by repeat first | exact List.Mem.head _ | apply List.Mem.tail) | exact fun w I => IsSl.keep0 (by assumption) I.keeps)) ?_)
  refine cons (opv (Ev.lss_i (.t rfl) (.t rfl)) ?_)
  refine nil ?_
  refine pN ?_
  first | refine condD rfl (fun hlt => ?_) (fun hge => ?_) | refine cond rfl (fun hlt => ?_) (fun hge => ?_)
  · try simp only [Bool.and_eq_true, Bool.or_eq_true, Bool.or_eq_false_iff, Bool.and_eq_false_iff, Bool.not_eq_true', Bool.not_eq_false', decide_eq_true_eq, decide_eq_false_iff_not, Decidable.not_not] at hlt
    refine skip ?_
    refine pN ?_
    refine seq ?_
    refine block ?_
    refine region ?_
    refine cons (opv (Ev.move (.t rfl)) ?_)
    refine cons (opv (Ev.move (.t rfl)) ?_)
    refine cons (opv (Ev.move (.t rfl)) ?_)
    refine cons (opv (Ev.indexAddr Try.underlying32 ty5 (.t rfl) (.t rfl) (by first | exact isSl_own (by repeat first | exact List.Mem.head _ | apply List.Mem.tail) | exact fun w I => IsSl.keep0 (by assumption) I.keeps) (fun _ => by omega)) ?_)
    refine cons (opv (Ev.loadS0 ty5 (.t rfl) (by first | exact isSl_own (by repeat first | exact List.Mem.head _ | apply List.Mem.tail) | exact fun w I => IsSl.keep0 (by assumption) I.keeps) (fun _ => by omega)) ?_)
    refine cons (opv (Ev.conv_u8_u64 Try.underlying40 Try.underlying5 (.t rfl)) ?_)
    refine cons (opv (Ev.xor_u64 (.t rfl) (.t rfl)) ?_)
    refine cons (opv (Ev.mul_u64 (.t rfl) (.c (v := U64 1099511628211) rfl)) ?_)
    refine cons (opv (Ev.assign (.t rfl)) ?_)
    refine nil ?_
    refine bN ?_
    refine pN ?_
    refine region ?_
    refine cons (opv (Ev.move (.t rfl)) ?_)
    refine cons (opv (Ev.add_i (.t rfl) (.c (v := I 1) rfl) (fun _ => by omega)) ?_)
    refine cons (opv (Ev.assign (.t rfl)) ?_)
    refine nil ?_
    refine pN ?_
    refine next (X := Int × UInt64) (i + 1, _) ⟨?_, ?_⟩ ?_ (by repeat first | exact Sub.nil | refine Sub.cons rfl ?_) (by repeat first | exact List.Sublist.refl _ | apply List.Sublist.cons_cons | apply List.Sublist.cons)
    · try dsimp only
      omega
    · try dsimp only
      rw [← hh]
      have e : (i + 1).toNat = i.toNat + 1 := by omega
      rw [e]
      have := hashB_step h (keyB k) [] i.toNat (by omega)
      rw [List.append_nil, List.append_nil] at this
      exact this
    · try dsimp only
      omega
  · try simp only [Bool.and_eq_true, Bool.or_eq_true, Bool.or_eq_false_iff, Bool.and_eq_false_iff, Bool.not_eq_true', Bool.not_eq_false', decide_eq_true_eq, decide_eq_false_iff_not, Decidable.not_not] at hge
    refine exit ?_
    refine pX ?_
    refine pX ?_
    refine bX ?_
    refine pN ?_
    refine seq ?_
    refine region ?_
    refine cons (opv (Ev.move (.t rfl)) ?_)
    refine cons (opv (Ev.assign (.t rfl)) ?_)
    refine nil ?_
    refine pN ?_
    refine ret ?_
    refine done rfl (.tmp rfl .nil) (retE ?_)
    have e : (keyB k).drop i.toNat = [] := List.drop_eq_nil_of_le (by omega)
    rw [e] at hh
    rw [← hh]; rfl

theorem ofInt_nat {n : Int} (h : 0 ≤ n ∧ n ≤ 1000000) : (UInt64.ofInt n).toNat = n.toNat := by
  obtain ⟨m, rfl⟩ := Int.eq_ofNat_of_zero_le h.1
  have e : UInt64.ofInt (m : Int) = UInt64.ofNat m := by
    apply UInt64.toNat_inj.1
    simp [UInt64.ofInt, UInt64.toNat_ofNat']
    omega
  rw [e, UInt64.toNat_ofNat', Nat.mod_eq_of_lt (by omega), Int.toNat_natCast]
theorem lane_ne {n : Int} (h : 1 ≤ n ∧ n ≤ 16) : UInt64.ofInt n ≠ 0 := fun e => by
  have h1 := congrArg UInt64.toNat e
  rw [ofInt_nat (by omega)] at h1
  simp at h1
  omega
theorem lane_fit (x : UInt64) {n : Int} (h : 1 ≤ n ∧ n ≤ 16) : (x % UInt64.ofInt n).toNat < 9223372036854775808 := by
  rw [UInt64.toNat_mod, ofInt_nat (by omega)]
  have := Nat.mod_lt x.toNat (show 0 < n.toNat by omega)
  omega
theorem shr20 (h : UInt64) : h / 1048576 = shr64 h 20 := by
  apply UInt64.toNat_inj.1
  rw [UInt64.toNat_div, toNat_shr64]
  rfl
def hashK (k : SKey) : UInt64 := hashB 14695981039346656037 (keyB k)
def laneV (k : SKey) (n : Int) : Int × Int := if n < 1 ∨ n > 16 then (0, 2) else (((hashK k).toNat % n.toNat : Nat), 0)
def partV (k : SKey) (f : UInt64) : UInt64 × Int := if f = 0 then (0, 2) else (shr64 (hashK k) 20 % f, 0)

theorem en20 : Enters Try.prog 20 := Enters.mk' (by kernel_rfl)

theorem lane_ok (k : SKey) (n : Int) (w : World) : Calls Try.prog 22 #[eKey.val k, I n] w (RetV w (.tuple #[I (laneV k n).1, I (laneV k n).2])) := by
  refine enter0 18 Try.func22 rfl rfl (Nat.le_of_ble_eq_true rfl) ?_
  refine seq ?_
  refine region ?_
  refine cons (box (E := eKey) (.t rfl) (fun b1 => ?_))
  refine cons (opv (Ev.assign (.c (v := I 0) rfl)) ?_)
  refine cons (opv (Ev.assign (.c (v := I 0) rfl)) ?_)
  refine nil ?_
  refine pN ?_
  refine seq ?_
  refine seq ?_
  refine region ?_
  refine cons (opv (Ev.move (.t rfl)) ?_)
  refine cons (opv (Ev.lss_i (.t rfl) (.c (v := I 1) rfl)) ?_)
  refine cons (opv (Ev.move (.t rfl)) ?_)
  refine cons (opg rfl rfl (Ev.move (.t rfl)) ?_)
  refine cons (opg rfl rfl (Ev.gtr_i (.g rfl id) (.c (v := I 16) rfl)) ?_)
  refine cons (opv (Ev.pickO (.t rfl) (.c (v := .bool true) rfl) (fun {_} h => by cases h; rfl) ⟨_, rfl⟩ (by first | exact (fun _ h => by rw [h] <;> rfl) | simp_all)) ?_)
  refine nil ?_
  refine pN ?_
  first | refine condD rfl (fun h0 => ?_) (fun h0 => ?_) | refine cond rfl (fun h0 => ?_) (fun h0 => ?_)
  · try simp only [Bool.and_eq_true, Bool.or_eq_true, Bool.or_eq_false_iff, Bool.and_eq_false_iff, Bool.not_eq_true', Bool.not_eq_false', decide_eq_true_eq, decide_eq_false_iff_not, Decidable.not_not] at h0
    refine seq ?_
    refine region ?_
    refine cons (opv (Ev.assign (.c (v := I 0) rfl)) ?_)
    refine cons (opv (Ev.assign (.c (v := I 2) rfl)) ?_)
    refine nil ?_
    refine pN ?_
    refine ret ?_
    refine pR ?_
    refine done rfl (.tmp rfl (.tmp rfl .nil)) (retE ?_)
    first
      | (simp [laneV, h0]; done)
      | have e : ¬ (n < 1 ∨ n > 16) := by omega
        have hnn : (UInt64.ofInt n).toNat = n.toNat := ofInt_nat (by omega)
        simp [laneV, e, hnn, hashK, tupV]
        try omega
  · try simp only [Bool.and_eq_true, Bool.or_eq_true, Bool.or_eq_false_iff, Bool.and_eq_false_iff, Bool.not_eq_true', Bool.not_eq_false', decide_eq_true_eq, decide_eq_false_iff_not, Decidable.not_not] at h0
    refine skip ?_
    refine pN ?_
    refine seq ?_
    refine region ?_
    refine cons (opv (Ev.load ty27 (.t rfl) (ptsVar (by repeat first | exact List.Mem.head _ | apply List.Mem.tail) (Lens.id _))) ?_)
    refine cons (callv en20 (.cons (.t rfl) .nil) (fun w I => fhash_ok _ w) ?_)
    refine cons (opv (Ev.move (.t rfl)) ?_)
    refine cons (opv (Ev.conv_i_u64 Try.underlying40 Try.underlying3 (.t rfl)) ?_)
    refine cons (opv (Ev.rem_u64 (.t rfl) (.t rfl) (fun _ => lane_ne (by omega))) ?_)
    refine cons (opv (Ev.conv_u64_i Try.underlying3 Try.underlying40 (.t rfl) (fun _ => lane_fit _ (by omega))) ?_)
    refine cons (opv (Ev.assign (.t rfl)) ?_)
    refine cons (opv (Ev.assign (.c (v := I 0) rfl)) ?_)
    refine nil ?_
    refine pN ?_
    refine ret ?_
    refine done rfl (.tmp rfl (.tmp rfl .nil)) (retE ?_)
    first
      | (simp [laneV, h0]; done)
      | have e : ¬ (n < 1 ∨ n > 16) := by omega
        have hnn : (UInt64.ofInt n).toNat = n.toNat := ofInt_nat (by omega)
        simp [laneV, e, hnn, hashK, tupV]
        try omega

theorem en21 : Enters Try.prog 21 := Enters.mk' (by kernel_rfl)

theorem rlane_ok (k : SKey) (n : Int) (w : World) : Calls Try.prog 23 #[eKey.val k, I n] w (RetV w (.tuple #[I (laneV k n).1, I (laneV k n).2])) := by
  refine enter0 18 Try.func23 rfl rfl (Nat.le_of_ble_eq_true rfl) ?_
  refine seq ?_
  refine region ?_
  refine cons (box (E := eKey) (.t rfl) (fun b1 => ?_))
  refine cons (opv (Ev.assign (.c (v := I 0) rfl)) ?_)
  refine cons (opv (Ev.assign (.c (v := I 0) rfl)) ?_)
  refine nil ?_
  refine pN ?_
  refine seq ?_
  refine seq ?_
  refine region ?_
  refine cons (opv (Ev.move (.t rfl)) ?_)
  refine cons (opv (Ev.lss_i (.t rfl) (.c (v := I 1) rfl)) ?_)
  refine cons (opv (Ev.move (.t rfl)) ?_)
  refine cons (opg rfl rfl (Ev.move (.t rfl)) ?_)
  refine cons (opg rfl rfl (Ev.gtr_i (.g rfl id) (.c (v := I 16) rfl)) ?_)
  refine cons (opv (Ev.pickO (.t rfl) (.c (v := .bool true) rfl) (fun {_} h => by cases h; rfl) ⟨_, rfl⟩ (by first | exact (fun _ h => by rw [h] <;> rfl) | simp_all)) ?_)
  refine nil ?_
  refine pN ?_
  first | refine condD rfl (fun h0 => ?_) (fun h0 => ?_) | refine cond rfl (fun h0 => ?_) (fun h0 => ?_)
  · try simp only [Bool.and_eq_true, Bool.or_eq_true, Bool.or_eq_false_iff, Bool.and_eq_false_iff, Bool.not_eq_true', Bool.not_eq_false', decide_eq_true_eq, decide_eq_false_iff_not, Decidable.not_not] at h0
    refine seq ?_
    refine region ?_
    refine cons (opv (Ev.assign (.c (v := I 0) rfl)) ?_)
    refine cons (opv (Ev.assign (.c (v := I 2) rfl)) ?_)
    refine nil ?_
    refine pN ?_
    refine ret ?_
    refine pR ?_
    refine done rfl (.tmp rfl (.tmp rfl .nil)) (retE ?_)
    first
      | (simp [laneV, h0]; done)
      | have e : ¬ (n < 1 ∨ n > 16) := by omega
        have hnn : (UInt64.ofInt n).toNat = n.toNat := ofInt_nat (by omega)
        simp [laneV, e, hnn, hashK, tupV]
        try omega
  · try simp only [Bool.and_eq_true, Bool.or_eq_true, Bool.or_eq_false_iff, Bool.and_eq_false_iff, Bool.not_eq_true', Bool.not_eq_false', decide_eq_true_eq, decide_eq_false_iff_not, Decidable.not_not] at h0
    refine skip ?_
    refine pN ?_
    refine seq ?_
    refine region ?_
    refine cons (opv (Ev.load ty27 (.t rfl) (ptsVar (by repeat first | exact List.Mem.head _ | apply List.Mem.tail) (Lens.id _))) ?_)
    refine cons (callv en21 (.cons (.t rfl) .nil) (fun w I => rhash_ok _ w) ?_)
    refine cons (opv (Ev.move (.t rfl)) ?_)
    refine cons (opv (Ev.conv_i_u64 Try.underlying40 Try.underlying3 (.t rfl)) ?_)
    refine cons (opv (Ev.rem_u64 (.t rfl) (.t rfl) (fun _ => lane_ne (by omega))) ?_)
    refine cons (opv (Ev.conv_u64_i Try.underlying3 Try.underlying40 (.t rfl) (fun _ => lane_fit _ (by omega))) ?_)
    refine cons (opv (Ev.assign (.t rfl)) ?_)
    refine cons (opv (Ev.assign (.c (v := I 0) rfl)) ?_)
    refine nil ?_
    refine pN ?_
    refine ret ?_
    refine done rfl (.tmp rfl (.tmp rfl .nil)) (retE ?_)
    first
      | (simp [laneV, h0]; done)
      | have e : ¬ (n < 1 ∨ n > 16) := by omega
        have hnn : (UInt64.ofInt n).toNat = n.toNat := ofInt_nat (by omega)
        simp [laneV, e, hnn, hashK, tupV]
        try omega

theorem part_ok (k : SKey) (f : UInt64) (w : World) : Calls Try.prog 24 #[eKey.val k, U64 f] w (RetV w (.tuple #[U64 (partV k f).1, I (partV k f).2])) := by
  refine enter0 13 Try.func24 rfl rfl (Nat.le_of_ble_eq_true rfl) ?_
  refine seq ?_
  refine region ?_
  refine cons (box (E := eKey) (.t rfl) (fun b1 => ?_))
  refine cons (opv (Ev.assign (.c (v := U64 0) rfl)) ?_)
  refine cons (opv (Ev.assign (.c (v := I 0) rfl)) ?_)
  refine nil ?_
  refine pN ?_
  refine seq ?_
  refine seq ?_
  refine region ?_
  refine cons (opv (Ev.move (.t rfl)) ?_)
  refine cons (opv (Ev.eql_u64 (.t rfl) (.c (v := U64 0) rfl)) ?_)
  refine nil ?_
  refine pN ?_
  first | refine condD rfl (fun h0 => ?_) (fun h0 => ?_) | refine cond rfl (fun h0 => ?_) (fun h0 => ?_)
  · try simp only [Bool.and_eq_true, Bool.or_eq_true, Bool.or_eq_false_iff, Bool.and_eq_false_iff, Bool.not_eq_true', Bool.not_eq_false', decide_eq_true_eq, decide_eq_false_iff_not, Decidable.not_not] at h0
    refine seq ?_
    refine region ?_
    refine cons (opv (Ev.assign (.c (v := U64 0) rfl)) ?_)
    refine cons (opv (Ev.assign (.c (v := I 2) rfl)) ?_)
    refine nil ?_
    refine pN ?_
    refine ret ?_
    refine pR ?_
    refine done rfl (.tmp rfl (.tmp rfl .nil)) (retE ?_)
    simp [partV, h0, shr20, hashK]
    try rfl
  · try simp only [Bool.and_eq_true, Bool.or_eq_true, Bool.or_eq_false_iff, Bool.and_eq_false_iff, Bool.not_eq_true', Bool.not_eq_false', decide_eq_true_eq, decide_eq_false_iff_not, Decidable.not_not] at h0
    refine skip ?_
    refine pN ?_
    refine seq ?_
    refine region ?_
    refine cons (opv (Ev.load ty27 (.t rfl) (ptsVar (by repeat first | exact List.Mem.head _ | apply List.Mem.tail) (Lens.id _))) ?_)
    refine cons (callv en20 (.cons (.t rfl) .nil) (fun w I => fhash_ok _ w) ?_)
    refine cons (opv (Ev.shr_u64 (.t rfl) (.c rfl) (fun _ => by decide)) ?_)
    refine cons (opv (Ev.move (.t rfl)) ?_)
    refine cons (opv (Ev.rem_u64 (.t rfl) (.t rfl) (fun _ => h0)) ?_)
    refine cons (opv (Ev.assign (.t rfl)) ?_)
    refine cons (opv (Ev.assign (.c (v := I 0) rfl)) ?_)
    refine nil ?_
    refine pN ?_
    refine ret ?_
    refine done rfl (.tmp rfl (.tmp rfl .nil)) (retE ?_)
    simp [partV, h0, shr20, hashK]
    try rfl

theorem rpart_ok (k : SKey) (f : UInt64) (w : World) : Calls Try.prog 25 #[eKey.val k, U64 f] w (RetV w (.tuple #[U64 (partV k f).1, I (partV k f).2])) := by
  refine enter0 13 Try.func25 rfl rfl (Nat.le_of_ble_eq_true rfl) ?_
  refine seq ?_
  refine region ?_
  refine cons (box (E := eKey) (.t rfl) (fun b1 => ?_))
  refine cons (opv (Ev.assign (.c (v := U64 0) rfl)) ?_)
  refine cons (opv (Ev.assign (.c (v := I 0) rfl)) ?_)
  refine nil ?_
  refine pN ?_
  refine seq ?_
  refine seq ?_
  refine region ?_
  refine cons (opv (Ev.move (.t rfl)) ?_)
  refine cons (opv (Ev.eql_u64 (.t rfl) (.c (v := U64 0) rfl)) ?_)
  refine nil ?_
  refine pN ?_
  first | refine condD rfl (fun h0 => ?_) (fun h0 => ?_) | refine cond rfl (fun h0 => ?_) (fun h0 => ?_)
  · try simp only [Bool.and_eq_true, Bool.or_eq_true, Bool.or_eq_false_iff, Bool.and_eq_false_iff, Bool.not_eq_true', Bool.not_eq_false', decide_eq_true_eq, decide_eq_false_iff_not, Decidable.not_not] at h0
    refine seq ?_
    refine region ?_
    refine cons (opv (Ev.assign (.c (v := U64 0) rfl)) ?_)
    refine cons (opv (Ev.assign (.c (v := I 2) rfl)) ?_)
    refine nil ?_
    refine pN ?_
    refine ret ?_
    refine pR ?_
    refine done rfl (.tmp rfl (.tmp rfl .nil)) (retE ?_)
    simp [partV, h0, shr20, hashK]
    try rfl
  · try simp only [Bool.and_eq_true, Bool.or_eq_true, Bool.or_eq_false_iff, Bool.and_eq_false_iff, Bool.not_eq_true', Bool.not_eq_false', decide_eq_true_eq, decide_eq_false_iff_not, Decidable.not_not] at h0
    refine skip ?_
    refine pN ?_
    refine seq ?_
    refine region ?_
    refine cons (opv (Ev.load ty27 (.t rfl) (ptsVar (by repeat first | exact List.Mem.head _ | apply List.Mem.tail) (Lens.id _))) ?_)
    refine cons (callv en21 (.cons (.t rfl) .nil) (fun w I => rhash_ok _ w) ?_)
    refine cons (opv (Ev.quo_u64 (.t rfl) (.c (v := U64 1048576) rfl) (fun _ => by decide)) ?_)
    refine cons (opv (Ev.move (.t rfl)) ?_)
    refine cons (opv (Ev.rem_u64 (.t rfl) (.t rfl) (fun _ => h0)) ?_)
    refine cons (opv (Ev.assign (.t rfl)) ?_)
    refine cons (opv (Ev.assign (.c (v := I 0) rfl)) ?_)
    refine nil ?_
    refine pN ?_
    refine ret ?_
    refine done rfl (.tmp rfl (.tmp rfl .nil)) (retE ?_)
    simp [partV, h0, shr20, hashK]
    try rfl
end Go.Proofs.Ytpdanbpipabboaa
