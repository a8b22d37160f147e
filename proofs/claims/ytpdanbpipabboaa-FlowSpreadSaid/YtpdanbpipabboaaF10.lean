/- test -/
import Derived.Test.YtpdanbpipabboaaF9
set_option linter.unusedVariables false
set_option linter.unusedSimpArgs false
namespace Go.Proofs.Ytpdanbpipabboaa
open Go Go.Gx

theorem lane4_ok (k : SKey) (m : Nat) (w : World) : Calls Try.prog 22 #[eKey.val (portK k m), I 4] w (RetV w (.tuple #[I (laneI k m : Nat), I 0])) := lane_ok _ 4 w
theorem part4_ok (k : SKey) (w : World) : Calls Try.prog 24 #[eKey.val k, U64 4] w (RetV w (.tuple #[U64 (shr64 (hashK k) 20 % 4), I 0])) := part_ok _ 4 w
theorem fit_succ {m b : Int} (h : 0 ≤ m ∧ m ≤ b) (hb : b ≤ 256) : Fit (m + 1) := by
  unfold Fit
  omega
theorem count_step (k : SKey) (i : Int) (h0 : 0 ≤ i) (c : Vector Int 4) (hc : ∀ (j : Nat) (hj : j < 4), (0 : Int) ≤ c[j] ∧ c[j] ≤ i) (hl : ∀ m, m < i.toNat → ∀ (j : Nat) (hj : j < 4), laneI k (m + 1) = j → (1 : Int) ≤ c[j])
    (a : Nat) (ha : a < 4) (he : a = laneI k (i.toNat + 1)) :
    (∀ (j : Nat) (hj : j < 4), (0 : Int) ≤ (c.set a (c[a] + 1))[j] ∧ (c.set a (c[a] + 1))[j] ≤ i + 1) ∧ (∀ m, m < (i + 1).toNat → ∀ (j : Nat) (hj : j < 4), laneI k (m + 1) = j → (1 : Int) ≤ (c.set a (c[a] + 1))[j]) := by
  refine ⟨fun j hj => ?_, fun m hm j hj hjm => ?_⟩
  · rw [Vector.getElem_set]
    have h1 := hc j hj
    have h2 := hc a ha
    split
    · omega
    · omega
  · rw [Vector.getElem_set]
    have h2 := hc a ha
    split
    · omega
    · rename_i hne
      refine hl m ?_ j hj hjm
      rcases Nat.lt_or_ge m i.toNat with h | h
      · exact h
      · have : m = i.toNat := by omega
        subst this
        omega
theorem part4_le (x : UInt64) : ¬ 3 < x % 4 := by
  rw [UInt64.lt_iff_toNat_lt, UInt64.toNat_mod]
  show ¬ 3 < x.toNat % 4
  omega
theorem port0 (k : SKey) : ({ k with proto := 6 } : SKey) = portK k 0 := by simp [portK]
theorem portS (k : SKey) (m : Nat) : ({ portK k m with srcPort := (portK k m).srcPort + 1 } : SKey) = portK k (m + 1) := by
  have e : k.srcPort + UInt16.ofNat m + 1 = k.srcPort + UInt16.ofNat (m + 1) := by
    apply UInt16.toNat_inj.1
    simp
    omega
  simp [portK, e]

theorem en18 : Enters Try.prog 18 := Enters.mk' (by kernel_rfl)

theorem FlowHashes_walk (k : SKey) (w : World) : Calls Try.prog 5 #[eKey.val k] w (RetV w (.bool true)) := by
  have hkl := keyB_length k
  refine enter0 49 Try.func5 rfl rfl (Nat.le_of_ble_eq_true rfl) ?_
  refine seq ?_
  refine region ?_
  refine cons (box (E := eKey) (.t rfl) (fun b1 => ?_))
  refine cons (opv (Ev.assign (.c (v := .bool false) rfl)) ?_)
  refine nil ?_
  refine pN ?_
  refine seq ?_
  refine region ?_
  refine cons (opv (Ev.load ty27 (.t rfl) (ptsVar (by repeat first | exact List.Mem.head _ | apply List.Mem.tail) (Lens.id _))) ?_)
  refine cons (callo en17 (.cons (.t rfl) .nil) (fun w I => bytes_ok _ w) (fun v2 => ?_))
  refine cons (opv (Ev.assign (.t rfl)) ?_)
  refine nil ?_
  refine pN ?_
  refine seq ?_
  refine seq ?_
  refine draw' (by kernel_rfl) ?_
  refine take 0 rfl (by kernel_rfl) (by kernel_rfl) (by kernel_rfl) (by repeat first | exact List.Sublist.refl _ | apply List.Sublist.cons_cons | apply List.Sublist.cons) (Ev.move (.t rfl)) ?_
  refine take 1 rfl (by kernel_rfl) (by kernel_rfl) (by kernel_rfl) (by repeat first | exact List.Sublist.refl _ | apply List.Sublist.cons_cons | apply List.Sublist.cons) (Ev.load ty27 (.t rfl) (ptsVar (by repeat first | exact List.Mem.head _ | apply List.Mem.tail) (Lens.id _))) ?_
  refine all [2] (by kernel_rfl) (by decide) (.cons rfl ?_ .nil)
  refine (callo en19 (.cons (.t rfl) .nil) (fun w I => rbytes_ok _ w) (fun v3 => ?_))
  refine heldN_of (by repeat first | exact List.Sublist.refl _ | apply List.Sublist.cons_cons | apply List.Sublist.cons) ?_
  refine all [3] (by kernel_rfl) (by decide) (.cons rfl ?_ .nil)
  refine (callv en18 (.cons (.t rfl) (.cons (.t rfl) .nil)) (fun w I => sameBytes_ok _ _ _ _ w (by first | exact isSl_own (by repeat first | exact List.Mem.head _ | apply List.Mem.tail) w I | exact IsSl.keep0 (by assumption) I.keeps) (by first | exact isSl_own (by repeat first | exact List.Mem.head _ | apply List.Mem.tail) w I | exact IsSl.keep0 (by assumption) I.keeps)) ?_)
  refine heldN_of (by repeat first | exact List.Sublist.refl _ | apply List.Sublist.cons_cons | apply List.Sublist.cons) ?_
  refine take 4 rfl (by kernel_rfl) (by kernel_rfl) (by kernel_rfl) (by repeat first | exact List.Sublist.refl _ | apply List.Sublist.cons_cons | apply List.Sublist.cons) (Ev.not (.t rfl)) ?_
  refine take 5 rfl (by kernel_rfl) (by kernel_rfl) (by kernel_rfl) (by repeat first | exact List.Sublist.refl _ | apply List.Sublist.cons_cons | apply List.Sublist.cons) (Ev.move (.t rfl)) ?_
  refine takeg 6 rfl (by kernel_rfl) (by kernel_rfl) (by kernel_rfl) (by repeat first | exact List.Sublist.refl _ | apply List.Sublist.cons_cons | apply List.Sublist.cons) rfl rfl (Ev.load ty27 (.t rfl) (ptsVar (by repeat first | exact List.Mem.head _ | apply List.Mem.tail) (Lens.id _))) ?_
  refine takeg 8 rfl (by kernel_rfl) (by kernel_rfl) (by kernel_rfl) (by repeat first | exact List.Sublist.refl _ | apply List.Sublist.cons_cons | apply List.Sublist.cons) rfl rfl (Ev.load ty27 (.t rfl) (ptsVar (by repeat first | exact List.Mem.head _ | apply List.Mem.tail) (Lens.id _))) ?_
  refine all [7] (by kernel_rfl) (by decide) (.cons rfl ?_ .nil)
  refine (callg rfl rfl en20 (.cons (.g rfl id) .nil) (fun hg w I => fhash_ok _ w) ?_)
  refine heldN_of (by repeat first | exact List.Sublist.refl _ | apply List.Sublist.cons_cons | apply List.Sublist.cons) ?_
  refine all [9] (by kernel_rfl) (by decide) (.cons rfl ?_ .nil)
  refine (callg rfl rfl en21 (.cons (.g rfl id) .nil) (fun hg w I => rhash_ok _ w) ?_)
  refine heldN_of (by repeat first | exact List.Sublist.refl _ | apply List.Sublist.cons_cons | apply List.Sublist.cons) ?_
  refine takeg 10 rfl (by kernel_rfl) (by kernel_rfl) (by kernel_rfl) (by repeat first | exact List.Sublist.refl _ | apply List.Sublist.cons_cons | apply List.Sublist.cons) rfl rfl (Ev.neq_u64 (.g rfl id) (.g rfl id)) ?_
  refine take 11 rfl (by kernel_rfl) (by kernel_rfl) (by kernel_rfl) (by repeat first | exact List.Sublist.refl _ | apply List.Sublist.cons_cons | apply List.Sublist.cons) (Ev.pickO (.t rfl) (.c (v := .bool true) rfl) (fun {_} h => by cases h; rfl) ⟨_, rfl⟩ (by first | exact (fun _ h => by rw [h] <;> rfl) | simp_all)) ?_
  refine over (by kernel_rfl) ?_
  refine pN ?_
  first | refine condD rfl (fun h0 => ?_) (fun h0 => ?_) | refine cond rfl (fun h0 => ?_) (fun h0 => ?_)
  · try simp only [Bool.and_eq_true, Bool.or_eq_true, Bool.or_eq_false_iff, Bool.and_eq_false_iff, Bool.not_eq_true', Bool.not_eq_false', decide_eq_true_eq, decide_eq_false_iff_not, Decidable.not_not] at h0
    simp at h0
  · try simp only [Bool.and_eq_true, Bool.or_eq_true, Bool.or_eq_false_iff, Bool.and_eq_false_iff, Bool.not_eq_true', Bool.not_eq_false', decide_eq_true_eq, decide_eq_false_iff_not, Decidable.not_not] at h0
    refine skip ?_
    refine pN ?_
    refine seq ?_
    refine seq ?_
    refine region ?_
    refine cons (opv (Ev.assign (.c (v := I 0) rfl)) ?_)
    refine nil ?_
    refine pN ?_
    refine block ?_
    refine loop (X := Int × (List UInt8)) (fun x : Int × (List UInt8) => (0 ≤ x.1 ∧ x.1 ≤ 39) ∧ (x.2.length = 39)) (fun x : Int × (List UInt8) => [(1, true, .pointer (some ⟨b1, 0, none⟩)), (3, true, v2.v), (4, true, I x.1)]) (fun x : Int × (List UInt8) => [OwnS v2.v u8E x.2 5, Var b1 eKey k 27]) (fun x : Int × (List UInt8) => (39 - x.1).toNat) (0, _) ⟨?_, ?_⟩ (by repeat first | exact Sub.nil | refine Sub.cons rfl ?_) (by repeat first | exact List.Sublist.refl _ | apply List.Sublist.cons_cons | apply List.Sublist.cons) (fun x hx => ?_)
    · omega
    · exact hkl
    obtain ⟨i, xs⟩ := x
    obtain ⟨hi, hl⟩ : (0 ≤ i ∧ i ≤ 39) ∧ (xs.length = 39) := hx
    show Sat _ _ [(1, true, .pointer (some ⟨b1, 0, none⟩)), (3, true, v2.v), (4, true, I i)] [OwnS v2.v u8E xs 5, Var b1 eKey k 27]
    refine seq ?_
    refine seq ?_
    refine region ?_
    refine cons (opv (Ev.move (.t rfl)) ?_)
    refine cons (opv (Ev.move (.t rfl)) ?_)
    refine cons (opv (Ev.len Try.underlying32 (.t rfl) (by first | exact isSl_own (by repeat first | exact List.Mem.head _ | apply List.Mem.tail) | exact fun w I => IsSl.keep0 (by assumption) I.keeps)) ?_)
    refine cons (opv (Ev.lss_i (.t rfl) (.t rfl)) ?_)
    refine nil ?_
    refine pN ?_
    first | refine condD rfl (fun hlt => ?_) (fun hge => ?_) | refine cond rfl (fun hlt => ?_) (fun hge => ?_)
    · try simp only [Bool.and_eq_true, Bool.or_eq_true, Bool.or_eq_false_iff, Bool.and_eq_false_iff, Bool.not_eq_true', Bool.not_eq_false', decide_eq_true_eq, decide_eq_false_iff_not, Decidable.not_not] at hlt
      refine skip ?_
      refine pN ?_
      refine seq ?_
      refine block ?_
      refine region ?_
      refine cons (opv (Ev.move (.t rfl)) ?_)
      refine cons (opv (Ev.move (.t rfl)) ?_)
      refine cons (opv (Ev.move (.t rfl)) ?_)
      refine cons (opv (Ev.move (.t rfl)) ?_)
      refine cons (opv (Ev.indexAddr Try.underlying32 ty5 (.t rfl) (.t rfl) (by first | exact isSl_own (by repeat first | exact List.Mem.head _ | apply List.Mem.tail) | exact fun w I => IsSl.keep0 (by assumption) I.keeps) (fun _ => by omega)) ?_)
      refine cons (opv (Ev.loadS0 ty5 (.t rfl) (by first | exact isSl_own (by repeat first | exact List.Mem.head _ | apply List.Mem.tail) | exact fun w I => IsSl.keep0 (by assumption) I.keeps) (fun _ => by omega)) ?_)
      refine cons (opv (Ev.add_u8 (.t rfl) (.c (v := U8 1) rfl)) ?_)
      refine cons (opv (Ev.indexAddr Try.underlying32 ty5 (.t rfl) (.t rfl) (by first | exact isSl_own (by repeat first | exact List.Mem.head _ | apply List.Mem.tail) | exact fun w I => IsSl.keep0 (by assumption) I.keeps) (fun _ => by omega)) ?_)
      refine cons (storeS0 ty5 (.t rfl) (.t rfl) (by repeat first | exact Upd.head | apply Upd.tail) (by omega) ?_)
      refine nil ?_
      refine bN ?_
      refine pN ?_
      refine region ?_
      refine cons (opv (Ev.move (.t rfl)) ?_)
      refine cons (opv (Ev.add_i (.t rfl) (.c (v := I 1) rfl) (fun _ => by omega)) ?_)
      refine cons (opv (Ev.assign (.t rfl)) ?_)
      refine nil ?_
      refine pN ?_
      refine next (X := Int × (List UInt8)) (i + 1, _) ⟨?_, ?_⟩ ?_ (by repeat first | exact Sub.nil | refine Sub.cons rfl ?_) (by repeat first | exact List.Sublist.refl _ | apply List.Sublist.cons_cons | apply List.Sublist.cons)
      · try dsimp only
        omega
      · try dsimp only
        simp [hl]
      · try dsimp only
        omega
    · try simp only [Bool.and_eq_true, Bool.or_eq_true, Bool.or_eq_false_iff, Bool.and_eq_false_iff, Bool.not_eq_true', Bool.not_eq_false', decide_eq_true_eq, decide_eq_false_iff_not, Decidable.not_not] at hge
      refine exit ?_
      refine pX ?_
      refine pX ?_
      refine bX ?_
      refine pN ?_
      refine seq ?_
      refine region ?_
      refine cons (opv (Ev.move (.t rfl)) ?_)
      refine cons (buildSlice (E := u8E) Try.underlying32 ty5 z5 (.cons (.c (v := U8 7) rfl) .nil) rfl rfl (fun v4 => ?_))
      refine cons (append (E := u8E) Try.underlying32 ty5 rfl zb5 zs5 (.t rfl) (.t rfl) (fun _ => by repeat first | exact Upd.head | apply Upd.tail) (by first | exact isSl_own (by repeat first | exact List.Mem.head _ | apply List.Mem.tail) | exact fun w I => IsSl.keep0 (by assumption) I.keeps) (⟨by (show _ ≤ 9223372036854775807); first | omega | (simp; omega), by first | omega | (simp; omega)⟩) (fun v5 => ?_))
      refine cons (opv (Ev.assign (.t rfl)) ?_)
      refine nil ?_
      refine pN ?_
      refine seq ?_
      refine draw' (by kernel_rfl) ?_
      refine take 0 rfl (by kernel_rfl) (by kernel_rfl) (by kernel_rfl) (by repeat first | exact List.Sublist.refl _ | apply List.Sublist.cons_cons | apply List.Sublist.cons) (Ev.load ty27 (.t rfl) (ptsVar (by repeat first | exact List.Mem.head _ | apply List.Mem.tail) (Lens.id _))) ?_
      refine take 2 rfl (by kernel_rfl) (by kernel_rfl) (by kernel_rfl) (by repeat first | exact List.Sublist.refl _ | apply List.Sublist.cons_cons | apply List.Sublist.cons) (Ev.load ty27 (.t rfl) (ptsVar (by repeat first | exact List.Mem.head _ | apply List.Mem.tail) (Lens.id _))) ?_
      refine all [1] (by kernel_rfl) (by decide) (.cons rfl ?_ .nil)
      refine (callo en17 (.cons (.t rfl) .nil) (fun w I => bytes_ok _ w) (fun v6 => ?_))
      refine heldN_of (by repeat first | exact List.Sublist.refl _ | apply List.Sublist.cons_cons | apply List.Sublist.cons) ?_
      refine all [3] (by kernel_rfl) (by decide) (.cons rfl ?_ .nil)
      refine (callo en19 (.cons (.t rfl) .nil) (fun w I => rbytes_ok _ w) (fun v7 => ?_))
      refine heldN_of (by repeat first | exact List.Sublist.refl _ | apply List.Sublist.cons_cons | apply List.Sublist.cons) ?_
      refine all [4] (by kernel_rfl) (by decide) (.cons rfl ?_ .nil)
      refine (callv en18 (.cons (.t rfl) (.cons (.t rfl) .nil)) (fun w I => sameBytes_ok _ _ _ _ w (by first | exact isSl_own (by repeat first | exact List.Mem.head _ | apply List.Mem.tail) w I | exact IsSl.keep0 (by assumption) I.keeps) (by first | exact isSl_own (by repeat first | exact List.Mem.head _ | apply List.Mem.tail) w I | exact IsSl.keep0 (by assumption) I.keeps)) ?_)
      refine heldN_of (by repeat first | exact List.Sublist.refl _ | apply List.Sublist.cons_cons | apply List.Sublist.cons) ?_
      refine take 5 rfl (by kernel_rfl) (by kernel_rfl) (by kernel_rfl) (by repeat first | exact List.Sublist.refl _ | apply List.Sublist.cons_cons | apply List.Sublist.cons) (Ev.move (.t rfl)) ?_
      refine takeg 6 rfl (by kernel_rfl) (by kernel_rfl) (by kernel_rfl) (by repeat first | exact List.Sublist.refl _ | apply List.Sublist.cons_cons | apply List.Sublist.cons) rfl rfl (Ev.move (.t rfl)) ?_
      refine takeg 7 rfl (by kernel_rfl) (by kernel_rfl) (by kernel_rfl) (by repeat first | exact List.Sublist.refl _ | apply List.Sublist.cons_cons | apply List.Sublist.cons) rfl rfl (Ev.len Try.underlying32 (.g rfl id) (by first | exact isSl_own (by repeat first | exact List.Mem.head _ | apply List.Mem.tail) | exact fun w I => IsSl.keep0 (by assumption) I.keeps)) ?_
      refine takeg 8 rfl (by kernel_rfl) (by kernel_rfl) (by kernel_rfl) (by repeat first | exact List.Sublist.refl _ | apply List.Sublist.cons_cons | apply List.Sublist.cons) rfl rfl (Ev.eql_i (.g rfl id) (.c (v := I 40) rfl)) ?_
      refine take 9 rfl (by kernel_rfl) (by kernel_rfl) (by kernel_rfl) (by repeat first | exact List.Sublist.refl _ | apply List.Sublist.cons_cons | apply List.Sublist.cons) (Ev.pickA (.t rfl) (fun {_} h => by cases h; rfl) ⟨_, rfl⟩ (by first | exact (fun _ h => by rw [h] <;> rfl) | simp_all) (.c (v := .bool false) rfl)) ?_
      refine take 10 rfl (by kernel_rfl) (by kernel_rfl) (by kernel_rfl) (by repeat first | exact List.Sublist.refl _ | apply List.Sublist.cons_cons | apply List.Sublist.cons) (Ev.move (.t rfl)) ?_
      refine all [11] (by kernel_rfl) (by decide) (.cons rfl ?_ .nil)
      refine (callg rfl rfl en12 .nil (fun hg w I => awake_ok w) ?_)
      refine heldN_of (by repeat first | exact List.Sublist.refl _ | apply List.Sublist.cons_cons | apply List.Sublist.cons) ?_
      refine take 12 rfl (by kernel_rfl) (by kernel_rfl) (by kernel_rfl) (by repeat first | exact List.Sublist.refl _ | apply List.Sublist.cons_cons | apply List.Sublist.cons) (Ev.pickA (.t rfl) (fun {_} h => by cases h; rfl) ⟨_, rfl⟩ (by first | exact (fun _ h => by rw [h] <;> rfl) | simp_all) (.c (v := .bool false) rfl)) ?_
      refine take 13 rfl (by kernel_rfl) (by kernel_rfl) (by kernel_rfl) (by repeat first | exact List.Sublist.refl _ | apply List.Sublist.cons_cons | apply List.Sublist.cons) (Ev.assign (.t rfl)) ?_
      refine over (by kernel_rfl) ?_
      refine pN ?_
      refine ret ?_
      refine done rfl (.tmp rfl .nil) (retE ?_)
      refine bX2 ?_
      simp [hl]

theorem z53 : (Try.prog.info? 53).bind (·.zero) = some ((arrE 4 iE).val (arrE 4 iE).zero) := by kernel_rfl

theorem ty3 : TyOK Try.prog 3 iE := TyOK.mk' (by kernel_rfl) (by kernel_rfl)

theorem FlowSpread_walk (k : SKey) (w : World) : Calls Try.prog 8 #[eKey.val k] w (RetV w (.bool true)) := by
  refine enter0 62 Try.func8 rfl rfl (Nat.le_of_ble_eq_true rfl) ?_
  refine seq ?_
  refine region ?_
  refine cons (box (E := eKey) (.t rfl) (fun b1 => ?_))
  refine cons (opv (Ev.assign (.c (v := .bool false) rfl)) ?_)
  refine nil ?_
  refine pN ?_
  refine seq ?_
  refine region ?_
  refine cons (opv (Ev.fieldAddr (o := 34) (.t rfl) (by kernel_rfl)) ?_)
  refine cons (storeV ty5 SKey.l_proto (.t rfl) (.c (v := U8 6) rfl) (by repeat first | exact Upd.head | apply Upd.tail) ?_)
  refine nil ?_
  refine pN ?_
  refine seq ?_
  refine region ?_
  refine cons (alloc z53 (fun b2 => ?_))
  refine nil ?_
  refine pN ?_
  refine seq ?_
  refine seq ?_
  refine region ?_
  refine cons (opv (Ev.assign (.c (v := I 0) rfl)) ?_)
  refine nil ?_
  refine pN ?_
  refine block ?_
  have ep : SKey.l_proto.set k 6 = portK k 0 := port0 k
  rw [ep]
  refine loop (X := Int × SKey × (Vector Int 4)) (fun x : Int × SKey × (Vector Int 4) => (x.2.1 = portK k x.1.toNat) ∧ (0 ≤ x.1 ∧ x.1 ≤ 256) ∧ (∀ (j : Nat) (hj : j < 4), (0 : Int) ≤ x.2.2[j] ∧ x.2.2[j] ≤ x.1) ∧ (∀ m, m < x.1.toNat → ∀ (j : Nat) (hj : j < 4), laneI k (m + 1) = j → (1 : Int) ≤ x.2.2[j])) (fun x : Int × SKey × (Vector Int 4) => [(1, true, .pointer (some ⟨b1, 0, none⟩)), (3, true, .pointer (some ⟨b2, 0, none⟩)), (4, true, I x.1)]) (fun x : Int × SKey × (Vector Int 4) => [Var b2 (arrE 4 iE) x.2.2 53, Var b1 eKey x.2.1 27]) (fun x : Int × SKey × (Vector Int 4) => (256 - x.1).toNat) (0, _, _) ⟨?_, ?_, ?_, ?_⟩ (by repeat first | exact Sub.nil | refine Sub.cons rfl ?_) (by repeat first | exact List.Sublist.refl _ | apply List.Sublist.cons_cons | apply List.Sublist.cons) (fun x hx => ?_)
  · rfl
  · omega
  · intro j hj
    change (0 : Int) ≤ (Vector.replicate 4 (0 : Int))[j] ∧ (Vector.replicate 4 (0 : Int))[j] ≤ 0
    simp
  · intro m hm
    exact absurd hm (Nat.not_lt_zero _)
  obtain ⟨i, kk, c⟩ := x
  obtain ⟨hk, hi, hc, hl⟩ : (kk = portK k i.toNat) ∧ (0 ≤ i ∧ i ≤ 256) ∧ (∀ (j : Nat) (hj : j < 4), (0 : Int) ≤ c[j] ∧ c[j] ≤ i) ∧ (∀ m, m < i.toNat → ∀ (j : Nat) (hj : j < 4), laneI k (m + 1) = j → (1 : Int) ≤ c[j]) := hx
  show Sat _ _ [(1, true, .pointer (some ⟨b1, 0, none⟩)), (3, true, .pointer (some ⟨b2, 0, none⟩)), (4, true, I i)] [Var b2 (arrE 4 iE) c 53, Var b1 eKey kk 27]
  refine seq ?_
  refine seq ?_
  refine region ?_
  refine cons (opv (Ev.move (.t rfl)) ?_)
  refine cons (opv (Ev.lss_i (.t rfl) (.c (v := I 256) rfl)) ?_)
  refine nil ?_
  refine pN ?_
  first | refine condD rfl (fun hlt => ?_) (fun hge => ?_) | refine cond rfl (fun hlt => ?_) (fun hge => ?_)
  · try simp only [Bool.and_eq_true, Bool.or_eq_true, Bool.or_eq_false_iff, Bool.and_eq_false_iff, Bool.not_eq_true', Bool.not_eq_false', decide_eq_true_eq, decide_eq_false_iff_not, Decidable.not_not] at hlt
    refine skip ?_
    refine pN ?_
    refine seq ?_
    refine block ?_
    refine seq ?_
    refine region ?_
    refine cons (opv (Ev.fieldAddr (o := 35) (.t rfl) (by kernel_rfl)) ?_)
    refine cons (opv (Ev.load ty25 (.t rfl) (ptsVar (by repeat first | exact List.Mem.head _ | apply List.Mem.tail) SKey.l_srcPort)) ?_)
    refine cons (opv (Ev.add_u16 (.t rfl) (.c (v := U16 1) rfl)) ?_)
    refine cons (opv (Ev.fieldAddr (o := 35) (.t rfl) (by kernel_rfl)) ?_)
    refine cons (storeV ty25 SKey.l_srcPort (.t rfl) (.t rfl) (by repeat first | exact Upd.head | apply Upd.tail) ?_)
    refine nil ?_
    refine pN ?_
    refine seq ?_
    refine region ?_
    subst hk
    have eS : SKey.l_srcPort.set (portK k i.toNat) (SKey.l_srcPort.get (portK k i.toNat) + 1) = portK k (i.toNat + 1) := portS k i.toNat
    rw [eS]
    refine cons (opv (Ev.load ty27 (.t rfl) (ptsVar (by repeat first | exact List.Mem.head _ | apply List.Mem.tail) (Lens.id _))) ?_)
    refine cons (callv en22 (.cons (.t rfl) (.cons (.c (v := I 4) rfl) .nil)) (fun w I => lane4_ok k (i.toNat + 1) w) ?_)
    refine cons (opv (Ev.move (.t rfl)) ?_)
    refine cons (opv (Ev.extract (.t rfl) rfl) ?_)
    refine cons (opv (Ev.extract (.t rfl) rfl) ?_)
    refine cons (opv (Ev.assign (.t rfl)) ?_)
    refine cons (opv (Ev.assign (.t rfl)) ?_)
    refine nil ?_
    refine pN ?_
    refine seq ?_
    refine region ?_
    refine cons (opv (Ev.load ty27 (.t rfl) (ptsVar (by repeat first | exact List.Mem.head _ | apply List.Mem.tail) (Lens.id _))) ?_)
    refine cons (callv en24 (.cons (.t rfl) (.cons (.c (v := U64 4) rfl) .nil)) (fun w I => part4_ok _ w) ?_)
    refine cons (opv (Ev.move (.t rfl)) ?_)
    refine cons (opv (Ev.extract (.t rfl) rfl) ?_)
    refine cons (opv (Ev.extract (.t rfl) rfl) ?_)
    refine cons (opv (Ev.assign (.t rfl)) ?_)
    refine cons (opv (Ev.assign (.t rfl)) ?_)
    refine nil ?_
    refine pN ?_
    refine seq ?_
    refine seq ?_
    refine region ?_
    refine cons (opv (Ev.move (.t rfl)) ?_)
    refine cons (opv (Ev.neq_i (.t rfl) (.c (v := I 0) rfl)) ?_)
    refine cons (opv (Ev.move (.t rfl)) ?_)
    refine cons (opg rfl rfl (Ev.move (.t rfl)) ?_)
    refine cons (opg rfl rfl (Ev.neq_i (.g rfl id) (.c (v := I 0) rfl)) ?_)
    refine cons (opv (Ev.pickO (.t rfl) (.c (v := .bool true) rfl) (fun {_} h => by cases h; rfl) ⟨_, rfl⟩ (by first | exact (fun _ h => by rw [h] <;> rfl) | simp_all)) ?_)
    refine cons (opv (Ev.move (.t rfl)) ?_)
    refine cons (opg rfl rfl (Ev.move (.t rfl)) ?_)
    refine cons (opg rfl rfl (Ev.lss_i (.g rfl id) (.c (v := I 0) rfl)) ?_)
    refine cons (opv (Ev.pickO (.t rfl) (.c (v := .bool true) rfl) (fun {_} h => by cases h; rfl) ⟨_, rfl⟩ (by first | exact (fun _ h => by rw [h] <;> rfl) | simp_all)) ?_)
    refine cons (opv (Ev.move (.t rfl)) ?_)
    refine cons (opg rfl rfl (Ev.move (.t rfl)) ?_)
    refine cons (opg rfl rfl (Ev.gtr_i (.g rfl id) (.c (v := I 3) rfl)) ?_)
    refine cons (opv (Ev.pickO (.t rfl) (.c (v := .bool true) rfl) (fun {_} h => by cases h; rfl) ⟨_, rfl⟩ (by first | exact (fun _ h => by rw [h] <;> rfl) | simp_all)) ?_)
    refine cons (opv (Ev.move (.t rfl)) ?_)
    refine cons (opg rfl rfl (Ev.move (.t rfl)) ?_)
    refine cons (opg rfl rfl (Ev.gtr_u64 (.g rfl id) (.c (v := U64 3) rfl)) ?_)
    refine cons (opv (Ev.pickO (.t rfl) (.c (v := .bool true) rfl) (fun {_} h => by cases h; rfl) ⟨_, rfl⟩ (by first | exact (fun _ h => by rw [h] <;> rfl) | simp_all)) ?_)
    refine nil ?_
    refine pN ?_
    first | refine condD rfl (fun h1 => ?_) (fun h1 => ?_) | refine cond rfl (fun h1 => ?_) (fun h1 => ?_)
    · try simp only [Bool.and_eq_true, Bool.or_eq_true, Bool.or_eq_false_iff, Bool.and_eq_false_iff, Bool.not_eq_true', Bool.not_eq_false', decide_eq_true_eq, decide_eq_false_iff_not, Decidable.not_not] at h1
      have hL := laneI_lt k (i.toNat + 1)
      have hP := part4_le (shr64 (hashK (portK k (i.toNat + 1))) 20)
      simp [hP] at h1
      omega
    · try simp only [Bool.and_eq_true, Bool.or_eq_true, Bool.or_eq_false_iff, Bool.and_eq_false_iff, Bool.not_eq_true', Bool.not_eq_false', decide_eq_true_eq, decide_eq_false_iff_not, Decidable.not_not] at h1
      have hL := laneI_lt k (i.toNat + 1)
      refine skip ?_
      refine pN ?_
      refine region ?_
      refine cons (opv (Ev.move (.t rfl)) ?_)
      refine cons (opv (Ev.move (.t rfl)) ?_)
      refine cons (opv (Ev.indexAddrA0 Try.underlying53 ty3 (.t rfl) (.t rfl) (fun _ => by omega)) ?_)
      refine cons (opv (Ev.load ty3 (.t rfl) (ptsVar (by repeat first | exact List.Mem.head _ | apply List.Mem.tail) (lArr (n := 4) iE _ (by omega)))) ?_)
      refine cons (opv (Ev.add_i (.t rfl) (.c (v := I 1) rfl) (fun _ => fit_succ (hc _ (by omega)) hi.2)) ?_)
      refine cons (opv (Ev.indexAddrA0 Try.underlying53 ty3 (.t rfl) (.t rfl) (fun _ => by omega)) ?_)
      refine cons (storeV ty3 (lArr (n := 4) iE _ (by omega)) (.t rfl) (.t rfl) (by repeat first | exact Upd.head | apply Upd.tail) ?_)
      refine nil ?_
      refine bN ?_
      refine pN ?_
      refine region ?_
      refine cons (opv (Ev.move (.t rfl)) ?_)
      refine cons (opv (Ev.add_i (.t rfl) (.c (v := I 1) rfl) (fun _ => by omega)) ?_)
      refine cons (opv (Ev.assign (.t rfl)) ?_)
      refine nil ?_
      refine pN ?_
      refine next (X := Int × SKey × (Vector Int 4)) (i + 1, portK k (i.toNat + 1), _) ⟨?_, ?_, ?_, ?_⟩ ?_ (by repeat first | exact Sub.nil | refine Sub.cons rfl ?_) (by repeat first | exact List.Sublist.refl _ | apply List.Sublist.cons_cons | apply List.Sublist.cons)
      · try dsimp only
        rw [show (i + 1).toNat = i.toNat + 1 by omega]
      · try dsimp only
        omega
      · try dsimp only
        exact (count_step k i hi.1 c hc hl _ (by omega) (by omega)).1
      · try dsimp only
        exact (count_step k i hi.1 c hc hl _ (by omega) (by omega)).2
      · try dsimp only
        omega
  · try simp only [Bool.and_eq_true, Bool.or_eq_true, Bool.or_eq_false_iff, Bool.and_eq_false_iff, Bool.not_eq_true', Bool.not_eq_false', decide_eq_true_eq, decide_eq_false_iff_not, Decidable.not_not] at hge
    refine exit ?_
    refine pX ?_
    refine pX ?_
    refine bX ?_
    refine pN ?_
    refine seq ?_
    refine seq ?_
    refine region ?_
    refine cons (opv (Ev.assign (.c (v := I 0) rfl)) ?_)
    refine nil ?_
    refine pN ?_
    refine block ?_
    refine loop (X := Int) (fun x : Int => (0 ≤ x ∧ x ≤ 4)) (fun x : Int => [(3, true, .pointer (some ⟨b2, 0, none⟩)), (9, true, I x)]) (fun x : Int => [Var b2 (arrE 4 iE) c 53]) (fun x : Int => (4 - x).toNat) (0) ?_ (by repeat first | exact Sub.nil | refine Sub.cons rfl ?_) (by repeat first | exact List.Sublist.refl _ | apply List.Sublist.cons_cons | apply List.Sublist.cons) (fun x hx => ?_)
    · omega
    obtain ⟨j, rfl⟩ : ∃ y, y = x := ⟨x, rfl⟩
    have hj : 0 ≤ j ∧ j ≤ 4 := hx
    clear hx
    show Sat _ _ [(3, true, .pointer (some ⟨b2, 0, none⟩)), (9, true, I j)] [Var b2 (arrE 4 iE) c 53]
    refine seq ?_
    refine seq ?_
    refine region ?_
    refine cons (opv (Ev.move (.t rfl)) ?_)
    refine cons (opv (Ev.lss_i (.t rfl) (.c (v := I 4) rfl)) ?_)
    refine nil ?_
    refine pN ?_
    first | refine condD rfl (fun hlt2 => ?_) (fun hge2 => ?_) | refine cond rfl (fun hlt2 => ?_) (fun hge2 => ?_)
    · try simp only [Bool.and_eq_true, Bool.or_eq_true, Bool.or_eq_false_iff, Bool.and_eq_false_iff, Bool.not_eq_true', Bool.not_eq_false', decide_eq_true_eq, decide_eq_false_iff_not, Decidable.not_not] at hlt2
      refine skip ?_
      refine pN ?_
      refine seq ?_
      refine block ?_
      refine seq ?_
      refine region ?_
      refine cons (opv (Ev.move (.t rfl)) ?_)
      refine cons (opv (Ev.indexAddrA0 Try.underlying53 ty3 (.t rfl) (.t rfl) (fun _ => by omega)) ?_)
      refine cons (opv (Ev.load ty3 (.t rfl) (ptsVar (by repeat first | exact List.Mem.head _ | apply List.Mem.tail) (lArr (n := 4) iE _ (by omega)))) ?_)
      refine cons (opv (Ev.eql_i (.t rfl) (.c (v := I 0) rfl)) ?_)
      refine nil ?_
      refine pN ?_
      first | refine condD rfl (fun h3 => ?_) (fun h3 => ?_) | refine cond rfl (fun h3 => ?_) (fun h3 => ?_)
      · try simp only [Bool.and_eq_true, Bool.or_eq_true, Bool.or_eq_false_iff, Bool.and_eq_false_iff, Bool.not_eq_true', Bool.not_eq_false', decide_eq_true_eq, decide_eq_false_iff_not, Decidable.not_not] at h3
        obtain ⟨m, hm, hmj⟩ := spread k j.toNat (by omega)
        have h := hl m (by omega) j.toNat (by omega) hmj
        change c[j.toNat] = 0 at h3
        omega
      · try simp only [Bool.and_eq_true, Bool.or_eq_true, Bool.or_eq_false_iff, Bool.and_eq_false_iff, Bool.not_eq_true', Bool.not_eq_false', decide_eq_true_eq, decide_eq_false_iff_not, Decidable.not_not] at h3
        refine skip ?_
        refine bN ?_
        refine pN ?_
        refine region ?_
        refine cons (opv (Ev.move (.t rfl)) ?_)
        refine cons (opv (Ev.add_i (.t rfl) (.c (v := I 1) rfl) (fun _ => by omega)) ?_)
        refine cons (opv (Ev.assign (.t rfl)) ?_)
        refine nil ?_
        refine pN ?_
        refine next (X := Int) (j + 1) ?_ ?_ (by repeat first | exact Sub.nil | refine Sub.cons rfl ?_) (by repeat first | exact List.Sublist.refl _ | apply List.Sublist.cons_cons | apply List.Sublist.cons)
        · try dsimp only
          omega
        · try dsimp only
          omega
    · try simp only [Bool.and_eq_true, Bool.or_eq_true, Bool.or_eq_false_iff, Bool.and_eq_false_iff, Bool.not_eq_true', Bool.not_eq_false', decide_eq_true_eq, decide_eq_false_iff_not, Decidable.not_not] at hge2
      refine exit ?_
      refine pX ?_
      refine pX ?_
      refine bX ?_
      refine pN ?_
      refine seq ?_
      refine region ?_
      refine cons (callv en12 .nil (fun w I => awake_ok w) ?_)
      refine cons (opv (Ev.assign (.t rfl)) ?_)
      refine nil ?_
      refine pN ?_
      refine ret ?_
      refine done rfl (.tmp rfl .nil) (retE ?_)
      rfl
end Go.Proofs.Ytpdanbpipabboaa
