/- packet -/
import Derived.Test.YtegcihhhighipaaP12
set_option linter.unusedVariables false
set_option linter.unusedSimpArgs false
namespace Go.Proofs.Ytegcihhhighipaa
open Go Go.Gx

theorem mk1_8 (l : Int) (x : UInt8) (h : 8 ≤ l) : mk1 l x = x := by unfold mk1; rw [if_neg (by omega), if_neg (by omega)]
theorem mk1_0 (l : Int) (x : UInt8) (h : l ≤ 0) : mk1 l x = 0 := by unfold mk1; rw [if_pos h]
theorem checkA_iff (a : SAddr) : checkA a = 0 ↔ (a.v6 = false → ∀ i : Nat, 4 ≤ i → ∀ hi : i < 16, a.b[i] = 0) := by
  have e1 : checkA a = 0 ↔ maskV (wd a) a.b = a.b := by unfold checkA; split <;> simp_all
  rw [e1]
  constructor
  · intro h hv i h4 hi
    have h2 := congrArg (fun v : Vector UInt8 16 => v[i]) h
    simp only [maskV, Vector.getElem_ofFn] at h2
    have hw : wd a = 32 := by unfold wd; rw [hv]; rfl
    rw [← h2, hw]
    exact mk1_0 _ _ (by show (32 : Int) - 8 * (i : Int) ≤ 0; omega)
  · intro h
    apply Vector.ext
    intro i hi
    simp only [maskV, Vector.getElem_ofFn, Fin.getElem_fin]
    cases hv : a.v6 with
    | true =>
      have hw : wd a = 128 := by unfold wd; rw [hv]; rfl
      rw [hw]
      exact mk1_8 _ _ (by omega)
    | false =>
      have hw : wd a = 32 := by unfold wd; rw [hv]; rfl
      rw [hw]
      by_cases h4 : 4 ≤ i
      · rw [h hv i h4 hi]
        exact mk1_0 _ _ (by omega)
      · exact mk1_8 _ _ (by omega)
theorem addrB_step (a : SAddr) (i : Int) (h0 : 0 ≤ i) (h1 : i < 16) : a.b.toList.take (i + 1).toNat = a.b.toList.take i.toNat ++ [a.b.toList.getD i.toNat 0] := take_snoc _ _ h0 (by simp; omega) 0
theorem putB2_cut (v : UInt64) : putB 2 v.toUInt16.toUInt64 = putB 2 v := by
  have h := v.toNat_lt
  simp only [putB, List.cons.injEq, and_true]
  constructor
  · apply UInt8.toNat_inj.1
    simp [toNat_shr64]
    omega
  · apply UInt8.toNat_inj.1
    simp [toNat_shr64]
theorem putB4_cut (v : UInt64) : putB 4 v.toUInt32.toUInt64 = putB 4 v := by
  have h := v.toNat_lt
  simp only [putB, List.cons.injEq, and_true]
  refine ⟨?_, ?_, ?_, ?_⟩
  all_goals
    apply UInt8.toNat_inj.1
    simp [toNat_shr64]
    try omega
theorem putB2_int (n : Int) : putB 2 (UInt16.ofInt n).toUInt64 = putB 2 (UInt64.ofInt n) := by
  rw [← putB2_cut (UInt64.ofInt n)]
  congr 2
  apply UInt16.toNat_inj.1
  simp [UInt16.ofInt, UInt64.ofInt]
  omega
theorem putB4_int (n : Int) : putB 4 (UInt32.ofInt n).toUInt64 = putB 4 (UInt64.ofInt n) := by
  rw [← putB4_cut (UInt64.ofInt n)]
  congr 2
  apply UInt32.toNat_inj.1
  simp [UInt32.ofInt, UInt64.ofInt]
  omega
theorem ofInt16 (x : UInt16) : UInt64.ofInt (x.toNat : Int) = x.toUInt64 := by
  apply UInt64.toNat_inj.1
  have := x.toNat_lt
  simp [UInt64.ofInt]
  omega

theorem raddress_ok (a : SAddr) (w : World) : Calls Try.prog 30 #[eAddr.val a] w (RetV w (.bool (decide (checkA a = 0)))) := by
  refine enter0 18 Try.func30 rfl rfl (Nat.le_of_ble_eq_true rfl) ?_
  refine seq ?_
  refine region ?_
  refine cons (box (E := eAddr) (.t rfl) (fun b1 => ?_))
  refine cons (opv (Ev.assign (.c (v := .bool false) rfl)) ?_)
  refine nil ?_
  refine pN ?_
  refine seq ?_
  refine seq ?_
  refine region ?_
  refine cons (opv (Ev.assign (.c (v := I 4) rfl)) ?_)
  refine nil ?_
  refine pN ?_
  refine block ?_
  refine loop (X := Int) (fun x : Int => (4 ≤ x ∧ x ≤ 16) ∧ (a.v6 = false → ∀ i : Nat, 4 ≤ i → (i : Int) < x → ∀ hi : i < 16, a.b[i] = 0)) (fun x : Int => [(1, true, .pointer (some ⟨b1, 0, none⟩)), (3, true, I x)]) (fun x : Int => [Var b1 eAddr a 24]) (fun x : Int => (16 - x).toNat) (4) ⟨?_, ?_⟩ (by repeat first | exact Sub.nil | refine Sub.cons rfl ?_) (by repeat first | exact sR | exact sN | apply sC | apply sS | apply sA) (fun x hx => ?_)
  · omega
  · intro hv i h4 hi; omega
  obtain ⟨k, rfl⟩ : ∃ y, y = x := ⟨x, rfl⟩
  obtain ⟨hk, hz⟩ : (4 ≤ k ∧ k ≤ 16) ∧ (a.v6 = false → ∀ i : Nat, 4 ≤ i → (i : Int) < k → ∀ hi : i < 16, a.b[i] = 0) := hx
  show Sat _ _ [(1, true, .pointer (some ⟨b1, 0, none⟩)), (3, true, I k)] [Var b1 eAddr a 24]
  refine seq ?_
  refine seq ?_
  refine region ?_
  refine cons (opv (Ev.move (.t rfl)) ?_)
  refine cons (opv (Ev.lss_i (.t rfl) (.c (v := I 16) rfl)) ?_)
  refine nil ?_
  refine pN ?_
  first | refine condD rfl (fun hlt => ?_) (fun hge => ?_) | refine cond rfl (fun hlt => ?_) (fun hge => ?_)
  · try simp only [Bool.and_eq_true, Bool.or_eq_true, Bool.or_eq_false_iff, Bool.and_eq_false_iff, Bool.not_eq_true', Bool.not_eq_false', decide_eq_true_eq, decide_eq_false_iff_not, Decidable.not_not] at hlt
    refine skip ?_
    refine pN ?_
    refine seq ?_
    refine block ?_
    refine seq ?_
    refine region ?_
    refine cons (opv (Ev.fieldAddr (o := 0) (.t rfl) (by kernel_rfl)) ?_)
    refine cons (opv (Ev.load (xv := a.v6) ty4 (.t rfl) (ptsVar (by repeat first | exact mH | apply mT | apply mA) SAddr.l_v6)) ?_)
    refine cons (opv (Ev.not (.t rfl)) ?_)
    refine cons (opv (Ev.move (.t rfl)) ?_)
    refine cons (opg rfl rfl (Ev.move (.t rfl)) ?_)
    refine cons (opg rfl rfl (Ev.fieldAddr (o := 1) (.t rfl) (by kernel_rfl)) ?_)
    refine cons (opg rfl rfl (Ev.indexAddrA Try.underlying22 ty5 (.g rfl id) (.g rfl id) (fun _ => by first | omega | (rename_i hg; simp at hg; omega))) ?_)
    refine cons (opg rfl rfl (Ev.load ty5 (.g rfl id) (ptsVar (by repeat first | exact mH | apply mT | apply mA) (Lens.comp SAddr.l_b (lArr (n := 16) u8E _ (by first | omega | (rename_i hg; simp at hg; omega)))))) ?_)
    refine cons (opg rfl rfl (Ev.neq_u8 (.g rfl id) (.c (v := U8 0) rfl)) ?_)
    refine cons (opv (Ev.pickA (.t rfl) (fun {_} h => by cases h; rfl) ⟨_, rfl⟩ (by intro h1 h; first | (rw [h] <;> rfl) | (rw [h1, h] <;> rfl) | (rw [h, h1] <;> rfl) | simp_all) (.c (v := .bool false) rfl)) ?_)
    refine nil ?_
    refine pN ?_
    first | refine condD rfl (fun h1 => ?_) (fun h1 => ?_) | refine cond rfl (fun h1 => ?_) (fun h1 => ?_)
    · try simp only [Bool.and_eq_true, Bool.or_eq_true, Bool.or_eq_false_iff, Bool.and_eq_false_iff, Bool.not_eq_true', Bool.not_eq_false', decide_eq_true_eq, decide_eq_false_iff_not, Decidable.not_not] at h1
      refine seq ?_
      refine region ?_
      refine cons (opv (Ev.assign (.c (v := .bool false) rfl)) ?_)
      refine nil ?_
      refine pN ?_
      refine ret ?_
      refine bR ?_
      refine pR ?_
      refine pR ?_
      refine bR ?_
      refine pR ?_
      refine done rfl (.tmp rfl .nil) (retE ?_)
      have hn : ¬ checkA a = 0 := fun h => by
        have := (checkA_iff a).1 h (by simpa using h1.1) k.toNat (by omega) (by omega)
        exact h1.2 (by simpa using this)
      rw [decide_eq_false hn]; rfl
    · try simp only [Bool.and_eq_true, Bool.or_eq_true, Bool.or_eq_false_iff, Bool.and_eq_false_iff, Bool.not_eq_true', Bool.not_eq_false', decide_eq_true_eq, decide_eq_false_iff_not, Decidable.not_not] at h1
      refine skip ?_
      refine bN ?_
      refine pN ?_
      refine region ?_
      refine cons (opv (Ev.move (.t rfl)) ?_)
      refine cons (opv (Ev.add_i (.t rfl) (.c (v := I 1) rfl) (fun _ => by omega)) ?_)
      refine cons (opv (Ev.assign (.t rfl)) ?_)
      refine nil ?_
      refine pN ?_
      refine next (X := Int) (k + 1) ⟨?_, ?_⟩ ?_ (by repeat first | exact Sub.nil | refine Sub.cons rfl ?_) (by repeat first | exact sR | exact sN | apply sC | apply sS | apply sA)
      · try dsimp only
        omega
      · try dsimp only
        intro hv i h4 hi hi2
        by_cases e : (i : Int) < k
        · exact hz hv i h4 e hi2
        · have e2 : i = k.toNat := by omega
          subst e2
          rcases h1 with h | h
          · exact absurd hv (by simpa using h)
          · simpa using h
      · try dsimp only
        omega
  · try simp only [Bool.and_eq_true, Bool.or_eq_true, Bool.or_eq_false_iff, Bool.and_eq_false_iff, Bool.not_eq_true', Bool.not_eq_false', decide_eq_true_eq, decide_eq_false_iff_not, Decidable.not_not] at hge
    refine exit ?_
    refine pX ?_
    refine pX ?_
    refine bX ?_
    refine pN ?_
    refine seq ?_
    refine region ?_
    refine cons (opv (Ev.assign (.c (v := .bool true) rfl)) ?_)
    refine nil ?_
    refine pN ?_
    refine ret ?_
    refine done rfl (.tmp rfl .nil) (retE ?_)
    rw [decide_eq_true ((checkA_iff a).2 (fun hv i h4 hi => hz hv i h4 (by omega) hi))]; rfl

theorem en30 : Enters Try.prog 30 := Enters.mk' (by kernel_rfl)

theorem en31 : Enters Try.prog 31 := Enters.mk' (by kernel_rfl)

theorem rcheck_ok (h : SHeader) (d : List UInt8) (w : World) (hd : IsSl u8E w h.data.v d) (hl : d.length ≤ 1152921504606846975) : Calls Try.prog 12 #[eHeader.val h] w (RetV w (I (checkH h d.length))) := by
  have hfl : 0 ≤ frontN h ∧ frontN h ≤ 40 := by unfold frontN; cases h.src.v6 <;> decide
  have hml : 0 ≤ midN h.proto ∧ midN h.proto ≤ 20 := by unfold midN; split <;> (try split) <;> decide
  refine enter0 72 Try.func12 rfl rfl (Nat.le_of_ble_eq_true rfl) ?_
  refine seq ?_
  refine region ?_
  refine cons (box (E := eHeader) (.t rfl) (fun b1 => ?_))
  refine cons (opv (Ev.assign (.c (v := I 0) rfl)) ?_)
  refine nil ?_
  refine pN ?_
  refine seq ?_
  refine region ?_
  refine cons (opv (Ev.assign (.c (v := U32 65535) rfl)) ?_)
  refine nil ?_
  refine pN ?_
  refine cut (X := UInt32) (fun x : UInt32 => (x = bif h.src.v6 then 1048575 else 65535)) (fun x : UInt32 => [(1, true, .pointer (some ⟨b1, 0, none⟩)), (3, true, U32 x)]) (fun x : UInt32 => [Var b1 eHeader h 29]) ?_ (fun x hx => ?_)
  · refine seq ?_
    refine region ?_
    refine cons (opv (Ev.fieldAddr (o := 0) (.t rfl) (by kernel_rfl)) ?_)
    refine cons (opv (Ev.fieldAddr (o := 0) (.t rfl) (by kernel_rfl)) ?_)
    refine cons (opv (Ev.load (xv := h.src.v6) ty4 (.t rfl) (ptsVar (by repeat first | exact mH | apply mT | apply mA) (Lens.comp SHeader.l_src SAddr.l_v6))) ?_)
    refine nil ?_
    refine pN ?_
    first | refine condD rfl (fun h0 => ?_) (fun h0 => ?_) | refine cond rfl (fun h0 => ?_) (fun h0 => ?_)
    · refine region ?_
      refine cons (opv (Ev.assign (.c (v := U32 1048575) rfl)) ?_)
      refine nil ?_
      refine pN ?_
      refine meet (X := UInt32) (_) ?_ (by repeat first | exact Sub.nil | refine Sub.cons rfl ?_) (by repeat first | exact sR | exact sN | apply sC | apply sS | apply sA)
      · try dsimp only
        first
          | (rw [show h.src.v6 = true from h0]; rfl)
          | (rw [show h.src.v6 = false from by simpa using h0]; rfl)
    · refine skip ?_
      refine pN ?_
      refine meet (X := UInt32) (_) ?_ (by repeat first | exact Sub.nil | refine Sub.cons rfl ?_) (by repeat first | exact sR | exact sN | apply sC | apply sS | apply sA)
      · try dsimp only
        first
          | (rw [show h.src.v6 = true from h0]; rfl)
          | (rw [show h.src.v6 = false from by simpa using h0]; rfl)
  obtain ⟨m, rfl⟩ : ∃ y, y = x := ⟨x, rfl⟩
  have hm : m = bif h.src.v6 then 1048575 else 65535 := hx
  clear hx
  show Sat _ _ [(1, true, .pointer (some ⟨b1, 0, none⟩)), (3, true, U32 m)] [Var b1 eHeader h 29]
  subst hm
  refine seq ?_
  refine seq ?_
  refine region ?_
  refine cons (opv (Ev.fieldAddr (o := 0) (.t rfl) (by kernel_rfl)) ?_)
  refine cons (opv (Ev.load (xv := h.src) ty24 (.t rfl) (ptsVar (by repeat first | exact mH | apply mT | apply mA) SHeader.l_src)) ?_)
  refine cons (callv en30 (.cons (.t rfl) .nil) (fun w I => raddress_ok _ w) ?_)
  refine cons (opv (Ev.not (.t rfl)) ?_)
  refine cons (opv (Ev.move (.t rfl)) ?_)
  refine cons (opg rfl rfl (Ev.fieldAddr (o := 17) (.t rfl) (by kernel_rfl)) ?_)
  refine cons (opg rfl rfl (Ev.load (xv := h.dst) ty24 (.g rfl id) (ptsVar (by repeat first | exact mH | apply mT | apply mA) SHeader.l_dst)) ?_)
  refine cons (callg rfl rfl en30 (.cons (.g rfl id) .nil) (fun hg w I => raddress_ok _ w) ?_)
  refine cons (opg rfl rfl (Ev.not (.g rfl id)) ?_)
  refine cons (opv (Ev.pickO (.t rfl) (.c (v := .bool true) rfl) (fun {_} h => by cases h; rfl) ⟨_, rfl⟩ (by intro h1 h; first | (rw [h] <;> rfl) | (rw [h1, h] <;> rfl) | (rw [h, h1] <;> rfl) | simp_all)) ?_)
  refine cons (opv (Ev.move (.t rfl)) ?_)
  refine cons (opg rfl rfl (Ev.fieldAddr (o := 0) (.t rfl) (by kernel_rfl)) ?_)
  refine cons (opg rfl rfl (Ev.fieldAddr (o := 0) (.g rfl id) (by kernel_rfl)) ?_)
  refine cons (opg rfl rfl (Ev.load (xv := h.src.v6) ty4 (.g rfl id) (ptsVar (by repeat first | exact mH | apply mT | apply mA) (Lens.comp SHeader.l_src SAddr.l_v6))) ?_)
  refine cons (opg rfl rfl (Ev.fieldAddr (o := 17) (.t rfl) (by kernel_rfl)) ?_)
  refine cons (opg rfl rfl (Ev.fieldAddr (o := 0) (.g rfl id) (by kernel_rfl)) ?_)
  refine cons (opg rfl rfl (Ev.load (xv := h.dst.v6) ty4 (.g rfl id) (ptsVar (by repeat first | exact mH | apply mT | apply mA) (Lens.comp SHeader.l_dst SAddr.l_v6))) ?_)
  refine cons (opg rfl rfl (Ev.neq_b Try.underlying4 (.g rfl id) (.g rfl id)) ?_)
  refine cons (opv (Ev.pickO (.t rfl) (.c (v := .bool true) rfl) (fun {_} h => by cases h; rfl) ⟨_, rfl⟩ (by intro h1 h; first | (rw [h] <;> rfl) | (rw [h1, h] <;> rfl) | (rw [h, h1] <;> rfl) | simp_all)) ?_)
  refine cons (opv (Ev.move (.t rfl)) ?_)
  refine cons (opg rfl rfl (Ev.fieldAddr (o := 39) (.t rfl) (by kernel_rfl)) ?_)
  refine cons (opg rfl rfl (Ev.load (xv := h.id) ty26 (.g rfl id) (ptsVar (by repeat first | exact mH | apply mT | apply mA) SHeader.l_id)) ?_)
  refine cons (opg rfl rfl (Ev.move (.t rfl)) ?_)
  refine cons (opg rfl rfl (Ev.gtr_u32 (.g rfl id) (.g rfl id)) ?_)
  refine cons (opv (Ev.pickO (.t rfl) (.c (v := .bool true) rfl) (fun {_} h => by cases h; rfl) ⟨_, rfl⟩ (by intro h1 h; first | (rw [h] <;> rfl) | (rw [h1, h] <;> rfl) | (rw [h, h1] <;> rfl) | simp_all)) ?_)
  refine nil ?_
  refine pN ?_
  first | refine condD rfl (fun h1 => ?_) (fun h1 => ?_) | refine cond rfl (fun h1 => ?_) (fun h1 => ?_)
  · try simp only [Bool.and_eq_true, Bool.or_eq_true, Bool.or_eq_false_iff, Bool.and_eq_false_iff, Bool.not_eq_true', Bool.not_eq_false', decide_eq_true_eq, decide_eq_false_iff_not, Decidable.not_not] at h1
    refine seq ?_
    refine region ?_
    refine cons (opv (Ev.assign (.c (v := I 2) rfl)) ?_)
    refine nil ?_
    refine pN ?_
    refine ret ?_
    refine pR ?_
    refine done rfl (.tmp rfl .nil) (retE ?_)
    unfold checkH
    rw [if_pos (by
      rcases h1 with ((h | h) | h) | h
      · exact .inl h
      · exact .inr (.inl h)
      · exact .inr (.inr (.inl h))
      · exact .inr (.inr (.inr h)))]
    rfl
  · try simp only [Bool.and_eq_true, Bool.or_eq_true, Bool.or_eq_false_iff, Bool.and_eq_false_iff, Bool.not_eq_true', Bool.not_eq_false', decide_eq_true_eq, decide_eq_false_iff_not, Decidable.not_not] at h1
    refine skip ?_
    refine pN ?_
    refine seq ?_
    refine seq ?_
    refine region ?_
    refine cons (opv (Ev.fieldAddr (o := 34) (.t rfl) (by kernel_rfl)) ?_)
    refine cons (opv (Ev.load (xv := h.proto) ty5 (.t rfl) (ptsVar (by repeat first | exact mH | apply mT | apply mA) SHeader.l_proto)) ?_)
    refine cons (callv en31 (.cons (.t rfl) .nil) (fun w I => rmiddle_ok _ w) ?_)
    refine cons (opv (Ev.eql_i (.t rfl) (.c (v := I 0) rfl)) ?_)
    refine cons (opv (Ev.move (.t rfl)) ?_)
    refine cons (opg rfl rfl (Ev.fieldAddr (o := 35) (.t rfl) (by kernel_rfl)) ?_)
    refine cons (opg rfl rfl (Ev.load (xv := h.srcPort) ty25 (.g rfl id) (ptsVar (by repeat first | exact mH | apply mT | apply mA) SHeader.l_srcPort)) ?_)
    refine cons (opg rfl rfl (Ev.neq_u16 (.g rfl id) (.c (v := U16 0) rfl)) ?_)
    refine cons (opg rfl rfl (Ev.move (.g rfl id)) ?_)
    refine cons (opg rfl rfl (Ev.fieldAddr (o := 36) (.t rfl) (by kernel_rfl)) ?_)
    refine cons (opg rfl rfl (Ev.load (xv := h.dstPort) ty25 (.g rfl id) (ptsVar (by repeat first | exact mH | apply mT | apply mA) SHeader.l_dstPort)) ?_)
    refine cons (opg rfl rfl (Ev.neq_u16 (.g rfl id) (.c (v := U16 0) rfl)) ?_)
    refine cons (opg rfl rfl (Ev.pickO (.g rfl id) (.c (v := .bool true) rfl) (fun {_} h => by cases h; rfl) ⟨_, rfl⟩ (by intro h1 h; first | (rw [h] <;> rfl) | (rw [h1, h] <;> rfl) | (rw [h, h1] <;> rfl) | simp_all)) ?_)
    refine cons (opv (Ev.pickA (.t rfl) (fun {_} h => by cases h; rfl) ⟨_, rfl⟩ (by intro h1 h; first | (rw [h] <;> rfl) | (rw [h1, h] <;> rfl) | (rw [h, h1] <;> rfl) | simp_all) (.c (v := .bool false) rfl)) ?_)
    refine cons (opv (Ev.move (.t rfl)) ?_)
    refine cons (opg rfl rfl (Ev.fieldAddr (o := 34) (.t rfl) (by kernel_rfl)) ?_)
    refine cons (opg rfl rfl (Ev.load (xv := h.proto) ty5 (.g rfl id) (ptsVar (by repeat first | exact mH | apply mT | apply mA) SHeader.l_proto)) ?_)
    refine cons (opg rfl rfl (Ev.neq_u8 (.g rfl id) (.c (v := U8 6) rfl)) ?_)
    refine cons (opg rfl rfl (Ev.move (.g rfl id)) ?_)
    refine cons (opg rfl rfl (Ev.fieldAddr (o := 40) (.t rfl) (by kernel_rfl)) ?_)
    refine cons (opg rfl rfl (Ev.load (xv := h.flags) ty5 (.g rfl id) (ptsVar (by repeat first | exact mH | apply mT | apply mA) SHeader.l_flags)) ?_)
    refine cons (opg rfl rfl (Ev.neq_u8 (.g rfl id) (.c (v := U8 0) rfl)) ?_)
    refine cons (opg rfl rfl (Ev.move (.g rfl id)) ?_)
    refine cons (opg rfl rfl (Ev.fieldAddr (o := 41) (.t rfl) (by kernel_rfl)) ?_)
    refine cons (opg rfl rfl (Ev.load (xv := h.seq) ty26 (.g rfl id) (ptsVar (by repeat first | exact mH | apply mT | apply mA) SHeader.l_seq)) ?_)
    refine cons (opg rfl rfl (Ev.neq_u32 (.g rfl id) (.c (v := U32 0) rfl)) ?_)
    refine cons (opg rfl rfl (Ev.pickO (.g rfl id) (.c (v := .bool true) rfl) (fun {_} h => by cases h; rfl) ⟨_, rfl⟩ (by intro h1 h; first | (rw [h] <;> rfl) | (rw [h1, h] <;> rfl) | (rw [h, h1] <;> rfl) | simp_all)) ?_)
    refine cons (opg rfl rfl (Ev.pickA (.g rfl id) (fun {_} h => by cases h; rfl) ⟨_, rfl⟩ (by intro h1 h; first | (rw [h] <;> rfl) | (rw [h1, h] <;> rfl) | (rw [h, h1] <;> rfl) | simp_all) (.c (v := .bool false) rfl)) ?_)
    refine cons (opv (Ev.pickO (.t rfl) (.c (v := .bool true) rfl) (fun {_} h => by cases h; rfl) ⟨_, rfl⟩ (by intro h1 h; first | (rw [h] <;> rfl) | (rw [h1, h] <;> rfl) | (rw [h, h1] <;> rfl) | simp_all)) ?_)
    refine nil ?_
    refine pN ?_
    first | refine condD rfl (fun h2 => ?_) (fun h2 => ?_) | refine cond rfl (fun h2 => ?_) (fun h2 => ?_)
    · try simp only [Bool.and_eq_true, Bool.or_eq_true, Bool.or_eq_false_iff, Bool.and_eq_false_iff, Bool.not_eq_true', Bool.not_eq_false', decide_eq_true_eq, decide_eq_false_iff_not, Decidable.not_not] at h2
      refine seq ?_
      refine region ?_
      refine cons (opv (Ev.assign (.c (v := I 2) rfl)) ?_)
      refine nil ?_
      refine pN ?_
      refine ret ?_
      refine pR ?_
      refine done rfl (.tmp rfl .nil) (retE ?_)
      have hA : ¬ (checkA h.src ≠ 0 ∨ checkA h.dst ≠ 0 ∨ h.src.v6 ≠ h.dst.v6 ∨ (bif h.src.v6 then 1048575 else 65535) < h.id) := by
        rintro (hc | hc | hc | hc)
        · exact hc h1.1.1.1
        · exact hc h1.1.1.2
        · exact hc h1.1.2
        · exact h1.2 hc
      unfold checkH
      rw [if_neg hA]
      rw [if_pos h2]
      rfl
    · try simp only [Bool.and_eq_true, Bool.or_eq_true, Bool.or_eq_false_iff, Bool.and_eq_false_iff, Bool.not_eq_true', Bool.not_eq_false', decide_eq_true_eq, decide_eq_false_iff_not, Decidable.not_not] at h2
      refine skip ?_
      refine pN ?_
      refine seq ?_
      refine seq ?_
      refine draw' (by kernel_rfl) ?_
      refine take 0 rfl (by kernel_rfl) (by kernel_rfl) (by kernel_rfl) (by repeat first | exact sR | exact sN | apply sC | apply sS | apply sA) (Ev.load (xv := h) ty29 (.t rfl) (ptsVar (by repeat first | exact mH | apply mT | apply mA) (Lens.id _))) ?_
      refine take 2 rfl (by kernel_rfl) (by kernel_rfl) (by kernel_rfl) (by repeat first | exact sR | exact sN | apply sC | apply sS | apply sA) (Ev.fieldAddr (o := 34) (.t rfl) (by kernel_rfl)) ?_
      refine take 3 rfl (by kernel_rfl) (by kernel_rfl) (by kernel_rfl) (by repeat first | exact sR | exact sN | apply sC | apply sS | apply sA) (Ev.load (xv := h.proto) ty5 (.t rfl) (ptsVar (by repeat first | exact mH | apply mT | apply mA) SHeader.l_proto)) ?_
      refine take 6 rfl (by kernel_rfl) (by kernel_rfl) (by kernel_rfl) (by repeat first | exact sR | exact sN | apply sC | apply sS | apply sA) (Ev.fieldAddr (o := 42) (.t rfl) (by kernel_rfl)) ?_
      refine take 7 rfl (by kernel_rfl) (by kernel_rfl) (by kernel_rfl) (by repeat first | exact sR | exact sN | apply sC | apply sS | apply sA) (Ev.load (xv := h.data) ty27 (.t rfl) (ptsVar (by repeat first | exact mH | apply mT | apply mA) SHeader.l_data)) ?_
      refine take 8 rfl (by kernel_rfl) (by kernel_rfl) (by kernel_rfl) (by repeat first | exact sR | exact sN | apply sC | apply sS | apply sA) (Ev.len Try.underlying27 (.t rfl) (fun w I => hd.keep0 I.keeps)) ?_
      refine all [1] (by kernel_rfl) (by decide) (.cons rfl ?_ .nil)
      refine (callv en32 (.cons (.t rfl) .nil) (fun w I => rfront_ok _ w) ?_)
      refine heldN_of (by repeat first | exact sR | exact sN | apply sC | apply sS | apply sA) ?_
      refine all [4] (by kernel_rfl) (by decide) (.cons rfl ?_ .nil)
      refine (callv en31 (.cons (.t rfl) .nil) (fun w I => rmiddle_ok _ w) ?_)
      refine heldN_of (by repeat first | exact sR | exact sN | apply sC | apply sS | apply sA) ?_
      refine take 5 rfl (by kernel_rfl) (by kernel_rfl) (by kernel_rfl) (by repeat first | exact sR | exact sN | apply sC | apply sS | apply sA) (Ev.add_i (.t rfl) (.t rfl) (fun _ => by omega)) ?_
      refine take 9 rfl (by kernel_rfl) (by kernel_rfl) (by kernel_rfl) (by repeat first | exact sR | exact sN | apply sC | apply sS | apply sA) (Ev.add_i (.t rfl) (.t rfl) (fun _ => by omega)) ?_
      refine take 10 rfl (by kernel_rfl) (by kernel_rfl) (by kernel_rfl) (by repeat first | exact sR | exact sN | apply sC | apply sS | apply sA) (Ev.gtr_i (.t rfl) (.c (v := I 2048) rfl)) ?_
      refine over (by kernel_rfl) ?_
      refine pN ?_
      first | refine condD rfl (fun h3 => ?_) (fun h3 => ?_) | refine cond rfl (fun h3 => ?_) (fun h3 => ?_)
      · try simp only [Bool.and_eq_true, Bool.or_eq_true, Bool.or_eq_false_iff, Bool.and_eq_false_iff, Bool.not_eq_true', Bool.not_eq_false', decide_eq_true_eq, decide_eq_false_iff_not, Decidable.not_not] at h3
        refine seq ?_
        refine region ?_
        refine cons (opv (Ev.assign (.c (v := I 4) rfl)) ?_)
        refine nil ?_
        refine pN ?_
        refine ret ?_
        refine pR ?_
        refine done rfl (.tmp rfl .nil) (retE ?_)
        have hA : ¬ (checkA h.src ≠ 0 ∨ checkA h.dst ≠ 0 ∨ h.src.v6 ≠ h.dst.v6 ∨ (bif h.src.v6 then 1048575 else 65535) < h.id) := by
          rintro (hc | hc | hc | hc)
          · exact hc h1.1.1.1
          · exact hc h1.1.1.2
          · exact hc h1.1.2
          · exact h1.2 hc
        unfold checkH
        rw [if_neg hA]
        have hB : ¬ (midN h.proto = 0 ∧ (h.srcPort ≠ 0 ∨ h.dstPort ≠ 0) ∨ h.proto ≠ 6 ∧ (h.flags ≠ 0 ∨ h.seq ≠ 0)) := by
          rintro (⟨h3, h4⟩ | ⟨h3, h4⟩)
          · rcases h2.1 with h5 | h5
            · exact h5 h3
            · exact h4.elim (fun k => k h5.1) (fun k => k h5.2)
          · rcases h2.2 with h5 | h5
            · exact h3 h5
            · exact h4.elim (fun k => k h5.1) (fun k => k h5.2)
        rw [if_neg hB]
        rw [if_pos (by omega)]; rfl
      · try simp only [Bool.and_eq_true, Bool.or_eq_true, Bool.or_eq_false_iff, Bool.and_eq_false_iff, Bool.not_eq_true', Bool.not_eq_false', decide_eq_true_eq, decide_eq_false_iff_not, Decidable.not_not] at h3
        refine skip ?_
        refine pN ?_
        refine seq ?_
        refine region ?_
        refine cons (opv (Ev.assign (.c (v := I 0) rfl)) ?_)
        refine nil ?_
        refine pN ?_
        refine ret ?_
        refine done rfl (.tmp rfl .nil) (retE ?_)
        have hA : ¬ (checkA h.src ≠ 0 ∨ checkA h.dst ≠ 0 ∨ h.src.v6 ≠ h.dst.v6 ∨ (bif h.src.v6 then 1048575 else 65535) < h.id) := by
          rintro (hc | hc | hc | hc)
          · exact hc h1.1.1.1
          · exact hc h1.1.1.2
          · exact hc h1.1.2
          · exact h1.2 hc
        unfold checkH
        rw [if_neg hA]
        have hB : ¬ (midN h.proto = 0 ∧ (h.srcPort ≠ 0 ∨ h.dstPort ≠ 0) ∨ h.proto ≠ 6 ∧ (h.flags ≠ 0 ∨ h.seq ≠ 0)) := by
          rintro (⟨h3, h4⟩ | ⟨h3, h4⟩)
          · rcases h2.1 with h5 | h5
            · exact h5 h3
            · exact h4.elim (fun k => k h5.1) (fun k => k h5.2)
          · rcases h2.2 with h5 | h5
            · exact h3 h5
            · exact h4.elim (fun k => k h5.1) (fun k => k h5.2)
        rw [if_neg hB]
        rw [if_neg (by omega)]; rfl

theorem rbytes_ok (a : SAddr) (w : World) : Calls Try.prog 45 #[eAddr.val a] w (RetO w u8E (addrB a) 5) := by
  refine enter0 21 Try.func45 rfl rfl (Nat.le_of_ble_eq_true rfl) ?_
  refine seq ?_
  refine region ?_
  refine cons (box (E := eAddr) (.t rfl) (fun b1 => ?_))
  refine cons (opv (Ev.assign (.c (v := (Go.Value.slice none 0 0)) rfl)) ?_)
  refine nil ?_
  refine pN ?_
  refine seq ?_
  refine region ?_
  refine cons (opv (Ev.assign (.c (v := (Go.Value.slice none 0 0)) rfl)) ?_)
  refine takeNil u8E 5 ?_
  refine nil ?_
  refine pN ?_
  refine seq ?_
  refine region ?_
  refine cons (opv (Ev.assign (.c (v := I 4) rfl)) ?_)
  refine nil ?_
  refine pN ?_
  refine cut (X := Int) (fun x : Int => (x = bif a.v6 then 16 else 4)) (fun x : Int => [(1, true, .pointer (some ⟨b1, 0, none⟩)), (3, true, .slice none 0 0), (4, true, I x)]) (fun x : Int => [OwnS (.slice none 0 0) u8E [] 5, Var b1 eAddr a 24]) ?_ (fun x hx => ?_)
  · refine seq ?_
    refine region ?_
    refine cons (opv (Ev.fieldAddr (o := 0) (.t rfl) (by kernel_rfl)) ?_)
    refine cons (opv (Ev.load (xv := a.v6) ty4 (.t rfl) (ptsVar (by repeat first | exact mH | apply mT | apply mA) SAddr.l_v6)) ?_)
    refine nil ?_
    refine pN ?_
    first | refine condD rfl (fun h0 => ?_) (fun h0 => ?_) | refine cond rfl (fun h0 => ?_) (fun h0 => ?_)
    · refine region ?_
      refine cons (opv (Ev.assign (.c (v := I 16) rfl)) ?_)
      refine nil ?_
      refine pN ?_
      refine meet (X := Int) (_) ?_ (by repeat first | exact Sub.nil | refine Sub.cons rfl ?_) (by repeat first | exact sR | exact sN | apply sC | apply sS | apply sA)
      · try dsimp only
        first
          | (rw [show a.v6 = true from h0]; rfl)
          | (rw [show a.v6 = false from by simpa using h0]; rfl)
    · refine skip ?_
      refine pN ?_
      refine meet (X := Int) (_) ?_ (by repeat first | exact Sub.nil | refine Sub.cons rfl ?_) (by repeat first | exact sR | exact sN | apply sC | apply sS | apply sA)
      · try dsimp only
        first
          | (rw [show a.v6 = true from h0]; rfl)
          | (rw [show a.v6 = false from by simpa using h0]; rfl)
  obtain ⟨n, rfl⟩ : ∃ y, y = x := ⟨x, rfl⟩
  have hn : n = bif a.v6 then 16 else 4 := hx
  clear hx
  show Sat _ _ [(1, true, .pointer (some ⟨b1, 0, none⟩)), (3, true, .slice none 0 0), (4, true, I n)] [OwnS (.slice none 0 0) u8E [] 5, Var b1 eAddr a 24]
  have hn4 : n = 4 ∨ n = 16 := by rw [hn]; cases a.v6 <;> simp
  refine seq ?_
  refine seq ?_
  refine region ?_
  refine cons (opv (Ev.assign (.c (v := I 0) rfl)) ?_)
  refine nil ?_
  refine pN ?_
  refine block ?_
  refine loop (X := Int × OV × (List UInt8)) (fun x : Int × OV × (List UInt8) => (0 ≤ x.1 ∧ x.1 ≤ n) ∧ (x.2.2 = a.b.toList.take x.1.toNat)) (fun x : Int × OV × (List UInt8) => [(1, true, .pointer (some ⟨b1, 0, none⟩)), (3, true, x.2.1.v), (4, true, I n), (5, true, I x.1)]) (fun x : Int × OV × (List UInt8) => [OwnS x.2.1.v u8E x.2.2 5, Var b1 eAddr a 24]) (fun x : Int × OV × (List UInt8) => (n - x.1).toNat) (0, nilSl, []) ⟨?_, ?_⟩ (by repeat first | exact Sub.nil | refine Sub.cons rfl ?_) (by repeat first | exact sR | exact sN | apply sC | apply sS | apply sA) (fun x hx => ?_)
  · omega
  · rfl
  obtain ⟨i, o, xs⟩ := x
  obtain ⟨hi, hxs⟩ : (0 ≤ i ∧ i ≤ n) ∧ (xs = a.b.toList.take i.toNat) := hx
  show Sat _ _ [(1, true, .pointer (some ⟨b1, 0, none⟩)), (3, true, o.v), (4, true, I n), (5, true, I i)] [OwnS o.v u8E xs 5, Var b1 eAddr a 24]
  refine seq ?_
  refine seq ?_
  refine region ?_
  refine cons (opv (Ev.move (.t rfl)) ?_)
  refine cons (opv (Ev.move (.t rfl)) ?_)
  refine cons (opv (Ev.lss_i (.t rfl) (.t rfl)) ?_)
  refine nil ?_
  refine pN ?_
  first | refine condD rfl (fun hlt => ?_) (fun hge => ?_) | refine cond rfl (fun hlt => ?_) (fun hge => ?_)
  · try simp only [Bool.and_eq_true, Bool.or_eq_true, Bool.or_eq_false_iff, Bool.and_eq_false_iff, Bool.not_eq_true', Bool.not_eq_false', decide_eq_true_eq, decide_eq_false_iff_not, Decidable.not_not] at hlt
    have hxl : xs.length ≤ 16 := by rw [hxs]; simp; omega
    refine skip ?_
    refine pN ?_
    refine seq ?_
    refine block ?_
    refine region ?_
    refine cons (opv (Ev.move (.t rfl)) ?_)
    refine cons (opv (Ev.move (.t rfl)) ?_)
    refine cons (opv (Ev.fieldAddr (o := 1) (.t rfl) (by kernel_rfl)) ?_)
    refine cons (opv (Ev.indexAddrA Try.underlying22 ty5 (.t rfl) (.t rfl) (fun _ => by omega)) ?_)
    refine cons (opv (Ev.load ty5 (.t rfl) (ptsVar (by repeat first | exact mH | apply mT | apply mA) (Lens.comp SAddr.l_b (lArr (n := 16) u8E _ (by omega))))) ?_)
    refine cons (buildSlice (E := u8E) Try.underlying27 ty5 z5 (.cons (.t rfl) .nil) rfl rfl (fun v2 => ?_))
    refine cons (append (E := u8E) Try.underlying27 ty5 rfl zb5 zs5 (.t rfl) (.t rfl) (fun _ => by repeat first | exact Upd.head | apply Upd.tail | apply Upd.right) (by first | exact isSl_own (by repeat first | exact mH | apply mT | apply mA) | exact fun w I => IsSl.keep0 (by assumption) I.keeps) (⟨by (show _ ≤ 9223372036854775807); first | omega | (simp; done) | (simp; omega), by first | omega | (simp; done) | (simp; omega)⟩) (fun v3 => ?_))
    refine cons (opv (Ev.assign (.t rfl)) ?_)
    refine nil ?_
    refine bN ?_
    refine pN ?_
    refine region ?_
    refine cons (opv (Ev.move (.t rfl)) ?_)
    refine cons (opv (Ev.add_i (.t rfl) (.c (v := I 1) rfl) (fun _ => by omega)) ?_)
    refine cons (opv (Ev.assign (.t rfl)) ?_)
    refine nil ?_
    refine pN ?_
    refine next (X := Int × OV × (List UInt8)) (i + 1, _, _) ⟨?_, ?_⟩ ?_ (by repeat first | exact Sub.nil | refine Sub.cons rfl ?_) (by repeat first | exact sR | exact sN | apply sC | apply sS | apply sA)
    · try dsimp only
      omega
    · try dsimp only
      rw [addrB_step a i hi.1 (by omega), hxs]
      simp
      rw [Vector.getElem?_eq_getElem (by omega)]
      rfl
    · try dsimp only
      omega
  · try simp only [Bool.and_eq_true, Bool.or_eq_true, Bool.or_eq_false_iff, Bool.and_eq_false_iff, Bool.not_eq_true', Bool.not_eq_false', decide_eq_true_eq, decide_eq_false_iff_not, Decidable.not_not] at hge
    refine exit ?_
    refine pX ?_
    refine pX ?_
    refine bX ?_
    refine pN ?_
    refine seq ?_
    refine region ?_
    refine cons (opv (Ev.move (.t rfl)) ?_)
    refine cons (opv (Ev.assign (.t rfl)) ?_)
    refine nil ?_
    refine pN ?_
    refine ret ?_
    refine done rfl (.tmp rfl .nil) (retOE (by repeat first | exact mH | apply mT | apply mA) ?_)
    rw [hxs]
    unfold addrB
    have e : i.toNat = bif a.v6 then 16 else 4 := by rw [hn] at hge hi; cases hv : a.v6 <;> rw [hv] at hge hi <;> simp at hge hi ⊢ <;> omega
    rw [e]

theorem en44 : Enters Try.prog 44 := Enters.mk' (by kernel_rfl)

theorem rtwo_ok (v : Int) (w : World) : Calls Try.prog 59 #[I v] w (RetO w u8E (putB 2 (UInt64.ofInt v)) 5) := by
  refine enter0 6 Try.func59 rfl rfl (Nat.le_of_ble_eq_true rfl) ?_
  refine seq ?_
  refine region ?_
  refine cons (opv (Ev.assign (.c (v := (Go.Value.slice none 0 0)) rfl)) ?_)
  refine nil ?_
  refine pN ?_
  refine seq ?_
  refine region ?_
  refine cons (opv (Ev.move (.t rfl)) ?_)
  refine cons (opv (Ev.conv_i_u64 Try.underlying66 Try.underlying3 (.t rfl)) ?_)
  refine cons (callo en44 (.cons (.t rfl) (.cons (.c (v := I 2) rfl) .nil)) (fun w I => bytes_ok _ 2 w (by decide)) (fun v1 => ?_))
  refine cons (opv (Ev.assign (.t rfl)) ?_)
  refine nil ?_
  refine pN ?_
  refine ret ?_
  refine done rfl (.tmp rfl .nil) (retOE (by repeat first | exact mH | apply mT | apply mA) ?_)
  rfl
end Go.Proofs.Ytegcihhhighipaa
