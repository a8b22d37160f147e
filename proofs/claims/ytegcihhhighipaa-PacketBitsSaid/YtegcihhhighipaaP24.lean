/- packet -/
import Derived.Test.YtegcihhhighipaaP23
set_option linter.unusedVariables false
set_option linter.unusedSimpArgs false
namespace Go.Proofs.Ytegcihhhighipaa
open Go Go.Gx

theorem ne8 (x : UInt8) : x ≠ x + 1 := fun h => by
  have h1 := congrArg UInt8.toNat h
  have h2 := x.toNat_lt
  simp at h1
  omega
theorem ne16 (x : UInt16) : x ≠ x + 1 := fun h => by
  have h1 := congrArg UInt16.toNat h
  have h2 := x.toNat_lt
  simp at h1
  omega
theorem ne32 (x : UInt32) : x ≠ x + 1 := fun h => by
  have h1 := congrArg UInt32.toNat h
  have h2 := x.toNat_lt
  simp at h1
  omega
theorem nex (x : UInt8) : x ≠ x ^^^ 1 := fun h => by
  have h1 : x ^^^ x = x ^^^ (x ^^^ 1) := congrArg (fun z => x ^^^ z) h
  rw [← UInt8.xor_assoc, UInt8.xor_self, UInt8.zero_xor] at h1
  exact absurd h1 (by decide)
theorem nel (x : List UInt8) : x ≠ [] ++ x ++ [0] := fun h => by
  have h1 := congrArg List.length h
  simp at h1
theorem neb (x : Bool) : x ≠ !x := by cases x <;> simp
theorem sameB_self (a : SHeader) (x : List UInt8) : sameB a a x x = true := by unfold sameB; simp

theorem PacketSame_walk (a b : SHeader) (k : Int) (d1 d2 : List UInt8) (w : World) (h1d : IsSl u8E w a.data.v d1) (h2d : IsSl u8E w b.data.v d2) (hl : d1.length ≤ 140737488351232) : Calls Try.prog 4 #[eHeader.val a, eHeader.val b, I k] w (RetV w (.bool true)) := by
  have hk : -11 < k.tmod 11 ∧ k.tmod 11 < 11 := ⟨Int.lt_tmod_of_pos k (by decide), Int.tmod_lt_of_pos k (by decide)⟩
  refine enter0 116 Try.func4 rfl rfl (Nat.le_of_ble_eq_true rfl) ?_
  refine seq ?_
  refine region ?_
  refine cons (box (E := eHeader) (.t rfl) (fun b1 => ?_))
  refine cons (box (E := eHeader) (.t rfl) (fun b2 => ?_))
  refine cons (opv (Ev.assign (.c (v := .bool false) rfl)) ?_)
  refine nil ?_
  refine pN ?_
  refine seq ?_
  refine region ?_
  refine cons (opv (Ev.load (xv := a) ty29 (.t rfl) (ptsVar (by repeat first | exact mH | apply mT | apply mA) (Lens.id _))) ?_)
  refine cons (alloc z29 (fun b3 => ?_))
  refine cons (storeV ty29 (Lens.id _) (.t rfl) (.t rfl) (by repeat first | exact Upd.head | apply Upd.tail | apply Upd.right) ?_)
  refine nil ?_
  refine pN ?_
  refine seq ?_
  refine region ?_
  refine cons (buildSlice (E := u8E) Try.underlying27 ty5 z5 .nil rfl rfl (fun v4 => ?_))
  refine cons (opv (Ev.fieldAddr (o := 42) (.t rfl) (by kernel_rfl)) ?_)
  refine cons (opv (Ev.load (xv := a.data) ty27 (.t rfl) (ptsVar (by repeat first | exact mH | apply mT | apply mA) SHeader.l_data)) ?_)
  refine cons (append (E := u8E) Try.underlying27 ty5 rfl zb5 zs5 (.t rfl) (.t rfl) (fun _ => by repeat first | exact Upd.head | apply Upd.tail | apply Upd.right) (fun w I => h1d.keep0 I.keeps) (⟨by (show _ ≤ 9223372036854775807); first | omega | (simp; done) | (simp; omega), by first | omega | (simp; done) | (simp; omega)⟩) (fun v5 => ?_))
  refine cons (opv (Ev.fieldAddr (o := 42) (.t rfl) (by kernel_rfl)) ?_)
  refine cons (storeV ty27 SHeader.l_data (.t rfl) (.t rfl) (by repeat first | exact Upd.head | apply Upd.tail | apply Upd.right) ?_)
  refine nil ?_
  refine pN ?_
  refine cut (X := SHeader × OV × (List UInt8)) (fun x : SHeader × OV × (List UInt8) => (sameB a x.1 d1 x.2.2 = false) ∧ (sameB x.1 a x.2.2 d1 = false) ∧ (x.1.data = x.2.1)) (fun x : SHeader × OV × (List UInt8) => [(3, true, .pointer (some ⟨b1, 0, none⟩)), (4, true, .pointer (some ⟨b2, 0, none⟩)), (7, true, .pointer (some ⟨b3, 0, none⟩))]) (fun x : SHeader × OV × (List UInt8) => [OwnS x.2.1.v u8E x.2.2 5, Var b3 eHeader x.1 29, Var b2 eHeader b 29, Var b1 eHeader a 29]) ?_ (fun x hx => ?_)
  · refine seq ?_
    refine region ?_
    refine cons (opv (Ev.move (.t rfl)) ?_)
    refine cons (opv (Ev.rem_i (.t rfl) (.c (v := I 11) rfl) (fun _ => by decide)) ?_)
    refine cons (opv (Ev.add_i (.t rfl) (.c (v := I 11) rfl) (fun _ => by omega)) ?_)
    refine cons (opv (Ev.rem_n (.t rfl) (.c (v := I 11) rfl) (fun _ => by omega) (fun _ => by omega)) ?_)
    refine nil ?_
    refine pN ?_
    refine block ?_
    refine seq ?_
    refine region ?_
    refine cons (opv (Ev.eql_i (.t rfl) (.c (v := I 0) rfl)) ?_)
    refine cons (opv (Ev.assign (.t rfl)) ?_)
    refine nil ?_
    refine pN ?_
    first | refine condD rfl (fun h0 => ?_) (fun h0 => ?_) | refine cond rfl (fun h0 => ?_) (fun h0 => ?_)
    · try simp only [Bool.and_eq_true, Bool.or_eq_true, Bool.or_eq_false_iff, Bool.and_eq_false_iff, Bool.not_eq_true', Bool.not_eq_false', decide_eq_true_eq, decide_eq_false_iff_not, Decidable.not_not] at h0
      refine region ?_
      refine cons (opv (Ev.fieldAddr (o := 0) (.t rfl) (by kernel_rfl)) ?_)
      refine cons (opv (Ev.fieldAddr (o := 1) (.t rfl) (by kernel_rfl)) ?_)
      refine cons (opv (Ev.indexAddrA Try.underlying22 ty5 (.t rfl) (.c (v := I 15) rfl) (fun _ => by omega)) ?_)
      refine cons (opv (Ev.load ty5 (.t rfl) (ptsVar (by repeat first | exact mH | apply mT | apply mA) (Lens.comp (Lens.comp SHeader.l_src SAddr.l_b) (lArr (n := 16) u8E _ (by omega))))) ?_)
      refine cons (opv (Ev.xor_u8 (.t rfl) (.c (v := U8 1) rfl)) ?_)
      refine cons (opv (Ev.fieldAddr (o := 0) (.t rfl) (by kernel_rfl)) ?_)
      refine cons (opv (Ev.fieldAddr (o := 1) (.t rfl) (by kernel_rfl)) ?_)
      refine cons (opv (Ev.indexAddrA Try.underlying22 ty5 (.t rfl) (.c (v := I 15) rfl) (fun _ => by omega)) ?_)
      refine cons (storeV ty5 (Lens.comp (Lens.comp SHeader.l_src SAddr.l_b) (lArr (n := 16) u8E _ (by omega))) (.t rfl) (.t rfl) (by repeat first | exact Upd.head | apply Upd.tail | apply Upd.right) ?_)
      refine nil ?_
      refine bN ?_
      refine pN ?_
      refine meet (X := SHeader × OV × (List UInt8)) (_, _, _) ⟨?_, ?_, ?_⟩ (by repeat first | exact Sub.nil | refine Sub.cons rfl ?_) (by repeat first | exact sR | exact sN | apply sC | apply sS | apply sA)
      · try dsimp only
        unfold sameB
        refine decide_eq_false ?_
        rintro ⟨e0, e1, e2, e3, e4, e5, e6, e7, e8, e9, e10⟩
        have k : a.src.b[15] = a.src.b[15] ^^^ 1 := by
          have k := congrArg (fun z : SAddr => z.b[15]) e1
          simpa [Lens.comp, lArr] using k
        exact nex _ k
      · try dsimp only
        unfold sameB
        refine decide_eq_false ?_
        rintro ⟨e0, e1, e2, e3, e4, e5, e6, e7, e8, e9, e10⟩
        have k : a.src.b[15] = a.src.b[15] ^^^ 1 := by
          have k := congrArg (fun z : SAddr => z.b[15]) e1.symm
          simpa [Lens.comp, lArr] using k
        exact nex _ k
      · try dsimp only
        rfl
    · try simp only [Bool.and_eq_true, Bool.or_eq_true, Bool.or_eq_false_iff, Bool.and_eq_false_iff, Bool.not_eq_true', Bool.not_eq_false', decide_eq_true_eq, decide_eq_false_iff_not, Decidable.not_not] at h0
      refine seq ?_
      refine region ?_
      refine cons (opv (Ev.eql_i (.t rfl) (.c (v := I 1) rfl)) ?_)
      refine cons (opv (Ev.assign (.t rfl)) ?_)
      refine nil ?_
      refine pN ?_
      first | refine condD rfl (fun h1 => ?_) (fun h1 => ?_) | refine cond rfl (fun h1 => ?_) (fun h1 => ?_)
      · try simp only [Bool.and_eq_true, Bool.or_eq_true, Bool.or_eq_false_iff, Bool.and_eq_false_iff, Bool.not_eq_true', Bool.not_eq_false', decide_eq_true_eq, decide_eq_false_iff_not, Decidable.not_not] at h1
        refine region ?_
        refine cons (opv (Ev.fieldAddr (o := 17) (.t rfl) (by kernel_rfl)) ?_)
        refine cons (opv (Ev.fieldAddr (o := 0) (.t rfl) (by kernel_rfl)) ?_)
        refine cons (opv (Ev.load ty4 (.t rfl) (ptsVar (by repeat first | exact mH | apply mT | apply mA) (Lens.comp SHeader.l_dst SAddr.l_v6))) ?_)
        refine cons (opv (Ev.not (.t rfl)) ?_)
        refine cons (opv (Ev.fieldAddr (o := 17) (.t rfl) (by kernel_rfl)) ?_)
        refine cons (opv (Ev.fieldAddr (o := 0) (.t rfl) (by kernel_rfl)) ?_)
        refine cons (storeV ty4 (Lens.comp SHeader.l_dst SAddr.l_v6) (.t rfl) (.t rfl) (by repeat first | exact Upd.head | apply Upd.tail | apply Upd.right) ?_)
        refine nil ?_
        refine bN ?_
        refine pN ?_
        refine meet (X := SHeader × OV × (List UInt8)) (_, _, _) ⟨?_, ?_, ?_⟩ (by repeat first | exact Sub.nil | refine Sub.cons rfl ?_) (by repeat first | exact sR | exact sN | apply sC | apply sS | apply sA)
        · try dsimp only
          unfold sameB
          refine decide_eq_false ?_
          rintro ⟨e0, e1, e2, e3, e4, e5, e6, e7, e8, e9, e10⟩
          exact neb _ (congrArg (fun z : SAddr => z.v6) e2)
        · try dsimp only
          unfold sameB
          refine decide_eq_false ?_
          rintro ⟨e0, e1, e2, e3, e4, e5, e6, e7, e8, e9, e10⟩
          exact neb _ (congrArg (fun z : SAddr => z.v6) e2.symm)
        · try dsimp only
          rfl
      · try simp only [Bool.and_eq_true, Bool.or_eq_true, Bool.or_eq_false_iff, Bool.and_eq_false_iff, Bool.not_eq_true', Bool.not_eq_false', decide_eq_true_eq, decide_eq_false_iff_not, Decidable.not_not] at h1
        refine seq ?_
        refine region ?_
        refine cons (opv (Ev.eql_i (.t rfl) (.c (v := I 2) rfl)) ?_)
        refine cons (opv (Ev.assign (.t rfl)) ?_)
        refine nil ?_
        refine pN ?_
        first | refine condD rfl (fun h2 => ?_) (fun h2 => ?_) | refine cond rfl (fun h2 => ?_) (fun h2 => ?_)
        · try simp only [Bool.and_eq_true, Bool.or_eq_true, Bool.or_eq_false_iff, Bool.and_eq_false_iff, Bool.not_eq_true', Bool.not_eq_false', decide_eq_true_eq, decide_eq_false_iff_not, Decidable.not_not] at h2
          refine region ?_
          refine cons (opv (Ev.fieldAddr (o := 34) (.t rfl) (by kernel_rfl)) ?_)
          refine cons (opv (Ev.load ty5 (.t rfl) (ptsVar (by repeat first | exact mH | apply mT | apply mA) SHeader.l_proto)) ?_)
          refine cons (opv (Ev.add_u8 (.t rfl) (.c (v := U8 1) rfl)) ?_)
          refine cons (opv (Ev.fieldAddr (o := 34) (.t rfl) (by kernel_rfl)) ?_)
          refine cons (storeV ty5 SHeader.l_proto (.t rfl) (.t rfl) (by repeat first | exact Upd.head | apply Upd.tail | apply Upd.right) ?_)
          refine nil ?_
          refine bN ?_
          refine pN ?_
          refine meet (X := SHeader × OV × (List UInt8)) (_, _, _) ⟨?_, ?_, ?_⟩ (by repeat first | exact Sub.nil | refine Sub.cons rfl ?_) (by repeat first | exact sR | exact sN | apply sC | apply sS | apply sA)
          · try dsimp only
            unfold sameB
            refine decide_eq_false ?_
            rintro ⟨e0, e1, e2, e3, e4, e5, e6, e7, e8, e9, e10⟩
            exact ne8 _ e3
          · try dsimp only
            unfold sameB
            refine decide_eq_false ?_
            rintro ⟨e0, e1, e2, e3, e4, e5, e6, e7, e8, e9, e10⟩
            exact ne8 _ e3.symm
          · try dsimp only
            rfl
        · try simp only [Bool.and_eq_true, Bool.or_eq_true, Bool.or_eq_false_iff, Bool.and_eq_false_iff, Bool.not_eq_true', Bool.not_eq_false', decide_eq_true_eq, decide_eq_false_iff_not, Decidable.not_not] at h2
          refine seq ?_
          refine region ?_
          refine cons (opv (Ev.eql_i (.t rfl) (.c (v := I 3) rfl)) ?_)
          refine cons (opv (Ev.assign (.t rfl)) ?_)
          refine nil ?_
          refine pN ?_
          first | refine condD rfl (fun h3 => ?_) (fun h3 => ?_) | refine cond rfl (fun h3 => ?_) (fun h3 => ?_)
          · try simp only [Bool.and_eq_true, Bool.or_eq_true, Bool.or_eq_false_iff, Bool.and_eq_false_iff, Bool.not_eq_true', Bool.not_eq_false', decide_eq_true_eq, decide_eq_false_iff_not, Decidable.not_not] at h3
            refine region ?_
            refine cons (opv (Ev.fieldAddr (o := 35) (.t rfl) (by kernel_rfl)) ?_)
            refine cons (opv (Ev.load ty25 (.t rfl) (ptsVar (by repeat first | exact mH | apply mT | apply mA) SHeader.l_srcPort)) ?_)
            refine cons (opv (Ev.add_u16 (.t rfl) (.c (v := U16 1) rfl)) ?_)
            refine cons (opv (Ev.fieldAddr (o := 35) (.t rfl) (by kernel_rfl)) ?_)
            refine cons (storeV ty25 SHeader.l_srcPort (.t rfl) (.t rfl) (by repeat first | exact Upd.head | apply Upd.tail | apply Upd.right) ?_)
            refine nil ?_
            refine bN ?_
            refine pN ?_
            refine meet (X := SHeader × OV × (List UInt8)) (_, _, _) ⟨?_, ?_, ?_⟩ (by repeat first | exact Sub.nil | refine Sub.cons rfl ?_) (by repeat first | exact sR | exact sN | apply sC | apply sS | apply sA)
            · try dsimp only
              unfold sameB
              refine decide_eq_false ?_
              rintro ⟨e0, e1, e2, e3, e4, e5, e6, e7, e8, e9, e10⟩
              exact ne16 _ e4
            · try dsimp only
              unfold sameB
              refine decide_eq_false ?_
              rintro ⟨e0, e1, e2, e3, e4, e5, e6, e7, e8, e9, e10⟩
              exact ne16 _ e4.symm
            · try dsimp only
              rfl
          · try simp only [Bool.and_eq_true, Bool.or_eq_true, Bool.or_eq_false_iff, Bool.and_eq_false_iff, Bool.not_eq_true', Bool.not_eq_false', decide_eq_true_eq, decide_eq_false_iff_not, Decidable.not_not] at h3
            refine seq ?_
            refine region ?_
            refine cons (opv (Ev.eql_i (.t rfl) (.c (v := I 4) rfl)) ?_)
            refine cons (opv (Ev.assign (.t rfl)) ?_)
            refine nil ?_
            refine pN ?_
            first | refine condD rfl (fun h4 => ?_) (fun h4 => ?_) | refine cond rfl (fun h4 => ?_) (fun h4 => ?_)
            · try simp only [Bool.and_eq_true, Bool.or_eq_true, Bool.or_eq_false_iff, Bool.and_eq_false_iff, Bool.not_eq_true', Bool.not_eq_false', decide_eq_true_eq, decide_eq_false_iff_not, Decidable.not_not] at h4
              refine region ?_
              refine cons (opv (Ev.fieldAddr (o := 36) (.t rfl) (by kernel_rfl)) ?_)
              refine cons (opv (Ev.load ty25 (.t rfl) (ptsVar (by repeat first | exact mH | apply mT | apply mA) SHeader.l_dstPort)) ?_)
              refine cons (opv (Ev.add_u16 (.t rfl) (.c (v := U16 1) rfl)) ?_)
              refine cons (opv (Ev.fieldAddr (o := 36) (.t rfl) (by kernel_rfl)) ?_)
              refine cons (storeV ty25 SHeader.l_dstPort (.t rfl) (.t rfl) (by repeat first | exact Upd.head | apply Upd.tail | apply Upd.right) ?_)
              refine nil ?_
              refine bN ?_
              refine pN ?_
              refine meet (X := SHeader × OV × (List UInt8)) (_, _, _) ⟨?_, ?_, ?_⟩ (by repeat first | exact Sub.nil | refine Sub.cons rfl ?_) (by repeat first | exact sR | exact sN | apply sC | apply sS | apply sA)
              · try dsimp only
                unfold sameB
                refine decide_eq_false ?_
                rintro ⟨e0, e1, e2, e3, e4, e5, e6, e7, e8, e9, e10⟩
                exact ne16 _ e5
              · try dsimp only
                unfold sameB
                refine decide_eq_false ?_
                rintro ⟨e0, e1, e2, e3, e4, e5, e6, e7, e8, e9, e10⟩
                exact ne16 _ e5.symm
              · try dsimp only
                rfl
            · try simp only [Bool.and_eq_true, Bool.or_eq_true, Bool.or_eq_false_iff, Bool.and_eq_false_iff, Bool.not_eq_true', Bool.not_eq_false', decide_eq_true_eq, decide_eq_false_iff_not, Decidable.not_not] at h4
              refine seq ?_
              refine region ?_
              refine cons (opv (Ev.eql_i (.t rfl) (.c (v := I 5) rfl)) ?_)
              refine cons (opv (Ev.assign (.t rfl)) ?_)
              refine nil ?_
              refine pN ?_
              first | refine condD rfl (fun h5 => ?_) (fun h5 => ?_) | refine cond rfl (fun h5 => ?_) (fun h5 => ?_)
              · try simp only [Bool.and_eq_true, Bool.or_eq_true, Bool.or_eq_false_iff, Bool.and_eq_false_iff, Bool.not_eq_true', Bool.not_eq_false', decide_eq_true_eq, decide_eq_false_iff_not, Decidable.not_not] at h5
                refine region ?_
                refine cons (opv (Ev.fieldAddr (o := 37) (.t rfl) (by kernel_rfl)) ?_)
                refine cons (opv (Ev.load ty5 (.t rfl) (ptsVar (by repeat first | exact mH | apply mT | apply mA) SHeader.l_tTL)) ?_)
                refine cons (opv (Ev.add_u8 (.t rfl) (.c (v := U8 1) rfl)) ?_)
                refine cons (opv (Ev.fieldAddr (o := 37) (.t rfl) (by kernel_rfl)) ?_)
                refine cons (storeV ty5 SHeader.l_tTL (.t rfl) (.t rfl) (by repeat first | exact Upd.head | apply Upd.tail | apply Upd.right) ?_)
                refine nil ?_
                refine bN ?_
                refine pN ?_
                refine meet (X := SHeader × OV × (List UInt8)) (_, _, _) ⟨?_, ?_, ?_⟩ (by repeat first | exact Sub.nil | refine Sub.cons rfl ?_) (by repeat first | exact sR | exact sN | apply sC | apply sS | apply sA)
                · try dsimp only
                  unfold sameB
                  refine decide_eq_false ?_
                  rintro ⟨e0, e1, e2, e3, e4, e5, e6, e7, e8, e9, e10⟩
                  exact ne8 _ e6
                · try dsimp only
                  unfold sameB
                  refine decide_eq_false ?_
                  rintro ⟨e0, e1, e2, e3, e4, e5, e6, e7, e8, e9, e10⟩
                  exact ne8 _ e6.symm
                · try dsimp only
                  rfl
              · try simp only [Bool.and_eq_true, Bool.or_eq_true, Bool.or_eq_false_iff, Bool.and_eq_false_iff, Bool.not_eq_true', Bool.not_eq_false', decide_eq_true_eq, decide_eq_false_iff_not, Decidable.not_not] at h5
                refine seq ?_
                refine region ?_
                refine cons (opv (Ev.eql_i (.t rfl) (.c (v := I 6) rfl)) ?_)
                refine cons (opv (Ev.assign (.t rfl)) ?_)
                refine nil ?_
                refine pN ?_
                first | refine condD rfl (fun h6 => ?_) (fun h6 => ?_) | refine cond rfl (fun h6 => ?_) (fun h6 => ?_)
                · try simp only [Bool.and_eq_true, Bool.or_eq_true, Bool.or_eq_false_iff, Bool.and_eq_false_iff, Bool.not_eq_true', Bool.not_eq_false', decide_eq_true_eq, decide_eq_false_iff_not, Decidable.not_not] at h6
                  refine region ?_
                  refine cons (opv (Ev.fieldAddr (o := 38) (.t rfl) (by kernel_rfl)) ?_)
                  refine cons (opv (Ev.load ty5 (.t rfl) (ptsVar (by repeat first | exact mH | apply mT | apply mA) SHeader.l_class_)) ?_)
                  refine cons (opv (Ev.add_u8 (.t rfl) (.c (v := U8 1) rfl)) ?_)
                  refine cons (opv (Ev.fieldAddr (o := 38) (.t rfl) (by kernel_rfl)) ?_)
                  refine cons (storeV ty5 SHeader.l_class_ (.t rfl) (.t rfl) (by repeat first | exact Upd.head | apply Upd.tail | apply Upd.right) ?_)
                  refine nil ?_
                  refine bN ?_
                  refine pN ?_
                  refine meet (X := SHeader × OV × (List UInt8)) (_, _, _) ⟨?_, ?_, ?_⟩ (by repeat first | exact Sub.nil | refine Sub.cons rfl ?_) (by repeat first | exact sR | exact sN | apply sC | apply sS | apply sA)
                  · try dsimp only
                    unfold sameB
                    refine decide_eq_false ?_
                    rintro ⟨e0, e1, e2, e3, e4, e5, e6, e7, e8, e9, e10⟩
                    exact ne8 _ e7
                  · try dsimp only
                    unfold sameB
                    refine decide_eq_false ?_
                    rintro ⟨e0, e1, e2, e3, e4, e5, e6, e7, e8, e9, e10⟩
                    exact ne8 _ e7.symm
                  · try dsimp only
                    rfl
                · try simp only [Bool.and_eq_true, Bool.or_eq_true, Bool.or_eq_false_iff, Bool.and_eq_false_iff, Bool.not_eq_true', Bool.not_eq_false', decide_eq_true_eq, decide_eq_false_iff_not, Decidable.not_not] at h6
                  refine seq ?_
                  refine region ?_
                  refine cons (opv (Ev.eql_i (.t rfl) (.c (v := I 7) rfl)) ?_)
                  refine cons (opv (Ev.assign (.t rfl)) ?_)
                  refine nil ?_
                  refine pN ?_
                  first | refine condD rfl (fun h7 => ?_) (fun h7 => ?_) | refine cond rfl (fun h7 => ?_) (fun h7 => ?_)
                  · try simp only [Bool.and_eq_true, Bool.or_eq_true, Bool.or_eq_false_iff, Bool.and_eq_false_iff, Bool.not_eq_true', Bool.not_eq_false', decide_eq_true_eq, decide_eq_false_iff_not, Decidable.not_not] at h7
                    refine region ?_
                    refine cons (opv (Ev.fieldAddr (o := 39) (.t rfl) (by kernel_rfl)) ?_)
                    refine cons (opv (Ev.load ty26 (.t rfl) (ptsVar (by repeat first | exact mH | apply mT | apply mA) SHeader.l_id)) ?_)
                    refine cons (opv (Ev.add_u32 (.t rfl) (.c (v := U32 1) rfl)) ?_)
                    refine cons (opv (Ev.fieldAddr (o := 39) (.t rfl) (by kernel_rfl)) ?_)
                    refine cons (storeV ty26 SHeader.l_id (.t rfl) (.t rfl) (by repeat first | exact Upd.head | apply Upd.tail | apply Upd.right) ?_)
                    refine nil ?_
                    refine bN ?_
                    refine pN ?_
                    refine meet (X := SHeader × OV × (List UInt8)) (_, _, _) ⟨?_, ?_, ?_⟩ (by repeat first | exact Sub.nil | refine Sub.cons rfl ?_) (by repeat first | exact sR | exact sN | apply sC | apply sS | apply sA)
                    · try dsimp only
                      unfold sameB
                      refine decide_eq_false ?_
                      rintro ⟨e0, e1, e2, e3, e4, e5, e6, e7, e8, e9, e10⟩
                      exact ne32 _ e8
                    · try dsimp only
                      unfold sameB
                      refine decide_eq_false ?_
                      rintro ⟨e0, e1, e2, e3, e4, e5, e6, e7, e8, e9, e10⟩
                      exact ne32 _ e8.symm
                    · try dsimp only
                      rfl
                  · try simp only [Bool.and_eq_true, Bool.or_eq_true, Bool.or_eq_false_iff, Bool.and_eq_false_iff, Bool.not_eq_true', Bool.not_eq_false', decide_eq_true_eq, decide_eq_false_iff_not, Decidable.not_not] at h7
                    refine seq ?_
                    refine region ?_
                    refine cons (opv (Ev.eql_i (.t rfl) (.c (v := I 8) rfl)) ?_)
                    refine cons (opv (Ev.assign (.t rfl)) ?_)
                    refine nil ?_
                    refine pN ?_
                    first | refine condD rfl (fun h8 => ?_) (fun h8 => ?_) | refine cond rfl (fun h8 => ?_) (fun h8 => ?_)
                    · try simp only [Bool.and_eq_true, Bool.or_eq_true, Bool.or_eq_false_iff, Bool.and_eq_false_iff, Bool.not_eq_true', Bool.not_eq_false', decide_eq_true_eq, decide_eq_false_iff_not, Decidable.not_not] at h8
                      refine region ?_
                      refine cons (opv (Ev.fieldAddr (o := 40) (.t rfl) (by kernel_rfl)) ?_)
                      refine cons (opv (Ev.load ty5 (.t rfl) (ptsVar (by repeat first | exact mH | apply mT | apply mA) SHeader.l_flags)) ?_)
                      refine cons (opv (Ev.add_u8 (.t rfl) (.c (v := U8 1) rfl)) ?_)
                      refine cons (opv (Ev.fieldAddr (o := 40) (.t rfl) (by kernel_rfl)) ?_)
                      refine cons (storeV ty5 SHeader.l_flags (.t rfl) (.t rfl) (by repeat first | exact Upd.head | apply Upd.tail | apply Upd.right) ?_)
                      refine nil ?_
                      refine bN ?_
                      refine pN ?_
                      refine meet (X := SHeader × OV × (List UInt8)) (_, _, _) ⟨?_, ?_, ?_⟩ (by repeat first | exact Sub.nil | refine Sub.cons rfl ?_) (by repeat first | exact sR | exact sN | apply sC | apply sS | apply sA)
                      · try dsimp only
                        unfold sameB
                        refine decide_eq_false ?_
                        rintro ⟨e0, e1, e2, e3, e4, e5, e6, e7, e8, e9, e10⟩
                        exact ne8 _ e9
                      · try dsimp only
                        unfold sameB
                        refine decide_eq_false ?_
                        rintro ⟨e0, e1, e2, e3, e4, e5, e6, e7, e8, e9, e10⟩
                        exact ne8 _ e9.symm
                      · try dsimp only
                        rfl
                    · try simp only [Bool.and_eq_true, Bool.or_eq_true, Bool.or_eq_false_iff, Bool.and_eq_false_iff, Bool.not_eq_true', Bool.not_eq_false', decide_eq_true_eq, decide_eq_false_iff_not, Decidable.not_not] at h8
                      refine seq ?_
                      refine region ?_
                      refine cons (opv (Ev.eql_i (.t rfl) (.c (v := I 9) rfl)) ?_)
                      refine cons (opv (Ev.assign (.t rfl)) ?_)
                      refine nil ?_
                      refine pN ?_
                      first | refine condD rfl (fun h9 => ?_) (fun h9 => ?_) | refine cond rfl (fun h9 => ?_) (fun h9 => ?_)
                      · try simp only [Bool.and_eq_true, Bool.or_eq_true, Bool.or_eq_false_iff, Bool.and_eq_false_iff, Bool.not_eq_true', Bool.not_eq_false', decide_eq_true_eq, decide_eq_false_iff_not, Decidable.not_not] at h9
                        refine region ?_
                        refine cons (opv (Ev.fieldAddr (o := 41) (.t rfl) (by kernel_rfl)) ?_)
                        refine cons (opv (Ev.load ty26 (.t rfl) (ptsVar (by repeat first | exact mH | apply mT | apply mA) SHeader.l_seq)) ?_)
                        refine cons (opv (Ev.add_u32 (.t rfl) (.c (v := U32 1) rfl)) ?_)
                        refine cons (opv (Ev.fieldAddr (o := 41) (.t rfl) (by kernel_rfl)) ?_)
                        refine cons (storeV ty26 SHeader.l_seq (.t rfl) (.t rfl) (by repeat first | exact Upd.head | apply Upd.tail | apply Upd.right) ?_)
                        refine nil ?_
                        refine bN ?_
                        refine pN ?_
                        refine meet (X := SHeader × OV × (List UInt8)) (_, _, _) ⟨?_, ?_, ?_⟩ (by repeat first | exact Sub.nil | refine Sub.cons rfl ?_) (by repeat first | exact sR | exact sN | apply sC | apply sS | apply sA)
                        · try dsimp only
                          unfold sameB
                          refine decide_eq_false ?_
                          rintro ⟨e0, e1, e2, e3, e4, e5, e6, e7, e8, e9, e10⟩
                          exact ne32 _ e10
                        · try dsimp only
                          unfold sameB
                          refine decide_eq_false ?_
                          rintro ⟨e0, e1, e2, e3, e4, e5, e6, e7, e8, e9, e10⟩
                          exact ne32 _ e10.symm
                        · try dsimp only
                          rfl
                      · try simp only [Bool.and_eq_true, Bool.or_eq_true, Bool.or_eq_false_iff, Bool.and_eq_false_iff, Bool.not_eq_true', Bool.not_eq_false', decide_eq_true_eq, decide_eq_false_iff_not, Decidable.not_not] at h9
                        refine region ?_
                        refine cons (opv (Ev.fieldAddr (o := 42) (.t rfl) (by kernel_rfl)) ?_)
                        refine cons (opv (Ev.load ty27 (.t rfl) (ptsVar (by repeat first | exact mH | apply mT | apply mA) SHeader.l_data)) ?_)
                        refine cons (buildSlice (E := u8E) Try.underlying27 ty5 z5 (.cons (.c (v := U8 0) rfl) .nil) rfl rfl (fun v6 => ?_))
                        refine cons (append (E := u8E) Try.underlying27 ty5 rfl zb5 zs5 (.t rfl) (.t rfl) (fun _ => by repeat first | exact Upd.head | apply Upd.tail | apply Upd.right) (by first | exact isSl_own (by repeat first | exact mH | apply mT | apply mA) | exact fun w I => IsSl.keep0 (by assumption) I.keeps) (⟨by (show _ ≤ 9223372036854775807); first | omega | (simp; done) | (simp; omega), by first | omega | (simp; done) | (simp; omega)⟩) (fun v7 => ?_))
                        refine cons (opv (Ev.fieldAddr (o := 42) (.t rfl) (by kernel_rfl)) ?_)
                        refine cons (storeV ty27 SHeader.l_data (.t rfl) (.t rfl) (by repeat first | exact Upd.head | apply Upd.tail | apply Upd.right) ?_)
                        refine nil ?_
                        refine bN ?_
                        refine pN ?_
                        refine meet (X := SHeader × OV × (List UInt8)) (_, v7, [] ++ d1 ++ [0]) ⟨?_, ?_, ?_⟩ (by repeat first | exact Sub.nil | refine Sub.cons rfl ?_) (by repeat first | exact sR | exact sN | apply sC | apply sS | apply sA)
                        · try dsimp only
                          unfold sameB
                          refine decide_eq_false ?_
                          rintro ⟨e0, e1, e2, e3, e4, e5, e6, e7, e8, e9, e10⟩
                          exact nel _ e0
                        · try dsimp only
                          unfold sameB
                          refine decide_eq_false ?_
                          rintro ⟨e0, e1, e2, e3, e4, e5, e6, e7, e8, e9, e10⟩
                          exact nel _ e0.symm
                        · try dsimp only
                          rfl
  obtain ⟨x, o, ys⟩ := x
  obtain ⟨h1, h2, hxo⟩ : (sameB a x d1 ys = false) ∧ (sameB x a ys d1 = false) ∧ (x.data = o) := hx
  show Sat _ _ [(3, true, .pointer (some ⟨b1, 0, none⟩)), (4, true, .pointer (some ⟨b2, 0, none⟩)), (7, true, .pointer (some ⟨b3, 0, none⟩))] [OwnS o.v u8E ys 5, Var b3 eHeader x 29, Var b2 eHeader b 29, Var b1 eHeader a 29]
  refine seq ?_
  refine draw' (by kernel_rfl) ?_
  refine take 0 rfl (by kernel_rfl) (by kernel_rfl) (by kernel_rfl) (by repeat first | exact sR | exact sN | apply sC | apply sS | apply sA) (Ev.load (xv := a) ty29 (.t rfl) (ptsVar (by repeat first | exact mH | apply mT | apply mA) (Lens.id _))) ?_
  refine take 1 rfl (by kernel_rfl) (by kernel_rfl) (by kernel_rfl) (by repeat first | exact sR | exact sN | apply sC | apply sS | apply sA) (Ev.load (xv := b) ty29 (.t rfl) (ptsVar (by repeat first | exact mH | apply mT | apply mA) (Lens.id _))) ?_
  refine take 3 rfl (by kernel_rfl) (by kernel_rfl) (by kernel_rfl) (by repeat first | exact sR | exact sN | apply sC | apply sS | apply sA) (Ev.load (xv := a) ty29 (.t rfl) (ptsVar (by repeat first | exact mH | apply mT | apply mA) (Lens.id _))) ?_
  refine take 4 rfl (by kernel_rfl) (by kernel_rfl) (by kernel_rfl) (by repeat first | exact sR | exact sN | apply sC | apply sS | apply sA) (Ev.load (xv := b) ty29 (.t rfl) (ptsVar (by repeat first | exact mH | apply mT | apply mA) (Lens.id _))) ?_
  refine all [2] (by kernel_rfl) (by decide) (.cons rfl ?_ .nil)
  refine (callv en19 (.cons (.t rfl) (.cons (.t rfl) .nil)) (fun w I => same_ok a b d1 d2 w (h1d.keep0 I.keeps) (h2d.keep0 I.keeps)) ?_)
  refine heldN_of (by repeat first | exact sR | exact sN | apply sC | apply sS | apply sA) ?_
  refine all [5] (by kernel_rfl) (by decide) (.cons rfl ?_ .nil)
  refine (callv en20 (.cons (.t rfl) (.cons (.t rfl) .nil)) (fun w I => rsame_ok a b d1 d2 w (h1d.keep0 I.keeps) (h2d.keep0 I.keeps)) ?_)
  refine heldN_of (by repeat first | exact sR | exact sN | apply sC | apply sS | apply sA) ?_
  refine take 6 rfl (by kernel_rfl) (by kernel_rfl) (by kernel_rfl) (by repeat first | exact sR | exact sN | apply sC | apply sS | apply sA) (Ev.eql_b Try.underlying4 (.t rfl) (.t rfl)) ?_
  refine take 7 rfl (by kernel_rfl) (by kernel_rfl) (by kernel_rfl) (by repeat first | exact sR | exact sN | apply sC | apply sS | apply sA) (Ev.move (.t rfl)) ?_
  refine takeg 8 rfl (by kernel_rfl) (by kernel_rfl) (by kernel_rfl) (by repeat first | exact sR | exact sN | apply sC | apply sS | apply sA) rfl rfl (Ev.load (xv := a) ty29 (.t rfl) (ptsVar (by repeat first | exact mH | apply mT | apply mA) (Lens.id _))) ?_
  refine takeg 9 rfl (by kernel_rfl) (by kernel_rfl) (by kernel_rfl) (by repeat first | exact sR | exact sN | apply sC | apply sS | apply sA) rfl rfl (Ev.load (xv := a) ty29 (.t rfl) (ptsVar (by repeat first | exact mH | apply mT | apply mA) (Lens.id _))) ?_
  refine all [10] (by kernel_rfl) (by decide) (.cons rfl ?_ .nil)
  refine (callg rfl rfl en19 (.cons (.g rfl id) (.cons (.g rfl id) .nil)) (fun hg w I => (sameB_self a d1) ▸ same_ok a a d1 d1 w (h1d.keep0 I.keeps) (h1d.keep0 I.keeps)) ?_)
  refine heldN_of (by repeat first | exact sR | exact sN | apply sC | apply sS | apply sA) ?_
  refine take 11 rfl (by kernel_rfl) (by kernel_rfl) (by kernel_rfl) (by repeat first | exact sR | exact sN | apply sC | apply sS | apply sA) (Ev.pickA (.t rfl) (fun {_} h => by cases h; rfl) ⟨_, rfl⟩ (by intro h1 h; first | (rw [h] <;> rfl) | (rw [h1, h] <;> rfl) | (rw [h, h1] <;> rfl) | simp_all) (.c (v := .bool false) rfl)) ?_
  refine take 12 rfl (by kernel_rfl) (by kernel_rfl) (by kernel_rfl) (by repeat first | exact sR | exact sN | apply sC | apply sS | apply sA) (Ev.move (.t rfl)) ?_
  refine takeg 13 rfl (by kernel_rfl) (by kernel_rfl) (by kernel_rfl) (by repeat first | exact sR | exact sN | apply sC | apply sS | apply sA) rfl rfl (Ev.load (xv := a) ty29 (.t rfl) (ptsVar (by repeat first | exact mH | apply mT | apply mA) (Lens.id _))) ?_
  refine takeg 14 rfl (by kernel_rfl) (by kernel_rfl) (by kernel_rfl) (by repeat first | exact sR | exact sN | apply sC | apply sS | apply sA) rfl rfl (Ev.load ty29 (.t rfl) (ptsVar (by repeat first | exact mH | apply mT | apply mA) (Lens.id _))) ?_
  refine all [15] (by kernel_rfl) (by decide) (.cons rfl ?_ .nil)
  refine (callg rfl rfl en19 (.cons (.g rfl id) (.cons (.g rfl id) .nil)) (fun hg w I => h1 ▸ same_ok a x d1 ys w (h1d.keep0 I.keeps) (by rw [hxo]; exact isSl_own (by repeat first | exact mH | apply mT | apply mA) w I)) ?_)
  refine heldN_of (by repeat first | exact sR | exact sN | apply sC | apply sS | apply sA) ?_
  refine takeg 16 rfl (by kernel_rfl) (by kernel_rfl) (by kernel_rfl) (by repeat first | exact sR | exact sN | apply sC | apply sS | apply sA) rfl rfl (Ev.not (.g rfl id)) ?_
  refine take 17 rfl (by kernel_rfl) (by kernel_rfl) (by kernel_rfl) (by repeat first | exact sR | exact sN | apply sC | apply sS | apply sA) (Ev.pickA (.t rfl) (fun {_} h => by cases h; rfl) ⟨_, rfl⟩ (by intro h1 h; first | (rw [h] <;> rfl) | (rw [h1, h] <;> rfl) | (rw [h, h1] <;> rfl) | simp_all) (.c (v := .bool false) rfl)) ?_
  refine take 18 rfl (by kernel_rfl) (by kernel_rfl) (by kernel_rfl) (by repeat first | exact sR | exact sN | apply sC | apply sS | apply sA) (Ev.move (.t rfl)) ?_
  refine takeg 19 rfl (by kernel_rfl) (by kernel_rfl) (by kernel_rfl) (by repeat first | exact sR | exact sN | apply sC | apply sS | apply sA) rfl rfl (Ev.load ty29 (.t rfl) (ptsVar (by repeat first | exact mH | apply mT | apply mA) (Lens.id _))) ?_
  refine takeg 20 rfl (by kernel_rfl) (by kernel_rfl) (by kernel_rfl) (by repeat first | exact sR | exact sN | apply sC | apply sS | apply sA) rfl rfl (Ev.load (xv := a) ty29 (.t rfl) (ptsVar (by repeat first | exact mH | apply mT | apply mA) (Lens.id _))) ?_
  refine all [21] (by kernel_rfl) (by decide) (.cons rfl ?_ .nil)
  refine (callg rfl rfl en19 (.cons (.g rfl id) (.cons (.g rfl id) .nil)) (fun hg w I => h2 ▸ same_ok x a ys d1 w (by rw [hxo]; exact isSl_own (by repeat first | exact mH | apply mT | apply mA) w I) (h1d.keep0 I.keeps)) ?_)
  refine heldN_of (by repeat first | exact sR | exact sN | apply sC | apply sS | apply sA) ?_
  refine takeg 22 rfl (by kernel_rfl) (by kernel_rfl) (by kernel_rfl) (by repeat first | exact sR | exact sN | apply sC | apply sS | apply sA) rfl rfl (Ev.not (.g rfl id)) ?_
  refine take 23 rfl (by kernel_rfl) (by kernel_rfl) (by kernel_rfl) (by repeat first | exact sR | exact sN | apply sC | apply sS | apply sA) (Ev.pickA (.t rfl) (fun {_} h => by cases h; rfl) ⟨_, rfl⟩ (by intro h1 h; first | (rw [h] <;> rfl) | (rw [h1, h] <;> rfl) | (rw [h, h1] <;> rfl) | simp_all) (.c (v := .bool false) rfl)) ?_
  refine take 24 rfl (by kernel_rfl) (by kernel_rfl) (by kernel_rfl) (by repeat first | exact sR | exact sN | apply sC | apply sS | apply sA) (Ev.move (.t rfl)) ?_
  refine all [25] (by kernel_rfl) (by decide) (.cons rfl ?_ .nil)
  refine (callg rfl rfl en16 .nil (fun hg w I => works_ok w) ?_)
  refine heldN_of (by repeat first | exact sR | exact sN | apply sC | apply sS | apply sA) ?_
  refine take 26 rfl (by kernel_rfl) (by kernel_rfl) (by kernel_rfl) (by repeat first | exact sR | exact sN | apply sC | apply sS | apply sA) (Ev.pickA (.t rfl) (fun {_} h => by cases h; rfl) ⟨_, rfl⟩ (by intro h1 h; first | (rw [h] <;> rfl) | (rw [h1, h] <;> rfl) | (rw [h, h1] <;> rfl) | simp_all) (.c (v := .bool false) rfl)) ?_
  refine take 27 rfl (by kernel_rfl) (by kernel_rfl) (by kernel_rfl) (by repeat first | exact sR | exact sN | apply sC | apply sS | apply sA) (Ev.assign (.t rfl)) ?_
  refine over (by kernel_rfl) ?_
  refine pN ?_
  refine ret ?_
  refine done rfl (.tmp rfl .nil) (retE ?_)
  simp
end Go.Proofs.Ytegcihhhighipaa
