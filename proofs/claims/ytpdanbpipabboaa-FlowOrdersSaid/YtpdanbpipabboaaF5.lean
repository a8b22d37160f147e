/- test -/
import Derived.Test.YtpdanbpipabboaaF4
set_option linter.unusedVariables false
set_option linter.unusedSimpArgs false
namespace Go.Proofs.Ytpdanbpipabboaa
open Go Go.Gx

theorem putB_two (v : UInt16) : putB 2 v.toUInt64 = [(v / 256).toUInt8, (v % 256).toUInt8] := by
  have h := v.toNat_lt
  have e1 : (shr64 v.toUInt64 (8 * 1)).toUInt8 = (v / 256).toUInt8 := by
    apply UInt8.toNat_inj.1
    simp [toNat_shr64, UInt16.toNat_div]
  have e2 : (shr64 v.toUInt64 (8 * 0)).toUInt8 = (v % 256).toUInt8 := by
    apply UInt8.toNat_inj.1
    simp [toNat_shr64, UInt16.toNat_mod]
  show [(shr64 v.toUInt64 (8 * 1)).toUInt8, (shr64 v.toUInt64 (8 * 0)).toUInt8] = _
  rw [e1, e2]
theorem take_snoc {α : Type} (l : List α) (i : Int) (h0 : 0 ≤ i) (h1 : i < l.length) (z : α) : l.take (i + 1).toNat = l.take i.toNat ++ [l.getD i.toNat z] := by
  have e : (i + 1).toNat = i.toNat + 1 := by omega
  have h2 : i.toNat < l.length := by omega
  rw [e, List.take_succ_eq_append_getElem h2]
  simp [List.getD, h2]

theorem raddr_ok (u : Value) (xs0 : List UInt8) (a : SAddr) (w : World) (ho : w.ownsRow 0 5 u8E.size u xs0.length (u8E.row xs0)) (hl : xs0.length ≤ 1000) :
    Calls Try.prog 31 #[u, eAddr.val a] w (RetM w u u8E (xs0 ++ addrB a) 5) := by
  refine enter (fun b => u.ownBlock = some b) 25 [OwnS u u8E xs0 5] Try.func31 rfl rfl (Nat.le_of_ble_eq_true rfl) (startO ho) ?_
  refine seq ?_
  refine region ?_
  refine cons (box (E := eAddr) (.t rfl) (fun b1 => ?_))
  refine cons (opv (Ev.assign (.c (v := (Go.Value.slice none 0 0)) rfl)) ?_)
  refine nil ?_
  refine pN ?_
  refine seq ?_
  refine region ?_
  refine cons (opv (Ev.assign (.c (v := U8 0) rfl)) ?_)
  refine nil ?_
  refine pN ?_
  refine cut (X := UInt8) (fun x : UInt8 => (x = if a.v6 = true then 1 else 0)) (fun x : UInt8 => [(0, true, u), (3, true, .pointer (some ⟨b1, 0, none⟩)), (5, true, U8 x)]) (fun x : UInt8 => [Var b1 eAddr a 24, OwnS u u8E xs0 5]) ?_ (fun x hx => ?_)
  · refine seq ?_
    refine region ?_
    refine cons (opv (Ev.fieldAddr (o := 0) (.t rfl) (by kernel_rfl)) ?_)
    refine cons (opv (Ev.load ty4 (.t rfl) (ptsVar (by repeat first | exact List.Mem.head _ | apply List.Mem.tail) SAddr.l_v6)) ?_)
    refine nil ?_
    refine pN ?_
    first | refine condD rfl (fun h0 => ?_) (fun h0 => ?_) | refine cond rfl (fun h0 => ?_) (fun h0 => ?_)
    · try simp only [Bool.and_eq_true, Bool.or_eq_true, Bool.or_eq_false_iff, Bool.and_eq_false_iff, Bool.not_eq_true', Bool.not_eq_false', decide_eq_true_eq, decide_eq_false_iff_not, Decidable.not_not] at h0
      refine region ?_
      refine cons (opv (Ev.assign (.c (v := U8 1) rfl)) ?_)
      refine nil ?_
      refine pN ?_
      refine meet (X := UInt8) (_) ?_ (by repeat first | exact Sub.nil | refine Sub.cons rfl ?_) (by repeat first | exact List.Sublist.refl _ | apply List.Sublist.cons_cons | apply List.Sublist.cons)
      · try dsimp only
        simp_all
    · try simp only [Bool.and_eq_true, Bool.or_eq_true, Bool.or_eq_false_iff, Bool.and_eq_false_iff, Bool.not_eq_true', Bool.not_eq_false', decide_eq_true_eq, decide_eq_false_iff_not, Decidable.not_not] at h0
      refine skip ?_
      refine pN ?_
      refine meet (X := UInt8) (_) ?_ (by repeat first | exact Sub.nil | refine Sub.cons rfl ?_) (by repeat first | exact List.Sublist.refl _ | apply List.Sublist.cons_cons | apply List.Sublist.cons)
      · try dsimp only
        simp_all
  obtain ⟨z, rfl⟩ : ∃ y, y = x := ⟨x, rfl⟩
  have hz : z = if a.v6 = true then 1 else 0 := hx
  clear hx
  show Sat _ _ [(0, true, u), (3, true, .pointer (some ⟨b1, 0, none⟩)), (5, true, U8 z)] [Var b1 eAddr a 24, OwnS u u8E xs0 5]
  refine seq ?_
  refine region ?_
  refine cons (opv (Ev.move (.t rfl)) ?_)
  refine cons (opv (Ev.move (.t rfl)) ?_)
  refine cons (buildSlice (E := u8E) Try.underlying32 ty5 z5 (.cons (.t rfl) .nil) rfl rfl (fun v2 => ?_))
  refine cons (append (E := u8E) Try.underlying32 ty5 rfl zb5 zs5 (.t rfl) (.t rfl) (fun _ => by repeat first | exact Upd.head | apply Upd.tail) (by first | exact isSl_own (by repeat first | exact List.Mem.head _ | apply List.Mem.tail) | exact fun w I => IsSl.keep0 (by assumption) I.keeps) (⟨by (show _ ≤ 9223372036854775807); first | omega | (simp; omega), by first | omega | (simp; omega)⟩) (fun v3 => ?_))
  refine cons (opv (Ev.assign (.t rfl)) ?_)
  refine nil ?_
  refine pN ?_
  refine seq ?_
  refine seq ?_
  refine region ?_
  refine cons (opv (Ev.assign (.c (v := I 0) rfl)) ?_)
  refine nil ?_
  refine pN ?_
  refine block ?_
  refine loop (X := Int × OV × (List UInt8)) (fun x : Int × OV × (List UInt8) => (0 ≤ x.1 ∧ x.1 ≤ 16) ∧ (x.2.2 = xs0 ++ z :: a.b.toList.take x.1.toNat)) (fun x : Int × OV × (List UInt8) => [(0, true, x.2.1.v), (3, true, .pointer (some ⟨b1, 0, none⟩)), (6, true, I x.1)]) (fun x : Int × OV × (List UInt8) => [Var b1 eAddr a 24, OwnS x.2.1.v u8E x.2.2 5]) (fun x : Int × OV × (List UInt8) => (16 - x.1).toNat) (0, _, _) ⟨?_, ?_⟩ (by repeat first | exact Sub.nil | refine Sub.cons rfl ?_) (by repeat first | exact List.Sublist.refl _ | apply List.Sublist.cons_cons | apply List.Sublist.cons) (fun x hx => ?_)
  · omega
  · rfl
  obtain ⟨i, o, xs⟩ := x
  obtain ⟨hi, hx⟩ : (0 ≤ i ∧ i ≤ 16) ∧ (xs = xs0 ++ z :: a.b.toList.take i.toNat) := hx
  show Sat _ _ [(0, true, o.v), (3, true, .pointer (some ⟨b1, 0, none⟩)), (6, true, I i)] [Var b1 eAddr a 24, OwnS o.v u8E xs 5]
  have hxl : xs.length = xs0.length + 1 + i.toNat := by rw [hx]; simp; omega
  refine seq ?_
  refine seq ?_
  refine region ?_
  refine cons (opv (Ev.move (.t rfl)) ?_)
  refine cons (opv (Ev.lss_i (.t rfl) (.c (v := I 16) rfl)) ?_)
  refine nil ?_
  refine pN ?_
  first | refine condD rfl (fun h1 => ?_) (fun h1 => ?_) | refine cond rfl (fun h1 => ?_) (fun h1 => ?_)
  · try simp only [Bool.and_eq_true, Bool.or_eq_true, Bool.or_eq_false_iff, Bool.and_eq_false_iff, Bool.not_eq_true', Bool.not_eq_false', decide_eq_true_eq, decide_eq_false_iff_not, Decidable.not_not] at h1
    refine skip ?_
    refine pN ?_
    refine seq ?_
    refine block ?_
    refine region ?_
    refine cons (opv (Ev.move (.t rfl)) ?_)
    refine cons (opv (Ev.move (.t rfl)) ?_)
    refine cons (opv (Ev.fieldAddr (o := 1) (.t rfl) (by kernel_rfl)) ?_)
    refine cons (opv (Ev.indexAddrA Try.underlying22 ty5 (.t rfl) (.t rfl) (fun _ => by omega)) ?_)
    refine cons (opv (Ev.load ty5 (.t rfl) (ptsVar (by repeat first | exact List.Mem.head _ | apply List.Mem.tail) (Lens.comp SAddr.l_b (lArr (n := 16) u8E _ (by omega))))) ?_)
    refine cons (buildSlice (E := u8E) Try.underlying32 ty5 z5 (.cons (.t rfl) .nil) rfl rfl (fun v4 => ?_))
    refine cons (append (E := u8E) Try.underlying32 ty5 rfl zb5 zs5 (.t rfl) (.t rfl) (fun _ => by repeat first | exact Upd.head | apply Upd.tail) (by first | exact isSl_own (by repeat first | exact List.Mem.head _ | apply List.Mem.tail) | exact fun w I => IsSl.keep0 (by assumption) I.keeps) (⟨by (show _ ≤ 9223372036854775807); first | omega | (simp; omega), by first | omega | (simp; omega)⟩) (fun v5 => ?_))
    refine cons (opv (Ev.assign (.t rfl)) ?_)
    refine nil ?_
    refine bN ?_
    refine pN ?_
    refine region ?_
    refine cons (opv (Ev.move (.t rfl)) ?_)
    refine cons (opv (Ev.add_i (.t rfl) (.c (v := I 1) rfl) (fun _ => by omega)) ?_)
    refine cons (opv (Ev.assign (.t rfl)) ?_)
    refine nil ?_
    refine pN ?_
    refine next (X := Int × OV × (List UInt8)) (i + 1, _, _) ⟨?_, ?_⟩ ?_ (by repeat first | exact Sub.nil | refine Sub.cons rfl ?_) (by repeat first | exact List.Sublist.refl _ | apply List.Sublist.cons_cons | apply List.Sublist.cons)
    · try dsimp only
      omega
    · try dsimp only
      rw [hx, take_snoc _ i hi.1 (by simp; omega) 0]; simp [show i.toNat < 16 by omega]
    · try dsimp only
      omega
  · try simp only [Bool.and_eq_true, Bool.or_eq_true, Bool.or_eq_false_iff, Bool.and_eq_false_iff, Bool.not_eq_true', Bool.not_eq_false', decide_eq_true_eq, decide_eq_false_iff_not, Decidable.not_not] at h1
    refine exit ?_
    refine pX ?_
    refine pX ?_
    refine bX ?_
    refine pN ?_
    refine seq ?_
    refine region ?_
    refine cons (opv (Ev.move (.t rfl)) ?_)
    refine cons (opv (Ev.assign (.t rfl)) ?_)
    refine nil ?_
    refine pN ?_
    refine ret ?_
    refine done rfl (.tmp rfl .nil) (retM (by repeat first | exact List.Mem.head _ | apply List.Mem.tail) ?_)
    have e : i.toNat = 16 := by omega
    rw [e, List.take_of_length_le (by simp), hz] at hx
    rw [hx]; rfl
end Go.Proofs.Ytpdanbpipabboaa
