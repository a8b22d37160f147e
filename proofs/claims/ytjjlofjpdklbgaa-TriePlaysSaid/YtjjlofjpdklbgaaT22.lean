/- trie -/
import Derived.Test.YtjjlofjpdklbgaaT21
set_option linter.unusedVariables false
set_option linter.unusedSimpArgs false
namespace Go.Proofs.Ytjjlofjpdklbgaa
open Go Go.Gx

theorem all16 (v : Vector UInt8 16) : List.drop 0 (List.take 16 v.toList) = v.toList := by
  rw [List.take_of_length_le (by simp)]
  rfl
def cmpI (x y : Int) : Int := if x < y then -1 else if y < x then 1 else 0
/-- The order of all. -/
def cmpP (p q : SPrefix) : Int := if p.addr.v6 = q.addr.v6 then (if Lib.compareBytes p.addr.b.toList q.addr.b.toList = 0 then cmpI p.bits q.bits else Lib.compareBytes p.addr.b.toList q.addr.b.toList) else bif p.addr.v6 then 1 else -1

theorem bcmp_ok (u v : Value) (xs ys : List UInt8) (w : World) (hu : IsSl u8E w u xs) (hv : IsSl u8E w v ys) : Calls Try.prog 54 #[u, v] w (RetV w (I (Lib.compareBytes xs ys))) := by
  refine enter0 8 Try.func54 rfl rfl (Nat.le_of_ble_eq_true rfl) ?_
  refine seq (region (cons (opv (Ev.assign (.c (v := I 0) rfl)) ?_)))
  refine nil (pN (seq (region (cons (opv (Ev.move (.t rfl)) (cons (opv (Ev.move (.t rfl)) (cons (opv (Ev.ext (fn := Try.f71) (e := Extern.BytealgCompare.compare) Try.func71 (by kernel_rfl) (by kernel_rfl) (by kernel_rfl) (by kernel_rfl) (.cons (.t rfl) (.cons (.t rfl) .nil)) (fun w I => run_bcompare (by first | exact isSl_own (by repeat first | exact mH | apply mT | apply mA) w I | exact IsSl.keep0 (by assumption) I.keeps) (by first | exact isSl_own (by repeat first | exact mH | apply mT | apply mA) w I | exact IsSl.keep0 (by assumption) I.keeps))) ?_)))))))))
  refine cons (opv (Ev.assign (.t rfl)) (nil (pN (ret (done rfl (.tmp rfl .nil) (retE ?_))))))
  first | rfl | (simp; done)

theorem nan_ok (x : Int) (w : World) : Calls Try.prog 72 #[I x] w (RetV w (.bool false)) := by
  refine enter0 6 Try.func72 rfl rfl (Nat.le_of_ble_eq_true rfl) ?_
  refine seq (region (cons (opv (Ev.assign (.c (v := .bool false) rfl)) ?_)))
  refine nil (pN (seq (region (cons (opv (Ev.move (.t rfl)) (cons (opv (Ev.move (.t rfl)) (cons (opv (Ev.neq_i (.t rfl) (.t rfl)) ?_)))))))))
  refine cons (opv (Ev.assign (.t rfl)) (nil (pN (ret (done rfl (.tmp rfl .nil) (retE ?_))))))
  simp [tupV]

theorem en72 : Gx.Enters Try.prog 72 := Gx.Enters.mk' (by kernel_rfl)

theorem cmpi_ok (x y : Int) (w : World) : Calls Try.prog 55 #[I x, I y] w (RetV w (I (cmpI x y))) := by
  refine enter0 20 Try.func55 rfl rfl (Nat.le_of_ble_eq_true rfl) ?_
  refine seq (region (cons (opv (Ev.assign (.c (v := I 0) rfl)) ?_)))
  refine nil (pN (seq (region (cons (opv (Ev.move (.t rfl)) (cons (callv en72 (.cons (.t rfl) .nil) (fun w I => nan_ok _ w) ?_)))))))
  refine cons (opv (Ev.assign (.t rfl)) (nil (pN (seq (region (cons (opv (Ev.move (.t rfl)) (cons (callv en72 (.cons (.t rfl) .nil) (fun w I => nan_ok _ w) ?_)))))))))
  refine cons (opv (Ev.assign (.t rfl)) (nil (pN (seq (seq (region (cons (opv (Ev.move (.t rfl)) (nil (pN (condF rfl (rfl) ?_)))))))))))
  refine skip (pN (seq (seq (region (cons (opv (Ev.move (.t rfl)) (nil (pN (condF rfl (rfl) ?_)))))))))
  refine skip (pN (seq (seq (region (cons (opv (Ev.move (.t rfl)) (cons (opv (Ev.move (.t rfl)) (cons (opv (Ev.lss_i (.t rfl) (.t rfl)) ?_))))))))))
  refine nil (pN ?_)
  first | refine condD rfl (fun h3 => ?_) (fun h3 => ?_) | refine cond rfl (fun h3 => ?_) (fun h3 => ?_)
  · try simp only [Gx.nb] at h3
    refine seq (region (cons (opv (Ev.assign (.c (v := I (-1)) rfl)) ?_)))
    refine nil (pN (ret (pR (done rfl (.tmp rfl .nil) (retE ?_)))))
    unfold cmpI; rw [if_pos h3]; rfl
  · try simp only [Gx.nb] at h3
    refine skip (pN (seq (seq (region (cons (opv (Ev.move (.t rfl)) (cons (opv (Ev.move (.t rfl)) (cons (opv (Ev.gtr_i (.t rfl) (.t rfl)) ?_))))))))))
    refine nil (pN ?_)
    first | refine condD rfl (fun h4 => ?_) (fun h4 => ?_) | refine cond rfl (fun h4 => ?_) (fun h4 => ?_)
    · try simp only [Gx.nb] at h4
      refine seq (region (cons (opv (Ev.assign (.c (v := I 1) rfl)) ?_)))
      refine nil (pN (ret (pR (done rfl (.tmp rfl .nil) (retE ?_)))))
      unfold cmpI; rw [if_neg h3, if_pos h4]; rfl
    · try simp only [Gx.nb] at h4
      refine skip (pN (seq (region (cons (opv (Ev.assign (.c (v := I 0) rfl)) ?_)))))
      refine nil (pN (ret (done rfl (.tmp rfl .nil) (retE ?_))))
      unfold cmpI; rw [if_neg h3, if_neg h4]; rfl

theorem or_ok (u : Value) (m n : Int) (w : World) (hu : IsSl iE w u [m, n]) : Calls Try.prog 53 #[u] w (RetV w (I (if m = 0 then n else m))) := by
  refine enter0 18 Try.func53 rfl rfl (Nat.le_of_ble_eq_true rfl) ?_
  refine seq (region (cons (opv (Ev.assign (.c (v := I 0) rfl)) ?_)))
  refine nil (pN (seq (region (cons (opv (Ev.assign (.c (v := I 0) rfl)) ?_)))))
  refine nil (pN (seq (seq (region (cons (opv (Ev.move (.t rfl)) (cons (opv (Ev.len Try.underlying110 (.t rfl) (fun w I => hu.keep0 I.keeps)) ?_))))))))
  refine cons (opv (Ev.move (.c (v := I 0) rfl)) ?_)
  refine nil (pN (block (lp (X := Int) (fun x : Int => (0 ≤ x ∧ x ≤ 2) ∧ (∀ j : Nat, j < x → [m, n].getD j 0 = 0)) (fun x : Int => [dz, (0, true, u), (2, true, I 0), (3, true, I 0), (6, true, u), (7, true, I 2), (8, true, I x)]) (fun x : Int => []) (fun x : Int => (2 - x).toNat) (0) ⟨?_, ?_⟩ (fun x hx => ?_))))
  · omega
  · intro j hj; omega
  obtain ⟨i, rfl⟩ : ∃ y, y = x := ⟨x, rfl⟩
  obtain ⟨hi, hq⟩ : (0 ≤ i ∧ i ≤ 2) ∧ (∀ j : Nat, j < i → [m, n].getD j 0 = 0) := hx
  show Sat _ _ [dz, (0, true, u), (2, true, I 0), (3, true, I 0), (6, true, u), (7, true, I 2), (8, true, I i)] []
  refine seq (region (cons (opv (Ev.lss_i (.t rfl) (.t rfl)) ?_)))
  refine nil (pN (seq ?_))
  first | refine condD rfl (fun h0 => ?_) (fun h0 => ?_) | refine cond rfl (fun h0 => ?_) (fun h0 => ?_)
  · try simp only [Gx.nb] at h0
    refine skip (pN (seq (block (seq (region (cons (opv (Ev.indexAddr Try.underlying110 ty3 (.t rfl) (.t rfl) (fun w I => hu.keep0 I.keeps) (fun _ => by simp; omega)) ?_)))))))
    refine cons (opv (Ev.loadS0 ty3 (.t rfl) (fun w I => hu.keep0 I.keeps) (fun _ => by simp; omega)) ?_)
    refine cons (opv (Ev.assign (.t rfl)) (nil (pN (seq (region (cons (opv (Ev.move (.t rfl)) (cons (opv (Ev.move (.t rfl)) (cons (opv (Ev.neq_i (.t rfl) (.t rfl)) ?_)))))))))))
    refine nil (pN ?_)
    first | refine condD rfl (fun h1 => ?_) (fun h1 => ?_) | refine cond rfl (fun h1 => ?_) (fun h1 => ?_)
    · try simp only [Gx.nb] at h1
      refine seq (region (cons (opv (Ev.move (.t rfl)) (cons (opv (Ev.assign (.t rfl)) (nil (pN (ret (bR (pR (pR (bR (pR (done rfl (.tmp rfl .nil) (retE ?_)))))))))))))))
      have hd : i = 0 ∨ i = 1 := by omega
      rcases hd with rfl | rfl
      · have h2 : ¬ m = 0 := h1
        rw [if_neg h2]; rfl
      · have h2 : m = 0 := hq 0 (by omega)
        have h3 : ¬ n = 0 := h1
        rw [if_pos h2]; rfl
    · try simp only [Gx.nb] at h1
      refine skip (bN (pN (region (cons (opv (Ev.add_i (.t rfl) (.c (v := I 1) rfl) (fun _ => by omega)) ?_)))))
      refine cons (opv (Ev.move (.t rfl)) (nil (pN (nx (X := Int) (i + 1) ⟨?_, ?_⟩ ?_))))
      · try dsimp only
        omega
      · try dsimp only
        intro j hj
        by_cases e : (j : Int) < i
        · exact hq j e
        · obtain rfl : j = i.toNat := by omega
          exact h1
      · try dsimp only
        omega
  · try simp only [Gx.nb] at h0
    refine exit (pX (pX (bX (pN (seq (region (cons (opv (Ev.move (.t rfl)) (cons (opv (Ev.assign (.t rfl)) (nil (pN (ret (done rfl (.tmp rfl .nil) (retE ?_)))))))))))))))
    have h2 : m = 0 := hq 0 (by omega)
    have h3 : n = 0 := hq 1 (by omega)
    rw [if_pos h2, h3]; rfl

theorem en54 : Gx.Enters Try.prog 54 := Gx.Enters.mk' (by kernel_rfl)

theorem en55 : Gx.Enters Try.prog 55 := Gx.Enters.mk' (by kernel_rfl)

theorem en53 : Gx.Enters Try.prog 53 := Gx.Enters.mk' (by kernel_rfl)

theorem cmpP_ok (p q : SPrefix) (w : World) : Calls Try.prog 30 #[ePrefix.val p, ePrefix.val q] w (RetV w (I (cmpP p q))) := by
  refine enter0 29 Try.func30 rfl rfl (Nat.le_of_ble_eq_true rfl) ?_
  refine seq (region (cons (box (E := ePrefix) (.t rfl) (fun b1 => ?_))))
  refine cons (box (E := ePrefix) (.t rfl) (fun b2 => ?_))
  refine cons (opv (Ev.assign (.c (v := I 0) rfl)) ?_)
  refine nil (pN (seq (seq (region (cons (opv (Ev.fieldAddr (o := 0) (.t rfl) (by kernel_rfl)) ?_))))))
  refine cons (opv (Ev.fieldAddr (o := 0) (.t rfl) (by kernel_rfl)) ?_)
  refine cons (opv (Ev.ldx p.addr.v6 ty4 (.t rfl) (Lens.comp SPrefix.l_addr SAddr.l_v6)) ?_)
  refine cons (opv (Ev.fieldAddr (o := 0) (.t rfl) (by kernel_rfl)) ?_)
  refine cons (opv (Ev.fieldAddr (o := 0) (.t rfl) (by kernel_rfl)) ?_)
  refine cons (opv (Ev.ldx q.addr.v6 ty4 (.t rfl) (Lens.comp SPrefix.l_addr SAddr.l_v6)) ?_)
  refine cons (opv (Ev.neq_b Try.underlying4 (.t rfl) (.t rfl)) ?_)
  refine nil (pN ?_)
  first | refine condD rfl (fun h0 => ?_) (fun h0 => ?_) | refine cond rfl (fun h0 => ?_) (fun h0 => ?_)
  · try simp only [Gx.nb] at h0
    refine seq (seq (region (cons (opv (Ev.fieldAddr (o := 0) (.t rfl) (by kernel_rfl)) ?_))))
    refine cons (opv (Ev.fieldAddr (o := 0) (.t rfl) (by kernel_rfl)) ?_)
    refine cons (opv (Ev.ldx p.addr.v6 ty4 (.t rfl) (Lens.comp SPrefix.l_addr SAddr.l_v6)) ?_)
    refine nil (pN ?_)
    first | refine condD rfl (fun h1 => ?_) (fun h1 => ?_) | refine cond rfl (fun h1 => ?_) (fun h1 => ?_)
    · try simp only [Gx.nb] at h1
      refine seq (region (cons (opv (Ev.assign (.c (v := I 1) rfl)) ?_)))
      refine nil (pN (ret (pR (pR (done rfl (.tmp rfl .nil) (retE ?_))))))
      unfold cmpP; rw [if_neg (show ¬ p.addr.v6 = q.addr.v6 from by simpa using h0), show p.addr.v6 = true from h1]; rfl
    · try simp only [Gx.nb] at h1
      refine skip (pN (seq (region (cons (opv (Ev.assign (.c (v := I (-1)) rfl)) ?_)))))
      refine nil (pN (ret (pR (done rfl (.tmp rfl .nil) (retE ?_)))))
      unfold cmpP; rw [if_neg (show ¬ p.addr.v6 = q.addr.v6 from by simpa using h0), show p.addr.v6 = false from h1]; rfl
  · try simp only [Gx.nb] at h0
    refine skip (pN (seq (draw' (by kernel_rfl) ?_)))
    refine tk 0 rfl (Ev.fieldAddr (o := 0) (.t rfl) (by kernel_rfl)) ?_
    refine tk 1 rfl (Ev.fieldAddr (o := 1) (.t rfl) (by kernel_rfl)) ?_
    refine tk 2 rfl (Ev.sliceArr (l := 0) (h := 16) Try.underlying29 ty5 (.t rfl) rfl rfl (fun _ => by decide)) ?_
    refine tk 3 rfl (Ev.fieldAddr (o := 0) (.t rfl) (by kernel_rfl)) ?_
    refine tk 4 rfl (Ev.fieldAddr (o := 1) (.t rfl) (by kernel_rfl)) ?_
    refine tk 5 rfl (Ev.sliceArr (l := 0) (h := 16) Try.underlying29 ty5 (.t rfl) rfl rfl (fun _ => by decide)) ?_
    refine tk 7 rfl (Ev.fieldAddr (o := 17) (.t rfl) (by kernel_rfl)) ?_
    refine tk 8 rfl (Ev.ldx p.bits ty3 (.t rfl) SPrefix.l_bits) ?_
    refine tk 9 rfl (Ev.fieldAddr (o := 17) (.t rfl) (by kernel_rfl)) ?_
    refine tk 10 rfl (Ev.ldx q.bits ty3 (.t rfl) SPrefix.l_bits) ?_
    refine al1 6 rfl ((callv en54 (.cons (.t rfl) (.cons (.t rfl) .nil)) (fun w I => bcmp_ok _ _ _ _ w (isSl_arr (ptsVar (by repeat first | exact mH | apply mT | apply mA) (Lens.comp SPrefix.l_addr SAddr.l_b) w I) (by decide) (by decide) (by decide)) (isSl_arr (ptsVar (by repeat first | exact mH | apply mT | apply mA) (Lens.comp SPrefix.l_addr SAddr.l_b) w I) (by decide) (by decide) (by decide))) ?_))
    refine hdn (al1 11 rfl ((callv en55 (.cons (.t rfl) (.cons (.t rfl) .nil)) (fun w I => cmpi_ok _ _ w) ?_)))
    refine hdn (al1 12 rfl ((buildSlice (E := iE) Try.underlying110 ty3 z3 (.cons (.t rfl) (.cons (.t rfl) .nil)) rfl rfl (fun v3 => ?_))))
    refine hdn (al1 13 rfl ((callv en53 (.cons (.t rfl) .nil) (fun w I => or_ok _ _ _ w (by first | exact isSl_own (by repeat first | exact mH | apply mT | apply mA) w I | exact IsSl.keep0 (by assumption) I.keeps)) ?_)))
    refine hdn (tk 14 rfl (Ev.assign (.t rfl)) ?_)
    refine ovr (pN (ret (done rfl (.tmp rfl .nil) (retE ?_))))
    unfold cmpP; rw [if_pos (show p.addr.v6 = q.addr.v6 from by simpa using h0), all16, all16]; rfl
end Go.Proofs.Ytjjlofjpdklbgaa
