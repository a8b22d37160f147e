/- conf -/
import Derived.Test.YtnoobdijbpmjkaaGreatC30
set_option linter.unusedVariables false
set_option linter.unusedSimpArgs false
namespace Go.Proofs.YtnoobdijbpmjkaaGreat
open Go Go.Gx

abbrev OC (x : CB) (l : CL) : Res := Seps (OwnS x.o1.v iE l.ps 3) [OwnS x.o2.v eRoute l.rs 52, OwnS x.o3.v eRule l.us 76, OwnS x.o4.v eMeterConf l.ms 57, OwnS x.o5.v eMirrorConf l.xs 59]

theorem spoil_ok (y : CB) (l : CL) (d : Int) (w : World) (h : At (OC y l) w) (hl : l.Small) : Calls Tryz.prog 18 #[eConf.val (y.c d)] w (RetR w (OC y l) (fun _ : Unit => True) (fun _ => .tuple #[]) (fun _ => Emp)) := by
  obtain ⟨hl0, hl1, hl2, hl3, hl4⟩ := hl
  refine enter (OC y l).foot 100 [OC y l] Tryz.func18 rfl rfl (Nat.le_of_ble_eq_true rfl) (start_at h) ?_
  refine sepsOut Rem.head ?_
  refine seq (region (cons (box (E := eConf) (.t rfl) (fun b1 => ?_))))
  refine nil (pN (seq (seq (region (cons (opv (Ev.assign (.c (v := I 0) rfl)) ?_))))))
  refine nil (pN (block (loop (X := Int × (List Int)) (fun x : Int × (List Int) => (0 ≤ x.1 ∧ x.1 ≤ l.ps.length) ∧ (x.2.length = l.ps.length)) (fun x : Int × (List Int) => [(1, true, .pointer (some ⟨b1, 0, none⟩)), (2, true, I x.1)]) (fun x : Int × (List Int) => [Var b1 eConf (y.c d) 28, OwnS y.o1.v iE x.2 3, OwnS y.o2.v eRoute l.rs 52, OwnS y.o3.v eRule l.us 76, OwnS y.o4.v eMeterConf l.ms 57, OwnS y.o5.v eMirrorConf l.xs 59]) (fun x : Int × (List Int) => ((l.ps.length : Int) - x.1).toNat) (0, l.ps) ⟨?_, ?_⟩ (by repeat first | exact Sub.nil | refine Sub.cons rfl ?_) (by repeat first | exact sR | exact sN | apply sC | apply sS | apply sA) (fun x hx => ?_))))
  · omega
  · rfl
  obtain ⟨i0, y1⟩ := x
  obtain ⟨hi0, hy0⟩ : (0 ≤ i0 ∧ i0 ≤ l.ps.length) ∧ (y1.length = l.ps.length) := hx
  show Sat _ _ [(1, true, .pointer (some ⟨b1, 0, none⟩)), (2, true, I i0)] [Var b1 eConf (y.c d) 28, OwnS y.o1.v iE y1 3, OwnS y.o2.v eRoute l.rs 52, OwnS y.o3.v eRule l.us 76, OwnS y.o4.v eMeterConf l.ms 57, OwnS y.o5.v eMirrorConf l.xs 59]
  refine seq (seq (region (cons (opv (Ev.move (.t rfl)) (cons (opv (Ev.fieldAddr (o := 0) (.t rfl) (by kernel_rfl)) ?_))))))
  refine cons (opv (Ev.to (v' := y.o1.v) (Ev.ldv ty22 (.t rfl) SConf.l_ports) (rfl)) ?_)
  refine cons (opv (Ev.len Tryz.underlying22 (.t rfl) (by first | exact isSl_own (by repeat first | exact mH | apply mT | apply mA) | exact fun w I => IsSl.keep0 (by assumption) I.keeps)) ?_)
  refine cons (opv (Ev.lss_i (.t rfl) (.t rfl)) ?_)
  refine nil (pN ?_)
  first | refine condD rfl (fun h0 => ?_) (fun h0 => ?_) | refine cond rfl (fun h0 => ?_) (fun h0 => ?_)
  · try simp only [nb] at h0
    refine skip (pN (seq (block (region (cons (opv (Ev.fieldAddr (o := 0) (.t rfl) (by kernel_rfl)) ?_))))))
    refine cons (opv (Ev.to (v' := y.o1.v) (Ev.ldv ty22 (.t rfl) SConf.l_ports) (rfl)) ?_)
    refine cons (opv (Ev.move (.t rfl)) (cons (opv (Ev.indexAddr Tryz.underlying22 ty3 (.t rfl) (.t rfl) (by first | exact isSl_own (by repeat first | exact mH | apply mT | apply mA) | exact fun w I => IsSl.keep0 (by assumption) I.keeps) (fun _ => by omega)) ?_)))
    refine cons (storeS0 ty3 (.t rfl) (.c (v := I (-9)) rfl) (by repeat first | exact Upd.head | apply Upd.tail | apply Upd.right) (by omega) ?_)
    refine nil (bN (pN (region (cons (opv (Ev.move (.t rfl)) (cons (opv (Ev.add_i (.t rfl) (.c (v := I 1) rfl) (fun _ => by omega)) ?_)))))))
    refine cons (opv (Ev.assign (.t rfl)) (nil (pN (next (X := Int × (List Int)) (i0 + 1, _) ⟨?_, ?_⟩ ?_ (by repeat first | exact Sub.nil | refine Sub.cons rfl ?_) (by repeat first | exact sR | exact sN | apply sC | apply sS | apply sA)))))
    · try dsimp only
      omega
    · try dsimp only
      rw [List.length_set]; exact hy0
    · try dsimp only
      omega
  · try simp only [nb] at h0
    refine exit (pX (pX (bX (pN (seq (seq (region (cons (opv (Ev.assign (.c (v := I 0) rfl)) ?_)))))))))
    refine nil (pN (block (loop (X := Int × (List SRoute)) (fun x : Int × (List SRoute) => (0 ≤ x.1 ∧ x.1 ≤ l.rs.length) ∧ (x.2.length = l.rs.length)) (fun x : Int × (List SRoute) => [(1, true, .pointer (some ⟨b1, 0, none⟩)), (3, true, I x.1)]) (fun x : Int × (List SRoute) => [Var b1 eConf (y.c d) 28, OwnS y.o1.v iE y1 3, OwnS y.o2.v eRoute x.2 52, OwnS y.o3.v eRule l.us 76, OwnS y.o4.v eMeterConf l.ms 57, OwnS y.o5.v eMirrorConf l.xs 59]) (fun x : Int × (List SRoute) => ((l.rs.length : Int) - x.1).toNat) (0, l.rs) ⟨?_, ?_⟩ (by repeat first | exact Sub.nil | refine Sub.cons rfl ?_) (by repeat first | exact sR | exact sN | apply sC | apply sS | apply sA) (fun x hx => ?_))))
    · omega
    · rfl
    obtain ⟨i1, y2⟩ := x
    obtain ⟨hi1, hy1⟩ : (0 ≤ i1 ∧ i1 ≤ l.rs.length) ∧ (y2.length = l.rs.length) := hx
    show Sat _ _ [(1, true, .pointer (some ⟨b1, 0, none⟩)), (3, true, I i1)] [Var b1 eConf (y.c d) 28, OwnS y.o1.v iE y1 3, OwnS y.o2.v eRoute y2 52, OwnS y.o3.v eRule l.us 76, OwnS y.o4.v eMeterConf l.ms 57, OwnS y.o5.v eMirrorConf l.xs 59]
    refine seq (seq (region (cons (opv (Ev.move (.t rfl)) (cons (opv (Ev.fieldAddr (o := 1) (.t rfl) (by kernel_rfl)) ?_))))))
    refine cons (opv (Ev.to (v' := y.o2.v) (Ev.ldv ty23 (.t rfl) SConf.l_routes) (rfl)) ?_)
    refine cons (opv (Ev.len Tryz.underlying23 (.t rfl) (by first | exact isSl_own (by repeat first | exact mH | apply mT | apply mA) | exact fun w I => IsSl.keep0 (by assumption) I.keeps)) ?_)
    refine cons (opv (Ev.lss_i (.t rfl) (.t rfl)) ?_)
    refine nil (pN ?_)
    first | refine condD rfl (fun h1 => ?_) (fun h1 => ?_) | refine cond rfl (fun h1 => ?_) (fun h1 => ?_)
    · try simp only [nb] at h1
      refine skip (pN (seq (block (region (cons (opv (Ev.fieldAddr (o := 1) (.t rfl) (by kernel_rfl)) ?_))))))
      refine cons (opv (Ev.to (v' := y.o2.v) (Ev.ldv ty23 (.t rfl) SConf.l_routes) (rfl)) ?_)
      refine cons (opv (Ev.move (.t rfl)) (cons (opv (Ev.buildS (fs := _) (places := [(0, 18), (18, 1)]) z52 rfl Tryz.underlying52 (by kernel_rfl) (.cons (.c (v := I (-9)) rfl) .nil) (Fills.cons SRoute.l_out rfl Fills.nil)) ?_)))
      refine cons (opv (Ev.indexAddr Tryz.underlying23 ty52 (.t rfl) (.t rfl) (by first | exact isSl_own (by repeat first | exact mH | apply mT | apply mA) | exact fun w I => IsSl.keep0 (by assumption) I.keeps) (fun _ => by omega)) ?_)
      refine cons (storeS0 ty52 (.t rfl) (.t rfl) (by repeat first | exact Upd.head | apply Upd.tail | apply Upd.right) (by omega) ?_)
      refine nil (bN (pN (region (cons (opv (Ev.move (.t rfl)) (cons (opv (Ev.add_i (.t rfl) (.c (v := I 1) rfl) (fun _ => by omega)) ?_)))))))
      refine cons (opv (Ev.assign (.t rfl)) (nil (pN (next (X := Int × (List SRoute)) (i1 + 1, _) ⟨?_, ?_⟩ ?_ (by repeat first | exact Sub.nil | refine Sub.cons rfl ?_) (by repeat first | exact sR | exact sN | apply sC | apply sS | apply sA)))))
      · try dsimp only
        omega
      · try dsimp only
        rw [List.length_set]; exact hy1
      · try dsimp only
        omega
    · try simp only [nb] at h1
      refine exit (pX (pX (bX (pN (seq (seq (region (cons (opv (Ev.assign (.c (v := I 0) rfl)) ?_)))))))))
      refine nil (pN (block (loop (X := Int × (List SRule)) (fun x : Int × (List SRule) => (0 ≤ x.1 ∧ x.1 ≤ l.us.length) ∧ (x.2.length = l.us.length)) (fun x : Int × (List SRule) => [(1, true, .pointer (some ⟨b1, 0, none⟩)), (4, true, I x.1)]) (fun x : Int × (List SRule) => [Var b1 eConf (y.c d) 28, OwnS y.o1.v iE y1 3, OwnS y.o2.v eRoute y2 52, OwnS y.o3.v eRule x.2 76, OwnS y.o4.v eMeterConf l.ms 57, OwnS y.o5.v eMirrorConf l.xs 59]) (fun x : Int × (List SRule) => ((l.us.length : Int) - x.1).toNat) (0, l.us) ⟨?_, ?_⟩ (by repeat first | exact Sub.nil | refine Sub.cons rfl ?_) (by repeat first | exact sR | exact sN | apply sC | apply sS | apply sA) (fun x hx => ?_))))
      · omega
      · rfl
      obtain ⟨i2, y3⟩ := x
      obtain ⟨hi2, hy2⟩ : (0 ≤ i2 ∧ i2 ≤ l.us.length) ∧ (y3.length = l.us.length) := hx
      show Sat _ _ [(1, true, .pointer (some ⟨b1, 0, none⟩)), (4, true, I i2)] [Var b1 eConf (y.c d) 28, OwnS y.o1.v iE y1 3, OwnS y.o2.v eRoute y2 52, OwnS y.o3.v eRule y3 76, OwnS y.o4.v eMeterConf l.ms 57, OwnS y.o5.v eMirrorConf l.xs 59]
      refine seq (seq (region (cons (opv (Ev.move (.t rfl)) (cons (opv (Ev.fieldAddr (o := 2) (.t rfl) (by kernel_rfl)) ?_))))))
      refine cons (opv (Ev.to (v' := y.o3.v) (Ev.ldv ty24 (.t rfl) SConf.l_rules) (rfl)) ?_)
      refine cons (opv (Ev.len Tryz.underlying24 (.t rfl) (by first | exact isSl_own (by repeat first | exact mH | apply mT | apply mA) | exact fun w I => IsSl.keep0 (by assumption) I.keeps)) ?_)
      refine cons (opv (Ev.lss_i (.t rfl) (.t rfl)) ?_)
      refine nil (pN ?_)
      first | refine condD rfl (fun h2 => ?_) (fun h2 => ?_) | refine cond rfl (fun h2 => ?_) (fun h2 => ?_)
      · try simp only [nb] at h2
        refine skip (pN (seq (block (region (cons (opv (Ev.fieldAddr (o := 2) (.t rfl) (by kernel_rfl)) ?_))))))
        refine cons (opv (Ev.to (v' := y.o3.v) (Ev.ldv ty24 (.t rfl) SConf.l_rules) (rfl)) ?_)
        refine cons (opv (Ev.move (.t rfl)) (cons (opv (Ev.buildS (fs := _) (places := [(0, 1), (1, 44), (45, 1), (46, 1), (47, 1), (48, 1)]) z76 rfl Tryz.underlying76 (by kernel_rfl) (.cons (.c (v := I (-9)) rfl) .nil) (Fills.cons SRule.l_out rfl Fills.nil)) ?_)))
        refine cons (opv (Ev.indexAddr Tryz.underlying24 ty76 (.t rfl) (.t rfl) (by first | exact isSl_own (by repeat first | exact mH | apply mT | apply mA) | exact fun w I => IsSl.keep0 (by assumption) I.keeps) (fun _ => by omega)) ?_)
        refine cons (storeS0 ty76 (.t rfl) (.t rfl) (by repeat first | exact Upd.head | apply Upd.tail | apply Upd.right) (by omega) ?_)
        refine nil (bN (pN (region (cons (opv (Ev.move (.t rfl)) (cons (opv (Ev.add_i (.t rfl) (.c (v := I 1) rfl) (fun _ => by omega)) ?_)))))))
        refine cons (opv (Ev.assign (.t rfl)) (nil (pN (next (X := Int × (List SRule)) (i2 + 1, _) ⟨?_, ?_⟩ ?_ (by repeat first | exact Sub.nil | refine Sub.cons rfl ?_) (by repeat first | exact sR | exact sN | apply sC | apply sS | apply sA)))))
        · try dsimp only
          omega
        · try dsimp only
          rw [List.length_set]; exact hy2
        · try dsimp only
          omega
      · try simp only [nb] at h2
        refine exit (pX (pX (bX (pN (seq (seq (region (cons (opv (Ev.assign (.c (v := I 0) rfl)) ?_)))))))))
        refine nil (pN (block (loop (X := Int × (List SMeterConf)) (fun x : Int × (List SMeterConf) => (0 ≤ x.1 ∧ x.1 ≤ l.ms.length) ∧ (x.2.length = l.ms.length)) (fun x : Int × (List SMeterConf) => [(1, true, .pointer (some ⟨b1, 0, none⟩)), (5, true, I x.1)]) (fun x : Int × (List SMeterConf) => [Var b1 eConf (y.c d) 28, OwnS y.o1.v iE y1 3, OwnS y.o2.v eRoute y2 52, OwnS y.o3.v eRule y3 76, OwnS y.o4.v eMeterConf x.2 57, OwnS y.o5.v eMirrorConf l.xs 59]) (fun x : Int × (List SMeterConf) => ((l.ms.length : Int) - x.1).toNat) (0, l.ms) ⟨?_, ?_⟩ (by repeat first | exact Sub.nil | refine Sub.cons rfl ?_) (by repeat first | exact sR | exact sN | apply sC | apply sS | apply sA) (fun x hx => ?_))))
        · omega
        · rfl
        obtain ⟨i3, y4⟩ := x
        obtain ⟨hi3, hy3⟩ : (0 ≤ i3 ∧ i3 ≤ l.ms.length) ∧ (y4.length = l.ms.length) := hx
        show Sat _ _ [(1, true, .pointer (some ⟨b1, 0, none⟩)), (5, true, I i3)] [Var b1 eConf (y.c d) 28, OwnS y.o1.v iE y1 3, OwnS y.o2.v eRoute y2 52, OwnS y.o3.v eRule y3 76, OwnS y.o4.v eMeterConf y4 57, OwnS y.o5.v eMirrorConf l.xs 59]
        refine seq (seq (region (cons (opv (Ev.move (.t rfl)) (cons (opv (Ev.fieldAddr (o := 3) (.t rfl) (by kernel_rfl)) ?_))))))
        refine cons (opv (Ev.to (v' := y.o4.v) (Ev.ldv ty25 (.t rfl) SConf.l_meters) (rfl)) ?_)
        refine cons (opv (Ev.len Tryz.underlying25 (.t rfl) (by first | exact isSl_own (by repeat first | exact mH | apply mT | apply mA) | exact fun w I => IsSl.keep0 (by assumption) I.keeps)) ?_)
        refine cons (opv (Ev.lss_i (.t rfl) (.t rfl)) ?_)
        refine nil (pN ?_)
        first | refine condD rfl (fun h3 => ?_) (fun h3 => ?_) | refine cond rfl (fun h3 => ?_) (fun h3 => ?_)
        · try simp only [nb] at h3
          refine skip (pN (seq (block (region (cons (opv (Ev.fieldAddr (o := 3) (.t rfl) (by kernel_rfl)) ?_))))))
          refine cons (opv (Ev.to (v' := y.o4.v) (Ev.ldv ty25 (.t rfl) SConf.l_meters) (rfl)) ?_)
          refine cons (opv (Ev.move (.t rfl)) (cons (opv (Ev.buildS (fs := _) (places := [(0, 1), (1, 3)]) z57 rfl Tryz.underlying57 (by kernel_rfl) (.cons (.c (v := (Go.Value.string (ByteArray.mk #[45, 57]))) rfl) .nil) (Fills.cons SMeterConf.l_name rfl Fills.nil)) ?_)))
          refine cons (opv (Ev.indexAddr Tryz.underlying25 ty57 (.t rfl) (.t rfl) (by first | exact isSl_own (by repeat first | exact mH | apply mT | apply mA) | exact fun w I => IsSl.keep0 (by assumption) I.keeps) (fun _ => by omega)) ?_)
          refine cons (storeS0 ty57 (.t rfl) (.t rfl) (by repeat first | exact Upd.head | apply Upd.tail | apply Upd.right) (by omega) ?_)
          refine nil (bN (pN (region (cons (opv (Ev.move (.t rfl)) (cons (opv (Ev.add_i (.t rfl) (.c (v := I 1) rfl) (fun _ => by omega)) ?_)))))))
          refine cons (opv (Ev.assign (.t rfl)) (nil (pN (next (X := Int × (List SMeterConf)) (i3 + 1, _) ⟨?_, ?_⟩ ?_ (by repeat first | exact Sub.nil | refine Sub.cons rfl ?_) (by repeat first | exact sR | exact sN | apply sC | apply sS | apply sA)))))
          · try dsimp only
            omega
          · try dsimp only
            rw [List.length_set]; exact hy3
          · try dsimp only
            omega
        · try simp only [nb] at h3
          refine exit (pX (pX (bX (pN (seq (seq (region (cons (opv (Ev.assign (.c (v := I 0) rfl)) ?_)))))))))
          refine nil (pN (block (loop (X := Int × (List SMirrorConf)) (fun x : Int × (List SMirrorConf) => (0 ≤ x.1 ∧ x.1 ≤ l.xs.length) ∧ (x.2.length = l.xs.length)) (fun x : Int × (List SMirrorConf) => [(1, true, .pointer (some ⟨b1, 0, none⟩)), (6, true, I x.1)]) (fun x : Int × (List SMirrorConf) => [Var b1 eConf (y.c d) 28, OwnS y.o1.v iE y1 3, OwnS y.o2.v eRoute y2 52, OwnS y.o3.v eRule y3 76, OwnS y.o4.v eMeterConf y4 57, OwnS y.o5.v eMirrorConf x.2 59]) (fun x : Int × (List SMirrorConf) => ((l.xs.length : Int) - x.1).toNat) (0, l.xs) ⟨?_, ?_⟩ (by repeat first | exact Sub.nil | refine Sub.cons rfl ?_) (by repeat first | exact sR | exact sN | apply sC | apply sS | apply sA) (fun x hx => ?_))))
          · omega
          · rfl
          obtain ⟨i4, y5⟩ := x
          obtain ⟨hi4, hy4⟩ : (0 ≤ i4 ∧ i4 ≤ l.xs.length) ∧ (y5.length = l.xs.length) := hx
          show Sat _ _ [(1, true, .pointer (some ⟨b1, 0, none⟩)), (6, true, I i4)] [Var b1 eConf (y.c d) 28, OwnS y.o1.v iE y1 3, OwnS y.o2.v eRoute y2 52, OwnS y.o3.v eRule y3 76, OwnS y.o4.v eMeterConf y4 57, OwnS y.o5.v eMirrorConf y5 59]
          refine seq (seq (region (cons (opv (Ev.move (.t rfl)) (cons (opv (Ev.fieldAddr (o := 4) (.t rfl) (by kernel_rfl)) ?_))))))
          refine cons (opv (Ev.to (v' := y.o5.v) (Ev.ldv ty26 (.t rfl) SConf.l_mirrors) (rfl)) ?_)
          refine cons (opv (Ev.len Tryz.underlying26 (.t rfl) (by first | exact isSl_own (by repeat first | exact mH | apply mT | apply mA) | exact fun w I => IsSl.keep0 (by assumption) I.keeps)) ?_)
          refine cons (opv (Ev.lss_i (.t rfl) (.t rfl)) ?_)
          refine nil (pN ?_)
          first | refine condD rfl (fun h4 => ?_) (fun h4 => ?_) | refine cond rfl (fun h4 => ?_) (fun h4 => ?_)
          · try simp only [nb] at h4
            refine skip (pN (seq (block (region (cons (opv (Ev.fieldAddr (o := 4) (.t rfl) (by kernel_rfl)) ?_))))))
            refine cons (opv (Ev.to (v' := y.o5.v) (Ev.ldv ty26 (.t rfl) SConf.l_mirrors) (rfl)) ?_)
            refine cons (opv (Ev.move (.t rfl)) (cons (opv (Ev.buildS (fs := _) (places := [(0, 1), (1, 1), (2, 1)]) z59 rfl Tryz.underlying59 (by kernel_rfl) (.cons (.c (v := I (-9)) rfl) .nil) (Fills.cons SMirrorConf.l_out rfl Fills.nil)) ?_)))
            refine cons (opv (Ev.indexAddr Tryz.underlying26 ty59 (.t rfl) (.t rfl) (by first | exact isSl_own (by repeat first | exact mH | apply mT | apply mA) | exact fun w I => IsSl.keep0 (by assumption) I.keeps) (fun _ => by omega)) ?_)
            refine cons (storeS0 ty59 (.t rfl) (.t rfl) (by repeat first | exact Upd.head | apply Upd.tail | apply Upd.right) (by omega) ?_)
            refine nil (bN (pN (region (cons (opv (Ev.move (.t rfl)) (cons (opv (Ev.add_i (.t rfl) (.c (v := I 1) rfl) (fun _ => by omega)) ?_)))))))
            refine cons (opv (Ev.assign (.t rfl)) (nil (pN (next (X := Int × (List SMirrorConf)) (i4 + 1, _) ⟨?_, ?_⟩ ?_ (by repeat first | exact Sub.nil | refine Sub.cons rfl ?_) (by repeat first | exact sR | exact sN | apply sC | apply sS | apply sA)))))
            · try dsimp only
              omega
            · try dsimp only
              rw [List.length_set]; exact hy4
            · try dsimp only
              omega
          · try simp only [nb] at h4
            refine exit (pX (pX (bX (pN (seq (region (cons (opv (Ev.assign (.c (v := I 0) rfl)) ?_))))))))
            refine nil (pN (block (loop (X := Int × OV × OV × OV × OV × OV × (List Int) × (List SRoute) × (List SRule) × (List SMeterConf) × (List SMirrorConf)) (fun x : Int × OV × OV × OV × OV × OV × (List Int) × (List SRoute) × (List SRule) × (List SMeterConf) × (List SMirrorConf) => (0 ≤ x.1 ∧ x.1 ≤ 9) ∧ ((x.2.2.2.2.2.2.1.length : Int) = l.ps.length + x.1) ∧ ((x.2.2.2.2.2.2.2.1.length : Int) = l.rs.length + x.1) ∧ ((x.2.2.2.2.2.2.2.2.1.length : Int) = l.us.length + x.1) ∧ ((x.2.2.2.2.2.2.2.2.2.1.length : Int) = l.ms.length + x.1) ∧ ((x.2.2.2.2.2.2.2.2.2.2.length : Int) = l.xs.length + x.1)) (fun x : Int × OV × OV × OV × OV × OV × (List Int) × (List SRoute) × (List SRule) × (List SMeterConf) × (List SMirrorConf) => [(1, true, .pointer (some ⟨b1, 0, none⟩)), (7, true, I x.1)]) (fun x : Int × OV × OV × OV × OV × OV × (List Int) × (List SRoute) × (List SRule) × (List SMeterConf) × (List SMirrorConf) => [Var b1 eConf (⟨x.2.1, x.2.2.1, x.2.2.2.1, x.2.2.2.2.1, x.2.2.2.2.2.1, d⟩ : SConf) 28, OwnS x.2.1.v iE x.2.2.2.2.2.2.1 3, OwnS x.2.2.1.v eRoute x.2.2.2.2.2.2.2.1 52, OwnS x.2.2.2.1.v eRule x.2.2.2.2.2.2.2.2.1 76, OwnS x.2.2.2.2.1.v eMeterConf x.2.2.2.2.2.2.2.2.2.1 57, OwnS x.2.2.2.2.2.1.v eMirrorConf x.2.2.2.2.2.2.2.2.2.2 59]) (fun x : Int × OV × OV × OV × OV × OV × (List Int) × (List SRoute) × (List SRule) × (List SMeterConf) × (List SMirrorConf) => (9 - x.1).toNat) (0, y.o1, y.o2, y.o3, y.o4, y.o5, y1, y2, y3, y4, y5) ⟨?_, ?_, ?_, ?_, ?_, ?_⟩ (by repeat first | exact Sub.nil | refine Sub.cons rfl ?_) (by repeat first | exact sR | exact sN | apply sC | apply sS | apply sA) (fun x hx => ?_))))
            · omega
            · dsimp only; omega
            · dsimp only; omega
            · dsimp only; omega
            · dsimp only; omega
            · dsimp only; omega
            obtain ⟨k, p1, p2, p3, p4, p5, q1, q2, q3, q4, q5⟩ := x
            obtain ⟨hk, hz0, hz1, hz2, hz3, hz4⟩ : (0 ≤ k ∧ k ≤ 9) ∧ ((q1.length : Int) = l.ps.length + k) ∧ ((q2.length : Int) = l.rs.length + k) ∧ ((q3.length : Int) = l.us.length + k) ∧ ((q4.length : Int) = l.ms.length + k) ∧ ((q5.length : Int) = l.xs.length + k) := hx
            show Sat _ _ [(1, true, .pointer (some ⟨b1, 0, none⟩)), (7, true, I k)] [Var b1 eConf (⟨p1, p2, p3, p4, p5, d⟩ : SConf) 28, OwnS p1.v iE q1 3, OwnS p2.v eRoute q2 52, OwnS p3.v eRule q3 76, OwnS p4.v eMeterConf q4 57, OwnS p5.v eMirrorConf q5 59]
            refine seq (seq (region (cons (opv (Ev.move (.t rfl)) (cons (opv (Ev.lss_i (.t rfl) (.c (v := I 9) rfl)) ?_))))))
            refine nil (pN ?_)
            first | refine condD rfl (fun h5 => ?_) (fun h5 => ?_) | refine cond rfl (fun h5 => ?_) (fun h5 => ?_)
            · try simp only [nb] at h5
              refine skip (pN (seq (block (seq (region (cons (opv (Ev.fieldAddr (o := 0) (.t rfl) (by kernel_rfl)) ?_)))))))
              refine cons (opv (Ev.to (v' := p1.v) (Ev.ldv ty22 (.t rfl) SConf.l_ports) (rfl)) ?_)
              refine cons (buildSlice (E := iE) Tryz.underlying22 ty3 z3 (.cons (.c (v := I (-8)) rfl) .nil) rfl rfl (fun v2 => ?_))
              refine cons (append (E := iE) Tryz.underlying22 ty3 rfl zb3 zs3 (.t rfl) (.t rfl) (fun _ => by repeat first | exact Upd.head | apply Upd.tail | apply Upd.right) (by first | exact isSl_own (by repeat first | exact mH | apply mT | apply mA) | exact fun w I => IsSl.keep0 (by assumption) I.keeps) (⟨by (show _ ≤ 9223372036854775807); simp only [List.length_cons, List.length_nil]; omega, by simp only [List.length_cons, List.length_nil]; omega⟩) (fun v3 => ?_))
              refine cons (opv (Ev.fieldAddr (o := 0) (.t rfl) (by kernel_rfl)) ?_)
              refine cons (stv ty22 SConf.l_ports (.t rfl) (.t rfl) ?_)
              refine nil (pN (seq (region (cons (opv (Ev.fieldAddr (o := 1) (.t rfl) (by kernel_rfl)) ?_)))))
              refine cons (opv (Ev.to (v' := p2.v) (Ev.ldv ty23 (.t rfl) SConf.l_routes) (rfl)) ?_)
              refine cons (opv (Ev.buildS (fs := _) (places := [(0, 18), (18, 1)]) z52 rfl Tryz.underlying52 (by kernel_rfl) (.cons (.c (v := I (-8)) rfl) .nil) (Fills.cons SRoute.l_out rfl Fills.nil)) ?_)
              refine cons (buildSlice (E := eRoute) Tryz.underlying23 ty52 z52 (.cons (.t rfl) .nil) rfl rfl (fun v4 => ?_))
              refine cons (append (E := eRoute) Tryz.underlying23 ty52 rfl zb52 zs52 (.t rfl) (.t rfl) (fun _ => by repeat first | exact Upd.head | apply Upd.tail | apply Upd.right) (by first | exact isSl_own (by repeat first | exact mH | apply mT | apply mA) | exact fun w I => IsSl.keep0 (by assumption) I.keeps) (⟨by (show _ ≤ 9223372036854775807); simp only [List.length_cons, List.length_nil]; omega, by simp only [List.length_cons, List.length_nil]; omega⟩) (fun v5 => ?_))
              refine cons (opv (Ev.fieldAddr (o := 1) (.t rfl) (by kernel_rfl)) ?_)
              refine cons (stv ty23 SConf.l_routes (.t rfl) (.t rfl) ?_)
              refine nil (pN (seq (region (cons (opv (Ev.fieldAddr (o := 2) (.t rfl) (by kernel_rfl)) ?_)))))
              refine cons (opv (Ev.to (v' := p3.v) (Ev.ldv ty24 (.t rfl) SConf.l_rules) (rfl)) ?_)
              refine cons (opv (Ev.buildS (fs := _) (places := [(0, 1), (1, 44), (45, 1), (46, 1), (47, 1), (48, 1)]) z76 rfl Tryz.underlying76 (by kernel_rfl) (.cons (.c (v := I (-8)) rfl) .nil) (Fills.cons SRule.l_out rfl Fills.nil)) ?_)
              refine cons (buildSlice (E := eRule) Tryz.underlying24 ty76 z76 (.cons (.t rfl) .nil) rfl rfl (fun v6 => ?_))
              refine cons (append (E := eRule) Tryz.underlying24 ty76 rfl zb76 zs76 (.t rfl) (.t rfl) (fun _ => by repeat first | exact Upd.head | apply Upd.tail | apply Upd.right) (by first | exact isSl_own (by repeat first | exact mH | apply mT | apply mA) | exact fun w I => IsSl.keep0 (by assumption) I.keeps) (⟨by (show _ ≤ 9223372036854775807); simp only [List.length_cons, List.length_nil]; omega, by simp only [List.length_cons, List.length_nil]; omega⟩) (fun v7 => ?_))
              refine cons (opv (Ev.fieldAddr (o := 2) (.t rfl) (by kernel_rfl)) ?_)
              refine cons (stv ty24 SConf.l_rules (.t rfl) (.t rfl) ?_)
              refine nil (pN (seq (region (cons (opv (Ev.fieldAddr (o := 3) (.t rfl) (by kernel_rfl)) ?_)))))
              refine cons (opv (Ev.to (v' := p4.v) (Ev.ldv ty25 (.t rfl) SConf.l_meters) (rfl)) ?_)
              refine cons (opv (Ev.buildS (fs := _) (places := [(0, 1), (1, 3)]) z57 rfl Tryz.underlying57 (by kernel_rfl) (.cons (.c (v := (Go.Value.string (ByteArray.mk #[45, 56]))) rfl) .nil) (Fills.cons SMeterConf.l_name rfl Fills.nil)) ?_)
              refine cons (buildSlice (E := eMeterConf) Tryz.underlying25 ty57 z57 (.cons (.t rfl) .nil) rfl rfl (fun v8 => ?_))
              refine cons (append (E := eMeterConf) Tryz.underlying25 ty57 rfl zb57 zs57 (.t rfl) (.t rfl) (fun _ => by repeat first | exact Upd.head | apply Upd.tail | apply Upd.right) (by first | exact isSl_own (by repeat first | exact mH | apply mT | apply mA) | exact fun w I => IsSl.keep0 (by assumption) I.keeps) (⟨by (show _ ≤ 9223372036854775807); simp only [List.length_cons, List.length_nil]; omega, by simp only [List.length_cons, List.length_nil]; omega⟩) (fun v9 => ?_))
              refine cons (opv (Ev.fieldAddr (o := 3) (.t rfl) (by kernel_rfl)) ?_)
              refine cons (stv ty25 SConf.l_meters (.t rfl) (.t rfl) ?_)
              refine nil (pN (region (cons (opv (Ev.fieldAddr (o := 4) (.t rfl) (by kernel_rfl)) ?_))))
              refine cons (opv (Ev.to (v' := p5.v) (Ev.ldv ty26 (.t rfl) SConf.l_mirrors) (rfl)) ?_)
              refine cons (opv (Ev.buildS (fs := _) (places := [(0, 1), (1, 1), (2, 1)]) z59 rfl Tryz.underlying59 (by kernel_rfl) (.cons (.c (v := I (-8)) rfl) .nil) (Fills.cons SMirrorConf.l_out rfl Fills.nil)) ?_)
              refine cons (buildSlice (E := eMirrorConf) Tryz.underlying26 ty59 z59 (.cons (.t rfl) .nil) rfl rfl (fun v10 => ?_))
              refine cons (append (E := eMirrorConf) Tryz.underlying26 ty59 rfl zb59 zs59 (.t rfl) (.t rfl) (fun _ => by repeat first | exact Upd.head | apply Upd.tail | apply Upd.right) (by first | exact isSl_own (by repeat first | exact mH | apply mT | apply mA) | exact fun w I => IsSl.keep0 (by assumption) I.keeps) (⟨by (show _ ≤ 9223372036854775807); simp only [List.length_cons, List.length_nil]; omega, by simp only [List.length_cons, List.length_nil]; omega⟩) (fun v11 => ?_))
              refine cons (opv (Ev.fieldAddr (o := 4) (.t rfl) (by kernel_rfl)) ?_)
              refine cons (stv ty26 SConf.l_mirrors (.t rfl) (.t rfl) ?_)
              refine nil (bN (pN (region (cons (opv (Ev.move (.t rfl)) (cons (opv (Ev.add_i (.t rfl) (.c (v := I 1) rfl) (fun _ => by omega)) ?_)))))))
              refine cons (opv (Ev.assign (.t rfl)) (nil (pN (nextP (X := Int × OV × OV × OV × OV × OV × (List Int) × (List SRoute) × (List SRule) × (List SMeterConf) × (List SMirrorConf)) (k + 1, _, _, _, _, _, _, _, _, _, _) ⟨?_, ?_, ?_, ?_, ?_, ?_⟩ ?_ (by repeat first | exact Sub.nil | refine Sub.cons rfl ?_) (by repeat first | exact SubP.nil | refine SubP.cons (by repeat first | exact Rem.head | apply Rem.tail) ?_)))))
              · try dsimp only
                omega
              · try dsimp only
                simp only [List.length_append, List.length_cons, List.length_nil]; omega
              · try dsimp only
                simp only [List.length_append, List.length_cons, List.length_nil]; omega
              · try dsimp only
                simp only [List.length_append, List.length_cons, List.length_nil]; omega
              · try dsimp only
                simp only [List.length_append, List.length_cons, List.length_nil]; omega
              · try dsimp only
                simp only [List.length_append, List.length_cons, List.length_nil]; omega
              · try dsimp only
                omega
            · try simp only [nb] at h5
              refine exit (pX (pX (bX (done' rfl .nil (fun w I => ?_)))))
              exact retD (n := 100) rfl w I
end Go.Proofs.YtnoobdijbpmjkaaGreat
