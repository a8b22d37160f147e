/- packet -/
import Derived.Test.YtegcihhhighipaaP8
import Derived.Test.YtegcihhhighipaaGxM
set_option linter.unusedVariables false
set_option linter.unusedSimpArgs false
namespace Go.Proofs.Ytegcihhhighipaa
open Go Go.Gx

/-- Some bytes behind some. -/
def cut4 (b : List UInt8) (l k : Nat) : List UInt8 := (b.take k).drop l
/-- An IPv4 front's header. -/
def hd4 (b : List UInt8) : SHeader :=
  { eHeader.zero with class_ := b.getD 1 0, id := (takeB b 4 2).1.toUInt16.toUInt32, tTL := b.getD 8 0, proto := b.getD 9 0, src := ⟨false, cpyV (Vector.replicate 16 0) (cut4 b 12 16) 0⟩, dst := ⟨false, cpyV (Vector.replicate 16 0) (cut4 b 16 20) 0⟩ }
/-- An IPv6 front's header. -/
def hd6 (b : List UInt8) : SHeader :=
  { eHeader.zero with class_ := (shr32 (takeB b 0 4).1.toUInt32 20).toUInt8, id := (takeB b 0 4).1.toUInt32 &&& 1048575, proto := b.getD 6 0, tTL := b.getD 7 0, src := ⟨true, vecOf 16 (cut4 b 8 24) 0⟩, dst := ⟨true, vecOf 16 (cut4 b 24 40) 0⟩ }
/-- What a front says. -/
def frontB (b : List UInt8) : SHeader × Int × Int :=
  if b.length = 0 then (eHeader.zero, 0, 160)
  else if shr8 (b.getD 0 0) 4 = 4 then
    if b.length < 20 then (eHeader.zero, 0, 160)
    else if b.getD 0 0 ≠ 69 ∨ (takeB b 6 2).1.toUInt16 ≠ 16384 then (eHeader.zero, 0, 161)
    else (hd4 b, ((takeB b 2 2).1.toUInt16.toNat : Int), 0)
  else if shr8 (b.getD 0 0) 4 = 6 then
    if b.length < 40 then (eHeader.zero, 0, 160) else (hd6 b, 40 + ((takeB b 4 2).1.toUInt16.toNat : Int), 0)
  else (eHeader.zero, 0, 161)

theorem z29 : (Try.prog.info? 29).bind (·.zero) = some (eHeader.val eHeader.zero) := by kernel_rfl

theorem en61 : Enters Try.prog 61 := Enters.mk' (by kernel_rfl)

theorem ty83 : TyOK Try.prog 83 (arrE 4 u8E) := TyOK.mk' (by kernel_rfl) (by kernel_rfl)

theorem z83 : (Try.prog.info? 83).bind (·.zero) = some ((arrE 4 u8E).val (arrE 4 u8E).zero) := by kernel_rfl

theorem en62 : Enters Try.prog 62 := Enters.mk' (by kernel_rfl)

set_option maxHeartbeats 1000000 in
theorem fronted_ok (u : Value) (b : List UInt8) (w : World) (hb : IsSl u8E w u b) : Calls Try.prog 49 #[u] w (RetV w (.tuple #[eHeader.val (frontB b).1, I (frontB b).2.1, I (frontB b).2.2])) := by
  have hbl := hb.le
  have hx16 := (takeB b 4 2).1.toUInt16.toNat_lt
  refine enter0 133 Try.func49 rfl rfl (Nat.le_of_ble_eq_true rfl) ?_
  refine seq ?_
  refine region ?_
  refine cons (alloc z29 (fun b1 => ?_))
  refine cons (opv (Ev.assign (.c (v := I 0) rfl)) ?_)
  refine cons (opv (Ev.assign (.c (v := I 0) rfl)) ?_)
  refine nil ?_
  refine pN ?_
  refine seq ?_
  refine seq ?_
  refine region ?_
  refine cons (opv (Ev.move (.t rfl)) ?_)
  refine cons (opv (Ev.len Try.underlying27 (.t rfl) (by first | exact isSl_own (by repeat first | exact mH | apply mT | apply mA) | exact fun w I => IsSl.keep0 (by assumption) I.keeps)) ?_)
  refine cons (opv (Ev.eql_i (.t rfl) (.c (v := I 0) rfl)) ?_)
  refine nil ?_
  refine pN ?_
  first | refine condD rfl (fun h0 => ?_) (fun h0 => ?_) | refine cond rfl (fun h0 => ?_) (fun h0 => ?_)
  · try simp only [Bool.and_eq_true, Bool.or_eq_true, Bool.or_eq_false_iff, Bool.and_eq_false_iff, Bool.not_eq_true', Bool.not_eq_false', decide_eq_true_eq, decide_eq_false_iff_not, Decidable.not_not] at h0
    refine seq ?_
    refine region ?_
    refine cons (opv (Ev.load ty29 (.t rfl) (ptsVar (by repeat first | exact mH | apply mT | apply mA) (Lens.id _))) ?_)
    refine cons (storeV ty29 (Lens.id _) (.t rfl) (.t rfl) (by repeat first | exact Upd.head | apply Upd.tail | apply Upd.right) ?_)
    refine cons (opv (Ev.assign (.c (v := I 0) rfl)) ?_)
    refine cons (opv (Ev.assign (.c (v := I 160) rfl)) ?_)
    refine nil ?_
    refine pN ?_
    refine ret ?_
    refine pR ?_
    refine done rfl (.cell rfl (fun w I => run_loadVar_pts ty29 (ptsVar (by repeat first | exact mH | apply mT | apply mA) (Lens.id _) w I)) (.tmp rfl (.tmp rfl .nil))) (retE ?_)
    have e : frontB b = (eHeader.zero, 0, 160) := by
      unfold frontB
      rw [if_pos (by omega)]
    rw [e]; rfl
  · try simp only [Bool.and_eq_true, Bool.or_eq_true, Bool.or_eq_false_iff, Bool.and_eq_false_iff, Bool.not_eq_true', Bool.not_eq_false', decide_eq_true_eq, decide_eq_false_iff_not, Decidable.not_not] at h0
    refine skip ?_
    refine pN ?_
    refine seq ?_
    refine seq ?_
    refine region ?_
    refine cons (opv (Ev.move (.t rfl)) ?_)
    refine cons (opv (Ev.indexAddr Try.underlying27 ty5 (.t rfl) (.c (v := I 0) rfl) (by first | exact isSl_own (by repeat first | exact mH | apply mT | apply mA) | exact fun w I => IsSl.keep0 (by assumption) I.keeps) (fun _ => by omega)) ?_)
    refine cons (opv (Ev.loadS0 (i := 0) ty5 (.t rfl) (by first | exact isSl_own (by repeat first | exact mH | apply mT | apply mA) | exact fun w I => IsSl.keep0 (by assumption) I.keeps) (fun _ => by omega)) ?_)
    refine cons (opv (Ev.shr_u8 (.t rfl) (.c rfl) (fun _ => by decide)) ?_)
    refine nil ?_
    refine pN ?_
    refine block ?_
    refine seq ?_
    refine region ?_
    refine cons (opv (Ev.eql_u8 (.t rfl) (.c (v := U8 4) rfl)) ?_)
    refine cons (opv (Ev.assign (.t rfl)) ?_)
    refine nil ?_
    refine pN ?_
    first | refine condD rfl (fun h1 => ?_) (fun h1 => ?_) | refine cond rfl (fun h1 => ?_) (fun h1 => ?_)
    · try simp only [Bool.and_eq_true, Bool.or_eq_true, Bool.or_eq_false_iff, Bool.and_eq_false_iff, Bool.not_eq_true', Bool.not_eq_false', decide_eq_true_eq, decide_eq_false_iff_not, Decidable.not_not] at h1
      refine seq ?_
      refine seq ?_
      refine region ?_
      refine cons (opv (Ev.move (.t rfl)) ?_)
      refine cons (opv (Ev.len Try.underlying27 (.t rfl) (by first | exact isSl_own (by repeat first | exact mH | apply mT | apply mA) | exact fun w I => IsSl.keep0 (by assumption) I.keeps)) ?_)
      refine cons (opv (Ev.lss_i (.t rfl) (.c (v := I 20) rfl)) ?_)
      refine nil ?_
      refine pN ?_
      first | refine condD rfl (fun h2 => ?_) (fun h2 => ?_) | refine cond rfl (fun h2 => ?_) (fun h2 => ?_)
      · try simp only [Bool.and_eq_true, Bool.or_eq_true, Bool.or_eq_false_iff, Bool.and_eq_false_iff, Bool.not_eq_true', Bool.not_eq_false', decide_eq_true_eq, decide_eq_false_iff_not, Decidable.not_not] at h2
        refine seq ?_
        refine region ?_
        refine cons (opv (Ev.load ty29 (.t rfl) (ptsVar (by repeat first | exact mH | apply mT | apply mA) (Lens.id _))) ?_)
        refine cons (storeV ty29 (Lens.id _) (.t rfl) (.t rfl) (by repeat first | exact Upd.head | apply Upd.tail | apply Upd.right) ?_)
        refine cons (opv (Ev.assign (.c (v := I 0) rfl)) ?_)
        refine cons (opv (Ev.assign (.c (v := I 160) rfl)) ?_)
        refine nil ?_
        refine pN ?_
        refine ret ?_
        refine pR ?_
        refine bR ?_
        refine pR ?_
        refine done rfl (.cell rfl (fun w I => run_loadVar_pts ty29 (ptsVar (by repeat first | exact mH | apply mT | apply mA) (Lens.id _) w I)) (.tmp rfl (.tmp rfl .nil))) (retE ?_)
        have n0 : ¬ b.length = 0 := by omega
        have e : frontB b = (eHeader.zero, 0, 160) := by
          unfold frontB
          rw [if_neg n0, if_pos (show shr8 (b.getD 0 0) 4 = 4 from h1), if_pos (by omega)]
        rw [e]
        rfl
      · try simp only [Bool.and_eq_true, Bool.or_eq_true, Bool.or_eq_false_iff, Bool.and_eq_false_iff, Bool.not_eq_true', Bool.not_eq_false', decide_eq_true_eq, decide_eq_false_iff_not, Decidable.not_not] at h2
        refine skip ?_
        refine pN ?_
        refine seq ?_
        refine region ?_
        refine cons (opv (Ev.move (.t rfl)) ?_)
        refine cons (callv en61 (.cons (.t rfl) (.cons (.c (v := I 2) rfl) .nil)) (fun w I => take_uint16_ok _ _ _ w (by first | exact isSl_own (by repeat first | exact mH | apply mT | apply mA) w I | exact IsSl.keep0 (by assumption) I.keeps)) ?_)
        refine cons (opv (Ev.move (.t rfl)) ?_)
        refine cons (opv (Ev.extract (.t rfl) rfl) ?_)
        refine cons (opv (Ev.extract (.t rfl) rfl) ?_)
        refine cons (opv (Ev.assign (.t rfl)) ?_)
        refine cons (opv (Ev.assign (.t rfl)) ?_)
        refine nil ?_
        refine pN ?_
        refine seq ?_
        refine region ?_
        refine cons (opv (Ev.move (.t rfl)) ?_)
        refine cons (callv en61 (.cons (.t rfl) (.cons (.c (v := I 4) rfl) .nil)) (fun w I => take_uint16_ok _ _ _ w (by first | exact isSl_own (by repeat first | exact mH | apply mT | apply mA) w I | exact IsSl.keep0 (by assumption) I.keeps)) ?_)
        refine cons (opv (Ev.move (.t rfl)) ?_)
        refine cons (opv (Ev.extract (.t rfl) rfl) ?_)
        refine cons (opv (Ev.extract (.t rfl) rfl) ?_)
        refine cons (opv (Ev.assign (.t rfl)) ?_)
        refine cons (opv (Ev.assign (.t rfl)) ?_)
        refine nil ?_
        refine pN ?_
        refine seq ?_
        refine region ?_
        refine cons (opv (Ev.move (.t rfl)) ?_)
        refine cons (callv en61 (.cons (.t rfl) (.cons (.c (v := I 6) rfl) .nil)) (fun w I => take_uint16_ok _ _ _ w (by first | exact isSl_own (by repeat first | exact mH | apply mT | apply mA) w I | exact IsSl.keep0 (by assumption) I.keeps)) ?_)
        refine cons (opv (Ev.move (.t rfl)) ?_)
        refine cons (opv (Ev.extract (.t rfl) rfl) ?_)
        refine cons (opv (Ev.extract (.t rfl) rfl) ?_)
        refine cons (opv (Ev.assign (.t rfl)) ?_)
        refine cons (opv (Ev.assign (.t rfl)) ?_)
        refine nil ?_
        refine pN ?_
        refine seq ?_
        refine seq ?_
        refine region ?_
        refine cons (opv (Ev.move (.t rfl)) ?_)
        refine cons (opv (Ev.indexAddr Try.underlying27 ty5 (.t rfl) (.c (v := I 0) rfl) (by first | exact isSl_own (by repeat first | exact mH | apply mT | apply mA) | exact fun w I => IsSl.keep0 (by assumption) I.keeps) (fun _ => by omega)) ?_)
        refine cons (opv (Ev.loadS0 (i := 0) ty5 (.t rfl) (by first | exact isSl_own (by repeat first | exact mH | apply mT | apply mA) | exact fun w I => IsSl.keep0 (by assumption) I.keeps) (fun _ => by omega)) ?_)
        refine cons (opv (Ev.neq_u8 (.t rfl) (.c (v := U8 69) rfl)) ?_)
        refine cons (opv (Ev.move (.t rfl)) ?_)
        refine cons (opg rfl rfl (Ev.move (.t rfl)) ?_)
        refine cons (opg rfl rfl (Ev.neq_u16 (.g rfl id) (.c (v := U16 16384) rfl)) ?_)
        refine cons (opv (Ev.pickO (.t rfl) (.c (v := .bool true) rfl) (fun {_} h => by cases h; rfl) ⟨_, rfl⟩ (by intro h1 h; first | (rw [h] <;> rfl) | (rw [h1, h] <;> rfl) | (rw [h, h1] <;> rfl) | simp_all)) ?_)
        refine nil ?_
        refine pN ?_
        first | refine condD rfl (fun h3 => ?_) (fun h3 => ?_) | refine cond rfl (fun h3 => ?_) (fun h3 => ?_)
        · try simp only [Bool.and_eq_true, Bool.or_eq_true, Bool.or_eq_false_iff, Bool.and_eq_false_iff, Bool.not_eq_true', Bool.not_eq_false', decide_eq_true_eq, decide_eq_false_iff_not, Decidable.not_not] at h3
          refine seq ?_
          refine region ?_
          refine cons (opv (Ev.load ty29 (.t rfl) (ptsVar (by repeat first | exact mH | apply mT | apply mA) (Lens.id _))) ?_)
          refine cons (storeV ty29 (Lens.id _) (.t rfl) (.t rfl) (by repeat first | exact Upd.head | apply Upd.tail | apply Upd.right) ?_)
          refine cons (opv (Ev.assign (.c (v := I 0) rfl)) ?_)
          refine cons (opv (Ev.assign (.c (v := I 161) rfl)) ?_)
          refine nil ?_
          refine pN ?_
          refine ret ?_
          refine pR ?_
          refine bR ?_
          refine pR ?_
          refine done rfl (.cell rfl (fun w I => run_loadVar_pts ty29 (ptsVar (by repeat first | exact mH | apply mT | apply mA) (Lens.id _) w I)) (.tmp rfl (.tmp rfl .nil))) (retE ?_)
          have n0 : ¬ b.length = 0 := by omega
          have e : frontB b = (eHeader.zero, 0, 161) := by
            unfold frontB
            rw [if_neg n0, if_pos (show shr8 (b.getD 0 0) 4 = 4 from h1), if_neg (by omega), if_pos (show b.getD 0 0 ≠ 69 ∨ (takeB b 6 2).1.toUInt16 ≠ 16384 from h3)]
          rw [e]
          rfl
        · try simp only [Bool.and_eq_true, Bool.or_eq_true, Bool.or_eq_false_iff, Bool.and_eq_false_iff, Bool.not_eq_true', Bool.not_eq_false', decide_eq_true_eq, decide_eq_false_iff_not, Decidable.not_not] at h3
          refine skip ?_
          refine pN ?_
          refine seq ?_
          refine drawS 2 rfl (by repeat first | exact Rem.head | apply Rem.tail) (by kernel_rfl) ?_
          refine take 0 rfl (by kernel_rfl) (by kernel_rfl) (by kernel_rfl) (by repeat first | exact sR | exact sN | apply sC | apply sS | apply sA) (Ev.move (.t rfl)) ?_
          refine take 1 rfl (by kernel_rfl) (by kernel_rfl) (by kernel_rfl) (by repeat first | exact sR | exact sN | apply sC | apply sS | apply sA) (Ev.indexAddr Try.underlying27 ty5 (.t rfl) (.c (v := I 1) rfl) (by first | exact isSl_own (by repeat first | exact mH | apply mT | apply mA) | exact fun w I => IsSl.keep0 (by assumption) I.keeps) (fun _ => by omega)) ?_
          refine take 2 rfl (by kernel_rfl) (by kernel_rfl) (by kernel_rfl) (by repeat first | exact sR | exact sN | apply sC | apply sS | apply sA) (Ev.loadS0 (i := 1) ty5 (.t rfl) (by first | exact isSl_own (by repeat first | exact mH | apply mT | apply mA) | exact fun w I => IsSl.keep0 (by assumption) I.keeps) (fun _ => by omega)) ?_
          refine take 3 rfl (by kernel_rfl) (by kernel_rfl) (by kernel_rfl) (by repeat first | exact sR | exact sN | apply sC | apply sS | apply sA) (Ev.move (.t rfl)) ?_
          refine take 4 rfl (by kernel_rfl) (by kernel_rfl) (by kernel_rfl) (by repeat first | exact sR | exact sN | apply sC | apply sS | apply sA) (Ev.conv_u16_u32 Try.underlying26 Try.underlying25 (.t rfl)) ?_
          refine take 5 rfl (by kernel_rfl) (by kernel_rfl) (by kernel_rfl) (by repeat first | exact sR | exact sN | apply sC | apply sS | apply sA) (Ev.move (.t rfl)) ?_
          refine take 6 rfl (by kernel_rfl) (by kernel_rfl) (by kernel_rfl) (by repeat first | exact sR | exact sN | apply sC | apply sS | apply sA) (Ev.indexAddr Try.underlying27 ty5 (.t rfl) (.c (v := I 8) rfl) (by first | exact isSl_own (by repeat first | exact mH | apply mT | apply mA) | exact fun w I => IsSl.keep0 (by assumption) I.keeps) (fun _ => by omega)) ?_
          refine take 7 rfl (by kernel_rfl) (by kernel_rfl) (by kernel_rfl) (by repeat first | exact sR | exact sN | apply sC | apply sS | apply sA) (Ev.loadS0 (i := 8) ty5 (.t rfl) (by first | exact isSl_own (by repeat first | exact mH | apply mT | apply mA) | exact fun w I => IsSl.keep0 (by assumption) I.keeps) (fun _ => by omega)) ?_
          refine take 8 rfl (by kernel_rfl) (by kernel_rfl) (by kernel_rfl) (by repeat first | exact sR | exact sN | apply sC | apply sS | apply sA) (Ev.move (.t rfl)) ?_
          refine take 9 rfl (by kernel_rfl) (by kernel_rfl) (by kernel_rfl) (by repeat first | exact sR | exact sN | apply sC | apply sS | apply sA) (Ev.indexAddr Try.underlying27 ty5 (.t rfl) (.c (v := I 9) rfl) (by first | exact isSl_own (by repeat first | exact mH | apply mT | apply mA) | exact fun w I => IsSl.keep0 (by assumption) I.keeps) (fun _ => by omega)) ?_
          refine take 10 rfl (by kernel_rfl) (by kernel_rfl) (by kernel_rfl) (by repeat first | exact sR | exact sN | apply sC | apply sS | apply sA) (Ev.loadS0 (i := 9) ty5 (.t rfl) (by first | exact isSl_own (by repeat first | exact mH | apply mT | apply mA) | exact fun w I => IsSl.keep0 (by assumption) I.keeps) (fun _ => by omega)) ?_
          refine take 11 rfl (by kernel_rfl) (by kernel_rfl) (by kernel_rfl) (by repeat first | exact sR | exact sN | apply sC | apply sS | apply sA) (Ev.buildS (fs := _) (places := [(0, 17), (17, 17), (34, 1), (35, 1), (36, 1), (37, 1), (38, 1), (39, 1), (40, 1), (41, 1), (42, 1)]) z29 rfl Try.underlying29 (by kernel_rfl) (.cons (.t rfl) (.cons (.t rfl) (.cons (.t rfl) (.cons (.t rfl) .nil)))) (Fills.cons SHeader.l_class_ rfl (Fills.cons SHeader.l_id rfl (Fills.cons SHeader.l_tTL rfl (Fills.cons SHeader.l_proto rfl Fills.nil))))) ?_
          refine all [12] (by kernel_rfl) (by decide) (.cons rfl ?_ .nil)
          refine (storeV ty29 (Lens.id _) (.t rfl) (.t rfl) (by repeat first | exact Upd.head | apply Upd.tail | apply Upd.right) ?_)
          refine heldN_of (by repeat first | exact sR | exact sN | apply sC | apply sS | apply sA) ?_
          refine over (by kernel_rfl) ?_
          refine pN ?_
          refine seq ?_
          refine draw' (by kernel_rfl) ?_
          refine take 0 rfl (by kernel_rfl) (by kernel_rfl) (by kernel_rfl) (by repeat first | exact sR | exact sN | apply sC | apply sS | apply sA) (Ev.move (.t rfl)) ?_
          refine take 1 rfl (by kernel_rfl) (by kernel_rfl) (by kernel_rfl) (by repeat first | exact sR | exact sN | apply sC | apply sS | apply sA) (Ev.slice Try.underlying27 ty5 (.t rfl) (.c (v := I 12) rfl) (.c (v := I 16) rfl) (by first | exact isSl_own (by repeat first | exact mH | apply mT | apply mA) | exact fun w I => IsSl.keep0 (by assumption) I.keeps) (fun _ => by omega)) ?_
          refine take 2 rfl (by kernel_rfl) (by kernel_rfl) (by kernel_rfl) (by repeat first | exact sR | exact sN | apply sC | apply sS | apply sA) (Ev.toArr Try.underlying83 (.t rfl) (fun w I => IsSl.sub (w := w) (by first | exact isSl_own (by repeat first | exact mH | apply mT | apply mA) w I | exact IsSl.keep0 (by assumption) I.keeps) (by omega) (by omega)) (fun _ => ⟨by decide, by first | omega | (simp; done) | (simp; omega)⟩)) ?_
          refine take 3 rfl (by kernel_rfl) (by kernel_rfl) (by kernel_rfl) (by repeat first | exact sR | exact sN | apply sC | apply sS | apply sA) (Ev.loadArr ty83 (.t rfl) (fun w I => IsSl.sub (w := w) (by first | exact isSl_own (by repeat first | exact mH | apply mT | apply mA) w I | exact IsSl.keep0 (by assumption) I.keeps) (by omega) (by omega)) (fun _ => ⟨by decide, by first | omega | (simp; done) | (simp; omega)⟩)) ?_
          refine take 4 rfl (by kernel_rfl) (by kernel_rfl) (by kernel_rfl) (by repeat first | exact sR | exact sN | apply sC | apply sS | apply sA) (Ev.move (.t rfl)) ?_
          refine take 5 rfl (by kernel_rfl) (by kernel_rfl) (by kernel_rfl) (by repeat first | exact sR | exact sN | apply sC | apply sS | apply sA) (Ev.slice Try.underlying27 ty5 (.t rfl) (.c (v := I 16) rfl) (.c (v := I 20) rfl) (by first | exact isSl_own (by repeat first | exact mH | apply mT | apply mA) | exact fun w I => IsSl.keep0 (by assumption) I.keeps) (fun _ => by omega)) ?_
          refine take 6 rfl (by kernel_rfl) (by kernel_rfl) (by kernel_rfl) (by repeat first | exact sR | exact sN | apply sC | apply sS | apply sA) (Ev.toArr Try.underlying83 (.t rfl) (fun w I => IsSl.sub (w := w) (by first | exact isSl_own (by repeat first | exact mH | apply mT | apply mA) w I | exact IsSl.keep0 (by assumption) I.keeps) (by omega) (by omega)) (fun _ => ⟨by decide, by first | omega | (simp; done) | (simp; omega)⟩)) ?_
          refine take 7 rfl (by kernel_rfl) (by kernel_rfl) (by kernel_rfl) (by repeat first | exact sR | exact sN | apply sC | apply sS | apply sA) (Ev.loadArr ty83 (.t rfl) (fun w I => IsSl.sub (w := w) (by first | exact isSl_own (by repeat first | exact mH | apply mT | apply mA) w I | exact IsSl.keep0 (by assumption) I.keeps) (by omega) (by omega)) (fun _ => ⟨by decide, by first | omega | (simp; done) | (simp; omega)⟩)) ?_
          refine all [8, 9] (by kernel_rfl) (by decide) (.cons rfl ?_ (.cons rfl ?_ .nil))
          · refine (alloc z83 (fun b2 => ?_))
            refine heldN_of (by repeat first | exact sR | exact sN | apply sC | apply sS | apply sA) ?_
            refine all [9] (by kernel_rfl) (by decide) (.cons rfl ?_ .nil)
            refine (alloc z83 (fun b3 => ?_))
            refine heldN_of (by repeat first | exact sR | exact sN | apply sC | apply sS | apply sA) ?_
            refine all [10] (by kernel_rfl) (by decide) (.cons rfl ?_ .nil)
            refine (storeV ty83 (Lens.id _) (.t rfl) (.t rfl) (by repeat first | exact Upd.head | apply Upd.tail | apply Upd.right) ?_)
            refine heldN_of (by repeat first | exact sR | exact sN | apply sC | apply sS | apply sA) ?_
            refine all [11] (by kernel_rfl) (by decide) (.cons rfl ?_ .nil)
            refine (storeV ty83 (Lens.id _) (.t rfl) (.t rfl) (by repeat first | exact Upd.head | apply Upd.tail | apply Upd.right) ?_)
            refine heldN_of (by repeat first | exact sR | exact sN | apply sC | apply sS | apply sA) ?_
            refine over (by kernel_rfl) ?_
            refine pN ?_
            refine seq ?_
            refine drawS 2 rfl (by repeat first | exact Rem.head | apply Rem.tail) (by kernel_rfl) ?_
            refine take 0 rfl (by kernel_rfl) (by kernel_rfl) (by kernel_rfl) (by repeat first | exact sR | exact sN | apply sC | apply sS | apply sA) (Ev.fieldAddr (o := 0) (.t rfl) (by kernel_rfl)) ?_
            refine take 1 rfl (by kernel_rfl) (by kernel_rfl) (by kernel_rfl) (by repeat first | exact sR | exact sN | apply sC | apply sS | apply sA) (Ev.fieldAddr (o := 1) (.t rfl) (by kernel_rfl)) ?_
            refine take 2 rfl (by kernel_rfl) (by kernel_rfl) (by kernel_rfl) (by repeat first | exact sR | exact sN | apply sC | apply sS | apply sA) (Ev.sliceArr (l := 0) (h := 16) Try.underlying22 ty5 (.t rfl) rfl rfl (fun _ => by decide)) ?_
            refine take 3 rfl (by kernel_rfl) (by kernel_rfl) (by kernel_rfl) (by repeat first | exact sR | exact sN | apply sC | apply sS | apply sA) (Ev.sliceArr (l := 0) (h := 4) Try.underlying83 ty5 (.t rfl) rfl rfl (fun _ => by decide)) ?_
            refine all [4] (by kernel_rfl) (by decide) (.cons rfl ?_ .nil)
            refine (copyV (z := u8E.zero) Try.underlying27 ty5 (Lens.comp SHeader.l_src SAddr.l_b) (.t rfl) (.t rfl) (by first | omega | (simp; done) | (simp; omega)) (fun w I => isSl_arr (ptsVar (by repeat first | exact mH | apply mT | apply mA) (Lens.id _) w I) (by decide) (by decide) (by decide)) (by repeat first | exact Upd.head | apply Upd.tail | apply Upd.right) ?_)
            refine heldN_of (by repeat first | exact sR | exact sN | apply sC | apply sS | apply sA) ?_
            refine over (by kernel_rfl) ?_
            refine pN ?_
            refine seq ?_
            refine drawS 2 rfl (by repeat first | exact Rem.head | apply Rem.tail) (by kernel_rfl) ?_
            refine take 0 rfl (by kernel_rfl) (by kernel_rfl) (by kernel_rfl) (by repeat first | exact sR | exact sN | apply sC | apply sS | apply sA) (Ev.fieldAddr (o := 17) (.t rfl) (by kernel_rfl)) ?_
            refine take 1 rfl (by kernel_rfl) (by kernel_rfl) (by kernel_rfl) (by repeat first | exact sR | exact sN | apply sC | apply sS | apply sA) (Ev.fieldAddr (o := 1) (.t rfl) (by kernel_rfl)) ?_
            refine take 2 rfl (by kernel_rfl) (by kernel_rfl) (by kernel_rfl) (by repeat first | exact sR | exact sN | apply sC | apply sS | apply sA) (Ev.sliceArr (l := 0) (h := 16) Try.underlying22 ty5 (.t rfl) rfl rfl (fun _ => by decide)) ?_
            refine take 3 rfl (by kernel_rfl) (by kernel_rfl) (by kernel_rfl) (by repeat first | exact sR | exact sN | apply sC | apply sS | apply sA) (Ev.sliceArr (l := 0) (h := 4) Try.underlying83 ty5 (.t rfl) rfl rfl (fun _ => by decide)) ?_
            refine all [4] (by kernel_rfl) (by decide) (.cons rfl ?_ .nil)
            refine (copyV (z := u8E.zero) Try.underlying27 ty5 (Lens.comp SHeader.l_dst SAddr.l_b) (.t rfl) (.t rfl) (by first | omega | (simp; done) | (simp; omega)) (fun w I => isSl_arr (ptsVar (by repeat first | exact mH | apply mT | apply mA) (Lens.id _) w I) (by decide) (by decide) (by decide)) (by repeat first | exact Upd.head | apply Upd.tail | apply Upd.right) ?_)
            refine heldN_of (by repeat first | exact sR | exact sN | apply sC | apply sS | apply sA) ?_
            refine over (by kernel_rfl) ?_
            refine pN ?_
            refine seq ?_
            refine region ?_
            refine cons (opv (Ev.load ty29 (.t rfl) (ptsVar (by repeat first | exact mH | apply mT | apply mA) (Lens.id _))) ?_)
            refine cons (opv (Ev.move (.t rfl)) ?_)
            refine cons (opv (Ev.conv_u16_i Try.underlying3 Try.underlying25 (.t rfl)) ?_)
            refine cons (storeV ty29 (Lens.id _) (.t rfl) (.t rfl) (by repeat first | exact Upd.head | apply Upd.tail | apply Upd.right) ?_)
            refine cons (opv (Ev.assign (.t rfl)) ?_)
            refine cons (opv (Ev.assign (.c (v := I 0) rfl)) ?_)
            refine nil ?_
            refine pN ?_
            refine ret ?_
            refine bR ?_
            refine pR ?_
            refine done rfl (.cell rfl (fun w I => run_loadVar_pts ty29 (ptsVar (by repeat first | exact mH | apply mT | apply mA) (Lens.id _) w I)) (.tmp rfl (.tmp rfl .nil))) (retE ?_)
            have n0 : ¬ b.length = 0 := by omega
            have e : frontB b = (hd4 b, ((takeB b 2 2).1.toUInt16.toNat : Int), 0) := by
              unfold frontB
              rw [if_neg n0, if_pos (show shr8 (b.getD 0 0) 4 = 4 from h1), if_neg (by omega), if_neg (fun hc => hc.elim (fun k => k h3.1) (fun k => k h3.2))]
            rw [e]
            refine congrArg (fun z => Value.tuple #[eHeader.val z, I _, I 0]) ?_
            have v1 := vecOf_toList (n := 4) (z := u8E.zero) (xs := (b.take 16).drop 12) (by simp; omega)
            have v2 := vecOf_toList (n := 4) (z := u8E.zero) (xs := (b.take 20).drop 16) (by simp; omega)
            simp [hd4, cut4, Lens.comp]
            exact ⟨⟨rfl, by rw [v1]; rfl⟩, ⟨rfl, by rw [v2]; rfl⟩, rfl, rfl, rfl⟩
          · refine (alloc z83 (fun b4 => ?_))
            refine heldN_of (by repeat first | exact sR | exact sN | apply sC | apply sS | apply sA) ?_
            refine all [8] (by kernel_rfl) (by decide) (.cons rfl ?_ .nil)
            refine (alloc z83 (fun b5 => ?_))
            refine heldN_of (by repeat first | exact sR | exact sN | apply sC | apply sS | apply sA) ?_
            refine all [10] (by kernel_rfl) (by decide) (.cons rfl ?_ .nil)
            refine (storeV ty83 (Lens.id _) (.t rfl) (.t rfl) (by repeat first | exact Upd.head | apply Upd.tail | apply Upd.right) ?_)
            refine heldN_of (by repeat first | exact sR | exact sN | apply sC | apply sS | apply sA) ?_
            refine all [11] (by kernel_rfl) (by decide) (.cons rfl ?_ .nil)
            refine (storeV ty83 (Lens.id _) (.t rfl) (.t rfl) (by repeat first | exact Upd.head | apply Upd.tail | apply Upd.right) ?_)
            refine heldN_of (by repeat first | exact sR | exact sN | apply sC | apply sS | apply sA) ?_
            refine over (by kernel_rfl) ?_
            refine pN ?_
            refine seq ?_
            refine drawS 2 rfl (by repeat first | exact Rem.head | apply Rem.tail) (by kernel_rfl) ?_
            refine take 0 rfl (by kernel_rfl) (by kernel_rfl) (by kernel_rfl) (by repeat first | exact sR | exact sN | apply sC | apply sS | apply sA) (Ev.fieldAddr (o := 0) (.t rfl) (by kernel_rfl)) ?_
            refine take 1 rfl (by kernel_rfl) (by kernel_rfl) (by kernel_rfl) (by repeat first | exact sR | exact sN | apply sC | apply sS | apply sA) (Ev.fieldAddr (o := 1) (.t rfl) (by kernel_rfl)) ?_
            refine take 2 rfl (by kernel_rfl) (by kernel_rfl) (by kernel_rfl) (by repeat first | exact sR | exact sN | apply sC | apply sS | apply sA) (Ev.sliceArr (l := 0) (h := 16) Try.underlying22 ty5 (.t rfl) rfl rfl (fun _ => by decide)) ?_
            refine take 3 rfl (by kernel_rfl) (by kernel_rfl) (by kernel_rfl) (by repeat first | exact sR | exact sN | apply sC | apply sS | apply sA) (Ev.sliceArr (l := 0) (h := 4) Try.underlying83 ty5 (.t rfl) rfl rfl (fun _ => by decide)) ?_
            refine all [4] (by kernel_rfl) (by decide) (.cons rfl ?_ .nil)
            refine (copyV (z := u8E.zero) Try.underlying27 ty5 (Lens.comp SHeader.l_src SAddr.l_b) (.t rfl) (.t rfl) (by first | omega | (simp; done) | (simp; omega)) (fun w I => isSl_arr (ptsVar (by repeat first | exact mH | apply mT | apply mA) (Lens.id _) w I) (by decide) (by decide) (by decide)) (by repeat first | exact Upd.head | apply Upd.tail | apply Upd.right) ?_)
            refine heldN_of (by repeat first | exact sR | exact sN | apply sC | apply sS | apply sA) ?_
            refine over (by kernel_rfl) ?_
            refine pN ?_
            refine seq ?_
            refine drawS 2 rfl (by repeat first | exact Rem.head | apply Rem.tail) (by kernel_rfl) ?_
            refine take 0 rfl (by kernel_rfl) (by kernel_rfl) (by kernel_rfl) (by repeat first | exact sR | exact sN | apply sC | apply sS | apply sA) (Ev.fieldAddr (o := 17) (.t rfl) (by kernel_rfl)) ?_
            refine take 1 rfl (by kernel_rfl) (by kernel_rfl) (by kernel_rfl) (by repeat first | exact sR | exact sN | apply sC | apply sS | apply sA) (Ev.fieldAddr (o := 1) (.t rfl) (by kernel_rfl)) ?_
            refine take 2 rfl (by kernel_rfl) (by kernel_rfl) (by kernel_rfl) (by repeat first | exact sR | exact sN | apply sC | apply sS | apply sA) (Ev.sliceArr (l := 0) (h := 16) Try.underlying22 ty5 (.t rfl) rfl rfl (fun _ => by decide)) ?_
            refine take 3 rfl (by kernel_rfl) (by kernel_rfl) (by kernel_rfl) (by repeat first | exact sR | exact sN | apply sC | apply sS | apply sA) (Ev.sliceArr (l := 0) (h := 4) Try.underlying83 ty5 (.t rfl) rfl rfl (fun _ => by decide)) ?_
            refine all [4] (by kernel_rfl) (by decide) (.cons rfl ?_ .nil)
            refine (copyV (z := u8E.zero) Try.underlying27 ty5 (Lens.comp SHeader.l_dst SAddr.l_b) (.t rfl) (.t rfl) (by first | omega | (simp; done) | (simp; omega)) (fun w I => isSl_arr (ptsVar (by repeat first | exact mH | apply mT | apply mA) (Lens.id _) w I) (by decide) (by decide) (by decide)) (by repeat first | exact Upd.head | apply Upd.tail | apply Upd.right) ?_)
            refine heldN_of (by repeat first | exact sR | exact sN | apply sC | apply sS | apply sA) ?_
            refine over (by kernel_rfl) ?_
            refine pN ?_
            refine seq ?_
            refine region ?_
            refine cons (opv (Ev.load ty29 (.t rfl) (ptsVar (by repeat first | exact mH | apply mT | apply mA) (Lens.id _))) ?_)
            refine cons (opv (Ev.move (.t rfl)) ?_)
            refine cons (opv (Ev.conv_u16_i Try.underlying3 Try.underlying25 (.t rfl)) ?_)
            refine cons (storeV ty29 (Lens.id _) (.t rfl) (.t rfl) (by repeat first | exact Upd.head | apply Upd.tail | apply Upd.right) ?_)
            refine cons (opv (Ev.assign (.t rfl)) ?_)
            refine cons (opv (Ev.assign (.c (v := I 0) rfl)) ?_)
            refine nil ?_
            refine pN ?_
            refine ret ?_
            refine bR ?_
            refine pR ?_
            refine done rfl (.cell rfl (fun w I => run_loadVar_pts ty29 (ptsVar (by repeat first | exact mH | apply mT | apply mA) (Lens.id _) w I)) (.tmp rfl (.tmp rfl .nil))) (retE ?_)
            have n0 : ¬ b.length = 0 := by omega
            have e : frontB b = (hd4 b, ((takeB b 2 2).1.toUInt16.toNat : Int), 0) := by
              unfold frontB
              rw [if_neg n0, if_pos (show shr8 (b.getD 0 0) 4 = 4 from h1), if_neg (by omega), if_neg (fun hc => hc.elim (fun k => k h3.1) (fun k => k h3.2))]
            rw [e]
            refine congrArg (fun z => Value.tuple #[eHeader.val z, I _, I 0]) ?_
            have v1 := vecOf_toList (n := 4) (z := u8E.zero) (xs := (b.take 16).drop 12) (by simp; omega)
            have v2 := vecOf_toList (n := 4) (z := u8E.zero) (xs := (b.take 20).drop 16) (by simp; omega)
            simp [hd4, cut4, Lens.comp]
            exact ⟨⟨rfl, by rw [v1]; rfl⟩, ⟨rfl, by rw [v2]; rfl⟩, rfl, rfl, rfl⟩
    · try simp only [Bool.and_eq_true, Bool.or_eq_true, Bool.or_eq_false_iff, Bool.and_eq_false_iff, Bool.not_eq_true', Bool.not_eq_false', decide_eq_true_eq, decide_eq_false_iff_not, Decidable.not_not] at h1
      refine seq ?_
      refine region ?_
      refine cons (opv (Ev.eql_u8 (.t rfl) (.c (v := U8 6) rfl)) ?_)
      refine cons (opv (Ev.assign (.t rfl)) ?_)
      refine nil ?_
      refine pN ?_
      first | refine condD rfl (fun h4 => ?_) (fun h4 => ?_) | refine cond rfl (fun h4 => ?_) (fun h4 => ?_)
      · try simp only [Bool.and_eq_true, Bool.or_eq_true, Bool.or_eq_false_iff, Bool.and_eq_false_iff, Bool.not_eq_true', Bool.not_eq_false', decide_eq_true_eq, decide_eq_false_iff_not, Decidable.not_not] at h4
        refine seq ?_
        refine seq ?_
        refine region ?_
        refine cons (opv (Ev.move (.t rfl)) ?_)
        refine cons (opv (Ev.len Try.underlying27 (.t rfl) (by first | exact isSl_own (by repeat first | exact mH | apply mT | apply mA) | exact fun w I => IsSl.keep0 (by assumption) I.keeps)) ?_)
        refine cons (opv (Ev.lss_i (.t rfl) (.c (v := I 40) rfl)) ?_)
        refine nil ?_
        refine pN ?_
        first | refine condD rfl (fun h5 => ?_) (fun h5 => ?_) | refine cond rfl (fun h5 => ?_) (fun h5 => ?_)
        · try simp only [Bool.and_eq_true, Bool.or_eq_true, Bool.or_eq_false_iff, Bool.and_eq_false_iff, Bool.not_eq_true', Bool.not_eq_false', decide_eq_true_eq, decide_eq_false_iff_not, Decidable.not_not] at h5
          refine seq ?_
          refine region ?_
          refine cons (opv (Ev.load ty29 (.t rfl) (ptsVar (by repeat first | exact mH | apply mT | apply mA) (Lens.id _))) ?_)
          refine cons (storeV ty29 (Lens.id _) (.t rfl) (.t rfl) (by repeat first | exact Upd.head | apply Upd.tail | apply Upd.right) ?_)
          refine cons (opv (Ev.assign (.c (v := I 0) rfl)) ?_)
          refine cons (opv (Ev.assign (.c (v := I 160) rfl)) ?_)
          refine nil ?_
          refine pN ?_
          refine ret ?_
          refine pR ?_
          refine bR ?_
          refine pR ?_
          refine done rfl (.cell rfl (fun w I => run_loadVar_pts ty29 (ptsVar (by repeat first | exact mH | apply mT | apply mA) (Lens.id _) w I)) (.tmp rfl (.tmp rfl .nil))) (retE ?_)
          have n0 : ¬ b.length = 0 := by omega
          have e : frontB b = (eHeader.zero, 0, 160) := by
            unfold frontB
            rw [if_neg n0, if_neg (show ¬ shr8 (b.getD 0 0) 4 = 4 from h1), if_pos (show shr8 (b.getD 0 0) 4 = 6 from h4), if_pos (by omega)]
          rw [e]
          rfl
        · try simp only [Bool.and_eq_true, Bool.or_eq_true, Bool.or_eq_false_iff, Bool.and_eq_false_iff, Bool.not_eq_true', Bool.not_eq_false', decide_eq_true_eq, decide_eq_false_iff_not, Decidable.not_not] at h5
          refine skip ?_
          refine pN ?_
          refine seq ?_
          refine region ?_
          refine cons (opv (Ev.move (.t rfl)) ?_)
          refine cons (callv en62 (.cons (.t rfl) (.cons (.c (v := I 0) rfl) .nil)) (fun w I => take_uint32_ok _ _ _ w (by first | exact isSl_own (by repeat first | exact mH | apply mT | apply mA) w I | exact IsSl.keep0 (by assumption) I.keeps)) ?_)
          refine cons (opv (Ev.move (.t rfl)) ?_)
          refine cons (opv (Ev.extract (.t rfl) rfl) ?_)
          refine cons (opv (Ev.extract (.t rfl) rfl) ?_)
          refine cons (opv (Ev.assign (.t rfl)) ?_)
          refine cons (opv (Ev.assign (.t rfl)) ?_)
          refine nil ?_
          refine pN ?_
          refine seq ?_
          refine region ?_
          refine cons (opv (Ev.move (.t rfl)) ?_)
          refine cons (callv en61 (.cons (.t rfl) (.cons (.c (v := I 4) rfl) .nil)) (fun w I => take_uint16_ok _ _ _ w (by first | exact isSl_own (by repeat first | exact mH | apply mT | apply mA) w I | exact IsSl.keep0 (by assumption) I.keeps)) ?_)
          refine cons (opv (Ev.move (.t rfl)) ?_)
          refine cons (opv (Ev.extract (.t rfl) rfl) ?_)
          refine cons (opv (Ev.extract (.t rfl) rfl) ?_)
          refine cons (opv (Ev.assign (.t rfl)) ?_)
          refine cons (opv (Ev.assign (.t rfl)) ?_)
          refine nil ?_
          refine pN ?_
          refine seq ?_
          refine drawS 2 rfl (by repeat first | exact Rem.head | apply Rem.tail) (by kernel_rfl) ?_
          refine take 0 rfl (by kernel_rfl) (by kernel_rfl) (by kernel_rfl) (by repeat first | exact sR | exact sN | apply sC | apply sS | apply sA) (Ev.move (.t rfl)) ?_
          refine take 1 rfl (by kernel_rfl) (by kernel_rfl) (by kernel_rfl) (by repeat first | exact sR | exact sN | apply sC | apply sS | apply sA) (Ev.shr_u32 (.t rfl) (.c rfl) (fun _ => by decide)) ?_
          refine take 2 rfl (by kernel_rfl) (by kernel_rfl) (by kernel_rfl) (by repeat first | exact sR | exact sN | apply sC | apply sS | apply sA) (Ev.conv_u32_u8 Try.underlying5 Try.underlying26 (.t rfl)) ?_
          refine take 3 rfl (by kernel_rfl) (by kernel_rfl) (by kernel_rfl) (by repeat first | exact sR | exact sN | apply sC | apply sS | apply sA) (Ev.move (.t rfl)) ?_
          refine take 4 rfl (by kernel_rfl) (by kernel_rfl) (by kernel_rfl) (by repeat first | exact sR | exact sN | apply sC | apply sS | apply sA) (Ev.and_u32 (.t rfl) (.c (v := U32 1048575) rfl)) ?_
          refine take 5 rfl (by kernel_rfl) (by kernel_rfl) (by kernel_rfl) (by repeat first | exact sR | exact sN | apply sC | apply sS | apply sA) (Ev.move (.t rfl)) ?_
          refine take 6 rfl (by kernel_rfl) (by kernel_rfl) (by kernel_rfl) (by repeat first | exact sR | exact sN | apply sC | apply sS | apply sA) (Ev.indexAddr Try.underlying27 ty5 (.t rfl) (.c (v := I 6) rfl) (by first | exact isSl_own (by repeat first | exact mH | apply mT | apply mA) | exact fun w I => IsSl.keep0 (by assumption) I.keeps) (fun _ => by omega)) ?_
          refine take 7 rfl (by kernel_rfl) (by kernel_rfl) (by kernel_rfl) (by repeat first | exact sR | exact sN | apply sC | apply sS | apply sA) (Ev.loadS0 (i := 6) ty5 (.t rfl) (by first | exact isSl_own (by repeat first | exact mH | apply mT | apply mA) | exact fun w I => IsSl.keep0 (by assumption) I.keeps) (fun _ => by omega)) ?_
          refine take 8 rfl (by kernel_rfl) (by kernel_rfl) (by kernel_rfl) (by repeat first | exact sR | exact sN | apply sC | apply sS | apply sA) (Ev.move (.t rfl)) ?_
          refine take 9 rfl (by kernel_rfl) (by kernel_rfl) (by kernel_rfl) (by repeat first | exact sR | exact sN | apply sC | apply sS | apply sA) (Ev.indexAddr Try.underlying27 ty5 (.t rfl) (.c (v := I 7) rfl) (by first | exact isSl_own (by repeat first | exact mH | apply mT | apply mA) | exact fun w I => IsSl.keep0 (by assumption) I.keeps) (fun _ => by omega)) ?_
          refine take 10 rfl (by kernel_rfl) (by kernel_rfl) (by kernel_rfl) (by repeat first | exact sR | exact sN | apply sC | apply sS | apply sA) (Ev.loadS0 (i := 7) ty5 (.t rfl) (by first | exact isSl_own (by repeat first | exact mH | apply mT | apply mA) | exact fun w I => IsSl.keep0 (by assumption) I.keeps) (fun _ => by omega)) ?_
          refine take 11 rfl (by kernel_rfl) (by kernel_rfl) (by kernel_rfl) (by repeat first | exact sR | exact sN | apply sC | apply sS | apply sA) (Ev.buildS (fs := _) (places := [(0, 17), (17, 17), (34, 1), (35, 1), (36, 1), (37, 1), (38, 1), (39, 1), (40, 1), (41, 1), (42, 1)]) z29 rfl Try.underlying29 (by kernel_rfl) (.cons (.t rfl) (.cons (.t rfl) (.cons (.t rfl) (.cons (.t rfl) .nil)))) (Fills.cons SHeader.l_class_ rfl (Fills.cons SHeader.l_id rfl (Fills.cons SHeader.l_proto rfl (Fills.cons SHeader.l_tTL rfl Fills.nil))))) ?_
          refine all [12] (by kernel_rfl) (by decide) (.cons rfl ?_ .nil)
          refine (storeV ty29 (Lens.id _) (.t rfl) (.t rfl) (by repeat first | exact Upd.head | apply Upd.tail | apply Upd.right) ?_)
          refine heldN_of (by repeat first | exact sR | exact sN | apply sC | apply sS | apply sA) ?_
          refine over (by kernel_rfl) ?_
          refine pN ?_
          refine seq ?_
          refine region ?_
          refine cons (opv (Ev.move (.t rfl)) ?_)
          refine cons (opv (Ev.slice Try.underlying27 ty5 (.t rfl) (.c (v := I 8) rfl) (.c (v := I 24) rfl) (by first | exact isSl_own (by repeat first | exact mH | apply mT | apply mA) | exact fun w I => IsSl.keep0 (by assumption) I.keeps) (fun _ => by omega)) ?_)
          refine cons (opv (Ev.toArr Try.underlying22 (.t rfl) (fun w I => IsSl.sub (w := w) (by first | exact isSl_own (by repeat first | exact mH | apply mT | apply mA) w I | exact IsSl.keep0 (by assumption) I.keeps) (by omega) (by omega)) (fun _ => ⟨by decide, by first | omega | (simp; done) | (simp; omega)⟩)) ?_)
          refine cons (opv (Ev.loadArr ty22 (.t rfl) (fun w I => IsSl.sub (w := w) (by first | exact isSl_own (by repeat first | exact mH | apply mT | apply mA) w I | exact IsSl.keep0 (by assumption) I.keeps) (by omega) (by omega)) (fun _ => ⟨by decide, by first | omega | (simp; done) | (simp; omega)⟩)) ?_)
          refine cons (opv (Ev.buildS (fs := _) (places := [(0, 1), (1, 16)]) z24 rfl Try.underlying24 (by kernel_rfl) (.cons (.c (v := .bool true) rfl) (.cons (.t rfl) .nil)) (Fills.cons SAddr.l_v6 rfl (Fills.cons SAddr.l_b rfl Fills.nil))) ?_)
          refine cons (opv (Ev.fieldAddr (o := 0) (.t rfl) (by kernel_rfl)) ?_)
          refine cons (storeV ty24 SHeader.l_src (.t rfl) (.t rfl) (by repeat first | exact Upd.head | apply Upd.tail | apply Upd.right) ?_)
          refine nil ?_
          refine pN ?_
          refine seq ?_
          refine region ?_
          refine cons (opv (Ev.move (.t rfl)) ?_)
          refine cons (opv (Ev.slice Try.underlying27 ty5 (.t rfl) (.c (v := I 24) rfl) (.c (v := I 40) rfl) (by first | exact isSl_own (by repeat first | exact mH | apply mT | apply mA) | exact fun w I => IsSl.keep0 (by assumption) I.keeps) (fun _ => by omega)) ?_)
          refine cons (opv (Ev.toArr Try.underlying22 (.t rfl) (fun w I => IsSl.sub (w := w) (by first | exact isSl_own (by repeat first | exact mH | apply mT | apply mA) w I | exact IsSl.keep0 (by assumption) I.keeps) (by omega) (by omega)) (fun _ => ⟨by decide, by first | omega | (simp; done) | (simp; omega)⟩)) ?_)
          refine cons (opv (Ev.loadArr ty22 (.t rfl) (fun w I => IsSl.sub (w := w) (by first | exact isSl_own (by repeat first | exact mH | apply mT | apply mA) w I | exact IsSl.keep0 (by assumption) I.keeps) (by omega) (by omega)) (fun _ => ⟨by decide, by first | omega | (simp; done) | (simp; omega)⟩)) ?_)
          refine cons (opv (Ev.buildS (fs := _) (places := [(0, 1), (1, 16)]) z24 rfl Try.underlying24 (by kernel_rfl) (.cons (.c (v := .bool true) rfl) (.cons (.t rfl) .nil)) (Fills.cons SAddr.l_v6 rfl (Fills.cons SAddr.l_b rfl Fills.nil))) ?_)
          refine cons (opv (Ev.fieldAddr (o := 17) (.t rfl) (by kernel_rfl)) ?_)
          refine cons (storeV ty24 SHeader.l_dst (.t rfl) (.t rfl) (by repeat first | exact Upd.head | apply Upd.tail | apply Upd.right) ?_)
          refine nil ?_
          refine pN ?_
          refine seq ?_
          refine region ?_
          refine cons (opv (Ev.load ty29 (.t rfl) (ptsVar (by repeat first | exact mH | apply mT | apply mA) (Lens.id _))) ?_)
          refine cons (opv (Ev.move (.t rfl)) ?_)
          refine cons (opv (Ev.conv_u16_i Try.underlying3 Try.underlying25 (.t rfl)) ?_)
          refine cons (opv (Ev.add_i (.c (v := I 40) rfl) (.t rfl) (fun _ => by omega)) ?_)
          refine cons (storeV ty29 (Lens.id _) (.t rfl) (.t rfl) (by repeat first | exact Upd.head | apply Upd.tail | apply Upd.right) ?_)
          refine cons (opv (Ev.assign (.t rfl)) ?_)
          refine cons (opv (Ev.assign (.c (v := I 0) rfl)) ?_)
          refine nil ?_
          refine pN ?_
          refine ret ?_
          refine bR ?_
          refine pR ?_
          refine done rfl (.cell rfl (fun w I => run_loadVar_pts ty29 (ptsVar (by repeat first | exact mH | apply mT | apply mA) (Lens.id _) w I)) (.tmp rfl (.tmp rfl .nil))) (retE ?_)
          have n0 : ¬ b.length = 0 := by omega
          have e : frontB b = (hd6 b, 40 + ((takeB b 4 2).1.toUInt16.toNat : Int), 0) := by
            unfold frontB
            rw [if_neg n0, if_neg (show ¬ shr8 (b.getD 0 0) 4 = 4 from h1), if_pos (show shr8 (b.getD 0 0) 4 = 6 from h4), if_neg (by omega)]
          rw [e]
          refine congrArg (fun z => Value.tuple #[eHeader.val z, I _, I 0]) ?_
          simp [hd6, cut4, Lens.comp]
          exact ⟨rfl, rfl, rfl, rfl⟩
      · try simp only [Bool.and_eq_true, Bool.or_eq_true, Bool.or_eq_false_iff, Bool.and_eq_false_iff, Bool.not_eq_true', Bool.not_eq_false', decide_eq_true_eq, decide_eq_false_iff_not, Decidable.not_not] at h4
        refine skip ?_
        refine bN ?_
        refine pN ?_
        refine seq ?_
        refine region ?_
        refine cons (opv (Ev.load ty29 (.t rfl) (ptsVar (by repeat first | exact mH | apply mT | apply mA) (Lens.id _))) ?_)
        refine cons (storeV ty29 (Lens.id _) (.t rfl) (.t rfl) (by repeat first | exact Upd.head | apply Upd.tail | apply Upd.right) ?_)
        refine cons (opv (Ev.assign (.c (v := I 0) rfl)) ?_)
        refine cons (opv (Ev.assign (.c (v := I 161) rfl)) ?_)
        refine nil ?_
        refine pN ?_
        refine ret ?_
        refine done rfl (.cell rfl (fun w I => run_loadVar_pts ty29 (ptsVar (by repeat first | exact mH | apply mT | apply mA) (Lens.id _) w I)) (.tmp rfl (.tmp rfl .nil))) (retE ?_)
        have n0 : ¬ b.length = 0 := by omega
        have e : frontB b = (eHeader.zero, 0, 161) := by
          unfold frontB
          rw [if_neg n0, if_neg (show ¬ shr8 (b.getD 0 0) 4 = 4 from h1), if_neg (show ¬ shr8 (b.getD 0 0) 4 = 6 from h4)]
        rw [e]
        rfl
end Go.Proofs.Ytegcihhhighipaa
