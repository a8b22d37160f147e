/- conf -/
import Derived.Test.YtnoobdijbpmjkaaGreatC10
set_option linter.unusedVariables false
set_option linter.unusedSimpArgs false
namespace Go.Proofs.YtnoobdijbpmjkaaGreat
open Go Go.Gx

/-- What is wrong with a meter. -/
def meterE (l : CL) (m : SMeterConf) (i : Int) : Int := if nameB m.name = false then 201 else if (findV eqs m.name (metersM l)).getD 0 < i ∨ ckB m.bucket ≠ 0 then 2 else 0

theorem en116 : Gx.Enters Tryz.prog 116 := Gx.Enters.mk' (by kernel_rfl)

theorem ty82 : TyOK Tryz.prog 82 (ovE nilMap) := TyOK.mk' (by kernel_rfl) (by kernel_rfl)

theorem en118 : Gx.Enters Tryz.prog 118 := Gx.Enters.mk' (by kernel_rfl)

theorem meter_ok (k : KB) (l : CL) (m : SMeterConf) (i : Int) (w : World) (hk : KnownAt w k l) (hs : m.name.size ≤ 9223372036854775807) : Calls Tryz.prog 44 #[eConfKnown.val k.k, eMeterConf.val m, I i] w (RetV w (I (meterE l m i))) := by
  refine enter0 24 Tryz.func44 rfl rfl (Nat.le_of_ble_eq_true rfl) ?_
  refine seq (region (cons (box (E := eConfKnown) (.t rfl) (fun b1 => ?_))))
  refine cons (box (E := eMeterConf) (.t rfl) (fun b2 => ?_))
  refine cons (opv (Ev.assign (.c (v := I 0) rfl)) ?_)
  refine nil (pN (seq (block (seq (region (cons (opv (Ev.fieldAddr (o := 0) (.t rfl) (by kernel_rfl)) ?_)))))))
  refine cons (opv (Ev.load (xv := m.name) ty9 (.t rfl) (ptsVar (by repeat first | exact mH | apply mT | apply mA) SMeterConf.l_name)) ?_)
  refine cons (callv en116 (.cons (.t rfl) .nil) (fun w I => name_ok _ w hs) ?_)
  refine cons (opv (Ev.not (.t rfl)) ?_)
  refine cons (opv (Ev.assign (.t rfl)) (nil (pN ?_)))
  first | refine condD rfl (fun h0 => ?_) (fun h0 => ?_) | refine cond rfl (fun h0 => ?_) (fun h0 => ?_)
  · try simp only [nb] at h0
    refine seq (region (cons (opv (Ev.assign (.c (v := I 201) rfl)) ?_)))
    refine nil (pN (ret (bR (pR (done rfl (.tmp rfl .nil) (retE ?_))))))
    unfold meterE; first | (rw [if_pos (by simpa using h0)]; rfl) | (rw [if_neg (by simpa using h0), if_pos (by first | exact .inl (by simpa using h1) | exact .inr (by simpa using h2))]; rfl) | (rw [if_neg (by simpa using h0), if_neg (by simp_all; done)]; rfl)
  · try simp only [nb] at h0
    refine seq (seq (region (cons (opv (Ev.fieldAddr (o := 3) (.t rfl) (by kernel_rfl)) ?_))))
    refine cons (opv (Ev.ldv ty82 (.t rfl) SConfKnown.l_meters) ?_)
    refine cons (opv (Ev.fieldAddr (o := 0) (.t rfl) (by kernel_rfl)) ?_)
    refine cons (opv (Ev.load (xv := m.name) ty9 (.t rfl) (ptsVar (by repeat first | exact mH | apply mT | apply mA) SMeterConf.l_name)) ?_)
    refine cons (opv (Ev.lookupF Tryz.underlying82 Tryz.underlying9 key9 z3 (.t rfl) (.t rfl) (fun _ => (fun w I => hk.ms.keep0 I.keeps))) ?_)
    refine cons (opv (Ev.move (.t rfl)) (cons (opv (Ev.lss_i (.t rfl) (.t rfl)) ?_)))
    refine cons (opv (Ev.assign (.t rfl)) (nil (pN ?_)))
    first | refine condD rfl (fun h1 => ?_) (fun h1 => ?_) | refine cond rfl (fun h1 => ?_) (fun h1 => ?_)
    · try simp only [nb] at h1
      refine skip (pN ?_)
      first | refine condD rfl (fun h2 => ?_) (fun h2 => ?_) | refine cond rfl (fun h2 => ?_) (fun h2 => ?_)
      · try simp only [nb] at h2
        refine seq (region (cons (opv (Ev.assign (.c (v := I 2) rfl)) ?_)))
        refine nil (pN (ret (bR (pR (done rfl (.tmp rfl .nil) (retE ?_))))))
        unfold meterE; first | (rw [if_pos (by simpa using h0)]; rfl) | (rw [if_neg (by simpa using h0), if_pos (by first | exact .inl (by simpa using h1) | exact .inr (by simpa using h2))]; rfl) | (rw [if_neg (by simpa using h0), if_neg (by simp_all; done)]; rfl)
      · try simp only [nb] at h2
        refine skip (bN (pN (seq (region (cons (opv (Ev.assign (.c (v := I 0) rfl)) ?_))))))
        refine nil (pN (ret (done rfl (.tmp rfl .nil) (retE ?_))))
        unfold meterE; first | (rw [if_pos (by simpa using h0)]; rfl) | (rw [if_neg (by simpa using h0), if_pos (by first | exact .inl (by simpa using h1) | exact .inr (by simpa using h2))]; rfl) | (rw [if_neg (by simpa using h0), if_neg (by simp_all; done)]; rfl)
    · try simp only [nb] at h1
      refine region (cons (opv (Ev.fieldAddr (o := 1) (.t rfl) (by kernel_rfl)) ?_))
      refine cons (opv (Ev.load (xv := m.bucket) ty55 (.t rfl) (ptsVar (by repeat first | exact mH | apply mT | apply mA) SMeterConf.l_bucket)) ?_)
      refine cons (callv en118 (.cons (.t rfl) .nil) (fun w I => bucket_ok _ w) ?_)
      refine cons (opv (Ev.neq_i (.t rfl) (.c (v := I 0) rfl)) ?_)
      refine cons (opv (Ev.assign (.t rfl)) (nil (pN ?_)))
      first | refine condD rfl (fun h2 => ?_) (fun h2 => ?_) | refine cond rfl (fun h2 => ?_) (fun h2 => ?_)
      · try simp only [nb] at h2
        refine seq (region (cons (opv (Ev.assign (.c (v := I 2) rfl)) ?_)))
        refine nil (pN (ret (bR (pR (done rfl (.tmp rfl .nil) (retE ?_))))))
        unfold meterE; first | (rw [if_pos (by simpa using h0)]; rfl) | (rw [if_neg (by simpa using h0), if_pos (by first | exact .inl (by simpa using h1) | exact .inr (by simpa using h2))]; rfl) | (rw [if_neg (by simpa using h0), if_neg (by simp_all; done)]; rfl)
      · try simp only [nb] at h2
        refine skip (bN (pN (seq (region (cons (opv (Ev.assign (.c (v := I 0) rfl)) ?_))))))
        refine nil (pN (ret (done rfl (.tmp rfl .nil) (retE ?_))))
        unfold meterE; first | (rw [if_pos (by simpa using h0)]; rfl) | (rw [if_neg (by simpa using h0), if_pos (by first | exact .inl (by simpa using h1) | exact .inr (by simpa using h2))]; rfl) | (rw [if_neg (by simpa using h0), if_neg (by simp_all; done)]; rfl)
end Go.Proofs.YtnoobdijbpmjkaaGreat
