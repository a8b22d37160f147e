/- conf -/
import Derived.Test.YtnoobdijbpmjkaaGreatC13
set_option linter.unusedVariables false
set_option linter.unusedSimpArgs false
namespace Go.Proofs.YtnoobdijbpmjkaaGreat
open Go Go.Gx

/-- What is wrong with a port. -/
def portE (ps : List Int) (p i : Int) : Int := if p < 0 ∨ 255 < p then 5 else if 0 < i ∧ p ≤ ps.getD (i - 1).toNat 0 then 2 else 0

theorem port1_ok (c : SConf) (ps : List Int) (b : Nat) (p i : Int) (w : World) (hc : PtsTo eConf w b 0 c) (hp : IsSl iE w c.ports.v ps) (hi : 0 ≤ i ∧ i < ps.length) : Calls Tryz.prog 38 #[I p, I i, .pointer (some ⟨b, 0, none⟩)] w (RetV w (I (portE ps p i))) := by
  have hle := hp.le
  refine enter0 26 Tryz.func38 rfl rfl (Nat.le_of_ble_eq_true rfl) ?_
  refine seq (region (cons (opv (Ev.assign (.c (v := I 0) rfl)) ?_)))
  refine nil (pN (seq (block (seq (region (cons (opv (Ev.move (.t rfl)) (cons (opv (Ev.lss_i (.t rfl) (.c (v := I 0) rfl)) ?_)))))))))
  refine cons (opv (Ev.move (.t rfl)) (cons (opg rfl rfl (Ev.move (.t rfl)) ?_)))
  refine cons (opg rfl rfl (Ev.gtr_i (.g rfl id) (.c (v := I 255) rfl)) ?_)
  refine cons (opv (Ev.pickO (.t rfl) (.c (v := .bool true) rfl) (fun {_} h => by cases h; rfl) ⟨_, rfl⟩ (by intro h1 h; first | (rw [h] <;> rfl) | (rw [h1, h] <;> rfl) | (rw [h, h1] <;> rfl) | simp_all)) ?_)
  refine cons (opv (Ev.assign (.t rfl)) (nil (pN ?_)))
  first | refine condD rfl (fun h0 => ?_) (fun h0 => ?_) | refine cond rfl (fun h0 => ?_) (fun h0 => ?_)
  · try simp only [nb] at h0
    refine seq (region (cons (opv (Ev.assign (.c (v := I 5) rfl)) ?_)))
    refine nil (pN (ret (bR (pR (done rfl (.tmp rfl .nil) (retE ?_))))))
    unfold portE; rw [if_pos (by simpa using h0)]; rfl
  · try simp only [nb] at h0
    refine seq (region (cons (opv (Ev.move (.t rfl)) (cons (opv (Ev.gtr_i (.t rfl) (.c (v := I 0) rfl)) ?_)))))
    refine cons (opv (Ev.move (.t rfl)) (cons (opg rfl rfl (Ev.move (.t rfl)) ?_)))
    refine cons (opg rfl rfl (Ev.fieldAddr (o := 0) (.t rfl) (by kernel_rfl)) ?_)
    refine cons (opg rfl rfl (Ev.load ty22 (.g rfl id) (ptsL (fun w I => hc.keep I.keeps) SConf.l_ports)) ?_)
    refine cons (opg rfl rfl (Ev.move (.t rfl)) ?_)
    refine cons (opg rfl rfl (Ev.sub_i (.g rfl id) (.c (v := I 1) rfl) (fun _ => by first | omega | (rename_i hg; simp at hg; omega))) ?_)
    refine cons (opg rfl rfl (Ev.indexAddr Tryz.underlying22 ty3 (.g rfl id) (.g rfl id) (fun w I => hp.keep0 I.keeps) (fun _ => by first | omega | (rename_i hg; simp at hg; omega))) ?_)
    refine cons (opg rfl rfl (Ev.loadS0 ty3 (.g rfl id) (fun w I => hp.keep0 I.keeps) (fun _ => by first | omega | (rename_i hg; simp at hg; omega))) ?_)
    refine cons (opg rfl rfl (Ev.leq_i (.g rfl id) (.g rfl id)) ?_)
    refine cons (opv (Ev.pickA (.t rfl) (fun {_} h => by cases h; rfl) ⟨_, rfl⟩ (by intro h1 h; first | (rw [h] <;> rfl) | (rw [h1, h] <;> rfl) | (rw [h, h1] <;> rfl) | simp_all) (.c (v := .bool false) rfl)) ?_)
    refine cons (opv (Ev.assign (.t rfl)) (nil (pN ?_)))
    first | refine condD rfl (fun h1 => ?_) (fun h1 => ?_) | refine cond rfl (fun h1 => ?_) (fun h1 => ?_)
    · try simp only [nb] at h1
      refine seq (region (cons (opv (Ev.assign (.c (v := I 2) rfl)) ?_)))
      refine nil (pN (ret (bR (pR (done rfl (.tmp rfl .nil) (retE ?_))))))
      unfold portE; rw [if_neg (by omega), if_pos ⟨h1.1, h1.2⟩]; rfl
    · try simp only [nb] at h1
      refine skip (bN (pN (seq (region (cons (opv (Ev.assign (.c (v := I 0) rfl)) ?_))))))
      refine nil (pN (ret (done rfl (.tmp rfl .nil) (retE ?_))))
      unfold portE; rw [if_neg (by omega), if_neg (fun hh => h1.elim (fun e => e hh.1) (fun e => e hh.2))]; rfl
end Go.Proofs.YtnoobdijbpmjkaaGreat
