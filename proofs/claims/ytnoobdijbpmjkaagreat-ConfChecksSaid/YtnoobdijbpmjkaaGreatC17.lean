/- conf -/
import Derived.Test.YtnoobdijbpmjkaaGreatC16
import Derived.Test.YtnoobdijbpmjkaaGreatGxV
set_option linter.unusedVariables false
set_option linter.unusedSimpArgs false
namespace Go.Proofs.YtnoobdijbpmjkaaGreat
open Go Go.Gx

def inM (m : List (ByteArray × Int)) (s : ByteArray) : Bool := (findV eqs s m).isSome
/-- Is a rule's port none that it may have? -/
def ruleO (l : CL) (r : SRule) : Bool := if r.action = 3 then !portB l r.out else decide (¬ r.out = 0)
/-- What is wrong with a rule. -/
def ruleE (l : CL) (r : SRule) (i : Int) : Int := if nameB r.name = false then 201 else if (findV eqs r.name (rulesM l)).getD 0 < i then 2 else if okM r.match_ = false then 190 else if r.action < 1 ∨ 4 < r.action then 2 else if ruleO l r = true then 5
  else if (r.meter ≠ ⟨#[]⟩ ∧ inM (metersM l) r.meter = false) ∨ (r.mirror ≠ ⟨#[]⟩ ∧ inM (mirrorsM l) r.mirror = false) then 210 else 0
/-- May a mirror have that room? -/
def roomB (n : Int) : Bool := decide (2 ≤ n ∧ n ≤ 1024 ∧ n.toNat &&& (n.toNat - 1) = 0)
def mirrorE (l : CL) (m : SMirrorConf) (i : Int) : Int := if nameB m.name = false then 201 else if (findV eqs m.name (mirrorsM l)).getD 0 < i then 2 else if portB l m.out = false then 5 else if roomB m.room = false then 2 else 0

theorem mirror_ok (k : KB) (l : CL) (m : SMirrorConf) (i : Int) (w : World) (hk : KnownAt w k l) (hs : m.name.size ≤ 9223372036854775807) : Calls Tryz.prog 46 #[eConfKnown.val k.k, eMirrorConf.val m, I i] w (RetV w (I (mirrorE l m i))) := by
  refine enter0 44 Tryz.func46 rfl rfl (Nat.le_of_ble_eq_true rfl) ?_
  refine seq (region (cons (box (E := eConfKnown) (.t rfl) (fun b1 => ?_))))
  refine cons (box (E := eMirrorConf) (.t rfl) (fun b2 => ?_))
  refine cons (opv (Ev.assign (.c (v := I 0) rfl)) ?_)
  refine nil (pN (seq (block (seq (region (cons (opv (Ev.fieldAddr (o := 0) (.t rfl) (by kernel_rfl)) ?_)))))))
  refine cons (opv (Ev.load (xv := m.name) ty9 (.t rfl) (ptsVar (by repeat first | exact mH | apply mT | apply mA) SMirrorConf.l_name)) ?_)
  refine cons (callv en116 (.cons (.t rfl) .nil) (fun w I => name_ok _ w hs) ?_)
  refine cons (opv (Ev.not (.t rfl)) ?_)
  refine cons (opv (Ev.assign (.t rfl)) (nil (pN ?_)))
  first | refine condD rfl (fun h0 => ?_) (fun h0 => ?_) | refine cond rfl (fun h0 => ?_) (fun h0 => ?_)
  · try simp only [nb] at h0
    refine seq (region (cons (opv (Ev.assign (.c (v := I 201) rfl)) ?_)))
    refine nil (pN (ret (bR (pR (done rfl (.tmp rfl .nil) (retE ?_))))))
    unfold mirrorE; rw [if_pos (by simpa using h0)]; rfl
  · try simp only [nb] at h0
    refine seq (region (cons (opv (Ev.fieldAddr (o := 4) (.t rfl) (by kernel_rfl)) ?_)))
    refine cons (opv (Ev.ldv ty82 (.t rfl) SConfKnown.l_mirrors) ?_)
    refine cons (opv (Ev.fieldAddr (o := 0) (.t rfl) (by kernel_rfl)) ?_)
    refine cons (opv (Ev.load (xv := m.name) ty9 (.t rfl) (ptsVar (by repeat first | exact mH | apply mT | apply mA) SMirrorConf.l_name)) ?_)
    refine cons (opv (Ev.lookupF Tryz.underlying82 Tryz.underlying9 key9 z3 (.t rfl) (.t rfl) (fun _ => (fun w I => hk.xs.keep0 I.keeps))) ?_)
    refine cons (opv (Ev.move (.t rfl)) (cons (opv (Ev.lss_i (.t rfl) (.t rfl)) ?_)))
    refine cons (opv (Ev.assign (.t rfl)) (nil (pN ?_)))
    first | refine condD rfl (fun h1 => ?_) (fun h1 => ?_) | refine cond rfl (fun h1 => ?_) (fun h1 => ?_)
    · try simp only [nb] at h1
      refine seq (region (cons (opv (Ev.assign (.c (v := I 2) rfl)) ?_)))
      refine nil (pN (ret (bR (pR (done rfl (.tmp rfl .nil) (retE ?_))))))
      unfold mirrorE; rw [if_neg (by simpa using h0), if_pos (by simpa using h1)]; rfl
    · try simp only [nb] at h1
      refine seq (region (cons (opv (Ev.ldv ty84 (.t rfl) (Lens.id _)) ?_)))
      refine cons (opv (Ev.fieldAddr (o := 1) (.t rfl) (by kernel_rfl)) ?_)
      refine cons (opv (Ev.load (xv := m.out) ty3 (.t rfl) (ptsVar (by repeat first | exact mH | apply mT | apply mA) SMirrorConf.l_out)) ?_)
      refine cons (callv en115 (.cons (.t rfl) (.cons (.t rfl) .nil)) (fun w I => port_ok _ l _ w (hk.keep0 I.keeps)) ?_)
      refine cons (opv (Ev.not (.t rfl)) ?_)
      refine cons (opv (Ev.assign (.t rfl)) (nil (pN ?_)))
      first | refine condD rfl (fun h2 => ?_) (fun h2 => ?_) | refine cond rfl (fun h2 => ?_) (fun h2 => ?_)
      · try simp only [nb] at h2
        refine seq (region (cons (opv (Ev.assign (.c (v := I 5) rfl)) ?_)))
        refine nil (pN (ret (bR (pR (done rfl (.tmp rfl .nil) (retE ?_))))))
        unfold mirrorE; rw [if_neg (by simpa using h0), if_neg (by simpa using h1), if_pos (by simpa using h2)]; rfl
      · try simp only [nb] at h2
        refine seq (region (cons (opv (Ev.fieldAddr (o := 2) (.t rfl) (by kernel_rfl)) ?_)))
        refine cons (opv (Ev.load (xv := m.room) ty3 (.t rfl) (ptsVar (by repeat first | exact mH | apply mT | apply mA) SMirrorConf.l_room)) ?_)
        refine cons (opv (Ev.lss_i (.t rfl) (.c (v := I 2) rfl)) ?_)
        refine cons (opv (Ev.move (.t rfl)) (cons (opg rfl rfl (Ev.fieldAddr (o := 2) (.t rfl) (by kernel_rfl)) ?_)))
        refine cons (opg rfl rfl (Ev.load (xv := m.room) ty3 (.g rfl id) (ptsVar (by repeat first | exact mH | apply mT | apply mA) SMirrorConf.l_room)) ?_)
        refine cons (opg rfl rfl (Ev.gtr_i (.g rfl id) (.c (v := I 1024) rfl)) ?_)
        refine cons (opv (Ev.pickO (.t rfl) (.c (v := .bool true) rfl) (fun {_} h => by cases h; rfl) ⟨_, rfl⟩ (by intro h1 h; first | (rw [h] <;> rfl) | (rw [h1, h] <;> rfl) | (rw [h, h1] <;> rfl) | simp_all)) ?_)
        refine cons (opv (Ev.move (.t rfl)) (cons (opg rfl rfl (Ev.fieldAddr (o := 2) (.t rfl) (by kernel_rfl)) ?_)))
        refine cons (opg rfl rfl (Ev.load (xv := m.room) ty3 (.g rfl id) (ptsVar (by repeat first | exact mH | apply mT | apply mA) SMirrorConf.l_room)) ?_)
        refine cons (opg rfl rfl (Ev.fieldAddr (o := 2) (.t rfl) (by kernel_rfl)) ?_)
        refine cons (opg rfl rfl (Ev.load (xv := m.room) ty3 (.g rfl id) (ptsVar (by repeat first | exact mH | apply mT | apply mA) SMirrorConf.l_room)) ?_)
        refine cons (opg rfl rfl (Ev.sub_i (.g rfl id) (.c (v := I 1) rfl) (fun _ => by first | omega | (rename_i hg; simp at hg; omega))) ?_)
        refine cons (opg rfl rfl (Ev.and_n (.g rfl id) (.g rfl id) (fun hg => by simp at hg; omega) (fun hg => by simp at hg; omega)) ?_)
        refine cons (opg rfl rfl (Ev.neq_i (.g rfl id) (.c (v := I 0) rfl)) ?_)
        refine cons (opv (Ev.pickO (.t rfl) (.c (v := .bool true) rfl) (fun {_} h => by cases h; rfl) ⟨_, rfl⟩ (by intro h1 h; first | (rw [h] <;> rfl) | (rw [h1, h] <;> rfl) | (rw [h, h1] <;> rfl) | simp_all)) ?_)
        refine cons (opv (Ev.assign (.t rfl)) (nil (pN ?_)))
        first | refine condD rfl (fun h3 => ?_) (fun h3 => ?_) | refine cond rfl (fun h3 => ?_) (fun h3 => ?_)
        · refine seq (region (cons (opv (Ev.assign (.c (v := I 2) rfl)) ?_)))
          refine nil (pN (ret (bR (pR (done rfl (.tmp rfl .nil) (retE ?_))))))
          have hr : roomB m.room = false := by
            unfold roomB
            simp at h3 ⊢
            intro h1 h2
            rcases h3 with (h3 | h3) | h3
            · omega
            · omega
            · exact h3
          unfold mirrorE; rw [if_neg (by simpa using h0), if_neg (by simpa using h1), if_neg (by simpa using h2), if_pos hr]; rfl
        · refine skip (bN (pN (seq (region (cons (opv (Ev.assign (.c (v := I 0) rfl)) ?_))))))
          refine nil (pN (ret (done rfl (.tmp rfl .nil) (retE ?_))))
          have hr : roomB m.room = true := by
            unfold roomB
            simp at h3 ⊢
            exact ⟨h3.1.1, h3.1.2, h3.2⟩
          unfold mirrorE; rw [if_neg (by simpa using h0), if_neg (by simpa using h1), if_neg (by simpa using h2), if_neg (by rw [hr]; simp)]; rfl

theorem en117 : Gx.Enters Tryz.prog 117 := Gx.Enters.mk' (by kernel_rfl)

theorem rule_ok (k : KB) (l : CL) (r : SRule) (i : Int) (w : World) (hk : KnownAt w k l) (hs : r.name.size ≤ 9223372036854775807) : Calls Tryz.prog 42 #[eConfKnown.val k.k, eRule.val r, I i] w (RetV w (I (ruleE l r i))) := by
  refine enter0 83 Tryz.func42 rfl rfl (Nat.le_of_ble_eq_true rfl) ?_
  refine seq (region (cons (box (E := eConfKnown) (.t rfl) (fun b1 => ?_))))
  refine cons (box (E := eRule) (.t rfl) (fun b2 => ?_))
  refine cons (opv (Ev.assign (.c (v := I 0) rfl)) ?_)
  refine nil (pN (seq (region (cons (opv (Ev.fieldAddr (o := 46) (.t rfl) (by kernel_rfl)) ?_)))))
  refine cons (opv (Ev.load (xv := r.out) ty3 (.t rfl) (ptsVar (by repeat first | exact mH | apply mT | apply mA) SRule.l_out)) ?_)
  refine cons (opv (Ev.eql_i (.t rfl) (.c (v := I 0) rfl)) ?_)
  refine cons (opv (Ev.assign (.t rfl)) (nil (pN (cut (X := Bool) (fun x : Bool => ((!x) = ruleO l r)) (fun x : Bool => [(2, true, I i), (3, true, .pointer (some ⟨b1, 0, none⟩)), (4, true, .pointer (some ⟨b2, 0, none⟩)), (7, true, .bool x)]) (fun x : Bool => [Var b2 eRule r 76, Var b1 eConfKnown k.k 84]) ?_ (fun x hx => ?_)))))
  · refine seq (region (cons (opv (Ev.fieldAddr (o := 45) (.t rfl) (by kernel_rfl)) ?_)))
    refine cons (opv (Ev.load (xv := r.action) ty3 (.t rfl) (ptsVar (by repeat first | exact mH | apply mT | apply mA) SRule.l_action)) ?_)
    refine cons (opv (Ev.eql_i (.t rfl) (.c (v := I 3) rfl)) ?_)
    refine nil (pN ?_)
    first | refine condD rfl (fun h0 => ?_) (fun h0 => ?_) | refine cond rfl (fun h0 => ?_) (fun h0 => ?_)
    · refine region (cons (opv (Ev.ldv ty84 (.t rfl) (Lens.id _)) ?_))
      refine cons (opv (Ev.fieldAddr (o := 46) (.t rfl) (by kernel_rfl)) ?_)
      refine cons (opv (Ev.load (xv := r.out) ty3 (.t rfl) (ptsVar (by repeat first | exact mH | apply mT | apply mA) SRule.l_out)) ?_)
      refine cons (callv en115 (.cons (.t rfl) (.cons (.t rfl) .nil)) (fun w I => port_ok _ l _ w (hk.keep0 I.keeps)) ?_)
      refine cons (opv (Ev.assign (.t rfl)) (nil (pN (meet (X := Bool) (_) ?_ (by repeat first | exact Sub.nil | refine Sub.cons rfl ?_) (by repeat first | exact sR | exact sN | apply sC | apply sS | apply sA)))))
      · try dsimp only
        unfold ruleO; simp_all
    · refine skip (pN (meet (X := Bool) (_) ?_ (by repeat first | exact Sub.nil | refine Sub.cons rfl ?_) (by repeat first | exact sR | exact sN | apply sC | apply sS | apply sA)))
      · try dsimp only
        unfold ruleO; simp_all
  obtain ⟨out, rfl⟩ : ∃ y, y = x := ⟨x, rfl⟩
  have hout : (!out) = ruleO l r := hx
  clear hx
  show Sat _ _ [(2, true, I i), (3, true, .pointer (some ⟨b1, 0, none⟩)), (4, true, .pointer (some ⟨b2, 0, none⟩)), (7, true, .bool out)] [Var b2 eRule r 76, Var b1 eConfKnown k.k 84]
  refine seq (region (cons (opv (Ev.fieldAddr (o := 3) (.t rfl) (by kernel_rfl)) ?_)))
  refine cons (opv (Ev.ldv ty82 (.t rfl) SConfKnown.l_meters) ?_)
  refine cons (opv (Ev.fieldAddr (o := 47) (.t rfl) (by kernel_rfl)) ?_)
  refine cons (opv (Ev.load (xv := r.meter) ty9 (.t rfl) (ptsVar (by repeat first | exact mH | apply mT | apply mA) SRule.l_meter)) ?_)
  refine cons (opv (Ev.lookupT Tryz.underlying82 Tryz.underlying9 key9 z3 (.t rfl) (.t rfl) (fun _ => (fun w I => hk.ms.keep0 I.keeps))) ?_)
  refine cons (opv (Ev.move (.t rfl)) (cons (opv (Ev.extract (.t rfl) rfl) (cons (opv (Ev.extract (.t rfl) rfl) (cons (opv (Ev.assign (.t rfl)) (cons (opv (Ev.assign (.t rfl)) (nil (pN (seq (region (cons (opv (Ev.fieldAddr (o := 4) (.t rfl) (by kernel_rfl)) ?_)))))))))))))))
  refine cons (opv (Ev.ldv ty82 (.t rfl) SConfKnown.l_mirrors) ?_)
  refine cons (opv (Ev.fieldAddr (o := 48) (.t rfl) (by kernel_rfl)) ?_)
  refine cons (opv (Ev.load (xv := r.mirror) ty9 (.t rfl) (ptsVar (by repeat first | exact mH | apply mT | apply mA) SRule.l_mirror)) ?_)
  refine cons (opv (Ev.lookupT Tryz.underlying82 Tryz.underlying9 key9 z3 (.t rfl) (.t rfl) (fun _ => (fun w I => hk.xs.keep0 I.keeps))) ?_)
  refine cons (opv (Ev.move (.t rfl)) (cons (opv (Ev.extract (.t rfl) rfl) (cons (opv (Ev.extract (.t rfl) rfl) (cons (opv (Ev.assign (.t rfl)) (cons (opv (Ev.assign (.t rfl)) (nil (pN (seq (block (seq (region (cons (opv (Ev.fieldAddr (o := 0) (.t rfl) (by kernel_rfl)) ?_)))))))))))))))))
  refine cons (opv (Ev.load (xv := r.name) ty9 (.t rfl) (ptsVar (by repeat first | exact mH | apply mT | apply mA) SRule.l_name)) ?_)
  refine cons (callv en116 (.cons (.t rfl) .nil) (fun w I => name_ok _ w hs) ?_)
  refine cons (opv (Ev.not (.t rfl)) ?_)
  refine cons (opv (Ev.assign (.t rfl)) (nil (pN ?_)))
  first | refine condD rfl (fun h1 => ?_) (fun h1 => ?_) | refine cond rfl (fun h1 => ?_) (fun h1 => ?_)
  · refine seq (region (cons (opv (Ev.assign (.c (v := I 201) rfl)) ?_)))
    refine nil (pN (ret (bR (pR (done rfl (.tmp rfl .nil) (retE ?_))))))
    have p1 : nameB r.name = false := by simpa using h1
    unfold ruleE
    rw [if_pos p1]
    rfl
  · refine seq (region (cons (opv (Ev.fieldAddr (o := 2) (.t rfl) (by kernel_rfl)) ?_)))
    refine cons (opv (Ev.ldv ty82 (.t rfl) SConfKnown.l_rules) ?_)
    refine cons (opv (Ev.fieldAddr (o := 0) (.t rfl) (by kernel_rfl)) ?_)
    refine cons (opv (Ev.load (xv := r.name) ty9 (.t rfl) (ptsVar (by repeat first | exact mH | apply mT | apply mA) SRule.l_name)) ?_)
    refine cons (opv (Ev.lookupF Tryz.underlying82 Tryz.underlying9 key9 z3 (.t rfl) (.t rfl) (fun _ => (fun w I => hk.us.keep0 I.keeps))) ?_)
    refine cons (opv (Ev.move (.t rfl)) (cons (opv (Ev.lss_i (.t rfl) (.t rfl)) ?_)))
    refine cons (opv (Ev.assign (.t rfl)) (nil (pN ?_)))
    first | refine condD rfl (fun h2 => ?_) (fun h2 => ?_) | refine cond rfl (fun h2 => ?_) (fun h2 => ?_)
    · refine seq (region (cons (opv (Ev.assign (.c (v := I 2) rfl)) ?_)))
      refine nil (pN (ret (bR (pR (done rfl (.tmp rfl .nil) (retE ?_))))))
      have n1 : ¬ (nameB r.name = false) := by simpa using h1
      have p2 : (findV eqs r.name (rulesM l)).getD 0 < i := by simpa using h2
      unfold ruleE
      rw [if_neg n1, if_pos p2]
      rfl
    · refine seq (region (cons (opv (Ev.fieldAddr (o := 1) (.t rfl) (by kernel_rfl)) ?_)))
      refine cons (opv (Ev.load (xv := r.match_) ty74 (.t rfl) (ptsVar (by repeat first | exact mH | apply mT | apply mA) SRule.l_match_)) ?_)
      refine cons (callv en117 (.cons (.t rfl) .nil) (fun w I => check_ok _ w) ?_)
      refine cons (opv (Ev.neq_i (.t rfl) (.c (v := I 0) rfl)) ?_)
      refine cons (opv (Ev.assign (.t rfl)) (nil (pN ?_)))
      first | refine condD rfl (fun h3 => ?_) (fun h3 => ?_) | refine cond rfl (fun h3 => ?_) (fun h3 => ?_)
      · refine seq (region (cons (opv (Ev.assign (.c (v := I 190) rfl)) ?_)))
        refine nil (pN (ret (bR (pR (done rfl (.tmp rfl .nil) (retE ?_))))))
        have n1 : ¬ (nameB r.name = false) := by simpa using h1
        have n2 : ¬ ((findV eqs r.name (rulesM l)).getD 0 < i) := by simpa using h2
        have p3 : okM r.match_ = false := by
          have h3c : decide (ckM r.match_ = 0) = false := by simpa using h3
          rwa [ckM_zero] at h3c
        unfold ruleE
        rw [if_neg n1, if_neg n2, if_pos p3]
        rfl
      · refine seq (region (cons (opv (Ev.fieldAddr (o := 45) (.t rfl) (by kernel_rfl)) ?_)))
        refine cons (opv (Ev.load (xv := r.action) ty3 (.t rfl) (ptsVar (by repeat first | exact mH | apply mT | apply mA) SRule.l_action)) ?_)
        refine cons (opv (Ev.lss_i (.t rfl) (.c (v := I 1) rfl)) ?_)
        refine cons (opv (Ev.move (.t rfl)) (cons (opg rfl rfl (Ev.fieldAddr (o := 45) (.t rfl) (by kernel_rfl)) ?_)))
        refine cons (opg rfl rfl (Ev.load (xv := r.action) ty3 (.g rfl id) (ptsVar (by repeat first | exact mH | apply mT | apply mA) SRule.l_action)) ?_)
        refine cons (opg rfl rfl (Ev.gtr_i (.g rfl id) (.c (v := I 4) rfl)) ?_)
        refine cons (opv (Ev.pickO (.t rfl) (.c (v := .bool true) rfl) (fun {_} h => by cases h; rfl) ⟨_, rfl⟩ (by intro h1 h; first | (rw [h] <;> rfl) | (rw [h1, h] <;> rfl) | (rw [h, h1] <;> rfl) | simp_all)) ?_)
        refine cons (opv (Ev.assign (.t rfl)) (nil (pN ?_)))
        first | refine condD rfl (fun h4 => ?_) (fun h4 => ?_) | refine cond rfl (fun h4 => ?_) (fun h4 => ?_)
        · refine seq (region (cons (opv (Ev.assign (.c (v := I 2) rfl)) ?_)))
          refine nil (pN (ret (bR (pR (done rfl (.tmp rfl .nil) (retE ?_))))))
          have n1 : ¬ (nameB r.name = false) := by simpa using h1
          have n2 : ¬ ((findV eqs r.name (rulesM l)).getD 0 < i) := by simpa using h2
          have n3 : ¬ okM r.match_ = false := by
            have h3c : decide (ckM r.match_ = 0) = true := by simpa using h3
            rw [ckM_zero] at h3c
            rw [h3c]; simp
          have p4 : r.action < 1 ∨ 4 < r.action := by simpa using h4
          unfold ruleE
          rw [if_neg n1, if_neg n2, if_neg n3, if_pos p4]
          rfl
        · refine seq (region (cons (opv (Ev.move (.t rfl)) (cons (opv (Ev.not (.t rfl)) ?_)))))
          refine cons (opv (Ev.assign (.t rfl)) (nil (pN ?_)))
          first | refine condD rfl (fun h5 => ?_) (fun h5 => ?_) | refine cond rfl (fun h5 => ?_) (fun h5 => ?_)
          · refine seq (region (cons (opv (Ev.assign (.c (v := I 5) rfl)) ?_)))
            refine nil (pN (ret (bR (pR (done rfl (.tmp rfl .nil) (retE ?_))))))
            have n1 : ¬ (nameB r.name = false) := by simpa using h1
            have n2 : ¬ ((findV eqs r.name (rulesM l)).getD 0 < i) := by simpa using h2
            have n3 : ¬ okM r.match_ = false := by
              have h3c : decide (ckM r.match_ = 0) = true := by simpa using h3
              rw [ckM_zero] at h3c
              rw [h3c]; simp
            have n4 : ¬ (r.action < 1 ∨ 4 < r.action) := by simpa using h4
            have p5 : ruleO l r = true := by
              rw [← hout]; simpa using h5
            unfold ruleE
            rw [if_neg n1, if_neg n2, if_neg n3, if_neg n4, if_pos p5]
            rfl
          · refine seq (seq (region (cons (opv (Ev.fieldAddr (o := 47) (.t rfl) (by kernel_rfl)) ?_))))
            refine cons (opv (Ev.load (xv := r.meter) ty9 (.t rfl) (ptsVar (by repeat first | exact mH | apply mT | apply mA) SRule.l_meter)) ?_)
            refine cons (opv (Ev.neq_s (.t rfl) (.c (v := (Go.Value.string (ByteArray.mk #[]))) rfl)) ?_)
            refine cons (opv (Ev.move (.t rfl)) (cons (opg rfl rfl (Ev.move (.t rfl)) ?_)))
            refine cons (opg rfl rfl (Ev.not (.g rfl id)) ?_)
            refine cons (opv (Ev.pickA (.t rfl) (fun {_} h => by cases h; rfl) ⟨_, rfl⟩ (by intro h1 h; first | (rw [h] <;> rfl) | (rw [h1, h] <;> rfl) | (rw [h, h1] <;> rfl) | simp_all) (.c (v := .bool false) rfl)) ?_)
            refine cons (opv (Ev.assign (.t rfl)) (nil (pN ?_)))
            first | refine condD rfl (fun h6 => ?_) (fun h6 => ?_) | refine cond rfl (fun h6 => ?_) (fun h6 => ?_)
            · refine skip (pN ?_)
              first | refine condD rfl (fun h7 => ?_) (fun h7 => ?_) | refine cond rfl (fun h7 => ?_) (fun h7 => ?_)
              · refine seq (region (cons (opv (Ev.assign (.c (v := I 210) rfl)) ?_)))
                refine nil (pN (ret (bR (pR (done rfl (.tmp rfl .nil) (retE ?_))))))
                have n1 : ¬ (nameB r.name = false) := by simpa using h1
                have n2 : ¬ ((findV eqs r.name (rulesM l)).getD 0 < i) := by simpa using h2
                have n3 : ¬ okM r.match_ = false := by
                  have h3c : decide (ckM r.match_ = 0) = true := by simpa using h3
                  rw [ckM_zero] at h3c
                  rw [h3c]; simp
                have n4 : ¬ (r.action < 1 ∨ 4 < r.action) := by simpa using h4
                have n5 : ¬ ruleO l r = true := by
                  rw [← hout]; simpa using h5
                have p6 : (r.meter ≠ ⟨#[]⟩ ∧ inM (metersM l) r.meter = false) ∨ (r.mirror ≠ ⟨#[]⟩ ∧ inM (mirrorsM l) r.mirror = false) := by
                  unfold inM
                  simp_all
                unfold ruleE
                rw [if_neg n1, if_neg n2, if_neg n3, if_neg n4, if_neg n5, if_pos p6]
                rfl
              · refine skip (bN (pN (seq (region (cons (opv (Ev.assign (.c (v := I 0) rfl)) ?_))))))
                refine nil (pN (ret (done rfl (.tmp rfl .nil) (retE ?_))))
                have n1 : ¬ (nameB r.name = false) := by simpa using h1
                have n2 : ¬ ((findV eqs r.name (rulesM l)).getD 0 < i) := by simpa using h2
                have n3 : ¬ okM r.match_ = false := by
                  have h3c : decide (ckM r.match_ = 0) = true := by simpa using h3
                  rw [ckM_zero] at h3c
                  rw [h3c]; simp
                have n4 : ¬ (r.action < 1 ∨ 4 < r.action) := by simpa using h4
                have n5 : ¬ ruleO l r = true := by
                  rw [← hout]; simpa using h5
                have n6 : ¬ ((r.meter ≠ ⟨#[]⟩ ∧ inM (metersM l) r.meter = false) ∨ (r.mirror ≠ ⟨#[]⟩ ∧ inM (mirrorsM l) r.mirror = false)) := by
                  unfold inM
                  first
                    | (exfalso; simp_all; done)
                    | (simp at h6 h7
                       rintro (⟨a, b⟩ | ⟨a, b⟩)
                       · rw [h6 a] at b; cases b
                       · rw [h7 a] at b; cases b)
                unfold ruleE
                rw [if_neg n1, if_neg n2, if_neg n3, if_neg n4, if_neg n5, if_neg n6]
                rfl
            · refine region (cons (opv (Ev.fieldAddr (o := 48) (.t rfl) (by kernel_rfl)) ?_))
              refine cons (opv (Ev.load (xv := r.mirror) ty9 (.t rfl) (ptsVar (by repeat first | exact mH | apply mT | apply mA) SRule.l_mirror)) ?_)
              refine cons (opv (Ev.neq_s (.t rfl) (.c (v := (Go.Value.string (ByteArray.mk #[]))) rfl)) ?_)
              refine cons (opv (Ev.move (.t rfl)) (cons (opg rfl rfl (Ev.move (.t rfl)) ?_)))
              refine cons (opg rfl rfl (Ev.not (.g rfl id)) ?_)
              refine cons (opv (Ev.pickA (.t rfl) (fun {_} h => by cases h; rfl) ⟨_, rfl⟩ (by intro h1 h; first | (rw [h] <;> rfl) | (rw [h1, h] <;> rfl) | (rw [h, h1] <;> rfl) | simp_all) (.c (v := .bool false) rfl)) ?_)
              refine cons (opv (Ev.assign (.t rfl)) (nil (pN ?_)))
              first | refine condD rfl (fun h7 => ?_) (fun h7 => ?_) | refine cond rfl (fun h7 => ?_) (fun h7 => ?_)
              · refine seq (region (cons (opv (Ev.assign (.c (v := I 210) rfl)) ?_)))
                refine nil (pN (ret (bR (pR (done rfl (.tmp rfl .nil) (retE ?_))))))
                have n1 : ¬ (nameB r.name = false) := by simpa using h1
                have n2 : ¬ ((findV eqs r.name (rulesM l)).getD 0 < i) := by simpa using h2
                have n3 : ¬ okM r.match_ = false := by
                  have h3c : decide (ckM r.match_ = 0) = true := by simpa using h3
                  rw [ckM_zero] at h3c
                  rw [h3c]; simp
                have n4 : ¬ (r.action < 1 ∨ 4 < r.action) := by simpa using h4
                have n5 : ¬ ruleO l r = true := by
                  rw [← hout]; simpa using h5
                have p6 : (r.meter ≠ ⟨#[]⟩ ∧ inM (metersM l) r.meter = false) ∨ (r.mirror ≠ ⟨#[]⟩ ∧ inM (mirrorsM l) r.mirror = false) := by
                  unfold inM
                  simp_all
                unfold ruleE
                rw [if_neg n1, if_neg n2, if_neg n3, if_neg n4, if_neg n5, if_pos p6]
                rfl
              · refine skip (bN (pN (seq (region (cons (opv (Ev.assign (.c (v := I 0) rfl)) ?_))))))
                refine nil (pN (ret (done rfl (.tmp rfl .nil) (retE ?_))))
                have n1 : ¬ (nameB r.name = false) := by simpa using h1
                have n2 : ¬ ((findV eqs r.name (rulesM l)).getD 0 < i) := by simpa using h2
                have n3 : ¬ okM r.match_ = false := by
                  have h3c : decide (ckM r.match_ = 0) = true := by simpa using h3
                  rw [ckM_zero] at h3c
                  rw [h3c]; simp
                have n4 : ¬ (r.action < 1 ∨ 4 < r.action) := by simpa using h4
                have n5 : ¬ ruleO l r = true := by
                  rw [← hout]; simpa using h5
                have n6 : ¬ ((r.meter ≠ ⟨#[]⟩ ∧ inM (metersM l) r.meter = false) ∨ (r.mirror ≠ ⟨#[]⟩ ∧ inM (mirrorsM l) r.mirror = false)) := by
                  unfold inM
                  first
                    | (exfalso; simp_all; done)
                    | (simp at h6 h7
                       rintro (⟨a, b⟩ | ⟨a, b⟩)
                       · rw [h6 a] at b; cases b
                       · rw [h7 a] at b; cases b)
                unfold ruleE
                rw [if_neg n1, if_neg n2, if_neg n3, if_neg n4, if_neg n5, if_neg n6]
                rfl
end Go.Proofs.YtnoobdijbpmjkaaGreat
