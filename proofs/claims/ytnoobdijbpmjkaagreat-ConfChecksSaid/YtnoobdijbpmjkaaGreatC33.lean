/- conf -/
import Derived.Test.YtnoobdijbpmjkaaGreatC32
set_option linter.unusedVariables false
set_option linter.unusedSimpArgs false
namespace Go.Proofs.YtnoobdijbpmjkaaGreat
open Go Go.Gx

def hdrB (a b : CL) (d e : Int) : Bool := decide (d = e ∧ a.ps = b.ps ∧ a.us = b.us ∧ a.rs.length = b.rs.length ∧ a.ms.length = b.ms.length ∧ a.xs.length = b.xs.length)
def cntB {α : Type} (q : α → α → Bool) (l k : List α) : Bool := l.all (fun x => decide (l.countP (q x) = k.countP (q x)))
theorem sameB_R (a b : CL) (d e : Int) : sameB a b d e = (hdrB a b d e && (cntB SRoute.eqb a.rs b.rs && (cntB SMeterConf.eqb a.ms b.ms && cntB SMirrorConf.eqb a.xs b.xs))) := by
  unfold sameB
  rw [← alikeR_eq SRoute.eqb_iff, ← alikeR_eq SMeterConf.eqb_iff, ← alikeR_eq SMirrorConf.eqb_iff]
  unfold alikeR hdrB
  simp only [Bool.decide_and]
  show _ = (_ && (cntB _ _ _ && (cntB _ _ _ && cntB _ _ _)))
  unfold cntB
  ac_rfl
theorem cntB_no {α : Type} {q : α → α → Bool} {l k : List α} (z : α) (i : Nat) (h : i < l.length) (hn : ¬ l.countP (q (l.getD i z)) = k.countP (q (l.getD i z))) : cntB q l k = false := by
  unfold cntB
  exact List.all_eq_false.2 ⟨l.getD i z, getD_in _ _ _ h, by simpa using hn⟩
theorem cntB_yes {α : Type} {q : α → α → Bool} {l k : List α} (z : α) (h : ∀ j, j < l.length → l.countP (q (l.getD j z)) = k.countP (q (l.getD j z))) : cntB q l k = true := by
  unfold cntB
  rw [List.all_eq_true]
  intro x hx
  obtain ⟨j, hj, rfl⟩ := List.mem_iff_getElem.1 hx
  have := h j hj
  simpa [List.getD, hj] using this
/-- The same lists in the same order? -/
def exactB (a b : CL) (d e : Int) : Bool := decide (d = e ∧ a.ps = b.ps ∧ a.us = b.us ∧ a.rs = b.rs ∧ a.ms = b.ms ∧ a.xs = b.xs)
theorem exactB_self (a : CL) (d : Int) : exactB a a d d = true := decide_eq_true ⟨rfl, rfl, rfl, rfl, rfl, rfl⟩
theorem sameB_perm (a b : CL) (d e : Int) : sameB a b d e = true ↔ d = e ∧ a.ps = b.ps ∧ a.us = b.us ∧ a.rs.Perm b.rs ∧ a.ms.Perm b.ms ∧ a.xs.Perm b.xs := by
  unfold sameB
  simp only [Bool.and_eq_true, decide_eq_true_iff, alike_perm SRoute.eqb_iff, alike_perm SMeterConf.eqb_iff, alike_perm SMirrorConf.eqb_iff]
theorem eq_getD {α : Type} {l k : List α} (z : α) (h : l.length = k.length) (hq : ∀ j, j < l.length → l.getD j z = k.getD j z) : l = k := by
  refine List.ext_getElem h fun j h1 h2 => ?_
  have := hq j h1
  simpa [List.getD, h1, h2] using this

theorem en58 : Gx.Enters Tryz.prog 58 := Gx.Enters.mk' (by kernel_rfl)

theorem en59 : Gx.Enters Tryz.prog 59 := Gx.Enters.mk' (by kernel_rfl)

theorem en60 : Gx.Enters Tryz.prog 60 := Gx.Enters.mk' (by kernel_rfl)

theorem en61 : Gx.Enters Tryz.prog 61 := Gx.Enters.mk' (by kernel_rfl)

theorem en62 : Gx.Enters Tryz.prog 62 := Gx.Enters.mk' (by kernel_rfl)

theorem rsame_ok (a b : SConf) (l k : CL) (w : World) (ha : ConfAt w a l) (hb : ConfAt w b k) : Calls Tryz.prog 22 #[eConf.val a, eConf.val b] w (RetV w (.bool (sameB l k a.default b.default))) := by
  have hla0 := ha.ps.le
  have hlb0 := hb.ps.le
  have hla1 := ha.rs.le
  have hlb1 := hb.rs.le
  have hla2 := ha.us.le
  have hlb2 := hb.us.le
  have hla3 := ha.ms.le
  have hlb3 := hb.ms.le
  have hla4 := ha.xs.le
  have hlb4 := hb.xs.le
  refine enter0 128 Tryz.func22 rfl rfl (Nat.le_of_ble_eq_true rfl) ?_
  refine seq (region (cons (box (E := eConf) (.t rfl) (fun b1 => ?_))))
  refine cons (box (E := eConf) (.t rfl) (fun b2 => ?_))
  refine cons (opv (Ev.assign (.c (v := .bool false) rfl)) ?_)
  refine nil (pN (seq (seq (region (cons (opv (Ev.fieldAddr (o := 5) (.t rfl) (by kernel_rfl)) ?_))))))
  refine cons (opv (Ev.load (xv := a.default) ty3 (.t rfl) (ptsVar (by repeat first | exact mH | apply mT | apply mA) SConf.l_default)) ?_)
  refine cons (opv (Ev.fieldAddr (o := 5) (.t rfl) (by kernel_rfl)) ?_)
  refine cons (opv (Ev.load (xv := b.default) ty3 (.t rfl) (ptsVar (by repeat first | exact mH | apply mT | apply mA) SConf.l_default)) ?_)
  refine cons (opv (Ev.neq_i (.t rfl) (.t rfl)) ?_)
  refine cons (opv (Ev.move (.t rfl)) (cons (opg rfl rfl (Ev.fieldAddr (o := 0) (.t rfl) (by kernel_rfl)) ?_)))
  refine cons (opg rfl rfl (Ev.load (xv := a.ports) ty22 (.g rfl id) (ptsVar (by repeat first | exact mH | apply mT | apply mA) SConf.l_ports)) ?_)
  refine cons (opg rfl rfl (Ev.fieldAddr (o := 0) (.t rfl) (by kernel_rfl)) ?_)
  refine cons (opg rfl rfl (Ev.load (xv := b.ports) ty22 (.g rfl id) (ptsVar (by repeat first | exact mH | apply mT | apply mA) SConf.l_ports)) ?_)
  refine cons (callg rfl rfl en58 (.cons (.g rfl id) (.cons (.g rfl id) .nil)) (fun hg w I => samePorts_ok _ _ _ _ w ((ha.keep0 I.keeps).ps) ((hb.keep0 I.keeps).ps)) ?_)
  refine cons (opg rfl rfl (Ev.not (.g rfl id)) ?_)
  refine cons (opv (Ev.pickO (.t rfl) (.c (v := .bool true) rfl) (fun {_} h => by cases h; rfl) ⟨_, rfl⟩ (by intro h1 h; first | (rw [h] <;> rfl) | (rw [h1, h] <;> rfl) | (rw [h, h1] <;> rfl) | simp_all)) ?_)
  refine cons (opv (Ev.move (.t rfl)) (cons (opg rfl rfl (Ev.fieldAddr (o := 2) (.t rfl) (by kernel_rfl)) ?_)))
  refine cons (opg rfl rfl (Ev.load (xv := a.rules) ty24 (.g rfl id) (ptsVar (by repeat first | exact mH | apply mT | apply mA) SConf.l_rules)) ?_)
  refine cons (opg rfl rfl (Ev.fieldAddr (o := 2) (.t rfl) (by kernel_rfl)) ?_)
  refine cons (opg rfl rfl (Ev.load (xv := b.rules) ty24 (.g rfl id) (ptsVar (by repeat first | exact mH | apply mT | apply mA) SConf.l_rules)) ?_)
  refine cons (callg rfl rfl en59 (.cons (.g rfl id) (.cons (.g rfl id) .nil)) (fun hg w I => sameRules_ok _ _ _ _ w ((ha.keep0 I.keeps).us) ((hb.keep0 I.keeps).us)) ?_)
  refine cons (opg rfl rfl (Ev.not (.g rfl id)) ?_)
  refine cons (opv (Ev.pickO (.t rfl) (.c (v := .bool true) rfl) (fun {_} h => by cases h; rfl) ⟨_, rfl⟩ (by intro h1 h; first | (rw [h] <;> rfl) | (rw [h1, h] <;> rfl) | (rw [h, h1] <;> rfl) | simp_all)) ?_)
  refine cons (opv (Ev.move (.t rfl)) (cons (opg rfl rfl (Ev.fieldAddr (o := 1) (.t rfl) (by kernel_rfl)) ?_)))
  refine cons (opg rfl rfl (Ev.load (xv := a.routes) ty23 (.g rfl id) (ptsVar (by repeat first | exact mH | apply mT | apply mA) SConf.l_routes)) ?_)
  refine cons (opg rfl rfl (Ev.len Tryz.underlying23 (.g rfl id) (fun w I => (ha.keep0 I.keeps).rs)) ?_)
  refine cons (opg rfl rfl (Ev.fieldAddr (o := 1) (.t rfl) (by kernel_rfl)) ?_)
  refine cons (opg rfl rfl (Ev.load (xv := b.routes) ty23 (.g rfl id) (ptsVar (by repeat first | exact mH | apply mT | apply mA) SConf.l_routes)) ?_)
  refine cons (opg rfl rfl (Ev.len Tryz.underlying23 (.g rfl id) (fun w I => (hb.keep0 I.keeps).rs)) ?_)
  refine cons (opg rfl rfl (Ev.neq_i (.g rfl id) (.g rfl id)) ?_)
  refine cons (opv (Ev.pickO (.t rfl) (.c (v := .bool true) rfl) (fun {_} h => by cases h; rfl) ⟨_, rfl⟩ (by intro h1 h; first | (rw [h] <;> rfl) | (rw [h1, h] <;> rfl) | (rw [h, h1] <;> rfl) | simp_all)) ?_)
  refine cons (opv (Ev.move (.t rfl)) (cons (opg rfl rfl (Ev.fieldAddr (o := 3) (.t rfl) (by kernel_rfl)) ?_)))
  refine cons (opg rfl rfl (Ev.load (xv := a.meters) ty25 (.g rfl id) (ptsVar (by repeat first | exact mH | apply mT | apply mA) SConf.l_meters)) ?_)
  refine cons (opg rfl rfl (Ev.len Tryz.underlying25 (.g rfl id) (fun w I => (ha.keep0 I.keeps).ms)) ?_)
  refine cons (opg rfl rfl (Ev.fieldAddr (o := 3) (.t rfl) (by kernel_rfl)) ?_)
  refine cons (opg rfl rfl (Ev.load (xv := b.meters) ty25 (.g rfl id) (ptsVar (by repeat first | exact mH | apply mT | apply mA) SConf.l_meters)) ?_)
  refine cons (opg rfl rfl (Ev.len Tryz.underlying25 (.g rfl id) (fun w I => (hb.keep0 I.keeps).ms)) ?_)
  refine cons (opg rfl rfl (Ev.neq_i (.g rfl id) (.g rfl id)) ?_)
  refine cons (opv (Ev.pickO (.t rfl) (.c (v := .bool true) rfl) (fun {_} h => by cases h; rfl) ⟨_, rfl⟩ (by intro h1 h; first | (rw [h] <;> rfl) | (rw [h1, h] <;> rfl) | (rw [h, h1] <;> rfl) | simp_all)) ?_)
  refine cons (opv (Ev.move (.t rfl)) (cons (opg rfl rfl (Ev.fieldAddr (o := 4) (.t rfl) (by kernel_rfl)) ?_)))
  refine cons (opg rfl rfl (Ev.load (xv := a.mirrors) ty26 (.g rfl id) (ptsVar (by repeat first | exact mH | apply mT | apply mA) SConf.l_mirrors)) ?_)
  refine cons (opg rfl rfl (Ev.len Tryz.underlying26 (.g rfl id) (fun w I => (ha.keep0 I.keeps).xs)) ?_)
  refine cons (opg rfl rfl (Ev.fieldAddr (o := 4) (.t rfl) (by kernel_rfl)) ?_)
  refine cons (opg rfl rfl (Ev.load (xv := b.mirrors) ty26 (.g rfl id) (ptsVar (by repeat first | exact mH | apply mT | apply mA) SConf.l_mirrors)) ?_)
  refine cons (opg rfl rfl (Ev.len Tryz.underlying26 (.g rfl id) (fun w I => (hb.keep0 I.keeps).xs)) ?_)
  refine cons (opg rfl rfl (Ev.neq_i (.g rfl id) (.g rfl id)) ?_)
  refine cons (opv (Ev.pickO (.t rfl) (.c (v := .bool true) rfl) (fun {_} h => by cases h; rfl) ⟨_, rfl⟩ (by intro h1 h; first | (rw [h] <;> rfl) | (rw [h1, h] <;> rfl) | (rw [h, h1] <;> rfl) | simp_all)) ?_)
  refine nil (pN ?_)
  first | refine condD rfl (fun h0 => ?_) (fun h0 => ?_) | refine cond rfl (fun h0 => ?_) (fun h0 => ?_)
  · refine seq (region (cons (opv (Ev.assign (.c (v := .bool false) rfl)) ?_)))
    refine nil (pN (ret (pR (done rfl (.tmp rfl .nil) (retE ?_)))))
    have hh : hdrB l k a.default b.default = false := by
      rw [Bool.eq_false_iff]
      intro h
      obtain ⟨e1, e2, e3, e4, e5, e6⟩ := of_decide_eq_true h
      simp [e1, e2, e3, e4, e5, e6] at h0
    rw [sameB_R, hh]; rfl
  · have hhd : hdrB l k a.default b.default = true := by
      simp at h0
      exact decide_eq_true ⟨h0.1.1.1.1.1, h0.1.1.1.1.2, h0.1.1.1.2, by omega, by omega, by omega⟩
    refine skip (pN (seq (seq (region (cons (opv (Ev.assign (.c (v := I 0) rfl)) ?_))))))
    refine nil (pN (block (loop (X := Int) (fun x : Int => (0 ≤ x ∧ x ≤ l.rs.length) ∧ (∀ j : Nat, j < x → l.rs.countP (SRoute.eqb (l.rs.getD j eRoute.zero)) = k.rs.countP (SRoute.eqb (l.rs.getD j eRoute.zero)))) (fun x : Int => [(2, true, .pointer (some ⟨b1, 0, none⟩)), (3, true, .pointer (some ⟨b2, 0, none⟩)), (5, true, I x)]) (fun x : Int => [Var b2 eConf b 28, Var b1 eConf a 28]) (fun x : Int => (l.rs.length - x).toNat) (0) ⟨?_, ?_⟩ (by repeat first | exact Sub.nil | refine Sub.cons rfl ?_) (by repeat first | exact sR | exact sN | apply sC | apply sS | apply sA) (fun x hx => ?_))))
    · omega
    · intro j h; omega
    obtain ⟨i0, rfl⟩ : ∃ y, y = x := ⟨x, rfl⟩
    obtain ⟨hi0, hq0⟩ : (0 ≤ i0 ∧ i0 ≤ l.rs.length) ∧ (∀ j : Nat, j < i0 → l.rs.countP (SRoute.eqb (l.rs.getD j eRoute.zero)) = k.rs.countP (SRoute.eqb (l.rs.getD j eRoute.zero))) := hx
    show Sat _ _ [(2, true, .pointer (some ⟨b1, 0, none⟩)), (3, true, .pointer (some ⟨b2, 0, none⟩)), (5, true, I i0)] [Var b2 eConf b 28, Var b1 eConf a 28]
    refine seq (seq (region (cons (opv (Ev.move (.t rfl)) (cons (opv (Ev.fieldAddr (o := 1) (.t rfl) (by kernel_rfl)) ?_))))))
    refine cons (opv (Ev.load (xv := a.routes) ty23 (.t rfl) (ptsVar (by repeat first | exact mH | apply mT | apply mA) SConf.l_routes)) ?_)
    refine cons (opv (Ev.len Tryz.underlying23 (.t rfl) (fun w I => (ha.keep0 I.keeps).rs)) ?_)
    refine cons (opv (Ev.lss_i (.t rfl) (.t rfl)) ?_)
    refine nil (pN ?_)
    first | refine condD rfl (fun h1 => ?_) (fun h1 => ?_) | refine cond rfl (fun h1 => ?_) (fun h1 => ?_)
    · try simp only [nb] at h1
      refine skip (pN (seq (block (seq (draw' (by kernel_rfl) ?_)))))
      refine tk 0 rfl (Ev.fieldAddr (o := 1) (.t rfl) (by kernel_rfl)) ?_
      refine tk 1 rfl (Ev.load (xv := a.routes) ty23 (.t rfl) (ptsVar (by repeat first | exact mH | apply mT | apply mA) SConf.l_routes)) ?_
      refine tk 2 rfl (Ev.fieldAddr (o := 1) (.t rfl) (by kernel_rfl)) ?_
      refine tk 3 rfl (Ev.load (xv := a.routes) ty23 (.t rfl) (ptsVar (by repeat first | exact mH | apply mT | apply mA) SConf.l_routes)) ?_
      refine tk 4 rfl (Ev.move (.t rfl)) ?_
      refine tk 5 rfl (Ev.indexAddr Tryz.underlying23 ty52 (.t rfl) (.t rfl) (fun w I => (ha.keep0 I.keeps).rs) (fun _ => by omega)) ?_
      refine tk 6 rfl (Ev.loadS0 ty52 (.t rfl) (fun w I => (ha.keep0 I.keeps).rs) (fun _ => by omega)) ?_
      refine tk 8 rfl (Ev.fieldAddr (o := 1) (.t rfl) (by kernel_rfl)) ?_
      refine tk 9 rfl (Ev.load (xv := b.routes) ty23 (.t rfl) (ptsVar (by repeat first | exact mH | apply mT | apply mA) SConf.l_routes)) ?_
      refine tk 10 rfl (Ev.fieldAddr (o := 1) (.t rfl) (by kernel_rfl)) ?_
      refine tk 11 rfl (Ev.load (xv := a.routes) ty23 (.t rfl) (ptsVar (by repeat first | exact mH | apply mT | apply mA) SConf.l_routes)) ?_
      refine tk 12 rfl (Ev.move (.t rfl)) ?_
      refine tk 13 rfl (Ev.indexAddr Tryz.underlying23 ty52 (.t rfl) (.t rfl) (fun w I => (ha.keep0 I.keeps).rs) (fun _ => by omega)) ?_
      refine tk 14 rfl (Ev.loadS0 ty52 (.t rfl) (fun w I => (ha.keep0 I.keeps).rs) (fun _ => by omega)) ?_
      refine al1 7 rfl ((callv en60 (.cons (.t rfl) (.cons (.t rfl) .nil)) (fun w I => rroutes_n _ _ _ w ((ha.keep0 I.keeps).rs)) ?_))
      refine hdn (al1 15 rfl ((callv en60 (.cons (.t rfl) (.cons (.t rfl) .nil)) (fun w I => rroutes_n _ _ _ w ((hb.keep0 I.keeps).rs)) ?_)))
      refine hdn (tk 16 rfl (Ev.neq_i (.t rfl) (.t rfl)) ?_)
      refine ovr (pN ?_)
      first | refine condD rfl (fun h2 => ?_) (fun h2 => ?_) | refine cond rfl (fun h2 => ?_) (fun h2 => ?_)
      · replace h2 : ¬ l.rs.countP (SRoute.eqb (l.rs.getD i0.toNat eRoute.zero)) = k.rs.countP (SRoute.eqb (l.rs.getD i0.toNat eRoute.zero)) := by omega
        refine seq (region (cons (opv (Ev.assign (.c (v := .bool false) rfl)) ?_)))
        refine nil (pN (ret (bR (pR (pR (bR (pR (done rfl (.tmp rfl .nil) (retE ?_)))))))))
        have hh : cntB SRoute.eqb l.rs k.rs = false := cntB_no eRoute.zero i0.toNat (by omega) h2
        rw [sameB_R, hh]; simp [tupV]
      · replace h2 : l.rs.countP (SRoute.eqb (l.rs.getD i0.toNat eRoute.zero)) = k.rs.countP (SRoute.eqb (l.rs.getD i0.toNat eRoute.zero)) := by omega
        refine skip (bN (pN (region (cons (opv (Ev.move (.t rfl)) (cons (opv (Ev.add_i (.t rfl) (.c (v := I 1) rfl) (fun _ => by omega)) ?_)))))))
        refine cons (opv (Ev.assign (.t rfl)) (nil (pN (next (X := Int) (i0 + 1) ⟨?_, ?_⟩ ?_ (by repeat first | exact Sub.nil | refine Sub.cons rfl ?_) (by repeat first | exact sR | exact sN | apply sC | apply sS | apply sA)))))
        · try dsimp only
          omega
        · try dsimp only
          intro j h
          by_cases e : (j : Int) < i0
          · exact hq0 j e
          · obtain rfl : j = i0.toNat := by omega
            exact h2
        · try dsimp only
          omega
    · try simp only [nb] at h1
      refine exit (pX (pX (bX (pN (seq (seq (region (cons (opv (Ev.assign (.c (v := I 0) rfl)) ?_)))))))))
      refine nil (pN (block (loop (X := Int) (fun x : Int => (0 ≤ x ∧ x ≤ l.ms.length) ∧ (∀ j : Nat, j < x → l.ms.countP (SMeterConf.eqb (l.ms.getD j eMeterConf.zero)) = k.ms.countP (SMeterConf.eqb (l.ms.getD j eMeterConf.zero)))) (fun x : Int => [(2, true, .pointer (some ⟨b1, 0, none⟩)), (3, true, .pointer (some ⟨b2, 0, none⟩)), (6, true, I x)]) (fun x : Int => [Var b2 eConf b 28, Var b1 eConf a 28]) (fun x : Int => (l.ms.length - x).toNat) (0) ⟨?_, ?_⟩ (by repeat first | exact Sub.nil | refine Sub.cons rfl ?_) (by repeat first | exact sR | exact sN | apply sC | apply sS | apply sA) (fun x hx => ?_))))
      · omega
      · intro j h; omega
      obtain ⟨i1, rfl⟩ : ∃ y, y = x := ⟨x, rfl⟩
      obtain ⟨hi1, hq1⟩ : (0 ≤ i1 ∧ i1 ≤ l.ms.length) ∧ (∀ j : Nat, j < i1 → l.ms.countP (SMeterConf.eqb (l.ms.getD j eMeterConf.zero)) = k.ms.countP (SMeterConf.eqb (l.ms.getD j eMeterConf.zero))) := hx
      show Sat _ _ [(2, true, .pointer (some ⟨b1, 0, none⟩)), (3, true, .pointer (some ⟨b2, 0, none⟩)), (6, true, I i1)] [Var b2 eConf b 28, Var b1 eConf a 28]
      refine seq (seq (region (cons (opv (Ev.move (.t rfl)) (cons (opv (Ev.fieldAddr (o := 3) (.t rfl) (by kernel_rfl)) ?_))))))
      refine cons (opv (Ev.load (xv := a.meters) ty25 (.t rfl) (ptsVar (by repeat first | exact mH | apply mT | apply mA) SConf.l_meters)) ?_)
      refine cons (opv (Ev.len Tryz.underlying25 (.t rfl) (fun w I => (ha.keep0 I.keeps).ms)) ?_)
      refine cons (opv (Ev.lss_i (.t rfl) (.t rfl)) ?_)
      refine nil (pN ?_)
      first | refine condD rfl (fun h3 => ?_) (fun h3 => ?_) | refine cond rfl (fun h3 => ?_) (fun h3 => ?_)
      · try simp only [nb] at h3
        refine skip (pN (seq (block (seq (draw' (by kernel_rfl) ?_)))))
        refine tk 0 rfl (Ev.fieldAddr (o := 3) (.t rfl) (by kernel_rfl)) ?_
        refine tk 1 rfl (Ev.load (xv := a.meters) ty25 (.t rfl) (ptsVar (by repeat first | exact mH | apply mT | apply mA) SConf.l_meters)) ?_
        refine tk 2 rfl (Ev.fieldAddr (o := 3) (.t rfl) (by kernel_rfl)) ?_
        refine tk 3 rfl (Ev.load (xv := a.meters) ty25 (.t rfl) (ptsVar (by repeat first | exact mH | apply mT | apply mA) SConf.l_meters)) ?_
        refine tk 4 rfl (Ev.move (.t rfl)) ?_
        refine tk 5 rfl (Ev.indexAddr Tryz.underlying25 ty57 (.t rfl) (.t rfl) (fun w I => (ha.keep0 I.keeps).ms) (fun _ => by omega)) ?_
        refine tk 6 rfl (Ev.loadS0 ty57 (.t rfl) (fun w I => (ha.keep0 I.keeps).ms) (fun _ => by omega)) ?_
        refine tk 8 rfl (Ev.fieldAddr (o := 3) (.t rfl) (by kernel_rfl)) ?_
        refine tk 9 rfl (Ev.load (xv := b.meters) ty25 (.t rfl) (ptsVar (by repeat first | exact mH | apply mT | apply mA) SConf.l_meters)) ?_
        refine tk 10 rfl (Ev.fieldAddr (o := 3) (.t rfl) (by kernel_rfl)) ?_
        refine tk 11 rfl (Ev.load (xv := a.meters) ty25 (.t rfl) (ptsVar (by repeat first | exact mH | apply mT | apply mA) SConf.l_meters)) ?_
        refine tk 12 rfl (Ev.move (.t rfl)) ?_
        refine tk 13 rfl (Ev.indexAddr Tryz.underlying25 ty57 (.t rfl) (.t rfl) (fun w I => (ha.keep0 I.keeps).ms) (fun _ => by omega)) ?_
        refine tk 14 rfl (Ev.loadS0 ty57 (.t rfl) (fun w I => (ha.keep0 I.keeps).ms) (fun _ => by omega)) ?_
        refine al1 7 rfl ((callv en61 (.cons (.t rfl) (.cons (.t rfl) .nil)) (fun w I => rmeters_n _ _ _ w ((ha.keep0 I.keeps).ms)) ?_))
        refine hdn (al1 15 rfl ((callv en61 (.cons (.t rfl) (.cons (.t rfl) .nil)) (fun w I => rmeters_n _ _ _ w ((hb.keep0 I.keeps).ms)) ?_)))
        refine hdn (tk 16 rfl (Ev.neq_i (.t rfl) (.t rfl)) ?_)
        refine ovr (pN ?_)
        first | refine condD rfl (fun h4 => ?_) (fun h4 => ?_) | refine cond rfl (fun h4 => ?_) (fun h4 => ?_)
        · replace h4 : ¬ l.ms.countP (SMeterConf.eqb (l.ms.getD i1.toNat eMeterConf.zero)) = k.ms.countP (SMeterConf.eqb (l.ms.getD i1.toNat eMeterConf.zero)) := by omega
          refine seq (region (cons (opv (Ev.assign (.c (v := .bool false) rfl)) ?_)))
          refine nil (pN (ret (bR (pR (pR (bR (pR (done rfl (.tmp rfl .nil) (retE ?_)))))))))
          have hh : cntB SMeterConf.eqb l.ms k.ms = false := cntB_no eMeterConf.zero i1.toNat (by omega) h4
          rw [sameB_R, hh]; simp [tupV]
        · replace h4 : l.ms.countP (SMeterConf.eqb (l.ms.getD i1.toNat eMeterConf.zero)) = k.ms.countP (SMeterConf.eqb (l.ms.getD i1.toNat eMeterConf.zero)) := by omega
          refine skip (bN (pN (region (cons (opv (Ev.move (.t rfl)) (cons (opv (Ev.add_i (.t rfl) (.c (v := I 1) rfl) (fun _ => by omega)) ?_)))))))
          refine cons (opv (Ev.assign (.t rfl)) (nil (pN (next (X := Int) (i1 + 1) ⟨?_, ?_⟩ ?_ (by repeat first | exact Sub.nil | refine Sub.cons rfl ?_) (by repeat first | exact sR | exact sN | apply sC | apply sS | apply sA)))))
          · try dsimp only
            omega
          · try dsimp only
            intro j h
            by_cases e : (j : Int) < i1
            · exact hq1 j e
            · obtain rfl : j = i1.toNat := by omega
              exact h4
          · try dsimp only
            omega
      · try simp only [nb] at h3
        refine exit (pX (pX (bX (pN (seq (seq (region (cons (opv (Ev.assign (.c (v := I 0) rfl)) ?_)))))))))
        refine nil (pN (block (loop (X := Int) (fun x : Int => (0 ≤ x ∧ x ≤ l.xs.length) ∧ (∀ j : Nat, j < x → l.xs.countP (SMirrorConf.eqb (l.xs.getD j eMirrorConf.zero)) = k.xs.countP (SMirrorConf.eqb (l.xs.getD j eMirrorConf.zero)))) (fun x : Int => [(2, true, .pointer (some ⟨b1, 0, none⟩)), (3, true, .pointer (some ⟨b2, 0, none⟩)), (7, true, I x)]) (fun x : Int => [Var b2 eConf b 28, Var b1 eConf a 28]) (fun x : Int => (l.xs.length - x).toNat) (0) ⟨?_, ?_⟩ (by repeat first | exact Sub.nil | refine Sub.cons rfl ?_) (by repeat first | exact sR | exact sN | apply sC | apply sS | apply sA) (fun x hx => ?_))))
        · omega
        · intro j h; omega
        obtain ⟨i2, rfl⟩ : ∃ y, y = x := ⟨x, rfl⟩
        obtain ⟨hi2, hq2⟩ : (0 ≤ i2 ∧ i2 ≤ l.xs.length) ∧ (∀ j : Nat, j < i2 → l.xs.countP (SMirrorConf.eqb (l.xs.getD j eMirrorConf.zero)) = k.xs.countP (SMirrorConf.eqb (l.xs.getD j eMirrorConf.zero))) := hx
        show Sat _ _ [(2, true, .pointer (some ⟨b1, 0, none⟩)), (3, true, .pointer (some ⟨b2, 0, none⟩)), (7, true, I i2)] [Var b2 eConf b 28, Var b1 eConf a 28]
        refine seq (seq (region (cons (opv (Ev.move (.t rfl)) (cons (opv (Ev.fieldAddr (o := 4) (.t rfl) (by kernel_rfl)) ?_))))))
        refine cons (opv (Ev.load (xv := a.mirrors) ty26 (.t rfl) (ptsVar (by repeat first | exact mH | apply mT | apply mA) SConf.l_mirrors)) ?_)
        refine cons (opv (Ev.len Tryz.underlying26 (.t rfl) (fun w I => (ha.keep0 I.keeps).xs)) ?_)
        refine cons (opv (Ev.lss_i (.t rfl) (.t rfl)) ?_)
        refine nil (pN ?_)
        first | refine condD rfl (fun h5 => ?_) (fun h5 => ?_) | refine cond rfl (fun h5 => ?_) (fun h5 => ?_)
        · try simp only [nb] at h5
          refine skip (pN (seq (block (seq (draw' (by kernel_rfl) ?_)))))
          refine tk 0 rfl (Ev.fieldAddr (o := 4) (.t rfl) (by kernel_rfl)) ?_
          refine tk 1 rfl (Ev.load (xv := a.mirrors) ty26 (.t rfl) (ptsVar (by repeat first | exact mH | apply mT | apply mA) SConf.l_mirrors)) ?_
          refine tk 2 rfl (Ev.fieldAddr (o := 4) (.t rfl) (by kernel_rfl)) ?_
          refine tk 3 rfl (Ev.load (xv := a.mirrors) ty26 (.t rfl) (ptsVar (by repeat first | exact mH | apply mT | apply mA) SConf.l_mirrors)) ?_
          refine tk 4 rfl (Ev.move (.t rfl)) ?_
          refine tk 5 rfl (Ev.indexAddr Tryz.underlying26 ty59 (.t rfl) (.t rfl) (fun w I => (ha.keep0 I.keeps).xs) (fun _ => by omega)) ?_
          refine tk 6 rfl (Ev.loadS0 ty59 (.t rfl) (fun w I => (ha.keep0 I.keeps).xs) (fun _ => by omega)) ?_
          refine tk 8 rfl (Ev.fieldAddr (o := 4) (.t rfl) (by kernel_rfl)) ?_
          refine tk 9 rfl (Ev.load (xv := b.mirrors) ty26 (.t rfl) (ptsVar (by repeat first | exact mH | apply mT | apply mA) SConf.l_mirrors)) ?_
          refine tk 10 rfl (Ev.fieldAddr (o := 4) (.t rfl) (by kernel_rfl)) ?_
          refine tk 11 rfl (Ev.load (xv := a.mirrors) ty26 (.t rfl) (ptsVar (by repeat first | exact mH | apply mT | apply mA) SConf.l_mirrors)) ?_
          refine tk 12 rfl (Ev.move (.t rfl)) ?_
          refine tk 13 rfl (Ev.indexAddr Tryz.underlying26 ty59 (.t rfl) (.t rfl) (fun w I => (ha.keep0 I.keeps).xs) (fun _ => by omega)) ?_
          refine tk 14 rfl (Ev.loadS0 ty59 (.t rfl) (fun w I => (ha.keep0 I.keeps).xs) (fun _ => by omega)) ?_
          refine al1 7 rfl ((callv en62 (.cons (.t rfl) (.cons (.t rfl) .nil)) (fun w I => rmirrors_n _ _ _ w ((ha.keep0 I.keeps).xs)) ?_))
          refine hdn (al1 15 rfl ((callv en62 (.cons (.t rfl) (.cons (.t rfl) .nil)) (fun w I => rmirrors_n _ _ _ w ((hb.keep0 I.keeps).xs)) ?_)))
          refine hdn (tk 16 rfl (Ev.neq_i (.t rfl) (.t rfl)) ?_)
          refine ovr (pN ?_)
          first | refine condD rfl (fun h6 => ?_) (fun h6 => ?_) | refine cond rfl (fun h6 => ?_) (fun h6 => ?_)
          · replace h6 : ¬ l.xs.countP (SMirrorConf.eqb (l.xs.getD i2.toNat eMirrorConf.zero)) = k.xs.countP (SMirrorConf.eqb (l.xs.getD i2.toNat eMirrorConf.zero)) := by omega
            refine seq (region (cons (opv (Ev.assign (.c (v := .bool false) rfl)) ?_)))
            refine nil (pN (ret (bR (pR (pR (bR (pR (done rfl (.tmp rfl .nil) (retE ?_)))))))))
            have hh : cntB SMirrorConf.eqb l.xs k.xs = false := cntB_no eMirrorConf.zero i2.toNat (by omega) h6
            rw [sameB_R, hh]; simp [tupV]
          · replace h6 : l.xs.countP (SMirrorConf.eqb (l.xs.getD i2.toNat eMirrorConf.zero)) = k.xs.countP (SMirrorConf.eqb (l.xs.getD i2.toNat eMirrorConf.zero)) := by omega
            refine skip (bN (pN (region (cons (opv (Ev.move (.t rfl)) (cons (opv (Ev.add_i (.t rfl) (.c (v := I 1) rfl) (fun _ => by omega)) ?_)))))))
            refine cons (opv (Ev.assign (.t rfl)) (nil (pN (next (X := Int) (i2 + 1) ⟨?_, ?_⟩ ?_ (by repeat first | exact Sub.nil | refine Sub.cons rfl ?_) (by repeat first | exact sR | exact sN | apply sC | apply sS | apply sA)))))
            · try dsimp only
              omega
            · try dsimp only
              intro j h
              by_cases e : (j : Int) < i2
              · exact hq2 j e
              · obtain rfl : j = i2.toNat := by omega
                exact h6
            · try dsimp only
              omega
        · try simp only [nb] at h5
          refine exit (pX (pX (bX (pN (seq (region (cons (opv (Ev.assign (.c (v := .bool true) rfl)) ?_))))))))
          refine nil (pN (ret (done rfl (.tmp rfl .nil) (retE ?_))))
          rw [sameB_R, hhd, cntB_yes eRoute.zero (fun j hj => hq0 j (by omega)), cntB_yes eMeterConf.zero (fun j hj => hq1 j (by omega)), cntB_yes eMirrorConf.zero (fun j hj => hq2 j (by omega))]; rfl
end Go.Proofs.YtnoobdijbpmjkaaGreat
