/- Part. -/
import Derived.Test.YtnoobdijbpmjkaaGreatM3
set_option linter.unusedVariables false
set_option linter.unusedSimpArgs false
namespace Go.Proofs.YtnoobdijbpmjkaaGreat
open Go Go.Gx
theorem gone_pr {α κ : Type} {q : κ → κ → Bool} {f : α → κ} {m : List (κ × Int)} {mk : α → SChange} {xs : List α} (us : List SRule) (hk : ∀ x, (mk x).kind ≠ 9) : (goneL q f m mk xs).map (prC us) = (xs.filter (fun x => (findV q (f x) m).isNone)).map (fun x => (mk x, [])) := by
  unfold goneL
  rw [List.map_map]
  refine List.map_congr_left fun x _ => ?_
  show prC us (mk x) = _
  unfold prC
  rw [if_neg (hk x)]
theorem run_step {X A : List (SChange × List SRule)} {s t u : CD} (h1 : runC X s = some t) (h2 : runC A t = some u) : runC (X ++ A) s = some u := by
  rw [runC_append, h1]
  exact h2
theorem run_rules {l k : CL} (rv : OV) (x : CL) (d : Int) (hx : x.us = l.us) : runC ((if l.us = k.us then [] else [chRules rv]).map (prC k.us)) ⟨x, d⟩ = some ⟨{ x with us := k.us }, d⟩ := by
  by_cases h : l.us = k.us
  · rw [if_pos h]
    show some (⟨x, d⟩ : CD) = _
    have e : { x with us := k.us } = x := by
      rw [← h, ← hx]
    rw [e]
  · rw [if_neg h]
    rfl
theorem run_default (x : CL) (da db : Int) (us : List SRule) : runC ((if da = db then [] else [chDefault db]).map (prC us)) ⟨x, da⟩ = some ⟨x, db⟩ := by
  by_cases h : da = db
  · rw [if_pos h, h]
    rfl
  · rw [if_neg h]
    rfl
theorem decK {κ : Type} [DecidableEq κ] : KeyE (fun a b : κ => decide (a = b)) := fun a b => decide_eq_true_iff
theorem decK' {κ : Type} [DecidableEq κ] : KeyE (fun a b : κ => decide (b = a)) := fun a b => by
  rw [decide_eq_true_iff]
  exact eq_comm
theorem filter_nodup {α κ : Type} {f : α → κ} {l : List α} (p : α → Bool) (h : (l.map f).Nodup) : ((l.filter p).map f).Nodup := h.sublist (List.filter_sublist.map f)
theorem names_in {α κ : Type} {f : α → κ} {L K S a2 F2 F8 : List α} (hS : ∀ y, y ∈ S ↔ y ∈ L) (h2 : ∀ y, y ∈ F2 ↔ y ∈ K ∧ y ∉ L) (h8 : ∀ y, y ∈ F8 ↔ y ∈ L ∧ f y ∉ K.map f)
    (ha2 : ∀ y, y ∈ a2 ↔ y ∈ F2 ∨ (y ∈ S ∧ f y ∉ F2.map f)) : ∀ x ∈ F8, f x ∈ a2.map f := fun x hx => by
  obtain ⟨h3, h4⟩ := (h8 x).1 hx
  refine List.mem_map_of_mem ((ha2 x).2 (.inr ⟨(hS x).2 h3, fun hm => ?_⟩))
  obtain ⟨z, hz, e⟩ := List.mem_map.1 hm
  exact h4 (by rw [← e]; exact List.mem_map_of_mem ((h2 z).1 hz).1)
theorem map_id_fun {α : Type} (l : List α) : l.map (fun a => a) = l := List.map_id l
theorem setM (l : CL) (x : SMeterConf) : changeL l (chMeter 5 x) [] = { l with ms := setL l.ms (idxF (fun z => decide (z.name = x.name)) l.ms) x } := rfl
theorem setX (l : CL) (x : SMirrorConf) : changeL l (chMirror 7 x) [] = { l with xs := setL l.xs (idxF (fun z => decide (z.name = x.name)) l.xs) x } := rfl
theorem setRt (l : CL) (x : SRoute) : changeL l (chRoute 3 x) [] = { l with rs := setL l.rs (idxF (fun z => SPrefix.eqb z.to_ x.to_) l.rs) x } := rfl
theorem cutRt (l : CL) (x : SRoute) : changeL l (chRoute 4 (onlyR x)) [] = { l with rs := cutI l.rs (idxF (fun z => SPrefix.eqb z.to_ x.to_) l.rs) } := rfl
theorem cutM (l : CL) (x : SMeterConf) : changeL l (chMeter 6 (onlyM x)) [] = { l with ms := cutI l.ms (idxF (fun z => decide (z.name = x.name)) l.ms) } := rfl
theorem cutX (l : CL) (x : SMirrorConf) : changeL l (chMirror 8 (onlyX x)) [] = { l with xs := cutI l.xs (idxF (fun z => decide (z.name = x.name)) l.xs) } := rfl
theorem cutPt (l : CL) (x : Int) : changeL l (chPort 2 x) [] = { l with ps := cutI l.ps (idxF (fun z => decide (x = z)) l.ps) } := rfl
theorem there {l k s : CL} {da db : Int} (rv : OV) (hl : mayB l da = true) (hk : mayB k db = true) (hsl : sameB s l da da = true) (hs : mayB s da = true) :
    ∃ t : CL, goN ⟨s, da⟩ (diffs l k da db rv) (rlC (diffs l k da db rv) k.us) (diffs l k da db rv).length = some ⟨t, db⟩ ∧ sameB t k db db = true ∧ mayB t db = true := by
  obtain ⟨_, s1, s2, s3, s4, s5⟩ := (sameB_perm s l da da).1 hsl
  have gl := may_good hl
  have gk := may_good hk
  have gs := may_good hs
  have upl := ports_up gl.ps
  have upk := ports_up gk.ps
  have ups := ports_up gs.ps
  have nlm := good_ms gl
  have nkm := good_ms gk
  have nsm := good_ms gs
  have nlx := good_xs gl
  have nkx := good_xs gk
  have nsx := good_xs gs
  have nlr := good_rs gl
  have nkr := good_rs gk
  have nsr := good_rs gs
  -- what is gone through
  have f1 : ∀ y, y ∈ k.ps.filter (fun x => (findV eqd ((fun a => a) x) (portsM l)).isNone) ↔ y ∈ k.ps ∧ y ∉ l.ps := fun y => by
    have := mem_gone eqd_iff (fun a : Int => a) (fun a => a) l.ps k.ps y
    rwa [map_id_fun] at this
  have f2 : ∀ y, y ∈ k.ms.filter (fun x => (findV SMeterConf.eqb ((fun a => a) x) (firstN SMeterConf.eqb (fun a => a) l.ms l.ms.length)).isNone) ↔ y ∈ k.ms ∧ y ∉ l.ms := fun y => by
    have := mem_gone SMeterConf.eqb_iff (fun a : SMeterConf => a) (fun a => a) l.ms k.ms y
    rwa [map_id_fun] at this
  have f3 : ∀ y, y ∈ k.xs.filter (fun x => (findV SMirrorConf.eqb ((fun a => a) x) (firstN SMirrorConf.eqb (fun a => a) l.xs l.xs.length)).isNone) ↔ y ∈ k.xs ∧ y ∉ l.xs := fun y => by
    have := mem_gone SMirrorConf.eqb_iff (fun a : SMirrorConf => a) (fun a => a) l.xs k.xs y
    rwa [map_id_fun] at this
  have f4 : ∀ y, y ∈ k.rs.filter (fun x => (findV SRoute.eqb ((fun a => a) x) (firstN SRoute.eqb (fun a => a) l.rs l.rs.length)).isNone) ↔ y ∈ k.rs ∧ y ∉ l.rs := fun y => by
    have := mem_gone SRoute.eqb_iff (fun a : SRoute => a) (fun a => a) l.rs k.rs y
    rwa [map_id_fun] at this
  have f7 : ∀ y, y ∈ l.rs.filter (fun x => (findV SPrefix.eqb ((fun a : SRoute => a.to_) x) (routesM k)).isNone) ↔ y ∈ l.rs ∧ y.to_ ∉ k.rs.map (fun r => r.to_) := fun y =>
    mem_gone SPrefix.eqb_iff (fun a : SRoute => a.to_) (fun r : SRoute => r.to_) k.rs l.rs y
  have f8 : ∀ y, y ∈ l.ms.filter (fun x => (findV eqs ((fun a : SMeterConf => a.name) x) (metersM k)).isNone) ↔ y ∈ l.ms ∧ y.name ∉ k.ms.map (fun r => r.name) := fun y =>
    mem_gone eqs_iff (fun a : SMeterConf => a.name) (fun r : SMeterConf => r.name) k.ms l.ms y
  have f9 : ∀ y, y ∈ l.xs.filter (fun x => (findV eqs ((fun a : SMirrorConf => a.name) x) (mirrorsM k)).isNone) ↔ y ∈ l.xs ∧ y.name ∉ k.xs.map (fun r => r.name) := fun y =>
    mem_gone eqs_iff (fun a : SMirrorConf => a.name) (fun r : SMirrorConf => r.name) k.xs l.xs y
  have f10 : ∀ y, y ∈ l.ps.filter (fun x => (findV eqd ((fun a => a) x) (portsM k)).isNone) ↔ y ∈ l.ps ∧ y ∉ k.ps := fun y => by
    have := mem_gone eqd_iff (fun a : Int => a) (fun a => a) k.ps l.ps y
    rwa [map_id_fun] at this
  -- step by step
  obtain ⟨a1, r1, u1, m1⟩ := run_adds _ s da ups ((up_nodup upk).sublist List.filter_sublist) (fun x hx => ⟨by rw [s1]; exact ((f1 x).1 hx).2, ports_in gk x ((f1 x).1 hx).1⟩)
  obtain ⟨a2, r2, u2, m2⟩ := run_sets decK (f := fun a : SMeterConf => a.name) CL.ms (fun l a => { l with ms := a }) (chMeter 5) (fun _ _ => rfl) (fun _ _ _ => rfl) (fun _ _ => rfl) setM (fun _ _ => rfl) _ { s with ps := a1 } da rfl nsm (filter_nodup _ nkm)
  obtain ⟨a3, r3, u3, m3⟩ := run_sets decK (f := fun a : SMirrorConf => a.name) CL.xs (fun l a => { l with xs := a }) (chMirror 7) (fun _ _ => rfl) (fun _ _ _ => rfl) (fun _ _ => rfl) setX (fun _ _ => rfl) _ { s with ps := a1, ms := a2 } da rfl nsx (filter_nodup _ nkx)
  obtain ⟨a4, r4, u4, m4⟩ := run_sets SPrefix.eqb_iff (f := fun a : SRoute => a.to_) CL.rs (fun l a => { l with rs := a }) (chRoute 3) (fun _ _ => rfl) (fun _ _ _ => rfl) (fun _ _ => rfl) setRt (fun _ _ => rfl) _ { s with ps := a1, ms := a2, xs := a3 } da rfl nsr (filter_nodup _ nkr)
  have r5 := run_rules (l := l) (k := k) rv { s with ps := a1, ms := a2, xs := a3, rs := a4 } da s2
  have r6 := run_default { s with ps := a1, ms := a2, xs := a3, rs := a4, us := k.us } da db k.us
  obtain ⟨a7, r7, u7, _, m7⟩ := run_cuts SPrefix.eqb_iff (f := fun a : SRoute => a.to_) CL.rs (fun l a => { l with rs := a }) (fun x => chRoute 4 (onlyR x)) (fun _ _ => rfl) (fun _ _ _ => rfl) (fun _ _ => rfl) cutRt (fun _ _ => rfl) _ { s with ps := a1, ms := a2, xs := a3, rs := a4, us := k.us } db rfl u4 (filter_nodup _ nlr)
    (names_in (fun y => s3.mem_iff) f4 f7 m4)
  obtain ⟨a8, r8, u8, _, m8⟩ := run_cuts decK (f := fun a : SMeterConf => a.name) CL.ms (fun l a => { l with ms := a }) (fun x => chMeter 6 (onlyM x)) (fun _ _ => rfl) (fun _ _ _ => rfl) (fun _ _ => rfl) cutM (fun _ _ => rfl) _ { s with ps := a1, ms := a2, xs := a3, rs := a7, us := k.us } db rfl u2 (filter_nodup _ nlm)
    (names_in (fun y => s4.mem_iff) f2 f8 m2)
  obtain ⟨a9, r9, u9, _, m9⟩ := run_cuts decK (f := fun a : SMirrorConf => a.name) CL.xs (fun l a => { l with xs := a }) (fun x => chMirror 8 (onlyX x)) (fun _ _ => rfl) (fun _ _ _ => rfl) (fun _ _ => rfl) cutX (fun _ _ => rfl) _ { s with ps := a1, ms := a8, xs := a3, rs := a7, us := k.us } db rfl u3 (filter_nodup _ nlx)
    (names_in (fun y => s5.mem_iff) f3 f9 m3)
  obtain ⟨a10, r10, u10, b10, m10⟩ := run_cuts decK' (f := fun a : Int => a) CL.ps (fun l a => { l with ps := a }) (fun x => chPort 2 x) (fun _ _ => rfl) (fun _ _ _ => rfl) (fun _ _ => rfl) cutPt (fun _ _ => rfl) _ { s with ps := a1, ms := a8, xs := a9, rs := a7, us := k.us } db rfl (by rw [map_id_fun]; exact up_nodup u1) (by rw [map_id_fun]; exact (up_nodup upl).sublist (List.filter_sublist (p := fun x => (findV eqd ((fun a => a) x) (portsM k)).isNone)))
    (fun x hx => by
      rw [map_id_fun]
      exact (m1 x).2 (.inr (by rw [s1]; exact ((f10 x).1 hx).1)))
  have R : runC ((diffs l k da db rv).map (prC k.us)) ⟨s, da⟩ = some ⟨{ s with ps := a10, ms := a8, xs := a9, rs := a7, us := k.us }, db⟩ := by
    unfold diffs
    simp only [List.map_append, List.map_nil]
    rw [gone_pr k.us (fun x => (chPort_k 1 (by decide) x).1), gone_pr k.us (fun x => (chMeter_k 5 (by decide) x).1), gone_pr k.us (fun x => (chMirror_k 7 (by decide) x).1), gone_pr k.us (fun x => (chRoute_k 3 (by decide) x).1), gone_pr k.us (fun x => (chRoute_k 4 (by decide) (onlyR x)).1), gone_pr k.us (fun x => (chMeter_k 6 (by decide) (onlyM x)).1), gone_pr k.us (fun x => (chMirror_k 8 (by decide) (onlyX x)).1), gone_pr k.us (fun x => (chPort_k 2 (by decide) x).1)]
    exact run_step (run_step (run_step (run_step (run_step (run_step (run_step (run_step (run_step (run_step rfl r1) r2) r3) r4) r5) r6) r7) r8) r9) r10
  have hps : a10 = k.ps := up_eq (u1.sublist b10) upk fun y => by
    rw [m10, map_id_fun]
    show y ∈ a1 ∧ _ ↔ _
    rw [m1, s1]
    constructor
    · rintro ⟨h | h, h2⟩
      · exact ((f1 y).1 h).1
      · exact Classical.byContradiction fun hn => h2 ((f10 y).2 ⟨h, hn⟩)
    · intro h
      refine ⟨?_, fun h2 => ((f10 y).1 h2).2 h⟩
      by_cases hy : y ∈ l.ps
      · exact .inr hy
      · exact .inl ((f1 y).2 ⟨h, hy⟩)
  have hrs : a7.Perm k.rs := perm_of u7 nkr (key_merge nlr nkr (fun y => s3.mem_iff) f4 f7 m4 m7)
  have hms : a8.Perm k.ms := perm_of u8 nkm (key_merge nlm nkm (fun y => s4.mem_iff) f2 f8 m2 m8)
  have hxs : a9.Perm k.xs := perm_of u9 nkx (key_merge nlx nkx (fun y => s5.mem_iff) f3 f9 m3 m9)
  refine ⟨{ s with ps := a10, ms := a8, xs := a9, rs := a7, us := k.us }, by rw [goN_all]; exact R, (sameB_perm _ _ _ _).2 ⟨rfl, hps, rfl, hrs, hms, hxs⟩, ?_⟩
  obtain ⟨q1, q2, q3, q4, q5⟩ := may_lens hk
  exact good_may (good_of gk hps rfl hrs hms hxs) ⟨by show a10.length ≤ _; rw [hps]; exact q1, by show a7.length ≤ _; rw [hrs.length_eq]; exact q2, q3, by show a8.length ≤ _; rw [hms.length_eq]; exact q4, by show a9.length ≤ _; rw [hxs.length_eq]; exact q5⟩
def NmOK (c : SChange) : Prop := c.meter.name.size ≤ 9223372036854775807 ∧ c.mirror.name.size ≤ 9223372036854775807
def ChgJ (c : SConf) (l l2 : CL) (d : Int) (y : SConf × List Res) : Prop := y.1.default = d ∧ ∀ w, ConfAt w c l → (∀ r ∈ y.2, r.A w) → ConfAt w y.1 l2
def ApJ (r : CD) (y : SConf × List Res) : Prop := y.1.default = r.d ∧ ∀ w, (∀ q ∈ y.2, q.A w) → ConfAt w y.1 r.l
theorem ChSame.eq {c d : SChange} (h : ChSame c d) : d = { c with rules := d.rules } := by
  obtain ⟨h1, h2, h3, h4, h5, h6⟩ := h
  cases c
  cases d
  simp only at h1 h2 h3 h4 h5 h6
  subst h1 h2 h3 h4 h5 h6
  rfl
theorem ChSame.symm {c d : SChange} (h : ChSame c d) : ChSame d c := ⟨h.1.symm, h.2.1.symm, h.2.2.1.symm, h.2.2.2.1.symm, h.2.2.2.2.1.symm, h.2.2.2.2.2.symm⟩
theorem ChSame.trans {c d e : SChange} (h : ChSame c d) (k : ChSame d e) : ChSame c e := ⟨h.1.trans k.1, h.2.1.trans k.2.1, h.2.2.1.trans k.2.2.1, h.2.2.2.1.trans k.2.2.2.1, h.2.2.2.2.1.trans k.2.2.2.2.1, h.2.2.2.2.2.trans k.2.2.2.2.2⟩
theorem getD_snoc_lt {α : Type} (l : List α) (x z : α) (j : Nat) (h : j < l.length) : (l ++ [x]).getD j z = l.getD j z := by simp [List.getD, List.getElem?_append, h]
theorem getD_snoc_eq {α : Type} (l : List α) (x z : α) (j : Nat) (h : j = l.length) : (l ++ [x]).getD j z = x := by subst h; simp [List.getD]
structure CpyJ (cs gs : List SChange) (i : Int) : Prop where
  n : (gs.length : Int) = i
  ch : ∀ j : Nat, j < i → ChSame (cs.getD j eChange.zero) (gs.getD j eChange.zero)
theorem CpyJ.step {cs gs : List SChange} {i : Int} (h : CpyJ cs gs i) (hi : 0 ≤ i) (v : OV) : CpyJ cs (gs ++ [SChange.l_rules.set (cs.getD i.toNat eChange.zero) v]) (i + 1) := by
  obtain ⟨h1, h2⟩ := h
  refine ⟨by simp only [List.length_append, List.length_singleton]; omega, fun j hj => ?_⟩
  by_cases e : (j : Int) < i
  · rw [getD_snoc_lt _ _ _ _ (by omega)]
    exact h2 j e
  · rw [getD_snoc_eq _ _ _ _ (by omega)]
    have : j = i.toNat := by omega
    subst this
    exact ⟨rfl, rfl, rfl, rfl, rfl, rfl⟩
def RlAt (w : World) (gs : List SChange) (rls : List (List SRule)) (i : Int) : Prop := ∀ j : Nat, j < i → IsSl eRule w (gs.getD j eChange.zero).rules.v (rls.getD j [])
theorem RlAt.step {w : World} {gs : List SChange} {rls : List (List SRule)} {i : Int} (h : RlAt w gs rls i) (hn : (gs.length : Int) = i) (c : SChange) (v : OV) (hv : IsSl eRule w v.v (rls.getD i.toNat [])) : RlAt w (gs ++ [SChange.l_rules.set c v]) rls (i + 1) := fun j hj => by
  by_cases e : (j : Int) < i
  · rw [getD_snoc_lt _ _ _ _ (by omega)]
    exact h j e
  · rw [getD_snoc_eq _ _ _ _ (by omega)]
    have : j = i.toNat := by omega
    subst this
    exact hv
theorem Rem.app {r : Res} {L M : List Res} (k : List Res) (h : Rem L r M) : Rem (k ++ L) r (k ++ M) := by
  obtain ⟨A, C, rfl, rfl⟩ := h
  exact ⟨k ++ A, C, by simp, by simp⟩
structure SAnon15 where
  is_ : Bool
  v6 : Bool
def SAnon15.to : (Bool × Bool) → SAnon15 := fun x => ⟨x.1, x.2⟩
def SAnon15.of : SAnon15 → (Bool × Bool) := fun x => (x.is_, x.v6)
def eAnon15 : Enc SAnon15 := isoE (prodE bE bE) SAnon15.to SAnon15.of
def SAnon15.l_is_ : Lens eAnon15 bE 0 := lIso _ SAnon15.to SAnon15.of (fun _ => rfl) (lFst bE bE)
@[simp] theorem SAnon15.get_is_ (x : SAnon15) : SAnon15.l_is_.get x = x.is_ := rfl
@[simp] theorem SAnon15.set_is_ (x : SAnon15) (y : Bool) : SAnon15.l_is_.set x y = { x with is_ := y } := rfl
def SAnon15.l_v6 : Lens eAnon15 bE 1 := lIso _ SAnon15.to SAnon15.of (fun _ => rfl) (Lens.comp (lSnd bE bE) (Lens.id bE))
@[simp] theorem SAnon15.get_v6 (x : SAnon15) : SAnon15.l_v6.get x = x.v6 := rfl
@[simp] theorem SAnon15.set_v6 (x : SAnon15) (y : Bool) : SAnon15.l_v6.set x y = { x with v6 := y } := rfl
@[simp] theorem zSpan_from : eSpan.zero.from_ = 0 := rfl
@[simp] theorem zSpan_to : eSpan.zero.to_ = 0 := rfl
def kst (k : Nat) (is v6 : Bool) : Nat := bif is then (bif v6 then k &&& 2 else k &&& 1) else k
def kI (m : SMatch) : Nat := kst (kst 3 (asksB m 2) m.src.addr.v6) (asksB m 4) m.dst.addr.v6
theorem kst_le {k : Nat} (h : k ≤ 3) (a b : Bool) : kst k a b ≤ 3 := by
  have h : k = 0 ∨ k = 1 ∨ k = 2 ∨ k = 3 := by omega
  rcases h with rfl | rfl | rfl | rfl <;> cases a <;> cases b <;> decide
def everyB (s : SSpan) (is : Bool) (top : UInt16) : SSpan := bif is then s else { s with to_ := top }
def spannedB (m n : SMatch) (w : UInt8) (a b : SSpan) (top : UInt16) : Bool := !asksB m w || (decide (a.from_ ≤ (everyB b (asksB n w) top).from_) && decide ((everyB b (asksB n w) top).to_ ≤ a.to_))
def prefixedB (m n : SMatch) (w : UInt8) (a b : SPrefix) : Bool := bif !asksB m w then true else bif asksB n w then coversP a b else (decide (a.bits = 0) && decide ((kI n : Int) = (bif a.addr.v6 then 2 else 1)))
def spansR (one : Bool) (a : SSpan) (other : Bool) (b : SSpan) (top : UInt16) : Bool := !one || (decide (a.from_ ≤ (bif other then b else ⟨0, top⟩).from_) && decide ((bif other then b else ⟨0, top⟩).to_ ≤ a.to_))
def prefixesR (one : Bool) (a : SPrefix) (other : Bool) (b : SPrefix) (v6 : Bool) : Bool := !one || (decide (a.bits ≤ (bif other then b else ⟨⟨v6, Vector.replicate 16 0⟩, 0⟩).bits) && hasP a (bif other then b else ⟨⟨v6, Vector.replicate 16 0⟩, 0⟩).addr)
def k4R (m : SMatch) : Bool := bif asksB m 4 then !m.dst.addr.v6 else bif asksB m 2 then !m.src.addr.v6 else true
def k6R (m : SMatch) : Bool := bif asksB m 4 then m.dst.addr.v6 else bif asksB m 2 then m.src.addr.v6 else true
theorem z232 : (Tryz.prog.info? 232).bind (·.zero) = some (eAnon15.val eAnon15.zero) := by kernel_rfl
theorem ty232 : TyOK Tryz.prog 232 eAnon15 := TyOK.mk' (by kernel_rfl) (by kernel_rfl)
theorem kinds_ok (m : SMatch) (w : World) : Calls Tryz.prog 193 #[eMatch.val m] w (RetV w (I ((kI m : Nat) : Int))) := by
  refine en0 40 Tryz.func193 ?_
  refine sg (cons (box (E := eMatch) (.t rfl) (fun b1 => ?_)))
  refine co (Ev.assign (.c (v := I 0) rfl)) ?_
  refine nP (sg (co (Ev.assign (.c (v := I 3) rfl)) ?_))
  refine nP (seq (seq (draw' (by kernel_rfl) ?_)))
  refine tk 0 rfl (Ev.ldx m ty74 (.t rfl) (Lens.id _)) ?_
  refine tk 2 rfl (fA 3 (.t rfl)) ?_
  refine tk 3 rfl (fA 0 (.t rfl)) ?_
  refine tk 4 rfl (fA 0 (.t rfl)) ?_
  refine tk 5 rfl (Ev.ldx m.src.addr.v6 ty4 (.t rfl) (Lens.comp (Lens.comp SMatch.l_src SPrefix.l_addr) SAddr.l_v6)) ?_
  refine tk 7 rfl (Ev.ldx m ty74 (.t rfl) (Lens.id _)) ?_
  refine tk 9 rfl (fA 21 (.t rfl)) ?_
  refine tk 10 rfl (fA 0 (.t rfl)) ?_
  refine tk 11 rfl (fA 0 (.t rfl)) ?_
  refine tk 12 rfl (Ev.ldx m.dst.addr.v6 ty4 (.t rfl) (Lens.comp (Lens.comp SMatch.l_dst SPrefix.l_addr) SAddr.l_v6)) ?_
  refine tk 16 rfl (Ev.move (.c (v := I 0) rfl)) ?_
  refine al1 1 rfl ((callv en153 (.cons (.t rfl) (.cons (.c (v := U8 2) rfl) .nil)) (fun w I => asks_ok _ _ w) ?_))
  refine hdn (tk 6 rfl (Ev.buildS (fs := _) (places := [(0, 1), (1, 1)]) z232 rfl Tryz.underlying232 (by kernel_rfl) (.cons (.t rfl) (.cons (.t rfl) .nil)) (Fills.cons SAnon15.l_is_ rfl (Fills.cons SAnon15.l_v6 rfl Fills.nil))) ?_)
  refine al1 8 rfl ((callv en153 (.cons (.t rfl) (.cons (.c (v := U8 4) rfl) .nil)) (fun w I => asks_ok _ _ w) ?_))
  refine hdn (tk 13 rfl (Ev.buildS (fs := _) (places := [(0, 1), (1, 1)]) z232 rfl Tryz.underlying232 (by kernel_rfl) (.cons (.t rfl) (.cons (.t rfl) .nil)) (Fills.cons SAnon15.l_is_ rfl (Fills.cons SAnon15.l_v6 rfl Fills.nil))) ?_)
  refine al1 14 rfl ((buildSlice (E := eAnon15) Tryz.underlying233 ty232 z232 (.cons (.t rfl) (.cons (.t rfl) .nil)) rfl rfl (fun v2 => ?_)))
  refine hdn (al1 15 rfl ((opv (Ev.len Tryz.underlying233 (.t rfl) (by first | exact isSl_own (by repeat first | exact mH | apply mT | apply mA) | exact fun w I => IsSl.keep0 (by assumption) I.keeps)) ?_)))
  refine hdn (ovr (pN (block (lp (X := Int × Nat) (fun x : Int × Nat => (0 ≤ x.1 ∧ x.1 ≤ 2) ∧ (x.2 ≤ 3) ∧ (x.2 = ([(⟨asksB m 2, m.src.addr.v6⟩ : SAnon15), ⟨asksB m 4, m.dst.addr.v6⟩].take x.1.toNat).foldl (fun q z => kst q z.is_ z.v6) 3)) (fun x : Int × Nat => [(3, true, I ((x.2 : Nat) : Int)), (20, true, v2.v), (21, true, I 2), (22, true, I x.1)]) (fun x : Int × Nat => [OwnS v2.v eAnon15 [(⟨asksB m 2, m.src.addr.v6⟩ : SAnon15), ⟨asksB m 4, m.dst.addr.v6⟩] 232]) (fun x : Int × Nat => (2 - x.1).toNat) (0, 3) ⟨?_, ?_, ?_⟩ (fun x hx => ?_)))))
  · omega
  · omega
  · rfl
  obtain ⟨i, k⟩ := x
  obtain ⟨hi, hk, hkk⟩ : (0 ≤ i ∧ i ≤ 2) ∧ (k ≤ 3) ∧ (k = ([(⟨asksB m 2, m.src.addr.v6⟩ : SAnon15), ⟨asksB m 4, m.dst.addr.v6⟩].take i.toNat).foldl (fun q z => kst q z.is_ z.v6) 3) := hx
  show Sat _ _ [(3, true, I ((k : Nat) : Int)), (20, true, v2.v), (21, true, I 2), (22, true, I i)] [OwnS v2.v eAnon15 [(⟨asksB m 2, m.src.addr.v6⟩ : SAnon15), ⟨asksB m 4, m.dst.addr.v6⟩] 232]
  refine sg (co (Ev.lss_i (.t rfl) (.t rfl)) ?_)
  refine nP (seq ?_)
  first | refine condD rfl (fun hlt => ?_) (fun hge => ?_) | refine cond rfl (fun hlt => ?_) (fun hge => ?_)
  · try simp only [nb] at hlt
    refine skip (pN (seq (block (sg (co (Ev.indexAddr Tryz.underlying233 ty232 (.t rfl) (.t rfl) (by first | exact isSl_own (by repeat first | exact mH | apply mT | apply mA) | exact fun w I => IsSl.keep0 (by assumption) I.keeps) (fun _ => by simp; omega)) ?_)))))
    refine co (Ev.loadS0 ty232 (.t rfl) (by first | exact isSl_own (by repeat first | exact mH | apply mT | apply mA) | exact fun w I => IsSl.keep0 (by assumption) I.keeps) (fun _ => by simp; omega)) ?_
    refine cons (alloc z232 (fun b3 => ?_))
    refine cons (stv ty232 (Lens.id _) (.t rfl) (.t rfl) ?_)
    refine nP (sg (co (fA 0 (.t rfl)) ?_))
    refine co (Ev.ldv ty4 (.t rfl) SAnon15.l_is_) ?_
    refine mv rfl (cg rfl rfl (fA 1 (.t rfl)) ?_)
    refine cg rfl rfl (Ev.ldv ty4 (.g rfl id) SAnon15.l_v6) ?_
    refine co (Ev.pkA (.t rfl) rfl) ?_
    refine nP ?_
    first | refine condD rfl (fun h1 => ?_) (fun h1 => ?_) | refine cond rfl (fun h1 => ?_) (fun h1 => ?_)
    · have hk2 : k &&& 2 = kst k ([(⟨asksB m 2, m.src.addr.v6⟩ : SAnon15), ⟨asksB m 4, m.dst.addr.v6⟩].getD i.toNat eAnon15.zero).is_ ([(⟨asksB m 2, m.src.addr.v6⟩ : SAnon15), ⟨asksB m 4, m.dst.addr.v6⟩].getD i.toNat eAnon15.zero).v6 := by unfold kst; simp_all
      refine region (mv rfl (co (Ev.bits_i (m := k) (n := 2) (r := k &&& 2) (.inl rfl) (.t rfl) (.c rfl) (fun _ => by omega) (fun _ => by decide) rfl) ?_))
      refine asn rfl (nil (bN (pN (region (co (Ev.add_i (.t rfl) (.c (v := I 1) rfl) (fun _ => by omega)) ?_)))))
      refine mv rfl (nP (nx (X := Int × Nat) (i + 1, _) ⟨?_, ?_, ?_⟩ ?_))
      · try dsimp only
        omega
      · try dsimp only
        rw [hk2]; exact kst_le hk _ _
      · try dsimp only
        rw [take_snoc _ i hi.1 (by simp; omega) eAnon15.zero, List.foldl_append, ← hkk]; exact hk2
      · try dsimp only
        omega
    · refine sg (co (fA 0 (.t rfl)) ?_)
      refine co (Ev.ldv ty4 (.t rfl) SAnon15.l_is_) ?_
      refine nP ?_
      first | refine condD rfl (fun h2 => ?_) (fun h2 => ?_) | refine cond rfl (fun h2 => ?_) (fun h2 => ?_)
      · have hk2 : k &&& 1 = kst k ([(⟨asksB m 2, m.src.addr.v6⟩ : SAnon15), ⟨asksB m 4, m.dst.addr.v6⟩].getD i.toNat eAnon15.zero).is_ ([(⟨asksB m 2, m.src.addr.v6⟩ : SAnon15), ⟨asksB m 4, m.dst.addr.v6⟩].getD i.toNat eAnon15.zero).v6 := by unfold kst; simp_all
        refine region (mv rfl (co (Ev.bits_i (m := k) (n := 1) (r := k &&& 1) (.inl rfl) (.t rfl) (.c rfl) (fun _ => by omega) (fun _ => by decide) rfl) ?_))
        refine asn rfl (nil (bN (pN (region (co (Ev.add_i (.t rfl) (.c (v := I 1) rfl) (fun _ => by omega)) ?_)))))
        refine mv rfl (nP (nx (X := Int × Nat) (i + 1, _) ⟨?_, ?_, ?_⟩ ?_))
        · try dsimp only
          omega
        · try dsimp only
          rw [hk2]; exact kst_le hk _ _
        · try dsimp only
          rw [take_snoc _ i hi.1 (by simp; omega) eAnon15.zero, List.foldl_append, ← hkk]; exact hk2
        · try dsimp only
          omega
      · have hk2 : k = kst k ([(⟨asksB m 2, m.src.addr.v6⟩ : SAnon15), ⟨asksB m 4, m.dst.addr.v6⟩].getD i.toNat eAnon15.zero).is_ ([(⟨asksB m 2, m.src.addr.v6⟩ : SAnon15), ⟨asksB m 4, m.dst.addr.v6⟩].getD i.toNat eAnon15.zero).v6 := by unfold kst; simp_all
        refine skip (bN (pN (region (co (Ev.add_i (.t rfl) (.c (v := I 1) rfl) (fun _ => by omega)) ?_))))
        refine mv rfl (nP (nx (X := Int × Nat) (i + 1, _) ⟨?_, ?_, ?_⟩ ?_))
        · try dsimp only
          omega
        · try dsimp only
          rw [hk2]; exact kst_le hk _ _
        · try dsimp only
          rw [take_snoc _ i hi.1 (by simp; omega) eAnon15.zero, List.foldl_append, ← hkk]; exact hk2
        · try dsimp only
          omega
  · try simp only [nb] at hge
    refine exit (pX (pX (bX (pN (sg (mv rfl (asn rfl (nP (ret (done rfl (.tmp rfl .nil) (retE ?_)))))))))))
    have e : i.toNat = 2 := by omega
    rw [hkk, e]; rfl
theorem every_ok (s : SSpan) (is : Bool) (top : UInt16) (w : World) : Calls Tryz.prog 191 #[eSpan.val s, .bool is, U16 top] w (RetV w (eSpan.val (everyB s is top))) := by
  refine en0 12 Tryz.func191 ?_
  refine sg (cons (box (E := eSpan) (.t rfl) (fun b1 => ?_)))
  refine cons (alloc z72 (fun b2 => ?_))
  refine nP (seq (sg (mv rfl (co (Ev.not (.t rfl)) ?_))))
  refine nP ?_
  first | refine condD rfl (fun h0 => ?_) (fun h0 => ?_) | refine cond rfl (fun h0 => ?_) (fun h0 => ?_)
  · try simp only [nb] at h0
    refine region (mv rfl (co (fA 1 (.t rfl)) ?_))
    refine cons (stv ty70 SSpan.l_to_ (.t rfl) (.t rfl) ?_)
    refine nP (sg (co (Ev.ldv ty72 (.t rfl) (Lens.id _)) ?_))
    refine cons (stv ty72 (Lens.id _) (.t rfl) (.t rfl) ?_)
    refine nP (ret (done rfl (.cell rfl (fun w I => run_loadVar_pts ty72 (ptsVar (by repeat first | exact mH | apply mT | apply mA) (Lens.id _) w I)) .nil) (retE ?_)))
    unfold everyB
    cases is <;> first | rfl | simp_all
  · try simp only [nb] at h0
    refine skip (pN (sg (co (Ev.ldv ty72 (.t rfl) (Lens.id _)) ?_)))
    refine cons (stv ty72 (Lens.id _) (.t rfl) (.t rfl) ?_)
    refine nP (ret (done rfl (.cell rfl (fun w I => run_loadVar_pts ty72 (ptsVar (by repeat first | exact mH | apply mT | apply mA) (Lens.id _) w I)) .nil) (retE ?_)))
    unfold everyB
    cases is <;> first | rfl | simp_all
theorem en191 : Gx.Enters Tryz.prog 191 := Gx.Enters.mk' (by kernel_rfl)
theorem spanned_ok (m n : SMatch) (q : UInt8) (a b : SSpan) (top : UInt16) (w : World) : Calls Tryz.prog 176 #[eMatch.val m, eMatch.val n, U8 q, eSpan.val a, eSpan.val b, U16 top] w (RetV w (.bool (spannedB m n q a b top))) := by
  refine en0 37 Tryz.func176 ?_
  refine sg (cons (box (E := eMatch) (.t rfl) (fun b1 => ?_)))
  refine cons (box (E := eMatch) (.t rfl) (fun b2 => ?_))
  refine cons (box (E := eSpan) (.t rfl) (fun b3 => ?_))
  refine cons (box (E := eSpan) (.t rfl) (fun b4 => ?_))
  refine co (Ev.assign (.c (v := .bool false) rfl)) ?_
  refine nP (seq (drawS 10 rfl (by repeat first | exact Rem.head | apply Rem.tail) (by kernel_rfl) ?_))
  refine tk 1 rfl (Ev.ldx n ty74 (.t rfl) (Lens.id _)) ?_
  refine tk 2 rfl (Ev.move (.t rfl)) ?_
  refine tk 4 rfl (Ev.move (.t rfl)) ?_
  refine all [0, 3] (by kernel_rfl) (by decide) (.cons rfl ?_ (.cons rfl ?_ .nil))
  · refine (opv (Ev.ldv ty72 (.t rfl) (Lens.id _)) ?_)
    refine hdn (al1 3 rfl ((callv en153 (.cons (.t rfl) (.cons (.t rfl) .nil)) (fun w I => asks_ok _ _ w) ?_)))
    refine hdn (al1 5 rfl ((callv en191 (.cons (.t rfl) (.cons (.t rfl) (.cons (.t rfl) .nil))) (fun w I => every_ok _ _ _ w) ?_)))
    refine hdn (al1 6 rfl ((stv ty72 (Lens.id _) (.t rfl) (.t rfl) ?_)))
    refine hdn (ovr (pN (sg (co (Ev.ldx m ty74 (.t rfl) (Lens.id _)) ?_))))
    refine mv rfl (cons (callv en153 (.cons (.t rfl) (.cons (.t rfl) .nil)) (fun w I => asks_ok _ _ w) ?_))
    refine co (Ev.not (.t rfl)) ?_
    refine mv rfl (cg rfl rfl (fA 0 (.t rfl)) ?_)
    refine cg rfl rfl (Ev.ldx a.from_ ty70 (.g rfl id) SSpan.l_from_) ?_
    refine cg rfl rfl (fA 0 (.t rfl)) ?_
    refine cg rfl rfl (Ev.ldv ty70 (.g rfl id) SSpan.l_from_) ?_
    refine cg rfl rfl (Ev.leq_u16 (.g rfl id) (.g rfl id)) ?_
    refine cg rfl rfl (Ev.move (.g rfl id)) ?_
    refine cg rfl rfl (fA 1 (.t rfl)) ?_
    refine cg rfl rfl (Ev.ldv ty70 (.g rfl id) SSpan.l_to_) ?_
    refine cg rfl rfl (fA 1 (.t rfl)) ?_
    refine cg rfl rfl (Ev.ldx a.to_ ty70 (.g rfl id) SSpan.l_to_) ?_
    refine cg rfl rfl (Ev.leq_u16 (.g rfl id) (.g rfl id)) ?_
    refine cg rfl rfl (Ev.pkA (.g rfl id) rfl) ?_
    refine co (Ev.pkO (.t rfl) rfl) ?_
    refine asn rfl (nP (ret (done rfl (.tmp rfl .nil) (retE ?_))))
    rfl
  · refine (callv en153 (.cons (.t rfl) (.cons (.t rfl) .nil)) (fun w I => asks_ok _ _ w) ?_)
    refine hdn (al1 0 rfl ((opv (Ev.ldv ty72 (.t rfl) (Lens.id _)) ?_)))
    refine hdn (al1 5 rfl ((callv en191 (.cons (.t rfl) (.cons (.t rfl) (.cons (.t rfl) .nil))) (fun w I => every_ok _ _ _ w) ?_)))
    refine hdn (al1 6 rfl ((stv ty72 (Lens.id _) (.t rfl) (.t rfl) ?_)))
    refine hdn (ovr (pN (sg (co (Ev.ldx m ty74 (.t rfl) (Lens.id _)) ?_))))
    refine mv rfl (cons (callv en153 (.cons (.t rfl) (.cons (.t rfl) .nil)) (fun w I => asks_ok _ _ w) ?_))
    refine co (Ev.not (.t rfl)) ?_
    refine mv rfl (cg rfl rfl (fA 0 (.t rfl)) ?_)
    refine cg rfl rfl (Ev.ldx a.from_ ty70 (.g rfl id) SSpan.l_from_) ?_
    refine cg rfl rfl (fA 0 (.t rfl)) ?_
    refine cg rfl rfl (Ev.ldv ty70 (.g rfl id) SSpan.l_from_) ?_
    refine cg rfl rfl (Ev.leq_u16 (.g rfl id) (.g rfl id)) ?_
    refine cg rfl rfl (Ev.move (.g rfl id)) ?_
    refine cg rfl rfl (fA 1 (.t rfl)) ?_
    refine cg rfl rfl (Ev.ldv ty70 (.g rfl id) SSpan.l_to_) ?_
    refine cg rfl rfl (fA 1 (.t rfl)) ?_
    refine cg rfl rfl (Ev.ldx a.to_ ty70 (.g rfl id) SSpan.l_to_) ?_
    refine cg rfl rfl (Ev.leq_u16 (.g rfl id) (.g rfl id)) ?_
    refine cg rfl rfl (Ev.pkA (.g rfl id) rfl) ?_
    refine co (Ev.pkO (.t rfl) rfl) ?_
    refine asn rfl (nP (ret (done rfl (.tmp rfl .nil) (retE ?_))))
    rfl
theorem en192 : Gx.Enters Tryz.prog 192 := Gx.Enters.mk' (by kernel_rfl)
theorem en193 : Gx.Enters Tryz.prog 193 := Gx.Enters.mk' (by kernel_rfl)
theorem prefixed_ok (m n : SMatch) (q : UInt8) (a b : SPrefix) (w : World) : Calls Tryz.prog 177 #[eMatch.val m, eMatch.val n, U8 q, ePrefix.val a, ePrefix.val b] w (RetV w (.bool (prefixedB m n q a b))) := by
  refine en0 36 Tryz.func177 ?_
  refine sg (cons (box (E := eMatch) (.t rfl) (fun b1 => ?_)))
  refine cons (box (E := eMatch) (.t rfl) (fun b2 => ?_))
  refine cons (box (E := ePrefix) (.t rfl) (fun b3 => ?_))
  refine cons (box (E := ePrefix) (.t rfl) (fun b4 => ?_))
  refine co (Ev.assign (.c (v := .bool false) rfl)) ?_
  refine nP (seq (block (sg (co (Ev.ldx m ty74 (.t rfl) (Lens.id _)) ?_))))
  refine mv rfl (cons (callv en153 (.cons (.t rfl) (.cons (.t rfl) .nil)) (fun w I => asks_ok _ _ w) ?_))
  refine co (Ev.not (.t rfl)) ?_
  refine asn rfl (nP ?_)
  first | refine condD rfl (fun h0 => ?_) (fun h0 => ?_) | refine cond rfl (fun h0 => ?_) (fun h0 => ?_)
  · try simp only [nb] at h0
    refine sg (co (Ev.assign (.c (v := .bool true) rfl)) ?_)
    refine nP (ret (bR (pR (done rfl (.tmp rfl .nil) (retE ?_)))))
    simp_all [prefixedB, asksB, tupV]
  · try simp only [nb] at h0
    refine sg (co (Ev.ldx n ty74 (.t rfl) (Lens.id _)) ?_)
    refine mv rfl (cons (callv en153 (.cons (.t rfl) (.cons (.t rfl) .nil)) (fun w I => asks_ok _ _ w) ?_))
    refine asn rfl (nP ?_)
    first | refine condD rfl (fun h1 => ?_) (fun h1 => ?_) | refine cond rfl (fun h1 => ?_) (fun h1 => ?_)
    · try simp only [nb] at h1
      refine sg (co (Ev.ldx a ty50 (.t rfl) (Lens.id _)) ?_)
      refine co (Ev.ldx b ty50 (.t rfl) (Lens.id _)) ?_
      refine cons (callv en192 (.cons (.t rfl) (.cons (.t rfl) .nil)) (fun w I => coversP_ok _ _ w) ?_)
      refine asn rfl (nP (ret (bR (pR (done rfl (.tmp rfl .nil) (retE ?_))))))
      simp_all [prefixedB, asksB, tupV]
    · try simp only [nb] at h1
      refine skip (bN (pN (sg (co (Ev.assign (.c (v := I 1) rfl)) ?_))))
      refine nP (seq (sg (co (fA 0 (.t rfl)) ?_)))
      refine co (fA 0 (.t rfl)) ?_
      refine co (Ev.ldx a.addr.v6 ty4 (.t rfl) (Lens.comp SPrefix.l_addr SAddr.l_v6)) ?_
      refine nP ?_
      first | refine condD rfl (fun h2 => ?_) (fun h2 => ?_) | refine cond rfl (fun h2 => ?_) (fun h2 => ?_)
      · try simp only [nb] at h2
        refine region (co (Ev.assign (.c (v := I 2) rfl)) ?_)
        refine nP (sg (co (fA 17 (.t rfl)) ?_))
        refine co (Ev.ldx a.bits ty3 (.t rfl) SPrefix.l_bits) ?_
        refine co (Ev.eql_i (.t rfl) (.c (v := I 0) rfl)) ?_
        refine mv rfl (cg rfl rfl (Ev.ldx n ty74 (.t rfl) (Lens.id _)) ?_)
        refine cons (callg rfl rfl en193 (.cons (.g rfl id) .nil) (fun hg w I => kinds_ok _ w) ?_)
        refine cg rfl rfl (Ev.move (.t rfl)) ?_
        refine cg rfl rfl (Ev.eql_i (.g rfl id) (.g rfl id)) ?_
        refine co (Ev.pkA (.t rfl) rfl) ?_
        refine asn rfl (nP (ret (done rfl (.tmp rfl .nil) (retE ?_))))
        simp_all [prefixedB, asksB, tupV]
      · try simp only [nb] at h2
        refine skip (pN (sg (co (fA 17 (.t rfl)) ?_)))
        refine co (Ev.ldx a.bits ty3 (.t rfl) SPrefix.l_bits) ?_
        refine co (Ev.eql_i (.t rfl) (.c (v := I 0) rfl)) ?_
        refine mv rfl (cg rfl rfl (Ev.ldx n ty74 (.t rfl) (Lens.id _)) ?_)
        refine cons (callg rfl rfl en193 (.cons (.g rfl id) .nil) (fun hg w I => kinds_ok _ w) ?_)
        refine cg rfl rfl (Ev.move (.t rfl)) ?_
        refine cg rfl rfl (Ev.eql_i (.g rfl id) (.g rfl id)) ?_
        refine co (Ev.pkA (.t rfl) rfl) ?_
        refine asn rfl (nP (ret (done rfl (.tmp rfl .nil) (retE ?_))))
        simp_all [prefixedB, asksB, tupV]
def unlikeB (a b : SSpan) : Bool := decide (a.to_ < b.from_) || decide (b.to_ < a.from_)
def coversM (m n : SMatch) : Bool := (okM m && okM n) && (!(asksB m 8 && (!asksB n 8 || decide (¬ m.proto = n.proto))) && (spannedB m n 1 m.in_ n.in_ 255 && prefixedB m n 2 m.src n.src && prefixedB m n 4 m.dst n.dst && spannedB m n 16 m.srcPort n.srcPort 65535 && spannedB m n 32 m.dstPort n.dstPort 65535))
def pfx (m n : SMatch) (v : Bool) : Bool := prefixesR (asksB m 2) m.src (asksB n 2) n.src v && prefixesR (asksB m 4) m.dst (asksB n 4) n.dst v
def coversR (m n : SMatch) : Bool := (okM m && okM n) && (spansR (asksB m 1) m.in_ (asksB n 1) n.in_ 255 && ((!k4R n || pfx m n false) && (!k6R n || pfx m n true)) && !(asksB m 8 && (!asksB n 8 || decide (¬ m.proto = n.proto))) && (spansR (asksB m 16) m.srcPort (asksB n 16) n.srcPort 65535 && spansR (asksB m 32) m.dstPort (asksB n 32) n.dstPort 65535))
def both2 (m n : SMatch) (w : UInt8) : Bool := decide (¬ (m.asks &&& n.asks) &&& w = 0)
def apartM (m n : SMatch) : Bool := (okM m && okM n) && (decide (((kI m &&& kI n : Nat) : Int) = 0) || (both2 m n 8 && decide (¬ m.proto = n.proto)) || (both2 m n 1 && unlikeB m.in_ n.in_) || (both2 m n 16 && unlikeB m.srcPort n.srcPort) || (both2 m n 32 && unlikeB m.dstPort n.dstPort) || (both2 m n 2 && !coversP m.src n.src && !coversP n.src m.src) || (both2 m n 4 && !coversP m.dst n.dst && !coversP n.dst m.dst))
def meetB (p q : SPrefix) : Bool := hasP p q.addr || hasP q p.addr
def apartR (m n : SMatch) : Bool := (okM m && okM n) && ((asksB m 1 && asksB n 1 && unlikeB m.in_ n.in_) || !((k4R m && k4R n) || (k6R m && k6R n)) || (asksB m 8 && asksB n 8 && decide (¬ m.proto = n.proto)) || (asksB m 2 && asksB n 2 && !meetB m.src n.src) || (asksB m 4 && asksB n 4 && !meetB m.dst n.dst) || (asksB m 16 && asksB n 16 && unlikeB m.srcPort n.srcPort) || (asksB m 32 && asksB n 32 && unlikeB m.dstPort n.dstPort))
theorem en176 : Gx.Enters Tryz.prog 176 := Gx.Enters.mk' (by kernel_rfl)
theorem en177 : Gx.Enters Tryz.prog 177 := Gx.Enters.mk' (by kernel_rfl)
theorem covers_ok (m n : SMatch) (w : World) : Calls Tryz.prog 149 #[eMatch.val m, eMatch.val n] w (RetV w (.bool (coversM m n))) := by
  refine en0 70 Tryz.func149 ?_
  refine sg (cons (box (E := eMatch) (.t rfl) (fun b1 => ?_)))
  refine cons (box (E := eMatch) (.t rfl) (fun b2 => ?_))
  refine co (Ev.assign (.c (v := .bool false) rfl)) ?_
  refine nP (seq (sg (co (Ev.ldx m ty74 (.t rfl) (Lens.id _)) ?_)))
  refine cons (callv en117 (.cons (.t rfl) .nil) (fun w I => check_ok _ w) ?_)
  refine co (Ev.to (v' := .bool (!okM m)) (Ev.neq_i (.t rfl) (.c (v := I 0) rfl)) (congrArg Value.bool (by rw [← ckM_zero]; simp))) ?_
  refine mv rfl (cg rfl rfl (Ev.ldx n ty74 (.t rfl) (Lens.id _)) ?_)
  refine cons (callg rfl rfl en117 (.cons (.g rfl id) .nil) (fun hg w I => check_ok _ w) ?_)
  refine cg rfl rfl (Ev.to (v' := .bool (!okM n)) (Ev.neq_i (.g rfl id) (.c (v := I 0) rfl)) (congrArg Value.bool (by rw [← ckM_zero]; simp))) ?_
  refine co (Ev.pkO (.t rfl) rfl) ?_
  refine nP ?_
  first | refine condD rfl (fun h0 => ?_) (fun h0 => ?_) | refine cond rfl (fun h0 => ?_) (fun h0 => ?_)
  · refine sg (co (Ev.assign (.c (v := .bool false) rfl)) ?_)
    refine nP (ret (pR (done rfl (.tmp rfl .nil) (retE ?_))))
    refine bX2 ?_
    unfold coversM
    have h0c : (okM m && okM n) = false := by cases ha : okM m <;> cases hb : okM n <;> simp_all
    rw [h0c]; rfl
  · refine skip (pN (seq (sg (co (Ev.ldx m ty74 (.t rfl) (Lens.id _)) ?_))))
    refine cons (callv en153 (.cons (.t rfl) (.cons (.c (v := U8 8) rfl) .nil)) (fun w I => asks_ok _ _ w) ?_)
    refine mv rfl (cg rfl rfl (Ev.ldx n ty74 (.t rfl) (Lens.id _)) ?_)
    refine cons (callg rfl rfl en153 (.cons (.g rfl id) (.cons (.c (v := U8 8) rfl) .nil)) (fun hg w I => asks_ok _ _ w) ?_)
    refine cg rfl rfl (Ev.not (.g rfl id)) ?_
    refine cg rfl rfl (Ev.move (.g rfl id)) ?_
    refine cg rfl rfl (fA 39 (.t rfl)) ?_
    refine cg rfl rfl (Ev.ldx m.proto ty5 (.g rfl id) SMatch.l_proto) ?_
    refine cg rfl rfl (fA 39 (.t rfl)) ?_
    refine cg rfl rfl (Ev.ldx n.proto ty5 (.g rfl id) SMatch.l_proto) ?_
    refine cg rfl rfl (Ev.neq_u8 (.g rfl id) (.g rfl id)) ?_
    refine cg rfl rfl (Ev.pkO (.g rfl id) rfl) ?_
    refine co (Ev.pkA (.t rfl) rfl) ?_
    refine nP ?_
    first | refine condD rfl (fun h1 => ?_) (fun h1 => ?_) | refine cond rfl (fun h1 => ?_) (fun h1 => ?_)
    · refine sg (co (Ev.assign (.c (v := .bool false) rfl)) ?_)
      refine nP (ret (pR (done rfl (.tmp rfl .nil) (retE ?_))))
      refine bX2 ?_
      unfold coversM
      rw [h1]; simp
    · refine skip (pN (sg (co (Ev.ldx m ty74 (.t rfl) (Lens.id _)) ?_)))
      refine co (Ev.ldx n ty74 (.t rfl) (Lens.id _)) ?_
      refine co (fA 1 (.t rfl)) ?_
      refine co (Ev.ldx m.in_ ty72 (.t rfl) SMatch.l_in_) ?_
      refine co (fA 1 (.t rfl)) ?_
      refine co (Ev.ldx n.in_ ty72 (.t rfl) SMatch.l_in_) ?_
      refine cons (callv en176 (.cons (.t rfl) (.cons (.t rfl) (.cons (.c (v := U8 1) rfl) (.cons (.t rfl) (.cons (.t rfl) (.cons (.c (v := U16 255) rfl) .nil)))))) (fun w I => spanned_ok _ _ _ _ _ _ w) ?_)
      refine mv rfl (cg rfl rfl (Ev.ldx m ty74 (.t rfl) (Lens.id _)) ?_)
      refine cg rfl rfl (Ev.ldx n ty74 (.t rfl) (Lens.id _)) ?_
      refine cg rfl rfl (fA 3 (.t rfl)) ?_
      refine cg rfl rfl (Ev.ldx m.src ty50 (.g rfl id) SMatch.l_src) ?_
      refine cg rfl rfl (fA 3 (.t rfl)) ?_
      refine cg rfl rfl (Ev.ldx n.src ty50 (.g rfl id) SMatch.l_src) ?_
      refine cons (callg rfl rfl en177 (.cons (.g rfl id) (.cons (.g rfl id) (.cons (.c (v := U8 2) rfl) (.cons (.g rfl id) (.cons (.g rfl id) .nil))))) (fun hg w I => prefixed_ok _ _ _ _ _ w) ?_)
      refine co (Ev.pkA (.t rfl) rfl) ?_
      refine mv rfl (cg rfl rfl (Ev.ldx m ty74 (.t rfl) (Lens.id _)) ?_)
      refine cg rfl rfl (Ev.ldx n ty74 (.t rfl) (Lens.id _)) ?_
      refine cg rfl rfl (fA 21 (.t rfl)) ?_
      refine cg rfl rfl (Ev.ldx m.dst ty50 (.g rfl id) SMatch.l_dst) ?_
      refine cg rfl rfl (fA 21 (.t rfl)) ?_
      refine cg rfl rfl (Ev.ldx n.dst ty50 (.g rfl id) SMatch.l_dst) ?_
      refine cons (callg rfl rfl en177 (.cons (.g rfl id) (.cons (.g rfl id) (.cons (.c (v := U8 4) rfl) (.cons (.g rfl id) (.cons (.g rfl id) .nil))))) (fun hg w I => prefixed_ok _ _ _ _ _ w) ?_)
      refine co (Ev.pkA (.t rfl) rfl) ?_
      refine mv rfl (cg rfl rfl (Ev.ldx m ty74 (.t rfl) (Lens.id _)) ?_)
      refine cg rfl rfl (Ev.ldx n ty74 (.t rfl) (Lens.id _)) ?_
      refine cg rfl rfl (fA 40 (.t rfl)) ?_
      refine cg rfl rfl (Ev.ldx m.srcPort ty72 (.g rfl id) SMatch.l_srcPort) ?_
      refine cg rfl rfl (fA 40 (.t rfl)) ?_
      refine cg rfl rfl (Ev.ldx n.srcPort ty72 (.g rfl id) SMatch.l_srcPort) ?_
      refine cons (callg rfl rfl en176 (.cons (.g rfl id) (.cons (.g rfl id) (.cons (.c (v := U8 16) rfl) (.cons (.g rfl id) (.cons (.g rfl id) (.cons (.c (v := U16 65535) rfl) .nil)))))) (fun hg w I => spanned_ok _ _ _ _ _ _ w) ?_)
      refine co (Ev.pkA (.t rfl) rfl) ?_
      refine mv rfl (cg rfl rfl (Ev.ldx m ty74 (.t rfl) (Lens.id _)) ?_)
      refine cg rfl rfl (Ev.ldx n ty74 (.t rfl) (Lens.id _)) ?_
      refine cg rfl rfl (fA 42 (.t rfl)) ?_
      refine cg rfl rfl (Ev.ldx m.dstPort ty72 (.g rfl id) SMatch.l_dstPort) ?_
      refine cg rfl rfl (fA 42 (.t rfl)) ?_
      refine cg rfl rfl (Ev.ldx n.dstPort ty72 (.g rfl id) SMatch.l_dstPort) ?_
      refine cons (callg rfl rfl en176 (.cons (.g rfl id) (.cons (.g rfl id) (.cons (.c (v := U8 32) rfl) (.cons (.g rfl id) (.cons (.g rfl id) (.cons (.c (v := U16 65535) rfl) .nil)))))) (fun hg w I => spanned_ok _ _ _ _ _ _ w) ?_)
      refine co (Ev.pkA (.t rfl) rfl) ?_
      refine asn rfl (nP (ret (done rfl (.tmp rfl .nil) (retE ?_))))
      refine bX2 ?_
      unfold coversM
      have h0c : (okM m && okM n) = true := by simpa using h0
      rw [h0c, h1]; simp [Bool.and_assoc]
structure Ok (m : SMatch) : Prop where
  in_ : asksB m 1 = false → m.in_ = eSpan.zero
  src : asksB m 2 = false → m.src = ePrefix.zero
  dst : asksB m 4 = false → m.dst = ePrefix.zero
  proto : asksB m 8 = false → m.proto = 0
  srcPort : asksB m 16 = false → m.srcPort = eSpan.zero
  dstPort : asksB m 32 = false → m.dstPort = eSpan.zero
  csrc : asksB m 2 = true → checkP m.src = 0
  cdst : asksB m 4 = true → checkP m.dst = 0
  same : asksB m 2 = true → asksB m 4 = true → m.src.addr.v6 = m.dst.addr.v6
theorem Ok.of {m : SMatch} (h : okM m = true) : Ok m := by
  unfold okM bad0 bad2 at h
  simp at h
  obtain ⟨⟨⟨h0, _⟩, h2⟩, _⟩ := h
  have r : ∀ {x : Bool} {p : Prop}, (x = true ∨ p) → x = false → p := fun h e => h.resolve_left (by rw [e]; simp)
  have q : ∀ {x : Bool} {p : Prop}, (x = false ∨ p) → x = true → p := fun h e => h.resolve_left (by rw [e]; simp)
  exact ⟨r h0.1.1.1.1.1.2, r h0.1.1.1.1.2, r h0.1.1.1.2, r h0.1.1.2, r h0.1.2, r h0.2, q h2.1.1, q h2.1.2, fun e1 e2 => by simpa [e1, e2] using h2.2⟩
def qM (k : Nat) (m : SMatch) (n : Int) (h : SHeader) : Bool := match k with
  | 0 => withinB m.in_ n
  | 1 => decide (h.proto = m.proto)
  | 2 => hasP m.src h.src
  | 3 => hasP m.dst h.dst
  | 4 => withinB m.srcPort h.srcPort.toNat
  | _ => withinB m.dstPort h.dstPort.toNat
def fM (k : Nat) : Nat := ([168, 170, 171, 173, 174, 175] : List Nat).getD k 0
def ksA (c : Bool) (k : Nat) (l : List Nat) : List Nat := bif c then l ++ [k] else l
def ks (m : SMatch) : List Nat := ksA (asksB m 32) 5 (ksA (asksB m 16) 4 (ksA (asksB m 4) 3 (ksA (asksB m 2) 2 (ksA (asksB m 8) 1 (ksA (asksB m 1) 0 [])))))
def closL (p : Nat) (l : List Nat) : List OV := l.map fun k => clo (fM k) [.pointer (some ⟨p, 0, none⟩)]
def clos (m : SMatch) (p : Nat) : List OV := closL p (ks m)
def metB (m : SMatch) (n : Int) (h : SHeader) : Bool := (ks m).all fun k => qM k m n h
def meetsB (m : SMatch) (n : Int) (h : SHeader) : Bool := okM m && metB m n h
theorem ty249 : TyOK Tryz.prog 249 (ovE nilFn) := TyOK.mk' (by kernel_rfl) (by kernel_rfl)
theorem z249 : (Tryz.prog.info? 249).bind (·.zero) = some ((ovE nilFn).val (ovE nilFn).zero) := by kernel_rfl
theorem zb249 : (Tryz.prog.info? 249).map (fun i => (i.zero, i.bytes)) = some (some ((ovE nilFn).val (ovE nilFn).zero), 8) := by kernel_rfl
theorem zs249 : ((ovE nilFn).val (ovE nilFn).zero).cells.size = (ovE nilFn).size := by rw [Enc.cells_val, List.size_toArray, Enc.len]
theorem compiled_ok (m : SMatch) (w : World) : Calls Tryz.prog 148 #[eMatch.val m] w (RetN w (fun _ : OV × Nat => True) (fun x => x.1.v) (fun x => [OwnS x.1.v (ovE nilFn) (clos m x.2) 249, Var x.2 eMatch m 74])) := by
  refine en0 41 Tryz.func148 ?_
  refine sg (cons (box (E := eMatch) (.t rfl) (fun b1 => ?_)))
  refine co (Ev.assign (.c (v := (Go.Value.slice none 0 0)) rfl)) ?_
  refine nP (sg (co (Ev.assign (.c (v := (Go.Value.slice none 0 0)) rfl)) ?_))
  refine takeNil (ovE nilFn) 249 ?_
  refine nP (cut (X := OV × (List Nat)) (fun x : OV × (List Nat) => (x.2 = ksA (asksB m 1) 0 []) ∧ (x.2.length ≤ 1)) (fun x : OV × (List Nat) => [(1, true, .pointer (some ⟨b1, 0, none⟩)), (3, true, x.1.v)]) (fun x : OV × (List Nat) => [OwnS x.1.v (ovE nilFn) (closL b1 x.2) 249, Var b1 eMatch m 74]) ?_ (fun x hx => ?_))
  · refine sg (co (Ev.ldx m ty74 (.t rfl) (Lens.id _)) ?_)
    refine cons (callv en153 (.cons (.t rfl) (.cons (.c (v := U8 1) rfl) .nil)) (fun w I => asks_ok _ _ w) ?_)
    refine nP ?_
    first | refine condD rfl (fun h0 => ?_) (fun h0 => ?_) | refine cond rfl (fun h0 => ?_) (fun h0 => ?_)
    · refine region (mv rfl (co (Ev.makeFunc (f := 168) (.cons (.t rfl) .nil)) ?_))
      refine cons (buildSlice (E := (ovE nilFn)) Tryz.underlying192 ty249 z249 (.cons (.t rfl) .nil) rfl rfl (fun v2 => ?_))
      refine cons (app (E := (ovE nilFn)) Tryz.underlying192 ty249 zb249 zs249 (.t rfl) (.t rfl) (fun v3 => ?_) (hby := ⟨by first | ((show _ ≤ 9223372036854775807); simp; done) | ((show _ ≤ 9223372036854775807); simp [closL]; omega), by first | (simp; done) | (simp [closL]; omega)⟩))
      refine asn rfl (nP (mt (X := OV × (List Nat)) (_, [] ++ [0]) ⟨?_, ?_⟩ (hL := (by first | exact List.Sublist.refl _ | (simp only [closL, List.map_append, List.map_cons, List.map_nil]; repeat first | exact List.Sublist.refl _ | apply List.Sublist.cons_cons | apply List.Sublist.cons)))))
      · try dsimp only
        unfold ksA; simp_all [asksB]
      · try dsimp only
        first | omega | (simp; omega) | simp
    · refine skip (pN (mt (X := OV × (List Nat)) (nilSl, []) ⟨?_, ?_⟩ (hL := (by first | exact List.Sublist.refl _ | (simp only [closL, List.map_append, List.map_cons, List.map_nil]; repeat first | exact List.Sublist.refl _ | apply List.Sublist.cons_cons | apply List.Sublist.cons)))))
      · try dsimp only
        unfold ksA; simp_all [asksB]
      · try dsimp only
        first | omega | (simp; omega) | simp
  obtain ⟨o1, l1⟩ := x
  obtain ⟨hl1, hn1⟩ : (l1 = ksA (asksB m 1) 0 []) ∧ (l1.length ≤ 1) := hx
  show Sat _ _ [(1, true, .pointer (some ⟨b1, 0, none⟩)), (3, true, o1.v)] [OwnS o1.v (ovE nilFn) (closL b1 l1) 249, Var b1 eMatch m 74]
  refine cut (X := OV × (List Nat)) (fun x : OV × (List Nat) => (x.2 = ksA (asksB m 8) 1 l1) ∧ (x.2.length ≤ 2)) (fun x : OV × (List Nat) => [(1, true, .pointer (some ⟨b1, 0, none⟩)), (3, true, x.1.v)]) (fun x : OV × (List Nat) => [OwnS x.1.v (ovE nilFn) (closL b1 x.2) 249, Var b1 eMatch m 74]) ?_ (fun x hx => ?_)
  · refine sg (co (Ev.ldx m ty74 (.t rfl) (Lens.id _)) ?_)
    refine cons (callv en153 (.cons (.t rfl) (.cons (.c (v := U8 8) rfl) .nil)) (fun w I => asks_ok _ _ w) ?_)
    refine nP ?_
    first | refine condD rfl (fun h1 => ?_) (fun h1 => ?_) | refine cond rfl (fun h1 => ?_) (fun h1 => ?_)
    · refine region (mv rfl (co (Ev.makeFunc (f := 170) (.cons (.t rfl) .nil)) ?_))
      refine cons (buildSlice (E := (ovE nilFn)) Tryz.underlying192 ty249 z249 (.cons (.t rfl) .nil) rfl rfl (fun v4 => ?_))
      refine cons (app (E := (ovE nilFn)) Tryz.underlying192 ty249 zb249 zs249 (.t rfl) (.t rfl) (fun v5 => ?_) (hby := ⟨by first | ((show _ ≤ 9223372036854775807); simp; done) | ((show _ ≤ 9223372036854775807); simp [closL]; omega), by first | (simp; done) | (simp [closL]; omega)⟩))
      refine asn rfl (nP (mt (X := OV × (List Nat)) (_, l1 ++ [1]) ⟨?_, ?_⟩ (hL := (by first | exact List.Sublist.refl _ | (simp only [closL, List.map_append, List.map_cons, List.map_nil]; repeat first | exact List.Sublist.refl _ | apply List.Sublist.cons_cons | apply List.Sublist.cons)))))
      · try dsimp only
        unfold ksA; simp_all [asksB]
      · try dsimp only
        first | omega | (simp; omega) | simp
    · refine skip (pN (mt (X := OV × (List Nat)) (o1, l1) ⟨?_, ?_⟩ (hL := (by first | exact List.Sublist.refl _ | (simp only [closL, List.map_append, List.map_cons, List.map_nil]; repeat first | exact List.Sublist.refl _ | apply List.Sublist.cons_cons | apply List.Sublist.cons)))))
      · try dsimp only
        unfold ksA; simp_all [asksB]
      · try dsimp only
        first | omega | (simp; omega) | simp
  obtain ⟨o2, l2⟩ := x
  obtain ⟨hl2, hn2⟩ : (l2 = ksA (asksB m 8) 1 l1) ∧ (l2.length ≤ 2) := hx
  show Sat _ _ [(1, true, .pointer (some ⟨b1, 0, none⟩)), (3, true, o2.v)] [OwnS o2.v (ovE nilFn) (closL b1 l2) 249, Var b1 eMatch m 74]
  refine cut (X := OV × (List Nat)) (fun x : OV × (List Nat) => (x.2 = ksA (asksB m 2) 2 l2) ∧ (x.2.length ≤ 3)) (fun x : OV × (List Nat) => [(1, true, .pointer (some ⟨b1, 0, none⟩)), (3, true, x.1.v)]) (fun x : OV × (List Nat) => [OwnS x.1.v (ovE nilFn) (closL b1 x.2) 249, Var b1 eMatch m 74]) ?_ (fun x hx => ?_)
  · refine sg (co (Ev.ldx m ty74 (.t rfl) (Lens.id _)) ?_)
    refine cons (callv en153 (.cons (.t rfl) (.cons (.c (v := U8 2) rfl) .nil)) (fun w I => asks_ok _ _ w) ?_)
    refine nP ?_
    first | refine condD rfl (fun h2 => ?_) (fun h2 => ?_) | refine cond rfl (fun h2 => ?_) (fun h2 => ?_)
    · refine region (mv rfl (co (Ev.makeFunc (f := 171) (.cons (.t rfl) .nil)) ?_))
      refine cons (buildSlice (E := (ovE nilFn)) Tryz.underlying192 ty249 z249 (.cons (.t rfl) .nil) rfl rfl (fun v6 => ?_))
      refine cons (app (E := (ovE nilFn)) Tryz.underlying192 ty249 zb249 zs249 (.t rfl) (.t rfl) (fun v7 => ?_) (hby := ⟨by first | ((show _ ≤ 9223372036854775807); simp; done) | ((show _ ≤ 9223372036854775807); simp [closL]; omega), by first | (simp; done) | (simp [closL]; omega)⟩))
      refine asn rfl (nP (mt (X := OV × (List Nat)) (_, l2 ++ [2]) ⟨?_, ?_⟩ (hL := (by first | exact List.Sublist.refl _ | (simp only [closL, List.map_append, List.map_cons, List.map_nil]; repeat first | exact List.Sublist.refl _ | apply List.Sublist.cons_cons | apply List.Sublist.cons)))))
      · try dsimp only
        unfold ksA; simp_all [asksB]
      · try dsimp only
        first | omega | (simp; omega) | simp
    · refine skip (pN (mt (X := OV × (List Nat)) (o2, l2) ⟨?_, ?_⟩ (hL := (by first | exact List.Sublist.refl _ | (simp only [closL, List.map_append, List.map_cons, List.map_nil]; repeat first | exact List.Sublist.refl _ | apply List.Sublist.cons_cons | apply List.Sublist.cons)))))
      · try dsimp only
        unfold ksA; simp_all [asksB]
      · try dsimp only
        first | omega | (simp; omega) | simp
  obtain ⟨o3, l3⟩ := x
  obtain ⟨hl3, hn3⟩ : (l3 = ksA (asksB m 2) 2 l2) ∧ (l3.length ≤ 3) := hx
  show Sat _ _ [(1, true, .pointer (some ⟨b1, 0, none⟩)), (3, true, o3.v)] [OwnS o3.v (ovE nilFn) (closL b1 l3) 249, Var b1 eMatch m 74]
  refine cut (X := OV × (List Nat)) (fun x : OV × (List Nat) => (x.2 = ksA (asksB m 4) 3 l3) ∧ (x.2.length ≤ 4)) (fun x : OV × (List Nat) => [(1, true, .pointer (some ⟨b1, 0, none⟩)), (3, true, x.1.v)]) (fun x : OV × (List Nat) => [OwnS x.1.v (ovE nilFn) (closL b1 x.2) 249, Var b1 eMatch m 74]) ?_ (fun x hx => ?_)
  · refine sg (co (Ev.ldx m ty74 (.t rfl) (Lens.id _)) ?_)
    refine cons (callv en153 (.cons (.t rfl) (.cons (.c (v := U8 4) rfl) .nil)) (fun w I => asks_ok _ _ w) ?_)
    refine nP ?_
    first | refine condD rfl (fun h3 => ?_) (fun h3 => ?_) | refine cond rfl (fun h3 => ?_) (fun h3 => ?_)
    · refine region (mv rfl (co (Ev.makeFunc (f := 173) (.cons (.t rfl) .nil)) ?_))
      refine cons (buildSlice (E := (ovE nilFn)) Tryz.underlying192 ty249 z249 (.cons (.t rfl) .nil) rfl rfl (fun v8 => ?_))
      refine cons (app (E := (ovE nilFn)) Tryz.underlying192 ty249 zb249 zs249 (.t rfl) (.t rfl) (fun v9 => ?_) (hby := ⟨by first | ((show _ ≤ 9223372036854775807); simp; done) | ((show _ ≤ 9223372036854775807); simp [closL]; omega), by first | (simp; done) | (simp [closL]; omega)⟩))
      refine asn rfl (nP (mt (X := OV × (List Nat)) (_, l3 ++ [3]) ⟨?_, ?_⟩ (hL := (by first | exact List.Sublist.refl _ | (simp only [closL, List.map_append, List.map_cons, List.map_nil]; repeat first | exact List.Sublist.refl _ | apply List.Sublist.cons_cons | apply List.Sublist.cons)))))
      · try dsimp only
        unfold ksA; simp_all [asksB]
      · try dsimp only
        first | omega | (simp; omega) | simp
    · refine skip (pN (mt (X := OV × (List Nat)) (o3, l3) ⟨?_, ?_⟩ (hL := (by first | exact List.Sublist.refl _ | (simp only [closL, List.map_append, List.map_cons, List.map_nil]; repeat first | exact List.Sublist.refl _ | apply List.Sublist.cons_cons | apply List.Sublist.cons)))))
      · try dsimp only
        unfold ksA; simp_all [asksB]
      · try dsimp only
        first | omega | (simp; omega) | simp
  obtain ⟨o4, l4⟩ := x
  obtain ⟨hl4, hn4⟩ : (l4 = ksA (asksB m 4) 3 l3) ∧ (l4.length ≤ 4) := hx
  show Sat _ _ [(1, true, .pointer (some ⟨b1, 0, none⟩)), (3, true, o4.v)] [OwnS o4.v (ovE nilFn) (closL b1 l4) 249, Var b1 eMatch m 74]
  refine cut (X := OV × (List Nat)) (fun x : OV × (List Nat) => (x.2 = ksA (asksB m 16) 4 l4) ∧ (x.2.length ≤ 5)) (fun x : OV × (List Nat) => [(1, true, .pointer (some ⟨b1, 0, none⟩)), (3, true, x.1.v)]) (fun x : OV × (List Nat) => [OwnS x.1.v (ovE nilFn) (closL b1 x.2) 249, Var b1 eMatch m 74]) ?_ (fun x hx => ?_)
  · refine sg (co (Ev.ldx m ty74 (.t rfl) (Lens.id _)) ?_)
    refine cons (callv en153 (.cons (.t rfl) (.cons (.c (v := U8 16) rfl) .nil)) (fun w I => asks_ok _ _ w) ?_)
    refine nP ?_
    first | refine condD rfl (fun h4 => ?_) (fun h4 => ?_) | refine cond rfl (fun h4 => ?_) (fun h4 => ?_)
    · refine region (mv rfl (co (Ev.makeFunc (f := 174) (.cons (.t rfl) .nil)) ?_))
      refine cons (buildSlice (E := (ovE nilFn)) Tryz.underlying192 ty249 z249 (.cons (.t rfl) .nil) rfl rfl (fun v10 => ?_))
      refine cons (app (E := (ovE nilFn)) Tryz.underlying192 ty249 zb249 zs249 (.t rfl) (.t rfl) (fun v11 => ?_) (hby := ⟨by first | ((show _ ≤ 9223372036854775807); simp; done) | ((show _ ≤ 9223372036854775807); simp [closL]; omega), by first | (simp; done) | (simp [closL]; omega)⟩))
      refine asn rfl (nP (mt (X := OV × (List Nat)) (_, l4 ++ [4]) ⟨?_, ?_⟩ (hL := (by first | exact List.Sublist.refl _ | (simp only [closL, List.map_append, List.map_cons, List.map_nil]; repeat first | exact List.Sublist.refl _ | apply List.Sublist.cons_cons | apply List.Sublist.cons)))))
      · try dsimp only
        unfold ksA; simp_all [asksB]
      · try dsimp only
        first | omega | (simp; omega) | simp
    · refine skip (pN (mt (X := OV × (List Nat)) (o4, l4) ⟨?_, ?_⟩ (hL := (by first | exact List.Sublist.refl _ | (simp only [closL, List.map_append, List.map_cons, List.map_nil]; repeat first | exact List.Sublist.refl _ | apply List.Sublist.cons_cons | apply List.Sublist.cons)))))
      · try dsimp only
        unfold ksA; simp_all [asksB]
      · try dsimp only
        first | omega | (simp; omega) | simp
  obtain ⟨o5, l5⟩ := x
  obtain ⟨hl5, hn5⟩ : (l5 = ksA (asksB m 16) 4 l4) ∧ (l5.length ≤ 5) := hx
  show Sat _ _ [(1, true, .pointer (some ⟨b1, 0, none⟩)), (3, true, o5.v)] [OwnS o5.v (ovE nilFn) (closL b1 l5) 249, Var b1 eMatch m 74]
  refine cut (X := OV × (List Nat)) (fun x : OV × (List Nat) => (x.2 = ksA (asksB m 32) 5 l5) ∧ (x.2.length ≤ 6)) (fun x : OV × (List Nat) => [(1, true, .pointer (some ⟨b1, 0, none⟩)), (3, true, x.1.v)]) (fun x : OV × (List Nat) => [OwnS x.1.v (ovE nilFn) (closL b1 x.2) 249, Var b1 eMatch m 74]) ?_ (fun x hx => ?_)
  · refine sg (co (Ev.ldx m ty74 (.t rfl) (Lens.id _)) ?_)
    refine cons (callv en153 (.cons (.t rfl) (.cons (.c (v := U8 32) rfl) .nil)) (fun w I => asks_ok _ _ w) ?_)
    refine nP ?_
    first | refine condD rfl (fun h5 => ?_) (fun h5 => ?_) | refine cond rfl (fun h5 => ?_) (fun h5 => ?_)
    · refine region (mv rfl (co (Ev.makeFunc (f := 175) (.cons (.t rfl) .nil)) ?_))
      refine cons (buildSlice (E := (ovE nilFn)) Tryz.underlying192 ty249 z249 (.cons (.t rfl) .nil) rfl rfl (fun v12 => ?_))
      refine cons (app (E := (ovE nilFn)) Tryz.underlying192 ty249 zb249 zs249 (.t rfl) (.t rfl) (fun v13 => ?_) (hby := ⟨by first | ((show _ ≤ 9223372036854775807); simp; done) | ((show _ ≤ 9223372036854775807); simp [closL]; omega), by first | (simp; done) | (simp [closL]; omega)⟩))
      refine asn rfl (nP (mt (X := OV × (List Nat)) (_, l5 ++ [5]) ⟨?_, ?_⟩ (hL := (by first | exact List.Sublist.refl _ | (simp only [closL, List.map_append, List.map_cons, List.map_nil]; repeat first | exact List.Sublist.refl _ | apply List.Sublist.cons_cons | apply List.Sublist.cons)))))
      · try dsimp only
        unfold ksA; simp_all [asksB]
      · try dsimp only
        first | omega | (simp; omega) | simp
    · refine skip (pN (mt (X := OV × (List Nat)) (o5, l5) ⟨?_, ?_⟩ (hL := (by first | exact List.Sublist.refl _ | (simp only [closL, List.map_append, List.map_cons, List.map_nil]; repeat first | exact List.Sublist.refl _ | apply List.Sublist.cons_cons | apply List.Sublist.cons)))))
      · try dsimp only
        unfold ksA; simp_all [asksB]
      · try dsimp only
        first | omega | (simp; omega) | simp
  obtain ⟨o6, l6⟩ := x
  obtain ⟨hl6, hn6⟩ : (l6 = ksA (asksB m 32) 5 l5) ∧ (l6.length ≤ 6) := hx
  show Sat _ _ [(1, true, .pointer (some ⟨b1, 0, none⟩)), (3, true, o6.v)] [OwnS o6.v (ovE nilFn) (closL b1 l6) 249, Var b1 eMatch m 74]
  refine sg (mv rfl (asn rfl (nP (ret (done rfl (.tmp rfl .nil) (fun w I => ?_))))))
  exact retN (o6, b1) trivial rfl (by unfold clos ks; rw [← hl1, ← hl2, ← hl3, ← hl4, ← hl5, ← hl6]; exact List.Sublist.refl _) w I
theorem getD_mem {α : Type} (l : List α) (i : Nat) (d : α) (h : i < l.length) : l.getD i d ∈ l := by simp [List.getD, h]
structure SRuleRules where
  matches_ : OV
  asked : OV
def SRuleRules.to : (OV × OV) → SRuleRules := fun x => ⟨x.1, x.2⟩
def SRuleRules.of : SRuleRules → (OV × OV) := fun x => (x.matches_, x.asked)
def eRuleRules : Enc SRuleRules := isoE (prodE (ovE nilSl) (ovE nilSl)) SRuleRules.to SRuleRules.of
def SRuleRules.l_matches_ : Lens eRuleRules (ovE nilSl) 0 := lIso _ SRuleRules.to SRuleRules.of (fun _ => rfl) (lFst (ovE nilSl) (ovE nilSl))
@[simp] theorem SRuleRules.get_matches_ (x : SRuleRules) : SRuleRules.l_matches_.get x = x.matches_ := rfl
@[simp] theorem SRuleRules.set_matches_ (x : SRuleRules) (y : OV) : SRuleRules.l_matches_.set x y = { x with matches_ := y } := rfl
def SRuleRules.l_asked : Lens eRuleRules (ovE nilSl) 1 := lIso _ SRuleRules.to SRuleRules.of (fun _ => rfl) (Lens.comp (lSnd (ovE nilSl) (ovE nilSl)) (Lens.id (ovE nilSl)))
@[simp] theorem SRuleRules.get_asked (x : SRuleRules) : SRuleRules.l_asked.get x = x.asked := rfl
@[simp] theorem SRuleRules.set_asked (x : SRuleRules) (y : OV) : SRuleRules.l_asked.set x y = { x with asked := y } := rfl
def RulesAt (w : World) (b : Nat) (l : List SMatch) : Prop := ∃ (mo ao : OV) (os : List OV) (bs : Nat → Nat), PtsTo eRuleRules w b 0 ⟨mo, ao⟩ ∧ IsSl eMatch w mo.v l ∧ IsSl (ovE nilSl) w ao.v os ∧ os.length = l.length ∧ ∀ k, k < l.length → IsSl (ovE nilFn) w (os.getD k nilSl).v (clos (l.getD k eMatch.zero) (bs k)) ∧ PtsTo eMatch w (bs k) 0 (l.getD k eMatch.zero)
theorem RulesAt.keep {w w' : World} {b : Nat} {l : List SMatch} (h : RulesAt w b l) (k : Keeps Nope w w') : RulesAt w' b l := by
  obtain ⟨mo, ao, os, bs, h1, h2, h3, h4, h5⟩ := h
  exact ⟨mo, ao, os, bs, h1.keep k, h2.keep0 k, h3.keep0 k, h4, fun j hj => ⟨(h5 j hj).1.keep0 k, (h5 j hj).2.keep k⟩⟩
def compE (l : List SMatch) : Int := bif decide (256 < l.length) then 4 else bif l.all okM then 0 else 190
def ptrO (l : List SMatch) (b : Nat) : Option Addr := bif decide (compE l = 0) then some ⟨b, 0, none⟩ else none
def ptrC (l : List SMatch) (b : Nat) : Value := .pointer (ptrO l b)
theorem ptrO_ok {l : List SMatch} (b : Nat) (h : compE l = 0) : ptrO l b = some ⟨b, 0, none⟩ := by
  unfold ptrO
  simp [h]
def CompJ (l : List SMatch) (x : Nat × List Res) : Prop := compE l = 0 → ∀ w, (∀ r ∈ x.2, r.A w) → RulesAt w x.1 l
def compV (l : List SMatch) (x : Nat × List Res) : Value := .tuple #[ptrC l x.1, I (compE l)]
theorem all_snoc (l : List SMatch) (i : Int) (h0 : 0 ≤ i) (h1 : i < l.length) (ha : (l.take i.toNat).all okM = true) (hi : okM (l.getD i.toNat eMatch.zero) = true) : (l.take (i + 1).toNat).all okM = true := by
  rw [take_snoc l i h0 h1 eMatch.zero, List.all_append, ha]
  simpa using hi
theorem not_all (l : List SMatch) (i : Nat) (h1 : i < l.length) (hi : okM (l.getD i eMatch.zero) = false) : l.all okM = false := by
  rw [Bool.eq_false_iff]
  intro h
  have := List.all_eq_true.1 h _ (getD_mem l i eMatch.zero h1)
  rw [hi] at this
  cases this
theorem z191 : (Tryz.prog.info? 191).bind (·.zero) = some (eRuleRules.val eRuleRules.zero) := by kernel_rfl
theorem ty143 : TyOK Tryz.prog 143 (ovE nilSl) := TyOK.mk' (by kernel_rfl) (by kernel_rfl)
theorem zb74 : (Tryz.prog.info? 74).map (fun i => (i.zero, i.bytes)) = some (some (eMatch.val eMatch.zero), 88) := by kernel_rfl
theorem zs74 : (eMatch.val eMatch.zero).cells.size = eMatch.size := by rw [Enc.cells_val, List.size_toArray, Enc.len]
theorem ty189 : TyOK Tryz.prog 189 (ovE nilSl) := TyOK.mk' (by kernel_rfl) (by kernel_rfl)
theorem en148 : Gx.Enters Tryz.prog 148 := Gx.Enters.mk' (by kernel_rfl)
theorem ty192 : TyOK Tryz.prog 192 (ovE nilSl) := TyOK.mk' (by kernel_rfl) (by kernel_rfl)
theorem z192 : (Tryz.prog.info? 192).bind (·.zero) = some ((ovE nilSl).val (ovE nilSl).zero) := by kernel_rfl
theorem zb192 : (Tryz.prog.info? 192).map (fun i => (i.zero, i.bytes)) = some (some ((ovE nilSl).val (ovE nilSl).zero), 24) := by kernel_rfl
theorem zs192 : ((ovE nilSl).val (ovE nilSl).zero).cells.size = (ovE nilSl).size := by rw [Enc.cells_val, List.size_toArray, Enc.len]
theorem compile_ok (u : Value) (l : List SMatch) (w : World) (hl : IsSl eMatch w u l) : Calls Tryz.prog 94 #[u] w (RetN w (CompJ l) (compV l) (fun x => x.2)) := by
  have hle := hl.le
  refine en0 47 Tryz.func94 ?_
  refine sg (co (Ev.assign (.c (v := (Go.Value.pointer none)) rfl)) ?_)
  refine co (Ev.assign (.c (v := I 0) rfl)) ?_
  refine nP (seq (sg (mv rfl (co (Ev.len Tryz.underlying143 (.t rfl) (by first | exact isSl_own (by repeat first | exact mH | apply mT | apply mA) | exact fun w I => IsSl.keep0 (by assumption) I.keeps)) ?_))))
  refine co (Ev.gtr_i (.t rfl) (.c (v := I 256) rfl)) ?_
  refine nP ?_
  first | refine condD rfl (fun hbig => ?_) (fun hsmall => ?_) | refine cond rfl (fun hbig => ?_) (fun hsmall => ?_)
  · try simp only [nb] at hbig
    refine sg (co (Ev.assign (.c (v := (Go.Value.pointer none)) rfl)) ?_)
    refine co (Ev.assign (.c (v := I 4) rfl)) ?_
    refine nP (ret (pR (done rfl (.tmp rfl (.tmp rfl .nil)) (fun w I => ?_))))
    have hc : compE l = 4 := by unfold compE; rw [decide_eq_true (by omega)]; rfl
    exact retN (0, []) (fun h => by rw [hc] at h; cases h) (by unfold compV ptrC ptrO; rw [hc]; rfl) (List.nil_sublist _) w I
  · try simp only [nb] at hsmall
    refine skip (pN (sg (co (Ev.buildS (fs := _) (places := [(0, 1), (1, 1)]) z191 rfl Tryz.underlying191 (by kernel_rfl) .nil Fills.nil) ?_)))
    refine cons (box (E := eRuleRules) (.t rfl) (fun b1 => ?_))
    refine asn rfl (nP (seq (sg (mv rfl (co (Ev.len Tryz.underlying143 (.t rfl) (by first | exact isSl_own (by repeat first | exact mH | apply mT | apply mA) | exact fun w I => IsSl.keep0 (by assumption) I.keeps)) ?_)))))
    refine co (Ev.move (.c (v := I 0) rfl)) ?_
    refine nP (block (takeNil (ovE nilSl) 192 ?_))
    refine takeNil eMatch 74 ?_
    refine lp (X := Int × OV × OV × (List OV) × (List Res) × (Nat → Nat)) (fun x : Int × OV × OV × (List OV) × (List Res) × (Nat → Nat) => (0 ≤ x.1 ∧ x.1 ≤ l.length) ∧ ((x.2.2.2.1.length : Int) = x.1) ∧ ((l.take x.1.toNat).all okM = true) ∧ (∀ w1 : World, (∀ r ∈ x.2.2.2.2.1, r.A w1) → ∀ q : Nat, (q : Int) < x.1 → IsSl (ovE nilFn) w1 (x.2.2.2.1.getD q nilSl).v (clos (l.getD q eMatch.zero) (x.2.2.2.2.2 q)) ∧ PtsTo eMatch w1 (x.2.2.2.2.2 q) 0 (l.getD q eMatch.zero))) (fun x : Int × OV × OV × (List OV) × (List Res) × (Nat → Nat) => [(4, true, .pointer (some ⟨b1, 0, none⟩)), (13, true, u), (14, true, I l.length), (15, true, I x.1)]) (fun x : Int × OV × OV × (List OV) × (List Res) × (Nat → Nat) => (x.2.2.2.2.1 ++ [OwnS x.2.1.v eMatch (l.take x.1.toNat) 74, OwnS x.2.2.1.v (ovE nilSl) x.2.2.2.1 192, Var b1 eRuleRules ⟨x.2.1, x.2.2.1⟩ 191])) (fun x : Int × OV × OV × (List OV) × (List Res) × (Nat → Nat) => (l.length - x.1).toNat) (0, nilSl, nilSl, [], [], fun _ => 0) ⟨?_, ?_, ?_, ?_⟩ (fun x hx => ?_)
    · omega
    · rfl
    · rfl
    · intro w1 _ q hq; exact absurd hq (by show ¬ (q : Int) < 0; omega)
    obtain ⟨i, mo, ao, os, Rs, bs⟩ := x
    obtain ⟨hi, hos, hok, hR⟩ : (0 ≤ i ∧ i ≤ l.length) ∧ ((os.length : Int) = i) ∧ ((l.take i.toNat).all okM = true) ∧ (∀ w1 : World, (∀ r ∈ Rs, r.A w1) → ∀ q : Nat, (q : Int) < i → IsSl (ovE nilFn) w1 (os.getD q nilSl).v (clos (l.getD q eMatch.zero) (bs q)) ∧ PtsTo eMatch w1 (bs q) 0 (l.getD q eMatch.zero)) := hx
    show Sat _ _ [(4, true, .pointer (some ⟨b1, 0, none⟩)), (13, true, u), (14, true, I l.length), (15, true, I i)] (Rs ++ [OwnS mo.v eMatch (l.take i.toNat) 74, OwnS ao.v (ovE nilSl) os 192, Var b1 eRuleRules ⟨mo, ao⟩ 191])
    refine sg (co (Ev.lss_i (.t rfl) (.t rfl)) ?_)
    refine nP (seq ?_)
    first | refine condD rfl (fun hlt => ?_) (fun hge => ?_) | refine cond rfl (fun hlt => ?_) (fun hge => ?_)
    · try simp only [nb] at hlt
      refine skip (pN (seq (block (sg (co (Ev.indexAddr Tryz.underlying143 ty74 (.t rfl) (.t rfl) (by first | exact isSl_own (by repeat first | exact mH | apply mT | apply mA) | exact fun w I => IsSl.keep0 (by assumption) I.keeps) (fun _ => by omega)) ?_)))))
      refine co (Ev.loadS0 ty74 (.t rfl) (by first | exact isSl_own (by repeat first | exact mH | apply mT | apply mA) | exact fun w I => IsSl.keep0 (by assumption) I.keeps) (fun _ => by omega)) ?_
      refine cons (alloc z74 (fun b2 => ?_))
      refine cons (stv ty74 (Lens.id _) (.t rfl) (.t rfl) ?_)
      refine nP (seq (sg (co (Ev.ldv ty74 (.t rfl) (Lens.id _)) ?_)))
      refine cons (callv en117 (.cons (.t rfl) .nil) (fun w I => check_ok _ w) ?_)
      refine asn rfl (nP (sg (mv rfl (co (Ev.neq_i (.t rfl) (.c (v := I 0) rfl)) ?_))))
      refine nP ?_
      first | refine condD rfl (fun h2 => ?_) (fun h2 => ?_) | refine cond rfl (fun h2 => ?_) (fun h2 => ?_)
      · have hbad : okM (l.getD i.toNat eMatch.zero) = false := by
          have h3 : decide (ckM (l.getD i.toNat eMatch.zero) = 0) = false := by simpa using h2
          rwa [ckM_zero] at h3
        refine sg (mv rfl (co (Ev.assign (.c (v := (Go.Value.pointer none)) rfl)) ?_))
        refine asn rfl (nP (ret (pR (bR (pR (pR (bR (pR (done rfl (.tmp rfl (.tmp rfl .nil)) (fun w I => ?_))))))))))
        have hc : compE l = 190 := by unfold compE; rw [decide_eq_false (by omega), not_all l i.toNat (by omega) hbad]; rfl
        exact retN (0, []) (fun h => by rw [hc] at h; cases h) (by unfold compV ptrC ptrO; rw [hc]; show tupV [.pointer none, Go.Gx.I (ckM (l.getD i.toNat eMatch.zero))] = _; unfold ckM; rw [hbad]; rfl) (List.nil_sublist _) w I
      · have hokm : okM (l.getD i.toNat eMatch.zero) = true := by
          have h3 : decide (ckM (l.getD i.toNat eMatch.zero) = 0) = true := by simpa using h2
          rwa [ckM_zero] at h3
        refine skip (pN (seq (draw [Var b2 eMatch (l.getD i.toNat eMatch.zero) 74] (by kernel_rfl) ?_)))
        refine tk 0 rfl (Ev.move (.t rfl)) ?_
        refine tk 1 rfl (Ev.move (.t rfl)) ?_
        refine tk 2 rfl (Ev.nilCheck (.t rfl)) ?_
        refine tk 3 rfl (fA 0 (.t rfl)) ?_
        refine tk 5 rfl (Ev.ldv ty74 (.t rfl) (Lens.id _)) ?_
        refine all [4, 6] (by kernel_rfl) (by decide) (.cons rfl ?_ (.cons rfl ?_ .nil))
        · refine (opv (Ev.ldv ty143 (.t rfl) SRuleRules.l_matches_) ?_)
          refine hdn (al1 6 rfl ((buildSlice (E := eMatch) Tryz.underlying143 ty74 z74 (.cons (.t rfl) .nil) rfl rfl (fun v3 => ?_))))
          refine hdn (al1 7 rfl ((app (E := eMatch) Tryz.underlying143 ty74 zb74 zs74 (.t rfl) (.t rfl) (fun v4 => ?_) (hby := ⟨by (show _ ≤ 9223372036854775807); first | omega | (simp; done) | (simp; omega), by first | omega | (simp; done) | (simp; omega)⟩))))
          refine hdn (tk 8 rfl (Ev.nilCheck (.t rfl)) ?_)
          refine tk 9 rfl (fA 0 (.t rfl)) ?_
          refine al1 10 rfl ((stv ty143 SRuleRules.l_matches_ (.t rfl) (.t rfl) ?_))
          refine hdn (ovr (pN (draw [Var b2 eMatch (l.getD i.toNat eMatch.zero) 74] (by kernel_rfl) ?_)))
          refine tk 0 rfl (Ev.move (.t rfl)) ?_
          refine tk 1 rfl (Ev.move (.t rfl)) ?_
          refine tk 2 rfl (Ev.nilCheck (.t rfl)) ?_
          refine tk 3 rfl (fA 1 (.t rfl)) ?_
          refine tk 5 rfl (Ev.ldv ty74 (.t rfl) (Lens.id _)) ?_
          refine all [4, 6] (by kernel_rfl) (by decide) (.cons rfl ?_ (.cons rfl ?_ .nil))
          · refine (opv (Ev.ldv ty189 (.t rfl) SRuleRules.l_asked) ?_)
            refine hdn (al1 6 rfl ((calln (X := OV × Nat) (fun _ => True) (fun x => x.1.v) (fun x => [OwnS x.1.v (ovE nilFn) (clos (l.getD i.toNat eMatch.zero) x.2) 249, Var x.2 eMatch (l.getD i.toNat eMatch.zero) 74]) en148 (.cons (.t rfl) .nil) (fun w I => compiled_ok _ w) (fun x1 _ => ?_))))
            refine hdn (al1 7 rfl ((buildSlice (E := (ovE nilSl)) Tryz.underlying189 ty192 z192 (.cons (.t rfl) .nil) rfl rfl (fun v5 => ?_))))
            refine hdn (al1 8 rfl ((app (E := (ovE nilSl)) Tryz.underlying189 ty192 zb192 zs192 (.t rfl) (.t rfl) (fun v6 => ?_) (hby := ⟨by (show _ ≤ 9223372036854775807); first | omega | (simp; done) | (simp; omega), by first | omega | (simp; done) | (simp; omega)⟩))))
            refine hdn (tk 9 rfl (Ev.nilCheck (.t rfl)) ?_)
            refine tk 10 rfl (fA 1 (.t rfl)) ?_
            refine al1 11 rfl ((stv ty189 SRuleRules.l_asked (.t rfl) (.t rfl) ?_))
            refine hdn (ovr (bN (pN (region (co (Ev.add_i (.t rfl) (.c (v := I 1) rfl) (fun _ => by omega)) ?_)))))
            refine mv rfl (nP (nx (X := Int × OV × OV × (List OV) × (List Res) × (Nat → Nat)) (i + 1, _, _, os ++ [x1.1], OwnS x1.1.v (ovE nilFn) (clos (l.getD i.toNat eMatch.zero) x1.2) 249 :: Var x1.2 eMatch (l.getD i.toNat eMatch.zero) 74 :: Rs, fun q => if q = i.toNat then x1.2 else bs q) ⟨?_, ?_, ?_, ?_⟩ ?_ (hL := (by dsimp only; rw [take_snoc l i hi.1 (by omega) eMatch.zero]; repeat first | exact List.Sublist.refl _ | apply List.Sublist.cons_cons | apply List.Sublist.cons))))
            · try dsimp only
              omega
            · try dsimp only
              simp; omega
            · try dsimp only
              exact all_snoc l i hi.1 (by omega) hok hokm
            · try dsimp only
              intro w1 hw q hq
              by_cases e : q = i.toNat
              · subst e
                have e1 : (os ++ [x1.1]).getD i.toNat nilSl = x1.1 := by
                  have : os.length = i.toNat := by omega
                  simp [List.getD, ← this]
                rw [if_pos rfl]
                show IsSl _ _ ((os ++ [x1.1]).getD i.toNat nilSl).v _ ∧ _
                rw [e1]
                exact ⟨IsSl.of_own (hw _ List.mem_cons_self), pts_of_block (hw _ (List.mem_cons_of_mem _ List.mem_cons_self))⟩
              · have e1 : (os ++ [x1.1]).getD q nilSl = os.getD q nilSl := by
                  have : q < os.length := by omega
                  simp [List.getD, List.getElem?_append, this]
                rw [if_neg e]
                show IsSl _ _ ((os ++ [x1.1]).getD q nilSl).v _ ∧ _
                rw [e1]
                exact hR w1 (fun r hr => hw r (List.mem_cons_of_mem _ (List.mem_cons_of_mem _ hr))) q (by omega)
            · try dsimp only
              omega
          · refine (calln (X := OV × Nat) (fun _ => True) (fun x => x.1.v) (fun x => [OwnS x.1.v (ovE nilFn) (clos (l.getD i.toNat eMatch.zero) x.2) 249, Var x.2 eMatch (l.getD i.toNat eMatch.zero) 74]) en148 (.cons (.t rfl) .nil) (fun w I => compiled_ok _ w) (fun x1 _ => ?_))
            refine hdn (all [4, 7] (by kernel_rfl) (by decide) (.cons rfl ?_ (.cons rfl ?_ .nil)))
            · refine (opv (Ev.ldv ty189 (.t rfl) SRuleRules.l_asked) ?_)
              refine hdn (al1 7 rfl ((buildSlice (E := (ovE nilSl)) Tryz.underlying189 ty192 z192 (.cons (.t rfl) .nil) rfl rfl (fun v7 => ?_))))
              refine hdn (al1 8 rfl ((app (E := (ovE nilSl)) Tryz.underlying189 ty192 zb192 zs192 (.t rfl) (.t rfl) (fun v8 => ?_) (hby := ⟨by (show _ ≤ 9223372036854775807); first | omega | (simp; done) | (simp; omega), by first | omega | (simp; done) | (simp; omega)⟩))))
              refine hdn (tk 9 rfl (Ev.nilCheck (.t rfl)) ?_)
              refine tk 10 rfl (fA 1 (.t rfl)) ?_
              refine al1 11 rfl ((stv ty189 SRuleRules.l_asked (.t rfl) (.t rfl) ?_))
              refine hdn (ovr (bN (pN (region (co (Ev.add_i (.t rfl) (.c (v := I 1) rfl) (fun _ => by omega)) ?_)))))
              refine mv rfl (nP (nx (X := Int × OV × OV × (List OV) × (List Res) × (Nat → Nat)) (i + 1, _, _, os ++ [x1.1], OwnS x1.1.v (ovE nilFn) (clos (l.getD i.toNat eMatch.zero) x1.2) 249 :: Var x1.2 eMatch (l.getD i.toNat eMatch.zero) 74 :: Rs, fun q => if q = i.toNat then x1.2 else bs q) ⟨?_, ?_, ?_, ?_⟩ ?_ (hL := (by dsimp only; rw [take_snoc l i hi.1 (by omega) eMatch.zero]; repeat first | exact List.Sublist.refl _ | apply List.Sublist.cons_cons | apply List.Sublist.cons))))
              · try dsimp only
                omega
              · try dsimp only
                simp; omega
              · try dsimp only
                exact all_snoc l i hi.1 (by omega) hok hokm
              · try dsimp only
                intro w1 hw q hq
                by_cases e : q = i.toNat
                · subst e
                  have e1 : (os ++ [x1.1]).getD i.toNat nilSl = x1.1 := by
                    have : os.length = i.toNat := by omega
                    simp [List.getD, ← this]
                  rw [if_pos rfl]
                  show IsSl _ _ ((os ++ [x1.1]).getD i.toNat nilSl).v _ ∧ _
                  rw [e1]
                  exact ⟨IsSl.of_own (hw _ List.mem_cons_self), pts_of_block (hw _ (List.mem_cons_of_mem _ List.mem_cons_self))⟩
                · have e1 : (os ++ [x1.1]).getD q nilSl = os.getD q nilSl := by
                    have : q < os.length := by omega
                    simp [List.getD, List.getElem?_append, this]
                  rw [if_neg e]
                  show IsSl _ _ ((os ++ [x1.1]).getD q nilSl).v _ ∧ _
                  rw [e1]
                  exact hR w1 (fun r hr => hw r (List.mem_cons_of_mem _ (List.mem_cons_of_mem _ hr))) q (by omega)
              · try dsimp only
                omega
            · refine (buildSlice (E := (ovE nilSl)) Tryz.underlying189 ty192 z192 (.cons (.t rfl) .nil) rfl rfl (fun v9 => ?_))
              refine hdn (al1 4 rfl ((opv (Ev.ldv ty189 (.t rfl) SRuleRules.l_asked) ?_)))
              refine hdn (al1 8 rfl ((app (E := (ovE nilSl)) Tryz.underlying189 ty192 zb192 zs192 (.t rfl) (.t rfl) (fun v10 => ?_) (hby := ⟨by (show _ ≤ 9223372036854775807); first | omega | (simp; done) | (simp; omega), by first | omega | (simp; done) | (simp; omega)⟩))))
              refine hdn (tk 9 rfl (Ev.nilCheck (.t rfl)) ?_)
              refine tk 10 rfl (fA 1 (.t rfl)) ?_
              refine al1 11 rfl ((stv ty189 SRuleRules.l_asked (.t rfl) (.t rfl) ?_))
              refine hdn (ovr (bN (pN (region (co (Ev.add_i (.t rfl) (.c (v := I 1) rfl) (fun _ => by omega)) ?_)))))
              refine mv rfl (nP (nx (X := Int × OV × OV × (List OV) × (List Res) × (Nat → Nat)) (i + 1, _, _, os ++ [x1.1], OwnS x1.1.v (ovE nilFn) (clos (l.getD i.toNat eMatch.zero) x1.2) 249 :: Var x1.2 eMatch (l.getD i.toNat eMatch.zero) 74 :: Rs, fun q => if q = i.toNat then x1.2 else bs q) ⟨?_, ?_, ?_, ?_⟩ ?_ (hL := (by dsimp only; rw [take_snoc l i hi.1 (by omega) eMatch.zero]; repeat first | exact List.Sublist.refl _ | apply List.Sublist.cons_cons | apply List.Sublist.cons))))
              · try dsimp only
                omega
              · try dsimp only
                simp; omega
              · try dsimp only
                exact all_snoc l i hi.1 (by omega) hok hokm
              · try dsimp only
                intro w1 hw q hq
                by_cases e : q = i.toNat
                · subst e
                  have e1 : (os ++ [x1.1]).getD i.toNat nilSl = x1.1 := by
                    have : os.length = i.toNat := by omega
                    simp [List.getD, ← this]
                  rw [if_pos rfl]
                  show IsSl _ _ ((os ++ [x1.1]).getD i.toNat nilSl).v _ ∧ _
                  rw [e1]
                  exact ⟨IsSl.of_own (hw _ List.mem_cons_self), pts_of_block (hw _ (List.mem_cons_of_mem _ List.mem_cons_self))⟩
                · have e1 : (os ++ [x1.1]).getD q nilSl = os.getD q nilSl := by
                    have : q < os.length := by omega
                    simp [List.getD, List.getElem?_append, this]
                  rw [if_neg e]
                  show IsSl _ _ ((os ++ [x1.1]).getD q nilSl).v _ ∧ _
                  rw [e1]
                  exact hR w1 (fun r hr => hw r (List.mem_cons_of_mem _ (List.mem_cons_of_mem _ hr))) q (by omega)
              · try dsimp only
                omega
        · refine (buildSlice (E := eMatch) Tryz.underlying143 ty74 z74 (.cons (.t rfl) .nil) rfl rfl (fun v11 => ?_))
          refine hdn (al1 4 rfl ((opv (Ev.ldv ty143 (.t rfl) SRuleRules.l_matches_) ?_)))
          refine hdn (al1 7 rfl ((app (E := eMatch) Tryz.underlying143 ty74 zb74 zs74 (.t rfl) (.t rfl) (fun v12 => ?_) (hby := ⟨by (show _ ≤ 9223372036854775807); first | omega | (simp; done) | (simp; omega), by first | omega | (simp; done) | (simp; omega)⟩))))
          refine hdn (tk 8 rfl (Ev.nilCheck (.t rfl)) ?_)
          refine tk 9 rfl (fA 0 (.t rfl)) ?_
          refine al1 10 rfl ((stv ty143 SRuleRules.l_matches_ (.t rfl) (.t rfl) ?_))
          refine hdn (ovr (pN (draw [Var b2 eMatch (l.getD i.toNat eMatch.zero) 74] (by kernel_rfl) ?_)))
          refine tk 0 rfl (Ev.move (.t rfl)) ?_
          refine tk 1 rfl (Ev.move (.t rfl)) ?_
          refine tk 2 rfl (Ev.nilCheck (.t rfl)) ?_
          refine tk 3 rfl (fA 1 (.t rfl)) ?_
          refine tk 5 rfl (Ev.ldv ty74 (.t rfl) (Lens.id _)) ?_
          refine all [4, 6] (by kernel_rfl) (by decide) (.cons rfl ?_ (.cons rfl ?_ .nil))
          · refine (opv (Ev.ldv ty189 (.t rfl) SRuleRules.l_asked) ?_)
            refine hdn (al1 6 rfl ((calln (X := OV × Nat) (fun _ => True) (fun x => x.1.v) (fun x => [OwnS x.1.v (ovE nilFn) (clos (l.getD i.toNat eMatch.zero) x.2) 249, Var x.2 eMatch (l.getD i.toNat eMatch.zero) 74]) en148 (.cons (.t rfl) .nil) (fun w I => compiled_ok _ w) (fun x1 _ => ?_))))
            refine hdn (al1 7 rfl ((buildSlice (E := (ovE nilSl)) Tryz.underlying189 ty192 z192 (.cons (.t rfl) .nil) rfl rfl (fun v13 => ?_))))
            refine hdn (al1 8 rfl ((app (E := (ovE nilSl)) Tryz.underlying189 ty192 zb192 zs192 (.t rfl) (.t rfl) (fun v14 => ?_) (hby := ⟨by (show _ ≤ 9223372036854775807); first | omega | (simp; done) | (simp; omega), by first | omega | (simp; done) | (simp; omega)⟩))))
            refine hdn (tk 9 rfl (Ev.nilCheck (.t rfl)) ?_)
            refine tk 10 rfl (fA 1 (.t rfl)) ?_
            refine al1 11 rfl ((stv ty189 SRuleRules.l_asked (.t rfl) (.t rfl) ?_))
            refine hdn (ovr (bN (pN (region (co (Ev.add_i (.t rfl) (.c (v := I 1) rfl) (fun _ => by omega)) ?_)))))
            refine mv rfl (nP (nx (X := Int × OV × OV × (List OV) × (List Res) × (Nat → Nat)) (i + 1, _, _, os ++ [x1.1], OwnS x1.1.v (ovE nilFn) (clos (l.getD i.toNat eMatch.zero) x1.2) 249 :: Var x1.2 eMatch (l.getD i.toNat eMatch.zero) 74 :: Rs, fun q => if q = i.toNat then x1.2 else bs q) ⟨?_, ?_, ?_, ?_⟩ ?_ (hL := (by dsimp only; rw [take_snoc l i hi.1 (by omega) eMatch.zero]; repeat first | exact List.Sublist.refl _ | apply List.Sublist.cons_cons | apply List.Sublist.cons))))
            · try dsimp only
              omega
            · try dsimp only
              simp; omega
            · try dsimp only
              exact all_snoc l i hi.1 (by omega) hok hokm
            · try dsimp only
              intro w1 hw q hq
              by_cases e : q = i.toNat
              · subst e
                have e1 : (os ++ [x1.1]).getD i.toNat nilSl = x1.1 := by
                  have : os.length = i.toNat := by omega
                  simp [List.getD, ← this]
                rw [if_pos rfl]
                show IsSl _ _ ((os ++ [x1.1]).getD i.toNat nilSl).v _ ∧ _
                rw [e1]
                exact ⟨IsSl.of_own (hw _ List.mem_cons_self), pts_of_block (hw _ (List.mem_cons_of_mem _ List.mem_cons_self))⟩
              · have e1 : (os ++ [x1.1]).getD q nilSl = os.getD q nilSl := by
                  have : q < os.length := by omega
                  simp [List.getD, List.getElem?_append, this]
                rw [if_neg e]
                show IsSl _ _ ((os ++ [x1.1]).getD q nilSl).v _ ∧ _
                rw [e1]
                exact hR w1 (fun r hr => hw r (List.mem_cons_of_mem _ (List.mem_cons_of_mem _ hr))) q (by omega)
            · try dsimp only
              omega
          · refine (calln (X := OV × Nat) (fun _ => True) (fun x => x.1.v) (fun x => [OwnS x.1.v (ovE nilFn) (clos (l.getD i.toNat eMatch.zero) x.2) 249, Var x.2 eMatch (l.getD i.toNat eMatch.zero) 74]) en148 (.cons (.t rfl) .nil) (fun w I => compiled_ok _ w) (fun x1 _ => ?_))
            refine hdn (all [4, 7] (by kernel_rfl) (by decide) (.cons rfl ?_ (.cons rfl ?_ .nil)))
            · refine (opv (Ev.ldv ty189 (.t rfl) SRuleRules.l_asked) ?_)
              refine hdn (al1 7 rfl ((buildSlice (E := (ovE nilSl)) Tryz.underlying189 ty192 z192 (.cons (.t rfl) .nil) rfl rfl (fun v15 => ?_))))
              refine hdn (al1 8 rfl ((app (E := (ovE nilSl)) Tryz.underlying189 ty192 zb192 zs192 (.t rfl) (.t rfl) (fun v16 => ?_) (hby := ⟨by (show _ ≤ 9223372036854775807); first | omega | (simp; done) | (simp; omega), by first | omega | (simp; done) | (simp; omega)⟩))))
              refine hdn (tk 9 rfl (Ev.nilCheck (.t rfl)) ?_)
              refine tk 10 rfl (fA 1 (.t rfl)) ?_
              refine al1 11 rfl ((stv ty189 SRuleRules.l_asked (.t rfl) (.t rfl) ?_))
              refine hdn (ovr (bN (pN (region (co (Ev.add_i (.t rfl) (.c (v := I 1) rfl) (fun _ => by omega)) ?_)))))
              refine mv rfl (nP (nx (X := Int × OV × OV × (List OV) × (List Res) × (Nat → Nat)) (i + 1, _, _, os ++ [x1.1], OwnS x1.1.v (ovE nilFn) (clos (l.getD i.toNat eMatch.zero) x1.2) 249 :: Var x1.2 eMatch (l.getD i.toNat eMatch.zero) 74 :: Rs, fun q => if q = i.toNat then x1.2 else bs q) ⟨?_, ?_, ?_, ?_⟩ ?_ (hL := (by dsimp only; rw [take_snoc l i hi.1 (by omega) eMatch.zero]; repeat first | exact List.Sublist.refl _ | apply List.Sublist.cons_cons | apply List.Sublist.cons))))
              · try dsimp only
                omega
              · try dsimp only
                simp; omega
              · try dsimp only
                exact all_snoc l i hi.1 (by omega) hok hokm
              · try dsimp only
                intro w1 hw q hq
                by_cases e : q = i.toNat
                · subst e
                  have e1 : (os ++ [x1.1]).getD i.toNat nilSl = x1.1 := by
                    have : os.length = i.toNat := by omega
                    simp [List.getD, ← this]
                  rw [if_pos rfl]
                  show IsSl _ _ ((os ++ [x1.1]).getD i.toNat nilSl).v _ ∧ _
                  rw [e1]
                  exact ⟨IsSl.of_own (hw _ List.mem_cons_self), pts_of_block (hw _ (List.mem_cons_of_mem _ List.mem_cons_self))⟩
                · have e1 : (os ++ [x1.1]).getD q nilSl = os.getD q nilSl := by
                    have : q < os.length := by omega
                    simp [List.getD, List.getElem?_append, this]
                  rw [if_neg e]
                  show IsSl _ _ ((os ++ [x1.1]).getD q nilSl).v _ ∧ _
                  rw [e1]
                  exact hR w1 (fun r hr => hw r (List.mem_cons_of_mem _ (List.mem_cons_of_mem _ hr))) q (by omega)
              · try dsimp only
                omega
            · refine (buildSlice (E := (ovE nilSl)) Tryz.underlying189 ty192 z192 (.cons (.t rfl) .nil) rfl rfl (fun v17 => ?_))
              refine hdn (al1 4 rfl ((opv (Ev.ldv ty189 (.t rfl) SRuleRules.l_asked) ?_)))
              refine hdn (al1 8 rfl ((app (E := (ovE nilSl)) Tryz.underlying189 ty192 zb192 zs192 (.t rfl) (.t rfl) (fun v18 => ?_) (hby := ⟨by (show _ ≤ 9223372036854775807); first | omega | (simp; done) | (simp; omega), by first | omega | (simp; done) | (simp; omega)⟩))))
              refine hdn (tk 9 rfl (Ev.nilCheck (.t rfl)) ?_)
              refine tk 10 rfl (fA 1 (.t rfl)) ?_
              refine al1 11 rfl ((stv ty189 SRuleRules.l_asked (.t rfl) (.t rfl) ?_))
              refine hdn (ovr (bN (pN (region (co (Ev.add_i (.t rfl) (.c (v := I 1) rfl) (fun _ => by omega)) ?_)))))
              refine mv rfl (nP (nx (X := Int × OV × OV × (List OV) × (List Res) × (Nat → Nat)) (i + 1, _, _, os ++ [x1.1], OwnS x1.1.v (ovE nilFn) (clos (l.getD i.toNat eMatch.zero) x1.2) 249 :: Var x1.2 eMatch (l.getD i.toNat eMatch.zero) 74 :: Rs, fun q => if q = i.toNat then x1.2 else bs q) ⟨?_, ?_, ?_, ?_⟩ ?_ (hL := (by dsimp only; rw [take_snoc l i hi.1 (by omega) eMatch.zero]; repeat first | exact List.Sublist.refl _ | apply List.Sublist.cons_cons | apply List.Sublist.cons))))
              · try dsimp only
                omega
              · try dsimp only
                simp; omega
              · try dsimp only
                exact all_snoc l i hi.1 (by omega) hok hokm
              · try dsimp only
                intro w1 hw q hq
                by_cases e : q = i.toNat
                · subst e
                  have e1 : (os ++ [x1.1]).getD i.toNat nilSl = x1.1 := by
                    have : os.length = i.toNat := by omega
                    simp [List.getD, ← this]
                  rw [if_pos rfl]
                  show IsSl _ _ ((os ++ [x1.1]).getD i.toNat nilSl).v _ ∧ _
                  rw [e1]
                  exact ⟨IsSl.of_own (hw _ List.mem_cons_self), pts_of_block (hw _ (List.mem_cons_of_mem _ List.mem_cons_self))⟩
                · have e1 : (os ++ [x1.1]).getD q nilSl = os.getD q nilSl := by
                    have : q < os.length := by omega
                    simp [List.getD, List.getElem?_append, this]
                  rw [if_neg e]
                  show IsSl _ _ ((os ++ [x1.1]).getD q nilSl).v _ ∧ _
                  rw [e1]
                  exact hR w1 (fun r hr => hw r (List.mem_cons_of_mem _ (List.mem_cons_of_mem _ hr))) q (by omega)
              · try dsimp only
                omega
    · try simp only [nb] at hge
      refine exit (pX (pX (bX (pN (sg (mv rfl (asn rfl (co (Ev.assign (.c (v := I 0) rfl)) ?_))))))))
      refine nP (ret (done rfl (.tmp rfl (.tmp rfl .nil)) (fun w I => ?_)))
      have et : l.take i.toNat = l := List.take_of_length_le (by omega)
      rw [et] at hok I
      have hc : compE l = 0 := by unfold compE; rw [decide_eq_false (by omega), hok]; rfl
      refine retN (b1, Rs ++ [OwnS mo.v eMatch l 74, OwnS ao.v (ovE nilSl) os 192, Var b1 eRuleRules ⟨mo, ao⟩ 191]) (fun _ w1 hw => ?_) (by unfold compV ptrC ptrO; rw [hc]; rfl) (List.Sublist.refl _) w I
      refine ⟨mo, ao, os, bs, pts_of_block (hw _ (List.mem_append_right _ (List.mem_cons_of_mem _ (List.mem_cons_of_mem _ List.mem_cons_self)))), IsSl.of_own (hw _ (List.mem_append_right _ List.mem_cons_self)), IsSl.of_own (hw _ (List.mem_append_right _ (List.mem_cons_of_mem _ List.mem_cons_self))), by omega, fun q hq => hR w1 (fun r hr => hw r (List.mem_append_left _ hr)) q (by omega)⟩
def firstF (q : SMatch → Bool) : List SMatch → Int → Int
  | [], _ => -1
  | m :: l, k => bif q m then k else firstF q l (k + 1)
theorem getD_take' {α : Type} (l : List α) (m i : Nat) (d : α) (h : i < m) : (l.take m).getD i d = l.getD i d := by simp [List.getD, List.getElem?_take, h]
def deadAt (l : List SMatch) (k : Nat) : Bool := (l.take k).any fun m => coversM m (l.getD k eMatch.zero)
def deadT (l : List SMatch) (n : Nat) : List Int := ((List.range n).filter (deadAt l)).map fun k : Nat => (k : Int)
def deadB (l : List SMatch) : List Int := deadT l l.length
theorem deadT_step (l : List SMatch) (n : Nat) : deadT l (n + 1) = bif deadAt l n then deadT l n ++ [(n : Int)] else deadT l n := by
  unfold deadT
  rw [List.range_succ, List.filter_append]
  cases h : deadAt l n <;> simp [h]
theorem deadT_len (l : List SMatch) (n : Nat) : (deadT l n).length ≤ n := by
  unfold deadT
  rw [List.length_map]
  exact Nat.le_trans (List.length_filter_le _ _) (by simp)
theorem deadAt_yes (l : List SMatch) (i j : Nat) (hi : i < l.length) (hj : j < i) (h : coversM (l.getD j eMatch.zero) (l.getD i eMatch.zero) = true) : deadAt l i = true := by
  unfold deadAt
  rw [List.any_eq_true]
  refine ⟨l.getD j eMatch.zero, ?_, h⟩
  have e := getD_take' l i j eMatch.zero hj
  rw [← e]
  exact getD_mem _ _ _ (by simp; omega)
theorem deadAt_no (l : List SMatch) (i : Nat) (hi : i ≤ l.length) (h : ∀ q : Nat, (q : Int) < i → coversM (l.getD q eMatch.zero) (l.getD i eMatch.zero) = false) : deadAt l i = false := by
  rw [Bool.eq_false_iff]
  intro ht
  unfold deadAt at ht
  obtain ⟨m, hm, hc⟩ := List.any_eq_true.1 ht
  obtain ⟨q, hq, rfl⟩ := List.mem_iff_getElem.1 hm
  have hq2 : q < i := by simp at hq; omega
  have e : (l.take i)[q] = l.getD q eMatch.zero := by
    have : q < l.length := by omega
    simp [List.getD, this]
  rw [e, h q (by omega)] at hc
  cases hc
theorem en149 : Gx.Enters Tryz.prog 149 := Gx.Enters.mk' (by kernel_rfl)
theorem dead_ok (b : Nat) (l : List SMatch) (w : World) (hR : RulesAt w b l) (hll : l.length ≤ 256) : Calls Tryz.prog 102 #[.pointer (some ⟨b, 0, none⟩)] w (RetO w iE (deadB l) 3) := by
  obtain ⟨mo, ao, os, bs, hr, hmo, hao, hol, hcl⟩ := hR
  have hml := hmo.le
  have hal := hao.le
  refine en0 41 Tryz.func102 ?_
  refine sg (co (Ev.assign (.c (v := (Go.Value.slice none 0 0)) rfl)) ?_)
  refine nP (seq (sg (mv rfl (co (Ev.eql_p Tryz.underlying144 (.t rfl) (.c rfl)) ?_))))
  refine nP (condF rfl (rfl) ?_)
  refine skip (pN (sg (co (Ev.assign (.c (v := (Go.Value.slice none 0 0)) rfl)) ?_)))
  refine takeNil iE 3 ?_
  refine nP (seq (sg (mv rfl (co (Ev.nilCheck (.t rfl)) ?_))))
  refine co (fA 0 (.t rfl)) ?_
  refine co (Ev.load ty143 (.t rfl) (ptsL (fun w I => hr.keep I.keeps) SRuleRules.l_matches_)) ?_
  refine co (Ev.len Tryz.underlying143 (.t rfl) (fun w I => hmo.keep0 I.keeps)) ?_
  refine co (Ev.move (.c (v := I 0) rfl)) ?_
  refine nP (block (lp (X := Int × OV × (List Int)) (fun x : Int × OV × (List Int) => (0 ≤ x.1 ∧ x.1 ≤ l.length) ∧ (x.2.2 = deadT l x.1.toNat)) (fun x : Int × OV × (List Int) => [(0, true, .pointer (some ⟨b, 0, none⟩)), (3, true, x.2.1.v), (13, true, mo.v), (14, true, I l.length), (15, true, I x.1)]) (fun x : Int × OV × (List Int) => [OwnS x.2.1.v iE x.2.2 3]) (fun x : Int × OV × (List Int) => (l.length - x.1).toNat) (0, nilSl, []) ⟨?_, ?_⟩ (fun x hx => ?_)))
  · omega
  · rfl
  obtain ⟨i, o, ds⟩ := x
  obtain ⟨hi, hd⟩ : (0 ≤ i ∧ i ≤ l.length) ∧ (ds = deadT l i.toNat) := hx
  show Sat _ _ [(0, true, .pointer (some ⟨b, 0, none⟩)), (3, true, o.v), (13, true, mo.v), (14, true, I l.length), (15, true, I i)] [OwnS o.v iE ds 3]
  have hdl := deadT_len l i.toNat
  rw [← hd] at hdl
  refine sg (co (Ev.lss_i (.t rfl) (.t rfl)) ?_)
  refine nP (seq ?_)
  first | refine condD rfl (fun hlt => ?_) (fun hge => ?_) | refine cond rfl (fun hlt => ?_) (fun hge => ?_)
  · try simp only [nb] at hlt
    refine skip (pN (seq (block (sg (mv rfl (co (Ev.indexAddr Tryz.underlying143 ty74 (.t rfl) (.t rfl) (fun w I => hmo.keep0 I.keeps) (fun _ => by omega)) ?_))))))
    refine co (Ev.loadS0 ty74 (.t rfl) (fun w I => hmo.keep0 I.keeps) (fun _ => by omega)) ?_
    refine cons (alloc z74 (fun b1 => ?_))
    refine asn rfl (cons (stv ty74 (Lens.id _) (.t rfl) (.t rfl) ?_))
    refine nP (sg (mv rfl (co (Ev.nilCheck (.t rfl)) ?_)))
    refine co (fA 0 (.t rfl)) ?_
    refine co (Ev.load ty143 (.t rfl) (ptsL (fun w I => hr.keep I.keeps) SRuleRules.l_matches_)) ?_
    have hsub : IsSl eMatch w (subS eMatch.size mo.v 0 i.toNat) (l.take i.toNat) := by
      have := hmo.sub (l := 0) (k := i.toNat) (by omega) (by omega)
      simpa using this
    have htl : (l.take i.toNat).length = i.toNat := by simp; omega
    refine mv rfl (co (Ev.sliceH Tryz.underlying143 ty74 (.t rfl) (.t rfl) (fun w I => hmo.keep0 I.keeps) (fun _ => by omega)) ?_)
    refine co (Ev.len Tryz.underlying143 (.t rfl) (fun w I => IsSl.sub (w := w) (hmo.keep0 I.keeps) (by omega) (by omega))) ?_
    refine co (Ev.move (.c (v := I 0) rfl)) ?_
    refine nP (block (lp (X := Int) (fun x : Int => (0 ≤ x ∧ x ≤ i) ∧ (∀ q : Nat, (q : Int) < x → coversM (l.getD q eMatch.zero) (l.getD i.toNat eMatch.zero) = false)) (fun x : Int => [(0, true, .pointer (some ⟨b, 0, none⟩)), (3, true, o.v), (4, true, I i), (5, true, .pointer (some ⟨b1, 0, none⟩)), (13, true, mo.v), (14, true, I l.length), (15, true, I i), (25, true, subS eMatch.size mo.v 0 i.toNat), (26, true, I (l.take i.toNat).length), (27, true, I x)]) (fun x : Int => [Var b1 eMatch (l.getD i.toNat eMatch.zero) 74, OwnS o.v iE ds 3]) (fun x : Int => (i - x).toNat) (0) ⟨?_, ?_⟩ (fun x hx => ?_)))
    · omega
    · intro q hq; omega
    obtain ⟨j, rfl⟩ : ∃ y, y = x := ⟨x, rfl⟩
    obtain ⟨hj, hn⟩ : (0 ≤ j ∧ j ≤ i) ∧ (∀ q : Nat, (q : Int) < j → coversM (l.getD q eMatch.zero) (l.getD i.toNat eMatch.zero) = false) := hx
    show Sat _ _ [(0, true, .pointer (some ⟨b, 0, none⟩)), (3, true, o.v), (4, true, I i), (5, true, .pointer (some ⟨b1, 0, none⟩)), (13, true, mo.v), (14, true, I l.length), (15, true, I i), (25, true, subS eMatch.size mo.v 0 i.toNat), (26, true, I (l.take i.toNat).length), (27, true, I j)] [Var b1 eMatch (l.getD i.toNat eMatch.zero) 74, OwnS o.v iE ds 3]
    refine sg (co (Ev.lss_i (.t rfl) (.t rfl)) ?_)
    refine nP (seq ?_)
    first | refine condD rfl (fun hlt2 => ?_) (fun hge2 => ?_) | refine cond rfl (fun hlt2 => ?_) (fun hge2 => ?_)
    · try simp only [nb] at hlt2
      refine skip (pN (seq (block (sg (co (Ev.indexAddr Tryz.underlying143 ty74 (.t rfl) (.t rfl) (fun w I => hsub.keep0 I.keeps) (fun _ => by omega)) ?_)))))
      refine co (Ev.loadS0 ty74 (.t rfl) (fun w I => hsub.keep0 I.keeps) (fun _ => by omega)) ?_
      refine cons (alloc z74 (fun b2 => ?_))
      refine cons (stv ty74 (Lens.id _) (.t rfl) (.t rfl) ?_)
      refine nP (sg (co (Ev.ldv ty74 (.t rfl) (Lens.id _)) ?_))
      refine co (Ev.ldv ty74 (.t rfl) (Lens.id _)) ?_
      refine cons (callv en149 (.cons (.t rfl) (.cons (.t rfl) .nil)) (fun w I => covers_ok _ _ w) ?_)
      refine nP ?_
      first | refine condD rfl (fun h3 => ?_) (fun h3 => ?_) | refine cond rfl (fun h3 => ?_) (fun h3 => ?_)
      · have hst : deadT l (i + 1).toNat = deadT l i.toNat ++ [i] := by
          have e : (i + 1).toNat = i.toNat + 1 := by omega
          have e2 : (i.toNat : Int) = i := by omega
          have h3b := h3
          rw [show (l.take i.toNat).getD j.toNat eMatch.zero = l.getD j.toNat eMatch.zero from getD_take' l i.toNat j.toNat _ (by omega)] at h3b
          rw [e, deadT_step, deadAt_yes l i.toNat j.toNat (by omega) (by omega) h3b, e2]; rfl
        refine sg (mv rfl (mv rfl (cons (buildSlice (E := iE) Tryz.underlying22 ty3 z3 (.cons (.t rfl) .nil) rfl rfl (fun v3 => ?_)))))
        refine cons (app (E := iE) Tryz.underlying22 ty3 zb3 zs3 (.t rfl) (.t rfl) (fun v4 => ?_) (hby := ⟨by (show _ ≤ 9223372036854775807); first | omega | (simp; done) | (simp; omega), by first | omega | (simp; done) | (simp; omega)⟩))
        refine asn rfl (nP (exit (bO rfl (pX (pX (bX (bN (pN (region (co (Ev.add_i (.t rfl) (.c (v := I 1) rfl) (fun _ => by omega)) ?_))))))))))
        refine mv rfl (nP (nx (X := Int × OV × (List Int)) (i + 1, _, _) ⟨?_, ?_⟩ ?_))
        · try dsimp only
          omega
        · try dsimp only
          rw [hst, ← hd]
        · try dsimp only
          omega
      · have h3b : coversM (l.getD j.toNat eMatch.zero) (l.getD i.toNat eMatch.zero) = false := by
          have e := getD_take' l i.toNat j.toNat eMatch.zero (by omega)
          rw [← e]; simpa using h3
        refine skip (bN (pN (region (co (Ev.add_i (.t rfl) (.c (v := I 1) rfl) (fun _ => by omega)) ?_))))
        refine mv rfl (nP (nx (X := Int) (j + 1) ⟨?_, ?_⟩ ?_))
        · try dsimp only
          omega
        · try dsimp only
          intro q hq
          by_cases e : q = j.toNat
          · rw [e]; exact h3b
          · exact hn q (by omega)
        · try dsimp only
          omega
    · try simp only [nb] at hge2
      have hst : deadT l (i + 1).toNat = deadT l i.toNat := by
        have e : (i + 1).toNat = i.toNat + 1 := by omega
        rw [e, deadT_step, deadAt_no l i.toNat (by omega) (fun q hq => hn q (by omega))]; rfl
      refine exit (pX (pX (bX (bN (pN (region (co (Ev.add_i (.t rfl) (.c (v := I 1) rfl) (fun _ => by omega)) ?_)))))))
      refine mv rfl (nP (nx (X := Int × OV × (List Int)) (i + 1, _, _) ⟨?_, ?_⟩ ?_))
      · try dsimp only
        omega
      · try dsimp only
        rw [hst, ← hd]
      · try dsimp only
        omega
  · try simp only [nb] at hge
    refine exit (pX (pX (bX (pN (sg (mv rfl (asn rfl (nP (ret (done rfl (.tmp rfl .nil) (retOE (by repeat first | exact mH | apply mT | apply mA) ?_)))))))))))
    rw [hd]
    unfold deadB
    have e : i.toNat = l.length := by omega
    rw [e]
def lW : List SMatch := [{ eMatch.zero with asks := 2, src := { addr := { v6 := false, b := (Vector.replicate 16 0).set 0 10 }, bits := 8 } }, { eMatch.zero with asks := 1, in_ := ⟨3, 4⟩ }]
def whereT (p : Nat → Bool) (n : Nat) : List Int := ((List.range n).filter p).map fun k : Nat => (k : Int)
theorem whereT_step (p : Nat → Bool) (n : Nat) : whereT p (n + 1) = bif p n then whereT p n ++ [(n : Int)] else whereT p n := by
  unfold whereT
  rw [List.range_succ, List.filter_append]
  cases h : p n <;> simp [h]
theorem whereT_len (p : Nat → Bool) (n : Nat) : (whereT p n).length ≤ n := by
  unfold whereT
  rw [List.length_map]
  exact Nat.le_trans (List.length_filter_le _ _) (by simp)
theorem whereT_yes {p : Nat → Bool} {i : Int} (hi : 0 ≤ i) (h : p i.toNat = true) : whereT p (i + 1).toNat = whereT p i.toNat ++ [i] := by
  have e : (i + 1).toNat = i.toNat + 1 := by omega
  have e2 : (i.toNat : Int) = i := by omega
  rw [e, whereT_step, h, e2]
  rfl
theorem whereT_no {p : Nat → Bool} {i : Int} (hi : 0 ≤ i) (h : p i.toNat = false) : whereT p (i + 1).toNat = whereT p i.toNat := by
  have e : (i + 1).toNat = i.toNat + 1 := by omega
  rw [e, whereT_step, h]
  rfl
theorem unnamed_57 (f b : Nat) (kf : SMeterConf → ByteArray) (m : List (ByteArray × Int)) (u : Value) (xs : List SMeterConf) (w : World) (hen : Gx.Enters Tryz.prog f) (hl : IsSl eMeterConf w u xs) (hm : MapAt w b sE iE m) (hk : FnAt Tryz.prog f [] Nope w eMeterConf sE (fun _ => True) kf) (hxl : xs.length ≤ 1000000) : Calls Tryz.prog 95 #[u, (clo f []).v, .map (some b)] w (RetO w iE (whereT (fun k => (findV eqs (kf (xs.getD k eMeterConf.zero)) m).isNone) xs.length) 3) := by
  have hle := hl.le
  refine en0 35 Tryz.func95 ?_
  refine sg (co (Ev.assign (.c (v := (Go.Value.slice none 0 0)) rfl)) ?_)
  refine nP (sg (co (Ev.assign (.c (v := (Go.Value.slice none 0 0)) rfl)) ?_))
  refine takeNil iE 3 ?_
  refine nP (seq (sg (mv rfl (co (Ev.len Tryz.underlying25 (.t rfl) (fun w I => hl.keep0 I.keeps)) ?_))))
  refine co (Ev.move (.c (v := I 0) rfl)) ?_
  refine nP (block (lp (X := Int × OV × (List Int)) (fun x : Int × OV × (List Int) => (0 ≤ x.1 ∧ x.1 ≤ xs.length) ∧ (x.2.2 = whereT (fun k => (findV eqs (kf (xs.getD k eMeterConf.zero)) m).isNone) x.1.toNat)) (fun x : Int × OV × (List Int) => [(1, true, (clo f []).v), (2, true, .map (some b)), (7, true, x.2.1.v), (12, true, u), (13, true, I xs.length), (14, true, I x.1)]) (fun x : Int × OV × (List Int) => [OwnS x.2.1.v iE x.2.2 3]) (fun x : Int × OV × (List Int) => ((xs.length : Int) - x.1).toNat) (0, nilSl, []) ⟨?_, ?_⟩ (fun x hx => ?_)))
  · omega
  · rfl
  obtain ⟨i, o, ds⟩ := x
  obtain ⟨hi, hd⟩ : (0 ≤ i ∧ i ≤ xs.length) ∧ (ds = whereT (fun k => (findV eqs (kf (xs.getD k eMeterConf.zero)) m).isNone) i.toNat) := hx
  show Sat _ _ [(1, true, (clo f []).v), (2, true, .map (some b)), (7, true, o.v), (12, true, u), (13, true, I xs.length), (14, true, I i)] [OwnS o.v iE ds 3]
  have hdl := whereT_len (fun k => (findV eqs (kf (xs.getD k eMeterConf.zero)) m).isNone) i.toNat
  rw [← hd] at hdl
  refine sg (co (Ev.lss_i (.t rfl) (.t rfl)) ?_)
  refine nP (seq ?_)
  first | refine condD rfl (fun h0 => ?_) (fun h0 => ?_) | refine cond rfl (fun h0 => ?_) (fun h0 => ?_)
  · try simp only [nb] at h0
    refine skip (pN (seq (block (sg (mv rfl (co (Ev.indexAddr Tryz.underlying25 ty57 (.t rfl) (.t rfl) (fun w I => hl.keep0 I.keeps) (fun _ => by omega)) ?_))))))
    refine co (Ev.loadS0 ty57 (.t rfl) (fun w I => hl.keep0 I.keeps) (fun _ => by omega)) ?_
    refine cons (alloc z57 (fun b1 => ?_))
    refine asn rfl (cons (stv ty57 (Lens.id _) (.t rfl) (.t rfl) ?_))
    refine nP (sg (mv rfl (mv rfl (co (Ev.ldv ty57 (.t rfl) (Lens.id _)) ?_))))
    refine cons (callcv (.t rfl) hen (.cons (.t rfl) .nil) (fun w I => hk.call trivial w I) ?_)
    refine co (Ev.lookupT Tryz.underlying82 Tryz.underlying9 key9 z3 (.t rfl) (.t rfl) (fun _ => (fun w I => hm.keep0 I.keeps))) ?_
    refine mv rfl (co (Ev.extract (.t rfl) rfl) (co (Ev.extract (.t rfl) rfl) (asn rfl (asn rfl (nP (sg (mv rfl (co (Ev.not (.t rfl)) ?_))))))))
    refine nP ?_
    first | refine condD rfl (fun h1 => ?_) (fun h1 => ?_) | refine cond rfl (fun h1 => ?_) (fun h1 => ?_)
    · try simp only [nb] at h1
      have hst := whereT_yes (p := (fun k => (findV eqs (kf (xs.getD k eMeterConf.zero)) m).isNone)) hi.1 (by simpa using h1)
      refine region (mv rfl (mv rfl (cons (buildSlice (E := iE) Tryz.underlying22 ty3 z3 (.cons (.t rfl) .nil) rfl rfl (fun v2 => ?_)))))
      refine cons (app (E := iE) Tryz.underlying22 ty3 zb3 zs3 (.t rfl) (.t rfl) (fun v3 => ?_) (hby := ⟨by (show _ ≤ 9223372036854775807); first | omega | (simp; done) | (simp; omega), by first | omega | (simp; done) | (simp; omega)⟩))
      refine asn rfl (nil (bN (pN (region (co (Ev.add_i (.t rfl) (.c (v := I 1) rfl) (fun _ => by omega)) ?_)))))
      refine mv rfl (nP (nx (X := Int × OV × (List Int)) (i + 1, _, _) ⟨?_, ?_⟩ ?_))
      · try dsimp only
        omega
      · try dsimp only
        rw [hst, ← hd]
      · try dsimp only
        omega
    · try simp only [nb] at h1
      have hst := whereT_no (p := (fun k => (findV eqs (kf (xs.getD k eMeterConf.zero)) m).isNone)) hi.1 (by simpa using h1)
      refine skip (bN (pN (region (co (Ev.add_i (.t rfl) (.c (v := I 1) rfl) (fun _ => by omega)) ?_))))
      refine mv rfl (nP (nx (X := Int × OV × (List Int)) (i + 1, _, _) ⟨?_, ?_⟩ ?_))
      · try dsimp only
        omega
      · try dsimp only
        rw [hst, ← hd]
      · try dsimp only
        omega
  · try simp only [nb] at h0
    refine exit (pX (pX (bX (pN (sg (mv rfl (asn rfl (nP (ret (done rfl (.tmp rfl .nil) (retOE (by repeat first | exact mH | apply mT | apply mA) ?_)))))))))))
    rw [hd]
    have e : i.toNat = xs.length := by omega
    rw [e]
theorem unnamed_59 (f b : Nat) (kf : SMirrorConf → ByteArray) (m : List (ByteArray × Int)) (u : Value) (xs : List SMirrorConf) (w : World) (hen : Gx.Enters Tryz.prog f) (hl : IsSl eMirrorConf w u xs) (hm : MapAt w b sE iE m) (hk : FnAt Tryz.prog f [] Nope w eMirrorConf sE (fun _ => True) kf) (hxl : xs.length ≤ 1000000) : Calls Tryz.prog 99 #[u, (clo f []).v, .map (some b)] w (RetO w iE (whereT (fun k => (findV eqs (kf (xs.getD k eMirrorConf.zero)) m).isNone) xs.length) 3) := by
  have hle := hl.le
  refine en0 35 Tryz.func99 ?_
  refine sg (co (Ev.assign (.c (v := (Go.Value.slice none 0 0)) rfl)) ?_)
  refine nP (sg (co (Ev.assign (.c (v := (Go.Value.slice none 0 0)) rfl)) ?_))
  refine takeNil iE 3 ?_
  refine nP (seq (sg (mv rfl (co (Ev.len Tryz.underlying26 (.t rfl) (fun w I => hl.keep0 I.keeps)) ?_))))
  refine co (Ev.move (.c (v := I 0) rfl)) ?_
  refine nP (block (lp (X := Int × OV × (List Int)) (fun x : Int × OV × (List Int) => (0 ≤ x.1 ∧ x.1 ≤ xs.length) ∧ (x.2.2 = whereT (fun k => (findV eqs (kf (xs.getD k eMirrorConf.zero)) m).isNone) x.1.toNat)) (fun x : Int × OV × (List Int) => [(1, true, (clo f []).v), (2, true, .map (some b)), (7, true, x.2.1.v), (12, true, u), (13, true, I xs.length), (14, true, I x.1)]) (fun x : Int × OV × (List Int) => [OwnS x.2.1.v iE x.2.2 3]) (fun x : Int × OV × (List Int) => ((xs.length : Int) - x.1).toNat) (0, nilSl, []) ⟨?_, ?_⟩ (fun x hx => ?_)))
  · omega
  · rfl
  obtain ⟨i, o, ds⟩ := x
  obtain ⟨hi, hd⟩ : (0 ≤ i ∧ i ≤ xs.length) ∧ (ds = whereT (fun k => (findV eqs (kf (xs.getD k eMirrorConf.zero)) m).isNone) i.toNat) := hx
  show Sat _ _ [(1, true, (clo f []).v), (2, true, .map (some b)), (7, true, o.v), (12, true, u), (13, true, I xs.length), (14, true, I i)] [OwnS o.v iE ds 3]
  have hdl := whereT_len (fun k => (findV eqs (kf (xs.getD k eMirrorConf.zero)) m).isNone) i.toNat
  rw [← hd] at hdl
  refine sg (co (Ev.lss_i (.t rfl) (.t rfl)) ?_)
  refine nP (seq ?_)
  first | refine condD rfl (fun h0 => ?_) (fun h0 => ?_) | refine cond rfl (fun h0 => ?_) (fun h0 => ?_)
  · try simp only [nb] at h0
    refine skip (pN (seq (block (sg (mv rfl (co (Ev.indexAddr Tryz.underlying26 ty59 (.t rfl) (.t rfl) (fun w I => hl.keep0 I.keeps) (fun _ => by omega)) ?_))))))
    refine co (Ev.loadS0 ty59 (.t rfl) (fun w I => hl.keep0 I.keeps) (fun _ => by omega)) ?_
    refine cons (alloc z59 (fun b1 => ?_))
    refine asn rfl (cons (stv ty59 (Lens.id _) (.t rfl) (.t rfl) ?_))
    refine nP (sg (mv rfl (mv rfl (co (Ev.ldv ty59 (.t rfl) (Lens.id _)) ?_))))
    refine cons (callcv (.t rfl) hen (.cons (.t rfl) .nil) (fun w I => hk.call trivial w I) ?_)
    refine co (Ev.lookupT Tryz.underlying82 Tryz.underlying9 key9 z3 (.t rfl) (.t rfl) (fun _ => (fun w I => hm.keep0 I.keeps))) ?_
    refine mv rfl (co (Ev.extract (.t rfl) rfl) (co (Ev.extract (.t rfl) rfl) (asn rfl (asn rfl (nP (sg (mv rfl (co (Ev.not (.t rfl)) ?_))))))))
    refine nP ?_
    first | refine condD rfl (fun h1 => ?_) (fun h1 => ?_) | refine cond rfl (fun h1 => ?_) (fun h1 => ?_)
    · try simp only [nb] at h1
      have hst := whereT_yes (p := (fun k => (findV eqs (kf (xs.getD k eMirrorConf.zero)) m).isNone)) hi.1 (by simpa using h1)
      refine region (mv rfl (mv rfl (cons (buildSlice (E := iE) Tryz.underlying22 ty3 z3 (.cons (.t rfl) .nil) rfl rfl (fun v2 => ?_)))))
      refine cons (app (E := iE) Tryz.underlying22 ty3 zb3 zs3 (.t rfl) (.t rfl) (fun v3 => ?_) (hby := ⟨by (show _ ≤ 9223372036854775807); first | omega | (simp; done) | (simp; omega), by first | omega | (simp; done) | (simp; omega)⟩))
      refine asn rfl (nil (bN (pN (region (co (Ev.add_i (.t rfl) (.c (v := I 1) rfl) (fun _ => by omega)) ?_)))))
      refine mv rfl (nP (nx (X := Int × OV × (List Int)) (i + 1, _, _) ⟨?_, ?_⟩ ?_))
      · try dsimp only
        omega
      · try dsimp only
        rw [hst, ← hd]
      · try dsimp only
        omega
    · try simp only [nb] at h1
      have hst := whereT_no (p := (fun k => (findV eqs (kf (xs.getD k eMirrorConf.zero)) m).isNone)) hi.1 (by simpa using h1)
      refine skip (bN (pN (region (co (Ev.add_i (.t rfl) (.c (v := I 1) rfl) (fun _ => by omega)) ?_))))
      refine mv rfl (nP (nx (X := Int × OV × (List Int)) (i + 1, _, _) ⟨?_, ?_⟩ ?_))
      · try dsimp only
        omega
      · try dsimp only
        rw [hst, ← hd]
      · try dsimp only
        omega
  · try simp only [nb] at h0
    refine exit (pX (pX (bX (pN (sg (mv rfl (asn rfl (nP (ret (done rfl (.tmp rfl .nil) (retOE (by repeat first | exact mH | apply mT | apply mA) ?_)))))))))))
    rw [hd]
    have e : i.toNat = xs.length := by omega
    rw [e]
theorem skey1 (a : SMeterConf) (w : World) : Calls Tryz.prog 96 #[eMeterConf.val a] w (RetV w (sE.val (a.name))) := by
  refine en0 5 Tryz.func96 ?_
  refine sg (cons (box (E := eMeterConf) (.t rfl) (fun b1 => ?_)))
  refine co (Ev.assign (.c (v := (Go.Value.string (ByteArray.mk #[]))) rfl)) ?_
  refine nP (sg (co (fA 0 (.t rfl)) ?_))
  refine co (Ev.ldx a.name ty9 (.t rfl) SMeterConf.l_name) ?_
  refine asn rfl (nP (ret (done rfl (.tmp rfl .nil) (retE ?_))))
  rfl
theorem skey1_at (M : Nat → Prop) (w : World) : FnAt Tryz.prog 96 [] M w eMeterConf sE (fun _ => True) (fun a => a.name) := fun a w _ _ => skey1 a w
theorem skey2 (a : SRule) (w : World) : Calls Tryz.prog 98 #[eRule.val a] w (RetV w (sE.val (a.meter))) := by
  refine en0 5 Tryz.func98 ?_
  refine sg (cons (box (E := eRule) (.t rfl) (fun b1 => ?_)))
  refine co (Ev.assign (.c (v := (Go.Value.string (ByteArray.mk #[]))) rfl)) ?_
  refine nP (sg (co (fA 47 (.t rfl)) ?_))
  refine co (Ev.ldx a.meter ty9 (.t rfl) SRule.l_meter) ?_
  refine asn rfl (nP (ret (done rfl (.tmp rfl .nil) (retE ?_))))
  rfl
theorem skey2_at (M : Nat → Prop) (w : World) : FnAt Tryz.prog 98 [] M w eRule sE (fun _ => True) (fun a => a.meter) := fun a w _ _ => skey2 a w
theorem skey3 (a : SMirrorConf) (w : World) : Calls Tryz.prog 100 #[eMirrorConf.val a] w (RetV w (sE.val (a.name))) := by
  refine en0 5 Tryz.func100 ?_
  refine sg (cons (box (E := eMirrorConf) (.t rfl) (fun b1 => ?_)))
  refine co (Ev.assign (.c (v := (Go.Value.string (ByteArray.mk #[]))) rfl)) ?_
  refine nP (sg (co (fA 0 (.t rfl)) ?_))
  refine co (Ev.ldx a.name ty9 (.t rfl) SMirrorConf.l_name) ?_
  refine asn rfl (nP (ret (done rfl (.tmp rfl .nil) (retE ?_))))
  rfl
theorem skey3_at (M : Nat → Prop) (w : World) : FnAt Tryz.prog 100 [] M w eMirrorConf sE (fun _ => True) (fun a => a.name) := fun a w _ _ => skey3 a w
theorem skey4 (a : SRule) (w : World) : Calls Tryz.prog 101 #[eRule.val a] w (RetV w (sE.val (a.mirror))) := by
  refine en0 5 Tryz.func101 ?_
  refine sg (cons (box (E := eRule) (.t rfl) (fun b1 => ?_)))
  refine co (Ev.assign (.c (v := (Go.Value.string (ByteArray.mk #[]))) rfl)) ?_
  refine nP (sg (co (fA 48 (.t rfl)) ?_))
  refine co (Ev.ldx a.mirror ty9 (.t rfl) SRule.l_mirror) ?_
  refine asn rfl (nP (ret (done rfl (.tmp rfl .nil) (retE ?_))))
  rfl
theorem skey4_at (M : Nat → Prop) (w : World) : FnAt Tryz.prog 101 [] M w eRule sE (fun _ => True) (fun a => a.mirror) := fun a w _ _ => skey4 a w
theorem rule_okM {l : CL} {r : SRule} {i : Int} (h : ruleE l r i = 0) : okM r.match_ = true := by
  unfold ruleE at h
  split at h
  · cases h
  split at h
  · cases h
  split at h
  · cases h
  · rename_i h3
    simpa using h3
def mtL (l : CL) : List SMatch := l.us.map fun r => r.match_
theorem may_comp {l : CL} {d : Int} (h : mayB l d = true) : compE (mtL l) = 0 := by
  have hl := may_lens h
  have hg := (may_good h).us
  have h1 : (mtL l).length = l.us.length := by simp [mtL]
  have h2 : (mtL l).all okM = true := List.all_eq_true.2 fun m hm => by
    obtain ⟨r, hr, rfl⟩ := List.mem_map.1 hm
    obtain ⟨i, hi, rfl⟩ := List.mem_iff_getElem.1 hr
    have := rule_okM (hg i hi)
    simpa [List.getD, hi] using this
  unfold compE
  rw [decide_eq_false (by omega), h2]
  rfl
def spareA (l : CL) : List Int := whereT (fun k => (findV eqs (l.ms.getD k eMeterConf.zero).name (firstN eqs (fun a => a.meter) l.us l.us.length)).isNone) l.ms.length
def spareB (l : CL) : List Int := whereT (fun k => (findV eqs (l.xs.getD k eMirrorConf.zero).name (firstN eqs (fun a => a.mirror) l.us l.us.length)).isNone) l.xs.length
def spE (l : CL) (d : Int) : Int := bif mayB l d then 0 else 210
def spL (l : CL) (d : Int) (x : List Int) : List Int := bif mayB l d then x else []
theorem en98 : Gx.Enters Tryz.prog 98 := Gx.Enters.mk' (by kernel_rfl)
theorem en101 : Gx.Enters Tryz.prog 101 := Gx.Enters.mk' (by kernel_rfl)
theorem en96 : Gx.Enters Tryz.prog 96 := Gx.Enters.mk' (by kernel_rfl)
theorem en100 : Gx.Enters Tryz.prog 100 := Gx.Enters.mk' (by kernel_rfl)
theorem en94 : Gx.Enters Tryz.prog 94 := Gx.Enters.mk' (by kernel_rfl)
theorem en95 : Gx.Enters Tryz.prog 95 := Gx.Enters.mk' (by kernel_rfl)
theorem en99 : Gx.Enters Tryz.prog 99 := Gx.Enters.mk' (by kernel_rfl)
theorem en102 : Gx.Enters Tryz.prog 102 := Gx.Enters.mk' (by kernel_rfl)
theorem spare_ok (c : SConf) (l : CL) (w : World) (hc : ConfAt w c l) (hn : l.Names) (hz : l.n ≤ 4611686018427387904) : Calls Tryz.prog 29 #[eConf.val c] w (RetN w (fun _ : OV × OV × OV => True) (fun x => .tuple #[x.1.v, x.2.1.v, x.2.2.v, I (spE l c.default)]) (fun x => [OwnS x.1.v iE (spL l c.default (spareA l)) 3, OwnS x.2.1.v iE (spL l c.default (spareB l)) 3, OwnS x.2.2.v iE (spL l c.default (deadB (mtL l))) 3])) := by
  have hle := hc.us.le
  refine en0 49 Tryz.func29 ?_
  refine sg (cons (box (E := eConf) (.t rfl) (fun b1 => ?_)))
  refine co (Ev.assign (.c (v := (Go.Value.slice none 0 0)) rfl)) ?_
  refine co (Ev.assign (.c (v := (Go.Value.slice none 0 0)) rfl)) ?_
  refine co (Ev.assign (.c (v := (Go.Value.slice none 0 0)) rfl)) ?_
  refine co (Ev.assign (.c (v := I 0) rfl)) ?_
  refine nP (seq (sg (co (Ev.ldx c ty28 (.t rfl) (Lens.id _)) ?_)))
  refine cons (callv en15 (.cons (.t rfl) .nil) (fun w I => may_ok c l w (hc.keep0 I.keeps) hn hz) ?_)
  refine co (Ev.not (.t rfl)) ?_
  refine nP ?_
  first | refine condD rfl (fun h0 => ?_) (fun h0 => ?_) | refine cond rfl (fun h0 => ?_) (fun h0 => ?_)
  · have hmay : mayB l c.default = false := by simpa using h0
    refine seq (takeNil iE 3 ?_)
    refine takeNil iE 3 ?_
    refine takeNil iE 3 ?_
    refine region (co (Ev.assign (.c (v := (Go.Value.slice none 0 0)) rfl)) ?_)
    refine co (Ev.assign (.c (v := (Go.Value.slice none 0 0)) rfl)) ?_
    refine co (Ev.assign (.c (v := (Go.Value.slice none 0 0)) rfl)) ?_
    refine co (Ev.assign (.c (v := I 210) rfl)) ?_
    refine nP (ret (pR (done rfl (.tmp rfl (.tmp rfl (.tmp rfl (.tmp rfl .nil)))) (fun w I => ?_))))
    refine retNP (nilSl, nilSl, nilSl) trivial ?_ ?_ w I
    · unfold spE; rw [hmay]; rfl
    · unfold spL; rw [hmay]; exact (by repeat first | exact SubP.nil | refine SubP.cons (by repeat first | exact Rem.head | apply Rem.tail) ?_)
  · have hmay : mayB l c.default = true := by simpa using h0
    have hlens := may_lens hmay
    have hcomp := may_comp hmay
    refine skip (pN (sg (co (Ev.assign (.c (v := (Go.Value.slice none 0 0)) rfl)) ?_)))
    refine takeNil eMatch 74 ?_
    refine nP (seq (sg (co (fA 2 (.t rfl)) ?_)))
    refine co (Ev.ldx c.rules ty24 (.t rfl) SConf.l_rules) ?_
    refine co (Ev.len Tryz.underlying24 (.t rfl) (fun w I => (hc.keep0 I.keeps).us)) ?_
    refine co (Ev.move (.c (v := I 0) rfl)) ?_
    refine nP (block (lp (X := Int × OV) (fun x : Int × OV => (0 ≤ x.1 ∧ x.1 ≤ l.us.length)) (fun x : Int × OV => [(1, true, .pointer (some ⟨b1, 0, none⟩)), (6, true, x.2.v), (14, true, c.rules.v), (15, true, I l.us.length), (16, true, I x.1)]) (fun x : Int × OV => [OwnS x.2.v eMatch ((l.us.take x.1.toNat).map (fun r => r.match_)) 74, Var b1 eConf c 28]) (fun x : Int × OV => ((l.us.length : Int) - x.1).toNat) (0, nilSl) ?_ (fun x hx => ?_)))
    · omega
    obtain ⟨i, q⟩ := x
    have hi : 0 ≤ i ∧ i ≤ l.us.length := hx
    clear hx
    show Sat _ _ [(1, true, .pointer (some ⟨b1, 0, none⟩)), (6, true, q.v), (14, true, c.rules.v), (15, true, I l.us.length), (16, true, I i)] [OwnS q.v eMatch ((l.us.take i.toNat).map (fun r => r.match_)) 74, Var b1 eConf c 28]
    have hql : ((l.us.take i.toNat).map (fun r => r.match_)).length ≤ 256 := by simp; omega
    refine sg (co (Ev.lss_i (.t rfl) (.t rfl)) ?_)
    refine nP (seq ?_)
    first | refine condD rfl (fun h1 => ?_) (fun h1 => ?_) | refine cond rfl (fun h1 => ?_) (fun h1 => ?_)
    · try simp only [nb] at h1
      refine skip (pN (seq (block (sg (co (Ev.indexAddr Tryz.underlying24 ty76 (.t rfl) (.t rfl) (fun w I => (hc.keep0 I.keeps).us) (fun _ => by omega)) ?_)))))
      refine co (Ev.loadS0 ty76 (.t rfl) (fun w I => (hc.keep0 I.keeps).us) (fun _ => by omega)) ?_
      refine cons (alloc z76 (fun b2 => ?_))
      refine cons (stv ty76 (Lens.id _) (.t rfl) (.t rfl) ?_)
      refine nP (region (mv rfl (co (fA 1 (.t rfl)) ?_)))
      refine co (Ev.ldv ty74 (.t rfl) SRule.l_match_) ?_
      refine cons (buildSlice (E := eMatch) Tryz.underlying143 ty74 z74 (.cons (.t rfl) .nil) rfl rfl (fun v3 => ?_))
      refine cons (app (E := eMatch) Tryz.underlying143 ty74 zb74 zs74 (.t rfl) (.t rfl) (fun v4 => ?_) (hby := ⟨by (show _ ≤ 9223372036854775807); first | omega | (simp; done) | (simp; omega), by first | omega | (simp; done) | (simp; omega)⟩))
      refine asn rfl (nil (bN (pN (region (co (Ev.add_i (.t rfl) (.c (v := I 1) rfl) (fun _ => by omega)) ?_)))))
      refine mv rfl (nP (nx (X := Int × OV) (i + 1, _) ?_ ?_ (hL := (by rw [take_snoc l.us i hi.1 (by omega) eRule.zero, List.map_append]; repeat first | exact sR | exact sN | apply sC | apply sS | apply sA))))
      · try dsimp only
        omega
      · try dsimp only
        omega
    · try simp only [nb] at h1
      refine exit (pX (pX (bX (pN (seq ?_)))))
      have hq : (l.us.take i.toNat).map (fun r => r.match_) = mtL l := by rw [List.take_of_length_le (by omega)]; rfl
      rw [hq]
      refine region (mv rfl (cons (calln (X := Nat × List Res) (CompJ (mtL l)) (compV (mtL l)) (fun x => x.2) en94 (.cons (.t rfl) .nil) (fun w I => compile_ok _ (mtL l) w (io w I)) (fun x1 hx1 => ?_))))
      refine mv rfl (co (Ev.to (v' := .pointer (some ⟨x1.1, 0, none⟩)) (Ev.extract (.t rfl) rfl) (congrArg Value.pointer (ptrO_ok x1.1 hcomp))) ?_)
      refine co (Ev.to (v' := I 0) (Ev.extract (.t rfl) rfl) (congrArg I hcomp)) ?_
      refine asn rfl (asn rfl (nP (seq (sg (mv rfl (co (Ev.neq_i (.t rfl) (.c (v := I 0) rfl)) ?_))))))
      refine nP (condF rfl (rfl) ?_)
      refine skip (pN (seq (draw' (by kernel_rfl) ?_)))
      refine tk 0 rfl (fA 3 (.t rfl)) ?_
      refine tk 1 rfl (Ev.ldx c.meters ty25 (.t rfl) SConf.l_meters) ?_
      refine tk 2 rfl (fA 2 (.t rfl)) ?_
      refine tk 3 rfl (Ev.ldx c.rules ty24 (.t rfl) SConf.l_rules) ?_
      refine al1 4 rfl ((calln (X := Nat) (fun _ => True) (fun b => .map (some b)) (fun b => [MapR b sE iE (firstN eqs (fun a : SRule => a.meter) l.us l.us.length)]) en97 (.cons (.t rfl) (.cons .f .nil)) (fun w I => first_9_76 98 [] _ _ l.us w en98 (hc.keep0 I.keeps).us (skey2_at _ w)) (fun m1 _ => ?_)))
      refine hdn (al1 5 rfl ((callo en95 (.cons (.t rfl) (.cons .f (.cons (.t rfl) .nil))) (fun w I => unnamed_57 96 m1 _ _ _ l.ms w en96 (hc.keep0 I.keeps).ms (mapAt_own (by repeat first | exact mH | apply mT | apply mA) w I) (skey1_at _ w) (by omega)) (fun o1 => ?_))))
      refine hdn (tk 6 rfl (Ev.assign (.t rfl)) ?_)
      refine ovr (pN (seq (draw' (by kernel_rfl) ?_)))
      refine tk 0 rfl (fA 4 (.t rfl)) ?_
      refine tk 1 rfl (Ev.ldx c.mirrors ty26 (.t rfl) SConf.l_mirrors) ?_
      refine tk 2 rfl (fA 2 (.t rfl)) ?_
      refine tk 3 rfl (Ev.ldx c.rules ty24 (.t rfl) SConf.l_rules) ?_
      refine al1 4 rfl ((calln (X := Nat) (fun _ => True) (fun b => .map (some b)) (fun b => [MapR b sE iE (firstN eqs (fun a : SRule => a.mirror) l.us l.us.length)]) en97 (.cons (.t rfl) (.cons .f .nil)) (fun w I => first_9_76 101 [] _ _ l.us w en101 (hc.keep0 I.keeps).us (skey4_at _ w)) (fun m2 _ => ?_)))
      refine hdn (al1 5 rfl ((callo en99 (.cons (.t rfl) (.cons .f (.cons (.t rfl) .nil))) (fun w I => unnamed_59 100 m2 _ _ _ l.xs w en100 (hc.keep0 I.keeps).xs (mapAt_own (by repeat first | exact mH | apply mT | apply mA) w I) (skey3_at _ w) (by omega)) (fun o2 => ?_))))
      refine hdn (tk 6 rfl (Ev.assign (.t rfl)) ?_)
      refine ovr (pN (sg (mv rfl (mv rfl (mv rfl (cons (callo en102 (.cons (.t rfl) .nil) (fun w I => dead_ok x1.1 (mtL l) w (hx1 hcomp w (fun r hr => (I.own r (by repeat first | exact List.mem_append_left _ hr | apply List.Mem.tail | (apply List.mem_append_right []; exact List.mem_append_left _ hr))).1)) (by rw [show (mtL l).length = l.us.length by simp [mtL]]; omega)) (fun v5 => ?_))))))))
      refine asn rfl (asn rfl (asn rfl (co (Ev.assign (.c (v := I 0) rfl)) ?_)))
      refine nP (ret (done rfl (.tmp rfl (.tmp rfl (.tmp rfl (.tmp rfl .nil)))) (fun w I => ?_)))
      refine retNP (o1, o2, v5) trivial ?_ ?_ w I
      · unfold spE; rw [hmay]; rfl
      · unfold spL; rw [hmay]; exact (by repeat first | exact SubP.nil | refine SubP.cons (by repeat first | exact Rem.head | apply Rem.tail) ?_)
theorem whereT_congr {p q : Nat → Bool} {n : Nat} (h : ∀ k, p k = q k) : whereT p n = whereT q n := by
  have e : p = q := funext h
  rw [e]
theorem any_idx {α : Type} (p : α → Bool) (l : List α) : decide (idxF p l < 0) = !l.any p := by
  rw [Bool.eq_iff_iff, decide_eq_true_iff, Bool.not_eq_true', List.any_eq_false]
  constructor
  · intro h x hx
    rw [idxF_neg h x hx]
    exact Bool.false_ne_true
  · intro h
    rcases Int.lt_or_le (idxF p l) 0 with g | g
    · exact g
    · obtain ⟨A, y, B, e1, e2, _⟩ := idx_split g
      exact absurd e2 (h y (by rw [e1]; simp))
theorem none_any (f : SRule → ByteArray) (l : List SRule) (k : ByteArray) : (findV eqs k (firstN eqs f l l.length)).isNone = !l.any (fun r => decide (f r = k)) := by
  have e := none_idx eqs_iff f l k
  simp only [eqs_dec] at e
  rw [e, any_idx]
def usedA (l : CL) (k : Nat) : Bool := l.us.any fun r => decide (r.meter = (l.ms.getD k eMeterConf.zero).name)
def usedB (l : CL) (k : Nat) : Bool := l.us.any fun r => decide (r.mirror = (l.xs.getD k eMirrorConf.zero).name)
theorem spareA_any (l : CL) : spareA l = whereT (fun k => !usedA l k) l.ms.length := whereT_congr fun k => none_any _ _ _
theorem spareB_any (l : CL) : spareB l = whereT (fun k => !usedB l k) l.xs.length := whereT_congr fun k => none_any _ _ _
theorem en29 : Gx.Enters Tryz.prog 29 := Gx.Enters.mk' (by kernel_rfl)
def idxs (l : List SMatch) (n : Nat) : List Nat := (List.range n).filter fun k => !deadAt l k
def alT (l : List SMatch) (n : Nat) : List SMatch := (idxs l n).map fun k => l.getD k eMatch.zero
def plT (l : List SMatch) (n : Nat) : List Int := (idxs l n).map fun k : Nat => (k : Int)
theorem idxs_mem {l : List SMatch} {n k : Nat} : k ∈ idxs l n ↔ k < n ∧ deadAt l k = false := by
  unfold idxs
  simp
theorem idxs_sorted (l : List SMatch) (n : Nat) : (idxs l n).Pairwise (· < ·) := List.Pairwise.filter _ List.pairwise_lt_range
theorem alT_get (l : List SMatch) (n p : Nat) (h : p < (idxs l n).length) : (alT l n).getD p eMatch.zero = l.getD (idxs l n)[p] eMatch.zero := by simp [alT, List.getD, h]
theorem alT_len (l : List SMatch) (n : Nat) : (alT l n).length = (idxs l n).length := by simp [alT]
theorem deadAt_free {l : List SMatch} {k : Nat} (hk : k < l.length) (h : deadAt l k = false) (j : Nat) (hj : j < k) : coversM (l.getD j eMatch.zero) (l.getD k eMatch.zero) = false := by
  cases hc : coversM (l.getD j eMatch.zero) (l.getD k eMatch.zero) with
  | false => rfl
  | true => rw [deadAt_yes l k j hk hj hc] at h; cases h
theorem alive_free (l : List SMatch) : deadB (alT l l.length) = [] := by
  unfold deadB deadT
  rw [List.map_eq_nil_iff, List.filter_eq_nil_iff]
  intro p hp
  have hp : p < (alT l l.length).length := by simpa using hp
  have hpi : p < (idxs l l.length).length := by rwa [alT_len] at hp
  have hd := idxs_mem.1 (List.getElem_mem hpi)
  have := deadAt_no (alT l l.length) p (by omega) (fun q hq => by
    have hqi : q < (idxs l l.length).length := by omega
    rw [alT_get l _ q hqi, alT_get l _ p hpi]
    exact deadAt_free hd.1 hd.2 _ (List.pairwise_iff_getElem.1 (idxs_sorted l l.length) q p hqi hpi (by omega)))
  rw [this]
  simp
def keepN {α : Type} (p : Nat → Bool) (l : List α) (z : α) : List α := (whereT (fun k => !p k) l.length).map fun i => l.getD i.toNat z
theorem where_split (p : Nat → Bool) (i : Nat) : ∀ d : Nat, ∃ r, whereT p (i + d) = whereT p i ++ r ∧ ∀ x ∈ r, (i : Int) ≤ x
  | 0 => ⟨[], by simp, fun x h => by simp at h⟩
  | d + 1 => by
    obtain ⟨r, h1, h2⟩ := where_split p i d
    have e : i + (d + 1) = (i + d) + 1 := by omega
    rw [e, whereT_step]
    cases hp : p (i + d) with
    | false => exact ⟨r, h1, h2⟩
    | true =>
      refine ⟨r ++ [((i + d : Nat) : Int)], ?_, fun x hx => ?_⟩
      · show whereT p (i + d) ++ [((i + d : Nat) : Int)] = _
        rw [h1, List.append_assoc]
      · rcases List.mem_append.1 hx with hx | hx
        · exact h2 x hx
        · rw [List.mem_singleton] at hx
          omega
theorem where_in {p : Nat → Bool} {i n : Nat} (h : i < n) (hp : p i = true) : (whereT p i).length < (whereT p n).length ∧ (whereT p n).getD (whereT p i).length 0 = (i : Int) := by
  obtain ⟨r, h1, h2⟩ := where_split p (i + 1) (n - (i + 1))
  have e : i + 1 + (n - (i + 1)) = n := by omega
  rw [e, whereT_step, hp] at h1
  have h3 : whereT p n = whereT p i ++ ([(i : Int)] ++ r) := by rw [← List.append_assoc]; exact h1
  rw [h3]
  refine ⟨by simp, by simp [List.getD]⟩
theorem where_out {p : Nat → Bool} {i n : Nat} (h : i < n) (hp : p i = false) (g1 : (whereT p i).length < (whereT p n).length) : ¬ (whereT p n).getD (whereT p i).length 0 = (i : Int) := by
  obtain ⟨r, h1, h2⟩ := where_split p (i + 1) (n - (i + 1))
  have e : i + 1 + (n - (i + 1)) = n := by omega
  rw [e, whereT_step, hp] at h1
  have h3 : whereT p n = whereT p i ++ r := h1
  rw [h3] at g1 ⊢
  intro g2
  have hr : 0 < r.length := by
    rw [List.length_append] at g1
    omega
  have e2 : (whereT p i ++ r).getD (whereT p i).length 0 = r[0] := by simp [List.getD, List.getElem?_append, hr]
  rw [e2] at g2
  have := h2 r[0] (List.getElem_mem hr)
  omega
theorem keepN_eq {α : Type} (p : Nat → Bool) (l : List α) (z : α) : keepN p l z = ((List.range l.length).filter fun k => !p k).map fun k => l.getD k z := by
  unfold keepN whereT
  rw [List.map_map]
  rfl
theorem range_map {α : Type} (l : List α) (z : α) : (List.range l.length).map (fun k => l.getD k z) = l := by
  refine List.ext_getElem (by simp) fun i h1 h2 => ?_
  simp [List.getD, h2]
theorem keepN_sub {α : Type} (p : Nat → Bool) (l : List α) (z : α) : (keepN p l z).Sublist l := by
  have h : (((List.range l.length).filter fun k => !p k).map fun k => l.getD k z).Sublist ((List.range l.length).map fun k => l.getD k z) := List.filter_sublist.map _
  rw [range_map] at h
  rw [keepN_eq]
  exact h
theorem keepN_mem {α : Type} {p : Nat → Bool} {l : List α} (z : α) {k : Nat} (hk : k < l.length) (hp : p k = false) : l.getD k z ∈ keepN p l z := by
  rw [keepN_eq]
  exact List.mem_map_of_mem (f := fun k => l.getD k z) (List.mem_filter.2 ⟨List.mem_range.2 hk, by rw [hp]; rfl⟩)
def keptC (l : CL) : CL := ⟨l.ps, l.rs, keepN (deadAt (mtL l)) l.us eRule.zero, keepN (fun k => !usedA l k) l.ms eMeterConf.zero, keepN (fun k => !usedB l k) l.xs eMirrorConf.zero⟩
theorem ruleE_z {l : CL} {r : SRule} {i : Int} : ruleE l r i = 0 ↔ nameB r.name = true ∧ okM r.match_ = true ∧ ¬ (r.action < 1 ∨ 4 < r.action) ∧ ¬ ruleO l r = true ∧ ¬ ((r.meter ≠ ⟨#[]⟩ ∧ inM (metersM l) r.meter = false) ∨ (r.mirror ≠ ⟨#[]⟩ ∧ inM (mirrorsM l) r.mirror = false)) ∧ ¬ (findV eqs r.name (rulesM l)).getD 0 < i := by
  unfold ruleE
  split
  · rename_i h1
    exact ⟨fun h0 => absurd h0 (by decide), fun hh => by rw [hh.1] at h1; cases h1⟩
  rename_i h1
  split
  · rename_i h2
    exact ⟨fun h0 => absurd h0 (by decide), fun hh => absurd h2 hh.2.2.2.2.2⟩
  rename_i h2
  split
  · rename_i h3
    exact ⟨fun h0 => absurd h0 (by decide), fun hh => by rw [hh.2.1] at h3; cases h3⟩
  rename_i h3
  split
  · rename_i h4
    exact ⟨fun h0 => absurd h0 (by decide), fun hh => absurd h4 hh.2.2.1⟩
  rename_i h4
  split
  · rename_i h5
    exact ⟨fun h0 => absurd h0 (by decide), fun hh => absurd h5 hh.2.2.2.1⟩
  rename_i h5
  split
  · rename_i h6
    exact ⟨fun h0 => absurd h0 (by decide), fun hh => absurd h6 hh.2.2.2.2.1⟩
  rename_i h6
  exact ⟨fun _ => ⟨by simpa using h1, by simpa using h3, h4, h5, h6, h2⟩, fun _ => rfl⟩
theorem good_us {l : CL} {d : Int} (h : l.Good d) : (l.us.map (·.name)).Nodup := nodup_first eqs_iff eRule.zero fun i hi => (ruleE_z.1 (h.us i hi)).2.2.2.2.2
theorem kept_named {α : Type} (f : α → ByteArray) (U : Nat → Bool) {l : List α} (z : α) {s : ByteArray} (hu : ∀ k, k < l.length → f (l.getD k z) = s → U k = true) (h : inM (firstN eqs f l l.length) s = true) : inM (firstN eqs f (keepN (fun k => !U k) l z) (keepN (fun k => !U k) l z).length) s = true := by
  rw [inM_iff] at h ⊢
  obtain ⟨x, hx, e⟩ := List.mem_map.1 h
  obtain ⟨k, hk, rfl⟩ := List.mem_iff_getElem.1 hx
  have e2 : l.getD k z = l[k] := by simp [List.getD, hk]
  have hk2 := hu k hk (by rw [e2]; exact e)
  rw [← e, ← e2]
  exact List.mem_map_of_mem (keepN_mem z hk (by rw [hk2]; rfl))
theorem used_of {l : List SRule} {r : SRule} (hr : r ∈ l) (f : SRule → ByteArray) {s : ByteArray} (e : s = f r) : (l.any fun r => decide (f r = s)) = true := List.any_eq_true.2 ⟨r, hr, by rw [e]; simp⟩
theorem kept_good {l : CL} {d : Int} (h : l.Good d) : (keptC l).Good d := by
  refine ⟨fun i hi => h.ps i hi, fun i hi => h.rs i hi, fun i hi => ?_, fun i hi => ?_, fun i hi => ?_, h.d⟩
  · have hs := keepN_sub (deadAt (mtL l)) l.us eRule.zero
    have hin := hs.subset (getD_in (keptC l).us i eRule.zero hi)
    obtain ⟨j, hj, hz⟩ := getD_of l.us eRule.zero (P := fun x i => ruleE l x i = 0) h.us _ hin
    obtain ⟨z1, z2, z3, z4, z5, _⟩ := ruleE_z.1 hz
    refine ruleE_z.2 ⟨z1, z2, z3, z4, fun hc => z5 ?_, first_nodup eqs_iff eRule.zero ((good_us h).sublist (hs.map _)) i hi⟩
    rcases hc with ⟨c1, c2⟩ | ⟨c1, c2⟩
    · refine .inl ⟨c1, ?_⟩
      cases hm : inM (metersM l) ((keptC l).us.getD i eRule.zero).meter with
      | false => rfl
      | true =>
        have := kept_named (l := l.ms) (fun x : SMeterConf => x.name) (usedA l) eMeterConf.zero (fun k _ e => used_of hin (fun r => r.meter) e) hm
        exact absurd (c2.symm.trans this) (by decide)
    · refine .inr ⟨c1, ?_⟩
      cases hm : inM (mirrorsM l) ((keptC l).us.getD i eRule.zero).mirror with
      | false => rfl
      | true =>
        have := kept_named (l := l.xs) (fun x : SMirrorConf => x.name) (usedB l) eMirrorConf.zero (fun k _ e => used_of hin (fun r => r.mirror) e) hm
        exact absurd (c2.symm.trans this) (by decide)
  · have hs := keepN_sub (fun k => !usedA l k) l.ms eMeterConf.zero
    obtain ⟨j, hj, hz⟩ := getD_of l.ms eMeterConf.zero (P := fun x i => meterE l x i = 0) h.ms _ (hs.subset (getD_in (keptC l).ms i eMeterConf.zero hi))
    obtain ⟨z1, z2, _⟩ := meterE_z.1 hz
    exact meterE_z.2 ⟨z1, z2, first_nodup eqs_iff eMeterConf.zero ((good_ms h).sublist (hs.map _)) i hi⟩
  · have hs := keepN_sub (fun k => !usedB l k) l.xs eMirrorConf.zero
    obtain ⟨j, hj, hz⟩ := getD_of l.xs eMirrorConf.zero (P := fun x i => mirrorE l x i = 0) h.xs _ (hs.subset (getD_in (keptC l).xs i eMirrorConf.zero hi))
    obtain ⟨z1, z2, z3, _⟩ := mirrorE_z.1 hz
    exact mirrorE_z.2 ⟨z1, z2, z3, first_nodup eqs_iff eMirrorConf.zero ((good_xs h).sublist (hs.map _)) i hi⟩
theorem kept_lens (l : CL) : (keptC l).us.length ≤ l.us.length ∧ (keptC l).ms.length ≤ l.ms.length ∧ (keptC l).xs.length ≤ l.xs.length := ⟨(keepN_sub _ _ _).length_le, (keepN_sub _ _ _).length_le, (keepN_sub _ _ _).length_le⟩
theorem kept_may {l : CL} {d : Int} (h : mayB l d = true) : mayB (keptC l) d = true := by
  obtain ⟨h1, h2, h3, h4, h5⟩ := may_lens h
  obtain ⟨k1, k2, k3⟩ := kept_lens l
  exact good_may (kept_good (may_good h)) ⟨h1, h2, by omega, by omega, by omega⟩
theorem kept_names {l : CL} (h : l.Names) : (keptC l).Names := ⟨fun x hx => h.1 x ((keepN_sub _ _ _).subset hx), fun x hx => h.2 x ((keepN_sub _ _ _).subset hx), fun x hx => h.3 x ((keepN_sub _ _ _).subset hx)⟩
theorem kept_n (l : CL) : (keptC l).n ≤ l.n := by
  obtain ⟨k1, k2, k3⟩ := kept_lens l
  unfold CL.n
  have e1 : (keptC l).ps.length = l.ps.length := rfl
  have e2 : (keptC l).rs.length = l.rs.length := rfl
  omega
theorem kept_mt (l : CL) : mtL (keptC l) = alT (mtL l) (mtL l).length := by
  have hlen : (mtL l).length = l.us.length := by simp [mtL]
  unfold alT idxs
  rw [hlen]
  show (keepN (deadAt (mtL l)) l.us eRule.zero).map (fun r => r.match_) = _
  rw [keepN_eq, List.map_map]
  refine List.map_congr_left fun k hk => ?_
  have hk2 : k < l.us.length := List.mem_range.1 (List.mem_filter.1 hk).1
  simp [mtL, List.getD, hk2]
theorem kept_dead (l : CL) : deadB (mtL (keptC l)) = [] := by
  rw [kept_mt]
  exact alive_free _
theorem dead_where (l : CL) : deadB (mtL l) = whereT (deadAt (mtL l)) l.us.length := by
  have hlen : (mtL l).length = l.us.length := by simp [mtL]
  unfold deadB deadT
  rw [hlen]
  rfl
theorem where_rng {p : Nat → Bool} {n : Nat} : ∀ x ∈ whereT p n, 0 ≤ x ∧ x < n := fun x hx => by
  unfold whereT at hx
  obtain ⟨k, hk, rfl⟩ := List.mem_map.1 hx
  have := List.mem_range.1 (List.mem_filter.1 hk).1
  omega
theorem without_ok (n : Nat) (u : Value) (p : Nat → Bool) (w : World) (hl : IsSl iE w u (whereT p n)) (hn : n ≤ 1000000) : Calls Tryz.prog 32 #[I (n : Nat), u] w (RetO w iE (whereT (fun k => !p k) n) 3) := by
  have hle := hl.le
  refine en0 32 Tryz.func32 ?_
  refine sg (co (Ev.assign (.c (v := (Go.Value.slice none 0 0)) rfl)) ?_)
  refine nP (sg (co (Ev.assign (.c (v := (Go.Value.slice none 0 0)) rfl)) ?_))
  refine takeNil iE 3 ?_
  refine nP (sg (co (Ev.assign (.c (v := I 0) rfl)) ?_))
  refine nP (seq (sg (co (Ev.assign (.c (v := I 0) rfl)) ?_)))
  refine nP (block (lp (X := Int × Int × OV × (List Int)) (fun x : Int × Int × OV × (List Int) => (0 ≤ x.1 ∧ x.1 ≤ n) ∧ (x.2.1 = ((whereT p x.1.toNat).length : Nat)) ∧ (x.2.2.2 = whereT (fun k => !p k) x.1.toNat)) (fun x : Int × Int × OV × (List Int) => [(0, true, I (n : Nat)), (1, true, u), (5, true, x.2.2.1.v), (6, true, I x.2.1), (7, true, I x.1)]) (fun x : Int × Int × OV × (List Int) => [OwnS x.2.2.1.v iE x.2.2.2 3]) (fun x : Int × Int × OV × (List Int) => ((n : Int) - x.1).toNat) (0, 0, nilSl, []) ⟨?_, ?_, ?_⟩ (fun x hx => ?_)))
  · omega
  · rfl
  · rfl
  obtain ⟨i, kk, o, ds⟩ := x
  obtain ⟨hi, hk, hd⟩ : (0 ≤ i ∧ i ≤ n) ∧ (kk = ((whereT p i.toNat).length : Nat)) ∧ (ds = whereT (fun k => !p k) i.toNat) := hx
  show Sat _ _ [(0, true, I (n : Nat)), (1, true, u), (5, true, o.v), (6, true, I kk), (7, true, I i)] [OwnS o.v iE ds 3]
  have hdl := whereT_len (fun k => !p k) i.toNat
  rw [← hd] at hdl
  refine seq (sg (mv rfl (mv rfl (co (Ev.lss_i (.t rfl) (.t rfl)) ?_))))
  refine nP ?_
  first | refine condD rfl (fun h0 => ?_) (fun h0 => ?_) | refine cond rfl (fun h0 => ?_) (fun h0 => ?_)
  · try simp only [nb] at h0
    refine skip (pN (seq (block (seq (sg (mv rfl (mv rfl (co (Ev.len Tryz.underlying22 (.t rfl) (fun w I => hl.keep0 I.keeps)) ?_))))))))
    refine co (Ev.lss_i (.t rfl) (.t rfl)) ?_
    refine mv rfl (cg rfl rfl (Ev.move (.t rfl)) ?_)
    refine cg rfl rfl (Ev.move (.t rfl)) ?_
    refine cg rfl rfl (Ev.indexAddr Tryz.underlying22 ty3 (.g rfl id) (.g rfl id) (fun w I => hl.keep0 I.keeps) (fun _ => by first | omega | (rename_i hg; simp at hg; omega))) ?_
    refine cg rfl rfl (Ev.loadS0 ty3 (.g rfl id) (fun w I => hl.keep0 I.keeps) (fun _ => by first | omega | (rename_i hg; simp at hg; omega))) ?_
    refine cg rfl rfl (Ev.move (.t rfl)) ?_
    refine cg rfl rfl (Ev.eql_i (.g rfl id) (.g rfl id)) ?_
    refine co (Ev.pkA (.t rfl) rfl) ?_
    refine nP ?_
    first | refine condD rfl (fun h1 => ?_) (fun h1 => ?_) | refine cond rfl (fun h1 => ?_) (fun h1 => ?_)
    · have hq : kk < ((whereT p n).length : Nat) ∧ (whereT p n).getD kk.toNat iE.zero = i := by simpa using h1
      have ek : kk.toNat = (whereT p i.toNat).length := by omega
      rw [ek] at hq
      have hpi : p i.toNat = true := by
        cases hc : p i.toNat with
        | true => rfl
        | false => exact absurd (hq.2.trans (show i = ((i.toNat : Nat) : Int) by omega)) (where_out (n := n) (by omega) hc (by omega))
      have hs1 := whereT_yes (p := p) hi.1 hpi
      have hs2 := whereT_no (p := fun k => !p k) hi.1 (by show (!p i.toNat) = false; rw [hpi]; rfl)
      refine sg (mv rfl (co (Ev.add_i (.t rfl) (.c (v := I 1) rfl) (fun _ => by omega)) ?_))
      refine asn rfl (nP (exit (pX (bX (pN (region (mv rfl (co (Ev.add_i (.t rfl) (.c (v := I 1) rfl) (fun _ => by omega)) ?_))))))))
      refine asn rfl (nP (nx (X := Int × Int × OV × (List Int)) (i + 1, _, _, _) ⟨?_, ?_, ?_⟩ ?_))
      · try dsimp only
        omega
      · try dsimp only
        rw [hs1]; first | exact hk | (rw [hk]; simp)
      · try dsimp only
        rw [hs2, hd]
      · try dsimp only
        omega
    · have hq : ¬ (kk < ((whereT p n).length : Nat) ∧ (whereT p n).getD kk.toNat iE.zero = i) := by simpa using h1
      have ek : kk.toNat = (whereT p i.toNat).length := by omega
      rw [ek] at hq
      have hpi : p i.toNat = false := by
        cases hc : p i.toNat with
        | false => rfl
        | true =>
          have h9 := where_in (n := n) (show i.toNat < n by omega) hc
          exact absurd ⟨by omega, h9.2.trans (by omega)⟩ hq
      have hs1 := whereT_no (p := p) hi.1 hpi
      have hs2 := whereT_yes (p := fun k => !p k) hi.1 (by show (!p i.toNat) = true; rw [hpi]; rfl)
      refine skip (pN (region (mv rfl (mv rfl (cons (buildSlice (E := iE) Tryz.underlying22 ty3 z3 (.cons (.t rfl) .nil) rfl rfl (fun v1 => ?_)))))))
      refine cons (app (E := iE) Tryz.underlying22 ty3 zb3 zs3 (.t rfl) (.t rfl) (fun v2 => ?_) (hby := ⟨by (show _ ≤ 9223372036854775807); first | omega | (simp; done) | (simp; omega), by first | omega | (simp; done) | (simp; omega)⟩))
      refine asn rfl (nil (bN (pN (region (mv rfl (co (Ev.add_i (.t rfl) (.c (v := I 1) rfl) (fun _ => by omega)) ?_))))))
      refine asn rfl (nP (nx (X := Int × Int × OV × (List Int)) (i + 1, _, _, _) ⟨?_, ?_, ?_⟩ ?_))
      · try dsimp only
        omega
      · try dsimp only
        rw [hs1]; first | exact hk | (rw [hk]; simp)
      · try dsimp only
        rw [hs2, hd]
      · try dsimp only
        omega
  · try simp only [nb] at h0
    refine exit (pX (pX (bX (pN (sg (mv rfl (asn rfl (nP (ret (done rfl (.tmp rfl .nil) (retOE (by repeat first | exact mH | apply mT | apply mA) ?_)))))))))))
    rw [hd]
    have e : i.toNat = n := by omega
    rw [e]
theorem en32 : Gx.Enters Tryz.prog 32 := Gx.Enters.mk' (by kernel_rfl)
theorem ConfSpared_walk (c : SConf) (l : CL) (w : World) (hc : ConfAt w c l) (hn : l.Names) (hz : l.n ≤ 4611686018427387904) : Calls Tryz.prog 8 #[eConf.val c] w (RetV w (.bool true)) := by
  have hl1 := hc.us.le
  refine en0 122 Tryz.func8 ?_
  refine sg (cons (box (E := eConf) (.t rfl) (fun b1 => ?_)))
  refine co (Ev.assign (.c (v := .bool false) rfl)) ?_
  refine nP (sg (co (Ev.ldx c ty28 (.t rfl) (Lens.id _)) ?_))
  refine cons (calln (X := OV × OV × OV) (fun _ => True) (fun x => .tuple #[x.1.v, x.2.1.v, x.2.2.v, I (spE l c.default)]) (fun x => [OwnS x.1.v iE (spL l c.default (spareA l)) 3, OwnS x.2.1.v iE (spL l c.default (spareB l)) 3, OwnS x.2.2.v iE (spL l c.default (deadB (mtL l))) 3]) en29 (.cons (.t rfl) .nil) (fun w I => spare_ok c l w (hc.keep0 I.keeps) hn hz) (fun s1 _ => ?_))
  refine mv rfl (co (Ev.extract (.t rfl) rfl) (co (Ev.extract (.t rfl) rfl) (co (Ev.extract (.t rfl) rfl) (co (Ev.extract (.t rfl) rfl) (asn rfl (asn rfl (asn rfl (asn rfl (nP (seq (sg (mv rfl (co (Ev.neq_i (.t rfl) (.c (v := I 0) rfl)) ?_)))))))))))))
  refine nP ?_
  first | refine condD rfl (fun h0 => ?_) (fun h0 => ?_) | refine cond rfl (fun h0 => ?_) (fun h0 => ?_)
  · have hmay : mayB l c.default = false := by
      cases hm : mayB l c.default with
      | false => rfl
      | true => simp [spE, hm] at h0
    have hne : checkF l c.default ≠ [] := fun e => by
      unfold mayB at hmay
      rw [e] at hmay
      cases hmay
    have hlp := List.length_pos_iff.mpr hne
    refine sg (co (Ev.ldx c ty28 (.t rfl) (Lens.id _)) ?_)
    refine cons (callo en12 (.cons (.t rfl) .nil) (fun w I => conf_check c l w (hc.keep0 I.keeps) hn hz) (fun v2 => ?_))
    refine co (Ev.len Tryz.underlying31 (.t rfl) (by first | exact isSl_own (by repeat first | exact mH | apply mT | apply mA) | exact fun w I => IsSl.keep0 (by assumption) I.keeps)) ?_
    refine co (Ev.to (v' := .bool true) (Ev.gtr_i (.t rfl) (.c (v := I 0) rfl)) (congrArg Value.bool (decide_eq_true (by omega)))) ?_
    refine mv rfl (cons (callg rfl rfl en20 .nil (fun hg w I => works_ok w) ?_))
    refine co (Ev.pkA (.t rfl) rfl) ?_
    refine asn rfl (nP (ret (pR (done rfl (.tmp rfl .nil) (retE ?_)))))
    rfl
  · have hmay : mayB l c.default = true := by
      cases hm : mayB l c.default with
      | true => rfl
      | false => simp [spE, hm] at h0
    have hlens := may_lens hmay
    have hsm : l.Small := ⟨by omega, by omega, by omega, by omega, by omega⟩
    have ed : spL l c.default (deadB (mtL l)) = whereT (deadAt (mtL l)) l.us.length := by
      unfold spL; rw [hmay]; exact dead_where l
    have ea : spL l c.default (spareA l) = whereT (fun k => !usedA l k) l.ms.length := by
      unfold spL; rw [hmay]; exact spareA_any l
    have eb : spL l c.default (spareB l) = whereT (fun k => !usedB l k) l.xs.length := by
      unfold spL; rw [hmay]; exact spareB_any l
    refine skip (pN (sg (co (Ev.ldx c ty28 (.t rfl) (Lens.id _)) ?_)))
    refine cons (calln (X := CB) (fun _ => True) (fun x => eConf.val (x.c c.default)) (fun x => x.R l) en16 (.cons (.t rfl) .nil) (fun w I => copy_ok c l w (hc.keep0 I.keeps) hsm) (fun x0 _ => ?_))
    refine cons (alloc z28 (fun b3 => ?_))
    refine cons (stv ty28 (Lens.id _) (.t rfl) (.t rfl) ?_)
    refine nP (sg (co (fA 2 (.t rfl)) ?_))
    refine cons (stv ty24 SConf.l_rules (.t rfl) (.c (v := (ovE nilSl).val nilSl) rfl) ?_)
    refine nP (sg (co (fA 3 (.t rfl)) ?_))
    refine cons (stv ty25 SConf.l_meters (.t rfl) (.c (v := (ovE nilSl).val nilSl) rfl) ?_)
    refine nP (cut (X := Unit) (fun _ : Unit => True) (fun _ : Unit => [(1, true, .pointer (some ⟨b1, 0, none⟩)), (3, true, s1.1.v), (4, true, s1.2.1.v), (5, true, s1.2.2.v), (7, true, .pointer (some ⟨b3, 0, none⟩))]) (fun _ : Unit => [Var b3 eConf (⟨x0.o1, x0.o2, nilSl, nilSl, nilSl, c.default⟩ : SConf) 28, OwnS s1.1.v iE (spL l c.default (spareA l)) 3, OwnS s1.2.1.v iE (spL l c.default (spareB l)) 3, OwnS s1.2.2.v iE (spL l c.default (deadB (mtL l))) 3, OwnS x0.o2.v eRoute l.rs 52, OwnS x0.o1.v iE l.ps 3, Var b1 eConf c 28]) ?_ (fun x hx => ?_))
    · refine region (co (fA 4 (.t rfl)) ?_)
      refine cons (stv ty26 SConf.l_mirrors (.t rfl) (.c (v := (ovE nilSl).val nilSl) rfl) ?_)
      refine nP (mtP (X := Unit) () trivial)
    show Sat _ _ [(1, true, .pointer (some ⟨b1, 0, none⟩)), (3, true, s1.1.v), (4, true, s1.2.1.v), (5, true, s1.2.2.v), (7, true, .pointer (some ⟨b3, 0, none⟩))] [Var b3 eConf (⟨x0.o1, x0.o2, nilSl, nilSl, nilSl, c.default⟩ : SConf) 28, OwnS s1.1.v iE (spL l c.default (spareA l)) 3, OwnS s1.2.1.v iE (spL l c.default (spareB l)) 3, OwnS s1.2.2.v iE (spL l c.default (deadB (mtL l))) 3, OwnS x0.o2.v eRoute l.rs 52, OwnS x0.o1.v iE l.ps 3, Var b1 eConf c 28]
    rw [ed, ea, eb]
    refine seq (sg (co (fA 2 (.t rfl)) ?_))
    refine co (Ev.ldx c.rules ty24 (.t rfl) SConf.l_rules) ?_
    refine co (Ev.len Tryz.underlying24 (.t rfl) (fun w I => (hc.keep0 I.keeps).us)) ?_
    refine mv rfl (cons (callo en32 (.cons (.t rfl) (.cons (.t rfl) .nil)) (fun w I => without_ok l.us.length _ (deadAt (mtL l)) w (io w I) (by omega)) (fun k0 => ?_)))
    refine co (Ev.len Tryz.underlying22 (.t rfl) (by first | exact isSl_own (by repeat first | exact mH | apply mT | apply mA) | exact fun w I => IsSl.keep0 (by assumption) I.keeps)) ?_
    refine co (Ev.move (.c (v := I 0) rfl)) ?_
    refine nP (block (takeNil eRule 76 ?_))
    refine lp (X := Int × OV) (fun x : Int × OV => (0 ≤ x.1 ∧ x.1 ≤ (whereT (fun k => !deadAt (mtL l) k) l.us.length).length)) (fun x : Int × OV => [(1, true, .pointer (some ⟨b1, 0, none⟩)), (3, true, s1.1.v), (4, true, s1.2.1.v), (5, true, s1.2.2.v), (7, true, .pointer (some ⟨b3, 0, none⟩)), (42, true, k0.v), (43, true, I (whereT (fun k => !deadAt (mtL l) k) l.us.length).length), (44, true, I x.1)]) (fun x : Int × OV => [OwnS x.2.v eRule (((whereT (fun k => !deadAt (mtL l) k) l.us.length).take x.1.toNat).map fun i => l.us.getD i.toNat eRule.zero) 76, OwnS k0.v iE (whereT (fun k => !deadAt (mtL l) k) l.us.length) 3, Var b3 eConf (⟨x0.o1, x0.o2, x.2, nilSl, nilSl, c.default⟩ : SConf) 28, OwnS s1.1.v iE (whereT (fun k => !usedA l k) l.ms.length) 3, OwnS s1.2.1.v iE (whereT (fun k => !usedB l k) l.xs.length) 3, OwnS s1.2.2.v iE (whereT (deadAt (mtL l)) l.us.length) 3, OwnS x0.o2.v eRoute l.rs 52, OwnS x0.o1.v iE l.ps 3, Var b1 eConf c 28]) (fun x : Int × OV => (((whereT (fun k => !deadAt (mtL l) k) l.us.length).length : Int) - x.1).toNat) (0, nilSl) ?_ (fun x hx => ?_)
    · omega
    obtain ⟨j0, q0⟩ := x
    have hj0 : 0 ≤ j0 ∧ j0 ≤ (whereT (fun k => !deadAt (mtL l) k) l.us.length).length := hx
    clear hx
    show Sat _ _ [(1, true, .pointer (some ⟨b1, 0, none⟩)), (3, true, s1.1.v), (4, true, s1.2.1.v), (5, true, s1.2.2.v), (7, true, .pointer (some ⟨b3, 0, none⟩)), (42, true, k0.v), (43, true, I (whereT (fun k => !deadAt (mtL l) k) l.us.length).length), (44, true, I j0)] [OwnS q0.v eRule (((whereT (fun k => !deadAt (mtL l) k) l.us.length).take j0.toNat).map fun i => l.us.getD i.toNat eRule.zero) 76, OwnS k0.v iE (whereT (fun k => !deadAt (mtL l) k) l.us.length) 3, Var b3 eConf (⟨x0.o1, x0.o2, q0, nilSl, nilSl, c.default⟩ : SConf) 28, OwnS s1.1.v iE (whereT (fun k => !usedA l k) l.ms.length) 3, OwnS s1.2.1.v iE (whereT (fun k => !usedB l k) l.xs.length) 3, OwnS s1.2.2.v iE (whereT (deadAt (mtL l)) l.us.length) 3, OwnS x0.o2.v eRoute l.rs 52, OwnS x0.o1.v iE l.ps 3, Var b1 eConf c 28]
    have hwl0 := whereT_len (fun k => !deadAt (mtL l) k) l.us.length
    have hkl0 : ((((whereT (fun k => !deadAt (mtL l) k) l.us.length).take j0.toNat).map fun i => l.us.getD i.toNat eRule.zero)).length ≤ 1024 := by rw [List.length_map, List.length_take]; omega
    refine sg (co (Ev.lss_i (.t rfl) (.t rfl)) ?_)
    refine nP (seq ?_)
    first | refine condD rfl (fun h1 => ?_) (fun h1 => ?_) | refine cond rfl (fun h1 => ?_) (fun h1 => ?_)
    · try simp only [nb] at h1
      refine skip (pN (seq (block (sg (co (Ev.indexAddr Tryz.underlying22 ty3 (.t rfl) (.t rfl) (by first | exact isSl_own (by repeat first | exact mH | apply mT | apply mA) | exact fun w I => IsSl.keep0 (by assumption) I.keeps) (fun _ => by omega)) ?_)))))
      refine co (Ev.loadS0 ty3 (.t rfl) (by first | exact isSl_own (by repeat first | exact mH | apply mT | apply mA) | exact fun w I => IsSl.keep0 (by assumption) I.keeps) (fun _ => by omega)) ?_
      refine asn rfl (nP (draw [Var b1 eConf c 28] (by kernel_rfl) ?_))
      refine tk 0 rfl (fA 2 (.t rfl)) ?_
      refine tk 2 rfl (fA 2 (.t rfl)) ?_
      refine tk 3 rfl (Ev.ldx c.rules ty24 (.t rfl) SConf.l_rules) ?_
      refine tk 4 rfl (Ev.move (.t rfl)) ?_
      refine tk 5 rfl (Ev.indexAddr Tryz.underlying24 ty76 (.t rfl) (.t rfl) (fun w I => (hc.keep0 I.keeps).us) (fun _ => by have h9 := where_rng _ (getD_in (whereT (fun k => !deadAt (mtL l) k) l.us.length) j0.toNat iE.zero (by omega)); omega)) ?_
      refine tk 6 rfl (Ev.loadS0 ty76 (.t rfl) (fun w I => (hc.keep0 I.keeps).us) (fun _ => by have h9 := where_rng _ (getD_in (whereT (fun k => !deadAt (mtL l) k) l.us.length) j0.toNat iE.zero (by omega)); omega)) ?_
      refine all [1, 7] (by kernel_rfl) (by decide) (.cons rfl ?_ (.cons rfl ?_ .nil))
      · refine (opv (Ev.ldv ty24 (.t rfl) SConf.l_rules) ?_)
        refine hdn (al1 7 rfl ((buildSlice (E := eRule) Tryz.underlying24 ty76 z76 (.cons (.t rfl) .nil) rfl rfl (fun v4 => ?_))))
        refine hdn (al1 8 rfl ((app (E := eRule) Tryz.underlying24 ty76 zb76 zs76 (.t rfl) (.t rfl) (fun v5 => ?_) (hby := ⟨by (show _ ≤ 9223372036854775807); first | omega | (simp; done) | (simp; omega), by first | omega | (simp; done) | (simp; omega)⟩))))
        refine hdn (tk 9 rfl (fA 2 (.t rfl)) ?_)
        refine al1 10 rfl ((stv ty24 SConf.l_rules (.t rfl) (.t rfl) ?_))
        refine hdn (ovr (bN (pN (region (co (Ev.add_i (.t rfl) (.c (v := I 1) rfl) (fun _ => by omega)) ?_)))))
        refine mv rfl (nP (nxP (X := Int × OV) (j0 + 1, _) ?_ ?_ (hL := (by rw [take_snoc (whereT (fun k => !deadAt (mtL l) k) l.us.length) j0 hj0.1 (by omega) iE.zero, List.map_append]; repeat first | exact SubP.nil | refine SubP.cons (by repeat first | exact Rem.head | apply Rem.tail) ?_))))
        · try dsimp only
          omega
        · try dsimp only
          omega
      · refine (buildSlice (E := eRule) Tryz.underlying24 ty76 z76 (.cons (.t rfl) .nil) rfl rfl (fun v6 => ?_))
        refine hdn (al1 1 rfl ((opv (Ev.ldv ty24 (.t rfl) SConf.l_rules) ?_)))
        refine hdn (al1 8 rfl ((app (E := eRule) Tryz.underlying24 ty76 zb76 zs76 (.t rfl) (.t rfl) (fun v7 => ?_) (hby := ⟨by (show _ ≤ 9223372036854775807); first | omega | (simp; done) | (simp; omega), by first | omega | (simp; done) | (simp; omega)⟩))))
        refine hdn (tk 9 rfl (fA 2 (.t rfl)) ?_)
        refine al1 10 rfl ((stv ty24 SConf.l_rules (.t rfl) (.t rfl) ?_))
        refine hdn (ovr (bN (pN (region (co (Ev.add_i (.t rfl) (.c (v := I 1) rfl) (fun _ => by omega)) ?_)))))
        refine mv rfl (nP (nxP (X := Int × OV) (j0 + 1, _) ?_ ?_ (hL := (by rw [take_snoc (whereT (fun k => !deadAt (mtL l) k) l.us.length) j0 hj0.1 (by omega) iE.zero, List.map_append]; repeat first | exact SubP.nil | refine SubP.cons (by repeat first | exact Rem.head | apply Rem.tail) ?_))))
        · try dsimp only
          omega
        · try dsimp only
          omega
    · try simp only [nb] at h1
      refine exit (pX (pX (bX (pN (seq (seq ?_))))))
      have hej0 : (whereT (fun k => !deadAt (mtL l) k) l.us.length).take j0.toNat = whereT (fun k => !deadAt (mtL l) k) l.us.length := List.take_of_length_le (by omega)
      rw [hej0]
      refine region (co (fA 3 (.t rfl)) ?_)
      refine co (Ev.ldx c.meters ty25 (.t rfl) SConf.l_meters) ?_
      refine co (Ev.len Tryz.underlying25 (.t rfl) (fun w I => (hc.keep0 I.keeps).ms)) ?_
      refine mv rfl (cons (callo en32 (.cons (.t rfl) (.cons (.t rfl) .nil)) (fun w I => without_ok l.ms.length _ (fun k => !usedA l k) w (io w I) (by omega)) (fun k1 => ?_)))
      refine co (Ev.len Tryz.underlying22 (.t rfl) (by first | exact isSl_own (by repeat first | exact mH | apply mT | apply mA) | exact fun w I => IsSl.keep0 (by assumption) I.keeps)) ?_
      refine co (Ev.move (.c (v := I 0) rfl)) ?_
      refine nP (block (takeNil eMeterConf 57 ?_))
      refine lp (X := Int × OV) (fun x : Int × OV => (0 ≤ x.1 ∧ x.1 ≤ (whereT (fun k => !!usedA l k) l.ms.length).length)) (fun x : Int × OV => [(1, true, .pointer (some ⟨b1, 0, none⟩)), (3, true, s1.1.v), (4, true, s1.2.1.v), (5, true, s1.2.2.v), (7, true, .pointer (some ⟨b3, 0, none⟩)), (63, true, k1.v), (64, true, I (whereT (fun k => !!usedA l k) l.ms.length).length), (65, true, I x.1)]) (fun x : Int × OV => [OwnS x.2.v eMeterConf (((whereT (fun k => !!usedA l k) l.ms.length).take x.1.toNat).map fun i => l.ms.getD i.toNat eMeterConf.zero) 57, OwnS k1.v iE (whereT (fun k => !!usedA l k) l.ms.length) 3, OwnS q0.v eRule (keepN (deadAt (mtL l)) l.us eRule.zero) 76, Var b3 eConf (⟨x0.o1, x0.o2, q0, x.2, nilSl, c.default⟩ : SConf) 28, OwnS s1.1.v iE (whereT (fun k => !usedA l k) l.ms.length) 3, OwnS s1.2.1.v iE (whereT (fun k => !usedB l k) l.xs.length) 3, OwnS s1.2.2.v iE (whereT (deadAt (mtL l)) l.us.length) 3, OwnS x0.o2.v eRoute l.rs 52, OwnS x0.o1.v iE l.ps 3, Var b1 eConf c 28]) (fun x : Int × OV => (((whereT (fun k => !!usedA l k) l.ms.length).length : Int) - x.1).toNat) (0, nilSl) ?_ (fun x hx => ?_)
      · omega
      obtain ⟨j1, q1⟩ := x
      have hj1 : 0 ≤ j1 ∧ j1 ≤ (whereT (fun k => !!usedA l k) l.ms.length).length := hx
      clear hx
      show Sat _ _ [(1, true, .pointer (some ⟨b1, 0, none⟩)), (3, true, s1.1.v), (4, true, s1.2.1.v), (5, true, s1.2.2.v), (7, true, .pointer (some ⟨b3, 0, none⟩)), (63, true, k1.v), (64, true, I (whereT (fun k => !!usedA l k) l.ms.length).length), (65, true, I j1)] [OwnS q1.v eMeterConf (((whereT (fun k => !!usedA l k) l.ms.length).take j1.toNat).map fun i => l.ms.getD i.toNat eMeterConf.zero) 57, OwnS k1.v iE (whereT (fun k => !!usedA l k) l.ms.length) 3, OwnS q0.v eRule (keepN (deadAt (mtL l)) l.us eRule.zero) 76, Var b3 eConf (⟨x0.o1, x0.o2, q0, q1, nilSl, c.default⟩ : SConf) 28, OwnS s1.1.v iE (whereT (fun k => !usedA l k) l.ms.length) 3, OwnS s1.2.1.v iE (whereT (fun k => !usedB l k) l.xs.length) 3, OwnS s1.2.2.v iE (whereT (deadAt (mtL l)) l.us.length) 3, OwnS x0.o2.v eRoute l.rs 52, OwnS x0.o1.v iE l.ps 3, Var b1 eConf c 28]
      have hwl1 := whereT_len (fun k => !!usedA l k) l.ms.length
      have hkl1 : ((((whereT (fun k => !!usedA l k) l.ms.length).take j1.toNat).map fun i => l.ms.getD i.toNat eMeterConf.zero)).length ≤ 1024 := by rw [List.length_map, List.length_take]; omega
      refine sg (co (Ev.lss_i (.t rfl) (.t rfl)) ?_)
      refine nP (seq ?_)
      first | refine condD rfl (fun h2 => ?_) (fun h2 => ?_) | refine cond rfl (fun h2 => ?_) (fun h2 => ?_)
      · try simp only [nb] at h2
        refine skip (pN (seq (block (sg (co (Ev.indexAddr Tryz.underlying22 ty3 (.t rfl) (.t rfl) (by first | exact isSl_own (by repeat first | exact mH | apply mT | apply mA) | exact fun w I => IsSl.keep0 (by assumption) I.keeps) (fun _ => by omega)) ?_)))))
        refine co (Ev.loadS0 ty3 (.t rfl) (by first | exact isSl_own (by repeat first | exact mH | apply mT | apply mA) | exact fun w I => IsSl.keep0 (by assumption) I.keeps) (fun _ => by omega)) ?_
        refine asn rfl (nP (draw [Var b1 eConf c 28] (by kernel_rfl) ?_))
        refine tk 0 rfl (fA 3 (.t rfl)) ?_
        refine tk 2 rfl (fA 3 (.t rfl)) ?_
        refine tk 3 rfl (Ev.ldx c.meters ty25 (.t rfl) SConf.l_meters) ?_
        refine tk 4 rfl (Ev.move (.t rfl)) ?_
        refine tk 5 rfl (Ev.indexAddr Tryz.underlying25 ty57 (.t rfl) (.t rfl) (fun w I => (hc.keep0 I.keeps).ms) (fun _ => by have h9 := where_rng _ (getD_in (whereT (fun k => !!usedA l k) l.ms.length) j1.toNat iE.zero (by omega)); omega)) ?_
        refine tk 6 rfl (Ev.loadS0 ty57 (.t rfl) (fun w I => (hc.keep0 I.keeps).ms) (fun _ => by have h9 := where_rng _ (getD_in (whereT (fun k => !!usedA l k) l.ms.length) j1.toNat iE.zero (by omega)); omega)) ?_
        refine all [1, 7] (by kernel_rfl) (by decide) (.cons rfl ?_ (.cons rfl ?_ .nil))
        · refine (opv (Ev.ldv ty25 (.t rfl) SConf.l_meters) ?_)
          refine hdn (al1 7 rfl ((buildSlice (E := eMeterConf) Tryz.underlying25 ty57 z57 (.cons (.t rfl) .nil) rfl rfl (fun v8 => ?_))))
          refine hdn (al1 8 rfl ((app (E := eMeterConf) Tryz.underlying25 ty57 zb57 zs57 (.t rfl) (.t rfl) (fun v9 => ?_) (hby := ⟨by (show _ ≤ 9223372036854775807); first | omega | (simp; done) | (simp; omega), by first | omega | (simp; done) | (simp; omega)⟩))))
          refine hdn (tk 9 rfl (fA 3 (.t rfl)) ?_)
          refine al1 10 rfl ((stv ty25 SConf.l_meters (.t rfl) (.t rfl) ?_))
          refine hdn (ovr (bN (pN (region (co (Ev.add_i (.t rfl) (.c (v := I 1) rfl) (fun _ => by omega)) ?_)))))
          refine mv rfl (nP (nxP (X := Int × OV) (j1 + 1, _) ?_ ?_ (hL := (by rw [take_snoc (whereT (fun k => !!usedA l k) l.ms.length) j1 hj1.1 (by omega) iE.zero, List.map_append]; repeat first | exact SubP.nil | refine SubP.cons (by repeat first | exact Rem.head | apply Rem.tail) ?_))))
          · try dsimp only
            omega
          · try dsimp only
            omega
        · refine (buildSlice (E := eMeterConf) Tryz.underlying25 ty57 z57 (.cons (.t rfl) .nil) rfl rfl (fun v10 => ?_))
          refine hdn (al1 1 rfl ((opv (Ev.ldv ty25 (.t rfl) SConf.l_meters) ?_)))
          refine hdn (al1 8 rfl ((app (E := eMeterConf) Tryz.underlying25 ty57 zb57 zs57 (.t rfl) (.t rfl) (fun v11 => ?_) (hby := ⟨by (show _ ≤ 9223372036854775807); first | omega | (simp; done) | (simp; omega), by first | omega | (simp; done) | (simp; omega)⟩))))
          refine hdn (tk 9 rfl (fA 3 (.t rfl)) ?_)
          refine al1 10 rfl ((stv ty25 SConf.l_meters (.t rfl) (.t rfl) ?_))
          refine hdn (ovr (bN (pN (region (co (Ev.add_i (.t rfl) (.c (v := I 1) rfl) (fun _ => by omega)) ?_)))))
          refine mv rfl (nP (nxP (X := Int × OV) (j1 + 1, _) ?_ ?_ (hL := (by rw [take_snoc (whereT (fun k => !!usedA l k) l.ms.length) j1 hj1.1 (by omega) iE.zero, List.map_append]; repeat first | exact SubP.nil | refine SubP.cons (by repeat first | exact Rem.head | apply Rem.tail) ?_))))
          · try dsimp only
            omega
          · try dsimp only
            omega
      · try simp only [nb] at h2
        refine exit (pX (pX (bX (pN (seq (seq ?_))))))
        have hej1 : (whereT (fun k => !!usedA l k) l.ms.length).take j1.toNat = whereT (fun k => !!usedA l k) l.ms.length := List.take_of_length_le (by omega)
        rw [hej1]
        refine region (co (fA 4 (.t rfl)) ?_)
        refine co (Ev.ldx c.mirrors ty26 (.t rfl) SConf.l_mirrors) ?_
        refine co (Ev.len Tryz.underlying26 (.t rfl) (fun w I => (hc.keep0 I.keeps).xs)) ?_
        refine mv rfl (cons (callo en32 (.cons (.t rfl) (.cons (.t rfl) .nil)) (fun w I => without_ok l.xs.length _ (fun k => !usedB l k) w (io w I) (by omega)) (fun k2 => ?_)))
        refine co (Ev.len Tryz.underlying22 (.t rfl) (by first | exact isSl_own (by repeat first | exact mH | apply mT | apply mA) | exact fun w I => IsSl.keep0 (by assumption) I.keeps)) ?_
        refine co (Ev.move (.c (v := I 0) rfl)) ?_
        refine nP (block (takeNil eMirrorConf 59 ?_))
        refine lp (X := Int × OV) (fun x : Int × OV => (0 ≤ x.1 ∧ x.1 ≤ (whereT (fun k => !!usedB l k) l.xs.length).length)) (fun x : Int × OV => [(1, true, .pointer (some ⟨b1, 0, none⟩)), (3, true, s1.1.v), (4, true, s1.2.1.v), (5, true, s1.2.2.v), (7, true, .pointer (some ⟨b3, 0, none⟩)), (84, true, k2.v), (85, true, I (whereT (fun k => !!usedB l k) l.xs.length).length), (86, true, I x.1)]) (fun x : Int × OV => [OwnS x.2.v eMirrorConf (((whereT (fun k => !!usedB l k) l.xs.length).take x.1.toNat).map fun i => l.xs.getD i.toNat eMirrorConf.zero) 59, OwnS k2.v iE (whereT (fun k => !!usedB l k) l.xs.length) 3, OwnS q1.v eMeterConf (keepN (fun k => !usedA l k) l.ms eMeterConf.zero) 57, OwnS q0.v eRule (keepN (deadAt (mtL l)) l.us eRule.zero) 76, Var b3 eConf (⟨x0.o1, x0.o2, q0, q1, x.2, c.default⟩ : SConf) 28, OwnS s1.1.v iE (whereT (fun k => !usedA l k) l.ms.length) 3, OwnS s1.2.1.v iE (whereT (fun k => !usedB l k) l.xs.length) 3, OwnS s1.2.2.v iE (whereT (deadAt (mtL l)) l.us.length) 3, OwnS x0.o2.v eRoute l.rs 52, OwnS x0.o1.v iE l.ps 3, Var b1 eConf c 28]) (fun x : Int × OV => (((whereT (fun k => !!usedB l k) l.xs.length).length : Int) - x.1).toNat) (0, nilSl) ?_ (fun x hx => ?_)
        · omega
        obtain ⟨j2, q2⟩ := x
        have hj2 : 0 ≤ j2 ∧ j2 ≤ (whereT (fun k => !!usedB l k) l.xs.length).length := hx
        clear hx
        show Sat _ _ [(1, true, .pointer (some ⟨b1, 0, none⟩)), (3, true, s1.1.v), (4, true, s1.2.1.v), (5, true, s1.2.2.v), (7, true, .pointer (some ⟨b3, 0, none⟩)), (84, true, k2.v), (85, true, I (whereT (fun k => !!usedB l k) l.xs.length).length), (86, true, I j2)] [OwnS q2.v eMirrorConf (((whereT (fun k => !!usedB l k) l.xs.length).take j2.toNat).map fun i => l.xs.getD i.toNat eMirrorConf.zero) 59, OwnS k2.v iE (whereT (fun k => !!usedB l k) l.xs.length) 3, OwnS q1.v eMeterConf (keepN (fun k => !usedA l k) l.ms eMeterConf.zero) 57, OwnS q0.v eRule (keepN (deadAt (mtL l)) l.us eRule.zero) 76, Var b3 eConf (⟨x0.o1, x0.o2, q0, q1, q2, c.default⟩ : SConf) 28, OwnS s1.1.v iE (whereT (fun k => !usedA l k) l.ms.length) 3, OwnS s1.2.1.v iE (whereT (fun k => !usedB l k) l.xs.length) 3, OwnS s1.2.2.v iE (whereT (deadAt (mtL l)) l.us.length) 3, OwnS x0.o2.v eRoute l.rs 52, OwnS x0.o1.v iE l.ps 3, Var b1 eConf c 28]
        have hwl2 := whereT_len (fun k => !!usedB l k) l.xs.length
        have hkl2 : ((((whereT (fun k => !!usedB l k) l.xs.length).take j2.toNat).map fun i => l.xs.getD i.toNat eMirrorConf.zero)).length ≤ 1024 := by rw [List.length_map, List.length_take]; omega
        refine sg (co (Ev.lss_i (.t rfl) (.t rfl)) ?_)
        refine nP (seq ?_)
        first | refine condD rfl (fun h3 => ?_) (fun h3 => ?_) | refine cond rfl (fun h3 => ?_) (fun h3 => ?_)
        · try simp only [nb] at h3
          refine skip (pN (seq (block (sg (co (Ev.indexAddr Tryz.underlying22 ty3 (.t rfl) (.t rfl) (by first | exact isSl_own (by repeat first | exact mH | apply mT | apply mA) | exact fun w I => IsSl.keep0 (by assumption) I.keeps) (fun _ => by omega)) ?_)))))
          refine co (Ev.loadS0 ty3 (.t rfl) (by first | exact isSl_own (by repeat first | exact mH | apply mT | apply mA) | exact fun w I => IsSl.keep0 (by assumption) I.keeps) (fun _ => by omega)) ?_
          refine asn rfl (nP (draw [Var b1 eConf c 28] (by kernel_rfl) ?_))
          refine tk 0 rfl (fA 4 (.t rfl)) ?_
          refine tk 2 rfl (fA 4 (.t rfl)) ?_
          refine tk 3 rfl (Ev.ldx c.mirrors ty26 (.t rfl) SConf.l_mirrors) ?_
          refine tk 4 rfl (Ev.move (.t rfl)) ?_
          refine tk 5 rfl (Ev.indexAddr Tryz.underlying26 ty59 (.t rfl) (.t rfl) (fun w I => (hc.keep0 I.keeps).xs) (fun _ => by have h9 := where_rng _ (getD_in (whereT (fun k => !!usedB l k) l.xs.length) j2.toNat iE.zero (by omega)); omega)) ?_
          refine tk 6 rfl (Ev.loadS0 ty59 (.t rfl) (fun w I => (hc.keep0 I.keeps).xs) (fun _ => by have h9 := where_rng _ (getD_in (whereT (fun k => !!usedB l k) l.xs.length) j2.toNat iE.zero (by omega)); omega)) ?_
          refine all [1, 7] (by kernel_rfl) (by decide) (.cons rfl ?_ (.cons rfl ?_ .nil))
          · refine (opv (Ev.ldv ty26 (.t rfl) SConf.l_mirrors) ?_)
            refine hdn (al1 7 rfl ((buildSlice (E := eMirrorConf) Tryz.underlying26 ty59 z59 (.cons (.t rfl) .nil) rfl rfl (fun v12 => ?_))))
            refine hdn (al1 8 rfl ((app (E := eMirrorConf) Tryz.underlying26 ty59 zb59 zs59 (.t rfl) (.t rfl) (fun v13 => ?_) (hby := ⟨by (show _ ≤ 9223372036854775807); first | omega | (simp; done) | (simp; omega), by first | omega | (simp; done) | (simp; omega)⟩))))
            refine hdn (tk 9 rfl (fA 4 (.t rfl)) ?_)
            refine al1 10 rfl ((stv ty26 SConf.l_mirrors (.t rfl) (.t rfl) ?_))
            refine hdn (ovr (bN (pN (region (co (Ev.add_i (.t rfl) (.c (v := I 1) rfl) (fun _ => by omega)) ?_)))))
            refine mv rfl (nP (nxP (X := Int × OV) (j2 + 1, _) ?_ ?_ (hL := (by rw [take_snoc (whereT (fun k => !!usedB l k) l.xs.length) j2 hj2.1 (by omega) iE.zero, List.map_append]; repeat first | exact SubP.nil | refine SubP.cons (by repeat first | exact Rem.head | apply Rem.tail) ?_))))
            · try dsimp only
              omega
            · try dsimp only
              omega
          · refine (buildSlice (E := eMirrorConf) Tryz.underlying26 ty59 z59 (.cons (.t rfl) .nil) rfl rfl (fun v14 => ?_))
            refine hdn (al1 1 rfl ((opv (Ev.ldv ty26 (.t rfl) SConf.l_mirrors) ?_)))
            refine hdn (al1 8 rfl ((app (E := eMirrorConf) Tryz.underlying26 ty59 zb59 zs59 (.t rfl) (.t rfl) (fun v15 => ?_) (hby := ⟨by (show _ ≤ 9223372036854775807); first | omega | (simp; done) | (simp; omega), by first | omega | (simp; done) | (simp; omega)⟩))))
            refine hdn (tk 9 rfl (fA 4 (.t rfl)) ?_)
            refine al1 10 rfl ((stv ty26 SConf.l_mirrors (.t rfl) (.t rfl) ?_))
            refine hdn (ovr (bN (pN (region (co (Ev.add_i (.t rfl) (.c (v := I 1) rfl) (fun _ => by omega)) ?_)))))
            refine mv rfl (nP (nxP (X := Int × OV) (j2 + 1, _) ?_ ?_ (hL := (by rw [take_snoc (whereT (fun k => !!usedB l k) l.xs.length) j2 hj2.1 (by omega) iE.zero, List.map_append]; repeat first | exact SubP.nil | refine SubP.cons (by repeat first | exact Rem.head | apply Rem.tail) ?_))))
            · try dsimp only
              omega
            · try dsimp only
              omega
        · try simp only [nb] at h3
          refine exit (pX (pX (bX (pN (seq ?_)))))
          have hej2 : (whereT (fun k => !!usedB l k) l.xs.length).take j2.toNat = whereT (fun k => !!usedB l k) l.xs.length := List.take_of_length_le (by omega)
          rw [hej2]
          refine region (co (Ev.to (v' := eConf.val ((⟨x0.o1, x0.o2, q0, q1, q2⟩ : CB).c c.default)) (Ev.ldv ty28 (.t rfl) (Lens.id _)) (rfl)) ?_)
          refine cons (calln (X := OV × OV × OV) (fun _ => True) (fun x => .tuple #[x.1.v, x.2.1.v, x.2.2.v, I (spE (keptC l) c.default)]) (fun x => [OwnS x.1.v iE (spL (keptC l) c.default (spareA (keptC l))) 3, OwnS x.2.1.v iE (spL (keptC l) c.default (spareB (keptC l))) 3, OwnS x.2.2.v iE (spL (keptC l) c.default (deadB (mtL (keptC l)))) 3]) en29 (.cons (.t rfl) .nil) (fun w I => spare_ok ((⟨x0.o1, x0.o2, q0, q1, q2⟩ : CB).c c.default) (keptC l) w (co5 (x := (⟨x0.o1, x0.o2, q0, q1, q2⟩ : CB)) (l := keptC l) w I) (kept_names hn) (by have := kept_n l; omega)) (fun s2 _ => ?_))
          refine mv rfl (co (Ev.extract (.t rfl) rfl) (co (Ev.extract (.t rfl) rfl) (co (Ev.extract (.t rfl) rfl) (co (Ev.to (v' := I 0) (Ev.extract (.t rfl) rfl) (congrArg I (by unfold spE; rw [kept_may hmay]; rfl))) ?_))))
          refine asn rfl (asn rfl (asn rfl (asn rfl (nP (sg (co (Ev.to (v' := eConf.val ((⟨x0.o1, x0.o2, q0, q1, q2⟩ : CB).c c.default)) (Ev.ldv ty28 (.t rfl) (Lens.id _)) (rfl)) ?_))))))
          refine cons (callv en15 (.cons (.t rfl) .nil) (fun w I => may_ok ((⟨x0.o1, x0.o2, q0, q1, q2⟩ : CB).c c.default) (keptC l) w (co5 (x := (⟨x0.o1, x0.o2, q0, q1, q2⟩ : CB)) (l := keptC l) w I) (kept_names hn) (by have := kept_n l; omega)) ?_)
          refine co (Ev.to (v' := .bool true) (Ev.move (.t rfl)) (congrArg Value.bool (kept_may hmay))) ?_
          refine cg rfl rfl (Ev.move (.t rfl)) ?_
          refine cg rfl rfl (Ev.eql_i (.g rfl id) (.c (v := I 0) rfl)) ?_
          refine co (Ev.pkA (.t rfl) rfl) ?_
          refine mv rfl (cg rfl rfl (Ev.move (.t rfl)) ?_)
          refine cg rfl rfl (Ev.len Tryz.underlying22 (.g rfl id) (by first | exact isSl_own (by repeat first | exact mH | apply mT | apply mA) | exact fun w I => IsSl.keep0 (by assumption) I.keeps)) ?_
          refine cg rfl rfl (Ev.to (v' := .bool true) (Ev.eql_i (.g rfl id) (.c (v := I 0) rfl)) (congrArg Value.bool (decide_eq_true (by unfold spL; rw [kept_dead]; cases mayB (keptC l) c.default <;> rfl)))) ?_
          refine co (Ev.pkA (.t rfl) rfl) ?_
          refine mv rfl (cons (callg rfl rfl en20 .nil (fun hg w I => works_ok w) ?_))
          refine co (Ev.pkA (.t rfl) rfl) ?_
          refine asn rfl (nP (ret (done rfl (.tmp rfl .nil) (retE ?_))))
          rfl
end Go.Proofs.YtnoobdijbpmjkaaGreat
