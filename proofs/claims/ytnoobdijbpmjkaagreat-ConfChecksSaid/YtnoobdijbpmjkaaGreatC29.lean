/- conf -/
import Derived.Test.YtnoobdijbpmjkaaGreatC28
set_option linter.unusedVariables false
set_option linter.unusedSimpArgs false
namespace Go.Proofs.YtnoobdijbpmjkaaGreat
open Go Go.Gx

def mkRo : SRoute := { eRoute.zero with out := 777 }
def mkRu : SRule := { eRule.zero with out := 777 }
def mkMe : SMeterConf := { eMeterConf.zero with name := ⟨#[55, 55, 55]⟩ }
def mkMi : SMirrorConf := { eMirrorConf.zero with out := 777 }
def markL (l : CL) : CL := ⟨l.ps ++ [(777 : Int)], l.rs ++ [mkRo], l.us ++ [mkRu], l.ms ++ [mkMe], l.xs ++ [mkMi]⟩
def takeC (l : CL) (n : Nat) : CL := ⟨l.ps.take n, l.rs.take n, l.us.take n, l.ms.take n, l.xs.take n⟩
def subC (x : CB) (l : CL) : CB := ⟨OV.sub iE.size x.o1 0 l.ps.length, OV.sub eRoute.size x.o2 0 l.rs.length, OV.sub eRule.size x.o3 0 l.us.length, OV.sub eMeterConf.size x.o4 0 l.ms.length, OV.sub eMirrorConf.size x.o5 0 l.xs.length⟩
theorem take_mark {α : Type} (l : List α) (x : α) : (l ++ [x]).take l.length = l := List.take_left
theorem isSl_mark {α : Type} {E : Enc α} {w : World} {v : Value} {l : List α} {x : α} (h : IsSl E w v (l ++ [x])) : IsSl E w (subS E.size v 0 l.length) l := by
  have := h.sub (l := 0) (k := l.length) (by omega) (by simp)
  rwa [take_mark, List.drop_zero] at this
theorem ConfAt.sub {w : World} {x : CB} {l : CL} {d : Int} (h : ConfAt w (x.c d) (markL l)) : ConfAt w ((subC x l).c d) l := ⟨isSl_mark h.ps, isSl_mark h.rs, isSl_mark h.us, isSl_mark h.ms, isSl_mark h.xs⟩
theorem take_min {α : Type} (l : List α) (n m : Nat) (h : (m : Int) = min (l.length : Int) n) : l.take m = l.take n := by
  rcases Nat.le_total l.length n with h2 | h2
  · rw [List.take_of_length_le h2, List.take_of_length_le (by omega)]
  · have : m = n := by omega
    rw [this]
theorem takeC_len (l : CL) (n : Nat) : (takeC l n).ps.length ≤ n ∧ (takeC l n).rs.length ≤ n ∧ (takeC l n).us.length ≤ n ∧ (takeC l n).ms.length ≤ n ∧ (takeC l n).xs.length ≤ n := by
  unfold takeC
  simp only [List.length_take]
  omega

theorem cut_ok (c : SConf) (l : CL) (most : Nat) (w : World) (hc : ConfAt w c l) (hm : most ≤ 2000) : Calls Tryz.prog 10 #[eConf.val c, I (most : Nat)] w (RetN w (fun _ : CB => True) (fun x => eConf.val ((subC x (takeC l most)).c c.default)) (fun x => x.R (markL (takeC l most)))) := by
  obtain ⟨m0, hm0⟩ : ∃ m : Nat, (m : Int) = min (l.ps.length : Int) most := ⟨min l.ps.length most, by omega⟩
  obtain ⟨m1, hm1⟩ : ∃ m : Nat, (m : Int) = min (l.rs.length : Int) most := ⟨min l.rs.length most, by omega⟩
  obtain ⟨m2, hm2⟩ : ∃ m : Nat, (m : Int) = min (l.us.length : Int) most := ⟨min l.us.length most, by omega⟩
  obtain ⟨m3, hm3⟩ : ∃ m : Nat, (m : Int) = min (l.ms.length : Int) most := ⟨min l.ms.length most, by omega⟩
  obtain ⟨m4, hm4⟩ : ∃ m : Nat, (m : Int) = min (l.xs.length : Int) most := ⟨min l.xs.length most, by omega⟩
  obtain ⟨hl1, hl2, hl3, hl4, hl5⟩ := takeC_len l most
  refine enter0 119 Tryz.func10 rfl rfl (Nat.le_of_ble_eq_true rfl) ?_
  refine seq (region (cons (box (E := eConf) (.t rfl) (fun b1 => ?_))))
  refine cons (alloc z28 (fun b2 => ?_))
  refine nil (pN (seq (region (cons (alloc z28 (fun b3 => ?_))))))
  refine nil (pN (seq (region (cons (opv (Ev.fieldAddr (o := 5) (.t rfl) (by kernel_rfl)) ?_)))))
  refine cons (opv (Ev.load (xv := c.default) ty3 (.t rfl) (ptsVar (by repeat first | exact mH | apply mT | apply mA) SConf.l_default)) ?_)
  refine cons (opv (Ev.fieldAddr (o := 5) (.t rfl) (by kernel_rfl)) ?_)
  refine cons (stv ty3 SConf.l_default (.t rfl) (.t rfl) ?_)
  refine nil (pN (cut (X := OV) (fun x : OV => True) (fun x : OV => [(2, true, .pointer (some ⟨b1, 0, none⟩)), (4, true, .pointer (some ⟨b2, 0, none⟩)), (5, true, .pointer (some ⟨b3, 0, none⟩)), (1, true, I (most : Nat))]) (fun x : OV => [Var b3 eConf (⟨x, nilSl, nilSl, nilSl, nilSl, c.default⟩ : SConf) 28, OwnS x.v iE ((takeC l most).ps) 3, OwnS nilSl.v eRoute ([]) 52, OwnS nilSl.v eRule ([]) 76, OwnS nilSl.v eMeterConf ([]) 57, OwnS nilSl.v eMirrorConf ([]) 59, Var b2 eConf eConf.zero 28, Var b1 eConf c 28]) ?_ (fun x hx => ?_)))
  · refine takeNil iE 3 ?_
    refine takeNil eRoute 52 ?_
    refine takeNil eRule 76 ?_
    refine takeNil eMeterConf 57 ?_
    refine takeNil eMirrorConf 59 ?_
    refine draw [Var b2 eConf eConf.zero 28, Var b1 eConf c 28] (by kernel_rfl) ?_
    refine tk 0 rfl (Ev.fieldAddr (o := 0) (.t rfl) (by kernel_rfl)) ?_
    refine tk 2 rfl (Ev.fieldAddr (o := 0) (.t rfl) (by kernel_rfl)) ?_
    refine tk 3 rfl (Ev.load (xv := c.ports) ty22 (.t rfl) (ptsVar (by repeat first | exact mH | apply mT | apply mA) SConf.l_ports)) ?_
    refine tk 4 rfl (Ev.fieldAddr (o := 0) (.t rfl) (by kernel_rfl)) ?_
    refine tk 5 rfl (Ev.load (xv := c.ports) ty22 (.t rfl) (ptsVar (by repeat first | exact mH | apply mT | apply mA) SConf.l_ports)) ?_
    refine tk 6 rfl (Ev.len Tryz.underlying22 (.t rfl) (fun w I => (hc.keep0 I.keeps).ps)) ?_
    refine tk 7 rfl (Ev.move (.t rfl)) ?_
    refine tk 8 rfl (Ev.to (v' := I ((m0 : Nat) : Int)) (Ev.min_i (.t rfl) (.t rfl)) (by rw [hm0])) ?_
    refine tk 9 rfl (Ev.sliceH Tryz.underlying22 ty3 (.t rfl) (.t rfl) (fun w I => (hc.keep0 I.keeps).ps) (fun _ => by omega)) ?_
    refine al1 1 rfl ((opv (Ev.ldv ty22 (.t rfl) SConf.l_ports) ?_))
    refine hdn (al1 10 rfl ((append (E := iE) Tryz.underlying22 ty3 rfl zb3 zs3 (.t rfl) (.t rfl) (fun _ => by repeat first | exact Upd.head | apply Upd.tail | apply Upd.right) (fun w I => by have h1 := ((hc.keep0 I.keeps).ps).sub (l := 0) (k := m0) (by omega) (by omega); rw [List.drop_zero, take_min _ _ _ hm0] at h1; exact h1) (⟨by (show _ ≤ 9223372036854775807); simp; omega, by simp; omega⟩) (fun v4 => ?_))))
    refine hdn (tk 11 rfl (Ev.fieldAddr (o := 0) (.t rfl) (by kernel_rfl)) ?_)
    refine al1 12 rfl ((stv ty22 SConf.l_ports (.t rfl) (.t rfl) ?_))
    refine hdn (ovr (pN (meetP (X := OV) (_) trivial (by repeat first | exact Sub.nil | refine Sub.cons rfl ?_) (by repeat first | exact SubP.nil | refine SubP.cons (by repeat first | exact Rem.head | apply Rem.tail) ?_))))
  obtain ⟨a1, rfl⟩ : ∃ y, y = x := ⟨x, rfl⟩
  show Sat _ _ [(2, true, .pointer (some ⟨b1, 0, none⟩)), (4, true, .pointer (some ⟨b2, 0, none⟩)), (5, true, .pointer (some ⟨b3, 0, none⟩)), (1, true, I (most : Nat))] [Var b3 eConf (⟨a1, nilSl, nilSl, nilSl, nilSl, c.default⟩ : SConf) 28, OwnS a1.v iE ((takeC l most).ps) 3, OwnS nilSl.v eRoute ([]) 52, OwnS nilSl.v eRule ([]) 76, OwnS nilSl.v eMeterConf ([]) 57, OwnS nilSl.v eMirrorConf ([]) 59, Var b2 eConf eConf.zero 28, Var b1 eConf c 28]
  refine cut (X := OV) (fun x : OV => True) (fun x : OV => [(2, true, .pointer (some ⟨b1, 0, none⟩)), (4, true, .pointer (some ⟨b2, 0, none⟩)), (5, true, .pointer (some ⟨b3, 0, none⟩)), (1, true, I (most : Nat))]) (fun x : OV => [Var b3 eConf (⟨a1, x, nilSl, nilSl, nilSl, c.default⟩ : SConf) 28, OwnS a1.v iE ((takeC l most).ps) 3, OwnS x.v eRoute ((takeC l most).rs) 52, OwnS nilSl.v eRule ([]) 76, OwnS nilSl.v eMeterConf ([]) 57, OwnS nilSl.v eMirrorConf ([]) 59, Var b2 eConf eConf.zero 28, Var b1 eConf c 28]) ?_ (fun x hx => ?_)
  · refine draw [Var b2 eConf eConf.zero 28, Var b1 eConf c 28] (by kernel_rfl) ?_
    refine tk 0 rfl (Ev.fieldAddr (o := 1) (.t rfl) (by kernel_rfl)) ?_
    refine tk 2 rfl (Ev.fieldAddr (o := 1) (.t rfl) (by kernel_rfl)) ?_
    refine tk 3 rfl (Ev.load (xv := c.routes) ty23 (.t rfl) (ptsVar (by repeat first | exact mH | apply mT | apply mA) SConf.l_routes)) ?_
    refine tk 4 rfl (Ev.fieldAddr (o := 1) (.t rfl) (by kernel_rfl)) ?_
    refine tk 5 rfl (Ev.load (xv := c.routes) ty23 (.t rfl) (ptsVar (by repeat first | exact mH | apply mT | apply mA) SConf.l_routes)) ?_
    refine tk 6 rfl (Ev.len Tryz.underlying23 (.t rfl) (fun w I => (hc.keep0 I.keeps).rs)) ?_
    refine tk 7 rfl (Ev.move (.t rfl)) ?_
    refine tk 8 rfl (Ev.to (v' := I ((m1 : Nat) : Int)) (Ev.min_i (.t rfl) (.t rfl)) (by rw [hm1])) ?_
    refine tk 9 rfl (Ev.sliceH Tryz.underlying23 ty52 (.t rfl) (.t rfl) (fun w I => (hc.keep0 I.keeps).rs) (fun _ => by omega)) ?_
    refine al1 1 rfl ((opv (Ev.ldv ty23 (.t rfl) SConf.l_routes) ?_))
    refine hdn (al1 10 rfl ((append (E := eRoute) Tryz.underlying23 ty52 rfl zb52 zs52 (.t rfl) (.t rfl) (fun _ => by repeat first | exact Upd.head | apply Upd.tail | apply Upd.right) (fun w I => by have h1 := ((hc.keep0 I.keeps).rs).sub (l := 0) (k := m1) (by omega) (by omega); rw [List.drop_zero, take_min _ _ _ hm1] at h1; exact h1) (⟨by (show _ ≤ 9223372036854775807); simp; omega, by simp; omega⟩) (fun v5 => ?_))))
    refine hdn (tk 11 rfl (Ev.fieldAddr (o := 1) (.t rfl) (by kernel_rfl)) ?_)
    refine al1 12 rfl ((stv ty23 SConf.l_routes (.t rfl) (.t rfl) ?_))
    refine hdn (ovr (pN (meetP (X := OV) (_) trivial (by repeat first | exact Sub.nil | refine Sub.cons rfl ?_) (by repeat first | exact SubP.nil | refine SubP.cons (by repeat first | exact Rem.head | apply Rem.tail) ?_))))
  obtain ⟨a2, rfl⟩ : ∃ y, y = x := ⟨x, rfl⟩
  show Sat _ _ [(2, true, .pointer (some ⟨b1, 0, none⟩)), (4, true, .pointer (some ⟨b2, 0, none⟩)), (5, true, .pointer (some ⟨b3, 0, none⟩)), (1, true, I (most : Nat))] [Var b3 eConf (⟨a1, a2, nilSl, nilSl, nilSl, c.default⟩ : SConf) 28, OwnS a1.v iE ((takeC l most).ps) 3, OwnS a2.v eRoute ((takeC l most).rs) 52, OwnS nilSl.v eRule ([]) 76, OwnS nilSl.v eMeterConf ([]) 57, OwnS nilSl.v eMirrorConf ([]) 59, Var b2 eConf eConf.zero 28, Var b1 eConf c 28]
  refine cut (X := OV) (fun x : OV => True) (fun x : OV => [(2, true, .pointer (some ⟨b1, 0, none⟩)), (4, true, .pointer (some ⟨b2, 0, none⟩)), (5, true, .pointer (some ⟨b3, 0, none⟩)), (1, true, I (most : Nat))]) (fun x : OV => [Var b3 eConf (⟨a1, a2, x, nilSl, nilSl, c.default⟩ : SConf) 28, OwnS a1.v iE ((takeC l most).ps) 3, OwnS a2.v eRoute ((takeC l most).rs) 52, OwnS x.v eRule ((takeC l most).us) 76, OwnS nilSl.v eMeterConf ([]) 57, OwnS nilSl.v eMirrorConf ([]) 59, Var b2 eConf eConf.zero 28, Var b1 eConf c 28]) ?_ (fun x hx => ?_)
  · refine draw [Var b2 eConf eConf.zero 28, Var b1 eConf c 28] (by kernel_rfl) ?_
    refine tk 0 rfl (Ev.fieldAddr (o := 2) (.t rfl) (by kernel_rfl)) ?_
    refine tk 2 rfl (Ev.fieldAddr (o := 2) (.t rfl) (by kernel_rfl)) ?_
    refine tk 3 rfl (Ev.load (xv := c.rules) ty24 (.t rfl) (ptsVar (by repeat first | exact mH | apply mT | apply mA) SConf.l_rules)) ?_
    refine tk 4 rfl (Ev.fieldAddr (o := 2) (.t rfl) (by kernel_rfl)) ?_
    refine tk 5 rfl (Ev.load (xv := c.rules) ty24 (.t rfl) (ptsVar (by repeat first | exact mH | apply mT | apply mA) SConf.l_rules)) ?_
    refine tk 6 rfl (Ev.len Tryz.underlying24 (.t rfl) (fun w I => (hc.keep0 I.keeps).us)) ?_
    refine tk 7 rfl (Ev.move (.t rfl)) ?_
    refine tk 8 rfl (Ev.to (v' := I ((m2 : Nat) : Int)) (Ev.min_i (.t rfl) (.t rfl)) (by rw [hm2])) ?_
    refine tk 9 rfl (Ev.sliceH Tryz.underlying24 ty76 (.t rfl) (.t rfl) (fun w I => (hc.keep0 I.keeps).us) (fun _ => by omega)) ?_
    refine al1 1 rfl ((opv (Ev.ldv ty24 (.t rfl) SConf.l_rules) ?_))
    refine hdn (al1 10 rfl ((append (E := eRule) Tryz.underlying24 ty76 rfl zb76 zs76 (.t rfl) (.t rfl) (fun _ => by repeat first | exact Upd.head | apply Upd.tail | apply Upd.right) (fun w I => by have h1 := ((hc.keep0 I.keeps).us).sub (l := 0) (k := m2) (by omega) (by omega); rw [List.drop_zero, take_min _ _ _ hm2] at h1; exact h1) (⟨by (show _ ≤ 9223372036854775807); simp; omega, by simp; omega⟩) (fun v6 => ?_))))
    refine hdn (tk 11 rfl (Ev.fieldAddr (o := 2) (.t rfl) (by kernel_rfl)) ?_)
    refine al1 12 rfl ((stv ty24 SConf.l_rules (.t rfl) (.t rfl) ?_))
    refine hdn (ovr (pN (meetP (X := OV) (_) trivial (by repeat first | exact Sub.nil | refine Sub.cons rfl ?_) (by repeat first | exact SubP.nil | refine SubP.cons (by repeat first | exact Rem.head | apply Rem.tail) ?_))))
  obtain ⟨a3, rfl⟩ : ∃ y, y = x := ⟨x, rfl⟩
  show Sat _ _ [(2, true, .pointer (some ⟨b1, 0, none⟩)), (4, true, .pointer (some ⟨b2, 0, none⟩)), (5, true, .pointer (some ⟨b3, 0, none⟩)), (1, true, I (most : Nat))] [Var b3 eConf (⟨a1, a2, a3, nilSl, nilSl, c.default⟩ : SConf) 28, OwnS a1.v iE ((takeC l most).ps) 3, OwnS a2.v eRoute ((takeC l most).rs) 52, OwnS a3.v eRule ((takeC l most).us) 76, OwnS nilSl.v eMeterConf ([]) 57, OwnS nilSl.v eMirrorConf ([]) 59, Var b2 eConf eConf.zero 28, Var b1 eConf c 28]
  refine cut (X := OV) (fun x : OV => True) (fun x : OV => [(2, true, .pointer (some ⟨b1, 0, none⟩)), (4, true, .pointer (some ⟨b2, 0, none⟩)), (5, true, .pointer (some ⟨b3, 0, none⟩)), (1, true, I (most : Nat))]) (fun x : OV => [Var b3 eConf (⟨a1, a2, a3, x, nilSl, c.default⟩ : SConf) 28, OwnS a1.v iE ((takeC l most).ps) 3, OwnS a2.v eRoute ((takeC l most).rs) 52, OwnS a3.v eRule ((takeC l most).us) 76, OwnS x.v eMeterConf ((takeC l most).ms) 57, OwnS nilSl.v eMirrorConf ([]) 59, Var b2 eConf eConf.zero 28, Var b1 eConf c 28]) ?_ (fun x hx => ?_)
  · refine draw [Var b2 eConf eConf.zero 28, Var b1 eConf c 28] (by kernel_rfl) ?_
    refine tk 0 rfl (Ev.fieldAddr (o := 3) (.t rfl) (by kernel_rfl)) ?_
    refine tk 2 rfl (Ev.fieldAddr (o := 3) (.t rfl) (by kernel_rfl)) ?_
    refine tk 3 rfl (Ev.load (xv := c.meters) ty25 (.t rfl) (ptsVar (by repeat first | exact mH | apply mT | apply mA) SConf.l_meters)) ?_
    refine tk 4 rfl (Ev.fieldAddr (o := 3) (.t rfl) (by kernel_rfl)) ?_
    refine tk 5 rfl (Ev.load (xv := c.meters) ty25 (.t rfl) (ptsVar (by repeat first | exact mH | apply mT | apply mA) SConf.l_meters)) ?_
    refine tk 6 rfl (Ev.len Tryz.underlying25 (.t rfl) (fun w I => (hc.keep0 I.keeps).ms)) ?_
    refine tk 7 rfl (Ev.move (.t rfl)) ?_
    refine tk 8 rfl (Ev.to (v' := I ((m3 : Nat) : Int)) (Ev.min_i (.t rfl) (.t rfl)) (by rw [hm3])) ?_
    refine tk 9 rfl (Ev.sliceH Tryz.underlying25 ty57 (.t rfl) (.t rfl) (fun w I => (hc.keep0 I.keeps).ms) (fun _ => by omega)) ?_
    refine al1 1 rfl ((opv (Ev.ldv ty25 (.t rfl) SConf.l_meters) ?_))
    refine hdn (al1 10 rfl ((append (E := eMeterConf) Tryz.underlying25 ty57 rfl zb57 zs57 (.t rfl) (.t rfl) (fun _ => by repeat first | exact Upd.head | apply Upd.tail | apply Upd.right) (fun w I => by have h1 := ((hc.keep0 I.keeps).ms).sub (l := 0) (k := m3) (by omega) (by omega); rw [List.drop_zero, take_min _ _ _ hm3] at h1; exact h1) (⟨by (show _ ≤ 9223372036854775807); simp; omega, by simp; omega⟩) (fun v7 => ?_))))
    refine hdn (tk 11 rfl (Ev.fieldAddr (o := 3) (.t rfl) (by kernel_rfl)) ?_)
    refine al1 12 rfl ((stv ty25 SConf.l_meters (.t rfl) (.t rfl) ?_))
    refine hdn (ovr (pN (meetP (X := OV) (_) trivial (by repeat first | exact Sub.nil | refine Sub.cons rfl ?_) (by repeat first | exact SubP.nil | refine SubP.cons (by repeat first | exact Rem.head | apply Rem.tail) ?_))))
  obtain ⟨a4, rfl⟩ : ∃ y, y = x := ⟨x, rfl⟩
  show Sat _ _ [(2, true, .pointer (some ⟨b1, 0, none⟩)), (4, true, .pointer (some ⟨b2, 0, none⟩)), (5, true, .pointer (some ⟨b3, 0, none⟩)), (1, true, I (most : Nat))] [Var b3 eConf (⟨a1, a2, a3, a4, nilSl, c.default⟩ : SConf) 28, OwnS a1.v iE ((takeC l most).ps) 3, OwnS a2.v eRoute ((takeC l most).rs) 52, OwnS a3.v eRule ((takeC l most).us) 76, OwnS a4.v eMeterConf ((takeC l most).ms) 57, OwnS nilSl.v eMirrorConf ([]) 59, Var b2 eConf eConf.zero 28, Var b1 eConf c 28]
  refine cut (X := OV) (fun x : OV => True) (fun x : OV => [(2, true, .pointer (some ⟨b1, 0, none⟩)), (4, true, .pointer (some ⟨b2, 0, none⟩)), (5, true, .pointer (some ⟨b3, 0, none⟩)), (1, true, I (most : Nat))]) (fun x : OV => [Var b3 eConf (⟨a1, a2, a3, a4, x, c.default⟩ : SConf) 28, OwnS a1.v iE ((takeC l most).ps) 3, OwnS a2.v eRoute ((takeC l most).rs) 52, OwnS a3.v eRule ((takeC l most).us) 76, OwnS a4.v eMeterConf ((takeC l most).ms) 57, OwnS x.v eMirrorConf ((takeC l most).xs) 59, Var b2 eConf eConf.zero 28, Var b1 eConf c 28]) ?_ (fun x hx => ?_)
  · refine draw [Var b2 eConf eConf.zero 28, Var b1 eConf c 28] (by kernel_rfl) ?_
    refine tk 0 rfl (Ev.fieldAddr (o := 4) (.t rfl) (by kernel_rfl)) ?_
    refine tk 2 rfl (Ev.fieldAddr (o := 4) (.t rfl) (by kernel_rfl)) ?_
    refine tk 3 rfl (Ev.load (xv := c.mirrors) ty26 (.t rfl) (ptsVar (by repeat first | exact mH | apply mT | apply mA) SConf.l_mirrors)) ?_
    refine tk 4 rfl (Ev.fieldAddr (o := 4) (.t rfl) (by kernel_rfl)) ?_
    refine tk 5 rfl (Ev.load (xv := c.mirrors) ty26 (.t rfl) (ptsVar (by repeat first | exact mH | apply mT | apply mA) SConf.l_mirrors)) ?_
    refine tk 6 rfl (Ev.len Tryz.underlying26 (.t rfl) (fun w I => (hc.keep0 I.keeps).xs)) ?_
    refine tk 7 rfl (Ev.move (.t rfl)) ?_
    refine tk 8 rfl (Ev.to (v' := I ((m4 : Nat) : Int)) (Ev.min_i (.t rfl) (.t rfl)) (by rw [hm4])) ?_
    refine tk 9 rfl (Ev.sliceH Tryz.underlying26 ty59 (.t rfl) (.t rfl) (fun w I => (hc.keep0 I.keeps).xs) (fun _ => by omega)) ?_
    refine al1 1 rfl ((opv (Ev.ldv ty26 (.t rfl) SConf.l_mirrors) ?_))
    refine hdn (al1 10 rfl ((append (E := eMirrorConf) Tryz.underlying26 ty59 rfl zb59 zs59 (.t rfl) (.t rfl) (fun _ => by repeat first | exact Upd.head | apply Upd.tail | apply Upd.right) (fun w I => by have h1 := ((hc.keep0 I.keeps).xs).sub (l := 0) (k := m4) (by omega) (by omega); rw [List.drop_zero, take_min _ _ _ hm4] at h1; exact h1) (⟨by (show _ ≤ 9223372036854775807); simp; omega, by simp; omega⟩) (fun v8 => ?_))))
    refine hdn (tk 11 rfl (Ev.fieldAddr (o := 4) (.t rfl) (by kernel_rfl)) ?_)
    refine al1 12 rfl ((stv ty26 SConf.l_mirrors (.t rfl) (.t rfl) ?_))
    refine hdn (ovr (pN (meetP (X := OV) (_) trivial (by repeat first | exact Sub.nil | refine Sub.cons rfl ?_) (by repeat first | exact SubP.nil | refine SubP.cons (by repeat first | exact Rem.head | apply Rem.tail) ?_))))
  obtain ⟨a5, rfl⟩ : ∃ y, y = x := ⟨x, rfl⟩
  show Sat _ _ [(2, true, .pointer (some ⟨b1, 0, none⟩)), (4, true, .pointer (some ⟨b2, 0, none⟩)), (5, true, .pointer (some ⟨b3, 0, none⟩)), (1, true, I (most : Nat))] [Var b3 eConf (⟨a1, a2, a3, a4, a5, c.default⟩ : SConf) 28, OwnS a1.v iE ((takeC l most).ps) 3, OwnS a2.v eRoute ((takeC l most).rs) 52, OwnS a3.v eRule ((takeC l most).us) 76, OwnS a4.v eMeterConf ((takeC l most).ms) 57, OwnS a5.v eMirrorConf ((takeC l most).xs) 59, Var b2 eConf eConf.zero 28, Var b1 eConf c 28]
  refine cut (X := OV) (fun x : OV => True) (fun x : OV => [(2, true, .pointer (some ⟨b1, 0, none⟩)), (4, true, .pointer (some ⟨b2, 0, none⟩)), (5, true, .pointer (some ⟨b3, 0, none⟩)), (1, true, I (most : Nat))]) (fun x : OV => [Var b3 eConf (⟨(OV.sub iE.size x 0 (takeC l most).ps.length), a2, a3, a4, a5, c.default⟩ : SConf) 28, OwnS x.v iE ((takeC l most).ps ++ [(777 : Int)]) 3, OwnS a2.v eRoute ((takeC l most).rs) 52, OwnS a3.v eRule ((takeC l most).us) 76, OwnS a4.v eMeterConf ((takeC l most).ms) 57, OwnS a5.v eMirrorConf ((takeC l most).xs) 59, Var b2 eConf eConf.zero 28, Var b1 eConf c 28]) ?_ (fun x hx => ?_)
  · refine know (fun w I => (isSl_own (E := iE) (v := a1.v) (xs := (takeC l most).ps) (T := 3) (by repeat first | exact mH | apply mT | apply mA) w I).shq) (fun hq0 => ?_)
    refine draw [Var b2 eConf eConf.zero 28, Var b1 eConf c 28] (by kernel_rfl) ?_
    refine tk 0 rfl (Ev.fieldAddr (o := 0) (.t rfl) (by kernel_rfl)) ?_
    refine tk 4 rfl (Ev.fieldAddr (o := 0) (.t rfl) (by kernel_rfl)) ?_
    refine all [1, 2, 5] (by kernel_rfl) (by decide) (.cons rfl ?_ (.cons rfl ?_ (.cons rfl ?_ .nil)))
    · refine (opv (Ev.ldv ty22 (.t rfl) SConf.l_ports) ?_)
      refine hdn (all [2, 5] (by kernel_rfl) (by decide) (.cons rfl ?_ (.cons rfl ?_ .nil)))
      · refine (buildSlice (E := iE) Tryz.underlying22 ty3 z3 (.cons (.c (v := I 777) rfl) .nil) rfl rfl (fun v9 => ?_))
        refine hdn (all [3, 5] (by kernel_rfl) (by decide) (.cons rfl ?_ (.cons rfl ?_ .nil)))
        · refine (append (E := iE) Tryz.underlying22 ty3 rfl zb3 zs3 (.t rfl) (.t rfl) (fun _ => by repeat first | exact Upd.head | apply Upd.tail | apply Upd.right) (by first | exact isSl_own (by repeat first | exact mH | apply mT | apply mA) | exact fun w I => IsSl.keep0 (by assumption) I.keeps) (⟨by (show _ ≤ 9223372036854775807); simp only [List.length_cons, List.length_nil]; omega, by simp only [List.length_cons, List.length_nil]; omega⟩) (fun v10 => ?_))
          refine hdn (al1 5 rfl ((opv (Ev.ldv ty22 (.t rfl) SConf.l_ports) ?_)))
          refine hdn (tk 6 rfl (Ev.lenQ Tryz.underlying22 (.t rfl) hq0) ?_)
          refine know (fun w I => (isSl_own (E := iE) (xs := (takeC l most).ps ++ [(777 : Int)]) (T := 3) (by repeat first | exact mH | apply mT | apply mA) w I).shq) (fun hz0 => ?_)
          refine tk 7 rfl (Ev.to (v' := (OV.sub iE.size _ 0 (takeC l most).ps.length).v) (Ev.sliceHS Tryz.underlying22 ty3 (.t rfl) (.t rfl) hz0 (fun _ => by simp only [List.length_append, List.length_cons, List.length_nil]; omega)) (rfl)) ?_
          refine tk 8 rfl (Ev.fieldAddr (o := 0) (.t rfl) (by kernel_rfl)) ?_
          refine al1 9 rfl ((stv ty22 SConf.l_ports (.t rfl) (.t rfl) ?_))
          refine hdn (ovr (pN (meetP (X := OV) (_) trivial (by repeat first | exact Sub.nil | refine Sub.cons rfl ?_) (by repeat first | exact SubP.nil | refine SubP.cons (by repeat first | exact Rem.head | apply Rem.tail) ?_))))
        · refine (opv (Ev.ldv ty22 (.t rfl) SConf.l_ports) ?_)
          refine hdn (tk 6 rfl (Ev.lenQ Tryz.underlying22 (.t rfl) hq0) ?_)
          refine al1 3 rfl ((append (E := iE) Tryz.underlying22 ty3 rfl zb3 zs3 (.t rfl) (.t rfl) (fun _ => by repeat first | exact Upd.head | apply Upd.tail | apply Upd.right) (by first | exact isSl_own (by repeat first | exact mH | apply mT | apply mA) | exact fun w I => IsSl.keep0 (by assumption) I.keeps) (⟨by (show _ ≤ 9223372036854775807); simp only [List.length_cons, List.length_nil]; omega, by simp only [List.length_cons, List.length_nil]; omega⟩) (fun v11 => ?_)))
          refine hdn (know (fun w I => (isSl_own (E := iE) (xs := (takeC l most).ps ++ [(777 : Int)]) (T := 3) (by repeat first | exact mH | apply mT | apply mA) w I).shq) (fun hz0 => ?_))
          refine tk 7 rfl (Ev.to (v' := (OV.sub iE.size _ 0 (takeC l most).ps.length).v) (Ev.sliceHS Tryz.underlying22 ty3 (.t rfl) (.t rfl) hz0 (fun _ => by simp only [List.length_append, List.length_cons, List.length_nil]; omega)) (rfl)) ?_
          refine tk 8 rfl (Ev.fieldAddr (o := 0) (.t rfl) (by kernel_rfl)) ?_
          refine al1 9 rfl ((stv ty22 SConf.l_ports (.t rfl) (.t rfl) ?_))
          refine hdn (ovr (pN (meetP (X := OV) (_) trivial (by repeat first | exact Sub.nil | refine Sub.cons rfl ?_) (by repeat first | exact SubP.nil | refine SubP.cons (by repeat first | exact Rem.head | apply Rem.tail) ?_))))
      · refine (opv (Ev.ldv ty22 (.t rfl) SConf.l_ports) ?_)
        refine hdn (tk 6 rfl (Ev.lenQ Tryz.underlying22 (.t rfl) hq0) ?_)
        refine al1 2 rfl ((buildSlice (E := iE) Tryz.underlying22 ty3 z3 (.cons (.c (v := I 777) rfl) .nil) rfl rfl (fun v12 => ?_)))
        refine hdn (al1 3 rfl ((append (E := iE) Tryz.underlying22 ty3 rfl zb3 zs3 (.t rfl) (.t rfl) (fun _ => by repeat first | exact Upd.head | apply Upd.tail | apply Upd.right) (by first | exact isSl_own (by repeat first | exact mH | apply mT | apply mA) | exact fun w I => IsSl.keep0 (by assumption) I.keeps) (⟨by (show _ ≤ 9223372036854775807); simp only [List.length_cons, List.length_nil]; omega, by simp only [List.length_cons, List.length_nil]; omega⟩) (fun v13 => ?_))))
        refine hdn (know (fun w I => (isSl_own (E := iE) (xs := (takeC l most).ps ++ [(777 : Int)]) (T := 3) (by repeat first | exact mH | apply mT | apply mA) w I).shq) (fun hz0 => ?_))
        refine tk 7 rfl (Ev.to (v' := (OV.sub iE.size _ 0 (takeC l most).ps.length).v) (Ev.sliceHS Tryz.underlying22 ty3 (.t rfl) (.t rfl) hz0 (fun _ => by simp only [List.length_append, List.length_cons, List.length_nil]; omega)) (rfl)) ?_
        refine tk 8 rfl (Ev.fieldAddr (o := 0) (.t rfl) (by kernel_rfl)) ?_
        refine al1 9 rfl ((stv ty22 SConf.l_ports (.t rfl) (.t rfl) ?_))
        refine hdn (ovr (pN (meetP (X := OV) (_) trivial (by repeat first | exact Sub.nil | refine Sub.cons rfl ?_) (by repeat first | exact SubP.nil | refine SubP.cons (by repeat first | exact Rem.head | apply Rem.tail) ?_))))
    · refine (buildSlice (E := iE) Tryz.underlying22 ty3 z3 (.cons (.c (v := I 777) rfl) .nil) rfl rfl (fun v14 => ?_))
      refine hdn (all [1, 5] (by kernel_rfl) (by decide) (.cons rfl ?_ (.cons rfl ?_ .nil)))
      · refine (opv (Ev.ldv ty22 (.t rfl) SConf.l_ports) ?_)
        refine hdn (all [3, 5] (by kernel_rfl) (by decide) (.cons rfl ?_ (.cons rfl ?_ .nil)))
        · refine (append (E := iE) Tryz.underlying22 ty3 rfl zb3 zs3 (.t rfl) (.t rfl) (fun _ => by repeat first | exact Upd.head | apply Upd.tail | apply Upd.right) (by first | exact isSl_own (by repeat first | exact mH | apply mT | apply mA) | exact fun w I => IsSl.keep0 (by assumption) I.keeps) (⟨by (show _ ≤ 9223372036854775807); simp only [List.length_cons, List.length_nil]; omega, by simp only [List.length_cons, List.length_nil]; omega⟩) (fun v15 => ?_))
          refine hdn (al1 5 rfl ((opv (Ev.ldv ty22 (.t rfl) SConf.l_ports) ?_)))
          refine hdn (tk 6 rfl (Ev.lenQ Tryz.underlying22 (.t rfl) hq0) ?_)
          refine know (fun w I => (isSl_own (E := iE) (xs := (takeC l most).ps ++ [(777 : Int)]) (T := 3) (by repeat first | exact mH | apply mT | apply mA) w I).shq) (fun hz0 => ?_)
          refine tk 7 rfl (Ev.to (v' := (OV.sub iE.size _ 0 (takeC l most).ps.length).v) (Ev.sliceHS Tryz.underlying22 ty3 (.t rfl) (.t rfl) hz0 (fun _ => by simp only [List.length_append, List.length_cons, List.length_nil]; omega)) (rfl)) ?_
          refine tk 8 rfl (Ev.fieldAddr (o := 0) (.t rfl) (by kernel_rfl)) ?_
          refine al1 9 rfl ((stv ty22 SConf.l_ports (.t rfl) (.t rfl) ?_))
          refine hdn (ovr (pN (meetP (X := OV) (_) trivial (by repeat first | exact Sub.nil | refine Sub.cons rfl ?_) (by repeat first | exact SubP.nil | refine SubP.cons (by repeat first | exact Rem.head | apply Rem.tail) ?_))))
        · refine (opv (Ev.ldv ty22 (.t rfl) SConf.l_ports) ?_)
          refine hdn (tk 6 rfl (Ev.lenQ Tryz.underlying22 (.t rfl) hq0) ?_)
          refine al1 3 rfl ((append (E := iE) Tryz.underlying22 ty3 rfl zb3 zs3 (.t rfl) (.t rfl) (fun _ => by repeat first | exact Upd.head | apply Upd.tail | apply Upd.right) (by first | exact isSl_own (by repeat first | exact mH | apply mT | apply mA) | exact fun w I => IsSl.keep0 (by assumption) I.keeps) (⟨by (show _ ≤ 9223372036854775807); simp only [List.length_cons, List.length_nil]; omega, by simp only [List.length_cons, List.length_nil]; omega⟩) (fun v16 => ?_)))
          refine hdn (know (fun w I => (isSl_own (E := iE) (xs := (takeC l most).ps ++ [(777 : Int)]) (T := 3) (by repeat first | exact mH | apply mT | apply mA) w I).shq) (fun hz0 => ?_))
          refine tk 7 rfl (Ev.to (v' := (OV.sub iE.size _ 0 (takeC l most).ps.length).v) (Ev.sliceHS Tryz.underlying22 ty3 (.t rfl) (.t rfl) hz0 (fun _ => by simp only [List.length_append, List.length_cons, List.length_nil]; omega)) (rfl)) ?_
          refine tk 8 rfl (Ev.fieldAddr (o := 0) (.t rfl) (by kernel_rfl)) ?_
          refine al1 9 rfl ((stv ty22 SConf.l_ports (.t rfl) (.t rfl) ?_))
          refine hdn (ovr (pN (meetP (X := OV) (_) trivial (by repeat first | exact Sub.nil | refine Sub.cons rfl ?_) (by repeat first | exact SubP.nil | refine SubP.cons (by repeat first | exact Rem.head | apply Rem.tail) ?_))))
      · refine (opv (Ev.ldv ty22 (.t rfl) SConf.l_ports) ?_)
        refine hdn (tk 6 rfl (Ev.lenQ Tryz.underlying22 (.t rfl) hq0) ?_)
        refine al1 1 rfl ((opv (Ev.ldv ty22 (.t rfl) SConf.l_ports) ?_))
        refine hdn (al1 3 rfl ((append (E := iE) Tryz.underlying22 ty3 rfl zb3 zs3 (.t rfl) (.t rfl) (fun _ => by repeat first | exact Upd.head | apply Upd.tail | apply Upd.right) (by first | exact isSl_own (by repeat first | exact mH | apply mT | apply mA) | exact fun w I => IsSl.keep0 (by assumption) I.keeps) (⟨by (show _ ≤ 9223372036854775807); simp only [List.length_cons, List.length_nil]; omega, by simp only [List.length_cons, List.length_nil]; omega⟩) (fun v17 => ?_))))
        refine hdn (know (fun w I => (isSl_own (E := iE) (xs := (takeC l most).ps ++ [(777 : Int)]) (T := 3) (by repeat first | exact mH | apply mT | apply mA) w I).shq) (fun hz0 => ?_))
        refine tk 7 rfl (Ev.to (v' := (OV.sub iE.size _ 0 (takeC l most).ps.length).v) (Ev.sliceHS Tryz.underlying22 ty3 (.t rfl) (.t rfl) hz0 (fun _ => by simp only [List.length_append, List.length_cons, List.length_nil]; omega)) (rfl)) ?_
        refine tk 8 rfl (Ev.fieldAddr (o := 0) (.t rfl) (by kernel_rfl)) ?_
        refine al1 9 rfl ((stv ty22 SConf.l_ports (.t rfl) (.t rfl) ?_))
        refine hdn (ovr (pN (meetP (X := OV) (_) trivial (by repeat first | exact Sub.nil | refine Sub.cons rfl ?_) (by repeat first | exact SubP.nil | refine SubP.cons (by repeat first | exact Rem.head | apply Rem.tail) ?_))))
    · refine (opv (Ev.ldv ty22 (.t rfl) SConf.l_ports) ?_)
      refine hdn (tk 6 rfl (Ev.lenQ Tryz.underlying22 (.t rfl) hq0) ?_)
      refine all [1, 2] (by kernel_rfl) (by decide) (.cons rfl ?_ (.cons rfl ?_ .nil))
      · refine (opv (Ev.ldv ty22 (.t rfl) SConf.l_ports) ?_)
        refine hdn (al1 2 rfl ((buildSlice (E := iE) Tryz.underlying22 ty3 z3 (.cons (.c (v := I 777) rfl) .nil) rfl rfl (fun v18 => ?_))))
        refine hdn (al1 3 rfl ((append (E := iE) Tryz.underlying22 ty3 rfl zb3 zs3 (.t rfl) (.t rfl) (fun _ => by repeat first | exact Upd.head | apply Upd.tail | apply Upd.right) (by first | exact isSl_own (by repeat first | exact mH | apply mT | apply mA) | exact fun w I => IsSl.keep0 (by assumption) I.keeps) (⟨by (show _ ≤ 9223372036854775807); simp only [List.length_cons, List.length_nil]; omega, by simp only [List.length_cons, List.length_nil]; omega⟩) (fun v19 => ?_))))
        refine hdn (know (fun w I => (isSl_own (E := iE) (xs := (takeC l most).ps ++ [(777 : Int)]) (T := 3) (by repeat first | exact mH | apply mT | apply mA) w I).shq) (fun hz0 => ?_))
        refine tk 7 rfl (Ev.to (v' := (OV.sub iE.size _ 0 (takeC l most).ps.length).v) (Ev.sliceHS Tryz.underlying22 ty3 (.t rfl) (.t rfl) hz0 (fun _ => by simp only [List.length_append, List.length_cons, List.length_nil]; omega)) (rfl)) ?_
        refine tk 8 rfl (Ev.fieldAddr (o := 0) (.t rfl) (by kernel_rfl)) ?_
        refine al1 9 rfl ((stv ty22 SConf.l_ports (.t rfl) (.t rfl) ?_))
        refine hdn (ovr (pN (meetP (X := OV) (_) trivial (by repeat first | exact Sub.nil | refine Sub.cons rfl ?_) (by repeat first | exact SubP.nil | refine SubP.cons (by repeat first | exact Rem.head | apply Rem.tail) ?_))))
      · refine (buildSlice (E := iE) Tryz.underlying22 ty3 z3 (.cons (.c (v := I 777) rfl) .nil) rfl rfl (fun v20 => ?_))
        refine hdn (al1 1 rfl ((opv (Ev.ldv ty22 (.t rfl) SConf.l_ports) ?_)))
        refine hdn (al1 3 rfl ((append (E := iE) Tryz.underlying22 ty3 rfl zb3 zs3 (.t rfl) (.t rfl) (fun _ => by repeat first | exact Upd.head | apply Upd.tail | apply Upd.right) (by first | exact isSl_own (by repeat first | exact mH | apply mT | apply mA) | exact fun w I => IsSl.keep0 (by assumption) I.keeps) (⟨by (show _ ≤ 9223372036854775807); simp only [List.length_cons, List.length_nil]; omega, by simp only [List.length_cons, List.length_nil]; omega⟩) (fun v21 => ?_))))
        refine hdn (know (fun w I => (isSl_own (E := iE) (xs := (takeC l most).ps ++ [(777 : Int)]) (T := 3) (by repeat first | exact mH | apply mT | apply mA) w I).shq) (fun hz0 => ?_))
        refine tk 7 rfl (Ev.to (v' := (OV.sub iE.size _ 0 (takeC l most).ps.length).v) (Ev.sliceHS Tryz.underlying22 ty3 (.t rfl) (.t rfl) hz0 (fun _ => by simp only [List.length_append, List.length_cons, List.length_nil]; omega)) (rfl)) ?_
        refine tk 8 rfl (Ev.fieldAddr (o := 0) (.t rfl) (by kernel_rfl)) ?_
        refine al1 9 rfl ((stv ty22 SConf.l_ports (.t rfl) (.t rfl) ?_))
        refine hdn (ovr (pN (meetP (X := OV) (_) trivial (by repeat first | exact Sub.nil | refine Sub.cons rfl ?_) (by repeat first | exact SubP.nil | refine SubP.cons (by repeat first | exact Rem.head | apply Rem.tail) ?_))))
  obtain ⟨z1, rfl⟩ : ∃ y, y = x := ⟨x, rfl⟩
  show Sat _ _ [(2, true, .pointer (some ⟨b1, 0, none⟩)), (4, true, .pointer (some ⟨b2, 0, none⟩)), (5, true, .pointer (some ⟨b3, 0, none⟩)), (1, true, I (most : Nat))] [Var b3 eConf (⟨(OV.sub iE.size z1 0 (takeC l most).ps.length), a2, a3, a4, a5, c.default⟩ : SConf) 28, OwnS z1.v iE ((takeC l most).ps ++ [(777 : Int)]) 3, OwnS a2.v eRoute ((takeC l most).rs) 52, OwnS a3.v eRule ((takeC l most).us) 76, OwnS a4.v eMeterConf ((takeC l most).ms) 57, OwnS a5.v eMirrorConf ((takeC l most).xs) 59, Var b2 eConf eConf.zero 28, Var b1 eConf c 28]
  refine cut (X := OV) (fun x : OV => True) (fun x : OV => [(2, true, .pointer (some ⟨b1, 0, none⟩)), (4, true, .pointer (some ⟨b2, 0, none⟩)), (5, true, .pointer (some ⟨b3, 0, none⟩)), (1, true, I (most : Nat))]) (fun x : OV => [Var b3 eConf (⟨(OV.sub iE.size z1 0 (takeC l most).ps.length), (OV.sub eRoute.size x 0 (takeC l most).rs.length), a3, a4, a5, c.default⟩ : SConf) 28, OwnS z1.v iE ((takeC l most).ps ++ [(777 : Int)]) 3, OwnS x.v eRoute ((takeC l most).rs ++ [mkRo]) 52, OwnS a3.v eRule ((takeC l most).us) 76, OwnS a4.v eMeterConf ((takeC l most).ms) 57, OwnS a5.v eMirrorConf ((takeC l most).xs) 59, Var b2 eConf eConf.zero 28, Var b1 eConf c 28]) ?_ (fun x hx => ?_)
  · refine know (fun w I => (isSl_own (E := eRoute) (v := a2.v) (xs := (takeC l most).rs) (T := 52) (by repeat first | exact mH | apply mT | apply mA) w I).shq) (fun hq1 => ?_)
    refine draw [Var b2 eConf eConf.zero 28, Var b1 eConf c 28] (by kernel_rfl) ?_
    refine tk 0 rfl (Ev.fieldAddr (o := 1) (.t rfl) (by kernel_rfl)) ?_
    refine tk 2 rfl (Ev.buildS (fs := _) (places := [(0, 18), (18, 1)]) z52 rfl Tryz.underlying52 (by kernel_rfl) (.cons (.c (v := I 777) rfl) .nil) (Fills.cons SRoute.l_out rfl Fills.nil)) ?_
    refine tk 5 rfl (Ev.fieldAddr (o := 1) (.t rfl) (by kernel_rfl)) ?_
    refine all [1, 3, 6] (by kernel_rfl) (by decide) (.cons rfl ?_ (.cons rfl ?_ (.cons rfl ?_ .nil)))
    · refine (opv (Ev.ldv ty23 (.t rfl) SConf.l_routes) ?_)
      refine hdn (all [3, 6] (by kernel_rfl) (by decide) (.cons rfl ?_ (.cons rfl ?_ .nil)))
      · refine (buildSlice (E := eRoute) Tryz.underlying23 ty52 z52 (.cons (.t rfl) .nil) rfl rfl (fun v22 => ?_))
        refine hdn (all [4, 6] (by kernel_rfl) (by decide) (.cons rfl ?_ (.cons rfl ?_ .nil)))
        · refine (append (E := eRoute) Tryz.underlying23 ty52 rfl zb52 zs52 (.t rfl) (.t rfl) (fun _ => by repeat first | exact Upd.head | apply Upd.tail | apply Upd.right) (by first | exact isSl_own (by repeat first | exact mH | apply mT | apply mA) | exact fun w I => IsSl.keep0 (by assumption) I.keeps) (⟨by (show _ ≤ 9223372036854775807); simp only [List.length_cons, List.length_nil]; omega, by simp only [List.length_cons, List.length_nil]; omega⟩) (fun v23 => ?_))
          refine hdn (al1 6 rfl ((opv (Ev.ldv ty23 (.t rfl) SConf.l_routes) ?_)))
          refine hdn (tk 7 rfl (Ev.lenQ Tryz.underlying23 (.t rfl) hq1) ?_)
          refine know (fun w I => (isSl_own (E := eRoute) (xs := (takeC l most).rs ++ [mkRo]) (T := 52) (by repeat first | exact mH | apply mT | apply mA) w I).shq) (fun hz1 => ?_)
          refine tk 8 rfl (Ev.to (v' := (OV.sub eRoute.size _ 0 (takeC l most).rs.length).v) (Ev.sliceHS Tryz.underlying23 ty52 (.t rfl) (.t rfl) hz1 (fun _ => by simp only [List.length_append, List.length_cons, List.length_nil]; omega)) (rfl)) ?_
          refine tk 9 rfl (Ev.fieldAddr (o := 1) (.t rfl) (by kernel_rfl)) ?_
          refine al1 10 rfl ((stv ty23 SConf.l_routes (.t rfl) (.t rfl) ?_))
          refine hdn (ovr (pN (meetP (X := OV) (_) trivial (by repeat first | exact Sub.nil | refine Sub.cons rfl ?_) (by repeat first | exact SubP.nil | refine SubP.cons (by repeat first | exact Rem.head | apply Rem.tail) ?_))))
        · refine (opv (Ev.ldv ty23 (.t rfl) SConf.l_routes) ?_)
          refine hdn (tk 7 rfl (Ev.lenQ Tryz.underlying23 (.t rfl) hq1) ?_)
          refine al1 4 rfl ((append (E := eRoute) Tryz.underlying23 ty52 rfl zb52 zs52 (.t rfl) (.t rfl) (fun _ => by repeat first | exact Upd.head | apply Upd.tail | apply Upd.right) (by first | exact isSl_own (by repeat first | exact mH | apply mT | apply mA) | exact fun w I => IsSl.keep0 (by assumption) I.keeps) (⟨by (show _ ≤ 9223372036854775807); simp only [List.length_cons, List.length_nil]; omega, by simp only [List.length_cons, List.length_nil]; omega⟩) (fun v24 => ?_)))
          refine hdn (know (fun w I => (isSl_own (E := eRoute) (xs := (takeC l most).rs ++ [mkRo]) (T := 52) (by repeat first | exact mH | apply mT | apply mA) w I).shq) (fun hz1 => ?_))
          refine tk 8 rfl (Ev.to (v' := (OV.sub eRoute.size _ 0 (takeC l most).rs.length).v) (Ev.sliceHS Tryz.underlying23 ty52 (.t rfl) (.t rfl) hz1 (fun _ => by simp only [List.length_append, List.length_cons, List.length_nil]; omega)) (rfl)) ?_
          refine tk 9 rfl (Ev.fieldAddr (o := 1) (.t rfl) (by kernel_rfl)) ?_
          refine al1 10 rfl ((stv ty23 SConf.l_routes (.t rfl) (.t rfl) ?_))
          refine hdn (ovr (pN (meetP (X := OV) (_) trivial (by repeat first | exact Sub.nil | refine Sub.cons rfl ?_) (by repeat first | exact SubP.nil | refine SubP.cons (by repeat first | exact Rem.head | apply Rem.tail) ?_))))
      · refine (opv (Ev.ldv ty23 (.t rfl) SConf.l_routes) ?_)
        refine hdn (tk 7 rfl (Ev.lenQ Tryz.underlying23 (.t rfl) hq1) ?_)
        refine al1 3 rfl ((buildSlice (E := eRoute) Tryz.underlying23 ty52 z52 (.cons (.t rfl) .nil) rfl rfl (fun v25 => ?_)))
        refine hdn (al1 4 rfl ((append (E := eRoute) Tryz.underlying23 ty52 rfl zb52 zs52 (.t rfl) (.t rfl) (fun _ => by repeat first | exact Upd.head | apply Upd.tail | apply Upd.right) (by first | exact isSl_own (by repeat first | exact mH | apply mT | apply mA) | exact fun w I => IsSl.keep0 (by assumption) I.keeps) (⟨by (show _ ≤ 9223372036854775807); simp only [List.length_cons, List.length_nil]; omega, by simp only [List.length_cons, List.length_nil]; omega⟩) (fun v26 => ?_))))
        refine hdn (know (fun w I => (isSl_own (E := eRoute) (xs := (takeC l most).rs ++ [mkRo]) (T := 52) (by repeat first | exact mH | apply mT | apply mA) w I).shq) (fun hz1 => ?_))
        refine tk 8 rfl (Ev.to (v' := (OV.sub eRoute.size _ 0 (takeC l most).rs.length).v) (Ev.sliceHS Tryz.underlying23 ty52 (.t rfl) (.t rfl) hz1 (fun _ => by simp only [List.length_append, List.length_cons, List.length_nil]; omega)) (rfl)) ?_
        refine tk 9 rfl (Ev.fieldAddr (o := 1) (.t rfl) (by kernel_rfl)) ?_
        refine al1 10 rfl ((stv ty23 SConf.l_routes (.t rfl) (.t rfl) ?_))
        refine hdn (ovr (pN (meetP (X := OV) (_) trivial (by repeat first | exact Sub.nil | refine Sub.cons rfl ?_) (by repeat first | exact SubP.nil | refine SubP.cons (by repeat first | exact Rem.head | apply Rem.tail) ?_))))
    · refine (buildSlice (E := eRoute) Tryz.underlying23 ty52 z52 (.cons (.t rfl) .nil) rfl rfl (fun v27 => ?_))
      refine hdn (all [1, 6] (by kernel_rfl) (by decide) (.cons rfl ?_ (.cons rfl ?_ .nil)))
      · refine (opv (Ev.ldv ty23 (.t rfl) SConf.l_routes) ?_)
        refine hdn (all [4, 6] (by kernel_rfl) (by decide) (.cons rfl ?_ (.cons rfl ?_ .nil)))
        · refine (append (E := eRoute) Tryz.underlying23 ty52 rfl zb52 zs52 (.t rfl) (.t rfl) (fun _ => by repeat first | exact Upd.head | apply Upd.tail | apply Upd.right) (by first | exact isSl_own (by repeat first | exact mH | apply mT | apply mA) | exact fun w I => IsSl.keep0 (by assumption) I.keeps) (⟨by (show _ ≤ 9223372036854775807); simp only [List.length_cons, List.length_nil]; omega, by simp only [List.length_cons, List.length_nil]; omega⟩) (fun v28 => ?_))
          refine hdn (al1 6 rfl ((opv (Ev.ldv ty23 (.t rfl) SConf.l_routes) ?_)))
          refine hdn (tk 7 rfl (Ev.lenQ Tryz.underlying23 (.t rfl) hq1) ?_)
          refine know (fun w I => (isSl_own (E := eRoute) (xs := (takeC l most).rs ++ [mkRo]) (T := 52) (by repeat first | exact mH | apply mT | apply mA) w I).shq) (fun hz1 => ?_)
          refine tk 8 rfl (Ev.to (v' := (OV.sub eRoute.size _ 0 (takeC l most).rs.length).v) (Ev.sliceHS Tryz.underlying23 ty52 (.t rfl) (.t rfl) hz1 (fun _ => by simp only [List.length_append, List.length_cons, List.length_nil]; omega)) (rfl)) ?_
          refine tk 9 rfl (Ev.fieldAddr (o := 1) (.t rfl) (by kernel_rfl)) ?_
          refine al1 10 rfl ((stv ty23 SConf.l_routes (.t rfl) (.t rfl) ?_))
          refine hdn (ovr (pN (meetP (X := OV) (_) trivial (by repeat first | exact Sub.nil | refine Sub.cons rfl ?_) (by repeat first | exact SubP.nil | refine SubP.cons (by repeat first | exact Rem.head | apply Rem.tail) ?_))))
        · refine (opv (Ev.ldv ty23 (.t rfl) SConf.l_routes) ?_)
          refine hdn (tk 7 rfl (Ev.lenQ Tryz.underlying23 (.t rfl) hq1) ?_)
          refine al1 4 rfl ((append (E := eRoute) Tryz.underlying23 ty52 rfl zb52 zs52 (.t rfl) (.t rfl) (fun _ => by repeat first | exact Upd.head | apply Upd.tail | apply Upd.right) (by first | exact isSl_own (by repeat first | exact mH | apply mT | apply mA) | exact fun w I => IsSl.keep0 (by assumption) I.keeps) (⟨by (show _ ≤ 9223372036854775807); simp only [List.length_cons, List.length_nil]; omega, by simp only [List.length_cons, List.length_nil]; omega⟩) (fun v29 => ?_)))
          refine hdn (know (fun w I => (isSl_own (E := eRoute) (xs := (takeC l most).rs ++ [mkRo]) (T := 52) (by repeat first | exact mH | apply mT | apply mA) w I).shq) (fun hz1 => ?_))
          refine tk 8 rfl (Ev.to (v' := (OV.sub eRoute.size _ 0 (takeC l most).rs.length).v) (Ev.sliceHS Tryz.underlying23 ty52 (.t rfl) (.t rfl) hz1 (fun _ => by simp only [List.length_append, List.length_cons, List.length_nil]; omega)) (rfl)) ?_
          refine tk 9 rfl (Ev.fieldAddr (o := 1) (.t rfl) (by kernel_rfl)) ?_
          refine al1 10 rfl ((stv ty23 SConf.l_routes (.t rfl) (.t rfl) ?_))
          refine hdn (ovr (pN (meetP (X := OV) (_) trivial (by repeat first | exact Sub.nil | refine Sub.cons rfl ?_) (by repeat first | exact SubP.nil | refine SubP.cons (by repeat first | exact Rem.head | apply Rem.tail) ?_))))
      · refine (opv (Ev.ldv ty23 (.t rfl) SConf.l_routes) ?_)
        refine hdn (tk 7 rfl (Ev.lenQ Tryz.underlying23 (.t rfl) hq1) ?_)
        refine al1 1 rfl ((opv (Ev.ldv ty23 (.t rfl) SConf.l_routes) ?_))
        refine hdn (al1 4 rfl ((append (E := eRoute) Tryz.underlying23 ty52 rfl zb52 zs52 (.t rfl) (.t rfl) (fun _ => by repeat first | exact Upd.head | apply Upd.tail | apply Upd.right) (by first | exact isSl_own (by repeat first | exact mH | apply mT | apply mA) | exact fun w I => IsSl.keep0 (by assumption) I.keeps) (⟨by (show _ ≤ 9223372036854775807); simp only [List.length_cons, List.length_nil]; omega, by simp only [List.length_cons, List.length_nil]; omega⟩) (fun v30 => ?_))))
        refine hdn (know (fun w I => (isSl_own (E := eRoute) (xs := (takeC l most).rs ++ [mkRo]) (T := 52) (by repeat first | exact mH | apply mT | apply mA) w I).shq) (fun hz1 => ?_))
        refine tk 8 rfl (Ev.to (v' := (OV.sub eRoute.size _ 0 (takeC l most).rs.length).v) (Ev.sliceHS Tryz.underlying23 ty52 (.t rfl) (.t rfl) hz1 (fun _ => by simp only [List.length_append, List.length_cons, List.length_nil]; omega)) (rfl)) ?_
        refine tk 9 rfl (Ev.fieldAddr (o := 1) (.t rfl) (by kernel_rfl)) ?_
        refine al1 10 rfl ((stv ty23 SConf.l_routes (.t rfl) (.t rfl) ?_))
        refine hdn (ovr (pN (meetP (X := OV) (_) trivial (by repeat first | exact Sub.nil | refine Sub.cons rfl ?_) (by repeat first | exact SubP.nil | refine SubP.cons (by repeat first | exact Rem.head | apply Rem.tail) ?_))))
    · refine (opv (Ev.ldv ty23 (.t rfl) SConf.l_routes) ?_)
      refine hdn (tk 7 rfl (Ev.lenQ Tryz.underlying23 (.t rfl) hq1) ?_)
      refine all [1, 3] (by kernel_rfl) (by decide) (.cons rfl ?_ (.cons rfl ?_ .nil))
      · refine (opv (Ev.ldv ty23 (.t rfl) SConf.l_routes) ?_)
        refine hdn (al1 3 rfl ((buildSlice (E := eRoute) Tryz.underlying23 ty52 z52 (.cons (.t rfl) .nil) rfl rfl (fun v31 => ?_))))
        refine hdn (al1 4 rfl ((append (E := eRoute) Tryz.underlying23 ty52 rfl zb52 zs52 (.t rfl) (.t rfl) (fun _ => by repeat first | exact Upd.head | apply Upd.tail | apply Upd.right) (by first | exact isSl_own (by repeat first | exact mH | apply mT | apply mA) | exact fun w I => IsSl.keep0 (by assumption) I.keeps) (⟨by (show _ ≤ 9223372036854775807); simp only [List.length_cons, List.length_nil]; omega, by simp only [List.length_cons, List.length_nil]; omega⟩) (fun v32 => ?_))))
        refine hdn (know (fun w I => (isSl_own (E := eRoute) (xs := (takeC l most).rs ++ [mkRo]) (T := 52) (by repeat first | exact mH | apply mT | apply mA) w I).shq) (fun hz1 => ?_))
        refine tk 8 rfl (Ev.to (v' := (OV.sub eRoute.size _ 0 (takeC l most).rs.length).v) (Ev.sliceHS Tryz.underlying23 ty52 (.t rfl) (.t rfl) hz1 (fun _ => by simp only [List.length_append, List.length_cons, List.length_nil]; omega)) (rfl)) ?_
        refine tk 9 rfl (Ev.fieldAddr (o := 1) (.t rfl) (by kernel_rfl)) ?_
        refine al1 10 rfl ((stv ty23 SConf.l_routes (.t rfl) (.t rfl) ?_))
        refine hdn (ovr (pN (meetP (X := OV) (_) trivial (by repeat first | exact Sub.nil | refine Sub.cons rfl ?_) (by repeat first | exact SubP.nil | refine SubP.cons (by repeat first | exact Rem.head | apply Rem.tail) ?_))))
      · refine (buildSlice (E := eRoute) Tryz.underlying23 ty52 z52 (.cons (.t rfl) .nil) rfl rfl (fun v33 => ?_))
        refine hdn (al1 1 rfl ((opv (Ev.ldv ty23 (.t rfl) SConf.l_routes) ?_)))
        refine hdn (al1 4 rfl ((append (E := eRoute) Tryz.underlying23 ty52 rfl zb52 zs52 (.t rfl) (.t rfl) (fun _ => by repeat first | exact Upd.head | apply Upd.tail | apply Upd.right) (by first | exact isSl_own (by repeat first | exact mH | apply mT | apply mA) | exact fun w I => IsSl.keep0 (by assumption) I.keeps) (⟨by (show _ ≤ 9223372036854775807); simp only [List.length_cons, List.length_nil]; omega, by simp only [List.length_cons, List.length_nil]; omega⟩) (fun v34 => ?_))))
        refine hdn (know (fun w I => (isSl_own (E := eRoute) (xs := (takeC l most).rs ++ [mkRo]) (T := 52) (by repeat first | exact mH | apply mT | apply mA) w I).shq) (fun hz1 => ?_))
        refine tk 8 rfl (Ev.to (v' := (OV.sub eRoute.size _ 0 (takeC l most).rs.length).v) (Ev.sliceHS Tryz.underlying23 ty52 (.t rfl) (.t rfl) hz1 (fun _ => by simp only [List.length_append, List.length_cons, List.length_nil]; omega)) (rfl)) ?_
        refine tk 9 rfl (Ev.fieldAddr (o := 1) (.t rfl) (by kernel_rfl)) ?_
        refine al1 10 rfl ((stv ty23 SConf.l_routes (.t rfl) (.t rfl) ?_))
        refine hdn (ovr (pN (meetP (X := OV) (_) trivial (by repeat first | exact Sub.nil | refine Sub.cons rfl ?_) (by repeat first | exact SubP.nil | refine SubP.cons (by repeat first | exact Rem.head | apply Rem.tail) ?_))))
  obtain ⟨z2, rfl⟩ : ∃ y, y = x := ⟨x, rfl⟩
  show Sat _ _ [(2, true, .pointer (some ⟨b1, 0, none⟩)), (4, true, .pointer (some ⟨b2, 0, none⟩)), (5, true, .pointer (some ⟨b3, 0, none⟩)), (1, true, I (most : Nat))] [Var b3 eConf (⟨(OV.sub iE.size z1 0 (takeC l most).ps.length), (OV.sub eRoute.size z2 0 (takeC l most).rs.length), a3, a4, a5, c.default⟩ : SConf) 28, OwnS z1.v iE ((takeC l most).ps ++ [(777 : Int)]) 3, OwnS z2.v eRoute ((takeC l most).rs ++ [mkRo]) 52, OwnS a3.v eRule ((takeC l most).us) 76, OwnS a4.v eMeterConf ((takeC l most).ms) 57, OwnS a5.v eMirrorConf ((takeC l most).xs) 59, Var b2 eConf eConf.zero 28, Var b1 eConf c 28]
  refine cut (X := OV) (fun x : OV => True) (fun x : OV => [(2, true, .pointer (some ⟨b1, 0, none⟩)), (4, true, .pointer (some ⟨b2, 0, none⟩)), (5, true, .pointer (some ⟨b3, 0, none⟩)), (1, true, I (most : Nat))]) (fun x : OV => [Var b3 eConf (⟨(OV.sub iE.size z1 0 (takeC l most).ps.length), (OV.sub eRoute.size z2 0 (takeC l most).rs.length), (OV.sub eRule.size x 0 (takeC l most).us.length), a4, a5, c.default⟩ : SConf) 28, OwnS z1.v iE ((takeC l most).ps ++ [(777 : Int)]) 3, OwnS z2.v eRoute ((takeC l most).rs ++ [mkRo]) 52, OwnS x.v eRule ((takeC l most).us ++ [mkRu]) 76, OwnS a4.v eMeterConf ((takeC l most).ms) 57, OwnS a5.v eMirrorConf ((takeC l most).xs) 59, Var b2 eConf eConf.zero 28, Var b1 eConf c 28]) ?_ (fun x hx => ?_)
  · refine know (fun w I => (isSl_own (E := eRule) (v := a3.v) (xs := (takeC l most).us) (T := 76) (by repeat first | exact mH | apply mT | apply mA) w I).shq) (fun hq2 => ?_)
    refine draw [Var b2 eConf eConf.zero 28, Var b1 eConf c 28] (by kernel_rfl) ?_
    refine tk 0 rfl (Ev.fieldAddr (o := 2) (.t rfl) (by kernel_rfl)) ?_
    refine tk 2 rfl (Ev.buildS (fs := _) (places := [(0, 1), (1, 44), (45, 1), (46, 1), (47, 1), (48, 1)]) z76 rfl Tryz.underlying76 (by kernel_rfl) (.cons (.c (v := I 777) rfl) .nil) (Fills.cons SRule.l_out rfl Fills.nil)) ?_
    refine tk 5 rfl (Ev.fieldAddr (o := 2) (.t rfl) (by kernel_rfl)) ?_
    refine all [1, 3, 6] (by kernel_rfl) (by decide) (.cons rfl ?_ (.cons rfl ?_ (.cons rfl ?_ .nil)))
    · refine (opv (Ev.ldv ty24 (.t rfl) SConf.l_rules) ?_)
      refine hdn (all [3, 6] (by kernel_rfl) (by decide) (.cons rfl ?_ (.cons rfl ?_ .nil)))
      · refine (buildSlice (E := eRule) Tryz.underlying24 ty76 z76 (.cons (.t rfl) .nil) rfl rfl (fun v35 => ?_))
        refine hdn (all [4, 6] (by kernel_rfl) (by decide) (.cons rfl ?_ (.cons rfl ?_ .nil)))
        · refine (append (E := eRule) Tryz.underlying24 ty76 rfl zb76 zs76 (.t rfl) (.t rfl) (fun _ => by repeat first | exact Upd.head | apply Upd.tail | apply Upd.right) (by first | exact isSl_own (by repeat first | exact mH | apply mT | apply mA) | exact fun w I => IsSl.keep0 (by assumption) I.keeps) (⟨by (show _ ≤ 9223372036854775807); simp only [List.length_cons, List.length_nil]; omega, by simp only [List.length_cons, List.length_nil]; omega⟩) (fun v36 => ?_))
          refine hdn (al1 6 rfl ((opv (Ev.ldv ty24 (.t rfl) SConf.l_rules) ?_)))
          refine hdn (tk 7 rfl (Ev.lenQ Tryz.underlying24 (.t rfl) hq2) ?_)
          refine know (fun w I => (isSl_own (E := eRule) (xs := (takeC l most).us ++ [mkRu]) (T := 76) (by repeat first | exact mH | apply mT | apply mA) w I).shq) (fun hz2 => ?_)
          refine tk 8 rfl (Ev.to (v' := (OV.sub eRule.size _ 0 (takeC l most).us.length).v) (Ev.sliceHS Tryz.underlying24 ty76 (.t rfl) (.t rfl) hz2 (fun _ => by simp only [List.length_append, List.length_cons, List.length_nil]; omega)) (rfl)) ?_
          refine tk 9 rfl (Ev.fieldAddr (o := 2) (.t rfl) (by kernel_rfl)) ?_
          refine al1 10 rfl ((stv ty24 SConf.l_rules (.t rfl) (.t rfl) ?_))
          refine hdn (ovr (pN (meetP (X := OV) (_) trivial (by repeat first | exact Sub.nil | refine Sub.cons rfl ?_) (by repeat first | exact SubP.nil | refine SubP.cons (by repeat first | exact Rem.head | apply Rem.tail) ?_))))
        · refine (opv (Ev.ldv ty24 (.t rfl) SConf.l_rules) ?_)
          refine hdn (tk 7 rfl (Ev.lenQ Tryz.underlying24 (.t rfl) hq2) ?_)
          refine al1 4 rfl ((append (E := eRule) Tryz.underlying24 ty76 rfl zb76 zs76 (.t rfl) (.t rfl) (fun _ => by repeat first | exact Upd.head | apply Upd.tail | apply Upd.right) (by first | exact isSl_own (by repeat first | exact mH | apply mT | apply mA) | exact fun w I => IsSl.keep0 (by assumption) I.keeps) (⟨by (show _ ≤ 9223372036854775807); simp only [List.length_cons, List.length_nil]; omega, by simp only [List.length_cons, List.length_nil]; omega⟩) (fun v37 => ?_)))
          refine hdn (know (fun w I => (isSl_own (E := eRule) (xs := (takeC l most).us ++ [mkRu]) (T := 76) (by repeat first | exact mH | apply mT | apply mA) w I).shq) (fun hz2 => ?_))
          refine tk 8 rfl (Ev.to (v' := (OV.sub eRule.size _ 0 (takeC l most).us.length).v) (Ev.sliceHS Tryz.underlying24 ty76 (.t rfl) (.t rfl) hz2 (fun _ => by simp only [List.length_append, List.length_cons, List.length_nil]; omega)) (rfl)) ?_
          refine tk 9 rfl (Ev.fieldAddr (o := 2) (.t rfl) (by kernel_rfl)) ?_
          refine al1 10 rfl ((stv ty24 SConf.l_rules (.t rfl) (.t rfl) ?_))
          refine hdn (ovr (pN (meetP (X := OV) (_) trivial (by repeat first | exact Sub.nil | refine Sub.cons rfl ?_) (by repeat first | exact SubP.nil | refine SubP.cons (by repeat first | exact Rem.head | apply Rem.tail) ?_))))
      · refine (opv (Ev.ldv ty24 (.t rfl) SConf.l_rules) ?_)
        refine hdn (tk 7 rfl (Ev.lenQ Tryz.underlying24 (.t rfl) hq2) ?_)
        refine al1 3 rfl ((buildSlice (E := eRule) Tryz.underlying24 ty76 z76 (.cons (.t rfl) .nil) rfl rfl (fun v38 => ?_)))
        refine hdn (al1 4 rfl ((append (E := eRule) Tryz.underlying24 ty76 rfl zb76 zs76 (.t rfl) (.t rfl) (fun _ => by repeat first | exact Upd.head | apply Upd.tail | apply Upd.right) (by first | exact isSl_own (by repeat first | exact mH | apply mT | apply mA) | exact fun w I => IsSl.keep0 (by assumption) I.keeps) (⟨by (show _ ≤ 9223372036854775807); simp only [List.length_cons, List.length_nil]; omega, by simp only [List.length_cons, List.length_nil]; omega⟩) (fun v39 => ?_))))
        refine hdn (know (fun w I => (isSl_own (E := eRule) (xs := (takeC l most).us ++ [mkRu]) (T := 76) (by repeat first | exact mH | apply mT | apply mA) w I).shq) (fun hz2 => ?_))
        refine tk 8 rfl (Ev.to (v' := (OV.sub eRule.size _ 0 (takeC l most).us.length).v) (Ev.sliceHS Tryz.underlying24 ty76 (.t rfl) (.t rfl) hz2 (fun _ => by simp only [List.length_append, List.length_cons, List.length_nil]; omega)) (rfl)) ?_
        refine tk 9 rfl (Ev.fieldAddr (o := 2) (.t rfl) (by kernel_rfl)) ?_
        refine al1 10 rfl ((stv ty24 SConf.l_rules (.t rfl) (.t rfl) ?_))
        refine hdn (ovr (pN (meetP (X := OV) (_) trivial (by repeat first | exact Sub.nil | refine Sub.cons rfl ?_) (by repeat first | exact SubP.nil | refine SubP.cons (by repeat first | exact Rem.head | apply Rem.tail) ?_))))
    · refine (buildSlice (E := eRule) Tryz.underlying24 ty76 z76 (.cons (.t rfl) .nil) rfl rfl (fun v40 => ?_))
      refine hdn (all [1, 6] (by kernel_rfl) (by decide) (.cons rfl ?_ (.cons rfl ?_ .nil)))
      · refine (opv (Ev.ldv ty24 (.t rfl) SConf.l_rules) ?_)
        refine hdn (all [4, 6] (by kernel_rfl) (by decide) (.cons rfl ?_ (.cons rfl ?_ .nil)))
        · refine (append (E := eRule) Tryz.underlying24 ty76 rfl zb76 zs76 (.t rfl) (.t rfl) (fun _ => by repeat first | exact Upd.head | apply Upd.tail | apply Upd.right) (by first | exact isSl_own (by repeat first | exact mH | apply mT | apply mA) | exact fun w I => IsSl.keep0 (by assumption) I.keeps) (⟨by (show _ ≤ 9223372036854775807); simp only [List.length_cons, List.length_nil]; omega, by simp only [List.length_cons, List.length_nil]; omega⟩) (fun v41 => ?_))
          refine hdn (al1 6 rfl ((opv (Ev.ldv ty24 (.t rfl) SConf.l_rules) ?_)))
          refine hdn (tk 7 rfl (Ev.lenQ Tryz.underlying24 (.t rfl) hq2) ?_)
          refine know (fun w I => (isSl_own (E := eRule) (xs := (takeC l most).us ++ [mkRu]) (T := 76) (by repeat first | exact mH | apply mT | apply mA) w I).shq) (fun hz2 => ?_)
          refine tk 8 rfl (Ev.to (v' := (OV.sub eRule.size _ 0 (takeC l most).us.length).v) (Ev.sliceHS Tryz.underlying24 ty76 (.t rfl) (.t rfl) hz2 (fun _ => by simp only [List.length_append, List.length_cons, List.length_nil]; omega)) (rfl)) ?_
          refine tk 9 rfl (Ev.fieldAddr (o := 2) (.t rfl) (by kernel_rfl)) ?_
          refine al1 10 rfl ((stv ty24 SConf.l_rules (.t rfl) (.t rfl) ?_))
          refine hdn (ovr (pN (meetP (X := OV) (_) trivial (by repeat first | exact Sub.nil | refine Sub.cons rfl ?_) (by repeat first | exact SubP.nil | refine SubP.cons (by repeat first | exact Rem.head | apply Rem.tail) ?_))))
        · refine (opv (Ev.ldv ty24 (.t rfl) SConf.l_rules) ?_)
          refine hdn (tk 7 rfl (Ev.lenQ Tryz.underlying24 (.t rfl) hq2) ?_)
          refine al1 4 rfl ((append (E := eRule) Tryz.underlying24 ty76 rfl zb76 zs76 (.t rfl) (.t rfl) (fun _ => by repeat first | exact Upd.head | apply Upd.tail | apply Upd.right) (by first | exact isSl_own (by repeat first | exact mH | apply mT | apply mA) | exact fun w I => IsSl.keep0 (by assumption) I.keeps) (⟨by (show _ ≤ 9223372036854775807); simp only [List.length_cons, List.length_nil]; omega, by simp only [List.length_cons, List.length_nil]; omega⟩) (fun v42 => ?_)))
          refine hdn (know (fun w I => (isSl_own (E := eRule) (xs := (takeC l most).us ++ [mkRu]) (T := 76) (by repeat first | exact mH | apply mT | apply mA) w I).shq) (fun hz2 => ?_))
          refine tk 8 rfl (Ev.to (v' := (OV.sub eRule.size _ 0 (takeC l most).us.length).v) (Ev.sliceHS Tryz.underlying24 ty76 (.t rfl) (.t rfl) hz2 (fun _ => by simp only [List.length_append, List.length_cons, List.length_nil]; omega)) (rfl)) ?_
          refine tk 9 rfl (Ev.fieldAddr (o := 2) (.t rfl) (by kernel_rfl)) ?_
          refine al1 10 rfl ((stv ty24 SConf.l_rules (.t rfl) (.t rfl) ?_))
          refine hdn (ovr (pN (meetP (X := OV) (_) trivial (by repeat first | exact Sub.nil | refine Sub.cons rfl ?_) (by repeat first | exact SubP.nil | refine SubP.cons (by repeat first | exact Rem.head | apply Rem.tail) ?_))))
      · refine (opv (Ev.ldv ty24 (.t rfl) SConf.l_rules) ?_)
        refine hdn (tk 7 rfl (Ev.lenQ Tryz.underlying24 (.t rfl) hq2) ?_)
        refine al1 1 rfl ((opv (Ev.ldv ty24 (.t rfl) SConf.l_rules) ?_))
        refine hdn (al1 4 rfl ((append (E := eRule) Tryz.underlying24 ty76 rfl zb76 zs76 (.t rfl) (.t rfl) (fun _ => by repeat first | exact Upd.head | apply Upd.tail | apply Upd.right) (by first | exact isSl_own (by repeat first | exact mH | apply mT | apply mA) | exact fun w I => IsSl.keep0 (by assumption) I.keeps) (⟨by (show _ ≤ 9223372036854775807); simp only [List.length_cons, List.length_nil]; omega, by simp only [List.length_cons, List.length_nil]; omega⟩) (fun v43 => ?_))))
        refine hdn (know (fun w I => (isSl_own (E := eRule) (xs := (takeC l most).us ++ [mkRu]) (T := 76) (by repeat first | exact mH | apply mT | apply mA) w I).shq) (fun hz2 => ?_))
        refine tk 8 rfl (Ev.to (v' := (OV.sub eRule.size _ 0 (takeC l most).us.length).v) (Ev.sliceHS Tryz.underlying24 ty76 (.t rfl) (.t rfl) hz2 (fun _ => by simp only [List.length_append, List.length_cons, List.length_nil]; omega)) (rfl)) ?_
        refine tk 9 rfl (Ev.fieldAddr (o := 2) (.t rfl) (by kernel_rfl)) ?_
        refine al1 10 rfl ((stv ty24 SConf.l_rules (.t rfl) (.t rfl) ?_))
        refine hdn (ovr (pN (meetP (X := OV) (_) trivial (by repeat first | exact Sub.nil | refine Sub.cons rfl ?_) (by repeat first | exact SubP.nil | refine SubP.cons (by repeat first | exact Rem.head | apply Rem.tail) ?_))))
    · refine (opv (Ev.ldv ty24 (.t rfl) SConf.l_rules) ?_)
      refine hdn (tk 7 rfl (Ev.lenQ Tryz.underlying24 (.t rfl) hq2) ?_)
      refine all [1, 3] (by kernel_rfl) (by decide) (.cons rfl ?_ (.cons rfl ?_ .nil))
      · refine (opv (Ev.ldv ty24 (.t rfl) SConf.l_rules) ?_)
        refine hdn (al1 3 rfl ((buildSlice (E := eRule) Tryz.underlying24 ty76 z76 (.cons (.t rfl) .nil) rfl rfl (fun v44 => ?_))))
        refine hdn (al1 4 rfl ((append (E := eRule) Tryz.underlying24 ty76 rfl zb76 zs76 (.t rfl) (.t rfl) (fun _ => by repeat first | exact Upd.head | apply Upd.tail | apply Upd.right) (by first | exact isSl_own (by repeat first | exact mH | apply mT | apply mA) | exact fun w I => IsSl.keep0 (by assumption) I.keeps) (⟨by (show _ ≤ 9223372036854775807); simp only [List.length_cons, List.length_nil]; omega, by simp only [List.length_cons, List.length_nil]; omega⟩) (fun v45 => ?_))))
        refine hdn (know (fun w I => (isSl_own (E := eRule) (xs := (takeC l most).us ++ [mkRu]) (T := 76) (by repeat first | exact mH | apply mT | apply mA) w I).shq) (fun hz2 => ?_))
        refine tk 8 rfl (Ev.to (v' := (OV.sub eRule.size _ 0 (takeC l most).us.length).v) (Ev.sliceHS Tryz.underlying24 ty76 (.t rfl) (.t rfl) hz2 (fun _ => by simp only [List.length_append, List.length_cons, List.length_nil]; omega)) (rfl)) ?_
        refine tk 9 rfl (Ev.fieldAddr (o := 2) (.t rfl) (by kernel_rfl)) ?_
        refine al1 10 rfl ((stv ty24 SConf.l_rules (.t rfl) (.t rfl) ?_))
        refine hdn (ovr (pN (meetP (X := OV) (_) trivial (by repeat first | exact Sub.nil | refine Sub.cons rfl ?_) (by repeat first | exact SubP.nil | refine SubP.cons (by repeat first | exact Rem.head | apply Rem.tail) ?_))))
      · refine (buildSlice (E := eRule) Tryz.underlying24 ty76 z76 (.cons (.t rfl) .nil) rfl rfl (fun v46 => ?_))
        refine hdn (al1 1 rfl ((opv (Ev.ldv ty24 (.t rfl) SConf.l_rules) ?_)))
        refine hdn (al1 4 rfl ((append (E := eRule) Tryz.underlying24 ty76 rfl zb76 zs76 (.t rfl) (.t rfl) (fun _ => by repeat first | exact Upd.head | apply Upd.tail | apply Upd.right) (by first | exact isSl_own (by repeat first | exact mH | apply mT | apply mA) | exact fun w I => IsSl.keep0 (by assumption) I.keeps) (⟨by (show _ ≤ 9223372036854775807); simp only [List.length_cons, List.length_nil]; omega, by simp only [List.length_cons, List.length_nil]; omega⟩) (fun v47 => ?_))))
        refine hdn (know (fun w I => (isSl_own (E := eRule) (xs := (takeC l most).us ++ [mkRu]) (T := 76) (by repeat first | exact mH | apply mT | apply mA) w I).shq) (fun hz2 => ?_))
        refine tk 8 rfl (Ev.to (v' := (OV.sub eRule.size _ 0 (takeC l most).us.length).v) (Ev.sliceHS Tryz.underlying24 ty76 (.t rfl) (.t rfl) hz2 (fun _ => by simp only [List.length_append, List.length_cons, List.length_nil]; omega)) (rfl)) ?_
        refine tk 9 rfl (Ev.fieldAddr (o := 2) (.t rfl) (by kernel_rfl)) ?_
        refine al1 10 rfl ((stv ty24 SConf.l_rules (.t rfl) (.t rfl) ?_))
        refine hdn (ovr (pN (meetP (X := OV) (_) trivial (by repeat first | exact Sub.nil | refine Sub.cons rfl ?_) (by repeat first | exact SubP.nil | refine SubP.cons (by repeat first | exact Rem.head | apply Rem.tail) ?_))))
  obtain ⟨z3, rfl⟩ : ∃ y, y = x := ⟨x, rfl⟩
  show Sat _ _ [(2, true, .pointer (some ⟨b1, 0, none⟩)), (4, true, .pointer (some ⟨b2, 0, none⟩)), (5, true, .pointer (some ⟨b3, 0, none⟩)), (1, true, I (most : Nat))] [Var b3 eConf (⟨(OV.sub iE.size z1 0 (takeC l most).ps.length), (OV.sub eRoute.size z2 0 (takeC l most).rs.length), (OV.sub eRule.size z3 0 (takeC l most).us.length), a4, a5, c.default⟩ : SConf) 28, OwnS z1.v iE ((takeC l most).ps ++ [(777 : Int)]) 3, OwnS z2.v eRoute ((takeC l most).rs ++ [mkRo]) 52, OwnS z3.v eRule ((takeC l most).us ++ [mkRu]) 76, OwnS a4.v eMeterConf ((takeC l most).ms) 57, OwnS a5.v eMirrorConf ((takeC l most).xs) 59, Var b2 eConf eConf.zero 28, Var b1 eConf c 28]
  refine cut (X := OV) (fun x : OV => True) (fun x : OV => [(2, true, .pointer (some ⟨b1, 0, none⟩)), (4, true, .pointer (some ⟨b2, 0, none⟩)), (5, true, .pointer (some ⟨b3, 0, none⟩)), (1, true, I (most : Nat))]) (fun x : OV => [Var b3 eConf (⟨(OV.sub iE.size z1 0 (takeC l most).ps.length), (OV.sub eRoute.size z2 0 (takeC l most).rs.length), (OV.sub eRule.size z3 0 (takeC l most).us.length), (OV.sub eMeterConf.size x 0 (takeC l most).ms.length), a5, c.default⟩ : SConf) 28, OwnS z1.v iE ((takeC l most).ps ++ [(777 : Int)]) 3, OwnS z2.v eRoute ((takeC l most).rs ++ [mkRo]) 52, OwnS z3.v eRule ((takeC l most).us ++ [mkRu]) 76, OwnS x.v eMeterConf ((takeC l most).ms ++ [mkMe]) 57, OwnS a5.v eMirrorConf ((takeC l most).xs) 59, Var b2 eConf eConf.zero 28, Var b1 eConf c 28]) ?_ (fun x hx => ?_)
  · refine know (fun w I => (isSl_own (E := eMeterConf) (v := a4.v) (xs := (takeC l most).ms) (T := 57) (by repeat first | exact mH | apply mT | apply mA) w I).shq) (fun hq3 => ?_)
    refine draw [Var b2 eConf eConf.zero 28, Var b1 eConf c 28] (by kernel_rfl) ?_
    refine tk 0 rfl (Ev.fieldAddr (o := 3) (.t rfl) (by kernel_rfl)) ?_
    refine tk 2 rfl (Ev.buildS (fs := _) (places := [(0, 1), (1, 3)]) z57 rfl Tryz.underlying57 (by kernel_rfl) (.cons (.c (v := (Go.Value.string (ByteArray.mk #[55, 55, 55]))) rfl) .nil) (Fills.cons SMeterConf.l_name rfl Fills.nil)) ?_
    refine tk 5 rfl (Ev.fieldAddr (o := 3) (.t rfl) (by kernel_rfl)) ?_
    refine all [1, 3, 6] (by kernel_rfl) (by decide) (.cons rfl ?_ (.cons rfl ?_ (.cons rfl ?_ .nil)))
    · refine (opv (Ev.ldv ty25 (.t rfl) SConf.l_meters) ?_)
      refine hdn (all [3, 6] (by kernel_rfl) (by decide) (.cons rfl ?_ (.cons rfl ?_ .nil)))
      · refine (buildSlice (E := eMeterConf) Tryz.underlying25 ty57 z57 (.cons (.t rfl) .nil) rfl rfl (fun v48 => ?_))
        refine hdn (all [4, 6] (by kernel_rfl) (by decide) (.cons rfl ?_ (.cons rfl ?_ .nil)))
        · refine (append (E := eMeterConf) Tryz.underlying25 ty57 rfl zb57 zs57 (.t rfl) (.t rfl) (fun _ => by repeat first | exact Upd.head | apply Upd.tail | apply Upd.right) (by first | exact isSl_own (by repeat first | exact mH | apply mT | apply mA) | exact fun w I => IsSl.keep0 (by assumption) I.keeps) (⟨by (show _ ≤ 9223372036854775807); simp only [List.length_cons, List.length_nil]; omega, by simp only [List.length_cons, List.length_nil]; omega⟩) (fun v49 => ?_))
          refine hdn (al1 6 rfl ((opv (Ev.ldv ty25 (.t rfl) SConf.l_meters) ?_)))
          refine hdn (tk 7 rfl (Ev.lenQ Tryz.underlying25 (.t rfl) hq3) ?_)
          refine know (fun w I => (isSl_own (E := eMeterConf) (xs := (takeC l most).ms ++ [mkMe]) (T := 57) (by repeat first | exact mH | apply mT | apply mA) w I).shq) (fun hz3 => ?_)
          refine tk 8 rfl (Ev.to (v' := (OV.sub eMeterConf.size _ 0 (takeC l most).ms.length).v) (Ev.sliceHS Tryz.underlying25 ty57 (.t rfl) (.t rfl) hz3 (fun _ => by simp only [List.length_append, List.length_cons, List.length_nil]; omega)) (rfl)) ?_
          refine tk 9 rfl (Ev.fieldAddr (o := 3) (.t rfl) (by kernel_rfl)) ?_
          refine al1 10 rfl ((stv ty25 SConf.l_meters (.t rfl) (.t rfl) ?_))
          refine hdn (ovr (pN (meetP (X := OV) (_) trivial (by repeat first | exact Sub.nil | refine Sub.cons rfl ?_) (by repeat first | exact SubP.nil | refine SubP.cons (by repeat first | exact Rem.head | apply Rem.tail) ?_))))
        · refine (opv (Ev.ldv ty25 (.t rfl) SConf.l_meters) ?_)
          refine hdn (tk 7 rfl (Ev.lenQ Tryz.underlying25 (.t rfl) hq3) ?_)
          refine al1 4 rfl ((append (E := eMeterConf) Tryz.underlying25 ty57 rfl zb57 zs57 (.t rfl) (.t rfl) (fun _ => by repeat first | exact Upd.head | apply Upd.tail | apply Upd.right) (by first | exact isSl_own (by repeat first | exact mH | apply mT | apply mA) | exact fun w I => IsSl.keep0 (by assumption) I.keeps) (⟨by (show _ ≤ 9223372036854775807); simp only [List.length_cons, List.length_nil]; omega, by simp only [List.length_cons, List.length_nil]; omega⟩) (fun v50 => ?_)))
          refine hdn (know (fun w I => (isSl_own (E := eMeterConf) (xs := (takeC l most).ms ++ [mkMe]) (T := 57) (by repeat first | exact mH | apply mT | apply mA) w I).shq) (fun hz3 => ?_))
          refine tk 8 rfl (Ev.to (v' := (OV.sub eMeterConf.size _ 0 (takeC l most).ms.length).v) (Ev.sliceHS Tryz.underlying25 ty57 (.t rfl) (.t rfl) hz3 (fun _ => by simp only [List.length_append, List.length_cons, List.length_nil]; omega)) (rfl)) ?_
          refine tk 9 rfl (Ev.fieldAddr (o := 3) (.t rfl) (by kernel_rfl)) ?_
          refine al1 10 rfl ((stv ty25 SConf.l_meters (.t rfl) (.t rfl) ?_))
          refine hdn (ovr (pN (meetP (X := OV) (_) trivial (by repeat first | exact Sub.nil | refine Sub.cons rfl ?_) (by repeat first | exact SubP.nil | refine SubP.cons (by repeat first | exact Rem.head | apply Rem.tail) ?_))))
      · refine (opv (Ev.ldv ty25 (.t rfl) SConf.l_meters) ?_)
        refine hdn (tk 7 rfl (Ev.lenQ Tryz.underlying25 (.t rfl) hq3) ?_)
        refine al1 3 rfl ((buildSlice (E := eMeterConf) Tryz.underlying25 ty57 z57 (.cons (.t rfl) .nil) rfl rfl (fun v51 => ?_)))
        refine hdn (al1 4 rfl ((append (E := eMeterConf) Tryz.underlying25 ty57 rfl zb57 zs57 (.t rfl) (.t rfl) (fun _ => by repeat first | exact Upd.head | apply Upd.tail | apply Upd.right) (by first | exact isSl_own (by repeat first | exact mH | apply mT | apply mA) | exact fun w I => IsSl.keep0 (by assumption) I.keeps) (⟨by (show _ ≤ 9223372036854775807); simp only [List.length_cons, List.length_nil]; omega, by simp only [List.length_cons, List.length_nil]; omega⟩) (fun v52 => ?_))))
        refine hdn (know (fun w I => (isSl_own (E := eMeterConf) (xs := (takeC l most).ms ++ [mkMe]) (T := 57) (by repeat first | exact mH | apply mT | apply mA) w I).shq) (fun hz3 => ?_))
        refine tk 8 rfl (Ev.to (v' := (OV.sub eMeterConf.size _ 0 (takeC l most).ms.length).v) (Ev.sliceHS Tryz.underlying25 ty57 (.t rfl) (.t rfl) hz3 (fun _ => by simp only [List.length_append, List.length_cons, List.length_nil]; omega)) (rfl)) ?_
        refine tk 9 rfl (Ev.fieldAddr (o := 3) (.t rfl) (by kernel_rfl)) ?_
        refine al1 10 rfl ((stv ty25 SConf.l_meters (.t rfl) (.t rfl) ?_))
        refine hdn (ovr (pN (meetP (X := OV) (_) trivial (by repeat first | exact Sub.nil | refine Sub.cons rfl ?_) (by repeat first | exact SubP.nil | refine SubP.cons (by repeat first | exact Rem.head | apply Rem.tail) ?_))))
    · refine (buildSlice (E := eMeterConf) Tryz.underlying25 ty57 z57 (.cons (.t rfl) .nil) rfl rfl (fun v53 => ?_))
      refine hdn (all [1, 6] (by kernel_rfl) (by decide) (.cons rfl ?_ (.cons rfl ?_ .nil)))
      · refine (opv (Ev.ldv ty25 (.t rfl) SConf.l_meters) ?_)
        refine hdn (all [4, 6] (by kernel_rfl) (by decide) (.cons rfl ?_ (.cons rfl ?_ .nil)))
        · refine (append (E := eMeterConf) Tryz.underlying25 ty57 rfl zb57 zs57 (.t rfl) (.t rfl) (fun _ => by repeat first | exact Upd.head | apply Upd.tail | apply Upd.right) (by first | exact isSl_own (by repeat first | exact mH | apply mT | apply mA) | exact fun w I => IsSl.keep0 (by assumption) I.keeps) (⟨by (show _ ≤ 9223372036854775807); simp only [List.length_cons, List.length_nil]; omega, by simp only [List.length_cons, List.length_nil]; omega⟩) (fun v54 => ?_))
          refine hdn (al1 6 rfl ((opv (Ev.ldv ty25 (.t rfl) SConf.l_meters) ?_)))
          refine hdn (tk 7 rfl (Ev.lenQ Tryz.underlying25 (.t rfl) hq3) ?_)
          refine know (fun w I => (isSl_own (E := eMeterConf) (xs := (takeC l most).ms ++ [mkMe]) (T := 57) (by repeat first | exact mH | apply mT | apply mA) w I).shq) (fun hz3 => ?_)
          refine tk 8 rfl (Ev.to (v' := (OV.sub eMeterConf.size _ 0 (takeC l most).ms.length).v) (Ev.sliceHS Tryz.underlying25 ty57 (.t rfl) (.t rfl) hz3 (fun _ => by simp only [List.length_append, List.length_cons, List.length_nil]; omega)) (rfl)) ?_
          refine tk 9 rfl (Ev.fieldAddr (o := 3) (.t rfl) (by kernel_rfl)) ?_
          refine al1 10 rfl ((stv ty25 SConf.l_meters (.t rfl) (.t rfl) ?_))
          refine hdn (ovr (pN (meetP (X := OV) (_) trivial (by repeat first | exact Sub.nil | refine Sub.cons rfl ?_) (by repeat first | exact SubP.nil | refine SubP.cons (by repeat first | exact Rem.head | apply Rem.tail) ?_))))
        · refine (opv (Ev.ldv ty25 (.t rfl) SConf.l_meters) ?_)
          refine hdn (tk 7 rfl (Ev.lenQ Tryz.underlying25 (.t rfl) hq3) ?_)
          refine al1 4 rfl ((append (E := eMeterConf) Tryz.underlying25 ty57 rfl zb57 zs57 (.t rfl) (.t rfl) (fun _ => by repeat first | exact Upd.head | apply Upd.tail | apply Upd.right) (by first | exact isSl_own (by repeat first | exact mH | apply mT | apply mA) | exact fun w I => IsSl.keep0 (by assumption) I.keeps) (⟨by (show _ ≤ 9223372036854775807); simp only [List.length_cons, List.length_nil]; omega, by simp only [List.length_cons, List.length_nil]; omega⟩) (fun v55 => ?_)))
          refine hdn (know (fun w I => (isSl_own (E := eMeterConf) (xs := (takeC l most).ms ++ [mkMe]) (T := 57) (by repeat first | exact mH | apply mT | apply mA) w I).shq) (fun hz3 => ?_))
          refine tk 8 rfl (Ev.to (v' := (OV.sub eMeterConf.size _ 0 (takeC l most).ms.length).v) (Ev.sliceHS Tryz.underlying25 ty57 (.t rfl) (.t rfl) hz3 (fun _ => by simp only [List.length_append, List.length_cons, List.length_nil]; omega)) (rfl)) ?_
          refine tk 9 rfl (Ev.fieldAddr (o := 3) (.t rfl) (by kernel_rfl)) ?_
          refine al1 10 rfl ((stv ty25 SConf.l_meters (.t rfl) (.t rfl) ?_))
          refine hdn (ovr (pN (meetP (X := OV) (_) trivial (by repeat first | exact Sub.nil | refine Sub.cons rfl ?_) (by repeat first | exact SubP.nil | refine SubP.cons (by repeat first | exact Rem.head | apply Rem.tail) ?_))))
      · refine (opv (Ev.ldv ty25 (.t rfl) SConf.l_meters) ?_)
        refine hdn (tk 7 rfl (Ev.lenQ Tryz.underlying25 (.t rfl) hq3) ?_)
        refine al1 1 rfl ((opv (Ev.ldv ty25 (.t rfl) SConf.l_meters) ?_))
        refine hdn (al1 4 rfl ((append (E := eMeterConf) Tryz.underlying25 ty57 rfl zb57 zs57 (.t rfl) (.t rfl) (fun _ => by repeat first | exact Upd.head | apply Upd.tail | apply Upd.right) (by first | exact isSl_own (by repeat first | exact mH | apply mT | apply mA) | exact fun w I => IsSl.keep0 (by assumption) I.keeps) (⟨by (show _ ≤ 9223372036854775807); simp only [List.length_cons, List.length_nil]; omega, by simp only [List.length_cons, List.length_nil]; omega⟩) (fun v56 => ?_))))
        refine hdn (know (fun w I => (isSl_own (E := eMeterConf) (xs := (takeC l most).ms ++ [mkMe]) (T := 57) (by repeat first | exact mH | apply mT | apply mA) w I).shq) (fun hz3 => ?_))
        refine tk 8 rfl (Ev.to (v' := (OV.sub eMeterConf.size _ 0 (takeC l most).ms.length).v) (Ev.sliceHS Tryz.underlying25 ty57 (.t rfl) (.t rfl) hz3 (fun _ => by simp only [List.length_append, List.length_cons, List.length_nil]; omega)) (rfl)) ?_
        refine tk 9 rfl (Ev.fieldAddr (o := 3) (.t rfl) (by kernel_rfl)) ?_
        refine al1 10 rfl ((stv ty25 SConf.l_meters (.t rfl) (.t rfl) ?_))
        refine hdn (ovr (pN (meetP (X := OV) (_) trivial (by repeat first | exact Sub.nil | refine Sub.cons rfl ?_) (by repeat first | exact SubP.nil | refine SubP.cons (by repeat first | exact Rem.head | apply Rem.tail) ?_))))
    · refine (opv (Ev.ldv ty25 (.t rfl) SConf.l_meters) ?_)
      refine hdn (tk 7 rfl (Ev.lenQ Tryz.underlying25 (.t rfl) hq3) ?_)
      refine all [1, 3] (by kernel_rfl) (by decide) (.cons rfl ?_ (.cons rfl ?_ .nil))
      · refine (opv (Ev.ldv ty25 (.t rfl) SConf.l_meters) ?_)
        refine hdn (al1 3 rfl ((buildSlice (E := eMeterConf) Tryz.underlying25 ty57 z57 (.cons (.t rfl) .nil) rfl rfl (fun v57 => ?_))))
        refine hdn (al1 4 rfl ((append (E := eMeterConf) Tryz.underlying25 ty57 rfl zb57 zs57 (.t rfl) (.t rfl) (fun _ => by repeat first | exact Upd.head | apply Upd.tail | apply Upd.right) (by first | exact isSl_own (by repeat first | exact mH | apply mT | apply mA) | exact fun w I => IsSl.keep0 (by assumption) I.keeps) (⟨by (show _ ≤ 9223372036854775807); simp only [List.length_cons, List.length_nil]; omega, by simp only [List.length_cons, List.length_nil]; omega⟩) (fun v58 => ?_))))
        refine hdn (know (fun w I => (isSl_own (E := eMeterConf) (xs := (takeC l most).ms ++ [mkMe]) (T := 57) (by repeat first | exact mH | apply mT | apply mA) w I).shq) (fun hz3 => ?_))
        refine tk 8 rfl (Ev.to (v' := (OV.sub eMeterConf.size _ 0 (takeC l most).ms.length).v) (Ev.sliceHS Tryz.underlying25 ty57 (.t rfl) (.t rfl) hz3 (fun _ => by simp only [List.length_append, List.length_cons, List.length_nil]; omega)) (rfl)) ?_
        refine tk 9 rfl (Ev.fieldAddr (o := 3) (.t rfl) (by kernel_rfl)) ?_
        refine al1 10 rfl ((stv ty25 SConf.l_meters (.t rfl) (.t rfl) ?_))
        refine hdn (ovr (pN (meetP (X := OV) (_) trivial (by repeat first | exact Sub.nil | refine Sub.cons rfl ?_) (by repeat first | exact SubP.nil | refine SubP.cons (by repeat first | exact Rem.head | apply Rem.tail) ?_))))
      · refine (buildSlice (E := eMeterConf) Tryz.underlying25 ty57 z57 (.cons (.t rfl) .nil) rfl rfl (fun v59 => ?_))
        refine hdn (al1 1 rfl ((opv (Ev.ldv ty25 (.t rfl) SConf.l_meters) ?_)))
        refine hdn (al1 4 rfl ((append (E := eMeterConf) Tryz.underlying25 ty57 rfl zb57 zs57 (.t rfl) (.t rfl) (fun _ => by repeat first | exact Upd.head | apply Upd.tail | apply Upd.right) (by first | exact isSl_own (by repeat first | exact mH | apply mT | apply mA) | exact fun w I => IsSl.keep0 (by assumption) I.keeps) (⟨by (show _ ≤ 9223372036854775807); simp only [List.length_cons, List.length_nil]; omega, by simp only [List.length_cons, List.length_nil]; omega⟩) (fun v60 => ?_))))
        refine hdn (know (fun w I => (isSl_own (E := eMeterConf) (xs := (takeC l most).ms ++ [mkMe]) (T := 57) (by repeat first | exact mH | apply mT | apply mA) w I).shq) (fun hz3 => ?_))
        refine tk 8 rfl (Ev.to (v' := (OV.sub eMeterConf.size _ 0 (takeC l most).ms.length).v) (Ev.sliceHS Tryz.underlying25 ty57 (.t rfl) (.t rfl) hz3 (fun _ => by simp only [List.length_append, List.length_cons, List.length_nil]; omega)) (rfl)) ?_
        refine tk 9 rfl (Ev.fieldAddr (o := 3) (.t rfl) (by kernel_rfl)) ?_
        refine al1 10 rfl ((stv ty25 SConf.l_meters (.t rfl) (.t rfl) ?_))
        refine hdn (ovr (pN (meetP (X := OV) (_) trivial (by repeat first | exact Sub.nil | refine Sub.cons rfl ?_) (by repeat first | exact SubP.nil | refine SubP.cons (by repeat first | exact Rem.head | apply Rem.tail) ?_))))
  obtain ⟨z4, rfl⟩ : ∃ y, y = x := ⟨x, rfl⟩
  show Sat _ _ [(2, true, .pointer (some ⟨b1, 0, none⟩)), (4, true, .pointer (some ⟨b2, 0, none⟩)), (5, true, .pointer (some ⟨b3, 0, none⟩)), (1, true, I (most : Nat))] [Var b3 eConf (⟨(OV.sub iE.size z1 0 (takeC l most).ps.length), (OV.sub eRoute.size z2 0 (takeC l most).rs.length), (OV.sub eRule.size z3 0 (takeC l most).us.length), (OV.sub eMeterConf.size z4 0 (takeC l most).ms.length), a5, c.default⟩ : SConf) 28, OwnS z1.v iE ((takeC l most).ps ++ [(777 : Int)]) 3, OwnS z2.v eRoute ((takeC l most).rs ++ [mkRo]) 52, OwnS z3.v eRule ((takeC l most).us ++ [mkRu]) 76, OwnS z4.v eMeterConf ((takeC l most).ms ++ [mkMe]) 57, OwnS a5.v eMirrorConf ((takeC l most).xs) 59, Var b2 eConf eConf.zero 28, Var b1 eConf c 28]
  refine cut (X := OV) (fun x : OV => True) (fun x : OV => [(2, true, .pointer (some ⟨b1, 0, none⟩)), (4, true, .pointer (some ⟨b2, 0, none⟩)), (5, true, .pointer (some ⟨b3, 0, none⟩)), (1, true, I (most : Nat))]) (fun x : OV => [Var b3 eConf (⟨(OV.sub iE.size z1 0 (takeC l most).ps.length), (OV.sub eRoute.size z2 0 (takeC l most).rs.length), (OV.sub eRule.size z3 0 (takeC l most).us.length), (OV.sub eMeterConf.size z4 0 (takeC l most).ms.length), (OV.sub eMirrorConf.size x 0 (takeC l most).xs.length), c.default⟩ : SConf) 28, OwnS z1.v iE ((takeC l most).ps ++ [(777 : Int)]) 3, OwnS z2.v eRoute ((takeC l most).rs ++ [mkRo]) 52, OwnS z3.v eRule ((takeC l most).us ++ [mkRu]) 76, OwnS z4.v eMeterConf ((takeC l most).ms ++ [mkMe]) 57, OwnS x.v eMirrorConf ((takeC l most).xs ++ [mkMi]) 59, Var b2 eConf eConf.zero 28, Var b1 eConf c 28]) ?_ (fun x hx => ?_)
  · refine know (fun w I => (isSl_own (E := eMirrorConf) (v := a5.v) (xs := (takeC l most).xs) (T := 59) (by repeat first | exact mH | apply mT | apply mA) w I).shq) (fun hq4 => ?_)
    refine draw [Var b2 eConf eConf.zero 28, Var b1 eConf c 28] (by kernel_rfl) ?_
    refine tk 0 rfl (Ev.fieldAddr (o := 4) (.t rfl) (by kernel_rfl)) ?_
    refine tk 2 rfl (Ev.buildS (fs := _) (places := [(0, 1), (1, 1), (2, 1)]) z59 rfl Tryz.underlying59 (by kernel_rfl) (.cons (.c (v := I 777) rfl) .nil) (Fills.cons SMirrorConf.l_out rfl Fills.nil)) ?_
    refine tk 5 rfl (Ev.fieldAddr (o := 4) (.t rfl) (by kernel_rfl)) ?_
    refine all [1, 3, 6] (by kernel_rfl) (by decide) (.cons rfl ?_ (.cons rfl ?_ (.cons rfl ?_ .nil)))
    · refine (opv (Ev.ldv ty26 (.t rfl) SConf.l_mirrors) ?_)
      refine hdn (all [3, 6] (by kernel_rfl) (by decide) (.cons rfl ?_ (.cons rfl ?_ .nil)))
      · refine (buildSlice (E := eMirrorConf) Tryz.underlying26 ty59 z59 (.cons (.t rfl) .nil) rfl rfl (fun v61 => ?_))
        refine hdn (all [4, 6] (by kernel_rfl) (by decide) (.cons rfl ?_ (.cons rfl ?_ .nil)))
        · refine (append (E := eMirrorConf) Tryz.underlying26 ty59 rfl zb59 zs59 (.t rfl) (.t rfl) (fun _ => by repeat first | exact Upd.head | apply Upd.tail | apply Upd.right) (by first | exact isSl_own (by repeat first | exact mH | apply mT | apply mA) | exact fun w I => IsSl.keep0 (by assumption) I.keeps) (⟨by (show _ ≤ 9223372036854775807); simp only [List.length_cons, List.length_nil]; omega, by simp only [List.length_cons, List.length_nil]; omega⟩) (fun v62 => ?_))
          refine hdn (al1 6 rfl ((opv (Ev.ldv ty26 (.t rfl) SConf.l_mirrors) ?_)))
          refine hdn (tk 7 rfl (Ev.lenQ Tryz.underlying26 (.t rfl) hq4) ?_)
          refine know (fun w I => (isSl_own (E := eMirrorConf) (xs := (takeC l most).xs ++ [mkMi]) (T := 59) (by repeat first | exact mH | apply mT | apply mA) w I).shq) (fun hz4 => ?_)
          refine tk 8 rfl (Ev.to (v' := (OV.sub eMirrorConf.size _ 0 (takeC l most).xs.length).v) (Ev.sliceHS Tryz.underlying26 ty59 (.t rfl) (.t rfl) hz4 (fun _ => by simp only [List.length_append, List.length_cons, List.length_nil]; omega)) (rfl)) ?_
          refine tk 9 rfl (Ev.fieldAddr (o := 4) (.t rfl) (by kernel_rfl)) ?_
          refine al1 10 rfl ((stv ty26 SConf.l_mirrors (.t rfl) (.t rfl) ?_))
          refine hdn (ovr (pN (meetP (X := OV) (_) trivial (by repeat first | exact Sub.nil | refine Sub.cons rfl ?_) (by repeat first | exact SubP.nil | refine SubP.cons (by repeat first | exact Rem.head | apply Rem.tail) ?_))))
        · refine (opv (Ev.ldv ty26 (.t rfl) SConf.l_mirrors) ?_)
          refine hdn (tk 7 rfl (Ev.lenQ Tryz.underlying26 (.t rfl) hq4) ?_)
          refine al1 4 rfl ((append (E := eMirrorConf) Tryz.underlying26 ty59 rfl zb59 zs59 (.t rfl) (.t rfl) (fun _ => by repeat first | exact Upd.head | apply Upd.tail | apply Upd.right) (by first | exact isSl_own (by repeat first | exact mH | apply mT | apply mA) | exact fun w I => IsSl.keep0 (by assumption) I.keeps) (⟨by (show _ ≤ 9223372036854775807); simp only [List.length_cons, List.length_nil]; omega, by simp only [List.length_cons, List.length_nil]; omega⟩) (fun v63 => ?_)))
          refine hdn (know (fun w I => (isSl_own (E := eMirrorConf) (xs := (takeC l most).xs ++ [mkMi]) (T := 59) (by repeat first | exact mH | apply mT | apply mA) w I).shq) (fun hz4 => ?_))
          refine tk 8 rfl (Ev.to (v' := (OV.sub eMirrorConf.size _ 0 (takeC l most).xs.length).v) (Ev.sliceHS Tryz.underlying26 ty59 (.t rfl) (.t rfl) hz4 (fun _ => by simp only [List.length_append, List.length_cons, List.length_nil]; omega)) (rfl)) ?_
          refine tk 9 rfl (Ev.fieldAddr (o := 4) (.t rfl) (by kernel_rfl)) ?_
          refine al1 10 rfl ((stv ty26 SConf.l_mirrors (.t rfl) (.t rfl) ?_))
          refine hdn (ovr (pN (meetP (X := OV) (_) trivial (by repeat first | exact Sub.nil | refine Sub.cons rfl ?_) (by repeat first | exact SubP.nil | refine SubP.cons (by repeat first | exact Rem.head | apply Rem.tail) ?_))))
      · refine (opv (Ev.ldv ty26 (.t rfl) SConf.l_mirrors) ?_)
        refine hdn (tk 7 rfl (Ev.lenQ Tryz.underlying26 (.t rfl) hq4) ?_)
        refine al1 3 rfl ((buildSlice (E := eMirrorConf) Tryz.underlying26 ty59 z59 (.cons (.t rfl) .nil) rfl rfl (fun v64 => ?_)))
        refine hdn (al1 4 rfl ((append (E := eMirrorConf) Tryz.underlying26 ty59 rfl zb59 zs59 (.t rfl) (.t rfl) (fun _ => by repeat first | exact Upd.head | apply Upd.tail | apply Upd.right) (by first | exact isSl_own (by repeat first | exact mH | apply mT | apply mA) | exact fun w I => IsSl.keep0 (by assumption) I.keeps) (⟨by (show _ ≤ 9223372036854775807); simp only [List.length_cons, List.length_nil]; omega, by simp only [List.length_cons, List.length_nil]; omega⟩) (fun v65 => ?_))))
        refine hdn (know (fun w I => (isSl_own (E := eMirrorConf) (xs := (takeC l most).xs ++ [mkMi]) (T := 59) (by repeat first | exact mH | apply mT | apply mA) w I).shq) (fun hz4 => ?_))
        refine tk 8 rfl (Ev.to (v' := (OV.sub eMirrorConf.size _ 0 (takeC l most).xs.length).v) (Ev.sliceHS Tryz.underlying26 ty59 (.t rfl) (.t rfl) hz4 (fun _ => by simp only [List.length_append, List.length_cons, List.length_nil]; omega)) (rfl)) ?_
        refine tk 9 rfl (Ev.fieldAddr (o := 4) (.t rfl) (by kernel_rfl)) ?_
        refine al1 10 rfl ((stv ty26 SConf.l_mirrors (.t rfl) (.t rfl) ?_))
        refine hdn (ovr (pN (meetP (X := OV) (_) trivial (by repeat first | exact Sub.nil | refine Sub.cons rfl ?_) (by repeat first | exact SubP.nil | refine SubP.cons (by repeat first | exact Rem.head | apply Rem.tail) ?_))))
    · refine (buildSlice (E := eMirrorConf) Tryz.underlying26 ty59 z59 (.cons (.t rfl) .nil) rfl rfl (fun v66 => ?_))
      refine hdn (all [1, 6] (by kernel_rfl) (by decide) (.cons rfl ?_ (.cons rfl ?_ .nil)))
      · refine (opv (Ev.ldv ty26 (.t rfl) SConf.l_mirrors) ?_)
        refine hdn (all [4, 6] (by kernel_rfl) (by decide) (.cons rfl ?_ (.cons rfl ?_ .nil)))
        · refine (append (E := eMirrorConf) Tryz.underlying26 ty59 rfl zb59 zs59 (.t rfl) (.t rfl) (fun _ => by repeat first | exact Upd.head | apply Upd.tail | apply Upd.right) (by first | exact isSl_own (by repeat first | exact mH | apply mT | apply mA) | exact fun w I => IsSl.keep0 (by assumption) I.keeps) (⟨by (show _ ≤ 9223372036854775807); simp only [List.length_cons, List.length_nil]; omega, by simp only [List.length_cons, List.length_nil]; omega⟩) (fun v67 => ?_))
          refine hdn (al1 6 rfl ((opv (Ev.ldv ty26 (.t rfl) SConf.l_mirrors) ?_)))
          refine hdn (tk 7 rfl (Ev.lenQ Tryz.underlying26 (.t rfl) hq4) ?_)
          refine know (fun w I => (isSl_own (E := eMirrorConf) (xs := (takeC l most).xs ++ [mkMi]) (T := 59) (by repeat first | exact mH | apply mT | apply mA) w I).shq) (fun hz4 => ?_)
          refine tk 8 rfl (Ev.to (v' := (OV.sub eMirrorConf.size _ 0 (takeC l most).xs.length).v) (Ev.sliceHS Tryz.underlying26 ty59 (.t rfl) (.t rfl) hz4 (fun _ => by simp only [List.length_append, List.length_cons, List.length_nil]; omega)) (rfl)) ?_
          refine tk 9 rfl (Ev.fieldAddr (o := 4) (.t rfl) (by kernel_rfl)) ?_
          refine al1 10 rfl ((stv ty26 SConf.l_mirrors (.t rfl) (.t rfl) ?_))
          refine hdn (ovr (pN (meetP (X := OV) (_) trivial (by repeat first | exact Sub.nil | refine Sub.cons rfl ?_) (by repeat first | exact SubP.nil | refine SubP.cons (by repeat first | exact Rem.head | apply Rem.tail) ?_))))
        · refine (opv (Ev.ldv ty26 (.t rfl) SConf.l_mirrors) ?_)
          refine hdn (tk 7 rfl (Ev.lenQ Tryz.underlying26 (.t rfl) hq4) ?_)
          refine al1 4 rfl ((append (E := eMirrorConf) Tryz.underlying26 ty59 rfl zb59 zs59 (.t rfl) (.t rfl) (fun _ => by repeat first | exact Upd.head | apply Upd.tail | apply Upd.right) (by first | exact isSl_own (by repeat first | exact mH | apply mT | apply mA) | exact fun w I => IsSl.keep0 (by assumption) I.keeps) (⟨by (show _ ≤ 9223372036854775807); simp only [List.length_cons, List.length_nil]; omega, by simp only [List.length_cons, List.length_nil]; omega⟩) (fun v68 => ?_)))
          refine hdn (know (fun w I => (isSl_own (E := eMirrorConf) (xs := (takeC l most).xs ++ [mkMi]) (T := 59) (by repeat first | exact mH | apply mT | apply mA) w I).shq) (fun hz4 => ?_))
          refine tk 8 rfl (Ev.to (v' := (OV.sub eMirrorConf.size _ 0 (takeC l most).xs.length).v) (Ev.sliceHS Tryz.underlying26 ty59 (.t rfl) (.t rfl) hz4 (fun _ => by simp only [List.length_append, List.length_cons, List.length_nil]; omega)) (rfl)) ?_
          refine tk 9 rfl (Ev.fieldAddr (o := 4) (.t rfl) (by kernel_rfl)) ?_
          refine al1 10 rfl ((stv ty26 SConf.l_mirrors (.t rfl) (.t rfl) ?_))
          refine hdn (ovr (pN (meetP (X := OV) (_) trivial (by repeat first | exact Sub.nil | refine Sub.cons rfl ?_) (by repeat first | exact SubP.nil | refine SubP.cons (by repeat first | exact Rem.head | apply Rem.tail) ?_))))
      · refine (opv (Ev.ldv ty26 (.t rfl) SConf.l_mirrors) ?_)
        refine hdn (tk 7 rfl (Ev.lenQ Tryz.underlying26 (.t rfl) hq4) ?_)
        refine al1 1 rfl ((opv (Ev.ldv ty26 (.t rfl) SConf.l_mirrors) ?_))
        refine hdn (al1 4 rfl ((append (E := eMirrorConf) Tryz.underlying26 ty59 rfl zb59 zs59 (.t rfl) (.t rfl) (fun _ => by repeat first | exact Upd.head | apply Upd.tail | apply Upd.right) (by first | exact isSl_own (by repeat first | exact mH | apply mT | apply mA) | exact fun w I => IsSl.keep0 (by assumption) I.keeps) (⟨by (show _ ≤ 9223372036854775807); simp only [List.length_cons, List.length_nil]; omega, by simp only [List.length_cons, List.length_nil]; omega⟩) (fun v69 => ?_))))
        refine hdn (know (fun w I => (isSl_own (E := eMirrorConf) (xs := (takeC l most).xs ++ [mkMi]) (T := 59) (by repeat first | exact mH | apply mT | apply mA) w I).shq) (fun hz4 => ?_))
        refine tk 8 rfl (Ev.to (v' := (OV.sub eMirrorConf.size _ 0 (takeC l most).xs.length).v) (Ev.sliceHS Tryz.underlying26 ty59 (.t rfl) (.t rfl) hz4 (fun _ => by simp only [List.length_append, List.length_cons, List.length_nil]; omega)) (rfl)) ?_
        refine tk 9 rfl (Ev.fieldAddr (o := 4) (.t rfl) (by kernel_rfl)) ?_
        refine al1 10 rfl ((stv ty26 SConf.l_mirrors (.t rfl) (.t rfl) ?_))
        refine hdn (ovr (pN (meetP (X := OV) (_) trivial (by repeat first | exact Sub.nil | refine Sub.cons rfl ?_) (by repeat first | exact SubP.nil | refine SubP.cons (by repeat first | exact Rem.head | apply Rem.tail) ?_))))
    · refine (opv (Ev.ldv ty26 (.t rfl) SConf.l_mirrors) ?_)
      refine hdn (tk 7 rfl (Ev.lenQ Tryz.underlying26 (.t rfl) hq4) ?_)
      refine all [1, 3] (by kernel_rfl) (by decide) (.cons rfl ?_ (.cons rfl ?_ .nil))
      · refine (opv (Ev.ldv ty26 (.t rfl) SConf.l_mirrors) ?_)
        refine hdn (al1 3 rfl ((buildSlice (E := eMirrorConf) Tryz.underlying26 ty59 z59 (.cons (.t rfl) .nil) rfl rfl (fun v70 => ?_))))
        refine hdn (al1 4 rfl ((append (E := eMirrorConf) Tryz.underlying26 ty59 rfl zb59 zs59 (.t rfl) (.t rfl) (fun _ => by repeat first | exact Upd.head | apply Upd.tail | apply Upd.right) (by first | exact isSl_own (by repeat first | exact mH | apply mT | apply mA) | exact fun w I => IsSl.keep0 (by assumption) I.keeps) (⟨by (show _ ≤ 9223372036854775807); simp only [List.length_cons, List.length_nil]; omega, by simp only [List.length_cons, List.length_nil]; omega⟩) (fun v71 => ?_))))
        refine hdn (know (fun w I => (isSl_own (E := eMirrorConf) (xs := (takeC l most).xs ++ [mkMi]) (T := 59) (by repeat first | exact mH | apply mT | apply mA) w I).shq) (fun hz4 => ?_))
        refine tk 8 rfl (Ev.to (v' := (OV.sub eMirrorConf.size _ 0 (takeC l most).xs.length).v) (Ev.sliceHS Tryz.underlying26 ty59 (.t rfl) (.t rfl) hz4 (fun _ => by simp only [List.length_append, List.length_cons, List.length_nil]; omega)) (rfl)) ?_
        refine tk 9 rfl (Ev.fieldAddr (o := 4) (.t rfl) (by kernel_rfl)) ?_
        refine al1 10 rfl ((stv ty26 SConf.l_mirrors (.t rfl) (.t rfl) ?_))
        refine hdn (ovr (pN (meetP (X := OV) (_) trivial (by repeat first | exact Sub.nil | refine Sub.cons rfl ?_) (by repeat first | exact SubP.nil | refine SubP.cons (by repeat first | exact Rem.head | apply Rem.tail) ?_))))
      · refine (buildSlice (E := eMirrorConf) Tryz.underlying26 ty59 z59 (.cons (.t rfl) .nil) rfl rfl (fun v72 => ?_))
        refine hdn (al1 1 rfl ((opv (Ev.ldv ty26 (.t rfl) SConf.l_mirrors) ?_)))
        refine hdn (al1 4 rfl ((append (E := eMirrorConf) Tryz.underlying26 ty59 rfl zb59 zs59 (.t rfl) (.t rfl) (fun _ => by repeat first | exact Upd.head | apply Upd.tail | apply Upd.right) (by first | exact isSl_own (by repeat first | exact mH | apply mT | apply mA) | exact fun w I => IsSl.keep0 (by assumption) I.keeps) (⟨by (show _ ≤ 9223372036854775807); simp only [List.length_cons, List.length_nil]; omega, by simp only [List.length_cons, List.length_nil]; omega⟩) (fun v73 => ?_))))
        refine hdn (know (fun w I => (isSl_own (E := eMirrorConf) (xs := (takeC l most).xs ++ [mkMi]) (T := 59) (by repeat first | exact mH | apply mT | apply mA) w I).shq) (fun hz4 => ?_))
        refine tk 8 rfl (Ev.to (v' := (OV.sub eMirrorConf.size _ 0 (takeC l most).xs.length).v) (Ev.sliceHS Tryz.underlying26 ty59 (.t rfl) (.t rfl) hz4 (fun _ => by simp only [List.length_append, List.length_cons, List.length_nil]; omega)) (rfl)) ?_
        refine tk 9 rfl (Ev.fieldAddr (o := 4) (.t rfl) (by kernel_rfl)) ?_
        refine al1 10 rfl ((stv ty26 SConf.l_mirrors (.t rfl) (.t rfl) ?_))
        refine hdn (ovr (pN (meetP (X := OV) (_) trivial (by repeat first | exact Sub.nil | refine Sub.cons rfl ?_) (by repeat first | exact SubP.nil | refine SubP.cons (by repeat first | exact Rem.head | apply Rem.tail) ?_))))
  obtain ⟨z5, rfl⟩ : ∃ y, y = x := ⟨x, rfl⟩
  show Sat _ _ [(2, true, .pointer (some ⟨b1, 0, none⟩)), (4, true, .pointer (some ⟨b2, 0, none⟩)), (5, true, .pointer (some ⟨b3, 0, none⟩)), (1, true, I (most : Nat))] [Var b3 eConf (⟨(OV.sub iE.size z1 0 (takeC l most).ps.length), (OV.sub eRoute.size z2 0 (takeC l most).rs.length), (OV.sub eRule.size z3 0 (takeC l most).us.length), (OV.sub eMeterConf.size z4 0 (takeC l most).ms.length), (OV.sub eMirrorConf.size z5 0 (takeC l most).xs.length), c.default⟩ : SConf) 28, OwnS z1.v iE ((takeC l most).ps ++ [(777 : Int)]) 3, OwnS z2.v eRoute ((takeC l most).rs ++ [mkRo]) 52, OwnS z3.v eRule ((takeC l most).us ++ [mkRu]) 76, OwnS z4.v eMeterConf ((takeC l most).ms ++ [mkMe]) 57, OwnS z5.v eMirrorConf ((takeC l most).xs ++ [mkMi]) 59, Var b2 eConf eConf.zero 28, Var b1 eConf c 28]
  refine seq (region (cons (opv (Ev.ldv ty28 (.t rfl) (Lens.id _)) ?_)))
  refine cons (stv ty28 (Lens.id _) (.t rfl) (.t rfl) ?_)
  refine nil (pN (ret (done rfl (.cell rfl (fun w I => run_loadVar_pts ty28 (ptsVar (by repeat first | exact mH | apply mT | apply mA) (Lens.id _) w I)) .nil) (fun w I => ?_))))
  exact retNP (⟨z1, z2, z3, z4, z5⟩ : CB) trivial rfl (by repeat first | exact SubP.nil | refine SubP.cons (by repeat first | exact Rem.head | apply Rem.tail) ?_) w I
end Go.Proofs.YtnoobdijbpmjkaaGreat
