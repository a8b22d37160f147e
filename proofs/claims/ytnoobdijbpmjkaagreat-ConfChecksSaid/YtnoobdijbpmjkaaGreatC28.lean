/- conf -/
import Derived.Test.YtnoobdijbpmjkaaGreatC27
set_option linter.unusedVariables false
set_option linter.unusedSimpArgs false
namespace Go.Proofs.YtnoobdijbpmjkaaGreat
open Go Go.Gx

def szK (l : CL) (k : Nat) : Nat := [l.ps.length, l.rs.length, l.us.length, l.ms.length, l.xs.length].getD k 0
def limK (k : Nat) : Nat := [256, 1024, 256, 64, 16].getD k 0
def thingE (l : CL) (k i : Nat) : Int := if k = 0 then portE l.ps (l.ps.getD i iE.zero) i else if k = 1 then routeE l (l.rs.getD i eRoute.zero) i else if k = 2 then ruleE l (l.us.getD i eRule.zero) i else if k = 3 then meterE l (l.ms.getD i eMeterConf.zero) i else mirrorE l (l.xs.getD i eMirrorConf.zero) i
def baseK (l : CL) : Nat → Int
  | 0 => 0
  | k + 1 => baseK l k + (szK l k : Int)
def kindsF (l : CL) : Nat → List SFault
  | 0 => []
  | k + 1 => kindsF l k ++ listG (thingE l k) (baseK l k) (szK l k) (limK k)
theorem kindsF_all (l : CL) : kindsF l 5 = thingsF l := rfl
theorem baseK_all (l : CL) : baseK l 5 = 0 + (l.ps.length : Int) + l.rs.length + l.us.length + l.ms.length + l.xs.length := rfl
theorem baseK_nn (l : CL) : ∀ k, 0 ≤ baseK l k
  | 0 => Int.le_refl _
  | k + 1 => by have := baseK_nn l k; unfold baseK; omega
theorem baseK_le {l : CL} {n : Nat} (h : l.n ≤ n) : ∀ k, k ≤ 5 → baseK l k ≤ n := by
  intro k hk
  have h5 : baseK l 5 ≤ n := by rw [baseK_all]; unfold CL.n at h; omega
  have a4 : baseK l 5 = baseK l 4 + (szK l 4 : Int) := rfl
  have a3 : baseK l 4 = baseK l 3 + (szK l 3 : Int) := rfl
  have a2 : baseK l 3 = baseK l 2 + (szK l 2 : Int) := rfl
  have a1 : baseK l 2 = baseK l 1 + (szK l 1 : Int) := rfl
  have a0 : baseK l 1 = baseK l 0 + (szK l 0 : Int) := rfl
  have hk2 : k = 0 ∨ k = 1 ∨ k = 2 ∨ k = 3 ∨ k = 4 ∨ k = 5 := by omega
  rcases hk2 with rfl | rfl | rfl | rfl | rfl | rfl <;> omega
theorem lim_le : ∀ k, k < 5 → limK k ≤ 1024 := by
  have : ∀ q : Fin 5, limK q.val ≤ 1024 := by decide
  exact fun k hk => this ⟨k, hk⟩
theorem kindsF_len (l : CL) : ∀ k, k ≤ 5 → (kindsF l k).length ≤ k * 1025
  | 0, _ => by simp [kindsF]
  | k + 1, h => by
    have ih := kindsF_len l k (by omega)
    have hg := listG_len (thingE l k) (baseK l k) (szK l k) (limK k)
    have hl : limK k ≤ 1024 := by
      have : ∀ q : Fin 5, limK q.val ≤ 1024 := by decide
      exact this ⟨k, by omega⟩
    unfold kindsF
    rw [List.length_append]
    omega
theorem sz_vec (l : CL) (k : Nat) (hk : k < 5) : (#v[(l.ps.length : Int), l.rs.length, l.us.length, l.ms.length, l.xs.length] : Vector Int 5)[k] = (szK l k : Int) := by
  have h : k = 0 ∨ k = 1 ∨ k = 2 ∨ k = 3 ∨ k = 4 := by omega
  rcases h with rfl | rfl | rfl | rfl | rfl <;> rfl
theorem lim_vec (k : Nat) (hk : k < 5) : (#v[(256 : Int), 1024, 256, 64, 16] : Vector Int 5)[k] = (limK k : Int) := by
  have h : k = 0 ∨ k = 1 ∨ k = 2 ∨ k = 3 ∨ k = 4 := by omega
  rcases h with rfl | rfl | rfl | rfl | rfl <;> rfl

theorem en119 : Gx.Enters Tryz.prog 119 := Gx.Enters.mk' (by kernel_rfl)

theorem en120 : Gx.Enters Tryz.prog 120 := Gx.Enters.mk' (by kernel_rfl)

theorem en121 : Gx.Enters Tryz.prog 121 := Gx.Enters.mk' (by kernel_rfl)

theorem en122 : Gx.Enters Tryz.prog 122 := Gx.Enters.mk' (by kernel_rfl)

theorem en123 : Gx.Enters Tryz.prog 123 := Gx.Enters.mk' (by kernel_rfl)

theorem rthing_ok (c : SConf) (l : CL) (k : Nat) (i : Int) (w : World) (hc : ConfAt w c l) (hn : l.Names) (hk : k < 5) (hi : 0 ≤ i ∧ i < szK l k) : Calls Tryz.prog 47 #[eConf.val c, I (k : Int), I i] w (RetV w (I (thingE l k i.toNat))) := by
  refine enter0 31 Tryz.func47 rfl rfl (Nat.le_of_ble_eq_true rfl) ?_
  refine seq (region (cons (box (E := eConf) (.t rfl) (fun b1 => ?_))))
  refine cons (opv (Ev.assign (.c (v := I 0) rfl)) ?_)
  refine nil (pN (seq (seq (region (cons (opv (Ev.move (.t rfl)) (nil (pN (block (seq (region (cons (opv (Ev.eql_i (.t rfl) (.c (v := I 0) rfl)) ?_)))))))))))))
  refine cons (opv (Ev.assign (.t rfl)) (nil (pN ?_)))
  first | refine condD rfl (fun h0 => ?_) (fun h0 => ?_) | refine cond rfl (fun h0 => ?_) (fun h0 => ?_)
  · try simp only [nb] at h0
    refine seq ?_
    obtain rfl : k = 0 := by omega
    refine region (cons (opv (Ev.load (xv := c) ty28 (.t rfl) (ptsVar (by repeat first | exact mH | apply mT | apply mA) (Lens.id _))) ?_))
    refine cons (opv (Ev.move (.t rfl)) (cons (callv en119 (.cons (.t rfl) (.cons (.t rfl) .nil)) (fun w I => rckport_ok c l _ w (hc.keep0 I.keeps) hi) ?_)))
    refine cons (opv (Ev.assign (.t rfl)) (nil (pN (ret (bR (pR (done rfl (.tmp rfl .nil) (retE ?_))))))))
    have ei : ((i.toNat : Nat) : Int) = i := by omega
    unfold thingE
    rw [ei]
    first
      | (rw [if_pos (by omega)]; rfl)
      | (rw [if_neg (by omega), if_pos (by omega)]; rfl)
      | (rw [if_neg (by omega), if_neg (by omega), if_pos (by omega)]; rfl)
      | (rw [if_neg (by omega), if_neg (by omega), if_neg (by omega), if_pos (by omega)]; rfl)
      | (rw [if_neg (by omega), if_neg (by omega), if_neg (by omega), if_neg (by omega)]; rfl)
  · try simp only [nb] at h0
    refine seq (region (cons (opv (Ev.eql_i (.t rfl) (.c (v := I 1) rfl)) ?_)))
    refine cons (opv (Ev.assign (.t rfl)) (nil (pN ?_)))
    first | refine condD rfl (fun h1 => ?_) (fun h1 => ?_) | refine cond rfl (fun h1 => ?_) (fun h1 => ?_)
    · try simp only [nb] at h1
      refine seq ?_
      obtain rfl : k = 1 := by omega
      refine region (cons (opv (Ev.load (xv := c) ty28 (.t rfl) (ptsVar (by repeat first | exact mH | apply mT | apply mA) (Lens.id _))) ?_))
      refine cons (opv (Ev.move (.t rfl)) (cons (callv en120 (.cons (.t rfl) (.cons (.t rfl) .nil)) (fun w I => rckroute_ok c l _ w (hc.keep0 I.keeps) hi) ?_)))
      refine cons (opv (Ev.assign (.t rfl)) (nil (pN (ret (bR (pR (done rfl (.tmp rfl .nil) (retE ?_))))))))
      have ei : ((i.toNat : Nat) : Int) = i := by omega
      unfold thingE
      rw [ei]
      first
        | (rw [if_pos (by omega)]; rfl)
        | (rw [if_neg (by omega), if_pos (by omega)]; rfl)
        | (rw [if_neg (by omega), if_neg (by omega), if_pos (by omega)]; rfl)
        | (rw [if_neg (by omega), if_neg (by omega), if_neg (by omega), if_pos (by omega)]; rfl)
        | (rw [if_neg (by omega), if_neg (by omega), if_neg (by omega), if_neg (by omega)]; rfl)
    · try simp only [nb] at h1
      refine seq (region (cons (opv (Ev.eql_i (.t rfl) (.c (v := I 2) rfl)) ?_)))
      refine cons (opv (Ev.assign (.t rfl)) (nil (pN ?_)))
      first | refine condD rfl (fun h2 => ?_) (fun h2 => ?_) | refine cond rfl (fun h2 => ?_) (fun h2 => ?_)
      · try simp only [nb] at h2
        refine seq ?_
        obtain rfl : k = 2 := by omega
        refine region (cons (opv (Ev.load (xv := c) ty28 (.t rfl) (ptsVar (by repeat first | exact mH | apply mT | apply mA) (Lens.id _))) ?_))
        refine cons (opv (Ev.move (.t rfl)) (cons (callv en121 (.cons (.t rfl) (.cons (.t rfl) .nil)) (fun w I => rckrule_ok c l _ w (hc.keep0 I.keeps) hi hn) ?_)))
        refine cons (opv (Ev.assign (.t rfl)) (nil (pN (ret (bR (pR (done rfl (.tmp rfl .nil) (retE ?_))))))))
        have ei : ((i.toNat : Nat) : Int) = i := by omega
        unfold thingE
        rw [ei]
        first
          | (rw [if_pos (by omega)]; rfl)
          | (rw [if_neg (by omega), if_pos (by omega)]; rfl)
          | (rw [if_neg (by omega), if_neg (by omega), if_pos (by omega)]; rfl)
          | (rw [if_neg (by omega), if_neg (by omega), if_neg (by omega), if_pos (by omega)]; rfl)
          | (rw [if_neg (by omega), if_neg (by omega), if_neg (by omega), if_neg (by omega)]; rfl)
      · try simp only [nb] at h2
        refine seq (region (cons (opv (Ev.eql_i (.t rfl) (.c (v := I 3) rfl)) ?_)))
        refine cons (opv (Ev.assign (.t rfl)) (nil (pN ?_)))
        first | refine condD rfl (fun h3 => ?_) (fun h3 => ?_) | refine cond rfl (fun h3 => ?_) (fun h3 => ?_)
        · try simp only [nb] at h3
          refine seq ?_
          obtain rfl : k = 3 := by omega
          refine region (cons (opv (Ev.load (xv := c) ty28 (.t rfl) (ptsVar (by repeat first | exact mH | apply mT | apply mA) (Lens.id _))) ?_))
          refine cons (opv (Ev.move (.t rfl)) (cons (callv en122 (.cons (.t rfl) (.cons (.t rfl) .nil)) (fun w I => rckmeter_ok c l _ w (hc.keep0 I.keeps) hi hn) ?_)))
          refine cons (opv (Ev.assign (.t rfl)) (nil (pN (ret (bR (pR (done rfl (.tmp rfl .nil) (retE ?_))))))))
          have ei : ((i.toNat : Nat) : Int) = i := by omega
          unfold thingE
          rw [ei]
          first
            | (rw [if_pos (by omega)]; rfl)
            | (rw [if_neg (by omega), if_pos (by omega)]; rfl)
            | (rw [if_neg (by omega), if_neg (by omega), if_pos (by omega)]; rfl)
            | (rw [if_neg (by omega), if_neg (by omega), if_neg (by omega), if_pos (by omega)]; rfl)
            | (rw [if_neg (by omega), if_neg (by omega), if_neg (by omega), if_neg (by omega)]; rfl)
        · try simp only [nb] at h3
          refine skip (bN (pN (seq ?_)))
          obtain rfl : k = 4 := by omega
          refine region (cons (opv (Ev.load (xv := c) ty28 (.t rfl) (ptsVar (by repeat first | exact mH | apply mT | apply mA) (Lens.id _))) ?_))
          refine cons (opv (Ev.move (.t rfl)) (cons (callv en123 (.cons (.t rfl) (.cons (.t rfl) .nil)) (fun w I => rckmirror_ok c l _ w (hc.keep0 I.keeps) hi hn) ?_)))
          refine cons (opv (Ev.assign (.t rfl)) (nil (pN (ret (done rfl (.tmp rfl .nil) (retE ?_))))))
          have ei : ((i.toNat : Nat) : Int) = i := by omega
          unfold thingE
          rw [ei]
          first
            | (rw [if_pos (by omega)]; rfl)
            | (rw [if_neg (by omega), if_pos (by omega)]; rfl)
            | (rw [if_neg (by omega), if_neg (by omega), if_pos (by omega)]; rfl)
            | (rw [if_neg (by omega), if_neg (by omega), if_neg (by omega), if_pos (by omega)]; rfl)
            | (rw [if_neg (by omega), if_neg (by omega), if_neg (by omega), if_neg (by omega)]; rfl)

theorem z99 : (Tryz.prog.info? 99).bind (·.zero) = some ((arrE 5 iE).val (arrE 5 iE).zero) := by kernel_rfl

theorem ty99 : TyOK Tryz.prog 99 (arrE 5 iE) := TyOK.mk' (by kernel_rfl) (by kernel_rfl)

theorem en47 : Gx.Enters Tryz.prog 47 := Gx.Enters.mk' (by kernel_rfl)

theorem rcheck_conf (c : SConf) (l : CL) (w : World) (hc : ConfAt w c l) (hn : l.Names) (hz : l.n ≤ 4611686018427387904) : Calls Tryz.prog 13 #[eConf.val c] w (RetO w eFault (checkF l c.default) 37) := by
  refine enter0 99 Tryz.func13 rfl rfl (Nat.le_of_ble_eq_true rfl) ?_
  refine seq (region (cons (box (E := eConf) (.t rfl) (fun b1 => ?_))))
  refine cons (opv (Ev.assign (.c (v := (Go.Value.slice none 0 0)) rfl)) ?_)
  refine nil (pN (seq (region (cons (opv (Ev.fieldAddr (o := 0) (.t rfl) (by kernel_rfl)) ?_)))))
  refine cons (opv (Ev.load (xv := c.ports) ty22 (.t rfl) (ptsVar (by repeat first | exact mH | apply mT | apply mA) SConf.l_ports)) ?_)
  refine cons (opv (Ev.len Tryz.underlying22 (.t rfl) (fun w I => (hc.keep0 I.keeps).ps)) ?_)
  refine cons (opv (Ev.fieldAddr (o := 1) (.t rfl) (by kernel_rfl)) ?_)
  refine cons (opv (Ev.load (xv := c.routes) ty23 (.t rfl) (ptsVar (by repeat first | exact mH | apply mT | apply mA) SConf.l_routes)) ?_)
  refine cons (opv (Ev.len Tryz.underlying23 (.t rfl) (fun w I => (hc.keep0 I.keeps).rs)) ?_)
  refine cons (opv (Ev.fieldAddr (o := 2) (.t rfl) (by kernel_rfl)) ?_)
  refine cons (opv (Ev.load (xv := c.rules) ty24 (.t rfl) (ptsVar (by repeat first | exact mH | apply mT | apply mA) SConf.l_rules)) ?_)
  refine cons (opv (Ev.len Tryz.underlying24 (.t rfl) (fun w I => (hc.keep0 I.keeps).us)) ?_)
  refine cons (opv (Ev.fieldAddr (o := 3) (.t rfl) (by kernel_rfl)) ?_)
  refine cons (opv (Ev.load (xv := c.meters) ty25 (.t rfl) (ptsVar (by repeat first | exact mH | apply mT | apply mA) SConf.l_meters)) ?_)
  refine cons (opv (Ev.len Tryz.underlying25 (.t rfl) (fun w I => (hc.keep0 I.keeps).ms)) ?_)
  refine cons (opv (Ev.fieldAddr (o := 4) (.t rfl) (by kernel_rfl)) ?_)
  refine cons (opv (Ev.load (xv := c.mirrors) ty26 (.t rfl) (ptsVar (by repeat first | exact mH | apply mT | apply mA) SConf.l_mirrors)) ?_)
  refine cons (opv (Ev.len Tryz.underlying26 (.t rfl) (fun w I => (hc.keep0 I.keeps).xs)) ?_)
  refine cons (opv (Ev.buildA z99 Tryz.underlying99 ty3 (.cons (.t rfl) (.cons (.t rfl) (.cons (.t rfl) (.cons (.t rfl) (.cons (.t rfl) .nil))))) (Fills.cons (lArr iE 0 (by decide)) rfl (Fills.cons (lArr iE 1 (by decide)) rfl (Fills.cons (lArr iE 2 (by decide)) rfl (Fills.cons (lArr iE 3 (by decide)) rfl (Fills.cons (lArr iE 4 (by decide)) rfl Fills.nil)))))) ?_)
  refine cons (alloc z99 (fun b2 => ?_))
  refine cons (stv ty99 (Lens.id _) (.t rfl) (.t rfl) ?_)
  refine nil (pN (seq (region (cons (opv (Ev.buildA z99 Tryz.underlying99 ty3 (.cons (.c (v := I 256) rfl) (.cons (.c (v := I 1024) rfl) (.cons (.c (v := I 256) rfl) (.cons (.c (v := I 64) rfl) (.cons (.c (v := I 16) rfl) .nil))))) (Fills.cons (lArr iE 0 (by decide)) rfl (Fills.cons (lArr iE 1 (by decide)) rfl (Fills.cons (lArr iE 2 (by decide)) rfl (Fills.cons (lArr iE 3 (by decide)) rfl (Fills.cons (lArr iE 4 (by decide)) rfl Fills.nil)))))) ?_)))))
  refine cons (alloc z99 (fun b3 => ?_))
  refine cons (stv ty99 (Lens.id _) (.t rfl) (.t rfl) ?_)
  refine nil (pN (seq (takeNil eFault 37 ?_)))
  refine region (cons (opv (Ev.assign (.c (v := (Go.Value.slice none 0 0)) rfl)) ?_))
  refine takeNil eFault 37 ?_
  refine nil (pN (seq (region (cons (opv (Ev.assign (.c (v := I 0) rfl)) ?_)))))
  refine nil (pN (seq (seq (region (cons (opv (Ev.assign (.c (v := I 0) rfl)) ?_))))))
  refine nil (pN (block (loop (X := Nat × OV) (fun x : Nat × OV => (x.1 ≤ 5)) (fun x : Nat × OV => [(1, true, .pointer (some ⟨b1, 0, none⟩)), (3, true, .pointer (some ⟨b2, 0, none⟩)), (4, true, .pointer (some ⟨b3, 0, none⟩)), (5, true, x.2.v), (6, true, I (baseK l x.1)), (7, true, I (x.1 : Int))]) (fun x : Nat × OV => [OwnS x.2.v eFault (kindsF l x.1) 37, Var b3 (arrE 5 iE) (#v[(256 : Int), 1024, 256, 64, 16] : Vector Int 5) 99, Var b2 (arrE 5 iE) (#v[(l.ps.length : Int), l.rs.length, l.us.length, l.ms.length, l.xs.length] : Vector Int 5) 99, Var b1 eConf c 28]) (fun x : Nat × OV => 5 - x.1) (0, nilSl) ?_ (by repeat first | exact Sub.nil | refine Sub.cons rfl ?_) (by repeat first | exact sR | exact sN | apply sC | apply sS | apply sA) (fun x hx => ?_))))
  · omega
  obtain ⟨k, q⟩ := x
  have hk : k ≤ 5 := hx
  clear hx
  show Sat _ _ [(1, true, .pointer (some ⟨b1, 0, none⟩)), (3, true, .pointer (some ⟨b2, 0, none⟩)), (4, true, .pointer (some ⟨b3, 0, none⟩)), (5, true, q.v), (6, true, I (baseK l k)), (7, true, I (k : Int))] [OwnS q.v eFault (kindsF l k) 37, Var b3 (arrE 5 iE) (#v[(256 : Int), 1024, 256, 64, 16] : Vector Int 5) 99, Var b2 (arrE 5 iE) (#v[(l.ps.length : Int), l.rs.length, l.us.length, l.ms.length, l.xs.length] : Vector Int 5) 99, Var b1 eConf c 28]
  have hb0 := baseK_nn l k
  have hbl := baseK_le hz k hk
  refine seq (seq (region (cons (opv (Ev.to (v' := I (k : Int)) (Ev.move (.t rfl)) (rfl)) ?_))))
  refine cons (opv (Ev.lss_i (.t rfl) (.c (v := I 5) rfl)) ?_)
  refine nil (pN ?_)
  first | refine condD rfl (fun h0 => ?_) (fun h0 => ?_) | refine cond rfl (fun h0 => ?_) (fun h0 => ?_)
  · try simp only [nb] at h0
    have hkk : k < 5 := by omega
    have hlm : limK k ≤ 1024 := lim_le k hkk
    have hb1 := baseK_le hz (k + 1) (by omega)
    have hb2 : baseK l (k + 1) = baseK l k + (szK l k : Int) := rfl
    refine skip (pN (seq (block (seq (seq (region (cons (opv (Ev.assign (.c (v := I 0) rfl)) ?_))))))))
    refine nil (pN (block (loop (X := Int × OV) (fun x : Int × OV => (0 ≤ x.1 ∧ x.1 ≤ szK l k ∧ x.1 ≤ limK k)) (fun x : Int × OV => [(1, true, .pointer (some ⟨b1, 0, none⟩)), (3, true, .pointer (some ⟨b2, 0, none⟩)), (4, true, .pointer (some ⟨b3, 0, none⟩)), (5, true, x.2.v), (6, true, I (baseK l k)), (7, true, I (k : Int)), (8, true, I x.1)]) (fun x : Int × OV => [OwnS x.2.v eFault (kindsF l k ++ faultsUp (thingE l k) (baseK l k) x.1.toNat) 37, Var b3 (arrE 5 iE) (#v[(256 : Int), 1024, 256, 64, 16] : Vector Int 5) 99, Var b2 (arrE 5 iE) (#v[(l.ps.length : Int), l.rs.length, l.us.length, l.ms.length, l.xs.length] : Vector Int 5) 99, Var b1 eConf c 28]) (fun x : Int × OV => ((szK l k : Int) - x.1).toNat) (0, q) ?_ (by repeat first | exact Sub.nil | refine Sub.cons rfl ?_) (by simp only [show (0 : Int).toNat = 0 from rfl, faultsUp, List.append_nil]; repeat first | exact sR | exact sN | apply sC | apply sS | apply sA) (fun x hx => ?_))))
    · omega
    obtain ⟨i, q1⟩ := x
    have hi : 0 ≤ i ∧ i ≤ szK l k ∧ i ≤ limK k := hx
    clear hx
    show Sat _ _ [(1, true, .pointer (some ⟨b1, 0, none⟩)), (3, true, .pointer (some ⟨b2, 0, none⟩)), (4, true, .pointer (some ⟨b3, 0, none⟩)), (5, true, q1.v), (6, true, I (baseK l k)), (7, true, I (k : Int)), (8, true, I i)] [OwnS q1.v eFault (kindsF l k ++ faultsUp (thingE l k) (baseK l k) i.toNat) 37, Var b3 (arrE 5 iE) (#v[(256 : Int), 1024, 256, 64, 16] : Vector Int 5) 99, Var b2 (arrE 5 iE) (#v[(l.ps.length : Int), l.rs.length, l.us.length, l.ms.length, l.xs.length] : Vector Int 5) 99, Var b1 eConf c 28]
    refine seq (seq (region (cons (opv (Ev.move (.t rfl)) (cons (opv (Ev.move (.t rfl)) (cons (opv (Ev.indexAddrA0 Tryz.underlying99 ty3 (.t rfl) (.t rfl) (fun _ => by omega)) ?_))))))))
    refine cons (opv (Ev.to (v' := I (szK l k : Nat)) (Ev.ldv ty3 (.t rfl) (lArr (n := 5) iE _ (by omega))) (congrArg I (sz_vec l k hkk))) ?_)
    refine cons (opv (Ev.lss_i (.t rfl) (.t rfl)) ?_)
    refine cons (opv (Ev.move (.t rfl)) (cons (opg rfl rfl (Ev.move (.t rfl)) ?_)))
    refine cons (opg rfl rfl (Ev.move (.t rfl)) ?_)
    refine cons (opg rfl rfl (Ev.indexAddrA0 Tryz.underlying99 ty3 (.t rfl) (.g rfl id) (fun _ => by first | omega | (rename_i hg; simp at hg; omega))) ?_)
    refine cons (opg rfl rfl (Ev.to (v' := I (limK k : Nat)) (Ev.ldv ty3 (.g rfl id) (lArr (n := 5) iE _ (by first | omega | (rename_i hg; simp at hg; omega)))) (congrArg I (lim_vec k hkk))) ?_)
    refine cons (opg rfl rfl (Ev.lss_i (.g rfl id) (.g rfl id)) ?_)
    refine cons (opv (Ev.pickA (.t rfl) (fun {_} h => by cases h; rfl) ⟨_, rfl⟩ (by intro h1 h; first | (rw [h] <;> rfl) | (rw [h1, h] <;> rfl) | (rw [h, h1] <;> rfl) | simp_all) (.c (v := .bool false) rfl)) ?_)
    refine nil (pN ?_)
    first | refine condD rfl (fun h1 => ?_) (fun h1 => ?_) | refine cond rfl (fun h1 => ?_) (fun h1 => ?_)
    · try simp only [nb] at h1
      refine skip (pN (seq (block (seq (region (cons (opv (Ev.load (xv := c) ty28 (.t rfl) (ptsVar (by repeat first | exact mH | apply mT | apply mA) (Lens.id _))) ?_)))))))
      refine cons (opv (Ev.move (.t rfl)) (cons (opv (Ev.move (.t rfl)) (cons (callv en47 (.cons (.t rfl) (.cons (.t rfl) (.cons (.t rfl) .nil))) (fun w I => rthing_ok c l k _ w (hc.keep0 I.keeps) hn hkk (by omega)) ?_)))))
      refine cons (opv (Ev.assign (.t rfl)) (nil (pN (seq (region (cons (opv (Ev.move (.t rfl)) (cons (opv (Ev.neq_i (.t rfl) (.c (v := I 0) rfl)) ?_)))))))))
      refine nil (pN ?_)
      first | refine condD rfl (fun h2 => ?_) (fun h2 => ?_) | refine cond rfl (fun h2 => ?_) (fun h2 => ?_)
      · try simp only [nb] at h2
        have hst := faultsUp_bad (e := thingE l k) (d := baseK l k) hi.1 h2
        refine region (cons (opv (Ev.move (.t rfl)) (cons (opv (Ev.move (.t rfl)) (cons (opv (Ev.move (.t rfl)) (cons (opv (Ev.move (.t rfl)) (cons (opv (Ev.add_i (.t rfl) (.t rfl) (fun _ => by omega)) ?_))))))))))
        refine cons (opv (Ev.buildS (fs := _) (places := [(0, 1), (1, 1)]) z37 rfl Tryz.underlying37 (by kernel_rfl) (.cons (.t rfl) (.cons (.t rfl) .nil)) (Fills.cons SFault.l_code rfl (Fills.cons SFault.l_at_ rfl Fills.nil))) ?_)
        refine cons (buildSlice (E := eFault) Tryz.underlying31 ty37 z37 (.cons (.t rfl) .nil) rfl rfl (fun v4 => ?_))
        refine cons (append (E := eFault) Tryz.underlying31 ty37 rfl zb37 zs37 (.t rfl) (.t rfl) (fun _ => by repeat first | exact Upd.head | apply Upd.tail | apply Upd.right) (by first | exact isSl_own (by repeat first | exact mH | apply mT | apply mA) | exact fun w I => IsSl.keep0 (by assumption) I.keeps) (⟨by (show _ ≤ 9223372036854775807); have h1l := kindsF_len l k (by omega); have h2l := faultsUp_len (thingE l k) (baseK l k) i.toNat; simp only [List.length_append, List.length_cons, List.length_nil]; omega, by have h1l := kindsF_len l k (by omega); have h2l := faultsUp_len (thingE l k) (baseK l k) i.toNat; simp only [List.length_append, List.length_cons, List.length_nil]; omega⟩) (fun v5 => ?_))
        refine cons (opv (Ev.assign (.t rfl)) (nil (bN (pN (region (cons (opv (Ev.move (.t rfl)) (cons (opv (Ev.add_i (.t rfl) (.c (v := I 1) rfl) (fun _ => by omega)) ?_)))))))))
        refine cons (opv (Ev.assign (.t rfl)) (nil (pN (next (X := Int × OV) (i + 1, _) ?_ ?_ (by repeat first | exact Sub.nil | refine Sub.cons rfl ?_) (by rw [hst]; (try rw [← List.append_assoc]); repeat first | exact sR | exact sN | apply sC | apply sS | apply sA)))))
        · try dsimp only
          omega
        · try dsimp only
          omega
      · try simp only [nb] at h2
        have hst := faultsUp_ok (e := thingE l k) (d := baseK l k) hi.1 h2
        refine skip (bN (pN (region (cons (opv (Ev.move (.t rfl)) (cons (opv (Ev.add_i (.t rfl) (.c (v := I 1) rfl) (fun _ => by omega)) ?_)))))))
        refine cons (opv (Ev.assign (.t rfl)) (nil (pN (next (X := Int × OV) (i + 1, _) ?_ ?_ (by repeat first | exact Sub.nil | refine Sub.cons rfl ?_) (by rw [hst]; (try rw [← List.append_assoc]); repeat first | exact sR | exact sN | apply sC | apply sS | apply sA)))))
        · try dsimp only
          omega
        · try dsimp only
          omega
    · try simp only [nb] at h1
      refine exit (pX (pX (bX (pN (seq (seq ?_))))))
      have him : i.toNat = min (szK l k) (limK k) := by omega
      rw [him]
      refine draw' (by kernel_rfl) ?_
      refine tk 0 rfl (Ev.move (.t rfl)) ?_
      refine tk 1 rfl (Ev.indexAddrA0 Tryz.underlying99 ty3 (.t rfl) (.t rfl) (fun _ => by omega)) ?_
      refine tk 2 rfl (Ev.to (v' := I (szK l k : Nat)) (Ev.ldv ty3 (.t rfl) (lArr (n := 5) iE _ (by omega))) (congrArg I (sz_vec l k hkk))) ?_
      refine tk 3 rfl (Ev.move (.t rfl)) ?_
      refine tk 4 rfl (Ev.indexAddrA0 Tryz.underlying99 ty3 (.t rfl) (.t rfl) (fun _ => by omega)) ?_
      refine tk 5 rfl (Ev.to (v' := I (limK k : Nat)) (Ev.ldv ty3 (.t rfl) (lArr (n := 5) iE _ (by omega))) (congrArg I (lim_vec k hkk))) ?_
      refine tk 6 rfl (Ev.gtr_i (.t rfl) (.t rfl)) ?_
      refine ovr (pN ?_)
      first | refine condD rfl (fun h3 => ?_) (fun h3 => ?_) | refine cond rfl (fun h3 => ?_) (fun h3 => ?_)
      · try simp only [nb] at h3
        refine region (cons (opv (Ev.move (.t rfl)) (cons (opv (Ev.move (.t rfl)) (cons (opv (Ev.move (.t rfl)) (cons (opv (Ev.indexAddrA0 Tryz.underlying99 ty3 (.t rfl) (.t rfl) (fun _ => by omega)) ?_))))))))
        refine cons (opv (Ev.to (v' := I (limK k : Nat)) (Ev.ldv ty3 (.t rfl) (lArr (n := 5) iE _ (by omega))) (congrArg I (lim_vec k hkk))) ?_)
        refine cons (opv (Ev.add_i (.t rfl) (.t rfl) (fun _ => by omega)) ?_)
        refine cons (opv (Ev.buildS (fs := _) (places := [(0, 1), (1, 1)]) z37 rfl Tryz.underlying37 (by kernel_rfl) (.cons (.c (v := I 4) rfl) (.cons (.t rfl) .nil)) (Fills.cons SFault.l_code rfl (Fills.cons SFault.l_at_ rfl Fills.nil))) ?_)
        refine cons (buildSlice (E := eFault) Tryz.underlying31 ty37 z37 (.cons (.t rfl) .nil) rfl rfl (fun v6 => ?_))
        refine cons (append (E := eFault) Tryz.underlying31 ty37 rfl zb37 zs37 (.t rfl) (.t rfl) (fun _ => by repeat first | exact Upd.head | apply Upd.tail | apply Upd.right) (by first | exact isSl_own (by repeat first | exact mH | apply mT | apply mA) | exact fun w I => IsSl.keep0 (by assumption) I.keeps) (⟨by (show _ ≤ 9223372036854775807); have h1l := kindsF_len l k (by omega); have h2l := faultsUp_len (thingE l k) (baseK l k) (min (szK l k) (limK k)); simp only [List.length_append, List.length_cons, List.length_nil]; omega, by have h1l := kindsF_len l k (by omega); have h2l := faultsUp_len (thingE l k) (baseK l k) (min (szK l k) (limK k)); simp only [List.length_append, List.length_cons, List.length_nil]; omega⟩) (fun v7 => ?_))
        refine cons (opv (Ev.assign (.t rfl)) (nil (pN (region (cons (opv (Ev.move (.t rfl)) (cons (opv (Ev.move (.t rfl)) (cons (opv (Ev.indexAddrA0 Tryz.underlying99 ty3 (.t rfl) (.t rfl) (fun _ => by omega)) ?_))))))))))
        refine cons (opv (Ev.to (v' := I (szK l k : Nat)) (Ev.ldv ty3 (.t rfl) (lArr (n := 5) iE _ (by omega))) (congrArg I (sz_vec l k hkk))) ?_)
        refine cons (opv (Ev.add_i (.t rfl) (.t rfl) (fun _ => by omega)) ?_)
        refine cons (opv (Ev.assign (.t rfl)) (nil (bN (pN (region (cons (opv (Ev.move (.t rfl)) (cons (opv (Ev.add_i (.t rfl) (.c (v := I 1) rfl) (fun _ => by omega)) ?_)))))))))
        refine cons (opv (Ev.assign (.t rfl)) (nil (pN (next (X := Nat × OV) (k + 1, _) ?_ ?_ (by repeat first | exact Sub.nil | refine Sub.cons rfl ?_) (by rw [show kindsF l (k + 1) = kindsF l k ++ listG (thingE l k) (baseK l k) (szK l k) (limK k) from rfl]; unfold listG; (first | rw [if_pos (by omega), ← List.append_assoc] | rw [if_neg (by omega), List.append_nil]); repeat first | exact sR | exact sN | apply sC | apply sS | apply sA)))))
        · try dsimp only
          omega
        · try dsimp only
          omega
      · try simp only [nb] at h3
        refine skip (pN (region (cons (opv (Ev.move (.t rfl)) (cons (opv (Ev.move (.t rfl)) (cons (opv (Ev.indexAddrA0 Tryz.underlying99 ty3 (.t rfl) (.t rfl) (fun _ => by omega)) ?_))))))))
        refine cons (opv (Ev.to (v' := I (szK l k : Nat)) (Ev.ldv ty3 (.t rfl) (lArr (n := 5) iE _ (by omega))) (congrArg I (sz_vec l k hkk))) ?_)
        refine cons (opv (Ev.add_i (.t rfl) (.t rfl) (fun _ => by omega)) ?_)
        refine cons (opv (Ev.assign (.t rfl)) (nil (bN (pN (region (cons (opv (Ev.move (.t rfl)) (cons (opv (Ev.add_i (.t rfl) (.c (v := I 1) rfl) (fun _ => by omega)) ?_)))))))))
        refine cons (opv (Ev.assign (.t rfl)) (nil (pN (next (X := Nat × OV) (k + 1, _) ?_ ?_ (by repeat first | exact Sub.nil | refine Sub.cons rfl ?_) (by rw [show kindsF l (k + 1) = kindsF l k ++ listG (thingE l k) (baseK l k) (szK l k) (limK k) from rfl]; unfold listG; (first | rw [if_pos (by omega), ← List.append_assoc] | rw [if_neg (by omega), List.append_nil]); repeat first | exact sR | exact sN | apply sC | apply sS | apply sA)))))
        · try dsimp only
          omega
        · try dsimp only
          omega
  · try simp only [nb] at h0
    obtain rfl : k = 5 := by omega
    refine exit (pX (pX (bX (pN (cut (X := OV) (fun x : OV => True) (fun x : OV => [(5, true, x.v)]) (fun x : OV => [OwnS x.v eFault (checkF l c.default) 37]) ?_ (fun x hx => ?_))))))
    · refine seq ?_
      rw [kindsF_all, baseK_all]
      refine region (cons (opv (Ev.fieldAddr (o := 5) (.t rfl) (by kernel_rfl)) ?_))
      refine cons (opv (Ev.load (xv := c.default) ty3 (.t rfl) (ptsVar (by repeat first | exact mH | apply mT | apply mA) SConf.l_default)) ?_)
      refine cons (opv (Ev.neq_i (.t rfl) (.c (v := I 1) rfl)) ?_)
      refine cons (opv (Ev.move (.t rfl)) (cons (opg rfl rfl (Ev.fieldAddr (o := 5) (.t rfl) (by kernel_rfl)) ?_)))
      refine cons (opg rfl rfl (Ev.load (xv := c.default) ty3 (.g rfl id) (ptsVar (by repeat first | exact mH | apply mT | apply mA) SConf.l_default)) ?_)
      refine cons (opg rfl rfl (Ev.neq_i (.g rfl id) (.c (v := I 2) rfl)) ?_)
      refine cons (opv (Ev.pickA (.t rfl) (fun {_} h => by cases h; rfl) ⟨_, rfl⟩ (by intro h1 h; first | (rw [h] <;> rfl) | (rw [h1, h] <;> rfl) | (rw [h, h1] <;> rfl) | simp_all) (.c (v := .bool false) rfl)) ?_)
      refine cons (opv (Ev.move (.t rfl)) (cons (opg rfl rfl (Ev.fieldAddr (o := 5) (.t rfl) (by kernel_rfl)) ?_)))
      refine cons (opg rfl rfl (Ev.load (xv := c.default) ty3 (.g rfl id) (ptsVar (by repeat first | exact mH | apply mT | apply mA) SConf.l_default)) ?_)
      refine cons (opg rfl rfl (Ev.neq_i (.g rfl id) (.c (v := I 4) rfl)) ?_)
      refine cons (opv (Ev.pickA (.t rfl) (fun {_} h => by cases h; rfl) ⟨_, rfl⟩ (by intro h1 h; first | (rw [h] <;> rfl) | (rw [h1, h] <;> rfl) | (rw [h, h1] <;> rfl) | simp_all) (.c (v := .bool false) rfl)) ?_)
      refine nil (pN ?_)
      first | refine condD rfl (fun h4 => ?_) (fun h4 => ?_) | refine cond rfl (fun h4 => ?_) (fun h4 => ?_)
      · have hdb : defBad c.default = true := (defBad_eq _).trans h4
        refine region (cons (opv (Ev.move (.t rfl)) (cons (opv (Ev.move (.t rfl)) (cons (opv (Ev.buildS (fs := _) (places := [(0, 1), (1, 1)]) z37 rfl Tryz.underlying37 (by kernel_rfl) (.cons (.c (v := I 2) rfl) (.cons (.t rfl) .nil)) (Fills.cons SFault.l_code rfl (Fills.cons SFault.l_at_ rfl Fills.nil))) ?_))))))
        refine cons (buildSlice (E := eFault) Tryz.underlying31 ty37 z37 (.cons (.t rfl) .nil) rfl rfl (fun v8 => ?_))
        refine cons (append (E := eFault) Tryz.underlying31 ty37 rfl zb37 zs37 (.t rfl) (.t rfl) (fun _ => by repeat first | exact Upd.head | apply Upd.tail | apply Upd.right) (by first | exact isSl_own (by repeat first | exact mH | apply mT | apply mA) | exact fun w I => IsSl.keep0 (by assumption) I.keeps) (⟨by (show _ ≤ 9223372036854775807); have := thingsF_len l; simp only [List.length_cons, List.length_nil]; omega, by have := thingsF_len l; simp only [List.length_cons, List.length_nil]; omega⟩) (fun v9 => ?_))
        refine cons (opv (Ev.assign (.t rfl)) (nil (pN (meet (X := OV) (_) trivial (by repeat first | exact Sub.nil | refine Sub.cons rfl ?_) (by unfold checkF; (first | rw [if_pos hdb] | rw [if_neg hdb, List.append_nil]); repeat first | exact sR | exact sN | apply sC | apply sS | apply sA)))))
      · have hdb : ¬ defBad c.default = true := by rw [show defBad c.default = false from (defBad_eq _).trans h4]; exact Bool.false_ne_true
        refine skip (pN (meet (X := OV) (_) trivial (by repeat first | exact Sub.nil | refine Sub.cons rfl ?_) (by unfold checkF; (first | rw [if_pos hdb] | rw [if_neg hdb, List.append_nil]); repeat first | exact sR | exact sN | apply sC | apply sS | apply sA)))
    obtain ⟨q2, rfl⟩ : ∃ y, y = x := ⟨x, rfl⟩
    show Sat _ _ [(5, true, q2.v)] [OwnS q2.v eFault (checkF l c.default) 37]
    refine seq (region (cons (opv (Ev.move (.t rfl)) (cons (opv (Ev.assign (.t rfl)) (nil (pN (ret (done rfl (.tmp rfl .nil) (retOE (by repeat first | exact mH | apply mT | apply mA) ?_))))))))))
    rfl
end Go.Proofs.YtnoobdijbpmjkaaGreat
