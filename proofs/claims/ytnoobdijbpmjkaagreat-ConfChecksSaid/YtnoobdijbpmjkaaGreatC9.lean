/- conf -/
import Derived.Test.YtnoobdijbpmjkaaGreatC8
set_option linter.unusedVariables false
set_option linter.unusedSimpArgs false
namespace Go.Proofs.YtnoobdijbpmjkaaGreat
open Go Go.Gx

structure KnownAt (w : World) (x : KB) (l : CL) : Prop where
  ps : MapAt w x.b1 iE iE (portsM l)
  rs : MapAt w x.b2 ePrefix iE (routesM l)
  us : MapAt w x.b3 sE iE (rulesM l)
  ms : MapAt w x.b4 sE iE (metersM l)
  xs : MapAt w x.b5 sE iE (mirrorsM l)
theorem KnownAt.keep0 {w w' : World} {x : KB} {l : CL} (h : KnownAt w x l) (k : Keeps Nope w w') : KnownAt w' x l := ⟨h.ps.keep0 k, h.rs.keep0 k, h.us.keep0 k, h.ms.keep0 k, h.xs.keep0 k⟩
theorem knownAt_own {K : Ctx} {L : List Res} {x : KB} {l : CL} (hs : ∀ r ∈ x.R l, r ∈ L) (w : World) (I : WInv K L w) : KnownAt w x l :=
  ⟨mapAt_own (hs _ (by simp [KB.R])) w I, mapAt_own (hs _ (by simp [KB.R])) w I, mapAt_own (hs _ (by simp [KB.R])) w I, mapAt_own (hs _ (by simp [KB.R])) w I, mapAt_own (hs _ (by simp [KB.R])) w I⟩
def portB (l : CL) (p : Int) : Bool := (findV eqd p (portsM l)).isSome
/-- What is wrong with a route. -/
def routeE (l : CL) (r : SRoute) (i : Int) : Int := if checkP r.to_ ≠ 0 then 151 else if portB l r.out = false then 5 else if (findV SPrefix.eqb r.to_ (routesM l)).getD 0 < i then 2 else 0

theorem ty80 : TyOK Tryz.prog 80 (ovE nilMap) := TyOK.mk' (by kernel_rfl) (by kernel_rfl)

theorem port_ok (k : KB) (l : CL) (p : Int) (w : World) (hk : KnownAt w k l) : Calls Tryz.prog 115 #[eConfKnown.val k.k, I p] w (RetV w (.bool (portB l p))) := by
  refine enter0 15 Tryz.func115 rfl rfl (Nat.le_of_ble_eq_true rfl) ?_
  refine seq (region (cons (box (E := eConfKnown) (.t rfl) (fun b1 => ?_))))
  refine cons (opv (Ev.assign (.c (v := .bool false) rfl)) ?_)
  refine nil (pN (seq (region (cons (opv (Ev.fieldAddr (o := 0) (.t rfl) (by kernel_rfl)) ?_)))))
  refine cons (opv (Ev.ldv ty80 (.t rfl) SConfKnown.l_ports) ?_)
  refine cons (opv (Ev.move (.t rfl)) (cons (opv (Ev.lookupT Tryz.underlying80 Tryz.underlying3 key3 z3 (.t rfl) (.t rfl) (fun _ => (fun w I => hk.ps.keep0 I.keeps))) ?_)))
  refine cons (opv (Ev.move (.t rfl)) (cons (opv (Ev.extract (.t rfl) rfl) (cons (opv (Ev.extract (.t rfl) rfl) (cons (opv (Ev.assign (.t rfl)) (cons (opv (Ev.assign (.t rfl)) (nil (pN (seq (region (cons (opv (Ev.move (.t rfl)) (cons (opv (Ev.assign (.t rfl)) (nil (pN (ret (done rfl (.tmp rfl .nil) (retE ?_))))))))))))))))))))))
  rfl

theorem en115 : Gx.Enters Tryz.prog 115 := Gx.Enters.mk' (by kernel_rfl)

theorem ty81 : TyOK Tryz.prog 81 (ovE nilMap) := TyOK.mk' (by kernel_rfl) (by kernel_rfl)

theorem route_ok (k : KB) (l : CL) (r : SRoute) (i : Int) (w : World) (hk : KnownAt w k l) : Calls Tryz.prog 40 #[eConfKnown.val k.k, eRoute.val r, I i] w (RetV w (I (routeE l r i))) := by
  refine enter0 26 Tryz.func40 rfl rfl (Nat.le_of_ble_eq_true rfl) ?_
  refine seq (region (cons (box (E := eConfKnown) (.t rfl) (fun b1 => ?_))))
  refine cons (box (E := eRoute) (.t rfl) (fun b2 => ?_))
  refine cons (opv (Ev.assign (.c (v := I 0) rfl)) ?_)
  refine nil (pN (seq (block (seq (region (cons (opv (Ev.fieldAddr (o := 0) (.t rfl) (by kernel_rfl)) ?_)))))))
  refine cons (opv (Ev.load (xv := r.to_) ty50 (.t rfl) (ptsVar (by repeat first | exact mH | apply mT | apply mA) SRoute.l_to_)) ?_)
  refine cons (callv en114 (.cons (.t rfl) .nil) (fun w I => checkP_ok _ w) ?_)
  refine cons (opv (Ev.neq_i (.t rfl) (.c (v := I 0) rfl)) ?_)
  refine cons (opv (Ev.assign (.t rfl)) (nil (pN ?_)))
  first | refine condD rfl (fun h0 => ?_) (fun h0 => ?_) | refine cond rfl (fun h0 => ?_) (fun h0 => ?_)
  · try simp only [nb] at h0
    refine seq (region (cons (opv (Ev.assign (.c (v := I 151) rfl)) ?_)))
    refine nil (pN (ret (bR (pR (done rfl (.tmp rfl .nil) (retE ?_))))))
    unfold routeE; rw [if_pos (by simpa using h0)]; rfl
  · try simp only [nb] at h0
    refine seq (region (cons (opv (Ev.ldv ty84 (.t rfl) (Lens.id _)) ?_)))
    refine cons (opv (Ev.fieldAddr (o := 18) (.t rfl) (by kernel_rfl)) ?_)
    refine cons (opv (Ev.load (xv := r.out) ty3 (.t rfl) (ptsVar (by repeat first | exact mH | apply mT | apply mA) SRoute.l_out)) ?_)
    refine cons (callv en115 (.cons (.t rfl) (.cons (.t rfl) .nil)) (fun w I => port_ok _ l _ w (hk.keep0 I.keeps)) ?_)
    refine cons (opv (Ev.not (.t rfl)) ?_)
    refine cons (opv (Ev.assign (.t rfl)) (nil (pN ?_)))
    first | refine condD rfl (fun h1 => ?_) (fun h1 => ?_) | refine cond rfl (fun h1 => ?_) (fun h1 => ?_)
    · try simp only [nb] at h1
      refine seq (region (cons (opv (Ev.assign (.c (v := I 5) rfl)) ?_)))
      refine nil (pN (ret (bR (pR (done rfl (.tmp rfl .nil) (retE ?_))))))
      unfold routeE; rw [if_neg (by simpa using h0), if_pos (by simpa using h1)]; rfl
    · try simp only [nb] at h1
      refine seq (region (cons (opv (Ev.fieldAddr (o := 1) (.t rfl) (by kernel_rfl)) ?_)))
      refine cons (opv (Ev.ldv ty81 (.t rfl) SConfKnown.l_routes) ?_)
      refine cons (opv (Ev.fieldAddr (o := 0) (.t rfl) (by kernel_rfl)) ?_)
      refine cons (opv (Ev.load (xv := r.to_) ty50 (.t rfl) (ptsVar (by repeat first | exact mH | apply mT | apply mA) SRoute.l_to_)) ?_)
      refine cons (opv (Ev.lookupF Tryz.underlying81 Tryz.underlying50 key50 z3 (.t rfl) (.t rfl) (fun _ => (fun w I => hk.rs.keep0 I.keeps))) ?_)
      refine cons (opv (Ev.move (.t rfl)) (cons (opv (Ev.lss_i (.t rfl) (.t rfl)) ?_)))
      refine cons (opv (Ev.assign (.t rfl)) (nil (pN ?_)))
      first | refine condD rfl (fun h2 => ?_) (fun h2 => ?_) | refine cond rfl (fun h2 => ?_) (fun h2 => ?_)
      · try simp only [nb] at h2
        refine seq (region (cons (opv (Ev.assign (.c (v := I 2) rfl)) ?_)))
        refine nil (pN (ret (bR (pR (done rfl (.tmp rfl .nil) (retE ?_))))))
        unfold routeE; rw [if_neg (by simpa using h0), if_neg (by simpa using h1), if_pos (by simpa using h2)]; rfl
      · try simp only [nb] at h2
        refine skip (bN (pN (seq (region (cons (opv (Ev.assign (.c (v := I 0) rfl)) ?_))))))
        refine nil (pN (ret (done rfl (.tmp rfl .nil) (retE ?_))))
        unfold routeE; rw [if_neg (by simpa using h0), if_neg (by simpa using h1), if_neg (by simpa using h2)]; rfl
end Go.Proofs.YtnoobdijbpmjkaaGreat
