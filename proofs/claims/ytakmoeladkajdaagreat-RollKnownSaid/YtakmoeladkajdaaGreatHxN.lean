/- Part N: a call under a guard that hands back something new. -/
import Derived.Test.YtakmoeladkajdaaGreatHxM
import Derived.Test.YtakmoeladkajdaaGreatHxG
set_option linter.unusedVariables false
set_option linter.unusedSimpArgs false
namespace Go.Gx
open Go Go.RowKit
section
variable {α β γ : Type} {P : Program}
variable {K : Ctx} {F : Fr} {L : List Res} {g : Bool} {Q : Exit → Act → World → Prop} {N : Act → World → Prop} {ops : Array Oper}
  {op : Op} {ty t t' : TypeId} {pos : String} {af : Array Edge} {d : Nat} {x y : Operand}
def GdS (c : Bool) (v : Value) (E : Enc α) (xs : List α) (T : TypeId) : Res where
  foot := fun b => c = true ∧ (OwnS v E xs T).foot b
  A := fun w => c = true → (OwnS v E xs T).A w
  st := fun w w' h h1 hc => (OwnS v E xs T).st w w' (fun b hb => h b ⟨hc, hb⟩) (h1 hc)
theorem isSl_gd {c : Bool} {v : Value} {E : Enc α} {xs : List α} {T : TypeId} (hm : GdS c v E xs T ∈ L) (hc : c = true) (w : World) (h : WInv K L w) : IsSl E w v xs := IsSl.of_own ((h.own _ hm).1 hc)
theorem callgo {f : FuncId} {args : List Operand} {ats : Array TypeId} {vs : List Value} {E : Enc α} {xs : List α} {T : TypeId} {j tg : Nat} {want c1 c2 : Bool} (hj : (ops[j]?).bind (·.dst) = some tg) (hg : look F tg = some (c1, .bool c2))
    (hen : Enters P f) (hargs : Opds F (c1 && (c2 == want)) args vs)
    (hC : (c1 && (c2 == want)) = true → ∀ w, WInv K L w → Calls P f vs.toArray w (RetO w E xs T)) (next : ∀ o : OV, Sat K N ((d, (c1 && (c2 == want)), o.v) :: F) (GdS (c1 && (c2 == want)) o.v E xs T :: L)) (hd : Nat.blt d K.n = true := by rfl) :
    Sat K (opThen P ops Q ⟨some d, .call { callee := .value (.func f), args := args.toArray, argTypes := ats }, ty, pos, af, some (j, want)⟩ N) F L := fun a w G => by
  unfold opThen
  rw [wanted_of rfl hj hg G.fo]
  have hd' : d < K.n := by simpa [Nat.blt_eq] using hd
  cases hc : (c1 && (c2 == want)) with
  | true =>
    rw [if_pos rfl]
    refine .inl ?_
    unfold Oper.wp
    rw [exec_call hen hargs hc G.fo]
    refine (hC hc w G.inv).mono ?_
    rintro e w' ⟨v, rfl, hk, _, hn⟩
    rw [hc] at next
    have h1 := hn.1 _ List.mem_cons_self
    exact next ⟨v, own_one h1.1⟩ _ _ (G.put d true v v hd' rfl (G.inv.add hk (fun _ => h1.1) (fun b hb => h1.2 b hb.2)))
  | false =>
    rw [if_neg Bool.false_ne_true]
    rw [hc] at next
    exact next nilSl _ _ (G.put d false nilSl.v undef hd' rfl (G.inv.add (Keeps.refl _ _) (fun h => absurd h Bool.false_ne_true) (fun b hb => absurd hb.1 Bool.false_ne_true)))
end
end Go.Gx
