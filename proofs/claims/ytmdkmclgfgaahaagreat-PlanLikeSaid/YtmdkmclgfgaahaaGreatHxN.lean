/- Part N: a call under a guard that hands back something new. -/
import Derived.Test.YtmdkmclgfgaahaaGreatHxM
import Derived.Test.YtmdkmclgfgaahaaGreatHxG
set_option linter.unusedVariables false
set_option linter.unusedSimpArgs false
namespace Go.Gx
open Go Go.RowKit
section
variable {α β γ : Type} {P : Program}
variable {K : Ctx} {F : Fr} {L : List Res} {g : Bool} {Q : Exit → Act → World → Prop} {N : Act → World → Prop} {ops : Array Oper}
  {op : Op} {ty t t' : TypeId} {pos : String} {af : Array Edge} {d : Nat} {x y : Operand}
def GdS (c : Bool) (v : Value) (E : Enc α) (xs : List α) (T : TypeId) : Res where
  foot := fun b => c = true ∧ (OwnS v E xs T).foot b
  A := fun w => c = true → (OwnS v E xs T).A w
  st := fun w w' h h1 hc => (OwnS v E xs T).st w w' (fun b hb => h b ⟨hc, hb⟩) (h1 hc)
theorem sized_agg {H : Type} {P : Program} {ts : List TypeId} {ds parts : List (DataW H)} {fs : Array Field} (hz : (DataW.weightsEach P ts ds).all (· ≤ reachBytes) = true) {j : Nat} {t : TypeId} (ht : ts[j]? = some t) (hd : ds[j]? = some (.agg parts)) (hu : P.underlying t = some (.struct fs)) :
    (DataW.weightsEach P (fs.toList.map (·.type)) parts).all (· ≤ reachBytes) = true :=
  List.all_eq_true.2 fun x hx => List.all_eq_true.1 hz x (DataW.weights_mem_each ht hd x (by simpa [DataW.weights, hu] using hx))
end
end Go.Gx
