/- Part M: a copy into an array that is part of a variable. -/
import Derived.Test.YtnoobdijbpmjkaaGreatHxL
set_option linter.unusedVariables false
set_option linter.unusedSimpArgs false
namespace Go.Gx
open Go Go.RowKit
section
variable {α β γ : Type} {P : Program}
variable {K : Ctx} {F : Fr} {L : List Res} {g : Bool} {Q : Exit → Act → World → Prop} {N : Act → World → Prop} {ops : Array Oper}
  {op : Op} {ty t t' : TypeId} {pos : String} {af : Array Edge} {d : Nat} {x y : Operand}
def cpyV {n : Nat} (a : Vector α n) (ys : List α) (z : α) : Vector α n := Vector.ofFn fun i => if i.val < ys.length then ys.getD i.val z else a[i]
end
end Go.Gx
