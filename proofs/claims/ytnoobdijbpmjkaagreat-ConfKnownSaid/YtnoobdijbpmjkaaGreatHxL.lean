/- Part L: an array out of a slice. -/
import Derived.Test.YtnoobdijbpmjkaaGreatHxK
set_option linter.unusedVariables false
set_option linter.unusedSimpArgs false
namespace Go.Gx
open Go Go.RowKit
section
variable {α β γ : Type} {P : Program}
variable {K : Ctx} {F : Fr} {L : List Res} {g : Bool} {Q : Exit → Act → World → Prop} {N : Act → World → Prop} {ops : Array Oper}
  {op : Op} {ty t t' : TypeId} {pos : String} {af : Array Edge} {d : Nat} {x y : Operand}
def vecOf (n : Nat) (xs : List α) (z : α) : Vector α n := Vector.ofFn fun i => xs.getD i.val z
end
end Go.Gx
