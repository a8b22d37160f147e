/- Part N: a call under a guard that hands back something new. -/
import Derived.Test.YtjanhajdmhalaaaGreatHxM
import Derived.Test.YtjanhajdmhalaaaGreatHxG
set_option linter.unusedVariables false
set_option linter.unusedSimpArgs false
namespace Go.Gx
open Go Go.RowKit
section
variable {α β γ:Type} {P:Program}
variable {K:Ctx} {F:Fr} {L:List Res} {g:Bool} {Q:Exit→Act→World→Prop} {N:Act→World→Prop} {ops:Array Oper}
  {op:Op} {ty t t':TypeId} {pos:String} {af:Array Edge} {d:Nat} {x y:Operand}
end
end Go.Gx
