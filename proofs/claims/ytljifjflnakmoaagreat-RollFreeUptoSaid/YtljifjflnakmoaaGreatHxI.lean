/- Part I: many slices of one's own, numbered. -/
import Derived.Test.YtljifjflnakmoaaGreatHxH
set_option linter.unusedVariables false
set_option linter.unusedSimpArgs false
namespace Go.Gx
open Go Go.RowKit
section
variable {α β γ:Type} {P:Program}
variable {K:Ctx} {F:Fr} {L:List Res} {g:Bool} {Q:Exit→Act→World→Prop} {N:Act→World→Prop} {ops:Array Oper}
 {op:Op} {ty t t':TypeId} {pos:String} {af:Array Edge} {d:Nat} {x y:Operand}
theorem Upd.left {A A' B:List Res} {r r':Res} (h:Upd A r r' A'):Upd (A ++ B) r r' (A' ++ B):=by
 obtain ⟨X,Y,rfl,rfl⟩:=h;exact ⟨X,Y ++ B,by simp,by simp⟩
theorem Upd.right {A B B':List Res} {r r':Res} (h:Upd B r r' B'):Upd (A ++ B) r r' (A ++ B'):=by
 obtain ⟨X,Y,rfl,rfl⟩:=h;exact ⟨A ++ X,Y,by simp,by simp⟩
end
end Go.Gx
