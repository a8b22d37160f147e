/- Part L: an array out of a slice. -/
import Derived.Test.YtljifjflnakmoaaGreatHxK
set_option linter.unusedVariables false
set_option linter.unusedSimpArgs false
namespace Go.Gx
open Go Go.RowKit
section
variable {α β γ:Type} {P:Program}
variable {K:Ctx} {F:Fr} {L:List Res} {g:Bool} {Q:Exit→Act→World→Prop} {N:Act→World→Prop} {ops:Array Oper}
 {op:Op} {ty t t':TypeId} {pos:String} {af:Array Edge} {d:Nat} {x y:Operand}
def oq (n:Nat) (xs:List α) (z:α):Vector α n:=Vector.ofFn fun i=>xs.getD i.val z
theorem lT {n:Nat} {xs:List α} {z:α} (h:xs.length = n):(oq n xs z).toList = xs:=by
 apply List.ext_getElem
 ·simp [h]
 ·intro i h1 h2;simp [oq,List.getD,h2]
theorem Ev.toArr {E:Enc α} {v:Value} {xs:List α} {e:TypeId} {n:Nat} (ht:P.underlying t = some (.array n e)) (hx:Opd F g x v) (h:∀ w,aP K L w→aO E w v xs) (hn:g = true→0 < n ∧ n ≤ xs.length) :
 Ev P K F L g (.sliceToArrayPointer t x) ty (gg v 0):=.of rfl (fun _ _ _ _ _ _ _ _ _=>.bind (by
 unfold Instr.arrayAt
 repeat' with_reducible first
  | exact .pure _
  | exact .stuck _
  | exact .fc _
  | exact .boundsPanic _ _ _ _
  | exact .runtimePanic _
  | refine .bind (.underlying _) fun _=>?_
  | exact .dead (.bind (.boundsPanic _ _ _ _) _)
  | split
  | dsimp only) fun _=>.pure _) fun hg a G w hw dst pos af gd=>by
 obtain ⟨b,cap,rfl,_,_,h2,h3⟩:=h w hw;obtain ⟨hn0,hn1⟩:=hn hg;have hu:(underlying t).run P w = .ok (.array n e) w:=by simp [underlying,ht]
 have hne:xs ≠ []:=fun e=>by rw [e] at hn1; simp at hn1; omega
 cases b with
 | none=>exact absurd (h2 rfl).1 hne
 | some p =>
   have hp:=(h3 p rfl).1 hne;obtain ⟨pb,po,ps⟩:=p;simp only at hp;subst hp;have hlt:¬ xs.length < n:=by omega
   simp [execOp,Instr.arrayAt,hx.eval hg G,hu,hlt,gg]
theorem Ev.si {E:Enc α} {v:Value} {xs:List α} {n:Nat} (T:ee P t (fN n E)) (hx:Opd F g x (gg v 0)) (h:∀ w,aP K L w→aO E w v xs) (hn:g = true→0 < n ∧ xs.length = n) :
 Ev P K F L g (.load t x) ty ((fN n E).val (oq n xs E.zero)):=.of rfl (fun _ _ _ _ _ _ _ _ _=>.bind (.bind (.sureAddr _) fun _=>.loadVar _ _) fun _=>.pure _) fun hg a G w hw dst pos af gd=>by
 obtain ⟨b,cap,rfl,_,_,h2,h3⟩:=h w hw;obtain ⟨hn0,hn1⟩:=hn hg;have hne:xs ≠ []:=fun e=>by rw [e] at hn1; simp at hn1; omega
 cases b with
 | none=>exact absurd (h2 rfl).1 hne
 | some p =>
   obtain ⟨hp,hc⟩:=h3 p rfl;have hq:cq (fN n E) w p.block p.off (oq n xs E.zero):=fun j u hu=>hc j u (by
    have e:(fN n E).cells (oq n xs E.zero) = E.row (oq n xs E.zero).toList:=rfl;rw [e,lT hn1] at hu;exact hu)
   have hx':Opd F g x (.pointer (some ⟨p.block,p.off,none⟩)):=hx;simp only [execOp,hx'.eval hg G,Instr.loadAt,Instr.sureAddr,Sem.run_bind,Sem.run_pure,Result.andThen_ok,hZ T hq]
end
end Go.Gx
