/- Part F: make, copy, comparing bytes, small things. -/
import Derived.Lib.Bytealg
import Derived.Laws.Externs
import Derived.Test.YtjanhajdmhalaaaGreatHxE
set_option linter.unusedVariables false
set_option linter.unusedSimpArgs false
namespace Go.Gx
open Go Go.RowKit
section
variable {α β γ:Type} {P:Program}
variable {K:Ctx} {F:Fr} {L:List Res} {g:Bool} {Q:Exit→Act→World→Prop} {N:Act→World→Prop} {ops:Array Oper}
  {op:Op} {ty t t':TypeId} {pos:String} {af:Array Edge} {d:Nat} {x y:Operand}
theorem made_toList (E:Enc α) (x:α) (c:Nat) (hsz:0 < E.size):(madeCells (E.val x).cells (c * E.size)).toList = E.row (List.replicate c x):=by
  apply List.ext_getElem?
  intro k
  have hz:(E.val x).cells.size = E.size:=by simp [E.cK,E.len]
  by_cases hk:k < c * E.size
  · have h1:k / E.size < c:=Nat.div_lt_of_lt_mul (by rwa [Nat.mul_comm] at hk)
    have h2:k % E.size < E.size:=Nat.mod_lt _ hsz
    have h3:k = k / E.size * E.size + k % E.size:=by rw [Nat.mul_comm]; exact (Nat.div_add_mod k E.size).symm
    have h4:=E.row_get (List.replicate c x) (k / E.size) (k % E.size) x (by simpa using h1) h2
    rw [← h3] at h4
    rw [h4]
    have h5:(List.replicate c x).getD (k / E.size) x = x:=by simp [List.getD,h1]
    rw [h5]
    have h6:k % E.size < (E.cells x).length:=by rw [E.len]; exact h2
    have h7:k % E.size < (E.val x).cells.size:=by rw [hz]; exact h2
    simp only [madeCells,Array.getElem?_toList,Array.getElem?_map,Array.getElem?_range,hk,if_true,Option.map_some,hz]
    rw [getElem!_pos (E.val x).cells (k % E.size) h7,List.getElem?_eq_getElem h6]
    simp [E.cK]
  · rw [List.getElem?_eq_none (by rw [Array.length_toList,size_madeCells]; omega),List.getElem?_eq_none (by rw [E.du]; simp; omega)]
theorem Tm.makeSlice {pm:Nat→Prop} {fr:Nat} (t:TypeId) (x y:Value):Tm P pm fr (Instr.makeSlice t x y):=by
  unfold Instr.makeSlice
  repeat' with_reducible first
    | exact .pure _
    | exact .stuck _
    | exact .runtimePanic _
    | exact .dead (.bind (.runtimePanic _) _)
    | refine .bind (.underlying _) fun _=>?_
    | refine .bind (.asInt _) fun _=>?_
    | refine .bind (.typeInfo _) fun _=>?_
    | refine .bind (.sizeOf _) fun _=>?_
    | refine .bind (.zeroValue _) fun _=>?_
    | refine .bind (.choose _) fun _=>?_
    | refine .bind (.askRoom _) fun _=>?_
    | refine .bind (.newRow _ _) fun _=>?_
    | refine .bind (.pure _) fun _=>?_
    | split
    | dsimp only
theorem Ev.extract {i:Nat} {vs:List Value} {v:Value} (hx:Opd F g x (.tuple vs.toArray)) (hv:vs[i]? = some v):Ev P K F L g (.extract x i) ty v:=.of rfl (fun hg a G w hw dst pos af gd=>by
    have e1:execOp a.eval ⟨dst,.extract x i,ty,pos,af,gd⟩ = pure (.value v):=by simp [execOp,Instr.extract,hx.eval hg G,hv]
    rw [e1]
    exact .pure _) fun hg a G w hw dst pos af gd=>by
  simp [execOp,Instr.extract,hx.eval hg G,hv]
theorem Ev.oV {m n:Int} (hx:Opd F g x (I m)) (hy:Opd F g y (I n)) {ats:Array TypeId}:Ev P K F L g (.call { callee:=.builtin .min,args:=#[x,y],argTypes:=ats }) ty (I (min m n)):=.of rfl (fun hg a G w hw dst pos af gd=>by
    have e1:execOp a.eval ⟨dst,.call { callee:=.builtin .min,args:=#[x,y],argTypes:=ats },ty,pos,af,gd⟩ = (do pure (.value (← Builtin.min2 (I m) (I n)))):=by
      simp [execOp,resolve,invoke,builtin,Builtin.min_,hx.eval hg G,hy.eval hg G]
    rw [e1]
    exact .bind (.pure _) fun _=>.pure _) fun hg a G w hw dst pos af gd=>by
  simp [execOp,resolve,invoke,builtin,Builtin.min_,Builtin.min2,hx.eval hg G,hy.eval hg G,I]
  omega
theorem Ev.dp {E:Enc α} {v:Value} {xs:List α} {i:Int} (T:bF P t E) (hx:Opd F g x (jV v (i.toNat * E.size))) (h:∀ w,bh K L w→bH E w v xs) (hi:g = true→0 ≤ i ∧ i < xs.length) :
    Ev P K F L g (.load t x) ty (E.val (xs.getD i.toNat E.zero)):=Ev.loadS T (ak.id E) (Nat.add_zero _).symm hx h hi
theorem Ev.to {v v':Value} (h:Ev P K F L g op ty v) (e:v = v'):Ev P K F L g op ty v':=e ▸ h
end
end Go.Gx
