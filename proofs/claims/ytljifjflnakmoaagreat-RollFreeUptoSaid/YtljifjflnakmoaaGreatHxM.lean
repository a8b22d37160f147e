/- Part M: a copy into an array that is part of a variable. -/
import Derived.Test.YtljifjflnakmoaaGreatHxL
set_option linter.unusedVariables false
set_option linter.unusedSimpArgs false
namespace Go.Gx
open Go Go.RowKit
section
variable {α β γ:Type} {P:Program}
variable {K:Ctx} {F:Fr} {L:List Res} {g:Bool} {Q:Exit→Act→World→Prop} {N:Act→World→Prop} {ops:Array Oper}
 {op:Op} {ty t t':TypeId} {pos:String} {af:Array Edge} {d:Nat} {x y:Operand}
def qO {n:Nat} (a:Vector α n) (ys:List α) (z:α):Vector α n:=Vector.ofFn fun i=>if i.val < ys.length then ys.getD i.val z else a[i]
theorem cpyV_toList {n:Nat} {a:Vector α n} {ys:List α} {z:α} (h:ys.length ≤ n):(qO a ys z).toList = ys ++ a.toList.drop ys.length:=by
 apply List.ext_getElem
 ·simp; omega
 ·intro i h1 h2
  by_cases hi:i < ys.length
  ·simp [qO,hi,List.getD]
  ·have h3:¬ i < ys.length:=hi;have e:ys.length + (i - ys.length) = i:=by omega
   simp [qO,h3,List.getElem_append,e]
theorem copyV {E:Enc α} {E':Enc β} {b o n:Nat} {xv:α} {ys:List β} {z:β} {T' e:TypeId} {u:Value} {L':List Res} (ht:P.underlying t = some (.slice e)) (TT:ee P e E') (l:ah E (fN n E') o)
 (hx:Opd F true x (.slice (some ⟨b,o,none⟩) n n)) (hy:Opd F true y u) (hk:ys.length ≤ n) (hsrc:∀ w,aP K L w→aO E' w u ys)
 (hu:Upd L (Var b E xv T') (Var b E (l.set xv (qO (l.get xv) ys z)) T') L') (next:Sat K N ((d,true,I ys.length) :: F) L') (hd:Nat.blt d K.n = true:=by rfl) :
 Sat K (bH P K ops Q ⟨some d,.call { callee:=.builtin .copy,args:=#[x,y],argTypes:=#[t,t'] },ty,pos,af,none⟩ N) F L:=fun a w G=>by
 refine bF rfl rfl fun hnv=>?_
 have hmem:=hu.mem;have tm:Tm P (pmK K) K.E.fr (execOp a.eval ⟨some d,.call { callee:=.builtin .copy,args:=#[x,y],argTypes:=#[t,t'] },ty,pos,af,none⟩):=by
  have e:execOp a.eval ⟨some d,.call { callee:=.builtin .copy,args:=#[x,y],argTypes:=#[t,t'] },ty,pos,af,none⟩ = (Builtin.copy_ #[t,t'] ty #[a.eval x,a.eval y] >>= fun r=>pure (Next.value r)):=by
   simp [execOp,resolve,invoke,builtin]
  rw [e,hx.eval rfl G.fo];exact .bind (.copyTo ht fun b hb=>by cases hb; exact ⟨((G.inv.own _ hmem).2 _ rfl).1,G.inv.fr hmem _ rfl⟩) fun _=>.pure _
 have hb:w.heap[b]? = some (.cells (E.cells xv).toArray T' (0,0)):=(G.inv.own _ hu.mem).1;obtain ⟨sa,sc,rfl,h1,h2,h3,h4⟩:=hsrc w G.inv;have hru:(underlying t).run P w = .ok (.slice e) w:=by simp [underlying,ht]
 have hd':d < K.n:=by simpa [Nat.blt_eq] using hd
 have hn:Nat.min ys.length n = ys.length:=Nat.min_eq_left hk;have hcs:(Builtin.firstCells E'.size ys.length (.slice sa ys.length sc)).run P w = .ok (E'.row ys).toArray w:=by
  cases sa with
  | none =>
    obtain ⟨rfl,rfl⟩:=h3 rfl;simp [Builtin.firstCells,Enc.row]
  | some p =>
    obtain ⟨hps,hpc⟩:=h4 p rfl;refine run_firstCells_some w E'.size _ _ _ _ (E'.row ys) (by rw [E'.bZ]) fun j v hv=>?_
    have hne:ys ≠ []:=fun e=>by rw [e] at hv; simp [Enc.row] at hv
    obtain ⟨pb,po,ps⟩:=p;have h:=hps hne;simp only at h;subst h;rw [fO];exact hpc j v hv
 have hfits:o + n * E'.size ≤ E.size:=l.fits;have hlen:(E'.row ys).length = ys.length * E'.size:=E'.bZ _;have hle:ys.length * E'.size ≤ n * E'.size:=Nat.mul_le_mul_right _ hk;have hst:=run_storeCells_at P b o T' (E'.row ys) 0 (E.cells xv).toArray w hb (by simp [E.len]; omega) (E'.lg _);simp only [Nat.add_zero] at hst;have hcell:(E.cells xv).take o ++ E'.row ys ++ (E.cells xv).drop (o + (E'.row ys).length) = E.cells (l.set xv (qO (l.get xv) ys z)):=by
  rw [l.ny];have e1:(fN n E').cells (qO (l.get xv) ys z) = E'.row ys ++ (E'.row (l.get xv).toList).drop (ys.length * E'.size):=by
   show E'.row (qO (l.get xv) ys z).toList = _;rw [cpyV_toList hk,E'.ja,E'.jy]
  have e2:E'.row (l.get xv).toList = ((E.cells xv).drop o).take (n * E'.size):=(l.oU xv).symm;rw [e1,e2,List.append_assoc,List.append_assoc,List.append_assoc,List.append_cancel_left_eq,List.append_cancel_left_eq,hlen,List.drop_take,List.drop_drop];have e3:(fN n E').size = n * E'.size:=rfl;rw [e3];have e4:(E.cells xv).drop (o + n * E'.size) = ((E.cells xv).drop (o + ys.length * E'.size)).drop (n * E'.size - ys.length * E'.size):=by
   rw [List.drop_drop]
   congr 1
   omega
  rw [e4,List.take_append_drop]
 have he:(execOp a.eval ⟨some d,.call { callee:=.builtin .copy,args:=#[x,y],argTypes:=#[t,t'] },ty,pos,af,none⟩).run P w =
  .ok (.value (I ys.length)) (w.setRow b (E.cells (l.set xv (qO (l.get xv) ys z))).toArray):=by
  simp only [execOp,resolve,invoke,builtin,Builtin.copy_,List.map_toArray,List.map_cons,List.map_nil,hx.eval rfl G.fo,hy.eval rfl G.fo,Sem.run_bind,Sem.run_pure,Result.andThen_ok];simp only [List.getElem?_toArray,List.getElem?_cons_zero,List.getElem?_cons_succ,Sem.run_bind,hru,Result.andThen_ok,Builtin.lenOf,Sem.run_pure,run_sizeOf TT];rw [hn,hcs];simp only [Result.andThen_ok,hst,hcell]
  rfl
 refine nc he tm hnv ?_;have hlt:b < w.heap.size:=(Array.getElem?_eq_some_iff.1 hb).1;refine next _ _ (G.put d true _ _ hd' rfl (G.inv.upd hu (gC _ _ _) (setRow_heap w b _ _ _ _ hb) ?_));intro k hk;have:k = b:=hk;subst this;exact ⟨.inl rfl,by simpa using hlt⟩
end
end Go.Gx
