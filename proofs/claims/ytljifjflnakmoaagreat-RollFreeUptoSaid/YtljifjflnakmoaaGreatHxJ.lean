/- Part J: pointers, closures. -/
import Derived.Laws.Pointers
import Derived.Test.YtljifjflnakmoaaGreatHxI
set_option linter.unusedVariables false
set_option linter.unusedSimpArgs false
namespace Go.Gx
open Go Go.RowKit
section
variable {α β γ:Type} {P:Program}
variable {K:Ctx} {F:Fr} {L:List Res} {g:Bool} {Q:Exit→Act→World→Prop} {N:Act→World→Prop} {ops:Array Oper}
 {op:Op} {ty t t':TypeId} {pos:String} {af:Array Edge} {d:Nat} {x y:Operand}
theorem Ev.nilCheck {a:Addr} (hx:Opd F g x (.pointer (some a))):Ev P K F L g (.nilCheck x) ty (.pointer (some a)):=.of rfl (fun hg ac G w _ dst pos af gd=>by
 have e1:execOp ac.eval ⟨dst,.nilCheck x,ty,pos,af,gd⟩ = pure (.value (.pointer (some a))):=by simp [execOp,hx.eval hg G]
 rw [e1];exact .pure _) fun hg ac G w _ dst pos af gd=>by
 simp only [execOp,hx.eval hg G,Sem.run_pure]
theorem rG {op:BinOp} {p q:Option Addr} (w:World):(eqGuard op t x y (.pointer p) (.pointer q)).run P w = .ok () w:=by
 unfold eqGuard;cases op <;> rfl
theorem mM {pm:Nat→Prop} {fr:Nat} {op:BinOp} {p q:Option Addr}:Tm P pm fr (eqGuard op t x y (.pointer p) (.pointer q)):=by
 unfold eqGuard;cases op <;> exact .pure _
theorem ou {pm:Nat→Prop} {fr:Nat} {e:TypeId} {p:Option Addr} (ht:P.underlying t = some (.pointer e)):Tm P pm fr (Op.equal t (.pointer p) (.pointer none)):=by
 show Tm P pm fr (Op.equalIn (9999 + 1) t (.pointer p) (.pointer none));unfold Op.equalIn;refine .under ht ?_;cases p <;> exact .pure _
theorem tq {e:TypeId} (ht:P.underlying t = some (.pointer e)):P.underlying t = some (.pointer (P.pointee t)):=by
 unfold Program.pointee;rw [ht]
theorem Ev.eql_p {e:TypeId} {p:Option Addr} (ht:P.underlying t = some (.pointer e)) (hx:Opd F g x (.pointer p)) (hy:Opd F g y (.pointer none)):Ev P K F L g (.binOp .eql t x y t') ty (.bool p.isNone) :=
 Ev.bin hx hy (fun w=>rG w) (fun w=>run_eql_pointer_nil w t p (tq ht)) mM (by cases p <;> exact .bind (ou ht) fun _=>.pure _)
theorem Ev.tB {e:TypeId} {p:Option Addr} (ht:P.underlying t = some (.pointer e)) (hx:Opd F g x (.pointer p)) (hy:Opd F g y (.pointer none)):Ev P K F L g (.binOp .neq t x y t') ty (.bool (!p.isNone)) :=
 Ev.bin hx hy (fun w=>rG w) (fun w=>run_neq_pointer_nil w t p (tq ht)) mM (by cases p <;> exact .bind (ou ht) fun _=>.pure _)
def clo (f:FuncId) (cap:List Value):OV:=⟨.func (.func f) #[] cap.toArray,rfl⟩
theorem Ev.makeFunc {f:FuncId} {caps:List Operand} {vs:List Value} (h:fq F g caps vs):Ev P K F L g (.makeFunc (.func f) #[] caps.toArray) ty (clo f vs).v:=.of rfl (fun _ _ _ _ _ _ _ _ _=>.bind (.pure _) fun _=>.pure _) fun hg a G w _ dst pos af gd=>by
 have h1:=h.eval hg G;simp [execOp,Instr.makeFunc,clo,h1]
theorem exec_callc {f:FuncId} {cap:List Value} {args:List Operand} {ats:Array TypeId} {vs:List Value} (hx:Opd F g x (clo f cap).v) (hen:cv P f) (hargs:fq F g args vs) (hg:g = true) {a:Act} (G:gB K F a) {pm:Nat→Prop} {fr:Nat} (w:World) {dst:Option Tmp} {gd:Option (Nat × Bool)} :
 (execOp a.eval ⟨dst,.call { callee:=.value x,args:=args.toArray,argTypes:=ats },ty,pos,af,gd⟩).wpS P pm fr (fun n w'=>n = .enter f (vs ++ cap).toArray ∧ w' = w) w:=by
 have h1:=hargs.eval hg G;have h2:=hx.eval hg G;have h3:(clo f cap).v = .func (.func f) #[] cap.toArray:=rfl;rw [h3] at h2;have e:execOp a.eval ⟨dst,.call { callee:=.value x,args:=args.toArray,argTypes:=ats },ty,pos,af,gd⟩ = callFunc f (vs ++ cap).toArray:=by
  simp [execOp,resolve,Deferred.ofValue,invoke,h1,h2]
 rw [e];exact dZ hen _ w
theorem jS {f:FuncId} {cap:List Value} {args:List Operand} {ats:Array TypeId} {vs:List Value} {u:Value} (hx:Opd F true x (clo f cap).v) (hen:cv P f) (hargs:fq F true args vs)
 (hC:∀ w,aP K L w→Calls P f (vs ++ cap).toArray w (bG w u)) (next:Sat K N ((d,true,u) :: F) L) (hd:Nat.blt d K.n = true:=by rfl) :
 Sat K (bH P K ops Q ⟨some d,.call { callee:=.value x,args:=args.toArray,argTypes:=ats },ty,pos,af,none⟩ N) F L:=fun a w G =>
 bF rfl rfl fun _=>qR (X:=Unit) rfl (fun _=>True) (fun _=>u) (fun _=>L) G (exec_callc hx hen hargs rfl G.fo w) ((hC w G.inv).here G.inv fun _ h=>h.elim) (fun _ h=>h.elim)
  (fun v w' q=>⟨(),trivial,(gW G.inv q).1,(gW G.inv q).2⟩) (fun _ _=>next) hd
theorem cq.cn {E:Enc α} {w w':World} {b off:Nat} {x:α} (h:cq E w b off x) (k:aJ dI w w'):cq E w' b off x:=fun j u hu=>by
 have h1:=h j u hu;have hb:b < w.heap.size:=by
  rcases Nat.lt_or_ge b w.heap.size with h2 | h2
  ·exact h2
  ·simp [World.cell?,Array.getElem?_eq_none h2] at h1
 rw [← h1];simp only [World.cell?];rw [k.block b hb (fun h=>h)]
theorem c9 {E:Enc α} {E':Enc β} {b o:Nat} {xv:α} (h:∀ w,aP K L w→cq E w b 0 xv) (l:ah E E' o) (w:World) (I:aP K L w):cq E' w b o (l.get xv):=by
 have h2:=l.pts (h w I)
 rwa [Nat.zero_add] at h2
end
end Go.Gx
