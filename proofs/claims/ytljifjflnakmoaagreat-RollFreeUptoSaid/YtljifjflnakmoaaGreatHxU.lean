/- Part U: a range over a string. -/
import Derived.Laws.RangeString
import Derived.Test.YtljifjflnakmoaaGreatHxT
set_option linter.unusedVariables false
set_option linter.unusedSimpArgs false
namespace Go.Gx
open Go Go.RowKit
section
variable {α β γ:Type} {P:Program}
variable {K:Ctx} {F:Fr} {L:List Res} {g:Bool} {Q:Exit→Act→World→Prop} {N:Act→World→Prop} {ops:Array Oper}
 {op:Op} {ty t t':TypeId} {pos:String} {af:Array Edge} {d:Nat} {x y:Operand}
theorem decode_high (s:ByteArray) (i:Nat) (h:128 ≤ (s.get! i).toNat):128 ≤ (Utf8.decode s i).1:=by
 unfold Utf8.decode;simp only [Nat.add_zero];rw [if_neg (by omega)];split
 ·split <;> first | (simp only; omega) | (simp [Utf8.runeError])
 split
 ·split
  ·rename_i hc;simp only [Bool.and_eq_true,decide_eq_true_eq] at hc;simp only;omega
  ·simp [Utf8.runeError]
 split
 ·split
  ·rename_i hc;simp only [Bool.and_eq_true,decide_eq_true_eq] at hc;simp only;omega
  ·simp [Utf8.runeError]
 ·simp [Utf8.runeError]
def StrIt (r:Nat) (s:ByteArray) (p:Nat):Res where
 bQ:=fun k=>k = r
 A:=fun w=>w.heap[r]? = some (.stringIter s p)
 st:=fun w w' h h1=>by rw [h r rfl]; exact h1
theorem startRangeS {s:ByteArray} (ht:P.underlying t = some .string) (hx:Opd F true x (.string s)) (next:∀ r,Sat K N ((d,true,.pointer (some ⟨r,0,none⟩)) :: F) (StrIt r s 0 :: L)) (hd:Nat.blt d K.n = true:=by rfl) :
 Sat K (bH P K ops Q ⟨some d,.range t x,ty,pos,af,none⟩ N) F L:=fun a w G=>by
 refine bF rfl rfl fun hn=>?_
 have hru:(underlying t).run P w = .ok .string w:=by simp [underlying,ht]
 have hr:(execOp a.eval ⟨some d,.range t x,ty,pos,af,none⟩).run P w = .ok (.value (.pointer (some ⟨w.heap.size,0,none⟩))) { w with heap:=w.heap.push (.stringIter s 0) }:=by
  simp [execOp,Instr.range,hx.eval rfl G.fo,hru]
 refine nc hr (by
  show Tm P _ _ (Instr.range t (a.eval x) >>= fun r=>pure (Next.value r));rw [hx.eval rfl G.fo];refine .bind ?_ fun _=>.pure _
  unfold Instr.range;exact .under ht (.known (b:=.stringIter s 0) (.pure _) (fun _=>rfl) (.bind (.newObj _ rfl rfl) fun _=>.pure _))) hn ?_
 refine next w.heap.size _ _ (G.put d true _ _ (by simpa [Nat.blt_eq] using hd) rfl (G.inv.add (aJ.alloc _ _ _) ?_ ?_))
 ·show _ = _;simp
 ·intro b hb;have:b = w.heap.size:=hb;subst this;simp
theorem nextStr {r p:Nat} {s:ByteArray} {L':Nat→List Res} (hx:Opd F true x (.pointer (some ⟨r,0,none⟩))) (hU:∀ q,Upd L (StrIt r s p) (StrIt r s q) (L' q))
 (nil:¬ p < s.size→Sat K N ((d,true,.tuple #[.bool false]) :: F) (L' p))
 (next:p < s.size→Sat K N ((d,true,.tuple #[.bool true,I p,.int .i32 (Utf8.decode s p).1]) :: F) (L' (p + (Utf8.decode s p).2))) (hd:Nat.blt d K.n = true:=by rfl) :
 Sat K (bH P K ops Q ⟨some d,.next x true,ty,pos,af,none⟩ N) F L:=fun a w G=>by
 refine bF rfl rfl fun hn=>?_
 have h1:w.heap[r]? = some (.stringIter s p):=(G.inv.own _ (hU p).mem).1;have hlt:r < w.heap.size:=(Array.getElem?_eq_some_iff.1 h1).1;have hd':d < K.n:=by simpa [Nat.blt_eq] using hd
 have hgo:(getObj r).run P w = .ok (.stringIter s p) w:=by simp [getObj,Sem.run,h1]
 have hso:∀ o,(setObj r o).run P w = .ok () { w with heap:=w.heap.setIfInBounds r o }:=fun o=>by simp [setObj,Sem.run,h1]
 have tmo:TmW P (pmK K) K.E.fr (execOp a.eval ⟨some d,.next x true,ty,pos,af,none⟩) w:=by
  have hmem:=(hU p).mem;show TmW P _ _ (Instr.next (a.eval x) true ty >>= fun r=>pure (Next.value r)) w;rw [hx.eval rfl G.fo];refine .bind ?_ fun _ _ _=>(Tm.pure _).at
  unfold Instr.next;refine .getObj h1 rfl rfl (by intro c e z h; cases h) ?_;dsimp only;split
  ·exact .bind (.setObj h1 rfl ((G.inv.own _ hmem).2 r rfl).1 (G.inv.fr hmem r rfl) rfl rfl rfl) fun _ _ _=>(Tm.pure _).at
  ·exact (Tm.pure _).at
 by_cases hp:p < s.size
 ·have hr:(execOp a.eval ⟨some d,.next x true,ty,pos,af,none⟩).run P w = .ok (.value (.tuple #[.bool true,I p,.int .i32 (Utf8.decode s p).1])) { w with heap:=w.heap.setIfInBounds r (.stringIter s (p + (Utf8.decode s p).2)) }:=by
   simp [execOp,Instr.next,hx.eval rfl G.fo,hgo,hp,hso,goInt,I]
  refine opRunW hr tmo hn (next hp _ _ (G.put d true _ _ hd' rfl (G.inv.upd (hU _) (rk w r _) ?_ ?_)))
  ·show _ = _;simp [hlt]
  ·intro k hk;have:k = r:=hk;subst this;exact ⟨.inl rfl,by simpa using hlt⟩
 ·have hr:(execOp a.eval ⟨some d,.next x true,ty,pos,af,none⟩).run P w = .ok (.value (.tuple #[.bool false])) w:=by
   simp [execOp,Instr.next,hx.eval rfl G.fo,hgo,hp]
  refine opRunW hr tmo hn (nil hp _ _ (G.put d true _ _ hd' rfl (G.inv.upd (hU p) (aJ.refl _ _) h1 ?_)));intro k hk;have:k = r:=hk;subst this;exact ⟨.inl rfl,hlt⟩
theorem Ev.eql_i32 {m n:Int} (hx:Opd F g x (.int .i32 m)) (hy:Opd F g y (.int .i32 n)):Ev P K F L g (.binOp .eql t x y t') ty (.bool (decide (m = n))) :=
 Ev.fa hx hy (dg (by unfold Op.intCmp; rfl) (.inl rfl))
theorem Ev.leq_i32 {m n:Int} (hx:Opd F g x (.int .i32 m)) (hy:Opd F g y (.int .i32 n)):Ev P K F L g (.binOp .leq t x y t') ty (.bool (decide (m ≤ n))) :=
 Ev.fa hx hy (dg rfl (.inr (.inr (.inr (.inl rfl)))))
theorem Ev.geq_i32 {m n:Int} (hx:Opd F g x (.int .i32 m)) (hy:Opd F g y (.int .i32 n)):Ev P K F L g (.binOp .geq t x y t') ty (.bool (decide (n ≤ m))) :=
 Ev.fa hx hy (dg rfl (.inr (.inr (.inr (.inr (.inr rfl))))))
theorem Ev.lenS {s:ByteArray} (ht:P.underlying t = some .string) (hx:Opd F g x (.string s)):Ev P K F L g (.call { callee:=.builtin .len,args:=#[x],argTypes:=#[t] }) ty (I s.size):=.of rfl (fun hg a G w _ dst pos af gd=>by
 have e:execOp a.eval ⟨dst,.call { callee:=.builtin .len,args:=#[x],argTypes:=#[t] },ty,pos,af,gd⟩ = (Builtin.len_ #[t] ty #[.string s] >>= fun r=>pure (Next.value r)):=by
  simp [execOp,resolve,invoke,builtin,hx.eval hg G]
 rw [e];exact .bind (.under ht (.pure _)) fun _=>.pure _) fun hg a G w _ dst pos af gd=>by
 have hru:(underlying t).run P w = .ok .string w:=by simp [underlying,ht]
 simp [execOp,resolve,invoke,builtin,Builtin.len_,hx.eval hg G,hru,goInt,I]
end
end Go.Gx
