/- Part N: a call under a guard that hands back something new. -/
import Derived.Test.YtljifjflnakmoaaGreatHxM
import Derived.Test.YtljifjflnakmoaaGreatHxG
set_option linter.unusedVariables false
set_option linter.unusedSimpArgs false
namespace Go.Gx
open Go Go.RowKit
section
variable {α β γ:Type} {P:Program}
variable {K:Ctx} {F:Fr} {L:List Res} {g:Bool} {Q:Exit→Act→World→Prop} {N:Act→World→Prop} {ops:Array Oper}
 {op:Op} {ty t t':TypeId} {pos:String} {af:Array Edge} {d:Nat} {x y:Operand}
def GdS (c:Bool) (v:Value) (E:Enc α) (xs:List α) (T:TypeId):Res where
 bQ:=fun b=>c = true ∧ (aT v E xs T).bQ b
 A:=fun w=>c = true→(aT v E xs T).A w
 st:=fun w w' h h1 hc=>(aT v E xs T).st w w' (fun b hb=>h b ⟨hc,hb⟩) (h1 hc)
theorem isSl_gd {c:Bool} {v:Value} {E:Enc α} {xs:List α} {T:TypeId} (hm:GdS c v E xs T ∈ L) (hc:c = true) (w:World) (h:aP K L w):aO E w v xs:=aO.gN ((h.own _ hm).1 hc)
theorem callgo {f:FuncId} {args:List Operand} {ats:Array TypeId} {vs:List Value} {E:Enc α} {xs:List α} {T:TypeId} {j tg:Nat} {want c1 c2:Bool} (hj:(ops[j]?).bind (·.dst) = some tg) (hg:look F tg = some (c1,.bool c2))
 (hen:cv P f) (hargs:fq F (c1 && (c2 == want)) args vs)
 (hC:(c1 && (c2 == want)) = true→∀ w,aP K L w→Calls P f vs.toArray w (mE w E xs T)) (next:∀ o:OV,Sat K N ((d,(c1 && (c2 == want)),o.v) :: F) (GdS (c1 && (c2 == want)) o.v E xs T :: L)) (hd:Nat.blt d K.n = true:=by rfl) :
 Sat K (bH P K ops Q ⟨some d,.call { callee:=.value (.func f),args:=args.toArray,argTypes:=ats },ty,pos,af,some (j,want)⟩ N) F L:=fun a w G=>by
 unfold bH;rw [j9 rfl hj hg G.fo];have hd':d < K.n:=by simpa [Nat.blt_eq] using hd
 cases hc:(c1 && (c2 == want)) with
 | true =>
   rw [if_pos rfl];rw [hc] at next;exact ⟨.inl rfl,fun _=>qR (X:=Value) rfl (fun v=>v.oneCell' = true) (fun v=>v) (fun v=>GdS true v E xs T :: L) G (qL hen hargs hc G.fo w) ((hC hc w G.inv).here G.inv fun _ h=>h.elim) (fun _ h=>h.elim)
    (fun u w' ⟨v,he,hk,_,hn⟩=>have h1:=hn.1 _ List.mem_cons_self; ⟨v,wP h1.1,by cases he; rfl,G.inv.add hk (fun _=>h1.1) (fun b hb=>h1.2 b hb.2)⟩) (fun v h=>next ⟨v,h⟩) hd⟩
 | false =>
   rw [if_neg Bool.false_ne_true];rw [hc] at next;exact next ai _ _ (G.put d false ai.v undef hd' rfl (G.inv.add (aJ.refl _ _) (fun h=>absurd h Bool.false_ne_true) (fun b hb=>absurd hb.1 Bool.false_ne_true)))
end
end Go.Gx
