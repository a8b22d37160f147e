/- Part K: bytes as a string, strings alike. -/
import Derived.Laws.BytesArg
import Derived.Laws.IdiomStrings
import Derived.Laws.Strings
import Derived.Test.YtljifjflnakmoaaGreatHxJ
set_option linter.unusedVariables false
set_option linter.unusedSimpArgs false
namespace Go.Gx
open Go Go.RowKit
section
variable {α β γ:Type} {P:Program}
variable {K:Ctx} {F:Fr} {L:List Res} {g:Bool} {Q:Exit→Act→World→Prop} {N:Act→World→Prop} {ops:Array Oper}
 {op:Op} {ty t t':TypeId} {pos:String} {af:Array Edge} {d:Nat} {x y:Operand}
theorem u8_row (xs:List UInt8) (j:Nat) (h:j < xs.length):(u8E.row xs)[j]? = some (.int .u8 (xs[j].toNat:Int)):=by
 have e:∀ l:List UInt8,u8E.row l = l.map fun b=>Value.int .u8 (b.toNat:Int):=fun l=>by
  unfold Enc.row
  induction l with
  | nil=>rfl
  | cons a l ih=>rw [List.flatMap_cons,List.map_cons,ih]; rfl
 rw [e];simp [h]
theorem Tm.convBytes {pm:Nat→Prop} {fr:Nat} {t t' e:TypeId} {b:Option Addr} {n c:Nat} (hs:P.underlying t = some (.slice e)) (he:P.underlying e = some (.int .u8)) (hd:P.underlying t' = some .string):Tm P pm fr (convert t t' (.slice b n c)):=by
 unfold convert;refine .under hs (.under hd (.under he ?_));unfold Conv.bytesToString;cases b with
 | none=>exact .pure _
 | some a =>
   refine .bind (.loadCells _ _) fun cs=>.bind ?_ fun _=>.pure _
   rw [← Array.forIn_toList];refine .forIn _ (fun x s=>?_) _ _;split <;> first | exact .bind (.pure _) fun _=>.pure _ | exact .bind (.stuck _) fun _=>.pure _ | exact .pure _ | exact .stuck _
theorem Ev.convBS {e:TypeId} {v:Value} {xs:List UInt8} (hs:P.underlying t = some (.slice e)) (he:P.underlying e = some (.int .u8)) (hd:P.underlying t' = some .string) (hx:Opd F g x v)
 (h:∀ w,aP K L w→aO u8E w v xs):Ev P K F L g (.convert t t' x) ty (.string ⟨xs.toArray⟩):=.of rfl (fun hg a G w hw _ _ _ _=>by
 obtain ⟨b,cap,rfl,_,_,_,_⟩:=h w hw;show Tm P _ _ (convert t t' (a.eval x) >>= fun r=>pure (Next.value r));rw [hx.eval hg G];exact .bind (.convBytes hs he hd) fun _=>.pure _) fun hg a G w hw dst pos af gd=>by
 obtain ⟨b,cap,rfl,_,_,h2,h3⟩:=h w hw;have hr:(convert t t' (.slice b xs.length cap)).run P w = .ok (.string ⟨xs.toArray⟩) w:=by
  cases b with
  | none =>
    obtain ⟨rfl,_⟩:=h2 rfl;exact run_convert_bytes_nil w t e hs he _ _ t' hd
  | some p =>
    obtain ⟨h4,h5⟩:=h3 p rfl;refine run_convert_bytes_back w t t' e p cap xs hs he hd fun j hj=>?_
    have hp:=h4 (fun e=>by rw [e] at hj; cases hj);obtain ⟨pb,po,ps⟩:=p;simp only at hp;subst hp;rw [fO];exact h5 j _ (u8_row xs j hj)
 simp only [execOp,hx.eval hg G,Sem.run_bind,hr,Result.andThen_ok,Sem.run_pure]
def RetW (v:Value) (E:Enc α) (xs ys:List α) (T:TypeId) (u:Value) (w:World):cX:=⟨(aT v E xs T).bQ,fun e w'=>e = .returned u ∧ aJ (aT v E xs T).bQ w w' ∧ (aT v E ys T).A w'⟩
theorem callw {f:FuncId} {args:List Operand} {ats:Array TypeId} {vs:List Value} {v u:Value} {E:Enc α} {xs ys:List α} {T:TypeId} {L':List Res} (hu:Upd L (aT v E xs T) (aT v E ys T) L') (hen:cv P f) (hargs:fq F true args vs)
 (hC:∀ w,aP K L w→Calls P f vs.toArray w (RetW v E xs ys T u w)) (next:Sat K N ((d,true,u) :: F) L') (hd:Nat.blt d K.n = true:=by rfl) :
 Sat K (bH P K ops Q ⟨some d,.call { callee:=.value (.func f),args:=args.toArray,argTypes:=ats },ty,pos,af,none⟩ N) F L :=
 uu (fun w=>RetW v E xs ys T u w) (X:=Unit) (fun _=>True) (fun _=>u) (fun _=>L') hen hargs (fun w I=>(hC w I).here I (I.fr hu.mem)) (fun w I b hb=>((I.own _ hu.mem).2 b hb).1)
  (fun w I e w' ⟨he,hk,ha⟩=>⟨(),trivial,by cases he; rfl,I.upd hu hk ha (fun b hb=>⟨.inl hb,Nat.lt_of_lt_of_le ((I.own _ hu.mem).2 b hb).2 hk.size⟩)⟩) (fun _ _=>next) hd
theorem start_own {n:Nat} {v:Value} {E:Enc α} {xs:List α} {T:TypeId} {w:World} (h:(aT v E xs T).A w) (hb:∀ b,v.ownBlock = some b→b < w.heap.size):∀ e0:En,Ctx.OK ⟨n,w,(aT v E xs T).bQ,e0⟩→aP ⟨n,w,(aT v E xs T).bQ,e0⟩ [aT v E xs T] w:=fun e0 ok =>
 ⟨aJ.refl _ _,fun r hr=>by
  obtain rfl:=List.mem_singleton.1 hr;exact ⟨h,fun b hb'=>⟨.inr hb',hb b hb'⟩⟩,List.pairwise_singleton _ _,ok⟩
end
end Go.Gx
