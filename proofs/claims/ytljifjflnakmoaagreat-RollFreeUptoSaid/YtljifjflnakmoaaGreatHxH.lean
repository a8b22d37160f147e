/- Part H: slices within slices, calls that hand back several new things, letters of strings. -/
import Derived.Test.YtljifjflnakmoaaGreatHxG
set_option linter.unusedVariables false
set_option linter.unusedSimpArgs false
namespace Go.Gx
open Go Go.RowKit
section
variable {α β γ:Type} {P:Program}
variable {K:Ctx} {F:Fr} {L:List Res} {g:Bool} {Q:Exit→Act→World→Prop} {N:Act→World→Prop} {ops:Array Oper}
 {op:Op} {ty t t':TypeId} {pos:String} {af:Array Edge} {d:Nat} {x y:Operand}
theorem subS_one (s:Nat) (v:Value) (l h:Nat) (hv:v.oneCell' = true):(lD s v l h).oneCell' = true:=by
 cases v <;> first | exact hv | rfl
def OV.sub (s:Nat) (o:OV) (l h:Nat):OV:=⟨lD s o.v l h,subS_one s o.v l h o.one⟩
theorem aO.head {E:Enc α} {w:World} {v:Value} {xs ys:List α} (h:aO E w v (xs ++ ys)):aO E w (lD E.size v 0 xs.length) xs:=by
 have:=h.sub (l:=0) (k:=xs.length) (Nat.zero_le _) (by simp)
 simpa using this
def gL {X:Type} (w:World) (J:X→Prop) (val:X→Value) (R:X→List Res):cX:=⟨dI,fun e w'=>∃ x,J x ∧ e = .returned (val x) ∧ aJ dI w w' ∧ News w w' (R x)⟩
theorem dB {X:Type} {f:FuncId} {args:List Operand} {ats:Array TypeId} {vs:List Value} (J:X→Prop) (val:X→Value) (R:X→List Res) (hen:cv P f) (hargs:fq F true args vs)
 (hC:∀ w,aP K L w→Calls P f vs.toArray w (gL w J val R)) (next:∀ x,J x→Sat K N ((d,true,val x) :: F) (R x ++ L)) (hd:Nat.blt d K.n = true:=by rfl) :
 Sat K (bH P K ops Q ⟨some d,.call { callee:=.value (.func f),args:=args.toArray,argTypes:=ats },ty,pos,af,none⟩ N) F L :=
 uu (fun w=>gL w J val R) J val (fun x=>R x ++ L) hen hargs (fun w I=>(hC w I).here I fun _ h=>h.elim) (fun _ _ _ h=>h.elim)
  (fun w I u w' ⟨x,hJ,he,hk,hR⟩=>⟨x,hJ,by cases he; rfl,I.adds hk hR.1 hR.2⟩) next hd
theorem ln {X:Type} {n:Nat} {e0:En} {w0:World} {L:List Res} {J:X→Prop} {val:X→Value} {R:X→List Res} {v:Value} (x:X) (hJ:J x) (hv:v = val x) (hs:(R x).Sublist L):∀ w,aP ⟨n,w0,dI,e0⟩ L w→gL w0 J val R (.returned v) w:=fun w h =>
 ⟨x,hJ,by rw [hv],h.keeps,fun r hr=>by
  obtain ⟨h1,h2⟩:=h.own _ (hs.subset hr);refine ⟨h1,fun b hb=>⟨?_,(h2 b hb).2⟩⟩
  rcases (h2 b hb).1 with h3 | h3
  ·exact h3
  ·exact h3.elim,h.dis.sublist hs⟩
def Shp (v:Value) (n:Nat):Prop:=∃ a cap,v = .slice a n cap ∧ (a = none→n = 0) ∧ ∀ p,a = some p→n ≠ 0→p.spot = none
theorem aO.shp {E:Enc α} {w:World} {v:Value} {xs:List α} (h:aO E w v xs):Shp v xs.length:=by
 obtain ⟨a,cap,rfl,_,_,h2,h3⟩:=h;exact ⟨a,cap,rfl,fun e=>by rw [(h2 e).1]; rfl,fun p hp hn=>(h3 p hp).1 (fun e=>hn (by rw [e]; rfl))⟩
theorem xor_zero {x y:Nat} (h:x ^^^ y = 0):x = y:=by
 have h2:=congrArg (fun z=>x ^^^ z) h;simp only [← Nat.xor_assoc,Nat.xor_self,Nat.zero_xor,Nat.xor_zero] at h2;exact h2.symm
theorem Ev.indexS {k:IntKind} {n:Int} {s:ByteArray} {b:UInt8} (ht:P.underlying t = some .string) (hx:Opd F g x (.string s)) (hy:Opd F g y (.int k n)) (hi:g = true→0 ≤ n ∧ s[n.toNat]? = some b) :
 Ev P K F L g (.index t x y) ty (U8 b):=.of rfl (fun hg a G w hw dst pos af gd=>by
 obtain ⟨h1,h2⟩:=hi hg;show Tm P _ _ (Instr.index t (a.eval x) (a.eval y) >>= fun r=>pure (Next.value r));rw [hx.eval hg G,hy.eval hg G];refine .bind ?_ fun _=>.pure _
 unfold Instr.index;refine .known (b:=(k,n)) (.asIntOf _) (fun v=>rfl) (.under ht ?_);simp only [h1,if_true,h2];exact .pure _) fun hg a G w hw dst pos af gd=>by
 obtain ⟨h1,h2⟩:=hi hg;have hu:(underlying t).run P w = .ok .string w:=by simp [underlying,ht]
 simp only [execOp,Instr.index,asIntOf,hx.eval hg G,hy.eval hg G,Sem.run_bind,Sem.run_pure,Result.andThen_ok,hu,h1,if_true,h2,U8]
end
end Go.Gx
