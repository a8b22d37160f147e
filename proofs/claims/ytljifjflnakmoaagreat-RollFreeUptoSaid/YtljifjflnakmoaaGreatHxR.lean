/- Part R: calls that turn a thing they were handed; several things as one; closures with a state. -/
import Derived.Test.YtljifjflnakmoaaGreatHxP
set_option linter.unusedVariables false
set_option linter.unusedSimpArgs false
namespace Go.Gx
open Go Go.RowKit
section
variable {α β γ:Type} {P:Program}
variable {K:Ctx} {F:Fr} {L:List Res} {g:Bool} {Q:Exit→Act→World→Prop} {N:Act→World→Prop} {ops:Array Oper}
 {op:Op} {ty t t':TypeId} {pos:String} {af:Array Edge} {d:Nat} {x y:Operand}
def Sep (r s:Res):Res where
 bQ:=fun b=>r.bQ b ∨ s.bQ b
 A:=fun w=>r.A w ∧ s.A w ∧ r.qZ s
 st:=fun w w' h ⟨h1,h2,h3⟩=>⟨r.st w w' (fun b hb=>h b (.inl hb)) h1,s.st w w' (fun b hb=>h b (.inr hb)) h2,h3⟩
theorem aP.lW {r s:Res} {w:World} (h:aP K (Sep r s :: L) w):aP K (r :: s :: L) w:=by
 obtain ⟨h1,h2,h3,h9⟩:=h;obtain ⟨⟨a1,a2,a3⟩,a4⟩:=h2 _ List.mem_cons_self;rw [List.pairwise_cons] at h3;refine ⟨h1,?_,?_,h9⟩
 ·intro q hq
  rcases List.mem_cons.1 hq with rfl | hq
  ·exact ⟨a1,fun b hb=>a4 b (.inl hb)⟩
  rcases List.mem_cons.1 hq with rfl | hq
  ·exact ⟨a2,fun b hb=>a4 b (.inr hb)⟩
  ·exact h2 q (List.mem_cons_of_mem _ hq)
 ·refine List.pairwise_cons.2 ⟨?_,List.pairwise_cons.2 ⟨?_,h3.2⟩⟩
  ·intro q hq
   rcases List.mem_cons.1 hq with rfl | hq
   ·exact a3
   ·exact fun b hb hb'=>h3.1 q hq b (.inl hb) hb'
  ·exact fun q hq b hb hb'=>h3.1 q hq b (.inr hb) hb'
theorem aP.px {r s:Res} {w:World} (h:aP K (r :: s :: L) w):aP K (Sep r s :: L) w:=by
 obtain ⟨h1,h2,h3,h9⟩:=h;rw [List.pairwise_cons,List.pairwise_cons] at h3;obtain ⟨k1,k2⟩:=h2 r List.mem_cons_self;obtain ⟨l1,l2⟩:=h2 s (List.mem_cons_of_mem _ List.mem_cons_self);refine ⟨h1,?_,List.pairwise_cons.2 ⟨?_,h3.2.2⟩,h9⟩
 ·intro q hq
  rcases List.mem_cons.1 hq with rfl | hq
  ·exact ⟨⟨k1,l1,h3.1 s List.mem_cons_self⟩,fun b hb=>hb.elim (k2 b) (l2 b)⟩
  ·exact h2 q (List.mem_cons_of_mem _ (List.mem_cons_of_mem _ hq))
 ·rintro q hq b (hb | hb) hb'
  ·exact h3.1 q (List.mem_cons_of_mem _ hq) b hb hb'
  ·exact h3.2.1 q hq b hb hb'
theorem aP.perm {L':List Res} {w:World} (h:aP K L w) (hp:L'.Perm L):aP K L' w :=
 ⟨h.keeps,fun r hr=>h.own r (hp.mem_iff.1 hr),(hp.pairwise_iff (fun {_ _} hd=>hd.symm)).2 h.dis,h.ok⟩
theorem Rem.perm {r:Res} {L L':List Res} (h:Rem L r L'):(r :: L').Perm L:=by
 obtain ⟨A,C,rfl,rfl⟩:=h;exact List.perm_middle.symm
theorem lW {r s:Res} {L':List Res} {X:Act→World→Prop} (h:Rem L (Sep r s) L') (next:Sat K X F (r :: s :: L')):Sat K X F L:=fun a w G =>
 next a w ⟨G.fo,(G.inv.perm h.perm).lW⟩
theorem px {r s:Res} {L1 L':List Res} {X:Act→World→Prop} (h1:Rem L r L1) (h2:Rem L1 s L') (next:Sat K X F (Sep r s :: L')):Sat K X F L:=fun a w G =>
 next a w ⟨G.fo,((G.inv.perm h1.perm).perm (h2.perm.cons r)).px⟩
def fV {X:Type} (w:World) (r:Res) (J:X→Prop) (val:X→Value) (r':X→Res):cX:=⟨r.bQ,fun e w' =>
 ∃ x,J x ∧ e = .returned (val x) ∧ aJ r.bQ w w' ∧ (r' x).A w' ∧ ∀ b,(r' x).bQ b→(r.bQ b ∨ w.heap.size ≤ b) ∧ b < w'.heap.size⟩
def At (r:Res) (w:World):Prop:=r.A w ∧ ∀ b,r.bQ b→b < w.heap.size
theorem at_mem {r:Res} (h:r ∈ L) (w:World) (I:aP K L w):At r w:=⟨(I.own r h).1,fun b hb=>((I.own r h).2 b hb).2⟩
theorem gU {n:Nat} {r:Res} {w:World} (h:At r w):∀ e0:En,Ctx.OK ⟨n,w,r.bQ,e0⟩→aP ⟨n,w,r.bQ,e0⟩ [r] w:=fun e0 ok =>
 ⟨aJ.refl _ _,fun q hq=>by
  obtain rfl:=List.mem_singleton.1 hq;exact ⟨h.1,fun b hb=>⟨.inr hb,h.2 b hb⟩⟩,List.pairwise_singleton _ _,ok⟩
theorem mY {X:Type} {n:Nat} {e0:En} {w0:World} {L:List Res} {r:Res} {J:X→Prop} {val:X→Value} {r':X→Res} {v:Value} (x:X) (hJ:J x) (hv:v = val x) (hm:r' x ∈ L) (w:World) (h:aP ⟨n,w0,r.bQ,e0⟩ L w):fV w0 r J val r' (.returned v) w :=
 ⟨x,hJ,by rw [hv],h.keeps,(h.own _ hm).1,fun b hb=>⟨((h.own _ hm).2 b hb).1.elim .inr .inl,((h.own _ hm).2 b hb).2⟩⟩
theorem lQ {X:Type} {f:FuncId} {args:List Operand} {ats:Array TypeId} {vs:List Value} {r:Res} {r':X→Res} {L':X→List Res} (J:X→Prop) (val:X→Value) (hu:∀ x,Upd L r (r' x) (L' x)) (hm:r ∈ L) (hen:cv P f) (hargs:fq F true args vs)
 (hC:∀ w,aP K L w→Calls P f vs.toArray w (fV w r J val r')) (next:∀ x,J x→Sat K N ((d,true,val x) :: F) (L' x)) (hd:Nat.blt d K.n = true:=by rfl) :
 Sat K (bH P K ops Q ⟨some d,.call { callee:=.value (.func f),args:=args.toArray,argTypes:=ats },ty,pos,af,none⟩ N) F L :=
 uu (fun w=>fV w r J val r') J val L' hen hargs (fun w I=>(hC w I).here I (I.fr hm)) (fun w I b hb=>((I.own r hm).2 b hb).1)
  (fun w I u w' ⟨x,hJ,he,hk,ha,hf⟩=>⟨x,hJ,by cases he; rfl,I.upd (hu x) hk ha hf⟩) next hd
theorem aP.but {r:Res} {L':List Res} {w w':World} (h:aP K L w) (hr:Rem L r L') (k:aJ r.bQ w w'):aP K L' w':=by
 have h':=h.perm hr.perm;obtain ⟨h1,h2,h3,h4⟩:=h';rw [List.pairwise_cons] at h3;have hf:=(h2 r List.mem_cons_self).2;refine ⟨h1.trans' k (fun i hi hm=>?_),fun q hq=>?_,h3.2,h4⟩
 ·rcases (hf i hm).1 with g | g
  ·omega
  ·exact g
 ·obtain ⟨a,b⟩:=h2 q (List.mem_cons_of_mem _ hq);exact ⟨q.st w w' (fun i hi=>k.block i (b i hi).2 (fun hm=>h3.1 q hq i hm hi)) a,fun i hi=>⟨(b i hi).1,Nat.lt_of_lt_of_le (b i hi).2 k.size⟩⟩
def u6 (P:Program) (f:FuncId) (cap:List Value) (M:Nat→Prop) (w0:World) (E:Enc α) (E':Enc β) (D:α→Prop) (g:α→β):Prop :=
 ∀ x w',D x→aJ M w0 w'→Calls P f (E.val x :: cap).toArray w' (bG w' (E'.val (g x)))
theorem u6.call {f:FuncId} {cap:List Value} {E:Enc α} {E':Enc β} {D:α→Prop} {g:α→β} (h:u6 P f cap K.M K.w0 E E' D g) {x:α} (hD:D x) (w:World) (I:aP K L w):Calls P f ([E.val x] ++ cap).toArray w (bG w (E'.val (g x))):=h x w hD I.keeps
def FnAt2 (P:Program) (f:FuncId) (cap:List Value) (M:Nat→Prop) (w0:World) (E:Enc α) (E':Enc γ) (E'':Enc β) (D:α→γ→Prop) (g:α→γ→β):Prop :=
 ∀ x y w',D x y→aJ M w0 w'→Calls P f (E.val x :: E'.val y :: cap).toArray w' (bG w' (E''.val (g x y)))
theorem FnAt2.call {f:FuncId} {cap:List Value} {E:Enc α} {E':Enc γ} {E'':Enc β} {D:α→γ→Prop} {g:α→γ→β} (h:FnAt2 P f cap K.M K.w0 E E' E'' D g) {x:α} {y:γ} (hD:D x y) (w:World) (I:aP K L w):Calls P f ([E.val x,E'.val y] ++ cap).toArray w (bG w (E''.val (g x y))):=h x y w hD I.keeps
def TellAt {σ:Type} (P:Program) (f:FuncId) (cap:List Value) (M:Nat→Prop) (w0:World) (E:Enc α) (S:σ→Res) (J:α→σ→σ→Prop):Prop :=
 ∀ x s w',aJ M w0 w'→At (S s) w'→Calls P f (E.val x :: cap).toArray w' (fV w' (S s) (J x s) (fun _=>.tuple #[]) S)
theorem TellAt.call {σ:Type} {f:FuncId} {cap:List Value} {E:Enc α} {S:σ→Res} {J:α→σ→σ→Prop} (h:TellAt P f cap K.M K.w0 E S J) {x:α} {s:σ} (hm:S s ∈ L) (w:World) (I:aP K L w):Calls P f ([E.val x] ++ cap).toArray w (fV w (S s) (J x s) (fun _=>.tuple #[]) S):=h x s w I.keeps (at_mem hm w I)
theorem Ev.kq {e:TypeId} {a:Option Addr} {n cap:Nat} (ht:P.underlying t = some (.slice e)) (hx:Opd F g x (.slice a n cap)) (hy:Opd F g y (.slice none 0 0)):Ev P K F L g (.binOp .eql t x y t') ty (.bool a.isNone):=.of rfl (fun hg ac G w _ dst pos af gd=>by
 show Tm P _ _ ((do eqGuard .eql t x y (ac.eval x) (ac.eval y); binOp .eql t (ac.eval x) (ac.eval y):Sem Value) >>= fun r=>pure (Next.value r));rw [hx.eval hg G,hy.eval hg G];have e1:binOp .eql t (.slice a n cap) (.slice none 0 0) = (do pure (.bool (← Op.equal t (.slice a n cap) (.slice none 0 0)))):=by cases a <;> rfl
 rw [e1];refine .bind (.bind (by unfold eqGuard; exact .pure _) fun _=>.bind ?_ fun _=>.pure _) fun _=>.pure _
 show Tm P _ _ (Op.equalIn (9999 + 1) t (.slice a n cap) (.slice none 0 0));unfold Op.equalIn;refine .under ht ?_;cases a <;> exact .pure _) fun hg ac G w _ dst pos af gd=>by
 have hru:(underlying t).run P w = .ok (.slice e) w:=by simp [underlying,ht]
 have hg1:(eqGuard .eql t x y (.slice a n cap) (.slice none 0 0)).run P w = .ok () w:=by
  unfold eqGuard
  rfl
 have hE:∀ d:Nat,(Op.equalIn (d + 1) t (.slice a n cap) (.slice none 0 0)).run P w = .ok a.isNone w:=fun d=>by
  unfold Op.equalIn;rw [Sem.run_bind,hru];cases a <;> rfl
 have he:(Op.equal t (.slice a n cap) (.slice none 0 0)).run P w = .ok a.isNone w:=hE 9999;have hb:(binOp .eql t (.slice a n cap) (.slice none 0 0)).run P w = .ok (.bool a.isNone) w:=by
  have e1:binOp .eql t (.slice a n cap) (.slice none 0 0) = (do pure (.bool (← Op.equal t (.slice a n cap) (.slice none 0 0)))):=by cases a <;> rfl
  rw [e1];simp only [Sem.run_bind,he,Result.andThen_ok,Sem.run_pure]
 simp only [execOp,hx.eval hg G,hy.eval hg G,Sem.run_bind,hg1,hb,Result.andThen_ok,Sem.run_pure]
end
end Go.Gx
