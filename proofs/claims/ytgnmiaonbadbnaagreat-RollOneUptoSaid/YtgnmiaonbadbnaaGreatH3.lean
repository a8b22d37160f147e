/- Part G: what comes in: the arguments' data, opened. -/
import Derived.WalkKit
import Derived.ProofKit
import Derived.OpenShut
import Derived.ShutString
import Derived.ChangeOld
import Derived.Below
import Derived.SizedLaws
import Derived.JoinedCond
import Derived.Test.YtgnmiaonbadbnaaGreatRows
import Derived.Test.YtgnmiaonbadbnaaGreatH2
import Derived.Laws.Pointers
import Derived.Laws.BytesArg
import Derived.Laws.IdiomStrings
import Derived.Laws.Strings
import Derived.Maps.RangeRun
import Derived.Laws.RangeString
import Derived.RangeFuncRecord
import Derived.Laws.Cover3
set_option linter.unusedVariables false
set_option linter.defProp false
set_option linter.unusedSimpArgs false
namespace Go.Gx
open Go Go.RowKit
variable {β α γ X ζ:Type} {P:Program} {e t ty t' T T' vt kt:TypeId} {E:dy α} {Q:Exit->Act->World->Prop} {w w0 w':World} {fuel b off n o fr j tg n0 o':Nat} {r:du} {v u yv gv:Value} {a:Act} {ps m:List Nat} {fs:List Field} {xs ys:List α} {f:FuncId} {E' V:dy β} {R:ja} {K:Ctx} {F:Fr} {L L' L1 M Lq L2:List du} {g c2 want c1:Bool} {N:Act->World->Prop} {ops:Array Oper} {pos name:String} {af:Array Edge} {y gx:Operand} {s:ByteArray} {l:List (α × β)} {J:X->Prop} {args:List Operand} {qJ:Array TypeId} {vs cap fst:List Value} {k:IntKind} {dst:Option Tmp} {r':X->du} {ac c bd:Code} {q:α->α->Bool} {p:Option Addr} {pm:Nat->Prop} {xv z:α} {dd:TypeDesc} {Ov:dy γ} {Fx:X->Fr} {Lx:X->List du} {μ:X->Nat} {listed:Array Bool} {fn:Func} {rs:List ResultVar}
abbrev Kn (α:Type):=World->α->(H:Type)->DataW H->Prop
structure xy (P:Program) (t:TypeId) (E:dy α) (Q:Kn α):Prop where
 cells:P.cellsOf t = E.size
 op:∀ {H:Type} (enc:TypeId × Value->H) (w:World) (sp:Nat->Bool) (held:Bool) (fuel:Nat) (cs:List Value) (x:DataW H × List MemPlace),DataW.trod enc P w 0 sp held fuel t cs = some x->∃ a,cs = E.cells a /\ Q w a H x.1
 val:∀ (w:World) (r:Reach) (b:Nat) (v:Value) (a:α),Value.okWide P w r b t v->v.cells.toList = E.cells a->v = E.val a
theorem xy.open {Q:Kn α} (O:xy P t E Q) {H:Type} {enc:TypeId × Value->H} {sp:Nat->Bool} {held:Bool} {r:Reach} {d:DataW H} {ps:List MemPlace}
 (hv:Value.okWide P w r b t v) (h:DataW.Trod enc P w 0 sp held t v d ps):∃ a,v = E.val a /\ Q w a H d:=by
 obtain⟨fuel,hf⟩:=h;obtain⟨a,h1,h2⟩:=O.op enc w sp held fuel _ _ hf;exact ⟨a,O.val w r b v a hv h1,h2⟩
structure iI (P:Program) (fs:List Field) (off:Nat) (E:dy α) (Q:World->α->(H:Type)->List (DataW H)->Prop):Prop where
 op:∀ {H:Type} (enc:TypeId × Value->H) (w:World) (sp:Nat->Bool) (held:Bool) (n:Nat) (cs:List Value) (xs:List (DataW H × List MemPlace)),xs.length = fs.length ->
  (∀ i (h1:i < fs.length) (h2:i < xs.length),DataW.trod enc P w 0 sp held n fs[i].type ((cs.drop fs[i].offset).take (P.cellsOf fs[i].type)) = some xs[i])->∃ a,(cs.drop off).take E.size = E.cells a /\ Q w a H (xs.map (·.1))
theorem iI.one {f:Field} {Q:Kn α} (ho:f.offset = off) (O:xy P f.type E Q):iI P [f] off E (λw a H ds=>∃ d,ds = [d] /\ Q w a H d) where
 op enc w sp held n cs xs hl h:=by
  have hx:=h 0 (by simp) (by rw [hl]; simp);simp only [aO] at hx;rw [O.cells,ho] at hx;obtain⟨a,h1,h2⟩:=O.op enc w sp held n _ _ hx;refine ⟨a,h1,_,?_,h2⟩
  match xs,hl with
  | [x],_=>rfl
theorem iI.cons {f:Field} {Q:Kn α} {Q':World->β->(H:Type)->List (DataW H)->Prop} (ho:f.offset = off) (O:xy P f.type E Q) (R:iI P fs (off + E.size) E' Q') :
 iI P (f :: fs) off (cW E E') (λw x H ds=>∃ d r,ds = d :: r /\ Q w x.1 H d /\ Q' w x.2 H r) where
 op enc w sp held n cs xs hl h:=by
  match xs,hl with
  | x :: xs,hl =>
    have hx:=h 0 (by simp) (by simp);simp only [aO] at hx;rw [O.cells,ho] at hx;obtain⟨a,h1,h2⟩:=O.op enc w sp held n _ _ hx;obtain⟨b,h3,h4⟩:=R.op enc w sp held n cs xs (by grind) (λi h1 h2=>h (i + 1) (by grind) (by grind));refine ⟨(a,b),?_,_,_,rfl,h2,h4⟩;show (cs.drop off).take (E.size + E'.size) = E.cells a ++ E'.cells b;rw [qf,h1,ib,h3]
section
variable {op:Op} {d:Nat} {x:Operand}
theorem HG (s:Nat) (v:Value) (l h:Nat) (hv:v.oneCell' = true):(uN s v l h).oneCell' = true:=by
 cases v <;> first | exact hv | rfl
def OV.sub (s:Nat) (o:OV) (l h:Nat):OV:=⟨uN s o.v l h,HG s o.v l h o.one⟩
def nz (w:World) (J:X->Prop) (val:X->Value) (R:X->List du):ja:=⟨fX,λe w'=>∃ x,J x /\ e = .returned (val x) /\ bf fX w w' /\ Qx w w' (R x)⟩
theorem iP (J:X->Prop) (val:X->Value) (R:X->List du) (om:dV P f) (fQ:lM F true args vs)
 (hC:∀ w,bS K L w->Calls P f vs.toArray w (nz w J val R)) (next:∀ x,J x->Sat K N ((d,true,val x) :: F) (R x ++ L)) (hd:Nat.blt d K.n = true:=by rfl) :
 Sat K (dw P K ops Q ⟨some d,.call { callee:=.value (.func f),args:=args.toArray,argTypes:=qJ },ty,pos,af,none⟩ N) F L :=
 zH (λw=>nz w J val R) J val (λx=>R x ++ L) om fQ (λw I=>(hC w I).here I λ_ h=>h.elim) (λ_ _ _ h=>h.elim)
  (λw I u w' ⟨x,hJ,he,hk,hR⟩=>⟨x,hJ,by grind,I.acK hk hR.1 hR.2⟩) next hd
theorem tU {e0:En} {val:X->Value} {R:X->List du} (x:X) (hJ:J x) (hv:v = val x) (hs:(R x).Sublist L):∀ w,bS ⟨n,w0,fX,e0⟩ L w->nz w0 J val R (.returned v) w:=λw h =>
 ⟨x,hJ,by rw [hv],h.keeps,λr hr=>by
  obtain⟨h1,h2⟩:=h.own _ (hs.subset hr);refine ⟨h1,λb hb=>⟨?_,(h2 b hb).2⟩⟩
  rcases (h2 b hb).1 with h3 | h3
  ·exact h3
  trivial,h.Jj.sublist hs⟩
def Shp (v:Value) (n:Nat):Prop:=∃ a cap,v = .slice a n cap /\ (a = none->n = 0) /\ ∀ p,a = some p->n ≠ 0->p.spot = none
theorem xor_zero {x y:Nat} (h:x ^^^ y = 0):x = y:=by
 have h2:=aL (λz=>x ^^^ z) h
 grind
theorem Ev.abA {n:Int} {b:UInt8} (ht:P.underlying t = some .string) (hx:cV F g x (.string s)) (hy:cV F g y (.int k n)) (hi:g = true->0 <= n /\ s[n.toNat]? = some b) :
 Ev P K F L g (.index t x y) ty (U8 b):=.of rfl (λhg a G w hw dst pos af gd=>by
 obtain⟨h1,h2⟩:=hi hg;show Tm P _ _ (Instr.index t (a.eval x) (a.eval y) >>= λr=>pure (Next.value r));rw [hx.eval hg G,hy.eval hg G];refine .bind ?_ λ_=>.pure _
 refine .known (b:=(k,n)) (.asIntOf _) (λv=>rfl) (.under ht ?_);simp only [h1,if_true,h2];exact .pure _) λhg a G w hw dst pos af gd=>by
 obtain⟨h1,h2⟩:=hi hg;have hu:(underlying t).run P w = .ok .string w:=by simp [underlying,ht]
 simp only [execOp,Instr.index,asIntOf,hx.eval hg G,hy.eval hg G,ay,aJ,aj,hu,h1,if_true,h2,U8]
theorem mS.right {A B B':List du} {r':du} (h:mS B r r' B'):mS (A ++ B) r r' (A ++ B'):=by
 obtain⟨X,Y,rfl,rfl⟩:=h;exact ⟨A ++ X,Y,by simp,by simp⟩
theorem Ev.nilCheck {a:Addr} (hx:cV F g x (.pointer (some a))):Ev P K F L g (.nilCheck x) ty (.pointer (some a)):=.of rfl (λhg ac G w _ dst pos af gd=>by
 have e1:execOp ac.eval ⟨dst,.nilCheck x,ty,pos,af,gd⟩ = pure (.value (.pointer (some a))):=by simp [execOp,hx.eval hg G]
 rw [e1];exact .pure _) λhg ac G w _ dst pos af gd=>by
 simp only [execOp,hx.eval hg G,aJ]
theorem A8 {op:BinOp} {q:Option Addr} (w:World):(eqGuard op t x y (.pointer p) (.pointer q)).run P w = .ok () w:=by
 unfold eqGuard;cases op <;> rfl
theorem vR {op:BinOp} {q:Option Addr}:Tm P pm fr (eqGuard op t x y (.pointer p) (.pointer q)):=by
 unfold eqGuard;cases op <;> exact .pure _
theorem xD (ht:P.underlying t = some (.pointer e)):Tm P pm fr (Op.equal t (.pointer p) (.pointer none)):=by
 show Tm P pm fr (Op.equalIn (9999 + 1) t (.pointer p) (.pointer none));unfold Op.equalIn;refine .under ht ?_;cases p <;> exact .pure _
theorem CC (ht:P.underlying t = some (.pointer e)):P.underlying t = some (.pointer (P.pointee t)):=by
 unfold Program.pointee;rw [ht]
theorem Ev.TX (ht:P.underlying t = some (.pointer e)) (hx:cV F g x (.pointer p)) (hy:cV F g y (.pointer none)):Ev P K F L g (.binOp .eql t x y t') ty (.bool p.isNone) :=
 Ev.bin hx hy (λw=>A8 w) (λw=>run_eql_pointer_nil w t p (CC ht)) vR (by cases p <;> exact .bind (xD ht) λ_=>.pure _)
theorem Ev.E1 (ht:P.underlying t = some (.pointer e)) (hx:cV F g x (.pointer p)) (hy:cV F g y (.pointer none)):Ev P K F L g (.binOp .neq t x y t') ty (.bool (!p.isNone)) :=
 Ev.bin hx hy (λw=>A8 w) (λw=>run_neq_pointer_nil w t p (CC ht)) vR (by cases p <;> exact .bind (xD ht) λ_=>.pure _)
def Bb (f:FuncId) (cap:List Value):OV:=⟨.func (.func f) #[] cap.toArray,rfl⟩
theorem Ev.makeFunc {f:FuncId} {Un:List Operand} {vs:List Value} (h:lM F g Un vs):Ev P K F L g (.makeFunc (.func f) #[] Un.toArray) ty (Bb f vs).v:=.of rfl (λ_ _ _ _ _ _ _ _ _=>.bind (.pure _) λ_=>.pure _) λhg a G w _ dst pos af gd=>by
 have h1:=h.eval hg G;simp [execOp,Instr.makeFunc,Bb,h1]
theorem LR (hx:cV F g x (Bb f cap).v) (om:dV P f) (fQ:lM F g args vs) (hg:g = true) (G:kD K F a) (w:World) {gd:Option (Nat × Bool)} :
 (execOp a.eval ⟨dst,.call { callee:=.value x,args:=args.toArray,argTypes:=qJ },ty,pos,af,gd⟩).wpS P pm fr (λn w'=>n = .enter f (vs ++ cap).toArray /\ w' = w) w:=by
 have h1:=fQ.eval hg G;have h2:=hx.eval hg G;have h3:(Bb f cap).v = .func (.func f) #[] cap.toArray:=rfl;rw [h3] at h2;have e:execOp a.eval ⟨dst,.call { callee:=.value x,args:=args.toArray,argTypes:=qJ },ty,pos,af,gd⟩ = callFunc f (vs ++ cap).toArray:=by
  simp [execOp,resolve,Deferred.ofValue,invoke,h1,h2]
 rw [e];exact kS om _ w
theorem Az (hx:cV F true x (Bb f cap).v) (om:dV P f) (fQ:lM F true args vs)
 (hC:∀ w,bS K L w->Calls P f (vs ++ cap).toArray w (dO w u)) (next:Sat K N ((d,true,u) :: F) L) (hd:Nat.blt d K.n = true:=by rfl) :
 Sat K (dw P K ops Q ⟨some d,.call { callee:=.value x,args:=args.toArray,argTypes:=qJ },ty,pos,af,none⟩ N) F L:=λa w G =>
 dI rfl rfl λ_=>yE (X:=Unit) rfl (λ_=>True) (λ_=>u) (λ_=>L) G (LR hx om fQ rfl G.fo w) ((hC w G.inv).here G.inv λ_ h=>h.elim) (λ_ h=>h.elim)
  (λv w' q=>⟨(),trivial,(oA G.inv q).1,(oA G.inv q).2⟩) (λ_ _=>next) hd
theorem eK.keep {x:α} (h:eK E w b off x) (k:bf fX w w'):eK E w' b off x:=λj u hu=>by
 have h1:=h j u hu;have hb:b < w.heap.size:=by
  rcases fZ b w.heap.size with h2 | h2
  ·exact h2
  ·simp [World.cell?,c8 h2] at h1
 rw [<- h1];simp only [World.cell?];rw [k.block b hb (λh=>h)]
theorem jJ (h:∀ w,bS K L w->eK E w b 0 xv) (l:aB E E' o) (w:World) (I:bS K L w):eK E' w b o (l.get xv):=by
 have h2:=l.pts (h w I)
 rwa [a9] at h2
theorem aat (xs:List UInt8) (j:Nat) (h:j < xs.length):(iO.row xs)[j]? = some (.int .u8 (xs[j].toNat:Int)):=by
 have e:∀ l:List UInt8,iO.row l = l.map λb=>Value.int .u8 (b.toNat:Int):=λl=>by
  unfold dy.row
  induction l with
  | nil=>rfl
  | cons a l ih=>rw [List.flatMap_cons,dq,ih]; rfl
 grind
theorem Tm.P6 {b:Option Addr} {c:Nat} (hs:P.underlying t = some (.slice e)) (he:P.underlying e = some (.int .u8)) (hd:P.underlying t' = some .string):Tm P pm fr (convert t t' (.slice b n c)):=by
 refine .under hs (.under hd (.under he ?_));cases b with
 | none=>exact .pure _
 | some a =>
   refine .bind (.loadCells _ _) λcs=>.bind ?_ λ_=>.pure _
   rw [<- mr];refine .forIn _ (λx s=>?_) _ _;split <;> first | exact .bind (.pure _) λ_=>.pure _ | exact .bind (.stuck _) λ_=>.pure _ | exact .pure _ | exact .stuck _
theorem Ev.Ue {xs:List UInt8} (hs:P.underlying t = some (.slice e)) (he:P.underlying e = some (.int .u8)) (hd:P.underlying t' = some .string) (hx:cV F g x v)
 (h:∀ w,bS K L w->bU iO w v xs):Ev P K F L g (.convert t t' x) ty (.string ⟨xs.toArray⟩):=.of rfl (λhg a G w hw _ _ _ _=>by
 obtain⟨b,cap,rfl,_,_,_,_⟩:=h w hw;show Tm P _ _ (convert t t' (a.eval x) >>= λr=>pure (Next.value r));rw [hx.eval hg G];exact .bind (.P6 hs he hd) λ_=>.pure _) λhg a G w hw dst pos af gd=>by
 obtain⟨b,cap,rfl,_,_,h2,h3⟩:=h w hw;have hr:(convert t t' (.slice b xs.length cap)).run P w = .ok (.string ⟨xs.toArray⟩) w:=by
  cases b with
  | none =>
    obtain⟨rfl,_⟩:=h2 rfl;exact run_convert_bytes_nil w t e hs he _ _ t' hd
  | some p =>
    obtain⟨h4,h5⟩:=h3 p rfl;refine run_convert_bytes_back w t t' e p cap xs hs he hd λj hj=>?_
    have hp:=h4 (λe=>by rw [e] at hj; cases hj);obtain⟨pb,po,ps⟩:=p;simp only at hp;subst hp;rw [lL];exact h5 j _ (aat xs j hj)
 simp only [execOp,hx.eval hg G,ay,hr,aj,aJ]
def acW (v:Value) (E:dy α) (xs ys:List α) (T:TypeId) (u:Value) (w:World):ja:=⟨(bY v E xs T).c9,λe w'=>e = .returned u /\ bf (bY v E xs T).c9 w w' /\ (bY v E ys T).A w'⟩
theorem Uo (hu:mS L (bY v E xs T) (bY v E ys T) L') (om:dV P f) (fQ:lM F true args vs)
 (hC:∀ w,bS K L w->Calls P f vs.toArray w (acW v E xs ys T u w)) (next:Sat K N ((d,true,u) :: F) L') (hd:Nat.blt d K.n = true:=by rfl) :
 Sat K (dw P K ops Q ⟨some d,.call { callee:=.value (.func f),args:=args.toArray,argTypes:=qJ },ty,pos,af,none⟩ N) F L :=
 zH (λw=>acW v E xs ys T u w) (X:=Unit) (λ_=>True) (λ_=>u) (λ_=>L') om fQ (λw I=>(hC w I).here I (I.fr hu.mem)) (λw I b hb=>((I.own _ hu.mem).2 b hb).1)
  (λw I e w' ⟨he,hk,ha⟩=>⟨(),trivial,by grind,I.upd hu hk ha (λb hb=>⟨.inl hb,aD ((I.own _ hu.mem).2 b hb).2 hk.size⟩)⟩) (λ_ _=>next) hd
theorem OO (h:(bY v E xs T).A w) (hb:∀ b,v.ownBlock = some b->b < w.heap.size):∀ e0:En,Ctx.OK ⟨n,w,(bY v E xs T).c9,e0⟩->bS ⟨n,w,(bY v E xs T).c9,e0⟩ [bY v E xs T] w:=λe0 ok =>
 ⟨bf.refl _ _,λr hr=>by
  obtain rfl:=cq.1 hr;exact ⟨h,λb hb'=>⟨.inr hb',hb b hb'⟩⟩,eD _ _,ok⟩
def xB (n:Nat) (xs:List α) (z:α):Vector α n:=Vector.ofFn λi=>xs.getD i.val z
theorem uL (h:xs.length = n):(xB n xs z).toList = xs:=by
 apply lB
 ·simp [h]
 ·intro i h1 h2;simp [xB,List.getD,h2]
theorem Ev.Rj (ht:P.underlying t = some (.array n e)) (hx:cV F g x v) (h:∀ w,bS K L w->bU E w v xs) (hn:g = true->0 < n /\ n <= xs.length) :
 Ev P K F L g (.sliceToArrayPointer t x) ty (kC v 0):=.of rfl (λ_ _ _ _ _ _ _ _ _=>.bind (by
 unfold Instr.arrayAt
 repeat' with_reducible first
  | exact .pure _
  | exact .stuck _
  | exact .mc _
  | exact .boundsPanic _ _ _ _
  | exact .runtimePanic _
  | refine .bind (.underlying _) λ_=>?_
  | exact .dead (.bind (.boundsPanic _ _ _ _) _)
  | split
  | dsimp only) λ_=>.pure _) λhg a G w hw dst pos af gd=>by
 obtain⟨b,cap,rfl,_,_,h2,h3⟩:=h w hw;obtain⟨QI,GL⟩:=hn hg;have hu:(underlying t).run P w = .ok (.array n e) w:=by simp [underlying,ht]
 have hne:xs ≠ []:=λe=>by rw [e] at GL; simp at GL; omega
 cases b with
 | none=>grind
 | some p =>
   have hp:=(h3 p rfl).1 hne;obtain⟨pb,po,ps⟩:=p;subst hp;have hlt:¬ xs.length < n:=by omega
   simp [execOp,Instr.arrayAt,hx.eval hg G,hu,hlt,kC]
theorem Ev.GB (T:jK P t (mh n E)) (hx:cV F g x (kC v 0)) (h:∀ w,bS K L w->bU E w v xs) (hn:g = true->0 < n /\ xs.length = n) :
 Ev P K F L g (.load t x) ty ((mh n E).val (xB n xs E.zero)):=.of rfl (λ_ _ _ _ _ _ _ _ _=>.bind (.bind (.sureAddr _) λ_=>.loadVar _ _) λ_=>.pure _) λhg a G w hw dst pos af gd=>by
 obtain⟨b,cap,rfl,_,_,h2,h3⟩:=h w hw;obtain⟨QI,GL⟩:=hn hg;have hne:xs ≠ []:=λe=>by rw [e] at GL; simp at GL; omega
 cases b with
 | none=>grind
 | some p =>
   obtain⟨hp,hc⟩:=h3 p rfl;have hq:eK (mh n E) w p.block p.off (xB n xs E.zero):=λj u hu=>hc j u (by
    have e:(mh n E).cells (xB n xs E.zero) = E.row (xB n xs E.zero).toList:=rfl;rw [e,uL GL] at hu;exact hu)
   have hx':cV F g x (.pointer (some ⟨p.block,p.off,none⟩)):=hx;simp only [execOp,hx'.eval hg G,Instr.loadAt,Instr.sureAddr,ay,aJ,aj,oH T hq]
def Aw (a:Vector α n) (ys:List α) (z:α):Vector α n:=Vector.ofFn λi=>if i.val < ys.length then ys.getD i.val z else a[i]
theorem Jl {a:Vector α n} (h:ys.length <= n):(Aw a ys z).toList = ys ++ a.toList.drop ys.length:=by
 apply lB
 ·grind
 ·intro i h1 h2
  by_cases hi:i < ys.length
  ·simp [Aw,hi,List.getD]
  ·have h3:¬ i < ys.length:=hi;have e:ys.length + (i - ys.length) = i:=by omega
   simp [Aw,h3,List.getElem_append,e]
theorem copyV {ys:List β} {z:β} (ht:P.underlying t = some (.slice e)) (TT:jK P e E') (l:aB E (mh n E') o)
 (hx:cV F true x (.slice (some ⟨b,o,none⟩) n n)) (hy:cV F true y u) (hk:ys.length <= n) (hsrc:∀ w,bS K L w->bU E' w u ys)
 (hu:mS L (Var b E xv T') (Var b E (l.set xv (Aw (l.get xv) ys z)) T') L') (next:Sat K N ((d,true,I ys.length) :: F) L') (hd:Nat.blt d K.n = true:=by rfl) :
 Sat K (dw P K ops Q ⟨some d,.call { callee:=.builtin .copy,args:=#[x,y],argTypes:=#[t,t'] },ty,pos,af,none⟩ N) F L:=λa w G=>by
 refine dI rfl rfl λhnv=>?_
 have qT:=hu.mem;have tm:Tm P (q9 K) K.E.fr (execOp a.eval ⟨some d,.call { callee:=.builtin .copy,args:=#[x,y],argTypes:=#[t,t'] },ty,pos,af,none⟩):=by
  have e:execOp a.eval ⟨some d,.call { callee:=.builtin .copy,args:=#[x,y],argTypes:=#[t,t'] },ty,pos,af,none⟩ = (Builtin.copy_ #[t,t'] ty #[a.eval x,a.eval y] >>= λr=>pure (Next.value r)):=by
   simp [execOp,resolve,invoke,builtin]
  rw [e,hx.eval rfl G.fo];exact .bind (.Ud ht λb hb=>by cases hb; exact ⟨((G.inv.own _ qT).2 _ rfl).1,G.inv.fr qT _ rfl⟩) λ_=>.pure _
 have hb:w.heap[b]? = some (.cells (E.cells xv).toArray T' (0,0)):=(G.inv.own _ hu.mem).1;obtain⟨sa,sc,rfl,h1,h2,h3,h4⟩:=hsrc w G.inv;have hru:(underlying t).run P w = .ok (.slice e) w:=by simp [underlying,ht]
 have hd':d < K.n:=by simpa [ir] using hd
 have hn:Nat.min ys.length n = ys.length:=kg hk;have hcs:(Builtin.firstCells E'.size ys.length (.slice sa ys.length sc)).run P w = .ok (E'.row ys).toArray w:=by
  cases sa with
  | none =>
    obtain⟨rfl,rfl⟩:=h3 rfl;simp [Builtin.firstCells,dy.row]
  | some p =>
    obtain⟨NK,hpc⟩:=h4 p rfl;refine run_firstCells_some w E'.size _ _ _ _ (E'.row ys) (by rw [E'.fp]) λj v hv=>?_
    have hne:ys ≠ []:=λe=>by rw [e] at hv; simp [dy.row] at hv
    obtain⟨pb,po,ps⟩:=p;have h:=NK hne;simp only at h;subst h;rw [lL];exact hpc j v hv
 have hfits:o + n * E'.size <= E.size:=l.fits;have hlen:(E'.row ys).length = ys.length * E'.size:=E'.fp _;have hle:ys.length * E'.size <= n * E'.size:=dH _ hk;have hst:=run_storeCells_at P b o T' (E'.row ys) 0 (E.cells xv).toArray w hb (by simp [E.len]; omega) (E'.tF _);simp only [jP] at hst;have hcell:(E.cells xv).take o ++ E'.row ys ++ (E.cells xv).drop (o + (E'.row ys).length) = E.cells (l.set xv (Aw (l.get xv) ys z)):=by
  rw [l.wC];have e1:(mh n E').cells (Aw (l.get xv) ys z) = E'.row ys ++ (E'.row (l.get xv).toList).drop (ys.length * E'.size):=by
   show E'.row (Aw (l.get xv) ys z).toList = _;rw [Jl hk,E'.ql,E'.qO]
  have e2:E'.row (l.get xv).toList = ((E.cells xv).drop o).take (n * E'.size):=(l.yl xv).symm;rw [e1,e2,bM,bM,bM,jG,jG,hlen,mG,ib];have e3:(mh n E').size = n * E'.size:=rfl;rw [e3];have e4:(E.cells xv).drop (o + n * E'.size) = ((E.cells xv).drop (o + ys.length * E'.size)).drop (n * E'.size - ys.length * E'.size):=by
   rw [ib]
   congr 1
   omega
  rw [e4,List.take_append_drop]
 have he:(execOp a.eval ⟨some d,.call { callee:=.builtin .copy,args:=#[x,y],argTypes:=#[t,t'] },ty,pos,af,none⟩).run P w =
  .ok (.value (I ys.length)) (w.setRow b (E.cells (l.set xv (Aw (l.get xv) ys z))).toArray):=by
  simp only [execOp,resolve,invoke,builtin,Builtin.copy_,gY,dq,iD,hx.eval rfl G.fo,hy.eval rfl G.fo,ay,aJ,aj];simp only [dN,fL,kl,ay,hru,aj,Builtin.lenOf,aJ,run_sizeOf TT];rw [hn,hcs];simp only [aj,hst,hcell]
  rfl
 refine xL he tm hnv ?_;have hlt:b < w.heap.size:=(bP.1 hb).1;refine next _ _ (G.put d true _ _ hd' rfl (G.inv.upd hu (pB _ _ _) (setRow_heap w b _ _ _ _ hb) ?_));intro k hk;have:k = b:=hk;subst this;exact ⟨.inl rfl,by simp_all⟩
def GdS (c:Bool) (v:Value) (E:dy α) (xs:List α) (T:TypeId):du where
 c9:=λb=>c = true /\ (bY v E xs T).c9 b
 A:=λw=>c = true->(bY v E xs T).A w
 st:=λw w' h h1 hc=>(bY v E xs T).st w w' (λb hb=>h b ⟨hc,hb⟩) (h1 hc)
def Xu {c:Bool} (hm:GdS c v E xs T ∈ L) (hc:c = true) (w:World) (h:bS K L w):bU E w v xs:=bU.lJ ((h.own _ hm).1 hc)
theorem acx (hj:(ops[j]?).bind (·.dst) = some tg) (hg:look F tg = some (c1,.bool c2))
 (om:dV P f) (fQ:lM F (c1 && (c2 == want)) args vs)
 (hC:(c1 && (c2 == want)) = true->∀ w,bS K L w->Calls P f vs.toArray w (vM w E xs T)) (next:∀ o:OV,Sat K N ((d,(c1 && (c2 == want)),o.v) :: F) (GdS (c1 && (c2 == want)) o.v E xs T :: L)) (hd:Nat.blt d K.n = true:=by rfl) :
 Sat K (dw P K ops Q ⟨some d,.call { callee:=.value (.func f),args:=args.toArray,argTypes:=qJ },ty,pos,af,some (j,want)⟩ N) F L:=λa w G=>by
 unfold dw;rw [r6 rfl hj hg G.fo];have hd':d < K.n:=by simpa [ir] using hd
 cases hc:(c1 && (c2 == want)) with
 | true =>
   rw [hc] at next;exact ⟨.inl rfl,λ_=>yE (X:=Value) rfl (λv=>v.oneCell' = true) (λv=>v) (λv=>GdS true v E xs T :: L) G (Ar om fQ hc G.fo w) ((hC hc w G.inv).here G.inv λ_ h=>h.elim) (λ_ h=>h.elim)
    (λu w' ⟨v,he,hk,_,hn⟩=>have h1:=hn.1 _ ah; ⟨v,Gm h1.1,by grind,G.inv.add hk (λ_=>h1.1) (λb hb=>h1.2 b hb.2)⟩) (λv h=>next ⟨v,h⟩) hd⟩
 | false =>
   rw [hc] at next;exact next aM _ _ (G.put d false aM.v undef hd' rfl (G.inv.add (bf.refl _ _) (λh=>absurd h cL) (λb hb=>absurd hb.1 cL)))
def zU (P:Program) (t:TypeId) (E:dy α) (n:Nat):Prop:=∀ em d,n <= d->∀ x w,(Instr.checkKey em d t (E.val x)).run P w = .ok () w
theorem Mh {f:α->Int} (E:dy α) (hE:∀ x,E.val x = .int k (f x)) (hu:P.underlying t = some (.int k)):zU P t E 1:=λem d hd x w=>by
 obtain⟨d,rfl⟩:=bV hd;have hru:(underlying t).run P w = .ok (.int k) w:=by simp [underlying,hu]
 simp only [Instr.checkKey,ay,hru,aj,hE]
 rfl
theorem aj9 (hu:P.underlying t = some .string):zU P t sE 1:=λem d hd x w=>by
 obtain⟨d,rfl⟩:=bV hd;have hru:(underlying t).run P w = .ok .string w:=by simp [underlying,hu]
 simp only [Instr.checkKey,ay,hru,aj]
 rfl
theorem aka (hu:P.underlying t = some .bool):zU P t bE 1:=λem d hd x w=>by
 obtain⟨d,rfl⟩:=bV hd;have hru:(underlying t).run P w = .ok .bool w:=by simp [underlying,hu]
 simp only [Instr.checkKey,ay,hru,aj]
 rfl
theorem acs {m:Nat} (hu:P.underlying t = some (.array n e)) (T:jK P e E) (h:zU P e E m):zU P t (mh n E) (m + 1):=λem d hd x w=>by
 obtain⟨d,rfl⟩:=bV (az (jo 1 m) hd);have hru:(underlying t).run P w = .ok (.array n e) w:=by simp [underlying,hu]
 show (Instr.checkKey em (d + 1) t (.agg (E.row x.toList).toArray)).run P w = _;have hp:∀ (i:Nat) (hi:i < n) (w:World),(part e (E.row x.toList).toArray (i * E.size)).run P w = .ok (E.val x[i]) w:=λi hi w=>oy T (rP E i hi) x w
 simp only [Instr.checkKey,ay,hru,aj,run_sizeOf T];have key:∀ k i,k = n - i->i <= n ->
  (forIn (List.range' i k) PUnit.unit (λi _=>do
   let n <- sizeOf e
   let a <- part e (E.row x.toList).toArray (i * n)
   Instr.checkKey em d e a
   pure (ForInStep.yield PUnit.unit))).run P w = .ok PUnit.unit w:=by
  intro k
  induction k with
  | zero=>intro i hk hi; rfl
  | succ k ih =>
    intro i hk hi;have hlt:i < n:=by omega
    simp only [nY,km,ay,run_sizeOf T,hp i hlt,aj,h em d (by omega),aJ];have:=ih (i + 1) (by omega) (by omega)
    simpa only [ay] using this
 have hk:=key n 0 (by omega) (bu _)
 simp_all
def QS (P:Program) (E:dy α) (n:Nat) (fs:List Field):Prop:=∀ em d,n <= d->∀ x w,
 (forIn fs PUnit.unit (λ(f:Field) _=>do
  if f.name ≠ "_" then do
   let a <- part f.type (E.cells x).toArray f.offset
   Instr.checkKey em d f.type a
   pure (ForInStep.yield PUnit.unit)
   else pure (ForInStep.yield PUnit.unit))).run P w = .ok PUnit.unit w
theorem QS.nil:QS P E n []:=λem d _ x w=>rfl
theorem QS.cons {f:Field} (hn:f.name ≠ "_") (ho:f.offset = o) (l:aB E E' o) (T:jK P f.type E') (h:zU P f.type E' n) (hr:QS P E n fs):QS P E n (f :: fs):=λem d hd x w=>by
 subst ho;have h2:=hr em d hd x w;simp only [km,hn,ne_eq,jE,if_true,ay,oy T l,aj,h em d hd,aJ];exact h2
theorem FE (hu:P.underlying t = some (.struct fs.toArray)) (ha:E.agg = true) (h:QS P E n fs):zU P t E (n + 1):=λem d hd x w=>by
 obtain⟨d,rfl⟩:=bV (az (jo 1 n) hd);have hru:(underlying t).run P w = .ok (.struct fs.toArray) w:=by simp [underlying,hu]
 have h2:=h em d (by omega) x w;unfold dy.val;rw [ha,iT];simp only [Instr.checkKey,ay,hru,aj]
 simp_all
def xY (E:dy α):Prop:=∀ x,∀ c ∈ E.cells x,∀ m,Instr.sameBits m c c = true
theorem Od {f:α->Int} (E:dy α) (hE:∀ x,E.cells x = [.int k (f x)]):xY E:=λx c hc m=>by
 rw [hE,cq] at hc;subst hc;cases m <;> simp [Instr.sameBits]
theorem agY:xY bE:=λx c hc m=>by
 obtain rfl:=cq.1 hc;cases m <;> simp [Instr.sameBits]
theorem JG (h:xY E) (h':xY E'):xY (cW E E'):=λx c hc m=>by
 rcases bG.1 hc with k | k
 ·exact h _ c k m
 ·exact h' _ c k m
def Ob {E:dy β} {to:β->α} {of:α->β} (h:xY E):xY (l8 E to of):=λx c hc m=>h _ c hc m
theorem Yu (h:xY E):xY (mh n E):=λx c hc m=>by
 obtain⟨y,_,hy⟩:=nZ.1 hc;exact h y c hy m
theorem F3 (l:List Value) (n:Nat) (h:∀ c ∈ l,Instr.sameBits n c c = true):Instr.sameBits (n + 1) (.agg l.toArray) (.agg l.toArray) = true:=by
 simp only [Instr.sameBits,beq_self_eq_true,Bool.true_and,fI];intro p hp;obtain⟨a,b⟩:=p;obtain⟨i,hi,e⟩:=dP.1 hp
 grind
structure uI (P:Program) (t:TypeId) (E:dy α) (q:α->α->Bool):Prop where
 eq:rZ P t E q 10000
 ck:zU P t E 10000
 now:∀ dd,P.underlying t = some dd->∀ x y b,Instr.sameNow dd (E.val x) (E.val y) = some b->b = q x y
 iff:∀ x y,q x y = true ↔ x = y
 bits:∀ x,Instr.sameBits 10000 (E.val x) (E.val x) = true
theorem rZ.up {m:Nat} (h:rZ P t E q n) (hm:n <= m):rZ P t E q m:=⟨λd hd=>h.1 d (az hm hd),λd hd=>h.2 d (az hm hd)⟩
theorem zU.up {m:Nat} (h:zU P t E n) (hm:n <= m):zU P t E m:=λem d hd=>h em d (az hm hd)
theorem Xs {m:Nat} (ha:E.agg = true) (h:rZ P t E q n) (hn:n <= 10000) (c:zU P t E m) (hm:m <= 10000) (hb:xY E) (hi:∀ x y,q x y = true ↔ x = y):uI P t E q where
 eq:=h.up hn
 ck:=c.up hm
 now dd hu x y b hs:=by
  unfold dy.val at hs;rw [ha] at hs;cases dd <;> simp [Instr.sameNow] at hs
 iff:=hi
 bits x:=by
  unfold dy.val;rw [ha,iT];exact F3 _ 9999 (λc hc=>hb x c hc 9999)
theorem afN (hu:P.underlying t = some (.int .i64)):uI P t iE vD where
 eq:=(TV hu).up (by decide)
 ck:=(Mh iE (λ_=>rfl) hu).up (by decide)
 now dd hd x y b hs:=by
  rw [hu] at hd;obtain rfl:=ak hd;have hs2:some (x == y) = some b:=hs;exact (ak hs2).symm
 iff:=zw
 bits x:=by show Instr.sameBits 10000 (.int .i64 x) (.int .i64 x) = true; simp [Instr.sameBits]
theorem afM (hu:P.underlying t = some .string):uI P t sE eqs where
 eq:=(ab9 hu).up (by decide)
 ck:=(aj9 hu).up (by decide)
 now dd hd x y b hs:=by
  rw [hu] at hd;obtain rfl:=ak hd;have hs2:some (x == y) = some b:=hs;exact (ak hs2).symm
 iff:=rR
 bits x:=by
  have e:(x == x) = true:=(rR x x).2 rfl
  assumption
def nO (q:α->α->Bool) (k:α):List (α × β)->Nat->Option (Nat × β)
 | [],_=>none
 | p :: l,i=>if q k p.1 then some (i,p.2) else nO q k l (i + 1)
def gB (q:α->α->Bool) (k:α) (l:List (α × β)):Option β:=(nO q k l 0).map (·.2)
def ua (E:dy α) (V:dy β) (es:List MapEntry) (l:List (α × β)):Prop:=es.map (λe=>(e.key,e.val)) = l.map (λp=>(E.val p.1,V.val p.2))
theorem ua.cons_inv {e:MapEntry} {es:List MapEntry} (h:ua E V (e :: es) l):∃ p l',l = p :: l' /\ e.key = E.val p.1 /\ e.val = V.val p.2 /\ ua E V es l':=by
 cases l with
 | nil=>trivial
 | cons p l' =>
   simp only [ua,dq,ko,eU] at h;exact ⟨p,l',rfl,h.1.1,h.1.2,h.2⟩
theorem LP (yi:∀ x y b,Instr.sameNow dd (E.val x) (E.val y) = some b->b = q x y) (k:α):∀ (es:List MapEntry) (l:List (α × β)) (i:Nat) (r:Option (Nat × Value)),ua E V es l->Instr.findNow dd (E.val k) es i = some r->r = (nO q k l i).map (λp=>(p.1,V.val p.2)):=by
 intro es
 induction es with
 | nil =>
   intro l i r h hr;cases l with
   | nil=>simp only [Instr.findNow,br] at hr; subst hr; rfl
   | cons p l=>trivial
 | cons e es ih =>
   intro l i r h hr;obtain⟨p,l',rfl,h1,h2,h3⟩:=h.cons_inv;simp only [Instr.findNow,h1] at hr;cases hs:Instr.sameNow dd (E.val k) (E.val p.1) with
   | none=>grind
   | some b =>
     have hb:=yi _ _ _ hs;rw [hs] at hr;cases b with
     | true =>
       simp only [br] at hr;subst hr;simp [nO,<- hb,h2]
     | false =>
       have:=ih l' (i + 1) r h3 hr;simp [nO,<- hb,this]
theorem Cl (hk:rZ P t E q 10000) (k:α) (w:World):∀ (es:List MapEntry) (l:List (α × β)) (i:Nat),ua E V es l->(Instr.findAsking t (E.val k) es i).run P w = .ok ((nO q k l i).map (λp=>(p.1,V.val p.2))) w:=by
 intro es
 induction es with
 | nil =>
   intro l i h;cases l with
   | nil=>rfl
   | cons p l=>trivial
 | cons e es ih =>
   intro l i h;obtain⟨p,l',rfl,h1,h2,h3⟩:=h.cons_inv;have he:(Op.equal t (E.val k) (E.val p.1)).run P w = .ok (q k p.1) w:=hk.1 10000 (aA _) w k p.1;simp only [Instr.findAsking,h1,ay,he,aj,nO];cases hq:q k p.1 with
   | true=>simp [h2]
   | false=>grind
theorem DY (hk:rZ P t E q 10000) (k:α):∀ (es:List MapEntry) (l:List (α × β)) (i:Nat),ua E V es l->Tm P pm fr (Instr.findAsking t (E.val k) es i):=by
 intro es
 induction es with
 | nil=>intro l i h; exact .pure _
 | cons e es ih =>
   intro l i h;obtain⟨p,l',rfl,h1,h2,h3⟩:=h.cons_inv;simp only [Instr.findAsking,h1];refine .bind (hk.2 10000 (aA _) k p.1 pm fr) λr=>?_
   split
   ·exact .pure _
   grind
theorem Cd (hk:uI P t E q) (k:α) (es:List MapEntry) (l:List (α × β)) (h:ua E V es l):Tm P pm fr (Instr.findKey t (E.val k) es):=by
 refine .bind (.underlying t) λd=>?_
 split
 ·exact .pure _
 ·exact DY hk.eq k es l 0 h
theorem run_findKey (hk:uI P t E q) (hu:P.underlying t = some dd) (k:α) (w:World) (es:List MapEntry) (l:List (α × β)) (h:ua E V es l):(Instr.findKey t (E.val k) es).run P w = .ok ((nO q k l 0).map (λp=>(p.1,V.val p.2))) w:=by
 have hru:(underlying t).run P w = .ok dd w:=by simp [underlying,hu]
 simp only [Instr.findKey,ay,hru,aj];cases hf:Instr.findNow dd (E.val k) es 0 with
 | none=>exact Cl hk.eq k w es l 0 h
 | some r =>
   rw [LP (hk.now dd hu) k es l 0 r h hf]
   rfl
def Em (es:Array MapEntry) (c:Nat):Prop:=(∀ x ∈ es.toList,x.born < c) /\ (es.toList.map (·.born)).Nodup
theorem Em.push {es:Array MapEntry} {c:Nat} (h:Em es c) (k v:Value):Em (es.push { key:=k,val:=v,born:=c }) (c + 1):=by
 refine ⟨λx hx=>?_,?_⟩
 ·simp only [Array.toList_push,bG,cq] at hx
  rcases hx with hx | rfl
  ·exact Nat.lt_succ_of_lt (h.1 x hx)
  simp
 ·simp only [Array.toList_push,eF,dq,iD];refine List.nodup_append.2 ⟨h.2,by simp,?_⟩;intro a ha b hb;simp only [cq] at hb;subst hb;obtain⟨x,hx,rfl⟩:=iC.1 ha;exact rh (h.1 x hx)
theorem Em.modify {es:Array MapEntry} {c:Nat} (h:Em es c) (i:Nat) (f:MapEntry->MapEntry) (hf:∀ e,(f e).born = e.born):Em (es.modify i f) c:=by
 have e1:(es.modify i f).toList.map (·.born) = es.toList.map (·.born):=by
  rw [Array.toList_modify];apply eZ;intro j;simp only [List.getElem?_map,List.getElem?_modify];cases es.toList[j]? with
  | none=>rfl
  | some e=>by_cases hj:i = j <;> simp [hj,hf]
 refine ⟨λx hx=>?_,e1 ▸ h.2⟩;have:x.born ∈ es.toList.map (·.born):=e1 ▸ iC.2 ⟨x,hx,rfl⟩;obtain⟨y,hy,e⟩:=iC.1 this;exact e ▸ h.1 y hy
def pe (w:World) (b:Nat) (E:dy α) (V:dy β) (l:List (α × β)):Prop:=∃ es clock,w.heap[b]? = some (.map es clock) /\ ua E V es.toList l /\ Em es clock
def oE (b:Nat) (E:dy α) (V:dy β) (l:List (α × β)):du where
 c9:=λk=>k = b
 A:=λw=>pe w b E V l
 st:=λw w' h ⟨es,c,h1,h2⟩=>⟨es,c,(h b rfl).trans h1,h2⟩
theorem ml (hm:oE b E V l ∈ L) (w:World) (h:bS K L w):pe w b E V l:=(h.own _ hm).1
theorem pe.cO (h:pe w b E V l) (k:bf fX w w'):pe w' b E V l:=by
 obtain⟨es,c,h1,h2⟩:=h;exact ⟨es,c,(k.block b (bP.1 h1).1 (λh=>h)).trans h1,h2⟩
theorem makeMap {E:dy α} {V:dy β} (next:∀ b:Nat,Sat K N ((d,true,.map (some b)) :: F) (oE b E V [] :: L)) (hd:Nat.blt d K.n = true:=by rfl) :
 Sat K (dw P K ops Q ⟨some d,.makeMap t none,ty,pos,af,none⟩ N) F L:=λa w G=>by
 refine dI rfl rfl λhn=>?_
 have hr:(execOp a.eval ⟨some d,.makeMap t none,ty,pos,af,none⟩).run P w = .ok (.value (.map (some w.heap.size))) { w with heap:=w.heap.push (.map #[] 0) }:=by
  simp [execOp,Instr.makeMap]
 have e1:execOp a.eval ⟨some d,.makeMap t none,ty,pos,af,none⟩ = (newObj (.map #[] 0) >>= λr=>pure (.value (.map (some r)))):=by simp [execOp,Instr.makeMap]
 refine xL hr (by rw [e1]; exact .bind (.newObj _ rfl rfl) λ_=>.pure _) hn ?_;refine next w.heap.size _ _ (G.put d true _ _ (by simp_all) rfl (G.inv.add (bf.alloc _ _ _) ⟨#[],0,by simp,rfl,by trivial⟩ ?_));intro b hb;have:b = w.heap.size:=hb
 grind
theorem Ev.GA {k:α} {co:Bool} (ht:P.underlying t = some (.map kt vt)) (hu:P.underlying kt = some dd) (hk:uI P kt E q) (hz:(P.info? vt).bind (·.zero) = some (V.val V.zero))
 (hx:cV F g x (.map (some b))) (hy:cV F g y (E.val k)) (hm:g = true->∀ w,bS K L w->pe w b E V l) :
 Ev P K F L g (.lookup t x y co) ty (bif co then .tuple #[V.val ((gB q k l).getD V.zero),.bool (gB q k l).isSome] else V.val ((gB q k l).getD V.zero)):=.ofW rfl (λhg a G w hw dst pos af gd=>by
 obtain⟨es,c,h1,h2,_⟩:=hm hg w hw;show zP P _ _ (Instr.lookup t (a.eval x) (a.eval y) co >>= λr=>pure (Next.value r)) w;rw [hx.eval hg G,hy.eval hg G];refine .bind ?_ λ_ _ _=>(Tm.pure _).at
 refine .known (b:=.map kt vt) (.underlying t) (by simp [underlying,ht]) (.getObj h1 rfl rfl (by simp) (.bind (Tm.pure _).at λes' v1 hr=>?_));cases hr;dsimp only;refine (Tm.bind (.checkKey _ _ _ _) λ_=>.bind (Cd hk k _ l h2) λr=>?_).at;split
 ·exact .bind (.pure _) λx=>by cases x; exact .pure _
 ·exact .bind (.zeroValue _) λ_=>.bind (.pure _) λx=>by cases x; exact .pure _) λhg a G w hw dst pos af gd=>by
 obtain⟨es,c,h1,h2,_⟩:=hm hg w hw;have hru:(underlying t).run P w = .ok (.map kt vt) w:=by simp [underlying,ht]
 have hgo:(getObj b).run P w = .ok (.map es c) w:=nH h1;have hck:=hk.ck es.isEmpty 10000 (aA _) k w;have hfk:=run_findKey hk hu k w es.toList l h2;have hzv:(zeroValue vt).run P w = .ok (V.val V.zero) w:=by
  cases hi:P.info? vt with
  | none=>rw [hi] at hz; cases hz
  | some i =>
    rw [hi] at hz;simp only [cQ] at hz;simp [zeroValue,typeInfo,hi,hz]
 simp only [execOp,Instr.lookup,hx.eval hg G,hy.eval hg G,ay,hru,aj,hgo,aJ,hck,hfk];unfold gB;cases hf:nO q k l 0 with
 | none=>simp_all
 | some p=>simp
def Ev.uZ {l:List (α × Int)} {k:α} (ht:P.underlying t = some (.map kt vt)) (hu:P.underlying kt = some dd) (hk:uI P kt E q) (hz:(P.info? vt).bind (·.zero) = some (iE.val iE.zero))
    (hx:cV F g x (.map (some b))) (hy:cV F g y (E.val k)) (hm:g = true->∀ w,bS K L w->pe w b E iE l) :
    Ev P K F L g (.lookup t x y true) ty (.tuple #[I ((gB q k l).getD 0),.bool (gB q k l).isSome]):=Ev.GA (co:=true) ht hu hk hz hx hy hm
def Ev.BJ {l:List (α × Int)} {k:α} (ht:P.underlying t = some (.map kt vt)) (hu:P.underlying kt = some dd) (hk:uI P kt E q) (hz:(P.info? vt).bind (·.zero) = some (iE.val iE.zero))
    (hx:cV F g x (.map (some b))) (hy:cV F g y (E.val k)) (hm:g = true->∀ w,bS K L w->pe w b E iE l) :
    Ev P K F L g (.lookup t x y false) ty (I ((gB q k l).getD 0)):=Ev.GA (co:=false) ht hu hk hz hx hy hm
def uo (q:α->α->Bool) (k:α) (v:β):List (α × β)->List (α × β)
 | []=>[(k,v)]
 | p :: l=>if q k p.1 then (k,v) :: l else p :: uo q k v l
theorem I9 {q:α->α->Bool} {k:α}:∀ {l:List (α × β)} {i j:Nat} {v:β},nO q k l i = some (j,v)->i <= j /\ j < i + l.length
 | [],i,j,v,h=>by trivial
 | p :: l,i,j,v,h=>by
   simp only [nO] at h;split at h
   ·grind
   ·have:=I9 h
    grind
theorem T1 (hi:∀ x y,q x y = true ↔ x = y) (k:α) (v:β):∀ (es:List MapEntry) (l:List (α × β)) (i:Nat),ua E V es l ->
 (∀ j u,nO q k l i = some (j,u)->(∃ e,es[j - i]? = some e /\ e.key = E.val k) /\ ua E V (es.modify (j - i) (λe=>{ e with key:=E.val k,val:=V.val v })) (uo q k v l)) ∧
 (nO q k l i = none->∀ c,ua E V (es ++ [{ key:=E.val k,val:=V.val v,born:=c }]) (uo q k v l)):=by
 intro es
 induction es with
 | nil =>
   intro l i h;cases l with
   | nil=>exact ⟨λj u hf=>by trivial,λ_ c=>rfl⟩
   | cons p l=>trivial
 | cons e es ih =>
   intro l i h;obtain⟨p,l',rfl,h1,h2,h3⟩:=h.cons_inv;obtain⟨i1,i2⟩:=ih l' (i + 1) h3
   by_cases hq:q k p.1 = true
   ·have hkp:k = p.1:=(hi _ _).1 hq;constructor
    ·intro j u hf;simp only [nO,hq,if_true,br,eU] at hf;obtain⟨rfl,rfl⟩:=hf;rw [oF];refine ⟨⟨e,rfl,by grind⟩,?_⟩;simp only [uo,hq,if_true];unfold ua at h3 ⊢
     grind
    ·intro hf;simp [nO,hq] at hf
   ·constructor
    ·intro j u hf;simp only [nO,hq,cD,aI] at hf;obtain⟨g1,g2⟩:=I9 hf;obtain⟨⟨e',k1,k2⟩,k3⟩:=i1 j u hf;have ej:j - i = (j - (i + 1)) + 1:=by omega
     rw [ej];refine ⟨⟨e',by assumption,k2⟩,?_⟩;simp only [uo,hq,cD,aI];unfold ua at k3 ⊢
     grind
    ·intro hf c;simp only [nO,hq,cD,aI] at hf;have k3:=i2 hf c;simp only [uo,hq,cD,aI];unfold ua at k3 ⊢
     grind
theorem AR (w:World) (b:Nat) (o:Obj):bf (λk=>k = b) w { w with heap:=w.heap.setIfInBounds b o } :=
 ⟨rfl,rfl,rfl,by simp,λk hk hm=>by grind⟩
theorem mapUpdate {kt vt:TypeId} {E:dy α} {V:dy β} {q:α->α->Bool} {dd:TypeDesc} {b:Nat} {l:List (α × β)} {k:α} {v:β} {z:Operand} {L':List du} (ht:P.underlying t = some (.map kt vt)) (hu:P.underlying kt = some dd) (hk:uI P kt E q)
 (hx:cV F true x (.map (some b))) (hy:cV F true y (E.val k)) (hz:cV F true z (V.val v)) (hU:mS L (oE b E V l) (oE b E V (uo q k v l)) L') (next:Sat K N F L') :
 Sat K (dw P K ops Q ⟨none,.mapUpdate t x y z,ty,pos,af,none⟩ N) F L:=λa w G=>by
 refine dI rfl rfl λhn=>?_
 obtain⟨es,c,h1,h2,hB⟩:pe w b E V l:=(G.inv.own _ hU.mem).1;have hru:(underlying t).run P w = .ok (.map kt vt) w:=by simp [underlying,ht]
 have hgo:(getObj b).run P w = .ok (.map es c) w:=nH h1;have hck:=hk.ck false 10000 (aA _) k w;have hfk:=run_findKey hk hu k w es.toList l h2;have hlt:b < w.heap.size:=(bP.1 h1).1;obtain⟨p1,p2⟩:=T1 hk.iff k v es.toList l 0 h2;have fin:∀ o:Obj,(∃ es' c',o = .map es' c' /\ ua E V es'.toList (uo q k v l) /\ Em es' c')->N a { w with heap:=w.heap.setIfInBounds b o }:=by
  rintro o ⟨es',c',rfl,he,hb'⟩;refine next _ _ (G.world (G.inv.upd hU (AR w b _) ⟨es',c',by simp [hlt],he,hb'⟩ λk hk=>?_));have:k = b:=hk;subst this;exact ⟨.inl rfl,by simpa using hlt⟩
 have tmo:zP P (q9 K) K.E.fr (execOp a.eval ⟨none,.mapUpdate t x y z,ty,pos,af,none⟩) w:=by
  have qT:=hU.mem;have wC:∀ (o:Obj),u9 o = false->Eb o = false->o.isChan = false->zP P (q9 K) K.E.fr (setObj b o) w:=λo g1 g2 g3=>.setObj h1 rfl ((G.inv.own _ qT).2 b rfl).1 (G.inv.fr qT b rfl) g1 g2 g3
  show zP P _ _ (Instr.mapUpdate t (a.eval x) (a.eval y) (a.eval z) >>= λ_=>pure Next.skip) w;rw [hx.eval rfl G.fo,hy.eval rfl G.fo];refine .bind ?_ λ_ _ _=>(Tm.pure _).at
  unfold Instr.mapUpdate;refine .known (.underlying t) hru (.getObj h1 rfl rfl (by intro c e z h; cases h) ?_);refine .known (.checkKey _ _ _ _) hck (.known (Cd hk k _ l h2) hfk ?_);cases hf:nO q k l 0 with
  | none=>exact wC _ rfl rfl rfl
  | some jp =>
    obtain⟨j,u⟩:=jp;obtain⟨⟨e,k1,k2⟩,k3⟩:=p1 j u hf;rw [Nat.sub_zero] at k1;have hke:((es[j]?).map (·.key)).getD (E.val k) = E.val k:=by
     have:es[j]? = some e:=by simpa using k1
     rw [this];exact k2
    have hkt:(Instr.keyThatStays (E.val k) (E.val k)).run P w = .ok (E.val k) w:=by
     simp [Instr.keyThatStays,hk.bits k]
    simp only [cB];rw [hke];refine .known ?_ hkt (wC _ rfl rfl rfl);unfold Instr.keyThatStays;split
    ·exact .pure _
    ·exact .bind (.choose _) λ_=>.pure _
 have hso:∀ o,(setObj b o).run P w = .ok () { w with heap:=w.heap.setIfInBounds b o }:=λo=>MapKept.run_setObj_map o h1
 cases hf:nO q k l 0 with
 | none =>
   rw [hf] at hfk;have hr:(execOp a.eval ⟨none,.mapUpdate t x y z,ty,pos,af,none⟩).run P w = .ok .skip { w with heap:=w.heap.setIfInBounds b (.map (es.push { key:=E.val k,val:=V.val v,born:=c }) (c + 1)) }:=by
    simp [execOp,Instr.mapUpdate,hx.eval rfl G.fo,hy.eval rfl G.fo,hz.eval rfl G.fo,hru,hgo,hck,hfk,hso]
   refine Gr hr tmo hn ?_;exact fin _ ⟨_,_,rfl,by grind,hB.push _ _⟩
 | some jp =>
   obtain⟨j,u⟩:=jp;rw [hf] at hfk;obtain⟨⟨e,k1,k2⟩,k3⟩:=p1 j u hf;have hke:((es[j]?).map (·.key)).getD (E.val k) = E.val k:=by
    have:es[j]? = some e:=by simpa using k1
    rw [this];exact k2
   have hkt:(Instr.keyThatStays (E.val k) (E.val k)).run P w = .ok (E.val k) w:=by
    simp [Instr.keyThatStays,hk.bits k]
   have hr:(execOp a.eval ⟨none,.mapUpdate t x y z,ty,pos,af,none⟩).run P w = .ok .skip { w with heap:=w.heap.setIfInBounds b (.map (es.modify j λe=>{ e with key:=E.val k,val:=V.val v }) c) }:=by
    simp [execOp,Instr.mapUpdate,hx.eval rfl G.fo,hy.eval rfl G.fo,hz.eval rfl G.fo,hru,hgo,hck,hfk,hso,hke,hkt]
   refine Gr hr tmo hn ?_;exact fin _ ⟨_,_,rfl,by grind,hB.modify _ _ (λ_=>rfl)⟩
def YI (w:World) (r b:Nat) (E:dy α) (V:dy β) (l rem:List (α × β)) (cur:Option (α × β)):Prop:=∃ es clock since seen c0,w.heap[b]? = some (.map es clock) /\ ua E V es.toList l /\ Em es clock ∧
 w.heap[r]? = some (.mapIter (some b) since seen c0) /\ (∀ x ∈ es.toList,x.born < since) /\ since <= c0 /\ since <= clock /\ ua E V (leftOf es seen).toList rem /\ ∀ p,cur = some p->c0 = clock /\ ∃ e ∈ es.toList,seen.back? = some e.born /\ e.key = E.val p.1 /\ e.val = V.val p.2
def akx (r b:Nat) (E:dy α) (V:dy β) (l rem:List (α × β)) (cur:Option (α × β)):du where
 c9:=λk=>k = r \/ k = b
 A:=λw=>YI w r b E V l rem cur
 st:=λw w' h ⟨es,c,s,sn,c0,h1,h2,h3,h4,h5⟩=>⟨es,c,s,sn,c0,(h b (.inr rfl)).trans h1,h2,h3,(h r (.inl rfl)).trans h4,h5⟩
def YH (w:World) (b s:Nat) (E:dy α) (V:dy β) (q:α->α->Bool) (k:α) (l:List (α × β)):Prop:=∃ es clock i,w.heap[b]? = some (.map es clock) /\ Em es clock /\ (∃ e,es[i]? = some e /\ e.born = s) ∧
 (∀ v:β,ua E V (es.toList.modify i (λe=>{ e with val:=V.val v })) (uo q k v l)) /\ ua E V es.toList (uo q k ((gB q k l).getD V.zero) l)
def akq (b s:Nat) (E:dy α) (V:dy β) (q:α->α->Bool) (k:α) (l:List (α × β)):du where
 c9:=λj=>j = b
 A:=λw=>YH w b s E V q k l
 st:=λw w' h ⟨es,c,i,h1,h2⟩=>⟨es,c,i,(h b rfl).trans h1,h2⟩
theorem Aq (q:α->α->Bool) (k:α):∀ (l:List (α × β)) (i:Nat),(nO q k l i).map (·.2) = gB q k l
 | [],i=>rfl
 | p :: l,i=>by
   unfold gB;simp only [nO];split
   ·rfl
   ·rw [Aq q k l (i + 1),Aq q k l (0 + 1)]
theorem sO (q:α->α->Bool) (k:α) (p:α × β) (l:List (α × β)):gB q k (p :: l) = if q k p.1 then some p.2 else gB q k l:=by
 unfold gB;simp only [nO];split
 ·rfl
 ·exact Aq q k l (0 + 1)
theorem uB {q:α->α->Bool} (hi:∀ x y,q x y = true ↔ x = y) (k k':α) (v:β):∀ l:List (α × β),gB q k (uo q k' v l) = if q k k' then some v else gB q k l
 | []=>by rw [uo,sO]
 | p :: l=>by
   rw [uo]
   by_cases h:q k' p.1 = true
   ·rw [if_pos h,sO,sO]
    grind
   ·rw [if_neg h,sO,sO,uB hi k k' v l]
    grind
def Sep (r s:du):du where
 c9:=λb=>r.c9 b \/ s.c9 b
 A:=λw=>r.A w /\ s.A w /\ r.zT s
 st:=λw w' h ⟨h1,h2,h3⟩=>⟨r.st w w' (λb hb=>h b (.inl hb)) h1,s.st w w' (λb hb=>h b (.inr hb)) h2,h3⟩
theorem bS.oc {s:du} (h:bS K (Sep r s :: L) w):bS K (r :: s :: L) w:=by
 obtain⟨h1,h2,h3,h9⟩:=h;obtain⟨⟨a1,a2,a3⟩,a4⟩:=h2 _ ah;rw [bC] at h3;refine ⟨h1,?_,?_,h9⟩
 ·intro q hq
  rcases aE.1 hq with rfl | hq
  ·exact ⟨a1,λb hb=>a4 b (.inl hb)⟩
  rcases aE.1 hq with rfl | hq
  ·exact ⟨a2,λb hb=>a4 b (.inr hb)⟩
  grind
 ·refine bC.2 ⟨?_,bC.2 ⟨?_,h3.2⟩⟩
  ·intro q hq
   rcases aE.1 hq with rfl | hq
   ·exact a3
   ·exact λb hb hb'=>h3.1 q hq b (.inl hb) hb'
  ·exact λq hq b hb hb'=>h3.1 q hq b (.inr hb) hb'
theorem bS.mI {s:du} (h:bS K (r :: s :: L) w):bS K (Sep r s :: L) w:=by
 obtain⟨h1,h2,h3,h9⟩:=h;rw [bC,bC] at h3;obtain⟨k1,k2⟩:=h2 r ah;obtain⟨l1,l2⟩:=h2 s (aF _ ah);refine ⟨h1,?_,bC.2 ⟨?_,h3.2.2⟩,h9⟩
 ·intro q hq
  rcases aE.1 hq with rfl | hq
  ·exact ⟨⟨k1,l1,h3.1 s ah⟩,λb hb=>hb.elim (k2 b) (l2 b)⟩
  grind
 ·rintro q hq b (hb | hb) hb'
  ·exact h3.1 q (aF _ hq) b hb hb'
  ·exact h3.2.1 q hq b hb hb'
def bS.perm (h:bS K L w) (hp:L'.Perm L):bS K L' w :=
 ⟨h.keeps,λr hr=>h.own r (hp.mem_iff.1 hr),(hp.pairwise_iff (λ{_ _} hd=>hd.symm)).2 h.Jj,h.ok⟩
theorem lC.perm (h:lC L r L'):(r :: L').Perm L:=by
 obtain⟨A,C,rfl,rfl⟩:=h;exact lA.symm
theorem oc {r s:du} {L':List du} {X:Act->World->Prop} (h:lC L (Sep r s) L') (next:Sat K X F (r :: s :: L')):Sat K X F L:=λa w G =>
 next a w ⟨G.fo,(G.inv.perm h.perm).oc⟩
theorem mI {r s:du} {L1 L':List du} {X:Act->World->Prop} (h1:lC L r L1) (h2:lC L1 s L') (next:Sat K X F (Sep r s :: L')):Sat K X F L:=λa w G =>
 next a w ⟨G.fo,((G.inv.perm h1.perm).perm (h2.perm.cons r)).mI⟩
def mE (w:World) (r:du) (J:X->Prop) (val:X->Value) (r':X->du):ja:=⟨r.c9,λe w' =>
 ∃ x,J x /\ e = .returned (val x) /\ bf r.c9 w w' /\ (r' x).A w' /\ ∀ b,(r' x).c9 b->(r.c9 b \/ w.heap.size <= b) /\ b < w'.heap.size⟩
def At (r:du) (w:World):Prop:=r.A w /\ ∀ b,r.c9 b->b < w.heap.size
def at_mem (h:r ∈ L) (w:World) (I:bS K L w):At r w:=⟨(I.own r h).1,λb hb=>((I.own r h).2 b hb).2⟩
theorem uj (h:At r w):∀ e0:En,Ctx.OK ⟨n,w,r.c9,e0⟩->bS ⟨n,w,r.c9,e0⟩ [r] w:=λe0 ok =>
 ⟨bf.refl _ _,λq hq=>by
  obtain rfl:=cq.1 hq;exact ⟨h.1,λb hb=>⟨.inr hb,h.2 b hb⟩⟩,eD _ _,ok⟩
theorem D1 {e0:En} {val:X->Value} (x:X) (hJ:J x) (hv:v = val x) (hm:r' x ∈ L) (w:World) (h:bS ⟨n,w0,r.c9,e0⟩ L w):mE w0 r J val r' (.returned v) w :=
 ⟨x,hJ,by rw [hv],h.keeps,(h.own _ hm).1,λb hb=>⟨((h.own _ hm).2 b hb).1.elim .inr .inl,((h.own _ hm).2 b hb).2⟩⟩
theorem uC {L':X->List du} (J:X->Prop) (val:X->Value) (hu:∀ x,mS L r (r' x) (L' x)) (hm:r ∈ L) (om:dV P f) (fQ:lM F true args vs)
 (hC:∀ w,bS K L w->Calls P f vs.toArray w (mE w r J val r')) (next:∀ x,J x->Sat K N ((d,true,val x) :: F) (L' x)) (hd:Nat.blt d K.n = true:=by rfl) :
 Sat K (dw P K ops Q ⟨some d,.call { callee:=.value (.func f),args:=args.toArray,argTypes:=qJ },ty,pos,af,none⟩ N) F L :=
 zH (λw=>mE w r J val r') J val L' om fQ (λw I=>(hC w I).here I (I.fr hm)) (λw I b hb=>((I.own r hm).2 b hb).1)
  (λw I u w' ⟨x,hJ,he,hk,ha,hf⟩=>⟨x,hJ,by grind,I.upd (hu x) hk ha hf⟩) next hd
theorem bS.JE (h:bS K L w) (hr:lC L r L') (k:bf r.c9 w w'):bS K L' w':=by
 have h':=h.perm hr.perm;obtain⟨h1,h2,h3,h4⟩:=h';rw [bC] at h3;have hf:=(h2 r ah).2;refine ⟨h1.trans' k (λi hi hm=>?_),λq hq=>?_,h3.2,h4⟩
 ·grind
 ·obtain⟨a,b⟩:=h2 q (aF _ hq);exact ⟨q.st w w' (λi hi=>k.block i (b i hi).2 (λhm=>h3.1 q hq i hm hi)) a,λi hi=>⟨(b i hi).1,aD (b i hi).2 k.size⟩⟩
def El (P:Program) (f:FuncId) (cap:List Value) (M:Nat->Prop) (w0:World) (E:dy α) (E':dy β) (D:α->Prop) (g:α->β):Prop :=
 ∀ x w',D x->bf M w0 w'->Calls P f (E.val x :: cap).toArray w' (dO w' (E'.val (g x)))
theorem El.call {D:α->Prop} {g:α->β} (h:El P f cap K.M K.w0 E E' D g) {x:α} (hD:D x) (w:World) (I:bS K L w):Calls P f ([E.val x] ++ cap).toArray w (dO w (E'.val (g x))):=h x w hD I.keeps
def ami (P:Program) (f:FuncId) (cap:List Value) (M:Nat->Prop) (w0:World) (E:dy α) (E':dy γ) (Ov:dy β) (D:α->γ->Prop) (g:α->γ->β):Prop :=
 ∀ x y w',D x y->bf M w0 w'->Calls P f (E.val x :: E'.val y :: cap).toArray w' (dO w' (Ov.val (g x y)))
def ako {σ:Type} (P:Program) (f:FuncId) (cap:List Value) (M:Nat->Prop) (w0:World) (E:dy α) (S:σ->du) (J:α->σ->σ->Prop):Prop :=
 ∀ x s w',bf M w0 w'->At (S s) w'->Calls P f (E.val x :: cap).toArray w' (mE w' (S s) (J x s) (λ_=>.tuple #[]) S)
theorem Ev.si {a:Option Addr} {cap:Nat} (ht:P.underlying t = some (.slice e)) (hx:cV F g x (.slice a n cap)) (hy:cV F g y (.slice none 0 0)):Ev P K F L g (.binOp .eql t x y t') ty (.bool a.isNone):=.of rfl (λhg ac G w _ dst pos af gd=>by
 show Tm P _ _ ((do eqGuard .eql t x y (ac.eval x) (ac.eval y); binOp .eql t (ac.eval x) (ac.eval y):Sem Value) >>= λr=>pure (Next.value r));rw [hx.eval hg G,hy.eval hg G];have e1:binOp .eql t (.slice a n cap) (.slice none 0 0) = (do pure (.bool (<- Op.equal t (.slice a n cap) (.slice none 0 0)))):=by cases a <;> rfl
 refine .bind (.bind (by exact .pure _) λ_=>.bind ?_ λ_=>.pure _) λ_=>.pure _
 show Tm P _ _ (Op.equalIn (9999 + 1) t (.slice a n cap) (.slice none 0 0));refine .under ht ?_;cases a <;> exact .pure _) λhg ac G w _ dst pos af gd=>by
 have hru:(underlying t).run P w = .ok (.slice e) w:=by simp [underlying,ht]
 have hg1:(eqGuard .eql t x y (.slice a n cap) (.slice none 0 0)).run P w = .ok () w:=by
  unfold eqGuard
  rfl
 have hE:∀ d:Nat,(Op.equalIn (d + 1) t (.slice a n cap) (.slice none 0 0)).run P w = .ok a.isNone w:=λd=>by
  unfold Op.equalIn;rw [ay,hru];cases a <;> rfl
 have he:(Op.equal t (.slice a n cap) (.slice none 0 0)).run P w = .ok a.isNone w:=hE 9999;have hb:(binOp .eql t (.slice a n cap) (.slice none 0 0)).run P w = .ok (.bool a.isNone) w:=by
  have e1:binOp .eql t (.slice a n cap) (.slice none 0 0) = (do pure (.bool (<- Op.equal t (.slice a n cap) (.slice none 0 0)))):=by cases a <;> rfl
  rw [e1];simp only [ay,he,aj,aJ]
 simp only [execOp,hx.eval hg G,hy.eval hg G,ay,hg1,hb,aj,aJ]
theorem decode_high (s:ByteArray) (i:Nat) (h:128 <= (s.get! i).toNat):128 <= (Utf8.decode s i).1:=by
 unfold Utf8.decode;simp only [jP];rw [if_neg (by omega)];split
 ·split <;> first | (simp only; omega) | (simp [Utf8.runeError])
 split
 ·split
  ·grind
  trivial
 split
 ·split
  ·grind
  trivial
 trivial
def Oj (r:Nat) (s:ByteArray) (p:Nat):du where
 c9:=λk=>k = r
 A:=λw=>w.heap[r]? = some (.stringIter s p)
 st:=λw w' h h1=>by grind
theorem HJ (ht:P.underlying t = some .string) (hx:cV F true x (.string s)) (next:∀ r,Sat K N ((d,true,.pointer (some ⟨r,0,none⟩)) :: F) (Oj r s 0 :: L)) (hd:Nat.blt d K.n = true:=by rfl) :
 Sat K (dw P K ops Q ⟨some d,.range t x,ty,pos,af,none⟩ N) F L:=λa w G=>by
 refine dI rfl rfl λhn=>?_
 have hru:(underlying t).run P w = .ok .string w:=by simp [underlying,ht]
 have hr:(execOp a.eval ⟨some d,.range t x,ty,pos,af,none⟩).run P w = .ok (.value (.pointer (some ⟨w.heap.size,0,none⟩))) { w with heap:=w.heap.push (.stringIter s 0) }:=by
  simp [execOp,Instr.range,hx.eval rfl G.fo,hru]
 refine xL hr (by
  show Tm P _ _ (Instr.range t (a.eval x) >>= λr=>pure (Next.value r));rw [hx.eval rfl G.fo];refine .bind ?_ λ_=>.pure _
  exact .under ht (.known (b:=.stringIter s 0) (.pure _) (λ_=>rfl) (.bind (.newObj _ rfl rfl) λ_=>.pure _))) hn ?_
 refine next w.heap.size _ _ (G.put d true _ _ (by simp_all) rfl (G.inv.add (bf.alloc _ _ _) ?_ ?_))
 ·show _ = _;simp
 ·intro b hb;have:b = w.heap.size:=hb
  grind
theorem W8 {r p:Nat} {L':Nat->List du} (hx:cV F true x (.pointer (some ⟨r,0,none⟩))) (hU:∀ q,mS L (Oj r s p) (Oj r s q) (L' q))
 (nil:¬ p < s.size->Sat K N ((d,true,.tuple #[.bool false]) :: F) (L' p))
 (next:p < s.size->Sat K N ((d,true,.tuple #[.bool true,I p,.int .i32 (Utf8.decode s p).1]) :: F) (L' (p + (Utf8.decode s p).2))) (hd:Nat.blt d K.n = true:=by rfl) :
 Sat K (dw P K ops Q ⟨some d,.next x true,ty,pos,af,none⟩ N) F L:=λa w G=>by
 refine dI rfl rfl λhn=>?_
 have h1:w.heap[r]? = some (.stringIter s p):=(G.inv.own _ (hU p).mem).1;have hlt:r < w.heap.size:=(bP.1 h1).1;have hd':d < K.n:=by simpa [ir] using hd
 have hgo:(getObj r).run P w = .ok (.stringIter s p) w:=by simp [getObj,Sem.run,h1]
 have hso:∀ o,(setObj r o).run P w = .ok () { w with heap:=w.heap.setIfInBounds r o }:=λo=>by simp [setObj,Sem.run,h1]
 have tmo:zP P (q9 K) K.E.fr (execOp a.eval ⟨some d,.next x true,ty,pos,af,none⟩) w:=by
  have qT:=(hU p).mem;show zP P _ _ (Instr.next (a.eval x) true ty >>= λr=>pure (Next.value r)) w;rw [hx.eval rfl G.fo];refine .bind ?_ λ_ _ _=>(Tm.pure _).at
  unfold Instr.next;refine .getObj h1 rfl rfl (by intro c e z h; cases h) ?_;dsimp only;split
  ·exact .bind (.setObj h1 rfl ((G.inv.own _ qT).2 r rfl).1 (G.inv.fr qT r rfl) rfl rfl rfl) λ_ _ _=>(Tm.pure _).at
  ·exact (Tm.pure _).at
 by_cases hp:p < s.size
 ·have hr:(execOp a.eval ⟨some d,.next x true,ty,pos,af,none⟩).run P w = .ok (.value (.tuple #[.bool true,I p,.int .i32 (Utf8.decode s p).1])) { w with heap:=w.heap.setIfInBounds r (.stringIter s (p + (Utf8.decode s p).2)) }:=by
   simp [execOp,Instr.next,hx.eval rfl G.fo,hgo,hp,hso,goInt,I]
  refine K5 hr tmo hn (next hp _ _ (G.put d true _ _ hd' rfl (G.inv.upd (hU _) (AR w r _) ?_ ?_)))
  ·show _ = _
   grind
  ·intro k hk;have:k = r:=hk;subst this;exact ⟨.inl rfl,by grind⟩
 ·have hr:(execOp a.eval ⟨some d,.next x true,ty,pos,af,none⟩).run P w = .ok (.value (.tuple #[.bool false])) w:=by
   simp [execOp,Instr.next,hx.eval rfl G.fo,hgo,hp]
  refine K5 hr tmo hn (nil hp _ _ (G.put d true _ _ hd' rfl (G.inv.upd (hU p) (bf.refl _ _) h1 ?_)));intro k hk;have:k = r:=hk
  grind
theorem Ev.Yb {m n:Int} (hx:cV F g x (.int .i32 m)) (hy:cV F g y (.int .i32 n)):Ev P K F L g (.binOp .eql t x y t') ty (.bool (decide (m = n))) :=
 Ev.ly hx hy (jg (by rfl) (.inl rfl))
def Ev.ND {m n:Int} (hx:cV F g x (.int .i32 m)) (hy:cV F g y (.int .i32 n)):Ev P K F L g (.binOp .leq t x y t') ty (.bool (decide (m <= n))) :=
 Ev.ly hx hy (jg rfl (.inr (.inr (.inr (.inl rfl)))))
def Ev.NW {m n:Int} (hx:cV F g x (.int .i32 m)) (hy:cV F g y (.int .i32 n)):Ev P K F L g (.binOp .geq t x y t') ty (.bool (decide (n <= m))) :=
 Ev.ly hx hy (jg rfl (.inr (.inr (.inr (.inr (.inr rfl))))))
theorem Ev.afF (ht:P.underlying t = some .string) (hx:cV F g x (.string s)):Ev P K F L g (.call { callee:=.builtin .len,args:=#[x],argTypes:=#[t] }) ty (I s.size):=.of rfl (λhg a G w _ dst pos af gd=>by
 have e:execOp a.eval ⟨dst,.call { callee:=.builtin .len,args:=#[x],argTypes:=#[t] },ty,pos,af,gd⟩ = (Builtin.len_ #[t] ty #[.string s] >>= λr=>pure (Next.value r)):=by
  simp [execOp,resolve,invoke,builtin,hx.eval hg G]
 rw [e];exact .bind (.under ht (.pure _)) λ_=>.pure _) λhg a G w _ dst pos af gd=>by
 have hru:(underlying t).run P w = .ok .string w:=by simp [underlying,ht]
 simp [execOp,resolve,invoke,builtin,Builtin.len_,hx.eval hg G,hru,goInt,I]
def Mp (f:FuncId) (fst cap:List Value):OV:=⟨.func (.func f) fst.toArray cap.toArray,rfl⟩
theorem Ev.wZ {fs Un:List Operand} {us:List Value} (h1:lM F g fs us) (h:lM F g Un vs):Ev P K F L g (.makeFunc (.func f) fs.toArray Un.toArray) ty (Mp f us vs).v:=.of rfl (λ_ _ _ _ _ _ _ _ _=>.bind (.pure _) λ_=>.pure _) λhg a G w hw dst pos af gd=>by
 have e1:=h1.eval hg G;have e2:=h.eval hg G;simp [execOp,Instr.makeFunc,Mp,e1,e2]
theorem De (hx:cV F g x (Mp f fst cap).v) (om:dV P f) (fQ:lM F g args vs) (hg:g = true) (G:kD K F a) (w:World) {gd:Option (Nat × Bool)} :
 (execOp a.eval ⟨dst,.call { callee:=.value x,args:=args.toArray,argTypes:=qJ },ty,pos,af,gd⟩).wpS P pm fr (λn w'=>n = .enter f (fst ++ vs ++ cap).toArray /\ w' = w) w:=by
 have h1:=fQ.eval hg G;have h2:=hx.eval hg G;have h3:(Mp f fst cap).v = .func (.func f) fst.toArray cap.toArray:=rfl;rw [h3] at h2;have e:execOp a.eval ⟨dst,.call { callee:=.value x,args:=args.toArray,argTypes:=qJ },ty,pos,af,gd⟩ = callFunc f (fst ++ vs ++ cap).toArray:=by
  simp [execOp,resolve,Deferred.ofValue,invoke,h1,h2]
 rw [e];exact kS om _ w
theorem Up (hx:cV F true x (Mp f fst cap).v) (om:dV P f) (fQ:lM F true args vs)
 (hC:∀ w,bS K L w->Calls P f (fst ++ vs ++ cap).toArray w (dO w u)) (next:Sat K N ((d,true,u) :: F) L) (hd:Nat.blt d K.n = true:=by rfl) :
 Sat K (dw P K ops Q ⟨some d,.call { callee:=.value x,args:=args.toArray,argTypes:=qJ },ty,pos,af,none⟩ N) F L:=λa w G =>
 dI rfl rfl λ_=>yE (X:=Unit) rfl (λ_=>True) (λ_=>u) (λ_=>L) G (De hx om fQ rfl G.fo w) ((hC w G.inv).here G.inv λ_ h=>h.elim) (λ_ h=>h.elim)
  (λv w' q=>⟨(),trivial,(oA G.inv q).1,(oA G.inv q).2⟩) (λ_ _=>next) hd
def ahi (P:Program) (f:FuncId) (fst cap:List Value) (M:Nat->Prop) (w0:World) (E:dy α) (E':dy γ) (Ov:dy β) (D:α->γ->Prop) (g:α->γ->β):Prop :=
 ∀ x y w',D x y->bf M w0 w'->Calls P f (fst ++ [E.val x,E'.val y] ++ cap).toArray w' (dO w' (Ov.val (g x y)))
theorem Ev.Z6 {m n:Int} (hx:cV F g x (I m)) (hy:cV F g y (I n)) (hm:g = true->0 <= m /\ m <= 9223372036854775807) (hn:g = true->0 <= n /\ n <= 9223372036854775807):Ev P K F L g (.binOp .and t x y t') ty (I ((m.toNat &&& n.toNat:Nat):Int)):=λhg=>by
 have h1:=hm hg;have h2:=hn hg;obtain⟨m',rfl⟩:=gK h1.1;obtain⟨n',rfl⟩:=gK h2.1;exact Ev.Uw (op:=.and) (.inl rfl) hx hy (λ_=>by omega) (λ_=>by omega) rfl hg
def ama (P:Program) (f:FuncId) (cap:List Value) (N:Nat) (E:dy α) (S:OV->List β->du) (D:α->Prop) (mk:α->β):Prop :=
 ∀ x o l w',D x->l.length < N->At (S o l) w'->Calls P f (E.val x :: cap).toArray w' (mE w' (S o l) (λ_:OV=>True) (λ_=>.tuple #[]) (λo'=>S o' (l ++ [mk x])))
theorem bytes_beq (a b:ByteArray):(a.toList == b.toList) = decide (a = b):=by
 rw [dT,cn,beq_iff_eq];constructor
 ·intro h;rw [ByteArray.toList_eq,ByteArray.toList_eq] at h;cases a; simp_all
 grind
theorem Ev.Zw {a b:ByteArray} (hx:cV F g x (.string a)) (hy:cV F g y (.string b)):Ev P K F L g (.binOp .neq t x y t') ty (.bool (decide (¬ a = b))) :=
 Ev.bin hx hy (λw=>wL w) (λw=>by
  rw [binOp_string_neq,aJ,bytes_beq];simp) tA (by exact .pure _)
def lP (L' L:List du):Prop:=∃ L0,L0.Perm L /\ L'.Sublist L0
theorem lP.nil:lP [] L:=⟨L,List.Perm.refl _,jT _⟩
def lP.of (h:L'.Sublist L):lP L' L:=⟨L,List.Perm.refl _,h⟩
theorem lP.cons {r:du} {L L1 L':List du} (h:lC L r L1) (hs:lP L' L1):lP (r :: L') L:=by
 obtain⟨L0,h0,h1⟩:=hs;exact ⟨r :: L0,(h0.cons r).trans h.perm,h1.cons_cons r⟩
theorem bS.HH (h:bS K L w) (hs:lP L' L):bS K L' w:=by
 obtain⟨L0,h0,h1⟩:=hs;exact (h.perm h0).sub h1
theorem afA (x':X) (hJ:J x') (hF:Sub F (Fx x')) (hL:lP (Lx x') L) :
 Sat K (λa w=>∃ x',J x' /\ Good K (Fx x') (Lx x') a w) F L:=λa w G=>⟨x',hJ,(G.sub hF (aY _)).world (G.inv.HH hL)⟩
theorem Zv {x:X} (x':X) (hJ:J x') (hlt:μ x' < μ x) (hF:Sub F (Fx x')) (hL:lP (Lx x') L) :
 Sat K (λa w=>∃ x',J x' /\ μ x' < μ x /\ Good K (Fx x') (Lx x') a w) F L:=λa w G=>⟨x',hJ,hlt,(G.sub hF (aY _)).world (G.inv.HH hL)⟩
def lu {e0:En} {val:X->Value} {R:X->List du} (x:X) (hJ:J x) (hv:v = val x) (hs:lP (R x) L) (w:World) (h:bS ⟨n,w0,fX,e0⟩ L w):nz w0 J val R (.returned v) w :=
 tU x hJ hv (aY _) w (h.HH hs)
def qx (r:du):List du->du
 | []=>r
 | s :: l=>Sep r (qx s l)
theorem bS.aeU {w:World}:∀ (l:List du) (r:du) (M:List du),bS K (r :: (l ++ M)) w->bS K (qx r l :: M) w
 | [],r,M,h=>h
 | s :: l,r,M,h=>by
   have h1:bS K (s :: (l ++ (r :: M))) w:=h.perm (by
    refine List.Perm.trans ?_ (List.Perm.swap _ _ _);exact List.Perm.cons s lA)
   have h2:=bS.aeU l s (r :: M) h1;exact (h2.perm (List.Perm.swap _ _ _)).mI
theorem aaQ {l:List du} {X:Act->World->Prop} (h:lP (r :: (l ++ M)) L) (next:Sat K X F (qx r l :: M)):Sat K X F L:=λa w G =>
 next a w ⟨G.fo,bS.aeU l r M (G.inv.HH h)⟩
def YQ:du where
 c9:=λ_=>False
 A:=λ_=>True
 st:=λ_ _ _ _=>trivial
theorem Ev.agG {a b:ByteArray} (hx:cV F g x (.string a)) (hy:cV F g y (.string b)):Ev P K F L g (.binOp .eql t x y t') ty (.bool (decide (a = b))) :=
 Ev.bin hx hy (λw=>wL w) (λw=>by
  rw [binOp_string_eql,aJ,bytes_beq]) tA (by exact .pure _)
def tk (i:Nat) (hi:ops[i]? = some ⟨some d,op,ty,pos,af,none⟩)
    (h:Ev P K F Lq true op ty v) (next:Sat K (nk P K ops Q Lq fuel (listed.setIfInBounds i true)) ((d,true,v) :: F) L) (hs:Region.noSelect ops = true:=by kernel_rfl)
    (hf:Region.free .any ops listed i = true:=by kernel_rfl) (hr:(Region.ready .any ops listed).contains i = true:=by kernel_rfl)
    (hL:Lq.Sublist L:=by repeat first | exact sR | exact sN | apply sC | apply sS | apply sA) (hd:Nat.blt d K.n = true:=by rfl) :
    Sat K (nk P K ops Q Lq (fuel + 1) listed) F L:=take i hi hs hf hr hL h next hd
def jl (i:Nat) (hi:ops[i]? = some ⟨some d,op,ty,pos,af,some (j,want)⟩)
    (hj:(ops[j]?).bind (·.dst) = some tg) (hg:look F tg = some (c1,.bool c2))
    (h:Ev P K F Lq (c1 && (c2 == want)) op ty v) (next:Sat K (nk P K ops Q Lq fuel (listed.setIfInBounds i true)) ((d,(c1 && (c2 == want)),v) :: F) L) (hs:Region.noSelect ops = true:=by kernel_rfl)
    (hf:Region.free .any ops listed i = true:=by kernel_rfl) (hr:(Region.ready .any ops listed).contains i = true:=by kernel_rfl)
    (hL:Lq.Sublist L:=by repeat first | exact sR | exact sN | apply sC | apply sS | apply sA) (hd:Nat.blt d K.n = true:=by rfl) :
    Sat K (nk P K ops Q Lq (fuel + 1) listed) F L:=aew i hi hs hf hr hL hj hg h next hd
def xi (h:Sat K (nk P K ops Q Lq fuel listed) F L) (hL:Lq.Sublist L:=by repeat first | exact sR | exact sN | apply sC | apply sS | apply sA):Sat K (IJ P K ops Q Lq fuel listed) F L:=To hL h
theorem fB (i:Nat) {o:Oper} (ho:ops[i]? = some o) (h:Sat K (dw P K ops Q o (IJ P K ops Q Lq fuel (listed.setIfInBounds i true))) F L)
 (hr:Region.ready .any ops listed = [i]:=by kernel_rfl):Sat K (nk P K ops Q Lq (fuel + 1) listed) F L:=all [i] hr (List.cons_ne_nil _ _) (.cons ho h .nil)
def D3 (h:Sat K (Q .normal) F L) (hr:Region.ready .any ops listed = []:=by kernel_rfl) :
    Sat K (nk P K ops Q Lq fuel listed) F L:=over hr h
theorem nb:(∀ a b:Bool,((a && b) = true) = (a = true /\ b = true)) /\ (∀ a b:Bool,((a || b) = true) = (a = true \/ b = true)) /\ (∀ a b:Bool,((a || b) = false) = (a = false /\ b = false)) /\ (∀ a b:Bool,((a && b) = false) = (a = false \/ b = false)) ∧
 (∀ a:Bool,((!a) = true) = (a = false)) /\ (∀ a:Bool,((!a) = false) = (a = true)) /\ (∀ (p:Prop) [Decidable p],(decide p = true) = p) /\ (∀ (p:Prop) [Decidable p],(decide p = false) = ¬p) /\ (∀ (p:Prop) [Decidable p],(¬¬p) = p):=by
 simp
def Ev.gS (TT:jK P t E') (hx:cV F g x (.pointer (some ⟨b,o,none⟩))) (l:aB E E' o)
    (hm:Var b E xv T ∈ L:=by repeat first | exact mH | apply mT | apply mA):Ev P K F L g (.load t x) ty (E'.val (l.get xv)):=Ev.load TT hx (ed hm l)
def j8 {yv:β} (T:jK P t E') (l:aB E E' o) (hx:cV F true x (.pointer (some ⟨b,o,none⟩))) (hy:cV F true y (E'.val yv))
    (next:Sat K N F L') (hu:mS L (Var b E xv T') (Var b E (l.set xv yv) T') L':=by repeat first | exact mS.head | apply mS.tail | apply mS.right) :
    Sat K (dw P K ops Q ⟨none,.store t x y,ty,pos,af,none⟩ N) F L:=aaC T l hx hy hu next
def Ev.gR (z:β) (TT:jK P t E') (hx:cV F g x (.pointer (some ⟨b,o,none⟩))) (l:aB E E' o)
    (hm:Var b E xv T ∈ L:=by repeat first | exact mH | apply mT | apply mA) (e:l.get xv = z:=by rfl):Ev P K F L g (.load t x) ty (E'.val z):=e ▸ Ev.load TT hx (ed hm l)
theorem app {L':Value->List du} {z:Value} {Qf:Nat} (ht:P.underlying t = some (.slice T)) (TT:jK P T E)
 (hz:(P.info? T).map (λi=>(i.zero,i.bytes)) = some (some z,Qf)) (Vt:z.cells.size = E.size) (hx:cV F true x v) (hy:cV F true y u) (next:∀ o:OV,Sat K N ((d,true,o.v) :: F) (L' o.v))
 (hsz:Nat.blt 0 E.size = true:=by rfl)
 (hu:∀ v',mS L (bY v E xs T) (bY v' E (xs ++ ys) T) (L' v'):=by intro _; repeat first | exact mS.head | apply mS.tail | apply mS.right)
 (hsrc:∀ w,bS K L w->bU E w u ys:=by first | exact kY (by repeat first | exact mH | apply mT | apply mA) | exact λw I=>bU.cO (by assumption) I.keeps)
 (hby:xs.length + ys.length <= maxLen /\ (xs.length + ys.length) * Qf <= 140737488355328) (hd:Nat.blt d K.n = true:=by rfl) :
 Sat K (dw P K ops Q ⟨some d,.call { callee:=.builtin .append,args:=#[x,y],argTypes:=#[t,t] },ty,pos,af,none⟩ N) F L :=
 append ht TT hsz hz Vt hx hy hu hsrc hby next hd
theorem mt (x':X) (hJ:J x') (hF:Sub F (Fx x'):=by repeat first | exact Sub.nil | refine Sub.cons rfl ?_) (hL:(Lx x').Sublist L:=by repeat first | exact sR | exact sN | apply sC | apply sS | apply sA) :
 Sat K (λa w=>∃ x',J x' /\ Good K (Fx x') (Lx x') a w) F L:=meet x' hJ hF hL
def Xd (x':X) (hJ:J x') (hF:Sub F (Fx x'):=by repeat first | exact Sub.nil | refine Sub.cons rfl ?_) (hL:lP (Lx x') L:=by repeat first | exact lP.nil | refine lP.cons (by repeat first | exact lC.head | apply lC.tail) ?_) :
    Sat K (λa w=>∃ x',J x' /\ Good K (Fx x') (Lx x') a w) F L:=afA x' hJ hF hL
theorem nx {x:X} (x':X) (hJ:J x') (hlt:μ x' < μ x) (hF:Sub F (Fx x'):=by repeat first | exact Sub.nil | refine Sub.cons rfl ?_) (hL:(Lx x').Sublist L:=by repeat first | exact sR | exact sN | apply sC | apply sS | apply sA) :
 Sat K (λa w=>∃ x',J x' /\ μ x' < μ x /\ Good K (Fx x') (Lx x') a w) F L:=next x' hJ hlt hF hL
def Sv {x:X} (x':X) (hJ:J x') (hlt:μ x' < μ x) (hF:Sub F (Fx x'):=by repeat first | exact Sub.nil | refine Sub.cons rfl ?_) (hL:lP (Lx x') L:=by repeat first | exact lP.nil | refine lP.cons (by repeat first | exact lC.head | apply lC.tail) ?_) :
    Sat K (λa w=>∃ x',J x' /\ μ x' < μ x /\ Good K (Fx x') (Lx x') a w) F L:=Zv x' hJ hlt hF hL
def lp (J:X->Prop) (Fx:X->Fr) (Lx:X->List du) (μ:X->Nat) (x0:X) (h0:J x0)
    (round:∀ x,J x->Sat K (c.oV P K (Exit.then (λa w=>∃ x',J x' /\ μ x' < μ x /\ Good K (Fx x') (Lx x') a w) Q)) (Fx x) (Lx x)) (hF:Sub F (Fx x0):=by repeat first | exact Sub.nil | refine Sub.cons rfl ?_) (hL:(Lx x0).Sublist L:=by repeat first | exact sR | exact sN | apply sC | apply sS | apply sA) :
    Sat K ((Code.loop c).oV P K Q) F L:=loop J Fx Lx μ x0 h0 hF hL round
end
section
variable {α β γ σ:Type} {P:Program}
variable {K:Ctx} {F:Fr} {L:List du} {g:Bool} {Q:Exit->Act->World->Prop} {N:Act->World->Prop} {ops:Array Oper} {o:Oper} {rest:List Oper}
 {op:Op} {ty t t':TypeId} {pos:String} {af:Array Edge} {d:Nat} {x y:Operand} {X:Ext} {fr:Nat}
theorem Ev.Hu (hg:g = false):Ev P K F L g op ty v:=λh=>by grind
theorem gd {Fa:ζ->Fr} {La:ζ->List du} {Q:Exit->Act->World->Prop} (z:ζ) (hF:Sub F (Fa z)) (hL:(La z).Sublist L):Sat K (Exit.then (λa' w'=>∃ z,Good K (Fa z) (La z) a' w') Q .normal) F L:=λa w G=>⟨z,G.sub hF hL⟩
theorem afr {dst:Option Nat} (hj:(ops[j]?).bind (·.dst) = some tg) (hg:look F tg = some (true,.bool c2)) (hw:c2 = want)
 (h:Sat K (dw P K ops Q ⟨dst,op,ty,pos,af,none⟩ N) F L):Sat K (dw P K ops Q ⟨dst,op,ty,pos,af,some (j,want)⟩ N) F L:=λa w G=>by
 have hw':=r6 (o:=⟨dst,op,ty,pos,af,some (j,want)⟩) rfl hj hg G.fo;have h1:=h a w G;unfold dw at h1 ⊢;rw [if_pos (by rw [hw',hw]; cases want <;> rfl)];exact h1
def yTm (r:Loop) (vs:List Value):Array Value:=(r.params.zip vs.toArray).foldl (λtmps (t,a)=>tmps.setIfInBounds t a) r.tmps
def vl (X:Ext) (fr:Nat) (P:Program) (v:Value) (args:List Value) (w:World) (R:ja):Prop :=
 (∃ f fst cap,v = (Mp f fst cap).v /\ dV P f /\ iQ X fr P f (fst ++ args ++ cap).toArray w R) ∨
 (∃ l r,v = .func (.yield l) #[] #[] /\ w.heap[l]? = some (.loop r) /\ args.toArray.size = r.params.size /\ He X fr P l r.fn (yTm r args) r.assign r.body w R)
def vl.of {args:List Value} (om:dV P f) (h:iQ X fr P f (fst ++ args ++ cap).toArray w R):vl X fr P (Mp f fst cap).v args w R:=.inl ⟨f,fst,cap,rfl,om,h⟩
theorem LQ {l:Nat} {r:Loop} (hx:cV F g x (.func (.yield l) #[] #[])) (fQ:lM F g args vs) (hg:g = true) (G:kD K F a) (w:World) (hn:cI w) {gd:Option (Nat × Bool)}
 (h:w.heap[l]? = some (.loop r)) (hs:vs.toArray.size = r.params.size) :
 (execOp a.eval ⟨dst,.call { callee:=.value x,args:=args.toArray,argTypes:=qJ },ty,pos,af,gd⟩).wpS P pm fr (λn w'=>n = .round l r.fn (yTm r vs) r.assign r.body /\ w' = w) w:=by
 have h1:=fQ.eval hg G;have h2:=hx.eval hg G;have e:execOp a.eval ⟨dst,.call { callee:=.value x,args:=args.toArray,argTypes:=qJ },ty,pos,af,gd⟩ = Instr.yield l vs.toArray:=by
  simp [execOp,resolve,Deferred.ofValue,invoke,h1,h2]
 rw [e];have tm:zP P pm fr (Instr.yield l vs.toArray) w:=by
  unfold Instr.yield Instr.getLoop;refine .bind (.getObj h rfl rfl (by intro c e z h; cases h) (Tm.pure _).at) λr' v1 hr=>?_
  refine Tm.at ?_;split
  ·exact .dead (.bind (.stuck _) _)
  ·exact .pure _
 exact tm hn _ _ (run_yield h hs)
theorem Yq {X:Type} {r':X->du} {L':X->List du} {dst:Nat} {gd:Option (Nat × Bool)} (J:X->Prop) (val:X->Value) (hu:∀ q,mS L r (r' q) (L' q)) (hm:r ∈ L) (hx:cV F g x yv) (fQ:lM F g args vs) (hg:g = true)
 (G:Good K F L a w) (hn:cI w) (hC:vl K.E.X K.E.fr P yv vs w (mE w r J val r')) (next:∀ q,J q->Sat K N ((d,true,val q) :: F) (L' q)) (hd:Nat.blt d K.n = true) :
  Om P K.E (q9 K) ⟨some d,.call { callee:=.value x,args:=args.toArray,argTypes:=qJ },ty,pos,af,gd⟩ a N w:=by
  have fin:∀ ael v',(mE w r J val r').Q (.returned ael) v'->N (a.put (some d) ael) v':=by
   rintro u w2 ⟨q,hJ,he,hk,ha,hf⟩;cases he;exact next q hJ _ _ (G.put d true (val q) (val q) (by simpa [ir] using hd) rfl (G.inv.upd (hu q) hk ha hf))
  have hM:∀ b,tI w (mE w r J val r').M b->q9 K b:=λb hb=>hb.elim (λh=>.inl (az G.inv.keeps.size h)) (λh=>((G.inv.own r hm).2 b h).1)
  rcases hC with ⟨f,fst,cap,rfl,om,hc⟩ | ⟨l,rc,rfl,hl,hs,hc⟩
  ·refine cu ?_ _ _ (De hx om fQ hg G.fo w);rintro n w' ⟨rfl,rfl⟩;exact ⟨_,hc,hM,fin⟩
  ·refine cu ?_ _ _ (LQ hx fQ hg G.fo w hn hl hs);rintro n w' ⟨rfl,rfl⟩;exact ⟨_,hc,hM,fin⟩
theorem agV {X:Type} {r':X->du} {L':X->List du} (J:X->Prop) (val:X->Value) (hu:∀ q,mS L r (r' q) (L' q)) (hm:r ∈ L) (hx:cV F true x yv) (fQ:lM F true args vs)
 (hC:∀ w,bS K L w->vl K.E.X K.E.fr P yv vs w (mE w r J val r')) (next:∀ q,J q->Sat K N ((d,true,val q) :: F) (L' q)) (hd:Nat.blt d K.n = true:=by rfl) :
 Sat K (dw P K ops Q ⟨some d,.call { callee:=.value x,args:=args.toArray,argTypes:=qJ },ty,pos,af,none⟩ N) F L:=λa w G =>
 dI rfl rfl λhn=>Yq (dst:=d) J val hu hm hx fQ rfl G hn (hC w G.inv) next hd
def BX (X:Ext) (fr:Nat) (P:Program) (yv:Value) (enc:α->List Value) (w0:World) (M:Nat->Prop) (ok:α->σ->Prop) (S:σ->du) (J:α->σ->Bool × σ->Prop):Prop :=
 ∀ x s w,ok x s->bf M w0 w->At (S s) w->(∀ b,(S s).c9 b->w0.heap.size <= b \/ M b)->vl X fr P yv (enc x) w (mE w (S s) (J x s) (λq=>.bool q.1) (λq=>S q.2))
theorem BX.call {enc:α->List Value} {ok:α->σ->Prop} {S:σ->du} {J:α->σ->Bool × σ->Prop} (h:BX X fr P yv enc K.w0 K.M ok S J) {x:α} {s:σ} (hx:ok x s) (hm:S s ∈ L) (w:World) (I:bS K L w) :
 vl X fr P yv (enc x) w (mE w (S s) (J x s) (λq=>.bool q.1) (λq=>S q.2)) :=
 h x s w hx I.keeps (at_mem hm w I) (λb hb=>((I.own _ hm).2 b hb).1)
def FN (J:α->σ->Bool × σ->Prop):List α->σ->σ->Prop
 | [],s,t=>t = s
 | x :: xs,s,t=>∃ q,J x s q /\ (if q.1 = true then FN J xs q.2 t else t = q.2)
def ag9 (J:α->σ->Bool × σ->Prop):List α->σ->Bool × σ->Prop
 | [],s,q=>q = (true,s)
 | x :: xs,s,q=>∃ r,J x s r /\ (if r.1 = true then ag9 J xs r.2 q else q = (false,r.2))
def U5 (ok:α->σ->Prop) (J:α->σ->Bool × σ->Prop):List α->σ->Prop
 | [],_=>True
 | x :: xs,s=>ok x s /\ ∀ q,J x s q->q.1 = true->U5 ok J xs q.2
def MB (X:Ext) (fr:Nat) (P:Program) (gv:Value) (enc:α->List Value) (w0:World) (M:Nat->Prop) (xs:List α):Prop :=
 ∀ (σ:Type) (S:σ->du) (ok:α->σ->Prop) (J:α->σ->Bool × σ->Prop) (yv:OV) (w:World) (s:σ),U5 ok J xs s->bf M w0 w->(∀ b,(S s).c9 b->w0.heap.size <= b \/ M b)->At (S s) w->fr <= w.heap.size->(∀ b,(S s).c9 b->fr <= b) ->
   BX X fr P yv.v enc w (S s).c9 ok S J->vl X fr P gv [yv.v] w (mE w (S s) (FN J xs s) (λ_=>.tuple #[]) S)
def QT (b:Nat) (o:Obj):du where
 c9:=λk=>k = b
 A:=λw=>w.heap[b]? = some o
 st:=λw w' h h1=>by grind
def Dm (m:List Nat):du where
 c9:=λk=>k ∈ m
 A:=λw=>m.Nodup /\ ∀ D ∈ m,w.heap[D]? = some (.deferred (some []))
 st:=λw w' h ⟨h1,h2⟩=>⟨h1,λD hD=>by grind⟩
theorem dm0 {X:Act->World->Prop} (h:Sat K X F (Dm [] :: L)):Sat K X F L:=λa w G=>h a w (G.world (G.inv.add (bf.refl _ _) ⟨px,λ_ h=>absurd h aU⟩ (λb hb=>absurd hb aU)))
theorem bf.putObj {M:Nat->Prop} (w:World) {l:Nat} (o:Obj) (h:M l):bf M w (w.putObj l o) :=
 ⟨rfl,rfl,rfl,by simp,λk _ hm=>World.putObj_heap_other (λe=>hm (e ▸ h))⟩
def MS (S:σ->du) (s:σ) (n0:Nat):Nat->Prop:=λb=>(S s).c9 b \/ n0 <= b
def wa (w:World) (S:σ->du) (s:σ) (n0:Nat) (J:σ->Prop) (w':World):Prop:=∃ s',J s' /\ bf (MS S s n0) w w' /\ (S s').A w' /\ ∀ b,(S s').c9 b->((S s).c9 b \/ n0 <= b) /\ b < w'.heap.size
def rdQ (w:World) (S:σ->du) (s:σ) (n0:Nat) (Jn:σ->Prop) (Jx:Code->σ->Prop):Exit->Act->World->Prop
 | .normal,_,w'=>wa w S s n0 Jn w'
 | .ret,_,w'=>wa w S s n0 (Jx .ret) w'
 | .exit id,_,w'=>wa w S s n0 (Jx (.exit id)) w'
 | _,_,_=>False
theorem wa.grow {S:σ->du} {s:σ} {J:σ->Prop} {w1:World} (h:wa w S s n0 J w') (hg:df w' w1):wa w S s n0 J w1:=by
 obtain⟨s',hJ,hk,ha,hf⟩:=h;have k1:=bf.eA hg;exact ⟨s',hJ,hk.trans (k1.mono λ_ h=>h.elim),(S s').st _ _ (λb hb=>k1.block b (hf b hb).2 (λh=>h)) ha,λb hb=>⟨(hf b hb).1,aD (hf b hb).2 hg.size⟩⟩
theorem ae3 {e0:En} {L:List du} {S:σ->du} {s:σ} {J:σ->Prop} (hn:n0 <= w0.heap.size) (s':σ) (hJ:J s') (hm:S s' ∈ L) (w:World) (h:bS ⟨n,w0,MS S s n0,e0⟩ L w):wa w0 S s n0 J w :=
 ⟨s',hJ,h.keeps,(h.own _ hm).1,λb hb=>⟨by
  rcases ((h.own _ hm).2 b hb).1 with h1 | h1
  ·grind
  trivial,((h.own _ hm).2 b hb).2⟩⟩
theorem rdN {e0:En} {S:σ->du} {s:σ} {Jn:σ->Prop} {Jx:Code->σ->Prop} (hn:n0 <= w0.heap.size) (s':σ) (hJ:Jn s') (hm:S s' ∈ L):Sat ⟨n,w0,MS S s n0,e0⟩ (rdQ w0 S s n0 Jn Jx .normal) F L:=λa w G=>ae3 hn s' hJ hm w G.inv
def WB:List Nat->List Value->Fr->Fr
 | p :: ps,v :: vs,F=>WB ps vs ((p,true,v) :: F)
 | _,_,F=>F
theorem Fs:∀ (ps:List Nat) (vs:List Value) (F:Fr) (a:Act),kD K F a->(∀ p ∈ ps,p < K.n)->kD K (WB ps vs F) ⟨(ps.zip vs).foldl (λt (p,v)=>t.setIfInBounds p v) a.tmps,a.defers⟩
 | [],_,F,a,h,_=>h
 | _ :: _,[],F,a,h,_=>h
 | p :: ps,v :: vs,F,a,h,hp=>by
   have h1:=h.put p true v v (hp p ah) rfl;exact Fs ps vs _ _ h1 (λq hq=>hp q (aF _ hq))
theorem kD.marks {F:Fr} (h:kD K F a) (m:List Nat):kD K (dm m :: F) ⟨a.tmps,m.map mkD⟩ :=
 ⟨h.size,h.le,λc v hl=>by
  have e:ie (dm m :: F) DS = some (true,Lb m):=rfl
  grind,λt c v hl=>by
  obtain⟨hne,hl⟩:=w9 hl;have e:ie (dm m :: F) t = ie F t:=by
   have:Nat.beq 1000000 t = false:=AB (λe=>hne e.symm);simp only [ie,this,mi]
  rw [e] at hl;exact h.fr t c v (by rw [BK hne]; exact hl)⟩
def lO (fn:FuncId) (tm:Array Value) (ps:Array Tmp) (asg bd:Code) (D:Nat) (j:Option Code):Loop:={ state:=if j.isNone then .ready else .done,pending:=j,fn,tmps:=tm,params:=ps,assign:=asg,body:=bd,defers:=D }
def LS (S:σ->du) (l:Nat) (rc:Option Code->Loop) (D:Nat) (q:σ × Option Code):du:=Sep (S q.1) (Sep (QT l (.loop (rc q.2))) (QT D (.deferred (some []))))
section
variable {pm:Nat->Prop} {l:Nat} {r:Loop} {w:World}
theorem x9 (h:w.heap[l]? = some (.loop r)):zP P pm fr (Instr.getLoop l) w:=.getObj h rfl rfl (by simp) (Tm.pure _).at
theorem uP (h:w.heap[l]? = some (.loop r)):(Instr.getLoop l).run P w = .ok r w:=by simp [Instr.getLoop,ay,getObj,Sem.run,h,Result.andThen]
def x8 (h:w.heap[l]? = some (.loop r)) (hp:pm l) (hf:fr <= l) (r':Loop):zP P pm fr (setObj l (.loop r')) w:=.setObj h rfl hp hf rfl rfl rfl
theorem OC (h:w.heap[l]? = some (.loop r)) (hs:r.state = .ready) (hp:pm l) (hf:fr <= l) (hn:cI w):(Instr.beginRound l).wpS P pm fr (λ_ w'=>w' = w.putObj l (.loop { r with state:=.busy })) w:=by
 have tm:zP P pm fr (Instr.beginRound l) w:=by
  unfold Instr.beginRound;refine .bind (x9 h) λr' v1 hr=>?_
  rw [uP h] at hr;cases hr;refine .bind (x8 h hp hf _) λ_ _ _=>?_
  rw [hs];exact (Tm.pure _).at
 exact cu (λ_ _ h=>h.2) _ _ (tm hn _ _ (run_beginRound h hs))
theorem VR (h:w.heap[l]? = some (.loop r)) (hp:pm l) (hf:fr <= l) (hn:cI w) (j:Option Code):(Instr.endRound l j).wpS P pm fr (λx w'=>x = .bool j.isNone /\ w' = w.putObj l (.loop { r with state:=if j.isNone then .ready else .done,pending:=j })) w:=by
 have tm:zP P pm fr (Instr.endRound l j) w:=by
  unfold Instr.endRound;refine .bind (x9 h) λr' v1 hr=>?_
  rw [uP h] at hr;cases hr;exact .bind (x8 h hp hf _) λ_ _ _=>(Tm.pure _).at
 exact tm hn _ _ (run_endRound j h)
theorem Hs (h:w.heap[l]? = some (.loop r)) (hb:r.state ≠ .busy) (hp:pm l) (hf:fr <= l) (hn:cI w):(Instr.endLoop l).wpS P pm fr (λx w'=>x = r.pending /\ w' = w.putObj l (.loop { r with state:=.exhausted })) w:=by
 have tm:zP P pm fr (Instr.endLoop l) w:=by
  unfold Instr.endLoop;refine .bind (x9 h) λr' v1 hr=>?_
  rw [uP h] at hr;cases hr;have e:(r.state == .busy) = false:=by cases hs:r.state <;> first | rfl | exact absurd hs hb
  simp only [e,aI,cD];exact .bind (x8 h hp hf _) λ_ _ _=>(Tm.pure _).at
 exact tm hn _ _ (run_endLoop h hb)
theorem OB (fn:FuncId) (tmps:Array Value) (ps:Array Tmp) (ac bd:Code) (hn:cI w):(Instr.enterLoop fn tmps ps ac bd none).wpS P pm fr (λx w'=>x = (w.heap.size + 1,[{ target:=.collected w.heap.size,args:=#[] }]) ∧
 w' = ((w.alloc (.deferred (some []))).alloc (.loop { state:=.ready,pending:=none,fn,tmps,params:=ps,assign:=ac,body:=bd,defers:=w.heap.size }))) w:=by
 have tm:Tm P pm fr (Instr.enterLoop fn tmps ps ac bd none):=by
  unfold Instr.enterLoop;exact Tm.bind (Tm.newObj _ rfl rfl) λr=>Tm.bind (Tm.pure _) λx=>Tm.bind (Tm.newObj _ rfl rfl) λy=>Tm.pure _
 exact tm w hn _ _ (run_enterLoop_outer fn tmps ps ac bd)
theorem Q3 {D:Nat} {ds:List Deferred} (h:w.heap[D]? = some (.deferred (some ds))) (hp:pm D) (hf:fr <= D) (hn:cI w):(Instr.takeDeferred D).wpS P pm fr (λx w'=>x = ds /\ w' = w.putObj D (.deferred none)) w:=by
 have tm:zP P pm fr (Instr.takeDeferred D) w:=by
  unfold Instr.takeDeferred;refine .getObj h rfl rfl (by intro c e z h; cases h) ?_;exact .bind (.setObj h rfl hp hf rfl rfl rfl) λ_ _ _=>(Tm.pure _).at
 exact tm hn _ _ (run_takeDeferred h)
end
def En.round (E:En) (l:Nat):En:=⟨E.X,E.fr,some l⟩
theorem R1 {l D:Nat} {fn:FuncId} {tm:Array Value} {S:σ->du} {s:σ} {Jn:σ->Prop} {Jx:Code->σ->Prop}
 (NK:vs.length = ps.length) (h:At (LS S l (lO fn tm ps.toArray ac bd D) D (s,none)) w) (uK:∀ b,(LS S l (lO fn tm ps.toArray ac bd D) D (s,none)).c9 b->fr <= b)
 (hb:ac.vp P ⟨X,fr,some l⟩ (tI w fX) (Exit.then (λa' w'=>bf fX w w' /\ ∀ w2,bf (λb=>b = l) w' w2->At (S s) w2->bd.vp P ⟨X,fr,some l⟩ (tI w2 (MS S s w.heap.size)) (rdQ w2 S s w.heap.size Jn Jx) a' w2) (λ_ _ _=>False)) ⟨(ps.zip vs).foldl (λt (p,v)=>t.setIfInBounds p v) tm,[]⟩ w) :
 vl X fr P (.func (.yield l) #[] #[]) vs w (mE w (LS S l (lO fn tm ps.toArray ac bd D) D (s,none))
  (λq:Bool × (σ × Option Code)=>(q.1 = true /\ q.2.2 = none /\ Jn q.2.1) \/ (∃ c,q.1 = false /\ q.2.2 = some c /\ Jx c q.2.1)) (λq=>.bool q.1) (λq=>LS S l (lO fn tm ps.toArray ac bd D) D q.2)):=by
 obtain⟨⟨h1,⟨h2,h3,h4⟩,h5⟩,h6⟩:=h;have h2':w.heap[l]? = some (.loop (lO fn tm ps.toArray ac bd D none)):=h2;have hzip:yTm (lO fn tm ps.toArray ac bd D none) vs = (ps.zip vs).foldl (λt (x:Nat × Value)=>t.setIfInBounds x.1 x.2) tm:=by
  show (ps.toArray.zip vs.toArray).foldl (λt (x:Tmp × Value)=>t.setIfInBounds x.1 x.2) tm = _;rw [List.zip_toArray,List.foldl_toArray]
 have hlw:l < w.heap.size:=h6 l (.inr (.inl rfl));have hDw:D < w.heap.size:=h6 D (.inr (.inr rfl));have hlD:l ≠ D:=λe=>h4 l rfl e
 have hSl:¬ (S s).c9 l:=λe=>h5 l e (.inl rfl)
 have hSD:¬ (S s).c9 D:=λe=>h5 D e (.inr rfl)
 have hfl:fr <= l:=uK l (.inr (.inl rfl));refine .inr ⟨l,_,rfl,h2',by assumption,?_⟩;rw [hzip];show He X fr P l fn _ ac bd w _;have hpl:∀ v:World,w.heap.size <= v.heap.size->tI w (LS S l (lO fn tm ps.toArray ac bd D) D (s,none)).c9 l:=λv _=>.inr (.inr (.inl rfl))
 refine F7 (vO (Et (pm':=tI w (LS S l (lO fn tm ps.toArray ac bd D) D (s,none)).c9) (λb hb=>hb.elim .inl (λh=>h.elim)) hb) ?_);intro e0 a0 w' hq;cases e0 with
 | normal=>?_
 | exit _=>trivial
 | goto _=>trivial
 | ret=>trivial
 | panic _=>trivial
 | outgrown=>trivial
 refine ⟨rfl,λv1 hg1 GL=>?_⟩;obtain⟨k0',hb⟩:=hq;have k0:bf fX w v1:=k0'.trans (bf.eA hg1);have h2'':v1.heap[l]? = some (.loop (lO fn tm ps.toArray ac bd D none)):=(k0.block l hlw (λe=>e)).trans h2';have hlw':l < v1.heap.size:=aD hlw k0.size;refine cu ?_ _ _ (OC h2'' rfl (hpl v1 k0.size) hfl GL);rintro _ w2 hw2;have k1:bf (λb=>b = l) v1 w2:=by rw [hw2]; exact bf.putObj v1 _ rfl
 have k1':bf (λb=>b = l) w' w2:=((bf.eA hg1).mono (λ_ h=>h.elim)).trans k1;have k2:bf (λb=>b = l) w w2:=(k0.mono (λ_ h=>h.elim)).trans k1;have hz2:w.heap.size <= w2.heap.size:=k2.size;have hl2:w2.heap[l]? = some (.loop { lO fn tm ps.toArray ac bd D none with state:=.busy }):=by rw [hw2]; exact World.putObj_heap_same hlw'
 have hD2:w2.heap[D]? = some (.deferred (some [])):=(k2.block D hDw (λe=>hlD e.symm)).trans h3;have hA2:(S s).A w2:=(S s).st w w2 (λb hb=>k2.block b (h6 b (.inl hb)) (λe=>hSl (e ▸ hb))) h1;have hAt2:At (S s) w2:=⟨hA2,λb hb=>aD (h6 b (.inl hb)) hz2⟩;have ZT:=hb w2 k1' hAt2;have fin:∀ (j:Option Code) (J:σ->Prop) (w3:World),wa w2 S s w.heap.size J w3->∀ v3,df w3 v3->cI v3 ->
  (Instr.endRound l j).wpS P (tI w (LS S l (lO fn tm ps.toArray ac bd D) D (s,none)).c9) fr (λx w4=>x = .bool j.isNone /\ ∃ s',J s' /\ bf (LS S l (lO fn tm ps.toArray ac bd D) D (s,none)).c9 w w4 /\ (LS S l (lO fn tm ps.toArray ac bd D) D (s',j)).A w4 ∧
   ∀ b,(LS S l (lO fn tm ps.toArray ac bd D) D (s',j)).c9 b->((LS S l (lO fn tm ps.toArray ac bd D) D (s,none)).c9 b \/ w.heap.size <= b) /\ b < w4.heap.size) v3:=λj J w3' hrd w3 QJ ZM=>by
  obtain⟨s',hJ,k3,ha,hf⟩:=hrd.grow QJ;have hl3:w3.heap[l]? = some (.loop { lO fn tm ps.toArray ac bd D none with state:=.busy }):=(k3.block l (by omega) (λe=>e.elim hSl (by omega))).trans hl2;have hD3:w3.heap[D]? = some (.deferred (some [])):=(k3.block D (by omega) (λe=>e.elim hSD (by omega))).trans hD2;have hz3:w.heap.size <= w3.heap.size:=az hz2 k3.size;have hS'l:¬ (S s').c9 l:=λe=>by
   rcases (hf l e).1 with h | h
   ·exact hSl h
   ·omega
  have hS'D:¬ (S s').c9 D:=λe=>by
   rcases (hf D e).1 with h | h
   ·exact hSD h
   ·omega
  refine cu ?_ _ _ (VR hl3 (hpl w3 hz3) hfl ZM j);rintro x w4 ⟨rfl,rfl⟩;refine ⟨rfl,s',hJ,?_,?_,?_⟩
  ·refine ((k2.mono (M':=(LS S l (lO fn tm ps.toArray ac bd D) D (s,none)).c9) (λi e=>.inr (.inl e))).trans' k3 (λi hi e=>e.elim .inl (λh=>absurd h (by omega)))).trans (bf.putObj w3 _ (.inr (.inl rfl)))
  ·refine ⟨(S s').st w3 _ (λb hb=>World.putObj_heap_other (λe=>hS'l (e ▸ hb))) ha,⟨?_,?_,h4⟩,?_⟩
   ·exact World.putObj_heap_same (by omega)
   ·exact (World.putObj_heap_other (λe=>hlD e.symm)).trans hD3
   ·rintro b hb (e | e)
    ·exact hS'l (e ▸ hb)
    ·exact hS'D (e ▸ hb)
  ·rintro b (hb | hb | hb)
   ·have:=hf b hb;refine ⟨?_,by simpa using this.2⟩
    rcases this.1 with h | h
    ·exact .inl (.inl h)
    ·exact .inr (by omega)
   ·exact ⟨.inl (.inr (.inl hb)),by have:b = l:=hb; simp; omega⟩
   ·exact ⟨.inl (.inr (.inr hb)),by have:b = D:=hb; simp; omega⟩
 refine vO (Et (λb hb=>?_) ZT) ?_
 ·rcases hb with hb | hb | hb
  ·omega
  ·exact .inr (.inl hb)
  omega
 intro e a3 w3 hp;cases e with
 | normal =>
   intro v3 QJ ZM;refine cu ?_ _ _ (fin none _ w3 hp v3 QJ ZM);rintro x w4 ⟨rfl,s',hJ,c1,c2,c3⟩;exact ⟨(true,(s',none)),.inl ⟨rfl,rfl,hJ⟩,rfl,c1,c2,c3⟩
 | ret =>
   intro v3 QJ ZM;refine cu ?_ _ _ (fin (some .ret) _ w3 hp v3 QJ ZM);rintro x w4 ⟨rfl,s',hJ,c1,c2,c3⟩;exact ⟨(false,(s',some .ret)),.inr ⟨_,rfl,rfl,hJ⟩,rfl,c1,c2,c3⟩
 | exit id =>
   intro v3 QJ ZM;refine cu ?_ _ _ (fin (some (.exit id)) _ w3 hp v3 QJ ZM);rintro x w4 ⟨rfl,s',hJ,c1,c2,c3⟩;exact ⟨(false,(s',some (.exit id))),.inr ⟨_,rfl,rfl,hJ⟩,rfl,c1,c2,c3⟩
 | goto t=>trivial
 | panic ch=>trivial
 | outgrown=>trivial
def q8 (J:α->σ->σ->Prop):List α->σ->σ->Prop
 | [],s,t=>t = s
 | x :: xs,s,t=>∃ q,J x s q /\ q8 J xs q t
def JV (J:α->σ->σ->Prop) (Jx:α->σ->Code->σ->Prop) (c:Code):List α->σ->σ->Prop
 | [],_,_=>False
 | x :: xs,s,t=>Jx x s c t \/ ∃ q,J x s q /\ JV J Jx c xs q t
theorem M9 {J:α->σ->σ->Prop} {Jx:α->σ->Code->σ->Prop}:∀ (xs:List α) (s:σ) (q:σ × Option Code),
 FN (λx (s:σ × Option Code) (q:Bool × (σ × Option Code))=>(q.1 = true /\ q.2.2 = none /\ J x s.1 q.2.1) \/ (∃ c,q.1 = false /\ q.2.2 = some c /\ Jx x s.1 c q.2.1)) xs (s,none) q ->
 (q.2 = none /\ q8 J xs s q.1) \/ (∃ c,q.2 = some c /\ JV J Jx c xs s q.1)
 | [],s,q,h=>.inl (by rw [show q = (s,none) from h]; trivial)
 | x :: xs,s,q,⟨r,hr,h⟩=>by
   obtain⟨b,s',j⟩:=r
   rcases hr with ⟨h1,h2,h3⟩ | ⟨c,h1,h2,h3⟩
   ·subst h1 h2
    rcases M9 xs s' q h with ⟨e1,e2⟩ | ⟨c,e1,e2⟩
    ·exact .inl ⟨e1,s',h3,e2⟩
    ·exact .inr ⟨c,e1,.inr ⟨s',h3,e2⟩⟩
   ·subst h1 h2;subst h;exact .inr ⟨c,rfl,.inl h3⟩
theorem q8.snoc {J:α->σ->σ->Prop} {x:α} {t':σ}:∀ {xs:List α} {s t:σ},q8 J xs s t->J x t t'->q8 J (xs ++ [x]) s t'
 | [],s,t,h,hj=>⟨t',by rw [<- show t = s from h]; exact hj,rfl⟩
 | y :: xs,s,t,⟨q,h1,h⟩,hj=>⟨q,h1,q8.snoc h hj⟩
theorem Np {Jn:α->σ->σ->Prop} {Jx:α->σ->Code->σ->Prop} {xs:List α} {s0:σ}:∀ (post pre:List α) (s:σ),xs = pre ++ post->q8 Jn pre s0 s ->
 U5 (λx (q:σ × Option Code)=>q.2 = none /\ ∃ pre post,xs = pre ++ x :: post /\ q8 Jn pre s0 q.1)
  (λx (s:σ × Option Code) (q:Bool × (σ × Option Code))=>(q.1 = true /\ q.2.2 = none /\ Jn x s.1 q.2.1) \/ (∃ c,q.1 = false /\ q.2.2 = some c /\ Jx x s.1 c q.2.1)) post (s,none)
 | [],_,_,_,_=>trivial
 | x :: post,pre,s,e,hr=>⟨⟨rfl,pre,post,e,hr⟩,λq hq hb=>by
   obtain⟨b,s',j⟩:=q
   rcases hq with ⟨h1,h2,h3⟩ | ⟨c,h1,h2,h3⟩
   ·subst h2;exact Np post (pre ++ [x]) s' (by grind) (hr.snoc h3)
   grind⟩
theorem Wy (enc:α->List Value) (S:σ->du) (s0:σ) (xs:List α) (Jn:α->σ->σ->Prop) (Jx:α->σ->Code->σ->Prop) (Fa:α->ζ->Fr) (La:α->ζ->List du)
 (hm:lC L (S s0) L1) (hm2:lC L1 (Dm m) L2) (hD:ie F 1000000 = some (true,Lb m)) (hg:cV F true gx gv) (hgv:∃ f fst cap,gv = (Mp f fst cap).v) (NK:∀ x,(enc x).length = ps.length) (hpn:ps.all (λp=>Nat.blt p K.n) = true)
 (iter:∀ w,bS K L w->(∀ w',bf (S s0).c9 w w'->bS K L1 w')->MB K.E.X K.E.fr P gv enc w (S s0).c9 xs)
 (asg:∀ (l:Nat) x w,Sat ⟨K.n,w,fX,K.E.round l⟩ (ac.oV P ⟨K.n,w,fX,K.E.round l⟩ (Exit.then (λa' w'=>∃ z,Good ⟨K.n,w,fX,K.E.round l⟩ (Fa x z) (La x z) a' w') (λ_ _ _=>False))) (WB ps (enc x) (dz :: F)) [])
 (body:∀ (l:Nat) x s z n0 w,(∃ pre post,xs = pre ++ x :: post /\ q8 Jn pre s0 s)->n0 <= w.heap.size->(∀ b,(S s).c9 b->K.w0.heap.size <= b \/ K.M b)->(∀ w',bf (MS S s n0) w w'->bS K L1 w')->Sat ⟨K.n,w,MS S s n0,K.E.round l⟩ (bd.oV P ⟨K.n,w,MS S s n0,K.E.round l⟩ (rdQ w S s n0 (Jn x s) (Jx x s))) (Fa x z) (S s :: La x z))
 (next:∀ s D,q8 Jn xs s0 s->Sat K (Q .normal) (dm (D :: m) :: F) (S s :: Dm (D :: m) :: L2))
 (stop:∀ c s D,JV Jn Jx c xs s0 s->Sat K (c.oV P K Q) (dm (D :: m) :: F) (S s :: Dm (D :: m) :: L2)) (hR:K.E.Wv = none:=by rfl) :
 Sat K ((Code.rangeFunc gx ps.toArray ac bd).oV P K Q) F L:=λa w00 G00=>DW hR λfn w PD QI=>by
 have G:Good K F L a w:=G00.tJ PD;obtain⟨f,fst,cap,rfl⟩:=hgv;refine cu ?_ _ _ (OB fn a.tmps ps.toArray ac bd QI);rintro rr W1 ⟨rfl,hW1⟩;have hW1:W1 = (w.alloc (.deferred (some []))).alloc (.loop (lO fn a.tmps ps.toArray ac bd w.heap.size none)):=hW1;have hz1:W1.heap.size = w.heap.size + 2:=by rw [hW1]; simp
 have hl1:W1.heap[w.heap.size + 1]? = some (.loop (lO fn a.tmps ps.toArray ac bd w.heap.size none)):=by
  rw [hW1]; have:=World.alloc_heap_new (w.alloc (.deferred (some []))) (.loop (lO fn a.tmps ps.toArray ac bd w.heap.size none)); rwa [World.size_alloc] at this
 have hD1:W1.heap[w.heap.size]? = some (.deferred (some [])):=by
  rw [hW1]; exact (Below.heap_alloc _ _ _ (by simp)).trans (World.alloc_heap_new w _)
 have k1:bf fX w W1:=by
  rw [hW1];exact (bf.alloc fX w _).trans (bf.alloc fX _ _)
 obtain⟨l,hl⟩:∃ l,l = w.heap.size + 1:=⟨_,rfl⟩;obtain⟨D,hDe⟩:∃ D,D = w.heap.size:=⟨_,rfl⟩;rw [<- hl] at hl1;rw [<- hDe] at hD1 hl1;have hI:=G.inv.perm hm.perm;have hSw:=hI.own _ ah;have hb0:∀ b,(S s0).c9 b->b < w.heap.size:=λb hb=>(hSw.2 b hb).2
 have hLS:(LS S l (lO fn a.tmps ps.toArray ac bd D) D (s0,none)).A W1:=by
  refine ⟨(S s0).st w W1 (λb hb=>k1.block b (hb0 b hb) (λh=>h)) hSw.1,⟨hl1,hD1,?_⟩,?_⟩
  ·intro b hb hb';have e1:b = l:=hb;have e2:b = D:=hb';omega
  ·rintro b hb (hb' | hb')
   ·have e1:b = l:=hb';have:=hb0 b hb;omega
   ·have e2:b = D:=hb';have:=hb0 b hb;omega
 have hLSf:∀ b,(LS S l (lO fn a.tmps ps.toArray ac bd D) D (s0,none)).c9 b->((S s0).c9 b \/ w.heap.size <= b) /\ b < W1.heap.size:=by
  rintro b (hb | hb | hb)
  ·exact ⟨.inl hb,by have:=hb0 b hb; omega⟩
  ·have e1:b = l:=hb;exact ⟨.inr (by omega),by omega⟩
  ·have e1:b = D:=hb;exact ⟨.inr (by omega),by omega⟩
 have I1:bS K (LS S l (lO fn a.tmps ps.toArray ac bd D) D (s0,none) :: L1) W1:=hI.upd mS.head (k1.mono (λ_ h=>h.elim)) hLS hLSf
 -- what others have stays
 have hbut:∀ w',bf (LS S l (lO fn a.tmps ps.toArray ac bd D) D (s0,none)).c9 W1 w'->bS K L1 w':=λw' k=>I1.JE lC.head k
 have hbut0:∀ w',bf (S s0).c9 w w'->bS K L1 w':=λw' k=>G.inv.JE hm k
 have hfW:K.E.fr <= W1.heap.size:=az I1.ok.1 I1.keeps.size;have hfb:∀ b,(LS S l (lO fn a.tmps ps.toArray ac bd D) D (s0,none)).c9 b->K.E.fr <= b:=I1.fr ah;have Xz:=iter w G.inv hbut0;have Ts:=Xz (σ × Option Code) (LS S l (lO fn a.tmps ps.toArray ac bd D) D) (λx q=>q.2 = none /\ ∃ pre post,xs = pre ++ x :: post /\ q8 Jn pre s0 q.1)
  (λx (s:σ × Option Code) (q:Bool × (σ × Option Code))=>(q.1 = true /\ q.2.2 = none /\ Jn x s.1 q.2.1) \/ (∃ c,q.1 = false /\ q.2.2 = some c /\ Jx x s.1 c q.2.1)) (⟨.func (.yield l) #[] #[],rfl⟩:OV) W1 (s0,none) (Np xs [] s0 rfl rfl)
  (k1.mono (λ_ h=>h.elim)) (λb hb=>(hLSf b hb).1.symm) ⟨hLS,λb hb=>(hLSf b hb).2⟩ hfW hfb (by
  rintro x ⟨s,j⟩ w2 ⟨hj,hx⟩ k2 hA hf;simp only at hj hx;subst hj;have hfS':∀ b,(LS S l (lO fn a.tmps ps.toArray ac bd D) D (s,none)).c9 b->K.E.fr <= b:=λb hb=>(hf b hb).elim (az hfW) (hfb b)
  have hfS:∀ b,(S s).c9 b->K.E.fr <= b:=λb hb=>hfS' b (.inl hb)
  have hz2:K.E.fr <= w2.heap.size:=az hfW k2.size;refine R1 (NK x) hA hfS' ?_;have hfo0:kD ⟨K.n,w2,fX,K.E.round l⟩ F a:=⟨G.fo.size,G.fo.le,G.fo.defers,G.fo.fr⟩;refine vO (asg l x w2 _ w2 ⟨Fs ps (enc x) _ _ (hfo0.marks []) (λp hp=>by simpa [ir] using fI.1 hpn p hp),bS.start ⟨hz2,λ_ h=>h.elim⟩⟩) ?_;intro e0 a0 w' hq;cases e0 with
  | normal=>?_
  | exit _=>exact hq.elim
  | goto _=>exact hq.elim
  | ret=>exact hq.elim
  | panic _=>exact hq.elim
  | outgrown=>exact hq.elim
  obtain⟨z,hq⟩:=hq;refine ⟨hq.inv.keeps,λw3 k3 hA3=>?_⟩;have hk:bf (LS S l (lO fn a.tmps ps.toArray ac bd D) D (s0,none)).c9 W1 w3:=(k2.trans (hq.inv.keeps.mono (λ_ h=>h.elim))).trans (k3.mono (λi e=>.inr (.inl e)));have hz:w2.heap.size <= w3.heap.size:=az hq.inv.keeps.size k3.size;have hl2:l < w2.heap.size:=hA.2 l (.inr (.inl rfl));have hbut3:∀ w',bf (MS S s w2.heap.size) w3 w'->bS K L1 w':=λw' k=>hbut w' (hk.trans' k (λi hi hm=>by
   rcases hm with hm | hm
   ·rcases hf i (.inl hm) with h | h
    ·omega
    ·exact h
   ·have:=k2.size;omega))
  refine body l x s z w2.heap.size w3 hx hz (λb hb=>by
   rcases hf b (.inl hb) with h | h
   ·have h1:=G.inv.keeps.size;exact .inl (by omega)
   ·exact ((I1.own _ ah).2 b h).1) hbut3 _ w3 ⟨⟨hq.fo.size,hq.fo.le,hq.fo.defers,hq.fo.fr⟩,⟨bf.refl _ _,?_,?_,⟨az hz2 hz,λb hb=>hb.elim (hfS b) (az hz2)⟩⟩⟩
  ·intro r hr
   rcases aE.1 hr with rfl | hr
   ·exact ⟨hA3.1,λb hb=>⟨.inr (.inl hb),hA3.2 b hb⟩⟩
   ·obtain⟨r1,r2⟩:=hq.inv.own r hr;have hge:∀ b,r.c9 b->w2.heap.size <= b:=λb hb=>by
     rcases (r2 b hb).1 with h | h
     ·exact h
     ·exact h.elim
    refine ⟨r.st _ _ (λb hb=>k3.block b (r2 b hb).2 (λe=>by have e1:b = l:=e; have:=hge b hb; omega)) r1,λb hb=>⟨.inr (.inr (hge b hb)),aD (r2 b hb).2 k3.size⟩⟩
  ·refine bC.2 ⟨λr hr b hb hb'=>?_,hq.inv.Jj⟩;have h1:=hA.2 b (.inl hb)
   rcases ((hq.inv.own r hr).2 b hb').1 with h | h
   ·have h:w2.heap.size <= b:=h;omega
   ·exact h.elim)
 rcases Ts with ⟨f',aj6,akg,e,om,hc⟩ | ⟨_,_,e,_⟩
 rotate_left
 ·cases e
 have hfe:f = f' /\ fst = aj6 /\ cap = akg:=by
  have:=Value.func.inj e
  simpa using this
 obtain⟨rfl,rfl,rfl⟩:=hfe;have h2:a.eval gx = .func (.func f) fst.toArray cap.toArray:=hg.eval rfl G.fo;have ec:(do let d <- resolve a.eval { callee:=.value gx,args:=#[.const (.func (.yield (w.heap.size + 1)) #[] #[])],argTypes:=#[] } 0; invoke d.target d.args:Sem Next) = callFunc f (fst ++ [Value.func (.yield l) #[] #[]] ++ cap).toArray:=by
  rw [hl];simp [resolve,h2,Deferred.ofValue,invoke]
  rfl
 show (do let d <- resolve a.eval { callee:=.value gx,args:=#[.const (.func (.yield (w.heap.size + 1)) #[] #[])],argTypes:=#[] } 0; invoke d.target d.args:Sem Next).wpS P _ _ _ _;rw [ec];refine cu ?_ _ _ (kS om _ W1);rintro n W2 ⟨rfl,rfl⟩;refine ⟨_,_,rfl,_,hc,λb hb=>hb.elim (λh=>.inl (az I1.keeps.size h)) (λh=>((I1.own _ ah).2 b h).1),?_⟩;rintro val w5' ⟨⟨s,j⟩,afW,he,k5',ajY,abO⟩ w5 hg5 hn5;have k5:=k5'.trans ((bf.eA hg5).mono (λ_ h=>h.elim));have hA5:=(LS S l (lO fn a.tmps ps.toArray ac bd D) D (s,j)).st _ _ (λb hb=>(bf.eA hg5).block b (abO b hb).2 (λh=>h)) ajY;have hf5:∀ b,(LS S l (lO fn a.tmps ps.toArray ac bd D) D (s,j)).c9 b->_:=λb hb=>And.intro (abO b hb).1 (aD (abO b hb).2 hg5.size)
 have I5:bS K (LS S l (lO fn a.tmps ps.toArray ac bd D) D (s,j) :: L1) w5:=I1.upd mS.head k5 hA5 hf5;have hl5:w5.heap[l]? = some (.loop (lO fn a.tmps ps.toArray ac bd D j)):=hA5.2.1.1;have I6:bS K (S s :: Dm (D :: m) :: L2) (w5.putObj l (.loop { lO fn a.tmps ps.toArray ac bd D j with state:=.exhausted })):=by
  have J1:bS K (S s :: QT l (.loop (lO fn a.tmps ps.toArray ac bd D j)) :: QT D (.deferred (some [])) :: L1) w5:=by
   have h1:=I5.oc;have h2:=(h1.perm (List.Perm.swap _ _ _):bS K (Sep (QT l (.loop (lO fn a.tmps ps.toArray ac bd D j))) (QT D (.deferred (some []))) :: S s :: L1) w5).oc;exact h2.perm ((lA (l₁:=[QT l _,QT D _]) (a:=S s) (l₂:=L1)).symm)
  have hll:l < w5.heap.size:=(bP.1 hl5).1;have J2:bS K (S s :: QT l (.loop { lO fn a.tmps ps.toArray ac bd D j with state:=.exhausted }) :: QT D (.deferred (some [])) :: L1) (w5.putObj l (.loop { lO fn a.tmps ps.toArray ac bd D j with state:=.exhausted })) :=
   J1.upd (mS.tail mS.head) (bf.putObj w5 _ rfl) (World.putObj_heap_same hll) (λb hb=>⟨.inl hb,by have:b = l:=hb; simp; omega⟩)
  have J3:=J2.sub (L':=S s :: QT D (.deferred (some [])) :: L1) (by exact List.Sublist.cons_cons _ (List.Sublist.cons _ (aY _)));have J4:=J3.perm (L':=QT D (.deferred (some [])) :: Dm m :: S s :: L2) (by
   have p1:(Dm m :: L2).Perm L1:=hm2.perm;refine List.Perm.trans (List.Perm.cons _ (List.Perm.swap _ _ _)) (List.Perm.trans (List.Perm.swap _ _ _) ?_);exact List.Perm.cons _ (List.Perm.cons _ p1))
  obtain⟨c1,c2,c3,c4⟩:=J4;rw [bC,bC] at c3;obtain⟨d1,d2⟩:=c2 _ ah;obtain⟨⟨e1,e2⟩,e3⟩:=c2 _ (aF _ ah);have J5:bS K (Dm (D :: m) :: S s :: L2) (w5.putObj l (.loop { lO fn a.tmps ps.toArray ac bd D j with state:=.exhausted })):=by
   refine ⟨c1,?_,bC.2 ⟨?_,c3.2.2⟩,c4⟩
   ·intro q hq
    rcases aE.1 hq with rfl | hq
    ·refine ⟨⟨ki.2 ⟨λhDm=>c3.1 _ ah D rfl hDm,e1⟩,λE hE=>?_⟩,λb hb=>?_⟩
     ·rcases aE.1 hE with rfl | hE
      ·exact d1
      ·exact e2 E hE
     ·rcases aE.1 hb with rfl | hb
      ·exact d2 _ rfl
      ·exact e3 b hb
    ·exact c2 q (aF _ (aF _ hq))
   ·intro q hq b hb hb'
    rcases aE.1 hb with rfl | hb
    ·exact c3.1 q (aF _ hq) _ rfl hb'
    ·exact c3.2.1 q hq b hb hb'
  exact J5.perm (List.Perm.swap _ _ _)
 have hfo:kD K (dm (D :: m) :: F) { a with defers:=[mkD D] ++ a.defers }:=by
  obtain⟨m',h1,h2⟩:=G.fo.defers _ _ hD;have h3:=BI h1;subst h3;have:=G.fo.marks (D :: m);rw [dq,<- h2] at this;exact this
 have hfo2:kD K (dm (D :: m) :: F) ⟨a.tmps,[({ target:=.collected w.heap.size,args:=#[] }:Deferred)] ++ a.defers⟩:=by
  rw [<- hDe];exact hfo
 have hlm:q9 K l:=((I5.own _ ah).2 l (.inr (.inl rfl))).1;have hns:(lO fn a.tmps ps.toArray ac bd D j).state ≠ .busy:=by unfold lO; cases j <;> simp
 have hlf:K.E.fr <= l:=hfb l (.inr (.inl rfl));have hwe:=Hs (P:=P) (pm:=q9 K) (fr:=K.E.fr) hl5 hns hlm hlf hn5;subst hl;refine cu ?_ _ _ hwe;rintro j w6 ⟨rfl,rfl⟩
 rcases M9 xs s0 (s,j) afW with ⟨h1,h2⟩ | ⟨c,h1,h2⟩
 ·subst h1;exact .inl ⟨rfl,next s D h2 _ _ ⟨hfo2,I6⟩⟩
 ·subst h1;exact .inr ⟨c,rfl,stop c s D h2 _ _ ⟨hfo2,I6⟩⟩
theorem q8.inv {J:α->σ->σ->Prop} {Inv:σ->Prop} (h:∀ x s s',Inv s->J x s s'->Inv s'):∀ {xs:List α} {s t:σ},q8 J xs s t->Inv s->Inv t
 | [],s,t,hr,hi=>by rw [show t = s from hr]; exact hi
 | x :: xs,s,t,⟨q,h1,hr⟩,hi=>q8.inv h hr (h x s q hi h1)
theorem aaW (enc:α->List Value) (S:σ->du) (s0:σ) (xs:List α) (Jn:α->σ->σ->Prop) (Jx:α->σ->Code->σ->Prop) (Fa:α->ζ->Fr) (La:α->ζ->List du) (Inv:σ->Prop) (hI0:Inv s0) (hIn:∀ x s s',Inv s->Jn x s s'->Inv s')
 (hm:lC L (S s0) L1) (hm2:lC L1 (Dm m) L2) (hD:ie F 1000000 = some (true,Lb m)) (hg:cV F true gx gv) (hgv:∃ f fst cap,gv = (Mp f fst cap).v) (NK:∀ x,(enc x).length = ps.length) (hpn:ps.all (λp=>Nat.blt p K.n) = true)
 (iter:∀ w,bS K L w->(∀ w',bf (S s0).c9 w w'->bS K L1 w')->MB K.E.X K.E.fr P gv enc w (S s0).c9 xs)
 (asg:∀ (l:Nat) x w,Sat ⟨K.n,w,fX,K.E.round l⟩ (ac.oV P ⟨K.n,w,fX,K.E.round l⟩ (Exit.then (λa' w'=>∃ z,Good ⟨K.n,w,fX,K.E.round l⟩ (Fa x z) (La x z) a' w') (λ_ _ _=>False))) (WB ps (enc x) (dz :: F)) [])
 (body:∀ (l:Nat) x s z n0 w,x ∈ xs->n0 <= w.heap.size->Inv s->(∀ b,(S s).c9 b->K.w0.heap.size <= b \/ K.M b)->(∀ w',bf (MS S s n0) w w'->bS K L1 w')->Sat ⟨K.n,w,MS S s n0,K.E.round l⟩ (bd.oV P ⟨K.n,w,MS S s n0,K.E.round l⟩ (rdQ w S s n0 (Jn x s) (Jx x s))) (Fa x z) (S s :: La x z))
 (next:∀ s D,q8 Jn xs s0 s->Sat K (Q .normal) (dm (D :: m) :: F) (S s :: Dm (D :: m) :: L2))
 (stop:∀ c s D,JV Jn Jx c xs s0 s->Sat K (c.oV P K Q) (dm (D :: m) :: F) (S s :: Dm (D :: m) :: L2)) (hR:K.E.Wv = none:=by rfl) :
 Sat K ((Code.rangeFunc gx ps.toArray ac bd).oV P K Q) F L :=
 Wy enc S s0 xs Jn Jx Fa La hm hm2 hD hg hgv NK hpn iter asg (λl x s z n0 w hx hn hf hb=>by
  obtain⟨pre,post,e,hr⟩:=hx;exact body l x s z n0 w (by grind) hn (q8.inv hIn hr hI0) hf hb) next stop hR
theorem acg {X:Act->World->Prop} (h:Sat K X F (YQ :: L)):Sat K X F L:=λa w G=>h a w (G.world (G.inv.add (bf.refl _ _) trivial (λb hb=>hb.elim)))
def ace {args:Array Value} (n:Nat) (L:List du)
    (hf:P.funcs[f]? = some fn) (hb:fn.body = some c) (hn:fn.ntmps = n) (hsz:args.size <= n) (hL:∀ E,Ctx.OK ⟨n,w,R.M,E⟩->bS ⟨n,w,R.M,E⟩ L w)
    (h:∀ X fr,Sat ⟨n,w,R.M,⟨X,fr,none⟩⟩ (c.vp P ⟨X,fr,none⟩ (tI w R.M) (bodyPost P ⟨n,w,R.M,⟨X,fr,none⟩⟩ fn R)) (dz :: tO 0 args.toList) (Dm [] :: L)) (BO:Nat.ble n 1000000 = true:=by rfl):Calls P f args w R :=
 enter n L hf hb hn hsz hL (λX fr=>dm0 (h X fr)) BO
def Yd {args:Array Value} (n:Nat)
    (hf:P.funcs[f]? = some fn) (hb:fn.body = some c) (hn:fn.ntmps = n) (hsz:args.size <= n)
    (h:∀ X fr,Sat ⟨n,w,R.M,⟨X,fr,none⟩⟩ (c.vp P ⟨X,fr,none⟩ (tI w R.M) (bodyPost P ⟨n,w,R.M,⟨X,fr,none⟩⟩ fn R)) (dz :: tO 0 args.toList) [Dm []]) (BO:Nat.ble n 1000000 = true:=by rfl):Calls P f args w R :=
 ace n [] hf hb hn hsz (λE ok=>bS.start ok) h BO
theorem y7 {fn:Func} {R:ja} {rs:List ResultVar} {vs:List Value} {L':List du} (hr:fn.results = rs.toArray) (h:RV P K F L' rs vs) (hR:∀ w,bS K L' w->R (.returned (ug vs)) w) {a:Act} (fo:kD K F a):∀ (m:List Nat) (w:World),bS K (Dm m :: L') w->wR P K.E.fr fn (q9 K) R a.tmps (m.map mkD) w
 | [],w,I=>by
   have I':=I.sub (List.Sublist.cons _ (aY _));exact ⟨_,λw1 hg hn=>qC hr h (Good.tJ ⟨fo,I'⟩ hg) hn,hR w I'⟩
 | D :: m,w,I=>by
   refine ⟨D,rfl,λw1 hg hn=>?_⟩;have J:bS K (Dm (D :: m) :: L') w1:=I.grow (bf.eA hg);obtain⟨⟨h1,h2⟩,h3⟩:=J.own _ ah;have hD:=h2 D ah;rw [ki] at h1;refine cu ?_ _ _ (Q3 hD (h3 D ah).1 (J.fr ah D ah) hn);rintro _ w2 ⟨rfl,rfl⟩;refine ⟨rfl,y7 hr h hR fo m _ ?_⟩;refine (J.upd (r':=Dm m) mS.head (bf.putObj w1 _ (ah)) ⟨h1.2,λE hE=>?_⟩ (λb hb=>⟨.inl (aF _ hb),?_⟩))
   ·have hne:E ≠ D:=λe=>h1.1 (by rw [<- e]; exact hE)
    exact (World.putObj_heap_other hne).trans (h2 E (aF _ hE))
   ·simpa using (h3 b (aF _ hb)).2
theorem ach (hr:fn.results = rs.toArray) (hD:ie F 1000000 = some (true,Lb m)) (hm:lC L (Dm m) L') (h:RV P K F L' rs vs)
 (hR:∀ w,bS K L' w->R (.returned (ug vs)) w) (G:Good K F L a w):wR P K.E.fr fn (q9 K) R a.tmps a.defers w:=by
 obtain⟨m',h1,h2⟩:=G.fo.defers _ _ hD;rw [<- BI h1] at h2;rw [h2];exact y7 hr h hR G.fo m w (G.inv.perm hm.perm)
theorem agJ (hm:lC L (Dm m) L') (hD:ie F 1000000 = some (true,Lb m)) (hr:fn.results = rs.toArray) (h:RV P K F L' rs vs)
 (hR:∀ w,bS K L' w->R (.returned (ug vs)) w):Sat K (bodyPost P K fn R .ret) F L :=
 λa w G=>ach hr hD hm h hR G
end
section
variable {op:Op} {d:Nat} {x:Operand}
def isIf:TypeDesc->Bool
 | .interface _=>true
 | _=>false
def afO:TypeDesc->Bool
 | .pointer _=>true
 | _=>false
def IF (t:TypeId) (v:Value):OV:=⟨.iface t v,rfl⟩
theorem Ev.Lh (ht:P.underlying T = some dd) (hn:isIf dd = false) (hx:cV F g x u):Ev P K F L g (.makeInterface T x) ty (IF T u).v:=.of rfl (λhg a G w hw dst pos af gd=>by
 refine .bind ?_ λ_=>.pure _
 refine .under ht ?_;cases dd <;> first | (cases hn; done) | exact .pure _) λhg a G w _ dst pos af gd=>by
 have hu:(underlying T).run P w = .ok dd w:=by simp [underlying,ht]
 have h1:=hx.eval hg G;cases dd <;> first | (cases hn; done) | simp [execOp,Instr.makeInterface,hu,h1,IF]
def rA (P:Program) (t:TypeId) (v:Value) (name:String) (f:FuncId) (r:Value):Prop:=(∀ w,(method (P.types.size + Made.depth) t v name).run P w = .ok (f,r) w) /\ ∀ pm fr,Tm P pm fr (method (P.types.size + Made.depth) t v name)
theorem rA.val {T:TypeId} {u:Value} {name:String} {f:FuncId} {dd:TypeDesc} (hi:((P.info? T).bind λi=>(i.methods.find? (·.name == name)).map λm=>(m.path,m.func)) = some (#[],some (f,false)))
 (ht:P.underlying T = some dd) (hn:afO dd = false) (hs:P.types.size ≠ 0):rA P T u name f u:=by
 refine ⟨λw=>?_,λpm fr=>?_⟩
 rotate_left
 ·obtain⟨k,hk⟩:∃ k,P.types.size + Made.depth = k + 1:=⟨P.types.size + Made.depth - 1,by omega⟩;cases hin:P.info? T with
  | none=>grind
  | some i =>
    rw [hin] at hi;simp only [cQ] at hi;cases hm:i.methods.find? (·.name == name) with
    | none=>grind
    | some m =>
      rw [hm] at hi;simp only [cB,br,eU] at hi;obtain⟨h1,h2⟩:=hi;refine .info hin ?_;simp only [hm,h1,h2];refine .known (b:=(T,.val u)) (.pure _) (λv=>rfl) (.bind ?_ λ_=>.pure _);refine .under ht ?_;cases dd <;> first | (cases hn; done) | exact .pure _
 obtain⟨k,hk⟩:∃ k,P.types.size + Made.depth = k + 1:=⟨P.types.size + Made.depth - 1,by omega⟩;rw [hk];cases hin:P.info? T with
 | none=>grind
 | some i =>
   rw [hin] at hi;simp only [cQ] at hi;cases hm:i.methods.find? (·.name == name) with
   | none=>grind
   | some m =>
     rw [hm] at hi;simp only [cB,br,eU] at hi;obtain⟨h1,h2⟩:=hi;have hu:(underlying T).run P w = .ok dd w:=by simp [underlying,ht]
     cases dd <;> first | (cases hn; done) | simp [method,typeInfo,hin,hm,h1,h2,follow,receiverAt,hu,Place.get]
theorem Dd {r:Value} (hx:cV F g x (IF T u).v) (hm:rA P T u name f r) (om:dV P f) (fQ:lM F g args vs) (hg:g = true) (G:kD K F a) (w:World) (hn:cI w) {gd:Option (Nat × Bool)} :
 (execOp a.eval ⟨dst,.call { callee:=.invoke x name,args:=args.toArray,argTypes:=qJ },ty,pos,af,gd⟩).wpS P pm fr (λn w'=>n = .enter f (r :: vs).toArray /\ w' = w) w:=by
 have h1:=fQ.eval hg G;have h2:=hx.eval hg G;have h3:(IF T u).v = .iface T u:=rfl;rw [h3] at h2;have e:execOp a.eval ⟨dst,.call { callee:=.invoke x name,args:=args.toArray,argTypes:=qJ },ty,pos,af,gd⟩ = (program >>= λp=>method (p.types.size + Made.depth) T u name >>= λq=>callFunc q.1 (#[q.2] ++ vs.toArray)):=by
  simp [execOp,resolve,invoke,callMethod,h1,h2]
 rw [e];show ((method (P.types.size + Made.depth) T u name >>= λq=>callFunc q.1 (#[q.2] ++ vs.toArray)):Sem Next).wpS P pm fr _ w;refine cR _ _ _ (cu ?_ _ _ (hm.2 pm fr w hn _ _ (hm.1 w)));rintro q w' ⟨rfl,rfl⟩;have h4:=kS (P:=P) om (#[r] ++ vs.toArray) (pm:=pm) (fr:=fr) w'
 grind
def ahf (P:Program) (o:OV) (name:String) (vs:List Value) (w:World) (u:Value):Prop:=∃ T v r f,o = IF T v /\ rA P T v name f r /\ dV P f /\ Calls P f (r :: vs).toArray w (dO w u)
theorem acz {o:OV} {u2:Value} (hx:cV F true x o.v) (fQ:lM F true args vs)
 (hC:∀ w,bS K L w->ahf P o name vs w u2) (next:Sat K N ((d,true,u2) :: F) L) (hd:Nat.blt d K.n = true:=by rfl) :
 Sat K (dw P K ops Q ⟨some d,.call { callee:=.invoke x name,args:=args.toArray,argTypes:=qJ },ty,pos,af,none⟩ N) F L:=λa w G=>by
 obtain⟨T,v,r,f,rfl,hm,om,hc⟩:=hC w G.inv;exact dI rfl rfl λhn=>yE (X:=Unit) rfl (λ_=>True) (λ_=>u2) (λ_=>L) G (Dd hx hm om fQ rfl G.fo w hn) (hc.here G.inv λ_ h=>h.elim) (λ_ h=>h.elim)
  (λv w' q=>⟨(),trivial,(oA G.inv q).1,(oA G.inv q).2⟩) (λ_ _=>next) hd
theorem Ev.afv {b:Option Nat} (ht:P.underlying t = some (.map kt vt)) (hx:cV F g x (.map b)) (hy:cV F g y (.map none)):Ev P K F L g (.binOp .neq t x y t') ty (.bool (!b.isNone)) :=
 Ev.bin hx hy (λw=>by rfl) (λw=>run_neq_map_nil w t kt vt b ht) (by exact .pure _) (by
  refine .bind ?_ λ_=>.pure _
  show Tm P _ _ (Op.equalIn (9999 + 1) t (.map b) (.map none));refine .under ht ?_;cases b <;> exact .pure _)
def Ev.SO {k:α} (ht:P.underlying t = some (.map kt vt)) (hu:P.underlying kt = some dd) (hk:uI P kt E q) (hz:(P.info? vt).bind (·.zero) = some (V.val V.zero))
    (hx:cV F g x (.map (some b))) (hy:cV F g y (E.val k)) (hm:g = true->∀ w,bS K L w->pe w b E V l) :
    Ev P K F L g (.lookup t x y false) ty (V.val ((gB q k l).getD V.zero)):=Ev.GA (co:=false) ht hu hk hz hx hy hm
theorem qx.A {w:World}:∀ (l:List du) (r:du),(qx r l).A w->r.A w /\ ∀ q ∈ l,q.A w
 | [],r,h=>⟨h,λq hq=>by grind⟩
 | s :: l,r,h=>by
   have h1:r.A w /\ (qx s l).A w /\ _:=h;obtain⟨h2,h3⟩:=qx.A l s h1.2.1
   grind
def vU {l L0:List du} {X:Act->World->Prop} (h:lC L0 r M) (next:Sat K X F (qx r l :: M)):Sat K X F (l ++ L0) :=
 aaQ ⟨r :: (l ++ M),(lA.symm).trans (List.Perm.append_left l h.perm),aY _⟩ next
end
@[simp] theorem aev (v:Value):ug [v] = v:=rfl
@[simp] theorem aeu (v u:Value):ug [v,u] = .tuple #[v,u]:=rfl
@[simp] theorem aaz (v u x:Value):ug [v,u,x] = .tuple #[v,u,x]:=rfl
@[simp] theorem aB.agP (l:aB E E' o) (m:aB E' Ov o') (x:α):(l.comp m).get x = m.get (l.get x):=rfl
@[simp] theorem aB.agO (l:aB E E' o) (m:aB E' Ov o') (x:α) (y:γ):(l.comp m).set x y = l.set x (m.set (l.get x) y):=rfl
@[simp] theorem aB.ajc (E:dy α) (x:α):(aB.id E).get x = x:=rfl
@[simp] theorem aB.ajb (E:dy α) (x y:α):(aB.id E).set x y = y:=rfl
@[simp] theorem afK (E:dy α) (i:Nat) (hi:i < n) (x:Vector α n):(rP E i hi).get x = x[i]:=rfl
@[simp] theorem afJ (E:dy α) (i:Nat) (hi:i < n) (x:Vector α n) (y:α):(rP E i hi).set x y = x.set i y:=rfl
@[simp] theorem OV.akR (s:Nat) (o:OV) (l h:Nat):(OV.sub s o l h).v = uN s o.v l h:=rfl
@[simp] theorem ah3 [DecidableEq α] (x y:Vector α n):eqA n vD x y = decide (x = y):=by
  rw [dT,cn];exact Yc zw x y
@[simp] theorem ah2 [DecidableEq α] (x y:α):vD x y = decide (x = y):=rfl
@[simp] theorem aex (x:Vector α n):x.toList.take n = x.toList:=bH (by simp)
end Go.Gx
