/- A small kit of my own, over any program: symbolic states (what is known of a frame's slots, what blocks are owned), and one rule for each form of code. Part A: states, code, regions. -/
import Derived.OrdersHeld
import Derived.Tactics2
import Derived.Below
import Derived.Laws.AppendOwn
import Derived.Laws.Cells
import Derived.Deep.RegionHeld3
import Derived.Deep.LoopGhost
import Derived.KernelRfl
import Derived.Test.YtgnmiaonbadbnaaGreatH1
import Derived.Laws.CopyRow
import Derived.Laws.MakeOwn
import Derived.Laws.AppendOwnNone
import Derived.Laws.StructEq
import Derived.Laws.Build
import Derived.Lib.Bytealg
import Derived.Laws.Externs
set_option linter.unusedVariables false
set_option linter.defProp false
set_option linter.unusedSimpArgs false
namespace Go.Gx
open Go Go.RowKit
variable {w w' b v1 v:World} {a:Act} {M':Nat->Prop} {R:ja} {e:Bool × Value} {vs:List Value} {fn:Func} {args:Array Value} {rs:List ResultVar}
structure bf (M:Nat->Prop) (w w':World):Prop where
 os:w'.os = w.os
 tape:w'.tape = w.tape
 output:w'.output = w.output
 size:w.heap.size <= w'.heap.size
 block:∀ k,k < w.heap.size->¬ M k->w'.heap[k]? = w.heap[k]?
def fX:Nat->Prop:=λ_=>False
theorem bf.refl (M:Nat->Prop) (w:World):bf M w w:=⟨rfl,rfl,rfl,aA _,λ_ _ _=>rfl⟩
theorem bf.trans {M:Nat->Prop} {a b c:World} (h:bf M a b) (k:bf M b c):bf M a c :=
 ⟨k.os.trans h.os,k.tape.trans h.tape,k.output.trans h.output,az h.size k.size,
  λi hi hm=>(k.block i (aD hi h.size) hm).trans (h.block i hi hm)⟩
def bf.trans' {M:Nat->Prop} {a c:World} (h:bf M a b) (k:bf M' b c) (hm:∀ i,i < a.heap.size->M' i->M i):bf M a c :=
 ⟨k.os.trans h.os,k.tape.trans h.tape,k.output.trans h.output,az h.size k.size,
  λi hi hn=>(k.block i (aD hi h.size) (λh'=>hn (hm i hi h'))).trans (h.block i hi hn)⟩
def bf.mono {M:Nat->Prop} {a:World} (h:bf M a b) (hm:∀ i,M i->M' i):bf M' a b :=
 ⟨h.os,h.tape,h.output,h.size,λi hi hn=>h.block i hi (λh'=>hn (hm i h'))⟩
def bf.drew (M:Nat->Prop) (w:World):bf M w { w with drawn:=w.drawn + 1 }:=⟨rfl,rfl,rfl,aA _,λ_ _ _=>rfl⟩
theorem bf.alloc (M:Nat->Prop) (w:World) (o:Obj):bf M w { w with heap:=w.heap.push o } :=
 ⟨rfl,rfl,rfl,by simp,λk hk _=>by grind⟩
def bf.Su {row:Option Nat} (h:w.grownBy w' row):bf (λk=>row = some k) w w' :=
 ⟨h.os,h.tape,h.output,h.size,λk hk hn=>h.block k hk (λe=>hn e.symm)⟩
structure du where
 c9:Nat->Prop
 A:World->Prop
 st:∀ w w',(∀ b,c9 b->w'.heap[b]? = w.heap[b]?)->A w->A w'
variable {r r':du} {L L':List du}
def du.zT (r s:du):Prop:=∀ b,r.c9 b->s.c9 b->False
theorem du.zT.symm {s:du} (h:r.zT s):s.zT r:=λb hs hr=>h b hr hs
structure Ctx where
 n:Nat
 w0:World
 M:Nat->Prop
 E:En
variable {K:Ctx}
def Ctx.OK (K:Ctx):Prop:=K.E.fr <= K.w0.heap.size /\ ∀ b,K.M b->K.E.fr <= b
def q9 (K:Ctx):Nat->Prop:=λb=>K.w0.heap.size <= b \/ K.M b
structure bS (K:Ctx) (L:List du) (w:World):Prop where
 keeps:bf K.M K.w0 w
 own:∀ r ∈ L,r.A w /\ ∀ b,r.c9 b->(K.w0.heap.size <= b \/ K.M b) /\ b < w.heap.size
 Jj:L.Pairwise du.zT
 ok:K.OK
theorem bS.start (ok:K.OK):bS K [] K.w0:=⟨bf.refl _ _,(λ_ h=>absurd h aU),List.Pairwise.nil,ok⟩
def bf.eA (h:df v v1):bf fX v v1:=⟨h.os,h.tape,h.output,h.size,λk hk _=>h.old k hk⟩
def bf.ahA {M:Nat->Prop} (h:oS M v v1):bf M v v1:=⟨h.os,h.tape,h.output,h.size,λk hk hm=>h.old k hk hm⟩
theorem bS.grow (h:bS K L w) (k:bf fX w w'):bS K L w' :=
 ⟨h.keeps.trans' k (λ_ _ h=>h.elim),λr hr=>by
  have⟨ha,hf⟩:=h.own r hr;exact ⟨r.st w w' (λb hb=>k.block b (hf b hb).2 (λh=>h)) ha,λb hb=>⟨(hf b hb).1,aD (hf b hb).2 k.size⟩⟩,h.Jj,h.ok⟩
theorem bS.add (h:bS K L w) (k:bf fX w w') {r:du} (ha:r.A w') (hf:∀ b,r.c9 b->w.heap.size <= b /\ b < w'.heap.size):bS K (r :: L) w':=by
 have hs:K.w0.heap.size <= w.heap.size:=h.keeps.size;refine ⟨(h.grow k).keeps,?_,?_,h.ok⟩
 ·intro s Bp
  rcases aE.1 Bp with rfl | Bp
  ·grind
  ·exact (h.grow k).own s Bp
 ·refine bC.2 ⟨λs Bp b hb hsb=>?_,h.Jj⟩;have h1:=(hf b hb).1;have h2:=((h.own s Bp).2 b hsb).2;omega
theorem bS.acK (h:bS K L w) (k:bf fX w w') {R:List du} (ha:∀ r ∈ R,r.A w' /\ ∀ b,r.c9 b->w.heap.size <= b /\ b < w'.heap.size) (hd:R.Pairwise du.zT):bS K (R ++ L) w':=by
 have hs:K.w0.heap.size <= w.heap.size:=h.keeps.size;refine ⟨(h.grow k).keeps,?_,?_,h.ok⟩
 ·intro s Bp
  rcases bG.1 Bp with Bp | Bp
  ·grind
  ·exact (h.grow k).own s Bp
 ·refine gF.2 ⟨hd,h.Jj,λr hr s Bp b hb hsb=>?_⟩;have h1:=((ha r hr).2 b hb).1;have h2:=((h.own s Bp).2 b hsb).2;omega
def bS.sub (h:bS K L w) (hs:L'.Sublist L):bS K L' w :=
 ⟨h.keeps,λr hr=>h.own r (hs.subset hr),h.Jj.sublist hs,h.ok⟩
def mS (L:List du) (r r':du) (L':List du):Prop:=∃ A C,L = A ++ r :: C /\ L' = A ++ r' :: C
def mS.head:mS (r :: L) r r' (r' :: L):=⟨[],L,rfl,rfl⟩
theorem mS.tail {x:du} (h:mS L r r' L'):mS (x :: L) r r' (x :: L'):=by
 obtain⟨A,C,rfl,rfl⟩:=h;exact ⟨x :: A,C,rfl,rfl⟩
theorem mS.mem (h:mS L r r' L'):r ∈ L:=by
 obtain⟨A,C,rfl,rfl⟩:=h;simp
theorem mS.FH (h:mS L r r' L') (hd:L.Pairwise du.zT):∀ s ∈ L',s = r' \/ (s ∈ L /\ s.zT r):=by
 obtain⟨A,C,rfl,rfl⟩:=h;have⟨_,h2,h3⟩:=gF.1 hd;have⟨h4,_⟩:=bC.1 h2;intro s hs
 rcases bG.1 hs with h | h
 ·grind
 ·rcases aE.1 h with h | h
  ·grind
  ·exact .inr ⟨bG.2 (.inr (aF _ h)),(h4 s h).symm⟩
theorem mS.pairwise (h:mS L r r' L') (hd:L.Pairwise du.zT) (hx:∀ s ∈ L,s.zT r->s.zT r'):L'.Pairwise du.zT:=by
 obtain⟨A,C,rfl,rfl⟩:=h;have⟨h1,h2,h3⟩:=gF.1 hd;have⟨h4,h5⟩:=bC.1 h2;refine gF.2 ⟨h1,bC.2 ⟨λs hs=>(hx s (by grind) (h4 s hs).symm).symm,h5⟩,λa ha s hs=>?_⟩
 grind
theorem bS.upd (h:bS K L w) (hu:mS L r r' L') (k:bf r.c9 w w') (ha:r'.A w')
 (hf:∀ b,r'.c9 b->(r.c9 b \/ w.heap.size <= b) /\ b < w'.heap.size):bS K L' w':=by
 have hs:K.w0.heap.size <= w.heap.size:=h.keeps.size;have hr:=h.own r hu.mem;refine ⟨h.keeps.trans' k (λi hi hi'=>?_),?_,?_,h.ok⟩
 ·grind
 ·intro s Bp
  rcases hu.FH h.Jj s Bp with rfl | ⟨h1,h2⟩
  ·grind
  ·have⟨h3,h4⟩:=h.own s h1;exact ⟨s.st w w' (λb hb=>k.block b (h4 b hb).2 (λh5=>h2 b hb h5)) h3,λb hb=>⟨(h4 b hb).1,aD (h4 b hb).2 k.size⟩⟩
 ·refine hu.pairwise h.Jj (λs Bp hd b hb hb'=>?_)
  rcases (hf b hb').1 with h3 | h3
  ·exact hd b hb h3
  ·have:=((h.own s Bp).2 b hb).2;omega
abbrev Fr:=List (Nat × Bool × Value)
variable {F:Fr}
def ie:Fr->Nat->Option (Bool × Value)
 | [],_=>none
 | (s,e) :: r,t=>bif Nat.beq s t then some e else ie r t
abbrev DS:Nat:=1000000
def look (F:Fr) (t:Nat):Option (Bool × Value):=bif Nat.beq t 1000000 then none else ie F t
theorem w9 {t:Nat} (h:look F t = some e):t ≠ DS /\ ie F t = some e:=by
 grind [look,Nat.beq,Nat.ne_of_beq_eq_false]
theorem AB {a b:Nat} (h:a ≠ b):Nat.beq a b = false:=by
 cases hb:Nat.beq a b with
 | false=>rfl
 | true=>simp_all
theorem BK {t:Nat} (h:t ≠ DS):look F t = ie F t:=by
 unfold look;rw [AB h]
 rfl
def Lb (m:List Nat):Value:=.tuple (m.map λD:Nat=>Value.int .i64 D).toArray
theorem BI {m m':List Nat} (h:Lb m = Lb m'):m = m':=by
 have h1:=aL (λv=>match v with | Value.tuple a=>a.toList | _=>[]) h;exact (List.map_inj_right (f:=λD:Nat=>Value.int .i64 D) (λa b e=>by
  grind)).1 h1
def mkD (D:Nat):Deferred:={ target:=.collected D,args:=#[] }
abbrev dz:Nat × Bool × Value:=(1000000,true,Lb [])
abbrev dm (m:List Nat):Nat × Bool × Value:=(1000000,true,Lb m)
structure kD (K:Ctx) (F:Fr) (a:Act):Prop where
 size:a.tmps.size = K.n
 le:K.n <= DS
 defers:∀ c v,ie F DS = some (c,v)->∃ m,v = Lb m /\ a.defers = m.map mkD
 fr:∀ t c v,look F t = some (c,v)->a.tmps[t]? = some (bif c then v else undef)
variable {fr:Nat}
structure Good (K:Ctx) (F:Fr) (L:List du) (a:Act) (w:World):Prop where
 fo:kD K F a
 inv:bS K L w
def Sat (K:Ctx) (X:Act->World->Prop) (F:Fr) (L:List du):Prop:=∀ a w,Good K F L a w->X a w
section
variable {P:Program}
theorem kD.put {a:Act} (G:kD K F a) (d:Nat) (c:Bool) (v v':Value) (hd:d < K.n) (hv:v' = (bif c then v else undef)):kD K ((d,c,v) :: F) (a.put (some d) v'):=by
 refine ⟨by simp [Act.put,G.size],G.le,λc' u hl=>?_,λt c' u hl=>?_⟩
 ·refine G.defers c' u ?_;have:Nat.beq d DS = false:=AB (by have:=G.le; omega)
  grind [ie]
 have hsz:d < a.tmps.size:=by rw [G.size]; exact hd
 show (a.tmps.setIfInBounds d v')[t]? = _;have⟨ajs,hl⟩:=w9 hl;simp only [ie] at hl;cases hb:Nat.beq d t with
 | true =>
   simp_all
 | false =>
   rw [hb] at hl;have hne:d ≠ t:=je hb;rw [bL hne];exact G.fr t c' u (by rw [BK ajs]; exact hl)
theorem Good.put {a:Act} {w w':World} {L':List du} (G:Good K F L a w) (d:Nat) (c:Bool) (v v':Value) (hd:d < K.n) (hv:v' = (bif c then v else undef)) (h:bS K L' w'):Good K ((d,c,v) :: F) L' (a.put (some d) v') w' :=
 ⟨G.fo.put d c v v' hd hv,h⟩
theorem Good.world (G:Good K F L a w) (h:bS K L' w'):Good K F L' a w':=⟨G.fo,h⟩
def Sub (F F':Fr):Prop:=∀ t e,ie F' t = some e->ie F t = some e
theorem Sub.nil:Sub F []:=λt e h=>by trivial
theorem Sub.cons {t:Nat} {F':Fr} (h1:ie F t = some e) (ih:Sub F F'):Sub F ((t,e) :: F'):=λs e' h=>by
 simp only [ie] at h;cases hb:Nat.beq t s with
 | true =>
   simp_all
 | false=>rw [hb] at h; exact ih s e' h
theorem Good.sub {a:Act} {w:World} {F':Fr} {L':List du} (G:Good K F L a w) (hF:Sub F F') (hL:L'.Sublist L):Good K F' L' a w :=
 ⟨⟨G.fo.size,G.fo.le,λc v h=>G.fo.defers c v (hF _ _ h),λt c v h=>by
   have⟨h1,h2⟩:=w9 h;exact G.fo.fr t c v (by rw [BK h1]; exact hF t _ h2)⟩,G.inv.sub hL⟩
theorem Sat.sub {X:Act->World->Prop} {F':Fr} {L':List du} (hF:Sub F F') (hL:L'.Sublist L) (h:Sat K X F' L'):Sat K X F L:=λa w G=>h a w (G.sub hF hL)
def cV (F:Fr) (g:Bool) (x:Operand) (v:Value):Prop :=
 match x with
 | .tmp t=>∃ c,look F t = some (c,v) /\ (g = true->c = true)
 | .const u=>u = v
 | .func f=>v = .func (.func f) #[] #[]
 | .global n=>v = .pointer (some ⟨n,0,none⟩)
theorem cV.t {g:Bool} {t:Nat} {v:Value} (h:look F t = some (true,v)):cV F g (.tmp t) v:=⟨true,h,λ_=>rfl⟩
theorem cV.g {g:Bool} {t:Nat} {c:Bool} {v:Value} (h:look F t = some (c,v)) (hc:g = true->c = true):cV F g (.tmp t) v:=⟨c,h,hc⟩
theorem cV.c {g:Bool} {u v:Value} (h:u = v):cV F g (.const u) v:=h
theorem cV.f {g:Bool} {f:Nat}:cV F g (.func f) (.func (.func f) #[] #[]):=rfl
theorem cV.eval {g:Bool} {x:Operand} {v:Value} (h:cV F g x v) (hg:g = true) {a:Act} (G:kD K F a):a.eval x = v:=by
 cases x with
 | tmp t =>
   have⟨c,h,hc⟩:=h;have h1:=G.fr _ _ _ h
   simp_all [Act.eval]
 | const u=>exact h
 | func f=>exact h.symm
 | global n=>exact h.symm
def tO:Nat->List Value->Fr
 | _,[]=>[]
 | i,v :: vs=>(i,true,v) :: tO (i + 1) vs
theorem CV:∀ (vs:List Value) (i t:Nat) (c:Bool) (v:Value),ie (tO i vs) t = some (c,v)->c = true /\ i <= t /\ vs[t - i]? = some v
 | [],_,_,_,_,h=>by trivial
 | u :: vs,i,t,c,v,h=>by
   simp only [tO,ie] at h;cases hb:Nat.beq i t with
   | true =>
     simp_all
   | false =>
     rw [hb] at h;have⟨h1,h2,h3⟩:=CV vs (i + 1) t c v h
     grind
theorem GZ {n:Nat} (hn:K.n = n) (BO:n <= DS) (hfn:fn.ntmps = n) (hsz:args.size <= n):kD K (dz :: tO 0 args.toList) { tmps:=args ++ Array.replicate (fn.ntmps - args.size) undef,defers:=[] }:=by
 subst hn;refine ⟨?_,BO,?_,?_⟩
 ·grind
 ·simp [ie,dz,tO]
 ·intro t c v hl;have⟨hne,hl⟩:=w9 hl;have e:ie (dz :: tO 0 args.toList) t = ie (tO 0 args.toList) t:=by
   have:Nat.beq 1000000 t = false:=AB (λe=>hne e.symm);simp only [ie,this,mi]
  rw [e] at hl;obtain⟨rfl,_,h3⟩:=CV _ _ _ _ _ hl
  grind
abbrev bodyPost (P:Program) (K:Ctx) (fn:Func) (R:ja):Exit->Act->World->Prop:=AA P K.E.fr fn (q9 K) R
def wM {X:Ext} {f:FuncId} {c:Code} (n:Nat) (L:List du)
    (hf:P.funcs[f]? = some fn) (hb:fn.body = some c) (hn:fn.ntmps = n) (hsz:args.size <= n) (uK:fr <= w.heap.size) (hM:∀ b,R.M b->fr <= b) (hL:Ctx.OK ⟨n,w,R.M,⟨X,fr,none⟩⟩->bS ⟨n,w,R.M,⟨X,fr,none⟩⟩ L w)
    (h:Sat ⟨n,w,R.M,⟨X,fr,none⟩⟩ (c.vp P ⟨X,fr,none⟩ (tI w R.M) (bodyPost P ⟨n,w,R.M,⟨X,fr,none⟩⟩ fn R)) (dz :: tO 0 args.toList) L) (BO:Nat.ble n 1000000 = true:=by rfl):iQ X fr P f args w R :=
 JC hf hb (h _ _ ⟨GZ rfl (aT BO) hn hsz,hL ⟨uK,hM⟩⟩)
theorem enter {f:FuncId} {c:Code} (n:Nat) (L:List du)
 (hf:P.funcs[f]? = some fn) (hb:fn.body = some c) (hn:fn.ntmps = n) (hsz:args.size <= n) (hL:∀ E,Ctx.OK ⟨n,w,R.M,E⟩->bS ⟨n,w,R.M,E⟩ L w)
 (h:∀ X fr,Sat ⟨n,w,R.M,⟨X,fr,none⟩⟩ (c.vp P ⟨X,fr,none⟩ (tI w R.M) (bodyPost P ⟨n,w,R.M,⟨X,fr,none⟩⟩ fn R)) (dz :: tO 0 args.toList) L) (BO:Nat.ble n 1000000 = true:=by rfl):Calls P f args w R:=λX fr uK hM =>
 wM n L hf hb hn hsz uK hM (hL _) (h X fr) BO
def T4 {f:FuncId} {c:Code} (n:Nat)
    (hf:P.funcs[f]? = some fn) (hb:fn.body = some c) (hn:fn.ntmps = n) (hsz:args.size <= n)
    (h:∀ X fr,Sat ⟨n,w,R.M,⟨X,fr,none⟩⟩ (c.vp P ⟨X,fr,none⟩ (tI w R.M) (bodyPost P ⟨n,w,R.M,⟨X,fr,none⟩⟩ fn R)) (dz :: tO 0 args.toList) []) (BO:Nat.ble n 1000000 = true:=by rfl):Calls P f args w R :=
 enter n [] hf hb hn hsz (λE ok=>bS.start ok) h BO
def RV (P:Program) (K:Ctx) (F:Fr) (L:List du):List ResultVar->List Value->Prop
 | [],vs=>vs = []
 | .tmp t :: rs,vs=>∃ v us,vs = v :: us /\ look F t = some (true,v) /\ RV P K F L rs us
 | .cell t ty :: rs,vs=>∃ v us p,vs = v :: us /\ look F t = some (true,.pointer (some p)) /\ (∀ w,bS K L w->cI w->(loadVar ty p).wpS P (q9 K) K.E.fr (λx w'=>x = v /\ w' = w) w) /\ RV P K F L rs us
theorem RV.nil:RV P K F L [] []:=rfl
theorem RV.tmp {t:Nat} {v:Value} {rs:List ResultVar} {vs:List Value} (h:look F t = some (true,v)) (hr:RV P K F L rs vs):RV P K F L (.tmp t :: rs) (v :: vs):=⟨v,vs,rfl,h,hr⟩
theorem RV.cell {t:Nat} {ty:TypeId} {p:Addr} {v:Value} {rs:List ResultVar} {vs:List Value} (h:look F t = some (true,.pointer (some p)))
 (hl:∀ w,bS K L w->cI w->(loadVar ty p).wpS P (q9 K) K.E.fr (λx w'=>x = v /\ w' = w) w) (hr:RV P K F L rs vs):RV P K F L (.cell t ty :: rs) (v :: vs):=⟨v,vs,p,rfl,h,hl,hr⟩
def ug:List Value->Value
 | [v]=>v
 | vs=>.tuple vs.toArray
def Zi (a:Act):ResultVar->Sem Value
 | .tmp t=>pure (a.tmps.getD t undef)
 | .cell s t=>do loadVar t (<- asAddr (a.tmps.getD s undef))
def VQ {α β:Type} {pm:Nat->Prop} {Q:β->World->Prop} (f:α->β) {e:Sem α} (h:e.wpS P pm fr (λa v'=>Q (f a) v') v):(Functor.map f e).wpS P pm fr Q v:=cR _ e v h
theorem RV.run:∀ {rs:List ResultVar} {vs:List Value},RV P K F L rs vs->∀ {a:Act} {w:World},Good K F L a w->cI w ->
 (rs.mapM (Zi a)).wpS P (q9 K) K.E.fr (λx w'=>x = vs /\ w' = w) w
 | [],vs,h,a,w,_,_=>by rw [show vs = [] from h]; trivial
 | .tmp t :: rs,vs,h,a,w,G,hn=>by
   obtain⟨v,us,rfl,h,hr⟩:=h;have h1:=G.fo.fr _ _ _ h;rw [kQ];refine cR _ _ _ ?_;show (λa_1 v'=>_) (a.tmps.getD t undef) w;refine cR _ _ _ (cu ?_ _ _ (RV.run hr G hn));rintro x w' ⟨rfl,rfl⟩;refine ⟨?_,rfl⟩
   simp_all
 | .cell t ty :: rs,vs,h,a,w,G,hn=>by
   obtain⟨v,us,p,rfl,h,hl,hr⟩:=h;have h1:=G.fo.fr _ _ _ h;have e1:a.tmps.getD t undef = .pointer (some p):=by rw [eu,h1]; rfl
   rw [kQ];refine cR _ _ _ ?_;show (asAddr (a.tmps.getD t undef) >>= λq=>loadVar ty q).wpS P _ _ _ _;rw [e1];refine cR _ _ _ ?_;show (loadVar ty p).wpS P _ _ _ _;refine cu ?_ _ _ (hl w G.inv hn);rintro x w' ⟨rfl,rfl⟩;refine cR _ _ _ (cu ?_ _ _ (RV.run hr G hn));rintro y w' ⟨rfl,rfl⟩
   trivial
theorem qC (hr:fn.results = rs.toArray) (h:RV P K F L rs vs) (G:Good K F L a w) (hn:cI w) :
 (results fn a.tmps).wpS P (q9 K) K.E.fr (λx w'=>x = ug vs /\ w' = w) w:=by
 have h1:=h.run G hn;have e:results fn a.tmps = (do
  let vs <- fn.results.mapM (Zi a)
  pure (if h:vs.size = 1 then vs[0] else .tuple vs)):=rfl
 rw [e,hr,mZ];refine cR _ _ _ (VQ _ (cu ?_ _ _ h1));rintro x w' ⟨rfl,rfl⟩;refine ⟨?_,rfl⟩
 match x with
 | []=>rfl
 | [v]=>rfl
 | v :: u :: vs=>rfl
theorem Good.tJ {w1:World} (G:Good K F L a w) (hg:df w w1):Good K F L a w1:=⟨G.fo,G.inv.grow (bf.eA hg)⟩
theorem EZ (hD:ie F 1000000 = some (true,Lb [])) (G:kD K F a):a.defers = []:=by
 have⟨m,h1,h2⟩:=G.defers _ _ hD
 grind [BI]
theorem done (hr:fn.results = rs.toArray) (h:RV P K F L rs vs)
 (hR:∀ w,bS K L w->R (.returned (ug vs)) w) (hD:ie F 1000000 = some (true,Lb []):=by rfl):Sat K (bodyPost P K fn R .ret) F L:=λa w G=>by
 show wR P K.E.fr fn (q9 K) R a.tmps a.defers w;rw [EZ hD G.fo];exact ⟨_,λw1 hg hn=>qC hr h (G.tJ hg) hn,hR w G.inv⟩
theorem zA (hr:fn.results = rs.toArray) (h:RV P K F L rs vs)
 (hR:∀ w,bS K L w->R (.returned (ug vs)) w) (hD:ie F 1000000 = some (true,Lb []):=by rfl):Sat K (bodyPost P K fn R .normal) F L:=λa w G=>by
 show wR P K.E.fr fn (q9 K) R a.tmps a.defers w;rw [EZ hD G.fo];exact ⟨_,λw1 hg hn=>qC hr h (G.tJ hg) hn,hR w G.inv⟩
end
end Go.Gx
namespace Go
open Gx in
abbrev Code.oV (c:Code) (P:Program) (K:Ctx) (Q:Exit->Act->World->Prop):Act->World->Prop:=c.vp P K.E (q9 K) Q
end Go
namespace Go.Gx
open Go Go.RowKit
variable {P:Program} {K:Ctx} {ops:Array Oper} {Q:Exit->Act->World->Prop} {a:Act} {w w' w0:World} {F:Fr} {L l Lq L':List du} {N:Act->World->Prop} {y:Code} {x z:Operand} {c m:Int} {t ty t' T T' e:TypeId} {b g c2 c1 want gz:Bool} {X α β γ:Type} {J:X->Prop} {Fx:X->Fr} {Lx:X->List du} {o i d j tg fuel n off Qf:Nat} {op:BinOp} {pos:String} {af:Array Edge} {gd:Option (Nat × Bool)} {dst:Option Tmp} {listed:Array Bool} {xs ys:List α} {vs:List Value} {f:FuncId} {args:List Operand} {pm:Nat->Prop} {qJ:Array TypeId} {R:ja} {r u:Value} {k k' yk:IntKind} {xv:α} {yv:β} {q:α->α->Bool} {fs:List Field} {place:Nat->Option (Nat × Nat)} {ps:List (Nat × Operand)} {e0:En} {rl:List (List α)}
def wpList (P:Program) (K:Ctx) (ops:Array Oper) (Q:Exit->Act->World->Prop) (rest:List Oper) (a:Act) (w:World):Prop :=
 ∀ i,ops.toList.drop i = rest->zR P K.E (q9 K) ops (List.range' i rest.length) Q a w
section
theorem seq {x y:Code} (h:Sat K (x.oV P K (Exit.then (y.oV P K Q) Q)) F L):Sat K ((Code.seq x y).oV P K Q) F L:=λa w G=>MH (h a w G)
theorem skip (h:Sat K (Q .normal) F L):Sat K (Code.skip.oV P K Q) F L:=λa w G=>QX (h a w G)
theorem exit {id:Nat} (h:Sat K (Q (.exit id)) F L):Sat K ((Code.exit id).oV P K Q) F L:=λa w G=>QZ (h a w G)
theorem ret (h:Sat K (Q .ret) F L):Sat K (Code.ret.oV P K Q) F L:=λa w G=>VP (h a w G)
theorem block {id:Nat} {c:Code} (h:Sat K (c.oV P K (Exit.inBlock id Q)) F L):Sat K ((Code.block id c).oV P K Q) F L:=λa w G=>Oz (h a w G)
theorem region {id:Nat} {l:List Oper} (h:Sat K (wpList P K l.toArray Q l) F L):Sat K ((Code.region id l.toArray false).oV P K Q) F L:=λa w G=>Kh (by
 have h1:=h a w G 0 (by simp);rw [List.range_eq_range'];omega)
theorem nil (h:Sat K (Q .normal) F L):Sat K (wpList P K ops Q []) F L:=λa w G i _=>CI (h a w G)
def pN (h:Sat K N F L):Sat K (Exit.then N Q .normal) F L:=h
theorem pX {id:Nat} (h:Sat K (Q (.exit id)) F L):Sat K (Exit.then N Q (.exit id)) F L:=h
def pR (h:Sat K (Q .ret) F L):Sat K (Exit.then N Q .ret) F L:=h
theorem bN {id:Nat} (h:Sat K (Q .normal) F L):Sat K (Exit.inBlock id Q .normal) F L:=h
theorem bR {id:Nat} (h:Sat K (Q .ret) F L):Sat K (Exit.inBlock id Q .ret) F L:=h
theorem bX {id:Nat} (h:Sat K (Q .normal) F L):Sat K (Exit.inBlock id Q (.exit id)) F L:=λa w G=>by
 show (if id = id then Q .normal a w else Q (.exit id) a w);rw [if_pos rfl]; exact h a w G
theorem cond {t:Nat} {b:Bool} {x y:Code} (hb:look F t = some (true,.bool b)) (h1:b = true->Sat K (x.oV P K Q) F L) (h2:b = false->Sat K (y.oV P K Q) F L) :
 Sat K ((Code.cond (.tmp t) x y).oV P K Q) F L:=λa w G=>by
 have hv:a.eval (.tmp t) = .bool b:=(cV.t hb:cV F true (.tmp t) (.bool b)).eval rfl G.fo;exact B0 hv (λh=>h1 h a w G) (λh=>h2 h a w G)
def Jq {t:Nat} {p:Prop} [Decidable p] {x:Code} (hb:look F t = some (true,.bool (decide p))) (h1:p->Sat K (x.oV P K Q) F L) (h2:¬ p->Sat K (y.oV P K Q) F L) :
    Sat K ((Code.cond (.tmp t) x y).oV P K Q) F L:=cond hb (λh=>h1 (dF h)) (λh=>h2 (of_decide_eq_false h))
theorem N6 {t:Nat} {x:Code} (hb:look F t = some (true,.bool b)) (hc:b = true) (h1:Sat K (x.oV P K Q) F L) :
 Sat K ((Code.cond (.tmp t) x y).oV P K Q) F L:=cond hb (λ_=>h1) (λh=>by rw [hc] at h; cases h)
theorem nS {t:Nat} {x:Code} (hb:look F t = some (true,.bool b)) (hc:b = false) (h1:Sat K (y.oV P K Q) F L) :
 Sat K ((Code.cond (.tmp t) x y).oV P K Q) F L:=cond hb (λh=>by rw [hc] at h; cases h) (λ_=>h1)
theorem loop {X:Type} {c:Code} (J:X->Prop) (Fx:X->Fr) (Lx:X->List du) (μ:X->Nat) (x0:X) (h0:J x0) (hF:Sub F (Fx x0)) (hL:(Lx x0).Sublist L)
 (round:∀ x,J x->Sat K (c.oV P K (Exit.then (λa w=>∃ x',J x' /\ μ x' < μ x /\ Good K (Fx x') (Lx x') a w) Q)) (Fx x) (Lx x)) :
 Sat K ((Code.loop c).oV P K Q) F L:=λa w G=>by
 refine QY (λm a w=>∃ x,μ x = m /\ J x /\ Good K (Fx x) (Lx x) a w) (μ x0) ⟨x0,rfl,h0,G.sub hF hL⟩ ?_;rintro m a w ⟨x,rfl,hx,Gx⟩;refine vO (round x hx a w Gx) ?_
 grind
theorem next {μ:X->Nat} {x:X} (x':X) (hJ:J x') (hlt:μ x' < μ x) (hF:Sub F (Fx x')) (hL:(Lx x').Sublist L) :
 Sat K (λa w=>∃ x',J x' /\ μ x' < μ x /\ Good K (Fx x') (Lx x') a w) F L:=λ_ _ G=>⟨x',hJ,hlt,G.sub hF hL⟩
theorem cut {x:Code} (J:X->Prop) (Fx:X->Fr) (Lx:X->List du)
 (h1:Sat K (x.oV P K (Exit.then (λa w=>∃ x',J x' /\ Good K (Fx x') (Lx x') a w) Q)) F L) (h2:∀ x',J x'->Sat K (y.oV P K Q) (Fx x') (Lx x')) :
 Sat K ((Code.seq x y).oV P K Q) F L:=λa w G=>by
 refine MH (vO (h1 a w G) ?_);intro e a' w' hq;cases e with
 | normal =>
   have⟨x',hJ,G'⟩:=hq;exact h2 x' hJ a' w' G'
 | _=>exact hq
theorem meet (x':X) (hJ:J x') (hF:Sub F (Fx x')) (hL:(Lx x').Sublist L) :
 Sat K (λa w=>∃ x',J x' /\ Good K (Fx x') (Lx x') a w) F L:=λ_ _ G=>⟨x',hJ,G.sub hF hL⟩
def dw (P:Program) (K:Ctx) (ops:Array Oper) (Q:Exit->Act->World->Prop) (o:Oper) (N:Act->World->Prop) (a:Act) (w:World):Prop :=
 if Region.wanted o (yielded ops a.tmps) then (jA o.op = false \/ K.E.Wv = none) /\ (cI w->Om P K.E (q9 K) o a N w) else N (a.put o.dst undef) w
variable {o:Oper} {rest:List Oper}
theorem drop_cons {l:List Oper} (h:l.drop i = o :: rest):l[i]? = some o /\ l.drop (i + 1) = rest:=by
 have h1:(l.drop i)[0]? = some o:=by rw [h]; rfl
 refine ⟨by grind,?_⟩;have h2:(l.drop i).drop 1 = rest:=by rw [h]; rfl
 grind [List.drop_drop]
theorem cons (h:Sat K (dw P K ops Q o (wpList P K ops Q rest)) F L):Sat K (wpList P K ops Q (o :: rest)) F L:=λa w G i hi=>by
 have⟨h1,h2⟩:=drop_cons hi;have ho:ops[i]? = some o:=by rw [<- Array.getElem?_toList]; exact h1
 have h3:=h a w G;unfold dw at h3;split at h3
 ·rename_i hw;refine EX ho hw h3.1 λv1 hg hn=>?_
  have h4:=h a v1 (G.tJ hg);unfold dw at h4;rw [if_pos hw] at h4;exact DL (λa' v' x=>x (i + 1) h2) (h4.2 hn)
 ·rename_i hw;exact xK ho (by grind) (h3 (i + 1) h2)
theorem dI (hg:o.guard = none) (hd:jA o.op = false) (h:cI w->Om P K.E (q9 K) o a N w):dw P K ops Q o N a w:=by
 simp_all [dw,if_pos,Region.wanted]
def Ev (P:Program) (K:Ctx) (F:Fr) (L:List du) (g:Bool) (op:Op) (ty:TypeId) (v:Value):Prop :=
 g = true->jA op = false /\ ∀ a,kD K F a->∀ w,bS K L w->cI w->∀ dst pos af gd,(execOp a.eval ⟨dst,op,ty,pos,af,gd⟩).wpS P (q9 K) K.E.fr (λn v'=>n = .value v /\ v' = w) w
variable {op:Op} {v:Value}
def Ev.of (nd:jA op = false) (tm:g = true->∀ a,kD K F a->∀ w,bS K L w->∀ dst pos af gd,Tm P (q9 K) K.E.fr (execOp a.eval ⟨dst,op,ty,pos,af,gd⟩))
    (h:g = true->∀ a,kD K F a->∀ w,bS K L w->∀ dst pos af gd,(execOp a.eval ⟨dst,op,ty,pos,af,gd⟩).run P w = .ok (.value v) w):Ev P K F L g op ty v :=
 λhg=>⟨nd,λa fo w I hn dst pos af gd=>(tm hg a fo w I dst pos af gd).at hn _ _ (h hg a fo w I dst pos af gd)⟩
def Ev.ofW (nd:jA op = false) (tm:g = true->∀ a,kD K F a->∀ w,bS K L w->∀ dst pos af gd,zP P (q9 K) K.E.fr (execOp a.eval ⟨dst,op,ty,pos,af,gd⟩) w)
    (h:g = true->∀ a,kD K F a->∀ w,bS K L w->∀ dst pos af gd,(execOp a.eval ⟨dst,op,ty,pos,af,gd⟩).run P w = .ok (.value v) w):Ev P K F L g op ty v :=
 λhg=>⟨nd,λa fo w I hn dst pos af gd=>tm hg a fo w I dst pos af gd hn _ _ (h hg a fo w I dst pos af gd)⟩
theorem K5 {v:Value} (hr:(execOp a.eval o).run P w = .ok (.value v) w') (ht:zP P (q9 K) K.E.fr (execOp a.eval o) w) (hn:cI w) (next:N (a.put o.dst v) w'):Om P K.E (q9 K) o a N w:=by
 refine cu ?_ _ _ (ht hn _ _ hr);rintro n w2 ⟨rfl,rfl⟩;exact next
theorem Gr (hr:(execOp a.eval o).run P w = .ok .skip w') (ht:zP P (q9 K) K.E.fr (execOp a.eval o) w) (hn:cI w) (next:N (a.put o.dst undef) w'):Om P K.E (q9 K) o a N w:=by
 refine cu ?_ _ _ (ht hn _ _ hr);rintro n w2 ⟨rfl,rfl⟩;exact next
def xL {v:Value} (hr:(execOp a.eval o).run P w = .ok (.value v) w') (ht:Tm P (q9 K) K.E.fr (execOp a.eval o)) (hn:cI w) (next:N (a.put o.dst v) w'):Om P K.E (q9 K) o a N w:=K5 hr ht.at hn next
def Sp (hr:(execOp a.eval o).run P w = .ok .skip w') (ht:Tm P (q9 K) K.E.fr (execOp a.eval o)) (hn:cI w) (next:N (a.put o.dst undef) w'):Om P K.E (q9 K) o a N w:=Gr hr ht.at hn next
theorem Ev.opx (h:Ev P K F L true op ty v) (fo:kD K F a) (I:bS K L w) (hn:cI w) (next:N (a.put dst v) w):Om P K.E (q9 K) ⟨dst,op,ty,pos,af,gd⟩ a N w :=
 cu (by rintro n w2 ⟨rfl,rfl⟩; exact next) _ _ ((h rfl).2 a fo w I hn _ _ _ _)
theorem Ev.yield (h:Ev P K F L g op ty v) (hg:g = true) (fo:kD K F a) (w:World) (I:bS K L w) (hn:cI w):(execOp a.eval ⟨dst,op,ty,pos,af,gd⟩).wpS P (q9 K) K.E.fr (λn v'=>n = .value v /\ v' = w) w :=
 (h hg).2 a fo w I hn _ _ _ _
theorem BF (h:Ev P K F L true op ty v) (next:Sat K N ((d,true,v) :: F) L) (hd:Nat.blt d K.n = true:=by rfl):Sat K (dw P K ops Q ⟨some d,op,ty,pos,af,none⟩ N) F L:=λa w G =>
 dI rfl (h rfl).1 λhn=>h.opx G.fo G.inv hn (next _ _ (G.put d true v v (by simp_all) rfl G.inv))
theorem Kg (hj:(ops[j]?).bind (·.dst) = some tg) (hg:look F tg = some (c1,.bool c2)) (G:kD K F a) :
 yielded ops a.tmps j = bif c1 then some c2 else none:=by
 have h1:=G.fr _ _ _ hg;unfold yielded;rw [hj];simp only [cQ,h1];cases c1 <;> rfl
theorem r6 (hgd:o.guard = some (j,want)) (hj:(ops[j]?).bind (·.dst) = some tg) (hg:look F tg = some (c1,.bool c2)) (G:kD K F a) :
 Region.wanted o (yielded ops a.tmps) = (c1 && (c2 == want)):=by
 unfold Region.wanted;rw [hgd];simp only [Kg hj hg G]
 grind
theorem opg (hj:(ops[j]?).bind (·.dst) = some tg) (hg:look F tg = some (c1,.bool c2))
 (h:Ev P K F L (c1 && (c2 == want)) op ty v) (next:Sat K N ((d,(c1 && (c2 == want)),v) :: F) L) (hd:Nat.blt d K.n = true:=by rfl) :
 Sat K (dw P K ops Q ⟨some d,op,ty,pos,af,some (j,want)⟩ N) F L:=λa w G=>by
 unfold dw;rw [r6 rfl hj hg G.fo];have hd':d < K.n:=by simpa [ir] using hd
 cases hc:(c1 && (c2 == want)) with
 | true =>
   rw [hc] at next h;exact ⟨.inl (h rfl).1,λhn=>h.opx G.fo G.inv hn (next _ _ (G.put d true v v hd' rfl G.inv))⟩
 | false =>
   rw [hc] at next;exact next _ _ (G.put d false v undef hd' rfl G.inv)
abbrev nk (P:Program) (K:Ctx) (ops:Array Oper) (Q:Exit->Act->World->Prop) (Lq:List du) (fuel:Nat) (listed:Array Bool):Act->World->Prop :=
 xz P K.E (q9 K) .any ops Q (λw=>bS K Lq w) fuel listed
theorem draw {id:Nat} {l:List Oper} (Lq:List du) (hm:P.follows .mixedOrders = true)
 (h:Sat K (nk P K l.toArray Q Lq l.toArray.size (Array.replicate l.toArray.size false)) F L):Sat K ((Code.region id l.toArray true).oV P K Q) F L:=λa w G =>
 Bi (S:=λw=>bS K Lq w) hm λv1 hg _=>h a _ ((G.tJ hg).world ((G.tJ hg).inv.grow (bf.drew _ _)))
def bS.GN:∀ v v1,bS K L v->df v v1->bS K L v1:=λ_ _ h hg=>h.grow (bf.eA hg)
theorem take (i:Nat) (hi:ops[i]? = some ⟨some d,op,ty,pos,af,none⟩) (hs:Region.noSelect ops = true)
 (hf:Region.free .any ops listed i = true) (hr:(Region.ready .any ops listed).contains i = true) (hL:Lq.Sublist L)
 (h:Ev P K F Lq true op ty v) (next:Sat K (nk P K ops Q Lq fuel (listed.setIfInBounds i true)) ((d,true,v) :: F) L) (hd:Nat.blt d K.n = true:=by rfl) :
 Sat K (nk P K ops Q Lq (fuel + 1) listed) F L:=λa w G=>by
 refine AD (x:=v) bS.GN hi hs hf hr (.inl ⟨by rfl,(h rfl).1,λw' hw' hn=>h.yield rfl G.fo w' hw' hn⟩) (G.inv.sub hL) ?_;exact next _ _ (G.put d true v v (by simp_all) rfl G.inv)
theorem aew (i:Nat) (hi:ops[i]? = some ⟨some d,op,ty,pos,af,some (j,want)⟩) (hs:Region.noSelect ops = true)
 (hf:Region.free .any ops listed i = true) (hr:(Region.ready .any ops listed).contains i = true) (hL:Lq.Sublist L)
 (hj:(ops[j]?).bind (·.dst) = some tg) (hg:look F tg = some (c1,.bool c2))
 (h:Ev P K F Lq (c1 && (c2 == want)) op ty v) (next:Sat K (nk P K ops Q Lq fuel (listed.setIfInBounds i true)) ((d,(c1 && (c2 == want)),v) :: F) L) (hd:Nat.blt d K.n = true:=by rfl) :
 Sat K (nk P K ops Q Lq (fuel + 1) listed) F L:=λa w G=>by
 have hw:=r6 (o:=⟨some d,op,ty,pos,af,some (j,want)⟩) rfl hj hg G.fo;have hd':d < K.n:=by simpa [ir] using hd
 cases hc:(c1 && (c2 == want)) with
 | true =>
   rw [hc] at hw;rw [hc] at next;refine AD (x:=v) bS.GN hi hs hf hr (.inl ⟨hw,(h hc).1,λw' hw' hn=>h.yield hc G.fo w' hw' hn⟩) (G.inv.sub hL) ?_;exact next _ _ (G.put d true v v hd' rfl G.inv)
 | false =>
   rw [hc] at hw;rw [hc] at next;refine AD (x:=undef) bS.GN hi hs hf hr (.inr ⟨hw,rfl⟩) (G.inv.sub hL) ?_;exact next _ _ (G.put d false v undef hd' rfl G.inv)
def IJ (P:Program) (K:Ctx) (ops:Array Oper) (Q:Exit->Act->World->Prop) (Lq:List du) (fuel:Nat) (listed:Array Bool) (a:Act) (w:World):Prop :=
 bS K Lq w /\ ∀ w2,df w w2->nk P K ops Q Lq fuel listed a w2
theorem To (hL:Lq.Sublist L) (h:Sat K (nk P K ops Q Lq fuel listed) F L):Sat K (IJ P K ops Q Lq fuel listed) F L :=
 λa w G=>⟨G.inv.sub hL,λw2 hg=>h a w2 (G.tJ hg)⟩
def Qz (K:Ctx) (F:Fr) (L:List du) (P:Program) (ops:Array Oper) (Q:Exit->Act->World->Prop) (Lq:List du) (fuel:Nat) (listed:Array Bool) (rs:List Nat):Prop :=
 ∀ i ∈ rs,∃ o,ops[i]? = some o /\ Sat K (dw P K ops Q o (IJ P K ops Q Lq fuel (listed.setIfInBounds i true))) F L
theorem Qz.nil:Qz K F L P ops Q Lq fuel listed []:=λ_ h=>absurd h aU
theorem Qz.cons {rs:List Nat} {o:Oper} (ho:ops[i]? = some o) (h:Sat K (dw P K ops Q o (IJ P K ops Q Lq fuel (listed.setIfInBounds i true))) F L)
 (hr:Qz K F L P ops Q Lq fuel listed rs):Qz K F L P ops Q Lq fuel listed (i :: rs):=λj hj=>by
 rcases aE.1 hj with rfl | hj
 ·grind
 ·exact hr j hj
theorem all (rs:List Nat) (hr:Region.ready .any ops listed = rs) (hne:rs ≠ [])
 (h:Qz K F L P ops Q Lq fuel listed rs):Sat K (nk P K ops Q Lq (fuel + 1) listed) F L:=λa w G=>by
 refine UN hr hne ?_;intro i hi;have⟨o,ho,hs⟩:=h i hi;refine ⟨o,ho,?_⟩;have h1:=hs a w G;unfold dw at h1;split at h1
 ·rename_i hw;refine .inl ⟨hw,h1.1,λv1 hg hn=>?_⟩;have h2:=hs a v1 (G.tJ hg);unfold dw at h2;rw [if_pos hw] at h2;exact h2.2 hn
 ·rename_i hw;exact .inr ⟨by grind,h1⟩
theorem over (hr:Region.ready .any ops listed = []) (h:Sat K (Q .normal) F L) :
 Sat K (nk P K ops Q Lq fuel listed) F L:=λa w G=>Qp hr (λv1 hg=>h a v1 (G.tJ hg)) fuel
def lM (F:Fr) (g:Bool):List Operand->List Value->Prop
 | [],vs=>vs = []
 | x :: xs,vs=>∃ v us,vs = v :: us /\ cV F g x v /\ lM F g xs us
theorem lM.nil:lM F g [] []:=rfl
theorem lM.cons {v:Value} {xs:List Operand} (h:cV F g x v) (hs:lM F g xs vs):lM F g (x :: xs) (v :: vs):=⟨v,vs,rfl,h,hs⟩
theorem lM.eval {g:Bool}:∀ {xs:List Operand} {vs:List Value},lM F g xs vs->g = true->∀ {a:Act},kD K F a->xs.map a.eval = vs
 | [],_,h,_,_,_=>by rw [show _ = [] from h]; rfl
 | x :: xs,vs,h,hg,a,G=>by
   obtain⟨v,us,rfl,h,hs⟩:=h;simp [h.eval hg G,lM.eval hs hg G]
structure dV (P:Program) (f:FuncId):Prop where
 fn:∃ fn,P.funcs[f]? = some fn /\ (fn.name == "runtime.NumGoroutine") = false /\ fn.body.isNone = false
theorem dV.mk' (h:(P.funcs[f]?).map (λfn=>(fn.name == "runtime.NumGoroutine",fn.body.isNone)) = some (false,false)):dV P f:=by
 cases hf:P.funcs[f]? with
 | none=>grind
 | some fn =>
   rw [hf] at h;simp only [cB,br,eU] at h;exact ⟨fn,hf,h.1,h.2⟩
theorem kS (h:dV P f) (args:Array Value) {fr:Nat} (w:World):(callFunc f args).wpS P pm fr (λn w'=>n = .enter f args /\ w' = w) w:=by
 have⟨fn,h1,h2,h3⟩:=h.fn;have h4:¬ (fn.name == "runtime.NumGoroutine") = true:=by rw [h2]; exact cL
 have h5:¬ fn.body.isNone = true:=by rw [h3]; exact cL
 refine cR _ _ _ ?_;show (match P.funcs[f]? with | none=>_ | some fn=>_:Sem Next).wpS P pm fr _ w;rw [h1];simp only [if_neg h4,if_neg h5]
 trivial
def Ret (w:World) (Φ:Value->World->Prop):ja:=⟨fX,λe w'=>∃ v,e = .returned v /\ bf fX w w' /\ Φ v w'⟩
def dO (w:World) (v:Value):ja:=⟨fX,λe w'=>e = .returned v /\ bf fX w w'⟩
theorem Ar (om:dV P f) (fQ:lM F g args vs) (hg:g = true) (G:kD K F a) {fr:Nat} (w:World) :
 (execOp a.eval ⟨dst,.call { callee:=.value (.func f),args:=args.toArray,argTypes:=qJ },ty,pos,af,gd⟩).wpS P pm fr (λn w'=>n = .enter f vs.toArray /\ w' = w) w:=by
 have h1:=fQ.eval hg G;have h2:=kS (P:=P) om (vs.toArray) (pm:=pm) (fr:=fr) w;have e:execOp a.eval ⟨dst,.call { callee:=.value (.func f),args:=args.toArray,argTypes:=qJ },ty,pos,af,gd⟩ = callFunc f vs.toArray:=by
  simp [execOp,resolve,Deferred.ofValue,invoke,Act.eval,h1]
 grind
def Calls.here {args:Array Value} (h:Calls P f args w R) (I:bS K L w) (hM:∀ b,R.M b->K.E.fr <= b):iQ K.E.X K.E.fr P f args w R:=h _ _ (az I.ok.1 I.keeps.size) hM
theorem bS.fr {r:du} {w:World} (I:bS K L w) (hm:r ∈ L):∀ b,r.c9 b->K.E.fr <= b:=λb hb=>((I.own r hm).2 b hb).1.elim (az I.ok.1) (I.ok.2 b)
theorem yE {o:Oper} (IK:o.dst = some d) (J:X->Prop) (val:X->Value) (Lx:X->List du) (G:Good K F L a w)
 (he:(execOp a.eval o).wpS P (q9 K) K.E.fr (λn w'=>n = .enter f vs.toArray /\ w' = w) w) (hC:iQ K.E.X K.E.fr P f vs.toArray w R) (hM:∀ b,R.M b->q9 K b)
 (hQ:∀ u w',R.Q (.returned u) w'->∃ x,J x /\ u = val x /\ bS K (Lx x) w')
 (next:∀ x,J x->Sat K N ((d,true,val x) :: F) (Lx x)) (hd:Nat.blt d K.n = true):Om P K.E (q9 K) o a N w:=by
 refine cu ?_ _ _ he;rintro n w' ⟨rfl,rfl⟩;refine ⟨R,hC,λb hb=>hb.elim (λh=>.inl (az G.inv.keeps.size h)) (hM b),λu w2 hq=>?_⟩;obtain⟨x,hJ,rfl,hI⟩:=hQ u w2 hq;rw [IK];exact next x hJ _ _ (G.put d true (val x) (val x) (by simp_all) rfl hI)
theorem zH (R:World->ja) (J:X->Prop) (val:X->Value) (Lx:X->List du) (om:dV P f) (fQ:lM F true args vs)
 (hC:∀ w,bS K L w->iQ K.E.X K.E.fr P f vs.toArray w (R w)) (hM:∀ w,bS K L w->∀ b,(R w).M b->q9 K b)
 (hQ:∀ w,bS K L w->∀ u w',(R w).Q (.returned u) w'->∃ x,J x /\ u = val x /\ bS K (Lx x) w')
 (next:∀ x,J x->Sat K N ((d,true,val x) :: F) (Lx x)) (hd:Nat.blt d K.n = true:=by rfl) :
 Sat K (dw P K ops Q ⟨some d,.call { callee:=.value (.func f),args:=args.toArray,argTypes:=qJ },ty,pos,af,none⟩ N) F L:=λa w G =>
 dI rfl rfl λ_=>yE rfl J val Lx G (Ar om fQ rfl G.fo w) (hC w G.inv) (hM w G.inv) (hQ w G.inv) next hd
theorem oA {v:Value} (I:bS K L w) (h:(dO w v).Q (.returned u) w'):u = v /\ bS K L w':=⟨by cases h.1; rfl,I.grow h.2⟩
def dg (om:dV P f) (fQ:lM F true args vs)
    (hC:∀ w,bS K L w->Calls P f vs.toArray w (dO w u)) (next:Sat K N ((d,true,u) :: F) L) (hd:Nat.blt d K.n = true:=by rfl) :
    Sat K (dw P K ops Q ⟨some d,.call { callee:=.value (.func f),args:=args.toArray,argTypes:=qJ },ty,pos,af,none⟩ N) F L :=
 zH (X:=Unit) (λw=>dO w u) (λ_=>True) (λ_=>u) (λ_=>L) om fQ (λw I=>(hC w I).here I λ_ h=>h.elim) (λ_ _ _ h=>h.elim)
  (λw I v w' q=>⟨(),trivial,(oA I q).1,(oA I q).2⟩) (λ_ _=>next) hd
theorem sT (hj:(ops[j]?).bind (·.dst) = some tg) (hg:look F tg = some (c1,.bool c2))
 (om:dV P f) (fQ:lM F (c1 && (c2 == want)) args vs)
 (hC:(c1 && (c2 == want)) = true->∀ w,bS K L w->Calls P f vs.toArray w (dO w u)) (next:Sat K N ((d,(c1 && (c2 == want)),u) :: F) L) (hd:Nat.blt d K.n = true:=by rfl) :
 Sat K (dw P K ops Q ⟨some d,.call { callee:=.value (.func f),args:=args.toArray,argTypes:=qJ },ty,pos,af,some (j,want)⟩ N) F L:=λa w G=>by
 unfold dw;rw [r6 rfl hj hg G.fo];have hd':d < K.n:=by simpa [ir] using hd
 cases hc:(c1 && (c2 == want)) with
 | true =>
   rw [hc] at next;exact ⟨.inl rfl,λ_=>yE (X:=Unit) rfl (λ_=>True) (λ_=>u) (λ_=>L) G (Ar om fQ hc G.fo w) ((hC hc w G.inv).here G.inv λ_ h=>h.elim) (λ_ h=>h.elim)
    (λv w' q=>⟨(),trivial,(oA G.inv q).1,(oA G.inv q).2⟩) (λ_ _=>next) hd⟩
 | false =>
   rw [hc] at next;exact next _ _ (G.put d false u undef hd' rfl G.inv)
def Qx (w w':World) (R:List du):Prop:=(∀ r ∈ R,r.A w' /\ ∀ b,r.c9 b->w.heap.size <= b /\ b < w'.heap.size) /\ R.Pairwise du.zT
theorem agU (J:Value->Prop) (R:Value->List du) (om:dV P f) (fQ:lM F true args vs)
 (hC:∀ w,bS K L w->Calls P f vs.toArray w (Ret w λv w'=>J v /\ Qx w w' (R v))) (next:∀ v,J v->Sat K N ((d,true,v) :: F) (R v ++ L)) (hd:Nat.blt d K.n = true:=by rfl) :
 Sat K (dw P K ops Q ⟨some d,.call { callee:=.value (.func f),args:=args.toArray,argTypes:=qJ },ty,pos,af,none⟩ N) F L :=
 zH (λw=>Ret w λv w'=>J v /\ Qx w w' (R v)) J (λv=>v) (λv=>R v ++ L) om fQ (λw I=>(hC w I).here I λ_ h=>h.elim) (λ_ _ _ h=>h.elim)
  (λw I u w' ⟨v,he,hk,hJ,hR⟩=>⟨v,hJ,by grind,I.acK hk hR.1 hR.2⟩) next hd
end
variable {fr:Nat}
theorem mH {a:du}:a ∈ a :: l:=by simp
theorem mT {a b:du} (h:a ∈ l):a ∈ b :: l:=by grind
theorem mA {a:du} {m:List du} (h:a ∈ m):a ∈ l ++ m:=by grind
theorem sR:l.Sublist l:=by simp
theorem sN:List.Sublist [] l:=by simp
theorem sC {a:du} {m:List du} (h:l.Sublist m):(a :: l).Sublist (a :: m):=by grind
theorem sS {a:du} {m:List du} (h:l.Sublist m):l.Sublist (a :: m):=by grind
theorem sA {m k:List du} (h:l.Sublist m):l.Sublist (k ++ m):=by grind
def U8 (x:UInt8):Value:=.int .u8 (x.toNat:Int)
def rX (x:UInt16):Value:=.int .u16 (x.toNat:Int)
def qZ (x:UInt32):Value:=.int .u32 (x.toNat:Int)
def fO (x:UInt64):Value:=.int .u64 (x.toNat:Int)
def I (n:Int):Value:=.int .i64 n
def B (b:Bool):Value:=.bool b
abbrev Fit (n:Int):Prop:=-9223372036854775808 <= n /\ n <= 9223372036854775807
theorem wrap_i64 {n:Int} (h:Fit n):IntKind.i64.wrap n = n:=by
 unfold IntKind.wrap IntKind.bits IntKind.signed
 grind
theorem wrap_u8 (n:Int):IntKind.u8.wrap n = n % 256:=by
 rfl
section
variable {P:Program} {K:Ctx} {F:Fr} {L:List du} {g:Bool} {x y:Operand} {ty t t':TypeId} {v u:Value}
theorem Ev.move (hx:cV F g x v):Ev P K F L g (.move x) ty v:=.of rfl (λ_ _ _ _ _ _ _ _ _=>.pure _) λhg a G w _ dst pos af gd=>by
 simp only [execOp,hx.eval hg G,aJ]
theorem Ev.assign (hx:cV F g x v):Ev P K F L g (.assign x) ty v:=.of rfl (λ_ _ _ _ _ _ _ _ _=>.pure _) λhg a G w _ dst pos af gd=>by
 simp only [execOp,hx.eval hg G,aJ]
theorem Ev.bin (hx:cV F g x u) (hy:cV F g y v) (hgd:∀ w,(eqGuard op t x y u v).run P w = .ok () w) (h:∀ w,(binOp op t u v).run P w = .ok r w)
 (tg:Tm P (q9 K) K.E.fr (eqGuard op t x y u v)) (tb:Tm P (q9 K) K.E.fr (binOp op t u v)) :
 Ev P K F L g (.binOp op t x y t') ty r:=.of rfl (λhg a G w hw _ _ _ _=>by
 show Tm P _ _ ((do eqGuard op t x y (a.eval x) (a.eval y); binOp op t (a.eval x) (a.eval y):Sem Value) >>= λr=>pure (Next.value r));rw [hx.eval hg G,hy.eval hg G];exact .bind (.bind tg λ_=>tb) λ_=>.pure _) λhg a G w _ dst pos af gd=>by
 simp only [execOp,hx.eval hg G,hy.eval hg G,ay,hgd,aj,h,aJ]
theorem j1 {n:Int} (w:World):(eqGuard op t x y (.int k m) (.int k' n)).run P w = .ok () w:=by
 cases op <;> rfl
theorem zx {m n:Bool} (w:World):(eqGuard op t x y (.bool m) (.bool n)).run P w = .ok () w:=by
 cases op <;> rfl
theorem wL {m n:ByteArray} (w:World):(eqGuard op t x y (.string m) (.string n)).run P w = .ok () w:=by
 cases op <;> rfl
section
variable {pm:Nat->Prop} {fr:Nat}
theorem ix {n:Int}:Tm P pm fr (eqGuard op t x y (.int k m) (.int k' n)):=by
 cases op <;> exact .pure _
theorem vw {m n:Bool}:Tm P pm fr (eqGuard op t x y (.bool m) (.bool n)):=by
 cases op <;> exact .pure _
theorem tA {m n:ByteArray}:Tm P pm fr (eqGuard op t x y (.string m) (.string n)):=by
 cases op <;> exact .pure _
theorem lg {n:Int}:Tm P pm fr (binOp op t (.int k m) (.int k' n)):=by
 have sh:∀ op,Tm P pm fr (Op.shift op k m k' n):=λop=>by
  unfold Op.shift;split
  ·exact .runtimePanic _
  ·cases op <;> first | exact .pure _ | exact .halt _
 have dv:∀ op,Tm P pm fr (Op.intDiv op k m n):=λop=>by
  unfold Op.intDiv;split
  ·exact .runtimePanic _
  ·cases op <;> first | exact .pure _ | exact .halt _
 have ar:∀ op,Tm P pm fr (Op.intArith op k m n):=λop=>by cases op <;> first | exact .pure _ | exact .halt _
 have bt:∀ op,Tm P pm fr (Op.intBits op k m n):=λop=>by cases op <;> first | exact .pure _ | exact .halt _
 have cm:∀ op,Tm P pm fr (Op.intCmp op m n):=λop=>by cases op <;> first | exact .pure _ | exact .halt _
 by_cases hk:k = k'
 ·subst hk;cases op <;> simp only [binOp,ne_eq,not_true_eq_false,cD] <;> first | exact sh _ | exact dv _ | exact ar _ | exact bt _ | exact cm _
 ·cases op <;> simp only [binOp,ne_eq,hk,jE,if_true] <;> first | exact sh _ | exact .halt _
end
theorem Ev.ly {n:Int} (hx:cV F g x (.int k m)) (hy:cV F g y (.int k n)) (h:∀ w,(binOp op t (.int k m) (.int k n)).run P w = .ok r w) :
 Ev P K F L g (.binOp op t x y t') ty r:=by grind [Ev.bin,j1,ix,lg]
theorem z6 {n:Int} (g9:op = .add \/ op = .sub \/ op = .mul) (w:World) :
 (binOp op t (.int k m) (.int k n)).run P w = .ok (.int k (k.wrap (match op with | .add=>m + n | .sub=>m - n | _=>m * n))) w:=by
 rcases g9 with rfl | rfl | rfl <;> simp [binOp,Op.intArith]
theorem pC {n:Int} (g9:op = .and \/ op = .or \/ op = .xor \/ op = .andNot) (w:World) :
 (binOp op t (.int k m) (.int k n)).run P w = .ok (.int k (k.wrap ((match op with
  | .and=>BitVec.ofInt k.bits m &&& BitVec.ofInt k.bits n | .or=>BitVec.ofInt k.bits m ||| BitVec.ofInt k.bits n
  | .xor=>BitVec.ofInt k.bits m ^^^ BitVec.ofInt k.bits n | _=>BitVec.ofInt k.bits m &&& ~~~ BitVec.ofInt k.bits n:BitVec k.bits).toNat:Int))) w:=by
 rcases g9 with rfl | rfl | rfl | rfl <;> simp [binOp,Op.intBits]
theorem jg {n:Int} (h:(Op.intCmp op m n) = pure (.bool b)) (g9:op = .eql \/ op = .neq \/ op = .lss \/ op = .leq \/ op = .gtr \/ op = .geq) (w:World) :
 (binOp op t (.int k m) (.int k n)).run P w = .ok (.bool b) w:=by
 rcases g9 with rfl | rfl | rfl | rfl | rfl | rfl <;> simp [binOp,h]
theorem F5 (hc:0 <= c) (w:World):(binOp .shl t (.int k m) (.int yk c)).run P w = .ok (.int k (k.wrap (m * 2 ^ (min c.toNat k.bits)))) w:=by
 simp [binOp,Op.shift]; omega
theorem yS (hc:0 <= c) (w:World):(binOp .shr t (.int k m) (.int yk c)).run P w = .ok (.int k (m.fdiv (2 ^ (min c.toNat k.bits)))) w:=by
 simp [binOp,Op.shift]; omega
theorem BA {n:Int} (g9:op = .quo \/ op = .rem) (hn:n ≠ 0) (w:World) :
 (binOp op t (.int k m) (.int k n)).run P w = .ok (.int k (match op with | .quo=>k.wrap (m.tdiv n) | _=>m.tmod n)) w:=by
 rcases g9 with rfl | rfl <;> simp [binOp,Op.intDiv,hn]
theorem Ev.lx {n:Int} (hx:cV F g x (I m)) (hy:cV F g y (I n)) (h:g = true->Fit (m + n)):Ev P K F L g (.binOp .add t x y t') ty (I (m + n)):=λhg =>
 Ev.ly hx hy (λw=>by rw [z6 (.inl rfl)]; simp only [wrap_i64 (h hg)]; rfl) hg
theorem Ev.uh {n:Int} (hx:cV F g x (I m)) (hy:cV F g y (I n)) (h:g = true->Fit (m - n)):Ev P K F L g (.binOp .sub t x y t') ty (I (m - n)):=λhg =>
 Ev.ly hx hy (λw=>by rw [z6 (.inr (.inl rfl))]; simp only [wrap_i64 (h hg)]; rfl) hg
theorem Ev.Nw {n:Int} (hx:cV F g x (I m)) (hy:cV F g y (I n)) (h:g = true->Fit (m * n)):Ev P K F L g (.binOp .mul t x y t') ty (I (m * n)):=λhg =>
 Ev.ly hx hy (λw=>by rw [z6 (.inr (.inr rfl))]; simp only [wrap_i64 (h hg)]; rfl) hg
theorem Ev.ae8 {n:Int} (hx:cV F g x (I m)) (hy:cV F g y (I n)) (hn:g = true->n ≠ 0) (h:g = true->Fit (m.tdiv n)):Ev P K F L g (.binOp .quo t x y t') ty (I (m.tdiv n)):=λhg =>
 Ev.ly hx hy (λw=>by rw [BA (.inl rfl) (hn hg)]; simp only [wrap_i64 (h hg)]; rfl) hg
theorem Ev.Zl {n:Int} (hx:cV F g x (I m)) (hy:cV F g y (I n)) (hn:g = true->n ≠ 0):Ev P K F L g (.binOp .rem t x y t') ty (I (m.tmod n)):=λhg =>
 Ev.ly hx hy (λw=>by rw [BA (.inr rfl) (hn hg)]; rfl) hg
theorem Ev.ae7 {n:Int} (hx:cV F g x (I m)) (hy:cV F g y (I n)) (hm:g = true->0 <= m) (ZP:g = true->m <= 9223372036854775807) (hn:g = true->0 < n):Ev P K F L g (.binOp .quo t x y t') ty (I (m / n)):=λhg=>by
 have h1:=hm hg;have h2:=ZP hg;have h3:=hn hg;have e:m.tdiv n = m / n:=by grind
 have h4:0 <= m / n:=Int.ediv_nonneg h1 (by omega);have h5:m / n <= m:=Int.ediv_le_self n h1;rw [<- e];exact Ev.ae8 hx hy (λ_=>by omega) (λ_=>by omega) hg
theorem Ev.aeZ {n:Int} (hx:cV F g x (I m)) (hy:cV F g y (I n)) (hm:g = true->0 <= m) (hn:g = true->0 < n):Ev P K F L g (.binOp .rem t x y t') ty (I (m % n)):=λhg=>by
 have h1:=hm hg;have h3:=hn hg;have e:m.tmod n = m % n:=by grind
 rw [<- e];exact Ev.Zl hx hy (λ_=>by omega) hg
theorem Ev.xS {n:Int} (hx:cV F g x (I m)) (hy:cV F g y (I n)):Ev P K F L g (.binOp .eql t x y t') ty (.bool (decide (m = n))) :=
 Ev.ly hx hy (jg (by rfl) (.inl rfl))
theorem Ev.AY {n:Int} (hx:cV F g x (I m)) (hy:cV F g y (I n)):Ev P K F L g (.binOp .neq t x y t') ty (.bool (decide (¬ m = n))) :=
 Ev.ly hx hy (jg (by show pure (Value.bool (!decide (m = n))) = _; simp) (.inr (.inl rfl)))
def Ev.rE {n:Int} (hx:cV F g x (I m)) (hy:cV F g y (I n)):Ev P K F L g (.binOp .lss t x y t') ty (.bool (decide (m < n))) :=
 Ev.ly hx hy (jg rfl (.inr (.inr (.inl rfl))))
def Ev.SX {n:Int} (hx:cV F g x (I m)) (hy:cV F g y (I n)):Ev P K F L g (.binOp .leq t x y t') ty (.bool (decide (m <= n))) :=
 Ev.ly hx hy (jg rfl (.inr (.inr (.inr (.inl rfl)))))
def Ev.A1 {n:Int} (hx:cV F g x (I m)) (hy:cV F g y (I n)):Ev P K F L g (.binOp .gtr t x y t') ty (.bool (decide (n < m))) :=
 Ev.ly hx hy (jg rfl (.inr (.inr (.inr (.inr (.inl rfl))))))
def Ev.Fq {n:Int} (hx:cV F g x (I m)) (hy:cV F g y (I n)):Ev P K F L g (.binOp .geq t x y t') ty (.bool (decide (n <= m))) :=
 Ev.ly hx hy (jg rfl (.inr (.inr (.inr (.inr (.inr rfl))))))
theorem Ev.Uw {m:Nat} {r:Nat} (g9:op = .and \/ op = .or \/ op = .xor) (hx:cV F g x (I m)) (hy:cV F g y (I n)) (hm:g = true->m < 2 ^ 63) (hn:g = true->n < 2 ^ 63)
 (hr:r = (match op with | .and=>m &&& n | .or=>m ||| n | _=>m ^^^ n)):Ev P K F L g (.binOp op t x y t') ty (I (r:Nat)):=λhg =>
 Ev.ly (m:=(m:Int)) (n:=(n:Int)) hx hy (λw=>by
  have h1:=hm hg;have h2:=hn hg;have e1:BitVec.ofInt 64 (m:Int) = BitVec.ofNat 64 m:=by simp
  have e2:BitVec.ofInt 64 (n:Int) = BitVec.ofNat 64 n:=by simp
  have l1:m % 2 ^ 64 = m:=by omega
  have l2:n % 2 ^ 64 = n:=by omega
  have b1:(m &&& n) < 2 ^ 63:=Nat.and_lt_two_pow _ h2;have b2:(m ||| n) < 2 ^ 63:=Nat.or_lt_two_pow h1 h2;have b3:(m ^^^ n) < 2 ^ 63:=Nat.xor_lt_two_pow h1 h2
  rcases g9 with rfl | rfl | rfl
  ·show Result.ok (Value.int .i64 (IntKind.i64.wrap (((BitVec.ofInt 64 (m:Int) &&& BitVec.ofInt 64 (n:Int):BitVec 64).toNat:Nat):Int))) w = _;rw [e1,e2,BitVec.toNat_and,ij,ij,l1,l2,wrap_i64 ⟨by omega,by omega⟩,hr]
   rfl
  ·show Result.ok (Value.int .i64 (IntKind.i64.wrap (((BitVec.ofInt 64 (m:Int) ||| BitVec.ofInt 64 (n:Int):BitVec 64).toNat:Nat):Int))) w = _;rw [e1,e2,BitVec.toNat_or,ij,ij,l1,l2,wrap_i64 ⟨by omega,by omega⟩,hr]
   rfl
  ·show Result.ok (Value.int .i64 (IntKind.i64.wrap (((BitVec.ofInt 64 (m:Int) ^^^ BitVec.ofInt 64 (n:Int):BitVec 64).toNat:Nat):Int))) w = _;rw [e1,e2,BitVec.toNat_xor,ij,ij,l1,l2,wrap_i64 ⟨by omega,by omega⟩,hr]
   rfl) hg
theorem Ev.aeD (hx:cV F g x (I m)) (hy:cV F g y (.int yk c)) (hc:g = true->0 <= c /\ c <= 64):Ev P K F L g (.binOp .shr t x y t') ty (I (m / 2 ^ c.toNat)):=λhg =>
 Ev.bin hx hy (λw=>j1 w) (λw=>by
  have h1:=hc hg;unfold I;rw [yS h1.1,kg (by show c.toNat <= 64; omega),fP _ (mb (nf (by decide)))]) ix lg hg
theorem Ev.not {b:Bool} (hx:cV F g x (.bool b)):Ev P K F L g (.unOp .not t x) ty (.bool !b):=.of rfl (λhg a G w hw _ _ _ _=>by
 show Tm P _ _ (Op.unary .not (a.eval x) >>= λr=>pure (Next.value r));rw [hx.eval hg G];exact .pure _) λhg a G w _ dst pos af gd=>by
 simp [execOp,hx.eval hg G,Op.unary]
theorem AS {c:Bool} (ht:P.underlying t = some .bool) (w:World):(Op.equal t (.bool b) (.bool c)).run P w = .ok (b == c) w:=by
 have hu:(underlying t).run P w = .ok .bool w:=by simp [underlying,ht]
 show (Op.equalIn (9999 + 1) t (.bool b) (.bool c)).run P w = _;unfold Op.equalIn;simp only [ay,hu,aj,aJ]
theorem Ce {c:Bool}:Tm P pm fr (Op.equal t (.bool b) (.bool c)):=by
 show Tm P pm fr (Op.equalIn (9999 + 1) t (.bool b) (.bool c));refine .bind (.underlying t) λd=>?_
 cases d <;> first | exact .pure _ | exact .halt _
theorem Ev.Z2 {c:Bool} (ht:P.underlying t = some .bool) (hx:cV F g x (.bool b)) (hy:cV F g y (.bool c)):Ev P K F L g (.binOp .eql t x y t') ty (.bool (decide (b = c))) :=
 Ev.bin hx hy (λw=>zx w) (λw=>by
  simp only [binOp,ay,AS ht,aj,aJ]
  rfl) vw (.bind Ce λ_=>.pure _)
theorem Ev.Zx {c:Bool} (ht:P.underlying t = some .bool) (hx:cV F g x (.bool b)) (hy:cV F g y (.bool c)):Ev P K F L g (.binOp .neq t x y t') ty (.bool (decide (¬ b = c))) :=
 Ev.bin hx hy (λw=>zx w) (λw=>by
  grind [binOp,Sem.run_bind,AS,Result.andThen_ok,Sem.run_pure]) vw (.bind Ce λ_=>.pure _)
theorem Ev.afj {c:Bool} (hx:cV F g x (.bool b)) (hy:∀ {s},y = .tmp s->look F s = some (gz,.bool c)) (hys:∃ s,y = .tmp s) (hgz:g = true->b = true->gz = true) (hz:cV F g z (.bool false)) :
 Ev P K F L g (.pick x y z) ty (.bool (b && c)):=.of rfl (λhg a G w hw _ _ _ _=>.bind (.asBool _) λ_=>.pure _) λhg a G w _ dst pos af gd=>by
 simp only [execOp,hx.eval hg G,asBool,ay,aJ,aj];obtain⟨s,rfl⟩:=hys;cases b with
 | false=>simp [hz.eval hg G]
 | true =>
   have h1:=G.fr _ _ _ (hy rfl);rw [hgz hg rfl] at h1;simp [Act.eval,h1]
theorem Ev.afi {c:Bool} (hx:cV F g x (.bool b)) (hy:cV F g y (.bool true)) (hz:∀ {s},z = .tmp s->look F s = some (gz,.bool c)) (Vt:∃ s,z = .tmp s) (hgz:g = true->b = false->gz = true) :
 Ev P K F L g (.pick x y z) ty (.bool (b || c)):=.of rfl (λhg a G w hw _ _ _ _=>.bind (.asBool _) λ_=>.pure _) λhg a G w _ dst pos af gd=>by
 simp only [execOp,hx.eval hg G,asBool,ay,aJ,aj];obtain⟨s,rfl⟩:=Vt;cases b with
 | true=>simp [hy.eval hg G]
 | false =>
   have h1:=G.fr _ _ _ (hz rfl);rw [hgz hg rfl] at h1;simp [Act.eval,h1]
theorem JD (m:UInt8):BitVec.ofInt 8 (m.toNat:Int) = m.toBitVec:=by
 simp
theorem zL (r:BitVec 8):IntKind.u8.wrap (r.toNat:Int) = ((UInt8.ofBitVec r).toNat:Int):=by
 rw [wrap_u8];simp; omega
theorem Ev.UO {m n:UInt8} (hx:cV F g x (U8 m)) (hy:cV F g y (U8 n)):Ev P K F L g (.binOp .and t x y t') ty (U8 (m &&& n)) :=
 Ev.ly hx hy (λw=>by rw [pC (.inl rfl)]; simp only [IntKind.bits,JD,zL,U8]; rfl)
theorem Ev.EW {m n:UInt8} (hx:cV F g x (U8 m)) (hy:cV F g y (U8 n)):Ev P K F L g (.binOp .or t x y t') ty (U8 (m ||| n)) :=
 Ev.ly hx hy (λw=>by rw [pC (.inr (.inl rfl))]; simp only [IntKind.bits,JD,zL,U8]; rfl)
theorem Ev.aao {m n:UInt8} (hx:cV F g x (U8 m)) (hy:cV F g y (U8 n)):Ev P K F L g (.binOp .xor t x y t') ty (U8 (m ^^^ n)) :=
 Ev.ly hx hy (λw=>by rw [pC (.inr (.inr (.inl rfl)))]; simp only [IntKind.bits,JD,zL,U8]; rfl)
theorem Ev.FL {m n:UInt8} (hx:cV F g x (U8 m)) (hy:cV F g y (U8 n)):Ev P K F L g (.binOp .andNot t x y t') ty (U8 (m &&& ~~~ n)) :=
 Ev.ly hx hy (λw=>by rw [pC (.inr (.inr (.inr rfl)))]; simp only [IntKind.bits,JD,zL,U8]; rfl)
def Wh (m:UInt8) (c:Nat):UInt8:=UInt8.ofNat (m.toNat * 2 ^ c)
def vI (m:UInt8) (c:Nat):UInt8:=UInt8.ofNat (m.toNat / 2 ^ c)
theorem Ko (m:UInt8) (c:Nat):(Wh m c).toNat = m.toNat * 2 ^ c % 256:=by rfl
theorem x7 (m:UInt8) (c:Nat):(vI m c).toNat = m.toNat / 2 ^ c:=by
 have h:=m.toNat_lt;have h2:=kh m.toNat (2 ^ c);unfold vI;simp; omega
theorem Ev.aaJ {m:UInt8} (hx:cV F g x (U8 m)) (hy:cV F g y (.int yk c)) (hc:g = true->0 <= c):Ev P K F L g (.binOp .shl t x y t') ty (U8 (Wh m c.toNat)):=λhg =>
 Ev.bin hx hy (λw=>j1 w) (λw=>by
  unfold U8;rw [F5 (hc hg),wrap_u8,Ko]
  congr 2
  show (m.toNat:Int) * 2 ^ (min c.toNat 8) % 256 = _;have e:((m.toNat * 2 ^ c.toNat % 256:Nat):Int) = (m.toNat:Int) * 2 ^ c.toNat % 256:=by simp
  rw [e]
  rcases jd c.toNat 8 with h | h
  ·grind
  ·rw [fH h]
   grind [Nat.exists_eq_add_of_le,Int.pow_add,Int.mul_assoc,Int.mul_comm]) ix lg hg
theorem G8 (m n:UInt8):((m.toNat:Int) = n.toNat) ↔ m = n:=by grind [UInt8.toNat_inj]
theorem Ev.Au {m n:UInt8} (hx:cV F g x (U8 m)) (hy:cV F g y (U8 n)):Ev P K F L g (.binOp .eql t x y t') ty (.bool (decide (m = n))) :=
 Ev.ly hx hy (jg (by show pure (Value.bool (decide ((m.toNat:Int) = n.toNat))) = _; simp only [G8]) (.inl rfl))
theorem Ev.we {m n:UInt8} (hx:cV F g x (U8 m)) (hy:cV F g y (U8 n)):Ev P K F L g (.binOp .neq t x y t') ty (.bool (decide (¬ m = n))) :=
 Ev.ly hx hy (jg (by show pure (Value.bool (!decide ((m.toNat:Int) = n.toNat))) = _; simp [G8]) (.inr (.inl rfl)))
theorem Dw (m n:UInt16):((m.toNat:Int) = n.toNat) ↔ m = n:=by grind [UInt16.toNat_inj]
theorem Ev.BH {m n:UInt16} (hx:cV F g x (rX m)) (hy:cV F g y (rX n)):Ev P K F L g (.binOp .neq t x y t') ty (.bool (decide (¬ m = n))) :=
 Ev.ly hx hy (jg (by show pure (Value.bool (!decide ((m.toNat:Int) = n.toNat))) = _; simp [Dw]) (.inr (.inl rfl)))
theorem Ev.BQ {m n:UInt16} (hx:cV F g x (rX m)) (hy:cV F g y (rX n)):Ev P K F L g (.binOp .gtr t x y t') ty (.bool (decide (n < m))) :=
 Ev.ly hx hy (jg (by simp [Op.intCmp,UInt16.lt_iff_toNat_lt]) (.inr (.inr (.inr (.inr (.inl rfl))))))
theorem Um (m n:UInt32):((m.toNat:Int) = n.toNat) ↔ m = n:=by grind [UInt32.toNat_inj]
theorem Ev.Xa {m n:UInt32} (hx:cV F g x (qZ m)) (hy:cV F g y (qZ n)):Ev P K F L g (.binOp .neq t x y t') ty (.bool (decide (¬ m = n))) :=
 Ev.ly hx hy (jg (by show pure (Value.bool (!decide ((m.toNat:Int) = n.toNat))) = _; simp [Um]) (.inr (.inl rfl)))
theorem Ev.XK {m n:UInt32} (hx:cV F g x (qZ m)) (hy:cV F g y (qZ n)):Ev P K F L g (.binOp .gtr t x y t') ty (.bool (decide (n < m))) :=
 Ev.ly hx hy (jg (by simp [Op.intCmp,kE]) (.inr (.inr (.inr (.inr (.inl rfl))))))
def tC (m:UInt64) (c:Nat):UInt64:=UInt64.ofNat (m.toNat * 2 ^ c)
theorem Jy (m n:UInt64):((m.toNat:Int) = n.toNat) ↔ m = n:=by grind [UInt64.toNat_inj]
theorem Ev.y4 {m n:UInt64} (hx:cV F g x (fO m)) (hy:cV F g y (fO n)):Ev P K F L g (.binOp .lss t x y t') ty (.bool (decide (m < n))) :=
 Ev.ly hx hy (jg (by simp [Op.intCmp,bZ,Int.ofNat_lt]) (.inr (.inr (.inl rfl))))
theorem Ev.vc {m n:UInt64} (hx:cV F g x (fO m)) (hy:cV F g y (fO n)):Ev P K F L g (.binOp .gtr t x y t') ty (.bool (decide (n < m))) :=
 Ev.ly hx hy (jg (by simp [Op.intCmp,bZ]) (.inr (.inr (.inr (.inr (.inl rfl))))))
theorem Ev.conv (ht:P.underlying t' = some (.int k')) (uc:P.underlying t = some (.int k)) (hx:cV F g x (.int k m)) (hr:r = .int k' (k'.wrap m)):Ev P K F L g (.convert t t' x) ty r:=.of rfl (λhg a G w hw _ _ _ _=>by
 show Tm P _ _ (convert t t' (a.eval x) >>= λr=>pure (Next.value r));rw [hx.eval hg G];refine .bind ?_ λ_=>.pure _
 exact .under uc (.under ht (.pure _))) λhg a G w _ dst pos af gd=>by
 have h1:(underlying t).run P w = .ok (.int k) w:=by simp [underlying,uc]
 have h2:(underlying t').run P w = .ok (.int k') w:=by simp [underlying,ht]
 simp only [execOp,hx.eval hg G,convert,ay,h1,h2,aj,Conv.intToInt,aJ,hr]
theorem Ev.Fy {m:UInt8} (ht:P.underlying t' = some (.int .i64)) (uc:P.underlying t = some (.int .u8)) (hx:cV F g x (U8 m)):Ev P K F L g (.convert t t' x) ty (I (m.toNat:Int)) :=
 Ev.conv ht uc hx (by have h:=m.toNat_lt; rw [wrap_i64 ⟨by omega,by omega⟩]; rfl)
theorem Ev.sP {m:UInt16} (ht:P.underlying t' = some (.int .i64)) (uc:P.underlying t = some (.int .u16)) (hx:cV F g x (rX m)):Ev P K F L g (.convert t t' x) ty (I (m.toNat:Int)) :=
 Ev.conv ht uc hx (by have h:=m.toNat_lt; rw [wrap_i64 ⟨by omega,by omega⟩]; rfl)
theorem wrap_u16 (n:Int):IntKind.u16.wrap n = n % 65536:=by
 rfl
theorem wrap_u32 (n:Int):IntKind.u32.wrap n = n % 4294967296:=by
 rfl
theorem wrap_u64 (n:Int):IntKind.u64.wrap n = n % 18446744073709551616:=by
 rfl
theorem Ev.acL {m n:UInt8} (hx:cV F g x (U8 m)) (hy:cV F g y (U8 n)):Ev P K F L g (.binOp .add t x y t') ty (U8 (m + n)) :=
 Ev.ly hx hy (λw=>by rfl)
theorem Ev.Uf {m:UInt8} (hx:cV F g x (U8 m)):Ev P K F L g (.unOp .xor t x) ty (U8 (~~~ m)):=.of rfl (λhg a G w hw _ _ _ _=>by
 show Tm P _ _ (Op.unary .xor (a.eval x) >>= λr=>pure (Next.value r));rw [hx.eval hg G];exact .bind (.pure _) λ_=>.pure _) λhg a G w _ dst pos af gd=>by
 have e:BitVec.ofInt 8 (IntKind.u8.max) = BitVec.allOnes 8:=by decide
 have e2:∀ (m:UInt8),BitVec.allOnes 8 ^^^ m.toBitVec = (~~~ m).toBitVec:=λm=>by rw [mq]; rfl
 simp only [execOp,hx.eval hg G,Op.unary,U8,Op.intBits,IntKind.signed,IntKind.bits,e,JD,zL,e2,ay,aJ,aj,aI,cD]
 rfl
theorem Ev.aaI {m:UInt8} (hx:cV F g x (U8 m)) (hy:cV F g y (.int yk c)) (hc:g = true->0 <= c):Ev P K F L g (.binOp .shr t x y t') ty (U8 (vI m c.toNat)):=λhg =>
 Ev.bin hx hy (λw=>j1 w) (λw=>by
  unfold U8;rw [yS (hc hg),x7]
  congr 2
  show (m.toNat:Int).fdiv (2 ^ (min c.toNat 8)) = _;rw [fP _ (mb (nf (by decide)))];have e:((m.toNat / 2 ^ c.toNat:Nat):Int) = (m.toNat:Int) / 2 ^ c.toNat:=by simp
  rw [e]
  rcases jd c.toNat 8 with h | h
  ·grind
  ·rw [fH h];have h1:=m.toNat_lt;have h2:(2:Int) ^ 8 <= 2 ^ c.toNat:=by
    have:=jL (n:=2) (by decide) h
    exact_mod_cast this
   rw [dW (by omega) (by omega),dW (by omega) (by omega)]) ix lg hg
theorem acA (m:UInt16):BitVec.ofInt 16 (m.toNat:Int) = m.toBitVec:=by
 simp
theorem UC (r:BitVec 16):IntKind.u16.wrap (r.toNat:Int) = ((UInt16.ofBitVec r).toNat:Int):=by
 rw [wrap_u16];simp; omega
theorem Ev.FB {m:UInt16} (hx:cV F g x (rX m)):Ev P K F L g (.unOp .xor t x) ty (rX (~~~ m)):=.of rfl (λhg a G w hw _ _ _ _=>by
 show Tm P _ _ (Op.unary .xor (a.eval x) >>= λr=>pure (Next.value r));rw [hx.eval hg G];exact .bind (.pure _) λ_=>.pure _) λhg a G w _ dst pos af gd=>by
 have e:BitVec.ofInt 16 (IntKind.u16.max) = BitVec.allOnes 16:=by decide
 have e2:∀ (m:UInt16),BitVec.allOnes 16 ^^^ m.toBitVec = (~~~ m).toBitVec:=λm=>by rw [mq]; rfl
 simp only [execOp,hx.eval hg G,Op.unary,rX,Op.intBits,IntKind.signed,IntKind.bits,e,acA,UC,e2,ay,aJ,aj,aI,cD]
 rfl
def EH (m:UInt16) (c:Nat):UInt16:=UInt16.ofNat (m.toNat / 2 ^ c)
theorem HD (m:UInt16) (c:Nat):(EH m c).toNat = m.toNat / 2 ^ c:=by
 have h:=m.toNat_lt;have h2:=kh m.toNat (2 ^ c);unfold EH;simp; omega
theorem Ev.Wc {m:UInt16} (hx:cV F g x (rX m)) (hy:cV F g y (.int yk c)) (hc:g = true->0 <= c):Ev P K F L g (.binOp .shr t x y t') ty (rX (EH m c.toNat)):=λhg =>
 Ev.bin hx hy (λw=>j1 w) (λw=>by
  unfold rX;rw [yS (hc hg),HD]
  congr 2
  show (m.toNat:Int).fdiv (2 ^ (min c.toNat 16)) = _;rw [fP _ (mb (nf (by decide)))];have e:((m.toNat / 2 ^ c.toNat:Nat):Int) = (m.toNat:Int) / 2 ^ c.toNat:=by simp
  rw [e]
  rcases jd c.toNat 16 with h | h
  ·grind
  ·rw [fH h];have h1:=m.toNat_lt;have h2:(2:Int) ^ 16 <= 2 ^ c.toNat:=by
    have:=jL (n:=2) (by decide) h
    exact_mod_cast this
   rw [dW (by omega) (by omega),dW (by omega) (by omega)]) ix lg hg
theorem Ev.Ya {m n:UInt16} (hx:cV F g x (rX m)) (hy:cV F g y (rX n)):Ev P K F L g (.binOp .eql t x y t') ty (.bool (decide (m = n))) :=
 Ev.ly hx hy (jg (by show pure (Value.bool (decide ((m.toNat:Int) = n.toNat))) = _; simp only [Dw]) (.inl rfl))
theorem Mk (m:UInt32):BitVec.ofInt 32 (m.toNat:Int) = m.toBitVec:=by
 simp
theorem DC (r:BitVec 32):IntKind.u32.wrap (r.toNat:Int) = ((UInt32.ofBitVec r).toNat:Int):=by
 rw [wrap_u32];simp; omega
theorem Ev.YC {m n:UInt32} (hx:cV F g x (qZ m)) (hy:cV F g y (qZ n)):Ev P K F L g (.binOp .and t x y t') ty (qZ (m &&& n)) :=
 Ev.ly hx hy (λw=>by rw [pC (.inl rfl)]; simp only [IntKind.bits,Mk,DC,qZ]; rfl)
theorem Ev.Sm {m n:UInt32} (hx:cV F g x (qZ m)) (hy:cV F g y (qZ n)):Ev P K F L g (.binOp .or t x y t') ty (qZ (m ||| n)) :=
 Ev.ly hx hy (λw=>by rw [pC (.inr (.inl rfl))]; simp only [IntKind.bits,Mk,DC,qZ]; rfl)
theorem Ev.P7 {m:UInt32} (hx:cV F g x (qZ m)):Ev P K F L g (.unOp .xor t x) ty (qZ (~~~ m)):=.of rfl (λhg a G w hw _ _ _ _=>by
 show Tm P _ _ (Op.unary .xor (a.eval x) >>= λr=>pure (Next.value r));rw [hx.eval hg G];exact .bind (.pure _) λ_=>.pure _) λhg a G w _ dst pos af gd=>by
 have e:BitVec.ofInt 32 (IntKind.u32.max) = BitVec.allOnes 32:=by decide
 have e2:∀ (m:UInt32),BitVec.allOnes 32 ^^^ m.toBitVec = (~~~ m).toBitVec:=λm=>by rw [mq]; rfl
 simp only [execOp,hx.eval hg G,Op.unary,qZ,Op.intBits,IntKind.signed,IntKind.bits,e,Mk,DC,e2,ay,aJ,aj,aI,cD]
 rfl
def xG (m:UInt32) (c:Nat):UInt32:=UInt32.ofNat (m.toNat * 2 ^ c)
def EG (m:UInt32) (c:Nat):UInt32:=UInt32.ofNat (m.toNat / 2 ^ c)
theorem AM (m:UInt32) (c:Nat):(xG m c).toNat = m.toNat * 2 ^ c % 4294967296:=by rfl
theorem HC (m:UInt32) (c:Nat):(EG m c).toNat = m.toNat / 2 ^ c:=by
 have h:=m.toNat_lt;have h2:=kh m.toNat (2 ^ c);unfold EG;simp; omega
theorem Ev.We {m:UInt32} (hx:cV F g x (qZ m)) (hy:cV F g y (.int yk c)) (hc:g = true->0 <= c):Ev P K F L g (.binOp .shl t x y t') ty (qZ (xG m c.toNat)):=λhg =>
 Ev.bin hx hy (λw=>j1 w) (λw=>by
  unfold qZ;rw [F5 (hc hg),wrap_u32,AM]
  congr 2
  show (m.toNat:Int) * 2 ^ (min c.toNat 32) % 4294967296 = _;have e:((m.toNat * 2 ^ c.toNat % 4294967296:Nat):Int) = (m.toNat:Int) * 2 ^ c.toNat % 4294967296:=by simp
  rw [e]
  rcases jd c.toNat 32 with h | h
  ·grind
  ·rw [fH h]
   grind [Nat.exists_eq_add_of_le,Int.pow_add,Int.mul_assoc,Int.mul_comm]) ix lg hg
theorem Ev.Wb {m:UInt32} (hx:cV F g x (qZ m)) (hy:cV F g y (.int yk c)) (hc:g = true->0 <= c):Ev P K F L g (.binOp .shr t x y t') ty (qZ (EG m c.toNat)):=λhg =>
 Ev.bin hx hy (λw=>j1 w) (λw=>by
  unfold qZ;rw [yS (hc hg),HC]
  congr 2
  show (m.toNat:Int).fdiv (2 ^ (min c.toNat 32)) = _;rw [fP _ (mb (nf (by decide)))];have e:((m.toNat / 2 ^ c.toNat:Nat):Int) = (m.toNat:Int) / 2 ^ c.toNat:=by simp
  rw [e]
  rcases jd c.toNat 32 with h | h
  ·grind
  ·rw [fH h];have h1:=m.toNat_lt;have h2:(2:Int) ^ 32 <= 2 ^ c.toNat:=by
    have:=jL (n:=2) (by decide) h
    exact_mod_cast this
   rw [dW (by omega) (by omega),dW (by omega) (by omega)]) ix lg hg
theorem Ev.vh {m n:UInt64} (hx:cV F g x (fO m)) (hy:cV F g y (fO n)):Ev P K F L g (.binOp .add t x y t') ty (fO (m + n)) :=
 Ev.ly hx hy (λw=>by rfl)
theorem Ev.Xc {m n:UInt64} (hx:cV F g x (fO m)) (hy:cV F g y (fO n)):Ev P K F L g (.binOp .mul t x y t') ty (fO (m * n)) :=
 Ev.ly hx hy (λw=>by rfl)
theorem Mj (m:UInt64):BitVec.ofInt 64 (m.toNat:Int) = m.toBitVec:=by
 simp
theorem Dz (r:BitVec 64):IntKind.u64.wrap (r.toNat:Int) = ((UInt64.ofBitVec r).toNat:Int):=by
 rw [wrap_u64];simp; omega
theorem Ev.BV {m n:UInt64} (hx:cV F g x (fO m)) (hy:cV F g y (fO n)):Ev P K F L g (.binOp .and t x y t') ty (fO (m &&& n)) :=
 Ev.ly hx hy (λw=>by rw [pC (.inl rfl)]; simp only [IntKind.bits,Mj,Dz,fO]; rfl)
theorem Ev.Gq {m n:UInt64} (hx:cV F g x (fO m)) (hy:cV F g y (fO n)):Ev P K F L g (.binOp .or t x y t') ty (fO (m ||| n)) :=
 Ev.ly hx hy (λw=>by rw [pC (.inr (.inl rfl))]; simp only [IntKind.bits,Mj,Dz,fO]; rfl)
theorem Ev.VO {m n:UInt64} (hx:cV F g x (fO m)) (hy:cV F g y (fO n)):Ev P K F L g (.binOp .xor t x y t') ty (fO (m ^^^ n)) :=
 Ev.ly hx hy (λw=>by rw [pC (.inr (.inr (.inl rfl)))]; simp only [IntKind.bits,Mj,Dz,fO]; rfl)
def jV (m:UInt64) (c:Nat):UInt64:=UInt64.ofNat (m.toNat / 2 ^ c)
theorem qL (m:UInt64) (c:Nat):(tC m c).toNat = m.toNat * 2 ^ c % 18446744073709551616:=by rfl
theorem fc (m:UInt64) (c:Nat):(jV m c).toNat = m.toNat / 2 ^ c:=by
 have h:=m.toNat_lt;have h2:=kh m.toNat (2 ^ c);unfold jV;simp; omega
theorem Ev.F2 {m:UInt64} (hx:cV F g x (fO m)) (hy:cV F g y (.int yk c)) (hc:g = true->0 <= c):Ev P K F L g (.binOp .shl t x y t') ty (fO (tC m c.toNat)):=λhg =>
 Ev.bin hx hy (λw=>j1 w) (λw=>by
  unfold fO;rw [F5 (hc hg),wrap_u64,qL]
  congr 2
  show (m.toNat:Int) * 2 ^ (min c.toNat 64) % 18446744073709551616 = _;have e:((m.toNat * 2 ^ c.toNat % 18446744073709551616:Nat):Int) = (m.toNat:Int) * 2 ^ c.toNat % 18446744073709551616:=by simp
  rw [e]
  rcases jd c.toNat 64 with h | h
  ·grind
  ·rw [fH h]
   grind [Nat.exists_eq_add_of_le,Int.pow_add,Int.mul_assoc,Int.mul_comm]) ix lg hg
theorem Ev.M3 {m:UInt64} (hx:cV F g x (fO m)) (hy:cV F g y (.int yk c)) (hc:g = true->0 <= c):Ev P K F L g (.binOp .shr t x y t') ty (fO (jV m c.toNat)):=λhg =>
 Ev.bin hx hy (λw=>j1 w) (λw=>by
  unfold fO;rw [yS (hc hg),fc]
  congr 2
  show (m.toNat:Int).fdiv (2 ^ (min c.toNat 64)) = _;rw [fP _ (mb (nf (by decide)))];have e:((m.toNat / 2 ^ c.toNat:Nat):Int) = (m.toNat:Int) / 2 ^ c.toNat:=by simp
  rw [e]
  rcases jd c.toNat 64 with h | h
  ·grind
  ·rw [fH h];have h1:=m.toNat_lt;have h2:(2:Int) ^ 64 <= 2 ^ c.toNat:=by
    have:=jL (n:=2) (by decide) h
    exact_mod_cast this
   rw [dW (by omega) (by omega),dW (by omega) (by omega)]) ix lg hg
theorem Ev.F8 {m n:UInt64} (hx:cV F g x (fO m)) (hy:cV F g y (fO n)) (hn:g = true->n ≠ 0):Ev P K F L g (.binOp .rem t x y t') ty (fO (m % n)):=λhg =>
 Ev.ly hx hy (λw=>by
  have h0:(n.toNat:Int) ≠ 0:=λh=>hn hg (by apply cC.1; simpa using h)
  rw [BA (.inr rfl) h0]
  rfl) hg
theorem Ev.qG {m n:UInt64} (hx:cV F g x (fO m)) (hy:cV F g y (fO n)):Ev P K F L g (.binOp .eql t x y t') ty (.bool (decide (m = n))) :=
 Ev.ly hx hy (jg (by show pure (Value.bool (decide ((m.toNat:Int) = n.toNat))) = _; simp only [Jy]) (.inl rfl))
theorem Ev.W9 {m n:UInt64} (hx:cV F g x (fO m)) (hy:cV F g y (fO n)):Ev P K F L g (.binOp .neq t x y t') ty (.bool (decide (¬ m = n))) :=
 Ev.ly hx hy (jg (by show pure (Value.bool (!decide ((m.toNat:Int) = n.toNat))) = _; simp [Jy]) (.inr (.inl rfl)))
theorem Ev.XU {m n:UInt64} (hx:cV F g x (fO m)) (hy:cV F g y (fO n)):Ev P K F L g (.binOp .geq t x y t') ty (.bool (decide (n <= m))) :=
 Ev.ly hx hy (jg (by simp [Op.intCmp,fR]) (.inr (.inr (.inr (.inr (.inr rfl))))))
theorem Ev.Jm {m:UInt8} (ht:P.underlying t' = some (.int .u32)) (uc:P.underlying t = some (.int .u8)) (hx:cV F g x (U8 m)):Ev P K F L g (.convert t t' x) ty (qZ (m.toUInt32)) :=
 Ev.conv ht uc hx (by
  have h:=m.toNat_lt
  grind [wrap_u32,qZ,UInt8.toNat_toUInt32])
theorem Ev.qW {m:UInt8} (ht:P.underlying t' = some (.int .u64)) (uc:P.underlying t = some (.int .u8)) (hx:cV F g x (U8 m)):Ev P K F L g (.convert t t' x) ty (fO (m.toUInt64)) :=
 Ev.conv ht uc hx (by
  have h:=m.toNat_lt
  grind [wrap_u64,fO,UInt8.toNat_toUInt64])
theorem Ev.P5 (ht:P.underlying t' = some (.int .u8)) (uc:P.underlying t = some (.int .i64)) (hx:cV F g x (I m)):Ev P K F L g (.convert t t' x) ty (U8 (UInt8.ofInt m)) :=
 Ev.conv ht uc hx (by rw [wrap_u8]; unfold U8; simp [UInt8.ofInt]; omega)
theorem Ev.A9 {m:UInt16} (ht:P.underlying t' = some (.int .u8)) (uc:P.underlying t = some (.int .u16)) (hx:cV F g x (rX m)):Ev P K F L g (.convert t t' x) ty (U8 (m.toUInt8)) :=
 Ev.conv ht uc hx (by
  rfl)
theorem Ev.G7 {m:UInt16} (ht:P.underlying t' = some (.int .u32)) (uc:P.underlying t = some (.int .u16)) (hx:cV F g x (rX m)):Ev P K F L g (.convert t t' x) ty (qZ (m.toUInt32)) :=
 Ev.conv ht uc hx (by
  have h:=m.toNat_lt
  grind [wrap_u32,qZ,UInt16.toNat_toUInt32])
theorem Ev.zE {m:UInt16} (ht:P.underlying t' = some (.int .u64)) (uc:P.underlying t = some (.int .u16)) (hx:cV F g x (rX m)):Ev P K F L g (.convert t t' x) ty (fO (m.toUInt64)) :=
 Ev.conv ht uc hx (by
  have h:=m.toNat_lt
  grind [wrap_u64,fO,UInt16.toNat_toUInt64])
theorem Ev.yB (ht:P.underlying t' = some (.int .u16)) (uc:P.underlying t = some (.int .i64)) (hx:cV F g x (I m)):Ev P K F L g (.convert t t' x) ty (rX (UInt16.ofInt m)) :=
 Ev.conv ht uc hx (by rw [wrap_u16]; unfold rX; simp [UInt16.ofInt]; omega)
theorem Ev.Jp {m:UInt32} (ht:P.underlying t' = some (.int .u8)) (uc:P.underlying t = some (.int .u32)) (hx:cV F g x (qZ m)):Ev P K F L g (.convert t t' x) ty (U8 (m.toUInt8)) :=
 Ev.conv ht uc hx (by
  rfl)
theorem Ev.G6 {m:UInt32} (ht:P.underlying t' = some (.int .u16)) (uc:P.underlying t = some (.int .u32)) (hx:cV F g x (qZ m)):Ev P K F L g (.convert t t' x) ty (rX (m.toUInt16)) :=
 Ev.conv ht uc hx (by
  rfl)
theorem Ev.zD {m:UInt32} (ht:P.underlying t' = some (.int .u64)) (uc:P.underlying t = some (.int .u32)) (hx:cV F g x (qZ m)):Ev P K F L g (.convert t t' x) ty (fO (m.toUInt64)) :=
 Ev.conv ht uc hx (by
  have h:=m.toNat_lt
  grind [wrap_u64,fO,UInt32.toNat_toUInt64])
theorem Ev.Dq (ht:P.underlying t' = some (.int .u32)) (uc:P.underlying t = some (.int .i64)) (hx:cV F g x (I m)):Ev P K F L g (.convert t t' x) ty (qZ (UInt32.ofInt m)) :=
 Ev.conv ht uc hx (by rw [wrap_u32]; unfold qZ; simp [UInt32.ofInt]; omega)
theorem Ev.Jo {m:UInt64} (ht:P.underlying t' = some (.int .u8)) (uc:P.underlying t = some (.int .u64)) (hx:cV F g x (fO m)):Ev P K F L g (.convert t t' x) ty (U8 (m.toUInt8)) :=
 Ev.conv ht uc hx (by
  rfl)
theorem Ev.zC {m:UInt64} (ht:P.underlying t' = some (.int .u16)) (uc:P.underlying t = some (.int .u64)) (hx:cV F g x (fO m)):Ev P K F L g (.convert t t' x) ty (rX (m.toUInt16)) :=
 Ev.conv ht uc hx (by
  rfl)
theorem Ev.G5 {m:UInt64} (ht:P.underlying t' = some (.int .u32)) (uc:P.underlying t = some (.int .u64)) (hx:cV F g x (fO m)):Ev P K F L g (.convert t t' x) ty (qZ (m.toUInt32)) :=
 Ev.conv ht uc hx (by
  rfl)
theorem Ev.Dp {m:UInt64} (ht:P.underlying t' = some (.int .i64)) (uc:P.underlying t = some (.int .u64)) (hx:cV F g x (fO m)) (hm:g = true->m.toNat < 2 ^ 63):Ev P K F L g (.convert t t' x) ty (I (m.toNat:Int)):=λhg =>
 Ev.conv ht uc hx (by have h:=hm hg; rw [wrap_i64 ⟨by omega,by omega⟩]; rfl) hg
theorem Ev.Mb (ht:P.underlying t' = some (.int .u64)) (uc:P.underlying t = some (.int .i64)) (hx:cV F g x (I m)):Ev P K F L g (.convert t t' x) ty (fO (UInt64.ofInt m)) :=
 Ev.conv ht uc hx (by rw [wrap_u64]; unfold fO; simp [UInt64.ofInt]; omega)
end
theorem Tm.indexAt (t:TypeId) (v i:Value):Tm P pm fr (Instr.indexAt t v i):=by
 unfold Instr.indexAt
 repeat' with_reducible first
  | exact .pure _
  | exact .stuck _
  | exact .mc _
  | exact .boundsPanic _ _ _ _
  | exact .runtimePanic _
  | exact .dead (.bind (.runtimePanic _) _)
  | exact .dead (.bind (.boundsPanic _ _ _ _) _)
  | refine .bind (.underlying _) λ_=>?_
  | refine .bind (.sizeOf _) λ_=>?_
  | refine .bind (.typeInfo _) λ_=>?_
  | refine .bind (.sureAddr _) λ_=>?_
  | refine .bind (.asAddr _) λ_=>?_
  | refine .bind (.asIntOf _) λ_=>?_
  | refine .bind (.asInt _) λ_=>?_
  | refine .bind (.zeroValue _) λ_=>?_
  | refine .bind (.loadCells _ _) λ_=>?_
  | refine .bind (.choose _) λ_=>?_
  | refine .bind (.askRoom _) λ_=>?_
  | refine .bind (.newRow _ _) λ_=>?_
  | refine .bind (.pure _) λ_=>?_
  | refine .bind (.stuck _) λ_=>?_
  | refine .bind (.mc _) λ_=>?_
  | refine .bind (.map _ (.choose _)) λ_=>?_
  | split
  | dsimp only
theorem Tm.sliceBound (x:Value) (y:Nat) (c:BoundsCode):Tm P pm fr (Instr.sliceBound x y c):=by
 unfold Instr.sliceBound
 repeat' with_reducible first
  | exact .pure _
  | exact .stuck _
  | exact .mc _
  | exact .boundsPanic _ _ _ _
  | exact .runtimePanic _
  | exact .dead (.bind (.runtimePanic _) _)
  | exact .dead (.bind (.boundsPanic _ _ _ _) _)
  | refine .bind (.underlying _) λ_=>?_
  | refine .bind (.sizeOf _) λ_=>?_
  | refine .bind (.typeInfo _) λ_=>?_
  | refine .bind (.sureAddr _) λ_=>?_
  | refine .bind (.asAddr _) λ_=>?_
  | refine .bind (.asIntOf _) λ_=>?_
  | refine .bind (.asInt _) λ_=>?_
  | refine .bind (.zeroValue _) λ_=>?_
  | refine .bind (.loadCells _ _) λ_=>?_
  | refine .bind (.choose _) λ_=>?_
  | refine .bind (.askRoom _) λ_=>?_
  | refine .bind (.newRow _ _) λ_=>?_
  | refine .bind (.pure _) λ_=>?_
  | refine .bind (.stuck _) λ_=>?_
  | refine .bind (.mc _) λ_=>?_
  | refine .bind (.map _ (.choose _)) λ_=>?_
  | split
  | dsimp only
theorem Tm.sliceBounds (b:Bool) (len cap:Nat) (lo hi mx:Option Value):Tm P pm fr (Instr.sliceBounds b len cap lo hi mx):=by
 unfold Instr.sliceBounds
 repeat' with_reducible first
  | exact .pure _
  | exact .stuck _
  | exact .mc _
  | exact .boundsPanic _ _ _ _
  | exact .runtimePanic _
  | exact .dead (.bind (.runtimePanic _) _)
  | exact .dead (.bind (.boundsPanic _ _ _ _) _)
  | refine .bind (.underlying _) λ_=>?_
  | refine .bind (.sizeOf _) λ_=>?_
  | refine .bind (.typeInfo _) λ_=>?_
  | refine .bind (.sureAddr _) λ_=>?_
  | refine .bind (.asAddr _) λ_=>?_
  | refine .bind (.asIntOf _) λ_=>?_
  | refine .bind (.asInt _) λ_=>?_
  | refine .bind (.zeroValue _) λ_=>?_
  | refine .bind (.loadCells _ _) λ_=>?_
  | refine .bind (.choose _) λ_=>?_
  | refine .bind (.askRoom _) λ_=>?_
  | refine .bind (.newRow _ _) λ_=>?_
  | refine .bind (.pure _) λ_=>?_
  | refine .bind (.stuck _) λ_=>?_
  | refine .bind (.mc _) λ_=>?_
  | refine .bind (.map _ (.choose _)) λ_=>?_
  | refine .bind (.sliceBound _ _ _) λ_=>?_
  | split
  | dsimp only
theorem Tm.aaH (t:TypeId) (x:Value) (lo hi mx:Option Value):Tm P pm fr (Instr.slice t x lo hi mx):=by
 unfold Instr.slice
 repeat' with_reducible first
  | exact .pure _
  | exact .stuck _
  | exact .mc _
  | exact .boundsPanic _ _ _ _
  | exact .runtimePanic _
  | exact .dead (.bind (.runtimePanic _) _)
  | exact .dead (.bind (.boundsPanic _ _ _ _) _)
  | refine .bind (.underlying _) λ_=>?_
  | refine .bind (.sizeOf _) λ_=>?_
  | refine .bind (.typeInfo _) λ_=>?_
  | refine .bind (.sureAddr _) λ_=>?_
  | refine .bind (.asAddr _) λ_=>?_
  | refine .bind (.asIntOf _) λ_=>?_
  | refine .bind (.asInt _) λ_=>?_
  | refine .bind (.zeroValue _) λ_=>?_
  | refine .bind (.loadCells _ _) λ_=>?_
  | refine .bind (.choose _) λ_=>?_
  | refine .bind (.askRoom _) λ_=>?_
  | refine .bind (.newRow _ _) λ_=>?_
  | refine .bind (.pure _) λ_=>?_
  | refine .bind (.stuck _) λ_=>?_
  | refine .bind (.mc _) λ_=>?_
  | refine .bind (.map _ (.choose _)) λ_=>?_
  | refine .bind (.sliceBounds _ _ _ _ _ _) λ_=>?_
  | split
  | dsimp only
theorem Tm.sliceAt (t:TypeId) (x:Value) (lo hi mx:Option Value):Tm P pm fr (Instr.sliceAt t x lo hi mx):=by
 unfold Instr.sliceAt
 repeat' with_reducible first
  | exact .pure _
  | exact .stuck _
  | exact .mc _
  | exact .boundsPanic _ _ _ _
  | exact .runtimePanic _
  | exact .dead (.bind (.runtimePanic _) _)
  | exact .dead (.bind (.boundsPanic _ _ _ _) _)
  | exact .aaH _ _ _ _ _
  | refine .bind (.underlying _) λ_=>?_
  | refine .bind (.sizeOf _) λ_=>?_
  | refine .bind (.typeInfo _) λ_=>?_
  | refine .bind (.sureAddr _) λ_=>?_
  | refine .bind (.asAddr _) λ_=>?_
  | refine .bind (.asIntOf _) λ_=>?_
  | refine .bind (.asInt _) λ_=>?_
  | refine .bind (.zeroValue _) λ_=>?_
  | refine .bind (.loadCells _ _) λ_=>?_
  | refine .bind (.choose _) λ_=>?_
  | refine .bind (.askRoom _) λ_=>?_
  | refine .bind (.newRow _ _) λ_=>?_
  | refine .bind (.pure _) λ_=>?_
  | refine .bind (.stuck _) λ_=>?_
  | refine .bind (.mc _) λ_=>?_
  | refine .bind (.map _ (.choose _)) λ_=>?_
  | refine .bind (.sliceBounds _ _ _ _ _ _) λ_=>?_
  | split
  | dsimp only
theorem Tm.firstCells (size n:Nat) (x:Value):Tm P pm fr (Builtin.firstCells size n x):=by
 unfold Builtin.firstCells
 repeat' with_reducible first
  | exact .pure _
  | exact .stuck _
  | exact .mc _
  | exact .boundsPanic _ _ _ _
  | exact .runtimePanic _
  | exact .dead (.bind (.runtimePanic _) _)
  | exact .dead (.bind (.boundsPanic _ _ _ _) _)
  | exact .loadCells _ _
  | refine .bind (.underlying _) λ_=>?_
  | refine .bind (.sizeOf _) λ_=>?_
  | refine .bind (.typeInfo _) λ_=>?_
  | refine .bind (.sureAddr _) λ_=>?_
  | refine .bind (.asAddr _) λ_=>?_
  | refine .bind (.asIntOf _) λ_=>?_
  | refine .bind (.asInt _) λ_=>?_
  | refine .bind (.zeroValue _) λ_=>?_
  | refine .bind (.loadCells _ _) λ_=>?_
  | refine .bind (.choose _) λ_=>?_
  | refine .bind (.askRoom _) λ_=>?_
  | refine .bind (.newRow _ _) λ_=>?_
  | refine .bind (.pure _) λ_=>?_
  | refine .bind (.stuck _) λ_=>?_
  | refine .bind (.mc _) λ_=>?_
  | refine .bind (.map _ (.choose _)) λ_=>?_
  | split
  | dsimp only
theorem Tm.lenOf (x:Value):Tm P pm fr (Builtin.lenOf x):=by
 unfold Builtin.lenOf
 repeat' with_reducible first
  | exact .pure _
  | exact .stuck _
  | exact .mc _
  | exact .boundsPanic _ _ _ _
  | exact .runtimePanic _
  | exact .dead (.bind (.runtimePanic _) _)
  | exact .dead (.bind (.boundsPanic _ _ _ _) _)
  | refine .bind (.underlying _) λ_=>?_
  | refine .bind (.sizeOf _) λ_=>?_
  | refine .bind (.typeInfo _) λ_=>?_
  | refine .bind (.sureAddr _) λ_=>?_
  | refine .bind (.asAddr _) λ_=>?_
  | refine .bind (.asIntOf _) λ_=>?_
  | refine .bind (.asInt _) λ_=>?_
  | refine .bind (.zeroValue _) λ_=>?_
  | refine .bind (.loadCells _ _) λ_=>?_
  | refine .bind (.choose _) λ_=>?_
  | refine .bind (.askRoom _) λ_=>?_
  | refine .bind (.newRow _ _) λ_=>?_
  | refine .bind (.pure _) λ_=>?_
  | refine .bind (.stuck _) λ_=>?_
  | refine .bind (.mc _) λ_=>?_
  | refine .bind (.map _ (.choose _)) λ_=>?_
  | split
  | dsimp only
theorem Tm.append {v:Value} (ht:P.underlying t = some (.slice T)) (hv:∀ b,v.ownBlock = some b->pm b /\ fr <= b):Tm P pm fr (Builtin.append_ #[t,t] ty #[v,u]):=by
 unfold Builtin.append_;refine .under ht ?_;cases v <;> first | exact .halt _ | skip
 rename_i base amJ amK;have hst:∀ a,base = some a->∀ (k:Nat) (vs:List Value),Tm P pm fr (Go.storeCells (a.add k) vs):=λa e k vs=>by
  have hb:(a.add k).block = a.block:=by unfold Addr.add; split <;> rfl
  obtain⟨h1,h2⟩:=hv a.block (by rw [e]; rfl);exact .storeCells _ (by rw [hb]; exact h1) (by rw [hb]; exact h2) _ _
 refine .bind (.sizeOf _) λsize=>.under ht (.known (b:=false) (.pure _) (λv=>rfl) ?_)
 simp only [aI,cD,pz,if_true,false_or]
 repeat' with_reducible first
  | exact .pure _
  | exact .stuck _
  | exact .mc _
  | exact .boundsPanic _ _ _ _
  | exact .runtimePanic _
  | exact .dead (.bind (.runtimePanic _) _)
  | exact .dead (.bind (.boundsPanic _ _ _ _) _)
  | refine .bind (.underlying _) λ_=>?_
  | refine .bind (.sizeOf _) λ_=>?_
  | refine .bind (.typeInfo _) λ_=>?_
  | refine .bind (.sureAddr _) λ_=>?_
  | refine .bind (.asAddr _) λ_=>?_
  | refine .bind (.asIntOf _) λ_=>?_
  | refine .bind (.asInt _) λ_=>?_
  | refine .bind (.zeroValue _) λ_=>?_
  | refine .bind (.loadCells _ _) λ_=>?_
  | refine .bind (.choose _) λ_=>?_
  | refine .bind (.askRoom _) λ_=>?_
  | refine .bind (.newRow _ _) λ_=>?_
  | refine .bind (.pure _) λ_=>?_
  | refine .bind (.stuck _) λ_=>?_
  | refine .bind (.mc _) λ_=>?_
  | refine .bind (.map _ (.choose _)) λ_=>?_
  | refine .bind (.lenOf _) λ_=>?_
  | refine .bind (.firstCells _ _ _) λ_=>?_
  | refine .bind (hst _ rfl _ _) λ_=>?_
  | split
  | dsimp only
  | exact .dead (.bind (.behind λ_=>by split <;> first | exact .mc _ | exact .behind λ_=>.mc _) _)
structure dy (α:Type) where
 size:Nat
 agg:Bool
 cells:α->List Value
 zero:α
 len:∀ x,(cells x).length = size
 one:∀ x v,v ∈ cells x->v.oneCell' = true
 sc:agg = false->size = 1
variable {E:dy α} {E':dy β}
def dy.val (E:dy α) (x:α):Value:=bif E.agg then .agg (E.cells x).toArray else (E.cells x).headD undef
def Vl (f:α->Value) (z:α) (h:∀ x,(f x).oneCell' = true):dy α :=
 { size:=1,agg:=false,cells:=λx=>[f x],zero:=z,len:=λ_=>rfl,one:=λx v hv=>by grind,sc:=λ_=>rfl }
def iO:dy UInt8:=Vl U8 0 (λ_=>rfl)
def xw:dy UInt16:=Vl rX 0 (λ_=>rfl)
def OE:dy UInt32:=Vl qZ 0 (λ_=>rfl)
def lG:dy UInt64:=Vl fO 0 (λ_=>rfl)
def iE:dy Int:=Vl I 0 (λ_=>rfl)
def bE:dy Bool:=Vl Value.bool false (λ_=>rfl)
def sE:dy ByteArray:=Vl Value.string ByteArray.empty (λ_=>rfl)
section
structure OV where
 v:Value
 one:v.oneCell' = true
def dJ (z:OV):dy OV:=Vl OV.v z OV.one
def aM:OV:=⟨.slice none 0 0,rfl⟩
def dB:OV:=⟨.pointer none,rfl⟩
def og:OV:=⟨.map none,rfl⟩
def iG:OV:=⟨.nilFunc,rfl⟩
def rC:OV:=⟨.nilIface,rfl⟩
def dy.row (E:dy α) (xs:List α):List Value:=xs.flatMap E.cells
theorem dy.fp (E:dy α) (xs:List α):(E.row xs).length = xs.length * E.size:=by
 induction xs with
 | nil=>simp [dy.row]
 | cons x xs ih =>
   have:E.row (x :: xs) = E.cells x ++ E.row xs:=by simp [dy.row]
   rw [this,cK,ih,E.len,aS,dY]; omega
theorem dy.ql (E:dy α) (xs ys:List α):E.row (xs ++ ys) = E.row xs ++ E.row ys:=by simp [dy.row]
theorem dy.tF (E:dy α) (xs:List α):∀ v ∈ E.row xs,v.oneCell' = true:=by
 intro v hv;simp only [dy.row,nZ] at hv;obtain⟨x,_,h⟩:=hv;exact E.one x v h
theorem dy.vX (E:dy α) (xs:List α) (k:Nat):(E.row xs).take (k * E.size) = E.row (xs.take k):=by
 induction xs generalizing k with
 | nil=>simp [dy.row]
 | cons x xs ih =>
   cases k with
   | zero=>simp [dy.row]
   | succ k =>
     have e:E.row (x :: xs) = E.cells x ++ E.row xs:=by simp [dy.row]
     have e2:E.row (x :: xs.take k) = E.cells x ++ E.row (xs.take k):=by simp [dy.row]
     rw [List.take_succ_cons,e,e2,<- ih k,dY,iV,kK,<- E.len x,List.take_length_add_append]
theorem dy.qO (E:dy α) (xs:List α) (k:Nat):(E.row xs).drop (k * E.size) = E.row (xs.drop k):=by
 induction xs generalizing k with
 | nil=>simp [dy.row]
 | cons x xs ih =>
   cases k with
   | zero=>simp
   | succ k =>
     have e:E.row (x :: xs) = E.cells x ++ E.row xs:=by simp [dy.row]
     rw [List.drop_succ_cons,e,<- ih k,dY,iV,kK,<- E.len x,lF]
theorem dy.F6 (E:dy α) (xs:List α) (i j:Nat) (d:α) (hi:i < xs.length) (hj:j < E.size):(E.row xs)[i * E.size + j]? = (E.cells (xs.getD i d))[j]?:=by
 have h1:(E.row xs)[i * E.size + j]? = ((E.row xs).drop (i * E.size))[j]?:=by rw [jj]
 rw [h1,E.qO];have h2:xs.drop i = xs.getD i d :: xs.drop (i + 1):=by
  rw [dR hi]; simp [List.getD,hi]
 rw [h2];have e:E.row (xs.getD i d :: xs.drop (i + 1)) = E.cells (xs.getD i d) ++ E.row (xs.drop (i + 1)):=by simp [dy.row]
 rw [e,eX (by rw [E.len]; exact hj)]
theorem dy.Na (E:dy α) (xs:List α) (i:Nat) (x:α) (hi:i < xs.length):E.row (xs.set i x) = (E.row xs).take (i * E.size) ++ E.cells x ++ (E.row xs).drop (i * E.size + E.size):=by
 have h1:xs.set i x = xs.take i ++ x :: xs.drop (i + 1):=by rw [gX,if_pos hi]
 have e:i * E.size + E.size = (i + 1) * E.size:=by rw [dY,iV]
 rw [h1,E.ql,e,E.vX,E.qO];simp [dy.row]
theorem dy.kN (E:dy α) (x:α):(E.val x).cells = (E.cells x).toArray:=by
 unfold dy.val;cases h:E.agg with
 | true=>rfl
 | false =>
   have hl:(E.cells x).length = 1:=by rw [E.len,E.sc h]
   match hc:E.cells x,hl with
   | [v],_ =>
     have h1:=E.one x v (by rw [hc]; exact ah);cases v <;> simp_all [Value.cells,Value.oneCell']
def eK (E:dy α) (w:World) (b off:Nat) (x:α):Prop:=∀ j u,(E.cells x)[j]? = some u->w.cell? ⟨b,off + j,none⟩ = some u
structure jK (P:Program) (t:TypeId) (E:dy α):Prop where
 ag:∃ d,P.underlying t = some d /\ (match d with | .struct _ | .array _ _=>true | _=>false) = E.agg
 sz:∃ i,P.info? t = some i /\ i.size = E.size
theorem jK.mk' (h1:(P.underlying t).map (λd=>match d with | .struct _ | .array _ _=>true | _=>false) = some E.agg)
 (h2:(P.info? t).map (·.size) = some E.size):jK P t E:=by
 constructor
 ·simp_all
 simp_all
theorem lL (b off j:Nat):(⟨b,off,none⟩:Addr).add j = ⟨b,off + j,none⟩:=by
 unfold Addr.add;simp
theorem EK (T:jK P t E) (w:World):(isAgg t).run P w = .ok E.agg w:=by
 obtain⟨d,hd,he⟩:=T.ag;have hu:(underlying t).run P w = .ok d w:=by simp [underlying,hd]
 simp only [isAgg,ay,hu,aj,<- he];cases d <;> rfl
theorem run_sizeOf (T:jK P t E) (w:World):(sizeOf t).run P w = .ok E.size w:=by
 obtain⟨i,hi,he⟩:=T.sz;simp [sizeOf,typeInfo,hi,he]
theorem oH (T:jK P t E) {b:Nat} {x:α} (h:eK E w b off x):(loadVar t ⟨b,off,none⟩).run P w = .ok (E.val x) w:=by
 simp only [loadVar,ay,EK T,aj];unfold dy.val;cases ha:E.agg with
 | true =>
   have h1:=run_loadCells_list (P:=P) w ⟨b,off,none⟩ (E.cells x) (λj v hv=>by rw [lL]; exact h j v hv);rw [E.len] at h1;simp only [if_true,ay,run_sizeOf T,aj,h1,aJ,iT]
 | false =>
   have hl:(E.cells x).length = 1:=by rw [E.len,E.sc ha]
   match hc:E.cells x,hl with
   | [v],_ =>
     have h1:=h 0 v (by rw [hc]; rfl)
     simp_all
def rvp (T:jK P t E) {b:Nat} {x:α} (h:eK E w b off x) (hn:cI w):(loadVar t ⟨b,off,none⟩).wpS P pm fr (λy w'=>y = E.val x /\ w' = w) w:=Tm.loadVar t _ w hn _ _ (oH T h)
def RV.cellP {t:Nat} {b:Nat} {x:α} {rs:List ResultVar} (h:look F t = some (true,.pointer (some ⟨b,off,none⟩))) (T:jK P ty E) (hp:∀ w,bS K L w->eK E w b off x) (hr:RV P K F L rs vs):RV P K F L (.cell t ty :: rs) (E.val x :: vs):=.cell h (λw I hn=>rvp T (hp w I) hn) hr
structure aB (E:dy α) (E':dy β) (off:Nat) where
 get:α->β
 set:α->β->α
 fits:off + E'.size <= E.size
 yl:∀ x,((E.cells x).drop off).take E'.size = E'.cells (get x)
 wC:∀ x y,E.cells (set x y) = (E.cells x).take off ++ E'.cells y ++ (E.cells x).drop (off + E'.size)
def aB.id (E:dy α):aB E E 0 where
 get x:=x
 set _ y:=y
 fits:=by omega
 yl x:=by simp [<- E.len x]
 wC x y:=by simp [<- E.len x]
def aB.comp {Ov:dy γ} {o':Nat} (l:aB E E' o) (m:aB E' Ov o'):aB E Ov (o + o') where
 get x:=m.get (l.get x)
 set x y:=l.set x (m.set (l.get x) y)
 fits:=by have:=l.fits; have:=m.fits; omega
 yl x:=by
  have h1:=l.yl x;have h2:=m.yl (l.get x);have h3:=m.fits;rw [<- h1] at h2;rw [<- h2,mG,pr,ib,kg (by omega)]
 wC x y:=by
  have h1:=l.yl x;have h3:=m.fits;rw [l.wC,m.wC,<- h1,pr,mG,ib,kg (by omega)];have e1:(E.cells x).take (o + o') = (E.cells x).take o ++ ((E.cells x).drop o).take o':=by rw [qf]
  have e2:(E.cells x).drop (o + o' + Ov.size) = ((E.cells x).drop (o + (o' + Ov.size))).take (E'.size - (o' + Ov.size)) ++ (E.cells x).drop (o + E'.size):=by
   have e3:(E.cells x).drop (o + E'.size) = ((E.cells x).drop (o + (o' + Ov.size))).drop (E'.size - (o' + Ov.size)):=by
    rw [ib]
    congr 1
    omega
   rw [e3,List.take_append_drop,j4]
  grind
theorem aB.pts (l:aB E E' o) {b:Nat} {x:α} (h:eK E w b off x):eK E' w b (off + o) (l.get x):=by
 intro j u hu;rw [<- l.yl x] at hu;rw [fD] at hu;split at hu
 ·rw [jj] at hu;rw [j4];exact h (o + j) u hu
 trivial
def Var (b:Nat) (E:dy α) (x:α) (T:TypeId):du where
 c9:=λk=>k = b
 A:=λw=>w.heap[b]? = some (.cells (E.cells x).toArray T (0,0))
 st:=λw w' h h1=>by grind
theorem nB {b:Nat} {x:α} (h:w.heap[b]? = some (.cells (E.cells x).toArray T (0,0))):eK E w b 0 x:=by
 intro j u hu;simp [World.cell?,h,hu]
variable {op:Op} {y:Operand}
theorem ed {b:Nat} (hm:Var b E xv T ∈ L) (l:aB E E' o) (w:World) (h:bS K L w):eK E' w b o (l.get xv):=by
 have h1:=(h.own _ hm).1;have h2:=l.pts (nB (E:=E) (x:=xv) h1)
 grind
theorem Ev.load {E:dy α} {b off:Nat} {xv:α} (T:jK P t E) (hx:cV F g x (.pointer (some ⟨b,off,none⟩))) (h:∀ w,bS K L w->eK E w b off xv) :
 Ev P K F L g (.load t x) ty (E.val xv):=.of rfl (λ_ _ _ _ _ _ _ _ _=>.bind (.bind (.sureAddr _) λ_=>.loadVar _ _) λ_=>.pure _) λhg a G w hw dst pos af gd=>by
 simp only [execOp,hx.eval hg G,Instr.loadAt,Instr.sureAddr,ay,aJ,aj,oH T (h w hw)]
theorem Ev.fieldAddr {b off s f o:Nat} (hx:cV F g x (.pointer (some ⟨b,off,none⟩)))
 (hf:(P.underlying s).bind (λd=>match d with | .struct fs=>(fs[f]?).bind (λfd=>(P.info? fd.type).map (λi=>(fd.offset,Nat.beq i.size 0))) | _=>none) = some (o,false)) :
 Ev P K F L g (.fieldAddr s x f) ty (.pointer (some ⟨b,off + o,none⟩)):=.of rfl (λhg a G w hw _ _ _ _=>by
 show Tm P _ _ (Instr.fieldAt s (a.eval x) f >>= λr=>pure (Next.value r));rw [hx.eval hg G];refine .bind ?_ λ_=>.pure _
 cases hu:P.underlying s with
 | none=>grind
 | some dsc =>
   rw [hu] at hf;cases dsc <;> simp only [cQ,reduceCtorEq] at hf
   rename_i fs;cases hfd:fs[f]? with
   | none=>grind
   | some fd =>
     rw [hfd] at hf;simp only [cQ] at hf;cases hi:P.info? fd.type with
     | none=>grind
     | some i =>
       rw [hi] at hf;simp only [cB,br,eU] at hf;have h2':¬ i.size = 0:=je hf.2;refine .under hu ?_;simp only [hfd];refine .bind (.pure _) λq=>.bind ?_ λ_=>.pure _
       refine .known (b:=i.size) (.sizeOf _) (λv=>by simp [sizeOf,typeInfo,hi]) ?_;rw [if_neg h2'];exact .pure _) λhg a G w hw dst pos af gd=>by
 cases hu:P.underlying s with
 | none=>grind
 | some dsc =>
   rw [hu] at hf;cases dsc <;> simp only [cQ,reduceCtorEq] at hf
   rename_i fs;cases hfd:fs[f]? with
   | none=>grind
   | some fd =>
     rw [hfd] at hf;simp only [cQ] at hf;cases hi:P.info? fd.type with
     | none=>grind
     | some i =>
       rw [hi] at hf;simp only [cB,br,eU] at hf;obtain⟨h1,h2⟩:=hf;have h2':¬ i.size = 0:=je h2;have hru:(underlying s).run P w = .ok (.struct fs) w:=by simp [underlying,hu]
       have hsz:(sizeOf fd.type).run P w = .ok i.size w:=by simp [sizeOf,typeInfo,hi]
       simp only [execOp,hx.eval hg G,Instr.fieldAt,Instr.sureAddr,ay,aJ,aj,hru,hfd,fieldPlace,hsz,if_neg h2',lL,h1]
theorem box {E:dy α} {xv:α} (hx:cV F true x (E.val xv)) (next:∀ b,Sat K N ((d,true,.pointer (some ⟨b,0,none⟩)) :: F) (Var b E xv t :: L)) (hd:Nat.blt d K.n = true:=by rfl) :
 Sat K (dw P K ops Q ⟨some d,.box t x,ty,pos,af,none⟩ N) F L:=λa w G=>by
 refine dI rfl rfl λhn=>?_
 have hr:(execOp a.eval ⟨some d,.box t x,ty,pos,af,none⟩).run P w = .ok (.value (.pointer (some ⟨w.heap.size,0,none⟩))) { w with heap:=w.heap.push (.cells (E.cells xv).toArray t) }:=by
  simp [execOp,hx.eval rfl G.fo,Instr.box,newVar,newRow,E.kN]
 refine xL hr (.bind (.bind (.newVar _ _) λ_=>.pure _) λ_=>.pure _) hn (next w.heap.size _ _ (G.put d true _ _ (by simp_all) rfl (G.inv.add (bf.alloc _ _ _) ?_ ?_)))
 ·show (w.heap.push _)[w.heap.size]? = _;simp
 ·intro b hb;have:b = w.heap.size:=hb
  grind
theorem alloc {E:dy α} (hz:(P.info? t).bind (·.zero) = some (E.val E.zero)) (next:∀ b,Sat K N ((d,true,.pointer (some ⟨b,0,none⟩)) :: F) (Var b E E.zero t :: L)) (hd:Nat.blt d K.n = true:=by rfl) :
 Sat K (dw P K ops Q ⟨some d,.alloc t,ty,pos,af,none⟩ N) F L:=λa w G=>by
 refine dI rfl rfl λhn=>?_
 cases hi:P.info? t with
 | none=>grind
 | some i =>
   rw [hi] at hz;simp only [cQ] at hz;have hr:(execOp a.eval ⟨some d,.alloc t,ty,pos,af,none⟩).run P w = .ok (.value (.pointer (some ⟨w.heap.size,0,none⟩))) { w with heap:=w.heap.push (.cells (E.cells E.zero).toArray t) }:=by
    simp [execOp,Instr.alloc,zeroValue,typeInfo,hi,hz,newVar,newRow,E.kN]
   refine xL hr (.bind (.bind (.zeroValue _) λ_=>.bind (.newVar _ _) λ_=>.pure _) λ_=>.pure _) hn (next w.heap.size _ _ (G.put d true _ _ (by simp_all) rfl (G.inv.add (bf.alloc _ _ _) ?_ ?_)))
   ·show (w.heap.push _)[w.heap.size]? = _;simp
   ·intro b hb;have:b = w.heap.size:=hb
    grind
theorem pB (w:World) (g:Nat) (cs:Array Value):bf (λk=>k = g) w (w.setRow g cs) :=
 ⟨rfl,rfl,rfl,by simp,λk _ hk=>setRow_other w g k cs hk⟩
theorem sq {E:dy β} (T:jK P t E) {b:Nat} {cur:List Value} (hb:w.heap[b]? = some (.cells cur.toArray T' (0,0))) (ym:o + E.size <= cur.length) :
 (storeVar t ⟨b,o,none⟩ (E.val yv)).run P w = .ok () (w.setRow b (cur.take o ++ E.cells yv ++ cur.drop (o + E.size)).toArray):=by
 have h1:=run_storeCells_at P b o T' (E.cells yv) 0 cur.toArray w hb (by simp [E.len]; omega) (E.one yv);simp only [jP,E.len] at h1;have hsz:¬ ((E.cells yv).toArray.size ≠ E.size):=by simp [E.len]
 simp only [storeVar,ay,run_sizeOf T,aj,E.kN,if_neg hsz,h1]
theorem aaC {b:Nat} (T:jK P t E') (l:aB E E' o) (hx:cV F true x (.pointer (some ⟨b,o,none⟩))) (hy:cV F true y (E'.val yv))
 (hu:mS L (Var b E xv T') (Var b E (l.set xv yv) T') L') (next:Sat K N F L'):Sat K (dw P K ops Q ⟨none,.store t x y,ty,pos,af,none⟩ N) F L:=λa w G=>by
 refine dI rfl rfl λhn=>?_
 have hb:w.heap[b]? = some (.cells (E.cells xv).toArray T' (0,0)):=(G.inv.own _ hu.mem).1;have hr:=sq (P:=P) T (o:=o) (yv:=yv) hb (by rw [E.len]; exact l.fits);have he:(execOp a.eval ⟨none,.store t x y,ty,pos,af,none⟩).run P w = .ok .skip (w.setRow b (E.cells (l.set xv yv)).toArray):=by
  simp only [execOp,hx.eval rfl G.fo,hy.eval rfl G.fo,Instr.storeAt,Instr.sureAddr,ay,aJ,aj,hr,l.wC]
 have hm:=hu.mem;refine Sp he ?_ hn ?_
 ·show Tm P _ _ (Instr.storeAt t (a.eval x) (a.eval y) >>= λ_=>pure Next.skip);rw [hx.eval rfl G.fo];exact .bind (.known (b:=⟨b,o,none⟩) (.sureAddr _) (λv=>rfl) (.storeVar _ _ _ ((G.inv.own _ hm).2 b rfl).1 (G.inv.fr hm b rfl))) λ_=>.pure _
 have hlt:b < w.heap.size:=(bP.1 hb).1;refine next _ _ (G.world (G.inv.upd hu (pB _ _ _) (setRow_heap w b _ _ _ _ hb) ?_));intro k hk;have:k = b:=hk;subst this;exact ⟨.inl rfl,by simp_all⟩
end
variable {id:Nat} {v:Value}
section
def bU (E:dy α) (w:World) (v:Value) (xs:List α):Prop :=
 ∃ a cap,v = .slice a xs.length cap /\ xs.length <= cap /\ cap <= maxLen /\ (a = none->xs = [] /\ cap = 0) ∧
   ∀ p,a = some p->(xs ≠ []->p.spot = none) /\ ∀ j u,(E.row xs)[j]? = some u->w.cell? ⟨p.block,p.off + j,none⟩ = some u
theorem bU.nil (E:dy α) (w:World):bU E w (.slice none 0 0) []:=⟨none,0,rfl,aA _,bu _,λ_=>⟨rfl,rfl⟩,λ_ h=>by cases h⟩
theorem bU.le (h:bU E w v xs):xs.length <= 9223372036854775807:=by
 obtain⟨a,cap,_,h1,h2,_⟩:=h;have:maxLen = 9223372036854775807:=rfl;omega
theorem bU.keep {M:Nat->Prop} (h:bU E w v xs) (k:bf M w w') (hM:∀ b,v.ownBlock = some b->¬ M b):bU E w' v xs:=by
 obtain⟨a,cap,rfl,h1,h2,h3,h4⟩:=h;refine ⟨a,cap,rfl,h1,h2,h3,λp hp=>?_⟩;obtain⟨h5,h6⟩:=h4 p hp;subst hp;refine ⟨h5,λj u hu=>?_⟩;have h7:=h6 j u hu;have hlt:p.block < w.heap.size:=World.block_lt_of_cell? w ⟨p.block,p.off + j,none⟩ h7;exact (World.cell?_of_block (w:=w) (a:=⟨p.block,p.off + j,none⟩) (k.block _ hlt (hM _ rfl))).trans h7
def bU.cO (h:bU E w v xs) (k:bf fX w w'):bU E w' v xs:=h.keep k (λ_ _ h=>h)
def bY (v:Value) (E:dy α) (xs:List α) (T:TypeId):du where
 c9:=λb=>v.ownBlock = some b
 A:=λw=>w.ownsRow 0 T E.size v xs.length (E.row xs)
 st:=λw w' h h1=>by
  refine ⟨h1.1,?_⟩
  rcases h1.2 with h2 | ⟨g,cap,cur,hv,hg,hh,r⟩
  ·grind
  ·exact .inr ⟨g,cap,cur,hv,hg,by rw [h g (by rw [hv]; rfl)]; exact hh,r⟩
theorem bU.lJ (h:w.ownsRow 0 T E.size v xs.length (E.row xs)):bU E w v xs:=by
 rcases h.2 with ⟨rfl,h2⟩ | ⟨g,cap,cur,rfl,hg,hh,h3,h4,h5,h6⟩
 ·have:xs = []:=dQ h2;subst this;exact bU.nil E w
 ·refine ⟨_,cap,rfl,h3,h4,λh=>(by cases h),λp hp=>?_⟩;cases hp;refine ⟨λ_=>rfl,λj u hu=>?_⟩;rw [<- h6,fD] at hu;split at hu
  ·simp only [World.cell?,hh,a9]
   grind
  trivial
def kY (hm:bY v E xs T ∈ L) (w:World) (h:bS K L w):bU E w v xs:=bU.lJ (h.own _ hm).1
def kC (v:Value) (k:Nat):Value :=
 match v with
 | .slice (some a) _ _=>.pointer (some ⟨a.block,a.off + k,none⟩)
 | _=>undef
def uN (size:Nat) (v:Value) (l h:Nat):Value :=
 match v with
 | .slice a _ cap=>.slice (if cap = l then a else a.map (·.add (l * size))) (h - l) (cap - l)
 | v=>v
variable {op:Op} {y:Operand}
theorem Ev.len {E:dy α} {v:Value} {xs:List α} {e:TypeId} (ht:P.underlying t = some (.slice e)) (hx:cV F g x v) (h:∀ w,bS K L w->bU E w v xs) :
 Ev P K F L g (.call { callee:=.builtin .len,args:=#[x],argTypes:=#[t] }) ty (I xs.length):=.of rfl (λhg a G w hw _ _ _ _=>by
 obtain⟨b,cap,rfl,_⟩:=h w hw;have e:∀ dst pos af gd,execOp a.eval ⟨dst,.call { callee:=.builtin .len,args:=#[x],argTypes:=#[t] },ty,pos,af,gd⟩ = (Builtin.len_ #[t] ty #[.slice b xs.length cap] >>= λr=>pure (Next.value r)):=λ_ _ _ _=>by
  simp [execOp,resolve,invoke,builtin,hx.eval hg G]
 rw [e];exact .bind (.under ht (.pure _)) λ_=>.pure _) λhg a G w hw dst pos af gd=>by
 obtain⟨b,cap,rfl,_⟩:=h w hw;have hu:(underlying t).run P w = .ok (.slice e) w:=by simp [underlying,ht]
 simp [execOp,resolve,invoke,builtin,Builtin.len_,hx.eval hg G,hu,goInt,I]
theorem Ev.indexAddr {E:dy α} {v:Value} {xs:List α} {e:TypeId} {i:Int} (ht:P.underlying t = some (.slice e)) (T:jK P e E) (hx:cV F g x v) (hy:cV F g y (I i))
 (h:∀ w,bS K L w->bU E w v xs) (hi:g = true->0 <= i /\ i < xs.length) :
 Ev P K F L g (.indexAddr t x y) ty (kC v (i.toNat * E.size)):=.of rfl (λ_ _ _ _ _ _ _ _ _=>.bind (.indexAt _ _ _) λ_=>.pure _) λhg a G w hw dst pos af gd=>by
 obtain⟨b,cap,rfl,h1,_,h2,h3⟩:=h w hw;have hi':=hi hg;have hu:(underlying t).run P w = .ok (.slice e) w:=by simp [underlying,ht]
 cases b with
 | none =>
   grind
 | some p =>
   have hp:=(h3 p rfl).1 (λe=>by rw [e] at hi'; simp at hi'; omega);obtain⟨pb,po,ps⟩:=p;subst hp;simp [execOp,Instr.indexAt,asIntOf,hx.eval hg G,hy.eval hg G,I,hu,hi',run_sizeOf T,kC,lL]
theorem bU.pts {E:dy α} {E':dy β} {w:World} {v:Value} {xs:List α} {o:Nat} (h:bU E w v xs) (l:aB E E' o) {i:Nat} (hi:i < xs.length) (z:α) :
 ∃ b off,kC v (i * E.size + o) = .pointer (some ⟨b,off,none⟩) /\ eK E' w b off (l.get (xs.getD i z)):=by
 obtain⟨a,cap,rfl,_,_,h2,h3⟩:=h;cases a with
 | none =>
   grind
 | some p =>
   obtain⟨_,h5⟩:=h3 p rfl;refine ⟨p.block,p.off + (i * E.size + o),rfl,?_⟩;have h6:eK E w p.block (p.off + i * E.size) (xs.getD i z):=by
    intro j u hu;have hj:j < E.size:=by
     have:=(cY.1 hu).1
     rwa [E.len] at this
    rw [<- E.F6 xs i j z hi hj] at hu;have:=h5 _ u hu
    rwa [<- j4] at this
   have h7:=l.pts h6
   grind
theorem Ev.y5 {i:Int} {k:Nat} (T:jK P t E') (l:aB E E' o) (hk:k = i.toNat * E.size + o) (hx:cV F g x (kC v k)) (h:∀ w,bS K L w->bU E w v xs)
 (hi:g = true->0 <= i /\ i < xs.length):Ev P K F L g (.load t x) ty (E'.val (l.get (xs.getD i.toNat E.zero))):=.of rfl (λ_ _ _ _ _ _ _ _ _=>.bind (.bind (.sureAddr _) λ_=>.loadVar _ _) λ_=>.pure _) λhg a G w hw dst pos af gd=>by
 have hi':=hi hg;obtain⟨b,off,h1,h2⟩:=(h w hw).pts l (i:=i.toNat) (by omega) E.zero;subst hk;rw [h1] at hx;simp only [execOp,hx.eval hg G,Instr.loadAt,Instr.sureAddr,ay,aJ,aj,oH T h2]
theorem bU.sub (h:bU E w v xs) {l k:Nat} (hl:l <= k) (hk:k <= xs.length):bU E w (uN E.size v l k) ((xs.take k).drop l):=by
 obtain⟨a,cap,rfl,h1,h2,h3,h4⟩:=h;have hlen:((xs.take k).drop l).length = k - l:=by simp; omega
 refine ⟨if cap = l then a else a.map (·.add (l * E.size)),cap - l,by rw [hlen]; rfl,by omega,by omega,?_,?_⟩
 ·intro hn;have ha:a = none:=by
   split at hn
   ·exact hn
   ·cases a with
    | none=>rfl
    | some p=>cases hn
  grind
 ·intro p hp;split at hp
  ·rename_i hc;subst hp;obtain⟨h5,h6⟩:=h4 p rfl;refine ⟨λhne=>h5 (λe=>hne (by grind)),λj u hu=>?_⟩;have:(xs.take k).drop l = []:=dQ (by rw [hlen]; omega);rw [this] at hu
   trivial
  ·cases a with
   | none=>cases hp
   | some q =>
     simp only [cB,br] at hp;obtain⟨h5,h6⟩:=h4 q rfl
     by_cases hxe:xs = []
     ·subst hxe;exact ⟨λh=>absurd (by simp) h,λj u hu=>by simp [dy.row] at hu⟩
     obtain⟨qb,qo,qs⟩:=q;replace h5:=h5 hxe;subst h5;rw [lL] at hp;subst hp;refine ⟨λ_=>rfl,λj u hu=>?_⟩;have e:E.row ((xs.take k).drop l) = ((E.row xs).take (k * E.size)).drop (l * E.size):=by rw [E.vX,E.qO]
     grind
theorem Ev.slice {E:dy α} {v:Value} {xs:List α} {e:TypeId} {lo hi:Operand} {l k:Int} (ht:P.underlying t = some (.slice e)) (T:jK P e E) (hx:cV F g x v) (hlo:cV F g lo (I l)) (hhi:cV F g hi (I k))
 (h:∀ w,bS K L w->bU E w v xs) (hb:g = true->0 <= l /\ l <= k /\ k <= xs.length):Ev P K F L g (.slice t x (some lo) (some hi) none) ty (uN E.size v l.toNat k.toNat):=.of rfl (λ_ _ _ _ _ _ _ _ _=>.bind (.sliceAt _ _ _ _ _) λ_=>.pure _) λhg a G w hw dst pos af gd=>by
 obtain⟨b,cap,rfl,h1,_,_⟩:=h w hw;obtain⟨h2,h3,h4⟩:=hb hg;have hu:(underlying t).run P w = .ok (.slice e) w:=by simp [underlying,ht]
 obtain⟨l,rfl⟩:=gK h2;obtain⟨k,rfl⟩:=gK (Int.le_trans h2 h3);have h5:k <= cap:=by omega
 have h6:l <= k:=by omega
 simp [execOp,Instr.sliceAt,hu,Instr.slice,Instr.sliceBounds,Instr.sliceBound,asIntOf,hx.eval hg G,hlo.eval hg G,hhi.eval hg G,I,h5,h6,run_sizeOf T,uN]
theorem Ev.zY {hi:Operand} {k:Int} (ht:P.underlying t = some (.slice e)) (T:jK P e E) (hx:cV F g x v) (hhi:cV F g hi (I k))
 (h:∀ w,bS K L w->bU E w v xs) (hb:g = true->0 <= k /\ k <= xs.length):Ev P K F L g (.slice t x none (some hi) none) ty (uN E.size v 0 k.toNat):=.of rfl (λ_ _ _ _ _ _ _ _ _=>.bind (.sliceAt _ _ _ _ _) λ_=>.pure _) λhg a G w hw dst pos af gd=>by
 obtain⟨b,cap,rfl,h1,_,_⟩:=h w hw;obtain⟨h2,h3⟩:=hb hg;have hu:(underlying t).run P w = .ok (.slice e) w:=by simp [underlying,ht]
 have h5:0 <= k /\ k <= (cap:Int):=by omega
 simp [execOp,Instr.sliceAt,hu,Instr.slice,Instr.sliceBounds,Instr.sliceBound,asIntOf,hx.eval hg G,hhi.eval hg G,I,h5,run_sizeOf T,uN]
theorem KE (ht:P.underlying t = some (.slice T)) (TT:jK P T E) (hsz:0 < E.size) {z:Value}
 (hz:(P.info? T).map (λi=>(i.zero,i.bytes)) = some (some z,Qf)) (Vt:z.cells.size = E.size)
 (hown:w.ownsRow 0 T E.size v xs.length (E.row xs)) (hsrc:bU E w u ys) (h63:xs.length + ys.length <= maxLen) (hby:(xs.length + ys.length) * Qf <= 140737488355328) :
 ∃ v' w',(Builtin.append_ #[t,t] ty #[v,u]).run P w = .ok v' w' /\ w'.ownsRow 0 T E.size v' (xs ++ ys).length (E.row (xs ++ ys)) /\ w.grownBy w' v.ownBlock /\ (v'.ownBlock = v.ownBlock \/ v'.ownBlock = some w.heap.size):=by
 cases hi:P.info? T with
 | none=>grind
 | some i =>
   rw [hi] at hz;simp only [cB,br,eU] at hz;obtain⟨hz1,hz2⟩:=hz;obtain⟨i',hi',Ed⟩:=TT.sz;rw [hi] at hi';obtain rfl:=ak hi';have hlen:(E.row (xs ++ ys)).length = (xs ++ ys).length * E.size:=E.fp _;obtain⟨a,c,rfl,h1,h2,h3,h4⟩:=hsrc;cases a with
   | none =>
     obtain⟨rfl,rfl⟩:=h3 rfl;have hr:=run_append_owned_none (P:=P) (w:=w) 0 t ty T i E.size ht hi v xs.length (E.row xs) hown;refine ⟨v,w,hr,by grind,⟨rfl,rfl,rfl,aA _,λ_ _ _=>rfl⟩,.inl rfl⟩
   | some p =>
     obtain⟨NK,hpc⟩:=h4 p rfl;have hnews:∀ j u,(E.row ys)[j]? = some u->w.cell? (p.add j) = some u:=λj u hu=>by
      have hne:ys ≠ []:=λe=>by rw [e] at hu; simp [dy.row] at hu
      obtain⟨pb,po,ps⟩:=p;have h:=NK hne;simp only at h;subst h;rw [lL];exact hpc j u hu
     have hyl:(E.row ys).length = ys.length * i.size:=by rw [E.fp,Ed]
     have hm:maxLen = 9223372036854775807:=rfl
     rcases hown.2 with ⟨rfl,QI⟩ | ⟨gb,cap,cur,rfl,hbg,hg,hnc,hcm,hcs,IG⟩
     ·have hx:xs = []:=dQ QI;subst hx
      by_cases hy0:ys = []
      ·subst hy0;refine ⟨.slice none 0 0,w,?_,by assumption,⟨rfl,rfl,rfl,aA _,λ_ _ _=>rfl⟩,.inl rfl⟩;simp [Builtin.append_,pn ht,sizeOf,typeInfo,hi,Builtin.lenOf,Builtin.firstCells,loadCells,loadCellsFrom]
      ·have hpos:0 < ys.length:=lV.2 hy0;have hr:=run_append_nil (P:=P) w t ty T i z ht hi hz1 p ys.length c (E.row ys) hyl hnews hpos (by simp at h63; omega) (by simp only [bw,a9] at hby; rw [hz2]; omega);have hge:=grownCap_ge w ys.length 0 T;have hcm:=grownCap_le_maxLen w ys.length 0 T (by simpa using h63);refine ⟨_,_,hr,⟨hlen,.inr ⟨w.heap.size,_,_,rfl,bu _,heap_alloc_new w.drew _,?_,hcm,?_,?_⟩⟩,⟨rfl,rfl,rfl,by simp,λk hk _=>heap_alloc_old w.drew _ k hk⟩,.inr rfl⟩
       ·assumption
       ·simp only [Array.size_append,bK,E.fp,size_zeroCells,Vt,<- dY]
        grind
       grind
     ·by_cases hroom:xs.length + ys.length <= cap
      ·have ym:xs.length * i.size + (E.row ys).length <= cur.size:=by rw [hyl,hcs,<- Ed,<- dY]; exact dH _ hroom
       have hr:=run_append_room (P:=P) w t ty T i ht hi gb xs.length cap cur hg p ys.length c (E.row ys) hyl hnews (E.tF ys) hroom ym;rw [Ed] at hr ym;refine ⟨_,_,hr,⟨hlen,.inr ⟨gb,cap,_,by simp,bu _,setRow_heap w gb cur _ T _ hg,by grind,hcm,?_,?_⟩⟩,⟨rfl,rfl,rfl,by simp,λk _ hk=>setRow_other w gb k _ (λe=>hk (by simp [Value.ownBlock,e]))⟩,.inl rfl⟩
       ·grind
       ·rw [IG,<- hlen,E.ql]
        grind
      ·have holds:∀ j u,(E.row xs)[j]? = some u->w.cell? ((⟨gb,0,none⟩:Addr).add j) = some u:=hown.cells (g:=gb) rfl;have hr:=run_append_grow (P:=P) w t ty T i z ht hi hz1 ⟨gb,0,none⟩ xs.length cap (E.row xs) (by rw [hown.1,Ed]) holds p ys.length c (E.row ys) hyl hnews (by omega) (by omega) (by rw [hz2]; exact growslice_fits (by omega) hby);have hge:=grownCap_ge w (xs.length + ys.length) cap T;have ajM:=grownCap_le_maxLen w (xs.length + ys.length) cap T h63;refine ⟨_,_,hr,⟨hlen,.inr ⟨w.heap.size,_,_,by simp,bu _,heap_alloc_new w.drew _,by grind,ajM,?_,?_⟩⟩,⟨rfl,rfl,rfl,by simp,λk hk _=>heap_alloc_old w.drew _ k hk⟩,.inr rfl⟩
       ·simp only [Array.size_append,bK,E.fp,size_zeroCells,Vt,<- dY]
        grind
       ·simp only [Array.toList_append,bM,E.ql];rw [<- bM,gA (by simp only [cK,E.fp]; rw [<- dY]; exact aA _),bH (by simp only [cK,E.fp]; rw [<- dY]; exact aA _)]
theorem Gm {size:Nat} {xs:List Value} (h:w.ownsRow 0 T size v n xs):v.oneCell' = true:=by
 rcases h.2 with ⟨rfl,_⟩ | ⟨g,cap,cur,rfl,_⟩ <;> rfl
theorem bU.one (h:bU E w v xs):v.oneCell' = true:=by
 obtain⟨a,cap,rfl,_⟩:=h
 rfl
theorem append {E:dy α} {v u:Value} {xs ys:List α} {T:TypeId} {L':Value->List du} {z:Value} {Qf:Nat} (ht:P.underlying t = some (.slice T)) (TT:jK P T E) (hsz:Nat.blt 0 E.size = true)
 (hz:(P.info? T).map (λi=>(i.zero,i.bytes)) = some (some z,Qf)) (Vt:z.cells.size = E.size)
 (hx:cV F true x v) (hy:cV F true y u) (hu:∀ v',mS L (bY v E xs T) (bY v' E (xs ++ ys) T) (L' v')) (hsrc:∀ w,bS K L w->bU E w u ys) (hby:xs.length + ys.length <= maxLen /\ (xs.length + ys.length) * Qf <= 140737488355328)
 (next:∀ o:OV,Sat K N ((d,true,o.v) :: F) (L' o.v)) (hd:Nat.blt d K.n = true:=by rfl) :
 Sat K (dw P K ops Q ⟨some d,.call { callee:=.builtin .append,args:=#[x,y],argTypes:=#[t,t] },ty,pos,af,none⟩ N) F L:=λa w G=>by
 refine dI rfl rfl λhn=>?_
 have hown:=(G.inv.own _ (hu undef).mem).1;obtain⟨v',w',hr,h1,h2,h3⟩:=KE (P:=P) (ty:=ty) ht TT (by simp_all) hz Vt hown (hsrc w G.inv) hby.1 hby.2;have he:(execOp a.eval ⟨some d,.call { callee:=.builtin .append,args:=#[x,y],argTypes:=#[t,t] },ty,pos,af,none⟩).run P w = .ok (.value v') w':=by
  simp [execOp,resolve,invoke,builtin,hx.eval rfl G.fo,hy.eval rfl G.fo,hr]
 have qT:=(hu undef).mem;refine xL he ?_ hn ?_
 ·have e:execOp a.eval ⟨some d,.call { callee:=.builtin .append,args:=#[x,y],argTypes:=#[t,t] },ty,pos,af,none⟩ = (Builtin.append_ #[t,t] ty #[v,u] >>= λr=>pure (Next.value r)):=by
   simp [execOp,resolve,invoke,builtin,hx.eval rfl G.fo,hy.eval rfl G.fo]
  rw [e];exact .bind (.append ht λb hb=>⟨((G.inv.own _ qT).2 b hb).1,G.inv.fr qT b hb⟩) λ_=>.pure _
 refine next ⟨v',Gm h1⟩ _ _ (G.put d true _ _ (by simp_all) rfl (G.inv.upd (hu v') ((bf.Su h2).mono (λi hi=>hi)) h1 ?_));intro b hb;have hlt:=(h1.lt b hb).2;refine ⟨?_,hlt⟩;have hb':v'.ownBlock = some b:=hb
 rcases h3 with h3 | h3
 ·exact .inl (h3.symm.trans hb')
 grind
theorem jf {X:Act->World->Prop} (E:dy α) (T:TypeId) (h:Sat K X F (bY (.slice none 0 0) E [] T :: L)):Sat K X F L:=λa w G =>
 h a w (G.world (G.inv.add (bf.refl _ _) (by simpa [dy.row,bY] using World.ownsRow_nil w 0 T E.size) (λb hb=>by cases hb)))
theorem Ev.aaG {lo:Operand} {l:Int} (ht:P.underlying t = some (.slice e)) (T:jK P e E) (hx:cV F g x v) (hlo:cV F g lo (I l))
 (h:∀ w,bS K L w->bU E w v xs) (hb:g = true->0 <= l /\ l <= xs.length):Ev P K F L g (.slice t x (some lo) none none) ty (uN E.size v l.toNat xs.length):=.of rfl (λ_ _ _ _ _ _ _ _ _=>.bind (.sliceAt _ _ _ _ _) λ_=>.pure _) λhg a G w hw dst pos af gd=>by
 obtain⟨b,cap,rfl,h1,_,_⟩:=h w hw;obtain⟨h2,h3⟩:=hb hg;have hu:(underlying t).run P w = .ok (.slice e) w:=by simp [underlying,ht]
 have h6:0 <= l /\ l <= (xs.length:Int):=by omega
 simp [execOp,Instr.sliceAt,hu,Instr.slice,Instr.sliceBounds,Instr.sliceBound,asIntOf,hx.eval hg G,hlo.eval hg G,I,h6,run_sizeOf T,uN]
end
section
def cW (E:dy α) (E':dy β):dy (α × β) where
 size:=E.size + E'.size
 agg:=true
 cells x:=E.cells x.1 ++ E'.cells x.2
 zero:=(E.zero,E'.zero)
 len x:=by rw [cK,E.len,E'.len]
 one x v hv:=by
  rcases bG.1 hv with h | h
  ·exact E.one _ v h
  ·exact E'.one _ v h
 sc h:=by cases h
def l8 (E:dy β) (to:β->α) (of:α->β):dy α where
 size:=E.size
 agg:=true
 cells x:=E.cells (of x)
 zero:=to E.zero
 len x:=E.len _
 one x:=E.one _
 sc h:=by cases h
def mh (n:Nat) (E:dy α):dy (Vector α n) where
 size:=n * E.size
 agg:=true
 cells x:=E.row x.toList
 zero:=Vector.replicate n E.zero
 len x:=by rw [E.fp,fK]
 one x:=E.tF _
 sc h:=by cases h
def ai7 (E:dy α) (E':dy β):aB (cW E E') E 0 where
 get x:=x.1
 set x y:=(y,x.2)
 fits:=by simp [cW]
 yl x:=by simp [cW,<- E.len x.1]
 wC x y:=by simp [cW,<- E.len x.1]
def ai5 (E:dy α) (E':dy β):aB (cW E E') E' E.size where
 get x:=x.2
 set x y:=(x.1,y)
 fits:=by simp [cW]
 yl x:=by simp [cW,<- E.len x.1,<- E'.len x.2]
 wC x y:=by
  have h:(E.cells x.1 ++ E'.cells x.2).length = E.size + E'.size:=by rw [cK,E.len,E'.len]
  simp only [cW];rw [<- h,List.drop_length,dS,gA (by rw [E.len]; exact aA _),bH (by rw [E.len]; exact aA _)]
def ai6 (E:dy β) (to:β->α) (of:α->β) (h:∀ x,of (to x) = x) {E':dy γ} (l:aB E E' o):aB (l8 E to of) E' o where
 get x:=l.get (of x)
 set x y:=to (l.set (of x) y)
 fits:=l.fits
 yl x:=l.yl _
 wC x y:=by
  show E.cells (of (to _)) = _;rw [h]; exact l.wC _ _
def rP (E:dy α) (i:Nat) (hi:i < n):aB (mh n E) E (i * E.size) where
 get x:=x[i]
 set x y:=x.set i y
 fits:=by
  show i * E.size + E.size <= n * E.size;have:(i + 1) * E.size <= n * E.size:=dH _ hi
  grind
 yl x:=by
  have hl:x.toList.length = n:=fK;show ((E.row x.toList).drop (i * E.size)).take E.size = E.cells x[i];have h1:=E.qO x.toList i;have h2:x.toList.drop i = x[i] :: x.toList.drop (i + 1):=by
   rw [dR (by rw [hl]; exact hi)]; simp
  have e:E.row (x[i] :: x.toList.drop (i + 1)) = E.cells x[i] ++ E.row (x.toList.drop (i + 1)):=by simp [dy.row]
  rw [h1,h2,e,<- E.len x[i],pw]
 wC x y:=by
  have hl:x.toList.length = n:=fK;show E.row (x.set i y).toList = _;have h1:(x.set i y).toList = x.toList.set i y:=by simp [Vector.toList_set]
  rw [h1,E.Na _ _ _ (by rw [hl]; exact hi)]
  rfl
def rZ (P:Program) (t:TypeId) (E:dy α) (q:α->α->Bool) (n:Nat):Prop :=
 (∀ d,n <= d->∀ w x y,(Op.equalIn d t (E.val x) (E.val y)).run P w = .ok (q x y) w) /\ ∀ d,n <= d->∀ x y pm fr,Tm P pm fr (Op.equalIn d t (E.val x) (E.val y))
def vD [DecidableEq α] (x y:α):Bool:=decide (x = y)
theorem Df {f:α->Int} (E:dy α) (hE:∀ x,E.val x = .int k (f x)) (hu:P.underlying t = some (.int k)) (hq:∀ x y,(f x == f y) = q x y):rZ P t E q 1:=by
 refine ⟨?_,?_⟩
 ·intro d hd w x y;obtain⟨d,rfl⟩:=bV hd;rw [hE,hE,run_equalIn_int w d t k k _ _ hu,hq]
 ·intro d hd x y pm fr;obtain⟨d,rfl⟩:=bV hd;rw [hE,hE];refine .under hu ?_;simp only [if_true];exact .pure _
theorem GY (hu:P.underlying t = some (.int .u8)):rZ P t iO vD 1:=Df iO (λ_=>rfl) hu (λx y=>by
 show decide ((x.toNat:Int) = y.toNat) = decide (x = y); simp only [G8])
theorem Jc (hu:P.underlying t = some (.int .u16)):rZ P t xw vD 1:=Df xw (λ_=>rfl) hu (λx y=>by
 show decide ((x.toNat:Int) = y.toNat) = decide (x = y); simp only [Dw])
def TV (hu:P.underlying t = some (.int .i64)):rZ P t iE vD 1:=Df iE (λ_=>rfl) hu (λ_ _=>rfl)
theorem aca (hu:P.underlying t = some .bool):rZ P t bE vD 1:=by
 refine ⟨?_,?_⟩
 ·intro d hd w x y;obtain⟨d,rfl⟩:=bV hd;show (Op.equalIn (d + 1) t (.bool x) (.bool y)).run P w = _;rw [run_equalIn_bool' w d t x y hu]
  rfl
 ·intro d hd x y pm fr;obtain⟨d,rfl⟩:=bV hd;show Tm P pm fr (Op.equalIn (d + 1) t (.bool x) (.bool y));exact .under hu (.pure _)
def eqs (x y:ByteArray):Bool:=x == y
theorem ab9 (hu:P.underlying t = some .string):rZ P t sE eqs 1:=by
 refine ⟨?_,?_⟩
 ·intro d hd w x y;obtain⟨d,rfl⟩:=bV hd;show (Op.equalIn (d + 1) t (.string x) (.string y)).run P w = _;have hu':(underlying t).run P w = .ok .string w:=by simp [underlying,hu]
  simp only [Op.equalIn,ay,hu',aj,aJ]
  rfl
 ·intro d hd x y pm fr;obtain⟨d,rfl⟩:=bV hd;show Tm P pm fr (Op.equalIn (d + 1) t (.string x) (.string y));exact .under hu (.pure _)
theorem oy (T:jK P t E') (l:aB E E' o) (x:α) (w:World):(part t (E.cells x).toArray o).run P w = .ok (E'.val (l.get x)) w:=by
 have h:=l.yl x;simp only [part,ay,EK T,aj];unfold dy.val;cases ha:E'.agg with
 | true =>
   simp only [if_true,ay,run_sizeOf T,aj,aJ,iT]
   grind
 | false =>
   have hs:=E'.sc ha;have hl:(E'.cells (l.get x)).length = 1:=by rw [E'.len,hs]
   match hc:E'.cells (l.get x),hl with
   | [v],_ =>
     rw [hc,hs] at h;have h2:(E.cells x)[o]? = some v:=by
      have h3:(((E.cells x).drop o).take 1)[0]? = some v:=by rw [h]; rfl
      rw [fD] at h3
      simpa [jj] using h3
     simp [h2]
def MF (P:Program) (E:dy α) (n:Nat) (fs:List Field) (q:α->α->Bool):Prop :=
 (∀ d,n <= d->∀ w x y,(Op.eqFields d (E.cells x).toArray (E.cells y).toArray fs).run P w = .ok (q x y) w) ∧
 ∀ d,n <= d->∀ x y,∀ f ∈ fs,f.name ≠ "_"->∃ a b,(∀ v,(part f.type (E.cells x).toArray f.offset).run P v = .ok a v) /\ (∀ v,(part f.type (E.cells y).toArray f.offset).run P v = .ok b v) /\ ∀ pm fr,Tm P pm fr (Op.equalIn d f.type a b)
theorem MF.nil:MF P E n [] (λ_ _=>true):=⟨λd _ w x y=>rfl,λd _ x y f hf=>by cases hf⟩
theorem MF.cons {f:Field} {q':β->β->Bool} (hn:f.name ≠ "_") (ho:f.offset = o) (l:aB E E' o) (T:jK P f.type E') (h:rZ P f.type E' q' n) (hr:MF P E n fs q) :
 MF P E n (f :: fs) (λx y=>q' (l.get x) (l.get y) && q x y):=by
 subst ho;refine ⟨λd hd w x y=>?_,λd hd x y g hg hne=>?_⟩
 ·simp only [Op.eqFields,hn,ne_eq,jE,if_true,ay,oy T l,aj,h.1 d hd,Sem.run_ite,aJ,hr.1 d hd]
  grind
 ·rcases aE.1 hg with rfl | hg
  ·exact ⟨_,_,λv=>oy T l x v,λv=>oy T l y v,h.2 d hd _ _⟩
  ·exact hr.2 d hd x y g hg hne
theorem wK {q':α->α->Bool} (hu:P.underlying t = some (.struct fs.toArray)) (hs:P.stoodInHeld t = false) (ha:E.agg = true) (h:MF P E n fs q) (hq:∀ x y,q x y = q' x y):rZ P t E q' (n + 1):=by
 refine ⟨?_,?_⟩
 ·intro d hd w x y;obtain⟨d,rfl⟩:=bV (az (jo 1 n) hd);have hf:P.fieldsOf t = fs.toArray:=by simp [Program.fieldsOf,hu]
  unfold dy.val;rw [ha,iT,iT,run_equalIn_struct w d t _ _ (by rw [hf]; exact hu) hs,hf];rw [show fs.toArray.toList = fs from rfl,h.1 d (by omega) w x y,hq]
 ·intro d hd x y pm fr;obtain⟨d,rfl⟩:=bV (az (jo 1 n) hd);unfold dy.val;rw [ha,iT,iT];refine .under hu (.pF ?_);simp only [hs,aI,cD];rw [<- mr];refine .bind (.Db _ _ _ λf hf s=>?_) λr=>?_
  ·by_cases hn:f.name = "_"
   ·simp only [hn,ne_eq,not_true_eq_false,cD];exact .pure _
   ·simp only [hn,ne_eq,jE,if_true];have⟨a,b,h1,h2,h3⟩:=h.2 d (by omega) x y f hf hn;refine .known (.part _ _ _) h1 (.known (.part _ _ _) h2 (.bind (h3 _ _) λr=>?_));split <;> exact .pure _
  ·split <;> exact .pure _
def VB (q:α->α->Bool):List α->List α->Bool
 | [],_=>true
 | _ :: _,[]=>true
 | x :: xs,y :: ys=>q x y && VB q xs ys
def eqA (n:Nat) (q:α->α->Bool) (x y:Vector α n):Bool:=VB q x.toList y.toList
theorem N3 {q:α->α->Bool} (hq:∀ x y,q x y = true ↔ x = y):∀ xs ys:List α,xs.length = ys.length->(VB q xs ys = true ↔ xs = ys)
 | [],[],_=>by simp [VB]
 | x :: xs,y :: ys,h=>by
   simp only [VB,cF,hq,N3 hq xs ys (by grind),ko]
theorem Yc (hq:∀ x y,q x y = true ↔ x = y) (x y:Vector α n):eqA n q x y = true ↔ x = y:=by
 unfold eqA;rw [N3 hq _ _ (by rw [fK,fK]),Vector.toList_inj]
theorem zw [DecidableEq α] (x y:α):vD x y = true ↔ x = y:=by exact cn
theorem rR (x y:ByteArray):eqs x y = true ↔ x = y:=by
 unfold eqs;rw [beq_toListBytes,beq_iff_eq,ByteArray.toList_eq,ByteArray.toList_eq];have⟨⟨x⟩⟩:=x;have⟨⟨y⟩⟩:=y;simp
theorem T0 (h1:i < xs.length) (h2:i < ys.length):VB q (xs.drop i) (ys.drop i) = (q xs[i] ys[i] && VB q (xs.drop (i + 1)) (ys.drop (i + 1))):=by
 rw [dR h1,dR h2]; rfl
theorem Dg {m:Nat} (hu:P.underlying t = some (.array n e)) (T:jK P e E) (h:rZ P e E q m):rZ P t (mh n E) (eqA n q) (m + 1):=by
 refine ⟨?_,?_⟩
 ·intro d hd w x y;obtain⟨d,rfl⟩:=bV (az (jo 1 m) hd);have hru:(underlying t).run P w = .ok (.array n e) w:=by simp [underlying,hu]
  show (Op.equalIn (d + 1) t (.agg (E.row x.toList).toArray) (.agg (E.row y.toList).toArray)).run P w = _;have hp:∀ (v:Vector α n) (i:Nat) (hi:i < n) (w:World),(part e (E.row v.toList).toArray (i * E.size)).run P w = .ok (E.val v[i]) w:=λv i hi w=>oy T (rP E i hi) v w
  simp only [Op.equalIn,ay,hru,aj,run_sizeOf T];have hx:x.toList.length = n:=fK;have hy:y.toList.length = n:=fK;have key:∀ k i,k = n - i->i <= n->∀ (f:Option Bool × Unit->Sem Bool),(∀ r w,r.1 = none->(f r).run P w = .ok true w)->(∀ b r w,r.1 = some b->(f r).run P w = .ok b w) ->
   ((forIn (List.range' i k) ((none,()):Option Bool × Unit) (λi _=>do
     let a <- part e (E.row x.toList).toArray (i * E.size)
     let b <- part e (E.row y.toList).toArray (i * E.size)
     let r <- Op.equalIn d e a b
     if (!r) = true then pure (ForInStep.done (some false,())) else pure (ForInStep.yield (none,())))) >>= f).run P w =
   .ok (VB q (x.toList.drop i) (y.toList.drop i)) w:=by
   intro k
   induction k with
   | zero =>
     intro i hk hi f h1 _;have e1:x.toList.drop i = []:=gT (by omega);rw [e1];simp [VB,h1]
   | succ k ih =>
     intro i hk hi f h1 h2;have hlt:i < n:=by omega
     rw [T0 (by omega) (by omega)];simp only [nY,km,ay,hp x i hlt,hp y i hlt,aj,h.1 d (by omega),Sem.run_ite,aJ];have ex:x.toList[i]'(by omega) = x[i]:=by simp
     have ey:y.toList[i]'(by omega) = y[i]:=by simp
     rw [ex,ey];cases hq:q x[i] y[i] with
     | false =>
       simp only [pz,if_true,aj,Bool.false_and,aJ];exact h2 false _ _ rfl
     | true =>
       simp only [Bool.not_true,aI,cD,aj,Bool.true_and];have:=ih (i + 1) (by omega) (by omega) f h1 h2
       simpa only [ay] using this
  rw [fY];simp only [Std.Legacy.Range.size];have e0:(n - 0 + 1 - 1) / 1 = n:=by simp
  rw [e0];have hk:=key n 0 (by omega) (bu _) (λa=>match a.fst with
   | some r=>pure r
   | none=>pure true) (λr w hr=>by simp only [hr]; rfl) (λb r w hr=>by simp only [hr]; rfl)
  rw [ay] at hk;rw [show eqA n q x y = VB q (x.toList.drop 0) (y.toList.drop 0) from rfl,<- hk]
  grind
 ·intro d hd x y pm fr;obtain⟨d,rfl⟩:=bV (az (jo 1 m) hd);show Tm P pm fr (Op.equalIn (d + 1) t (.agg (E.row x.toList).toArray) (.agg (E.row y.toList).toArray));refine .under hu (.known (.sizeOf _) (λv=>run_sizeOf T v) ?_);rw [fY];refine .bind (.Db _ _ _ λi hi s=>?_) λr=>?_
  ·have hlt:i < n:=by
    have:=(List.mem_range'.1 hi).choose_spec;simp [Std.Legacy.Range.size] at this;omega
   refine .known (.part _ _ _) (λv=>oy T (rP E i hlt) x v) (.known (.part _ _ _) (λv=>oy T (rP E i hlt) y v) (.bind (h.2 d (by omega) _ _ _ _) λr=>?_));split <;> exact .pure _
  ·have⟨r,u⟩:=r;cases r <;> exact .pure _
variable {op:Op} {y:Operand}
theorem vS {op:BinOp} {y:Operand} {xs ys:Array Value} (hm:P.eqGuardType P.depth t = false):Tm P pm fr (eqGuard op t x y (.agg xs) (.agg ys)):=by
 cases op <;> first
  | exact .pure _
  | (refine .pF (.pF ?_)
     simp only [hm,pz,if_true];exact .pure _)
theorem Ev.acd {u v:α} (ha:E.agg = true) (h:rZ P t E q n) (hn:Nat.ble n 9999 = true) (hm:P.eqGuardType P.depth t = false) (hx:cV F g x (E.val u)) (hy:cV F g y (E.val v)) :
 Ev P K F L g (.binOp .eql t x y t') ty (.bool (q u v)) :=
 Ev.bin hx hy (λw=>by
  unfold dy.val; rw [ha]; exact run_eqGuard_agg (P:=P) w _ t x y _ _ hm) (λw=>by
  have h1:=h.1 10000 (az (by simpa [qA] using hn) (by omega)) w u v;unfold dy.val at h1 ⊢;rw [ha] at h1 ⊢;simp only [iT] at h1 ⊢;rw [run_eql_struct (P:=P) w,h1]
  rfl) (by unfold dy.val; rw [ha]; exact vS hm) (by
  have h2:=h.2 10000 (az (by simpa [qA] using hn) (by omega)) u v (q9 K) K.E.fr;unfold dy.val at h2 ⊢;rw [ha] at h2 ⊢;exact .bind h2 λ_=>.pure _)
theorem Ev.SC {u v:α} (ha:E.agg = true) (h:rZ P t E q n) (hn:Nat.ble n 9999 = true) (hm:P.eqGuardType P.depth t = false) (hx:cV F g x (E.val u)) (hy:cV F g y (E.val v)) :
 Ev P K F L g (.binOp .neq t x y t') ty (.bool (!q u v)) :=
 Ev.bin hx hy (λw=>by
  unfold dy.val; rw [ha]; exact run_eqGuard_agg (P:=P) w _ t x y _ _ hm) (λw=>by
  have h1:=h.1 10000 (az (by simpa [qA] using hn) (by omega)) w u v;unfold dy.val at h1 ⊢;rw [ha] at h1 ⊢;simp only [iT] at h1 ⊢;rw [run_neq_struct (P:=P) w,h1]
  rfl) (by unfold dy.val; rw [ha]; exact vS hm) (by
  have h2:=h.2 10000 (az (by simpa [qA] using hn) (by omega)) u v (q9 K) K.E.fr;unfold dy.val at h2 ⊢;rw [ha] at h2 ⊢;exact .bind h2 λ_=>.pure _)
theorem Ao:∀ (vs:List Value) (off:Nat) (k:Nat) (cur:Array Value),off + k + vs.length <= cur.size ->
 ((vs.zipIdx k).foldl (λcs (c:Value × Nat)=>cs.setIfInBounds (off + c.2) c.1) cur).toList = cur.toList.take (off + k) ++ vs ++ cur.toList.drop (off + k + vs.length)
 | [],off,k,cur,_=>by simp
 | v :: vs,off,k,cur,h=>by
   simp only [List.zipIdx_cons,List.foldl_cons];rw [Ao vs off (k + 1) _ (by simp only [aS] at h; simp; omega)];simp only [aS] at h;rw [Array.toList_setIfInBounds];have h0:off + k < cur.toList.length:=by simp; omega
   rw [gX,if_pos h0];have e1:(cur.toList.take (off + k) ++ v :: cur.toList.drop (off + k + 1)).take (off + (k + 1)) = cur.toList.take (off + k) ++ [v]:=by
    rw [List.take_append];have hl:(cur.toList.take (off + k)).length = off + k:=by rw [dC]; omega
    rw [hl,pr,fH (by omega),show off + (k + 1) - (off + k) = 1 by omega]
    rfl
   have e2:(cur.toList.take (off + k) ++ v :: cur.toList.drop (off + k + 1)).drop (off + (k + 1) + vs.length) = cur.toList.drop (off + k + (vs.length + 1)):=by
    rw [List.drop_append];have hl:(cur.toList.take (off + k)).length = off + k:=by rw [dC]; omega
    rw [hl,gT (by rw [hl]; omega),show off + (k + 1) + vs.length - (off + k) = vs.length + 1 by omega,List.drop_succ_cons,ib,lU]
    congr 1
    omega
   simp_all
theorem PQ (l:aB E E' o) (z:α) (v:β) :
 (((E'.val v).cells.zipIdx.foldl (λcs (c:Value × Nat)=>cs.setIfInBounds (o + c.2) c.1) (E.cells z).toArray)) = (E.cells (l.set z v)).toArray:=by
 apply Array.ext';rw [E'.kN,<- Array.foldl_toList];have e:((E'.cells v).toArray.zipIdx).toList = (E'.cells v).zipIdx:=by simp
 rw [e,Ao _ o 0 _ (by simp [E'.len,E.len]; have:=l.fits; omega),l.wC];simp [E'.len]
def bB (P:Program) (E:dy α) (place:Nat->Option (Nat × Nat)):List (Nat × Value)->α->α->Prop
 | [],z,r=>r = z
 | (i,v) :: ps,z,r=>∃ cs,Instr.fill place (E.cells z).toArray [(i,v)] = some cs /\ ∃ z',cs = (E.cells z').toArray /\ bB P E place ps z' r
theorem bB.nil {z:α}:bB P E place [] z z:=rfl
theorem bB.cons {v:β} {ps:List (Nat × Value)} {z r:α} (l:aB E E' o) (hp:place i = some (o,E'.size)) (h:bB P E place ps (l.set z v) r):bB P E place ((i,E'.val v) :: ps) z r:=by
 refine ⟨_,?_,l.set z v,PQ l z v,h⟩;unfold Instr.fill;rw [hp];have h1:(E'.val v).cells.size = E'.size:=by simp [E'.kN,E'.len]
 have h2:¬ ((E'.val v).cells.size ≠ E'.size \/ o + (E'.val v).cells.size > (E.cells z).toArray.size):=by
  have:=l.fits;rw [h1]; simp [E.len]; omega
 simp only [iH,kP] at *;rw [if_neg h2]
 rfl
theorem PR (place:Nat->Option (Nat × Nat)) (cs:Array Value) (p:Nat × Value) (ps:List (Nat × Value)):Instr.fill place cs (p :: ps) = (Instr.fill place cs [p]).bind (λcs=>Instr.fill place cs ps):=by
 have⟨i,v⟩:=p;simp only [Instr.fill];cases place i with
 | none=>rfl
 | some os =>
   grind
theorem bB.run {E:dy α} {place:Nat->Option (Nat × Nat)}:∀ {ps:List (Nat × Value)} {z r:α},bB P E place ps z r->Instr.fill place (E.cells z).toArray ps = some (E.cells r).toArray
 | [],z,r,h=>by rw [show r = z from h]; rfl
 | p :: ps,z,r,h=>by
   obtain⟨cs,h1,z',rfl,h2⟩:=h;rw [PR,h1,cQ];exact bB.run h2
def sY (F:Fr) (g:Bool):List (Nat × Operand)->List (Nat × Value)->Prop
 | [],vs=>vs = []
 | (i,x) :: ps,vs=>∃ v us,vs = (i,v) :: us /\ cV F g x v /\ sY F g ps us
theorem sY.nil:sY F g [] []:=rfl
theorem sY.cons {us:List (Nat × Value)} (h:cV F g x v) (hs:sY F g ps us):sY F g ((i,x) :: ps) ((i,v) :: us):=⟨v,us,rfl,h,hs⟩
theorem sY.eval:∀ {ps:List (Nat × Operand)} {vs:List (Nat × Value)},sY F g ps vs->g = true->∀ {a:Act},kD K F a->ps.map (λp=>(p.1,a.eval p.2)) = vs
 | [],_,h,_,_,_=>by rw [show _ = [] from h]; rfl
 | (i,x) :: ps,vs,h,hg,a,G=>by
   obtain⟨v,us,rfl,h,hs⟩:=h;simp [h.eval hg G,sY.eval hs hg G]
theorem Tm.build {pm:Nat->Prop} {fr:Nat} (t:TypeId) (ps:Array (Nat × Value)):Tm P pm fr (Instr.build t ps):=by
 refine .bind (.zeroValue _) λz=>.bind (.underlying _) λd=>?_
 cases d with
 | struct fields =>
   refine .bind ?_ λplaces=>?_
   ·rw [<- Array.toArray_toList (xs:=fields),mZ];exact .map _ (.mapM _ (λf=>.bind (.sizeOf _) λ_=>.pure _) _)
   ·split
    ·exact .pure _
    ·exact .stuck _
 | array n e =>
   refine .bind (.sizeOf _) λ_=>?_
   split
   ·exact .pure _
   ·exact .stuck _
 | _=>exact .stuck _
theorem Ev.fe {vs:List (Nat × Value)} {r:α} {places:List (Nat × Nat)} (hz:(P.info? t).bind (·.zero) = some (E.val E.zero)) (ha:E.agg = true) (hu:P.underlying t = some (.struct fs.toArray))
 (hp:fs.mapM (λf=>(P.info? f.type).map (λi=>(f.offset,i.size))) = some places) (hv:sY F g ps vs) (hf:bB P E (λi=>places[i]?) vs E.zero r) :
 Ev P K F L g (.build t ps.toArray) ty (E.val r):=.of rfl (λ_ _ _ _ _ _ _ _ _=>.bind (.build _ _) λ_=>.pure _) λhg a G w hw dst pos af gd=>by
 have h1:=hv.eval hg G;cases hi:P.info? t with
 | none=>grind
 | some i =>
   rw [hi] at hz;simp only [cQ] at hz;have hru:(underlying t).run P w = .ok (.struct fs.toArray) w:=by simp [underlying,hu]
   have hpl:∀ (fs:List Field) (places:List (Nat × Nat)),fs.mapM (λf=>(P.info? f.type).map (λi=>(f.offset,i.size))) = some places ->
    (fs.mapM (λf=>do pure (f.offset,<- sizeOf f.type):Field->Sem (Nat × Nat))).run P w = .ok places w:=by
    intro fs
    induction fs with
    | nil=>intro places h; simp at h; subst h; rfl
    | cons f fs ih =>
      intro places h;simp only [kQ,Option.bind_eq_bind,mY,Option.pure_def] at h;have⟨p,hp,qs,hqs,hh⟩:=h;cases hif:P.info? f.type with
      | none=>rw [hif] at hp; cases hp
      | some fi =>
        rw [hif] at hp;simp only [cB,br] at hp hh;subst hp; subst hh;have hsz:(sizeOf f.type).run P w = .ok fi.size w:=by simp [sizeOf,typeInfo,hif]
        simp only [kQ,ay,hsz,aj,aJ,ih qs hqs]
   have ajp:=hpl fs places hp;have hr:=hf.run;have hzc:(E.val E.zero).cells = (E.cells E.zero).toArray:=E.kN _;have hvs:(List.map (λx=>(x.fst,a.eval x.snd)) ps) = vs:=h1;have hfin:(Value.agg (E.cells r).toArray) = E.val r:=by unfold dy.val; rw [ha]; rfl
   simp only [execOp,Instr.build,zeroValue,typeInfo,ay,run_program,aj,hi,aJ,hz,hru,mZ,Sem.run_map,ajp,hzc,gY,hvs]
   simp_all
theorem Ev.acB {vs:List (Nat × Value)} {r:Vector α n} (hz:(P.info? t).bind (·.zero) = some ((mh n E).val (mh n E).zero)) (hu:P.underlying t = some (.array n e)) (T:jK P e E)
 (hv:sY F g ps vs) (hf:bB P (mh n E) (λi=>some (i * E.size,E.size)) vs (mh n E).zero r):Ev P K F L g (.build t ps.toArray) ty ((mh n E).val r):=.of rfl (λ_ _ _ _ _ _ _ _ _=>.bind (.build _ _) λ_=>.pure _) λhg a G w hw dst pos af gd=>by
 have h1:=hv.eval hg G;cases hi:P.info? t with
 | none=>grind
 | some i =>
   rw [hi] at hz;simp only [cQ] at hz;have hru:(underlying t).run P w = .ok (.array n e) w:=by simp [underlying,hu]
   have hr:=hf.run;have hzc:((mh n E).val (mh n E).zero).cells = ((mh n E).cells (mh n E).zero).toArray:=(mh n E).kN _;have hvs:(List.map (λx=>(x.fst,a.eval x.snd)) ps) = vs:=h1;simp only [execOp,Instr.build,zeroValue,typeInfo,ay,run_program,aj,hi,aJ,hz,hru,run_sizeOf T,hzc,gY,hvs,hr]
   rfl
def aen:dy Unit where
 size:=0
 agg:=true
 cells _:=[]
 zero:=()
 len _:=rfl
 one _ v hv:=absurd hv aU
 sc h:=by cases h
end
section
variable {op:Op} {y:Operand}
def vM (w:World) (E:dy α) (xs:List α) (T:TypeId):ja:=Ret w λv w'=>True /\ Qx w w' [bY v E xs T]
def aiO:∀ w,bS ⟨n,w0,fX,e0⟩ L w->dO w0 v (.returned v) w:=λ_ h=>⟨rfl,h.keeps⟩
def Cq (h:v = u):∀ w,bS ⟨n,w0,fX,e0⟩ L w->dO w0 u (.returned v) w:=h ▸ aiO
theorem bX2 {c:Bool} (h:b = c):ug [.bool b] = .bool c:=by rw [h]; rfl
theorem Sz {r:du} (hm:r ∈ L) (h:bS ⟨n,w0,fX,e0⟩ L w):Qx w0 w [r]:=by
 refine ⟨λs hs=>?_,eD _ _⟩;rw [cq] at hs;subst hs;obtain⟨h1,h2⟩:=h.own _ hm;refine ⟨h1,λb hb=>⟨?_,(h2 b hb).2⟩⟩
 rcases (h2 b hb).1 with h3 | h3
 ·exact h3
 trivial
def aiP (hm:bY v E xs T ∈ L):∀ w,bS ⟨n,w0,fX,e0⟩ L w->vM w0 E xs T (.returned v) w :=
 λ_ h=>⟨v,rfl,h.keeps,trivial,Sz hm h⟩
def aeY (hm:bY v E xs T ∈ L) (h:xs = ys):∀ w,bS ⟨n,w0,fX,e0⟩ L w->vM w0 E ys T (.returned v) w:=h ▸ aiP hm
theorem o9 {l:List Oper} (hm:P.follows .mixedOrders = true)
 (h:Sat K (nk P K l.toArray Q L l.toArray.size (Array.replicate l.toArray.size false)) F L):Sat K ((Code.region id l.toArray true).oV P K Q) F L:=draw L hm h
def lC (L:List du) (r:du) (Lq:List du):Prop:=∃ A C,L = A ++ r :: C /\ Lq = A ++ C
def lC.head {r:du}:lC (r :: L) r L:=⟨[],L,rfl,rfl⟩
theorem lC.tail {x r:du} (h:lC L r L'):lC (x :: L) r (x :: L'):=by
 obtain⟨A,C,rfl,rfl⟩:=h;exact ⟨x :: A,C,rfl,rfl⟩
theorem T9 {l:List Oper} {r:du} (_hr:lC L r Lq) (hm:P.follows .mixedOrders = true)
 (h:Sat K (nk P K l.toArray Q Lq l.toArray.size (Array.replicate l.toArray.size false)) F L):Sat K ((Code.region id l.toArray true).oV P K Q) F L:=draw Lq hm h
theorem vE {l:List Oper} {b:Nat} (s:Nat) (_hx:look F s = some (true,.pointer (some ⟨b,o,none⟩))) (hr:lC L (Var b E xv T) Lq) (hm:P.follows .mixedOrders = true)
 (h:Sat K (nk P K l.toArray Q Lq l.toArray.size (Array.replicate l.toArray.size false)) F L):Sat K ((Code.region id l.toArray true).oV P K Q) F L:=T9 hr hm h
def jW (om:dV P f) (fQ:lM F true args vs)
    (hC:∀ w,bS K L w->Calls P f vs.toArray w (vM w E xs T)) (next:∀ o:OV,Sat K N ((d,true,o.v) :: F) (bY o.v E xs T :: L)) (hd:Nat.blt d K.n = true:=by rfl) :
    Sat K (dw P K ops Q ⟨some d,.call { callee:=.value (.func f),args:=args.toArray,argTypes:=qJ },ty,pos,af,none⟩ N) F L :=
 agU (λv=>v.oneCell' = true) (λv=>[bY v E xs T]) om fQ (λw hw=>(hC w hw).mono (λ_ h=>h) λe w' ⟨v,he,hk,_,hn⟩=>⟨v,he,hk,Gm (hn.1 _ ah).1,hn⟩) (λv h=>next ⟨v,h⟩) hd
def MC (E:dy α) (w:World) (v:Value) (rl:List (List α)):Prop :=
 ∃ vs:List OV,bU (dJ aM) w v vs /\ vs.length = rl.length /\ ∀ i,i < rl.length->bU E w (vs.getD i aM).v (rl.getD i [])
def VD (E:dy α) (w:World):List OV->List (List α)->Prop
 | [],rl=>rl = []
 | o :: vs,rl=>∃ xs yss,rl = xs :: yss /\ bU E w o.v xs /\ VD E w vs yss
theorem VD.nil:VD E w [] []:=rfl
theorem VD.cons {o:OV} {vs:List OV} (h:bU E w o.v xs) (hs:VD E w vs rl):VD E w (o :: vs) (xs :: rl):=⟨xs,rl,rfl,h,hs⟩
theorem VD.spec {E:dy α} {w:World}:∀ {vs:List OV} {rl:List (List α)},VD E w vs rl->vs.length = rl.length /\ ∀ i,i < rl.length->bU E w (vs.getD i aM).v (rl.getD i [])
 | [],_,h=>by rw [show _ = [] from h]; simp
 | o :: vs,_,⟨xs,yss,rfl,h,hs⟩=>by
   obtain⟨h1,h2⟩:=VD.spec hs
   grind
def MC.mk' {vs:List OV} (h:bU (dJ aM) w v vs) (he:VD E w vs rl):MC E w v rl:=⟨vs,h,he.spec.1,he.spec.2⟩
theorem Ev.lj {b:Nat} {i:Int} (ht:P.underlying t = some (.array n e)) (T:jK P e E) (hx:cV F g x (.pointer (some ⟨b,off,none⟩))) (hy:cV F g y (I i)) (hi:g = true->0 <= i /\ i < n) :
 Ev P K F L g (.indexAddr t x y) ty (.pointer (some ⟨b,off + i.toNat * E.size,none⟩)):=.of rfl (λ_ _ _ _ _ _ _ _ _=>.bind (.indexAt _ _ _) λ_=>.pure _) λhg a G w hw dst pos af gd=>by
 have hi':=hi hg;have hu:(underlying t).run P w = .ok (.array n e) w:=by simp [underlying,ht]
 simp [execOp,Instr.indexAt,Instr.sureAddr,asIntOf,hx.eval hg G,hy.eval hg G,I,hu,hi',run_sizeOf T,lL]
theorem Ev.TO {f:Nat} (ha:E.agg = true) (hf:(P.underlying t).bind (λd=>match d with | .struct fs=>(fs[f]?).map (λfd=>(fd.offset,fd.type)) | _=>none) = some (o,e)) (T:jK P e E') (l:aB E E' o)
 (hx:cV F g x (E.val xv)):Ev P K F L g (.field t x f) ty (E'.val (l.get xv)):=.of rfl (λ_ a _ _ _ _ _ _ _=>by
 show Tm P _ _ (Instr.field t (a.eval x) f >>= λr=>pure (Next.value r));refine .bind ?_ λ_=>.pure _
 refine .bind (.underlying _) λd=>?_
 split
 ·split
  ·exact .bind (.asAgg _) λ_=>.part _ _ _
  ·exact .stuck _
 ·exact .stuck _) λhg a G w hw dst pos af gd=>by
 cases hu:P.underlying t with
 | none=>grind
 | some dsc =>
   rw [hu] at hf;cases dsc <;> simp only [cQ,reduceCtorEq] at hf
   rename_i fs;cases hfd:fs[f]? with
   | none=>grind
   | some fd =>
     rw [hfd] at hf;simp only [cB,br,eU] at hf;obtain⟨h1,h2⟩:=hf;subst h1; subst h2;have hru:(underlying t).run P w = .ok (.struct fs) w:=by simp [underlying,hu]
     have hval:E.val xv = .agg (E.cells xv).toArray:=by unfold dy.val; rw [ha]; rfl
     simp only [execOp,Instr.field,asAgg,hx.eval hg G,hval,ay,aJ,aj,hru,hfd,oy T l]
theorem Ev.sk {b:Nat} {lo hi:Option Operand} {l h:Nat} (ht:P.underlying t = some (.array n e)) (T:jK P e E) (hx:cV F g x (.pointer (some ⟨b,off,none⟩)))
 (hlo:match lo with | none=>l = 0 | some z=>cV F g z (I l)) (hhi:match hi with | none=>h = n | some z=>cV F g z (I h)) (hb:g = true->l <= h /\ h <= n) :
 Ev P K F L g (.slice t x lo hi none) ty (.slice (some ⟨b,if n = l then off else off + l * E.size,none⟩) (h - l) (n - l)):=.of rfl (λ_ _ _ _ _ _ _ _ _=>.bind (.sliceAt _ _ _ _ _) λ_=>.pure _) λhg a G w hw dst pos af gd=>by
 obtain⟨h1,h2⟩:=hb hg;have hu:(underlying t).run P w = .ok (.array n e) w:=by simp [underlying,ht]
 have e1:(if n = l then (⟨b,off,none⟩:Addr) else (⟨b,off,none⟩:Addr).add (l * E.size)) = ⟨b,if n = l then off else off + l * E.size,none⟩:=by
  split <;> simp [lL]
 cases lo with
 | none =>
   have hl:l = 0:=hlo;subst hl;cases hi with
   | none =>
     have hh:h = n:=hhi;subst hh;simp only [execOp,Instr.sliceAt,hu,Instr.sliceBounds,Instr.sureAddr,hx.eval hg G,j9,ay,aJ,aj,run_sizeOf T,e1]
   | some z =>
     have hz:cV F g z (I h):=hhi;have hh:0 <= (h:Int) /\ (h:Int) <= (n:Int):=by omega
     simp only [execOp,Instr.sliceAt,hu,Instr.sliceBounds,Instr.sliceBound,asIntOf,Instr.sureAddr,hx.eval hg G,hz.eval hg G,I,j9,cB,ay,aJ,aj,run_sizeOf T,if_pos hh,e1,eg]
 | some z' =>
   have hz':cV F g z' (I l):=hlo;have hl:0 <= (l:Int) /\ (l:Int) <= (h:Int):=by omega
   cases hi with
   | none =>
     have hh:h = n:=hhi;subst hh;simp only [execOp,Instr.sliceAt,hu,Instr.sliceBounds,Instr.sliceBound,asIntOf,Instr.sureAddr,hx.eval hg G,hz'.eval hg G,I,j9,cB,Option.isSome_none,aI,cD,ay,aJ,aj,run_sizeOf T,if_pos hl,e1,eg]
   | some z =>
     have hz:cV F g z (I h):=hhi;have hh:0 <= (h:Int) /\ (h:Int) <= (n:Int):=by omega
     simp only [execOp,Instr.sliceAt,hu,Instr.sliceBounds,Instr.sliceBound,asIntOf,Instr.sureAddr,hx.eval hg G,hz.eval hg G,hz'.eval hg G,I,j9,cB,Option.isSome_none,aI,cD,ay,aJ,aj,run_sizeOf T,if_pos hh,if_pos hl,e1,eg]
theorem uz {b:Nat} {xs:Vector α n} (h:eK (mh n E) w b off xs) (hn:n <= maxLen) {l k:Nat} (hl:l <= k) (hk:k <= n) :
 bU E w (.slice (some ⟨b,if n = l then off else off + l * E.size,none⟩) (k - l) (n - l)) ((xs.toList.take k).drop l):=by
 have hlen:((xs.toList.take k).drop l).length = k - l:=by simp; omega
 refine ⟨_,n - l,by rw [hlen],by omega,by omega,(λh=>absurd h (by simp)),λp hp=>?_⟩;cases hp;refine ⟨λ_=>rfl,λj u hu=>?_⟩
 by_cases hnl:n = l
 ·have:(xs.toList.take k).drop l = []:=dQ (by rw [hlen]; omega);rw [this] at hu
  trivial
 ·rw [if_neg hnl];have e:E.row ((xs.toList.take k).drop l) = ((E.row xs.toList).take (k * E.size)).drop (l * E.size):=by rw [E.vX,E.qO]
  rw [e,jj,fD] at hu;split at hu
  ·have:=h (l * E.size + j) u hu
   grind
  trivial
def tZ (F:Fr) (E:dy α):Nat->List (Nat × Operand)->List α->Prop
 | _,[],xs=>xs = []
 | i,(j,x) :: ps,xs=>∃ v us,xs = v :: us /\ j = i /\ cV F true x (E.val v) /\ tZ F E (i + 1) ps us
theorem tZ.nil:tZ F E i [] []:=rfl
theorem tZ.cons {v:α} {us:List α} (h:cV F true x (E.val v)) (hs:tZ F E (i + 1) ps us):tZ F E i ((i,x) :: ps) (v :: us):=⟨v,us,rfl,rfl,h,hs⟩
theorem tZ.fill {E:dy α}:∀ {ps:List (Nat × Operand)} {i:Nat} {xs:List α},tZ F E i ps xs->∀ {a:Act},kD K F a->∀ (cur:Array Value),(i + xs.length) * E.size <= cur.size ->
 ∃ vf,Instr.fill (λi=>some (i * E.size,E.size)) cur (ps.map (λp=>(p.1,a.eval p.2))) = some vf /\ vf.toList = cur.toList.take (i * E.size) ++ E.row xs ++ cur.toList.drop ((i + xs.length) * E.size)
 | [],i,xs,h,a,G,cur,hc=>by
   rw [show xs = [] from h];exact ⟨cur,rfl,by simp [dy.row]⟩
 | (j,x) :: ps,i,xs,h,a,G,cur,hc=>by
   obtain⟨v,us,rfl,rfl,hx,hs⟩:=h;have hv:=hx.eval rfl G;have hsz:(E.val v).cells.size = E.size:=by simp [E.kN,E.len]
   simp only [aS] at hc;have hc1:j * E.size + E.size <= cur.size:=by
    have h1:(j + 1) * E.size <= (j + (us.length + 1)) * E.size:=dH _ (by omega);rw [dY,iV] at h1;omega
   have h2:¬ ((E.val v).cells.size ≠ E.size || decide (j * E.size + (E.val v).cells.size > cur.size)) = true:=by
    rw [hsz]; simp; omega
   have hfold:(((E.val v).cells.zipIdx.foldl (λcs (c:Value × Nat)=>cs.setIfInBounds (j * E.size + c.2) c.1) cur)).toList = cur.toList.take (j * E.size) ++ E.cells v ++ cur.toList.drop (j * E.size + E.size):=by
    rw [E.kN,<- Array.foldl_toList];have e:((E.cells v).toArray.zipIdx).toList = (E.cells v).zipIdx:=by simp
    rw [e,Ao _ (j * E.size) 0 _ (by simp [E.len]; omega)];simp [E.len]
   generalize hcur2:((E.val v).cells.zipIdx.foldl (λcs (c:Value × Nat)=>cs.setIfInBounds (j * E.size + c.2) c.1) cur) = agL at hfold
   have hsz2:agL.size = cur.size:=by
    have:=aL List.length hfold;simp [E.len] at this;omega
   have e0:(j + 1 + us.length) * E.size = (j + (us.length + 1)) * E.size:=by congr 1; omega
   obtain⟨vf,hf,hl⟩:=tZ.fill hs G agL (by omega);refine ⟨vf,?_,?_⟩
   ·simp only [dq,Instr.fill,hv]
    grind
   ·rw [hl,hfold];have hlen:(cur.toList.take (j * E.size)).length = j * E.size:=by rw [dC,iW]; omega
    have hb:(cur.toList.take (j * E.size) ++ E.cells v).length = (j + 1) * E.size:=by rw [cK,hlen,E.len,dY,iV]
    have hrow:E.row (v :: us) = E.cells v ++ E.row us:=by simp [dy.row]
    rw [<- hb,pw];have e1:(j + 1 + us.length) * E.size = (cur.toList.take (j * E.size) ++ E.cells v).length + us.length * E.size:=by rw [hb,<- dY]
    rw [e1,lF,ib,hrow];have e2:j * E.size + E.size + us.length * E.size = (j + (v :: us).length) * E.size:=by
     simp only [aS,dY,iV]; omega
    grind
theorem Tm.buildSlice {pm:Nat->Prop} {fr:Nat} (t:TypeId) (n:Nat) (ps:Array (Nat × Value)):Tm P pm fr (Instr.buildSlice t n ps):=by
 unfold Instr.buildSlice
 repeat' with_reducible first
  | exact .pure _
  | exact .stuck _
  | exact .mc _
  | refine .bind (.underlying _) λ_=>?_
  | refine .bind (.sizeOf _) λ_=>?_
  | refine .bind (.zeroValue _) λ_=>?_
  | refine .bind (.newRow _ _) λ_=>?_
  | refine .bind (.pure _) λ_=>?_
  | refine .bind (.mc _) λ_=>?_
  | split
  | dsimp only
theorem buildSlice {E:dy α} {e:TypeId} {n:Nat} {ps:List (Nat × Operand)} {xs:List α} {z:Value} (ht:P.underlying t = some (.slice e)) (T:jK P e E) (hz:(P.info? e).bind (·.zero) = some z) (hv:tZ F E 0 ps xs) (hn:xs.length = n) (hb:(Nat.ble (n * E.size) 16777216 && Nat.ble n 16777216) = true)
 (next:∀ o:OV,Sat K N ((d,true,o.v) :: F) (bY o.v E xs e :: L)) (hd:Nat.blt d K.n = true:=by rfl) :
 Sat K (dw P K ops Q ⟨some d,.buildSlice t n ps.toArray,ty,pos,af,none⟩ N) F L:=λa w G=>by
 refine dI rfl rfl λhnv=>?_
 subst hn;have hb1:=Bool.and_eq_true_iff.1 hb;have hb':¬ xs.length * E.size > 2 ^ 24:=by have:=aT hb1.1; omega
 cases hi:P.info? e with
 | none=>grind
 | some i =>
   rw [hi] at hz;simp only [cQ] at hz;have hru:(underlying t).run P w = .ok (.slice e) w:=by simp [underlying,ht]
   have hzr:(zeroValue e).run P w = .ok z w:=by simp [zeroValue,typeInfo,hi,hz]
   have hzz:∀ zz:Array Value,∃ vf,Instr.fill (λi=>some (i * E.size,E.size)) ((Array.range (xs.length * E.size)).map (zz[· % zz.size]!)) (ps.map (λp=>(p.1,a.eval p.2))) = some vf /\ vf.toList = E.row xs:=by
    intro zz;obtain⟨vf,h1,h2⟩:=hv.fill G.fo ((Array.range (xs.length * E.size)).map (zz[· % zz.size]!)) (by simp);refine ⟨vf,h1,?_⟩;rw [h2];simp
   have hr:∃ vf:Array Value,vf.toList = E.row xs /\ (execOp a.eval ⟨some d,.buildSlice t xs.length ps.toArray,ty,pos,af,none⟩).run P w = .ok (.value (.slice (some ⟨w.heap.size,0,none⟩) xs.length xs.length)) { w with heap:=w.heap.push (.cells vf e) }:=by
    by_cases h0:xs.length * E.size = 0
    ·obtain⟨vf,h1,h2⟩:=hzz #[];refine ⟨vf,h2,?_⟩;simp only [execOp,Instr.buildSlice,ay,hru,aj,run_sizeOf T,if_neg hb',aJ,if_pos h0,gY,h1,newRow,run_newObj]
    ·obtain⟨vf,h1,h2⟩:=hzz z.cells;refine ⟨vf,h2,?_⟩;simp only [execOp,Instr.buildSlice,ay,hru,aj,run_sizeOf T,if_neg hb',aJ,if_neg h0,hzr,gY,h1,newRow,run_newObj]
   obtain⟨vf,agh,hr⟩:=hr;refine xL hr (.bind (.buildSlice _ _ _) λ_=>.pure _) hnv ?_;have hsz:vf.size = xs.length * E.size:=by rw [<- iW,agh,E.fp]
   have hm:xs.length <= maxLen:=by
    have:=aT hb1.2;have:maxLen = 9223372036854775807:=rfl;omega
   refine next ⟨_,rfl⟩ _ _ (G.put d true _ _ (by simp_all) rfl (G.inv.add (bf.alloc _ _ _) ?_ ?_))
   ·refine ⟨E.fp xs,.inr ⟨w.heap.size,xs.length,vf,rfl,bu _,?_,aA _,hm,hsz,?_⟩⟩
    ·simp
    ·rw [agh,bH (by rw [E.fp]; exact aA _)]
   ·intro b hb;have:b = w.heap.size:=by have hb':some w.heap.size = some b:=hb; exact (ak hb').symm
    grind
theorem Ev.abB {i:Int} {xs:Vector α n} (ht:P.underlying t = some (.array n e)) (T:jK P e E) (hx:cV F g x ((mh n E).val xs)) (hy:cV F g y (I i)) (hi:g = true->0 <= i /\ i < n) :
 Ev P K F L g (.index t x y) ty (E.val (xs.toList.getD i.toNat E.zero)):=.of rfl (λ_ _ _ _ _ _ _ _ _=>.bind (by
 unfold Instr.index
 repeat' with_reducible first
  | exact .pure _
  | exact .stuck _
  | exact .mc _
  | exact .boundsPanic _ _ _ _
  | exact .part _ _ _
  | refine .bind (.underlying _) λ_=>?_
  | refine .bind (.asIntOf _) λ_=>?_
  | refine .bind (.sizeOf _) λ_=>?_
  | refine .bind (.asAgg _) λ_=>?_
  | refine .bind (.asString _) λ_=>?_
  | refine .bind (.boundsPanic _ _ _ _) λ_=>?_
  | split
  | dsimp only) λ_=>.pure _) λhg a G w hw dst pos af gd=>by
 obtain⟨h1,h2⟩:=hi hg;have hu:(underlying t).run P w = .ok (.array n e) w:=by simp [underlying,ht]
 have hlt:i.toNat < n:=by omega
 have hp:=oy (P:=P) (o:=i.toNat * E.size) T (rP E i.toNat hlt) xs w;have hval:(mh n E).val xs = .agg ((mh n E).cells xs).toArray:=rfl;have yl:(rP E i.toNat hlt).get xs = xs.toList.getD i.toNat E.zero:=by
  show xs[i.toNat] = _;simp [List.getD,hlt]
 rw [yl] at hp;simp only [execOp,Instr.index,asIntOf,hx.eval hg G,hy.eval hg G,I,hval,ay,aJ,aj,hu,h1,h2,and_self,if_true,run_sizeOf T,hp]
theorem Iy (E:dy α) (x:α) (c:Nat) (hsz:0 < E.size):(madeCells (E.val x).cells (c * E.size)).toList = E.row (List.replicate c x):=by
 apply eZ;intro k;have hz:(E.val x).cells.size = E.size:=by simp [E.kN,E.len]
 by_cases hk:k < c * E.size
 ·have h1:k / E.size < c:=Nat.div_lt_of_lt_mul (by rwa [oG] at hk);have h2:k % E.size < E.size:=jY _ hsz;have h3:k = k / E.size * E.size + k % E.size:=by rw [oG]; exact (Nat.div_add_mod k E.size).symm
  have h4:=E.F6 (List.replicate c x) (k / E.size) (k % E.size) x (by simpa using h1) h2;rw [<- h3] at h4;rw [h4];have h5:(List.replicate c x).getD (k / E.size) x = x:=by simp [List.getD,h1]
  rw [h5];have h6:k % E.size < (E.cells x).length:=by rw [E.len]; exact h2
  have h7:k % E.size < (E.val x).cells.size:=by rw [hz]; exact h2
  simp only [madeCells,Array.getElem?_toList,fE,Array.getElem?_range,hk,if_true,cB,hz];rw [getElem!_pos (E.val x).cells (k % E.size) h7,bW h6];simp [E.kN]
 ·rw [fg (by rw [iW,size_madeCells]; omega),fg (by rw [E.fp]; simp; omega)]
theorem Tm.makeSlice {pm:Nat->Prop} {fr:Nat} (t:TypeId) (x y:Value):Tm P pm fr (Instr.makeSlice t x y):=by
 unfold Instr.makeSlice
 repeat' with_reducible first
  | exact .pure _
  | exact .stuck _
  | exact .runtimePanic _
  | exact .dead (.bind (.runtimePanic _) _)
  | refine .bind (.underlying _) λ_=>?_
  | refine .bind (.asInt _) λ_=>?_
  | refine .bind (.typeInfo _) λ_=>?_
  | refine .bind (.sizeOf _) λ_=>?_
  | refine .bind (.zeroValue _) λ_=>?_
  | refine .bind (.choose _) λ_=>?_
  | refine .bind (.askRoom _) λ_=>?_
  | refine .bind (.newRow _ _) λ_=>?_
  | refine .bind (.pure _) λ_=>?_
  | split
  | dsimp only
theorem CU {l:Int} (ht:P.underlying t = some (.slice e)) (T:jK P e E) (hsz:Nat.blt 0 E.size = true) (hz:(P.info? e).map (λi=>(i.zero,i.bytes)) = some (some (E.val E.zero),Qf))
 (hx:cV F true x (I l)) (hy:cV F true y (I c)) (h0:0 <= l /\ l <= c) (hb:(Qf:Int) * c <= 281474976710656 /\ c <= 9223372036854775807)
 (next:∀ o:OV,Sat K N ((d,true,o.v) :: F) (bY o.v E (List.replicate l.toNat E.zero) e :: L)) (hd:Nat.blt d K.n = true:=by rfl) :
 Sat K (dw P K ops Q ⟨some d,.makeSlice t x y,ty,pos,af,none⟩ N) F L:=λa w G=>by
 refine dI rfl rfl λhnv=>?_
 cases hi:P.info? e with
 | none=>grind
 | some i =>
   rw [hi] at hz;simp only [cB,br,eU] at hz;obtain⟨hz1,hz2⟩:=hz;obtain⟨i',hi',Ed⟩:=T.sz;rw [hi] at hi';obtain rfl:=ak hi';have hsz':0 < E.size:=by simpa [ir] using hsz
   have hr:=run_make (P:=P) w t e i (E.val E.zero) ht hi hz1 .i64 .i64 l c h0.1 h0.2 (by rw [hz2]; exact hb.1) hb.2;rw [Ed] at hr;have he:(execOp a.eval ⟨some d,.makeSlice t x y,ty,pos,af,none⟩).run P w = .ok (.value (.slice (some ⟨w.heap.size,0,none⟩) l.toNat c.toNat)) (w.alloc (.cells (madeCells (E.val E.zero).cells (c.toNat * E.size)) e)):=by
    have hx':=hx.eval rfl G.fo;have J7:=hy.eval rfl G.fo;unfold I at hx' J7;simp only [execOp,hx',J7,ay,hr,aj,aJ]
   refine xL he (.bind (.makeSlice _ _ _) λ_=>.pure _) hnv ?_;have hm:maxLen = 9223372036854775807:=rfl;refine next ⟨_,rfl⟩ _ _ (G.put d true _ _ (by simp_all) rfl (G.inv.add (bf.alloc _ _ _) ?_ ?_))
   ·refine ⟨E.fp _,.inr ⟨w.heap.size,c.toNat,_,by simp,bu _,heap_alloc_new w _,?_,by omega,?_,?_⟩⟩
    ·grind
    ·rw [size_madeCells]
    ·rw [Iy E E.zero c.toNat hsz',List.length_replicate,E.vX]
     grind
   ·intro b hb;have hb':some w.heap.size = some b:=hb
    grind
theorem Ev.extract {i:Nat} {vs:List Value} {v:Value} (hx:cV F g x (.tuple vs.toArray)) (hv:vs[i]? = some v):Ev P K F L g (.extract x i) ty v:=.of rfl (λhg a G w hw dst pos af gd=>by
 have e1:execOp a.eval ⟨dst,.extract x i,ty,pos,af,gd⟩ = pure (.value v):=by simp [execOp,Instr.extract,hx.eval hg G,hv]
 rw [e1];exact .pure _) λhg a G w hw dst pos af gd=>by
 simp [execOp,Instr.extract,hx.eval hg G,hv]
theorem Ev.Nx {n:Int} (hx:cV F g x (I m)) (hy:cV F g y (I n)):Ev P K F L g (.call { callee:=.builtin .min,args:=#[x,y],argTypes:=qJ }) ty (I (min m n)):=.of rfl (λhg a G w hw dst pos af gd=>by
 have e1:execOp a.eval ⟨dst,.call { callee:=.builtin .min,args:=#[x,y],argTypes:=qJ },ty,pos,af,gd⟩ = (do pure (.value (<- Builtin.min2 (I m) (I n)))):=by
  simp [execOp,resolve,invoke,builtin,Builtin.min_,hx.eval hg G,hy.eval hg G]
 rw [e1];exact .bind (.pure _) λ_=>.pure _) λhg a G w hw dst pos af gd=>by
 simp [execOp,resolve,invoke,builtin,Builtin.min_,Builtin.min2,hx.eval hg G,hy.eval hg G,I];omega
def Ev.eT {i:Int} (T:jK P t E) (hx:cV F g x (kC v (i.toNat * E.size))) (h:∀ w,bS K L w->bU E w v xs) (hi:g = true->0 <= i /\ i < xs.length) :
    Ev P K F L g (.load t x) ty (E.val (xs.getD i.toNat E.zero)):=Ev.y5 T (aB.id E) (jP _).symm hx h hi
def Ev.to {v':Value} (h:Ev P K F L g op ty v) (e:v = v'):Ev P K F L g op ty v':=e ▸ h
theorem Tm.Ud (ht:P.underlying t = some (.slice T)) (hv:∀ b,v.ownBlock = some b->pm b /\ fr <= b):Tm P pm fr (Builtin.copy_ #[t,t'] ty #[v,u]):=by
 unfold Builtin.copy_;refine .under ht ?_;cases v <;> first | exact .halt _ | skip
 rename_i base apj apk;refine .bind (.lenOf _) λn=>.bind (.sizeOf _) λs=>.bind (.firstCells _ _ _) λcs=>?_
 cases base with
 | none=>exact .bind (.pure _) λ_=>.pure _
 | some a =>
   obtain⟨h1,h2⟩:=hv a.block rfl;exact .bind (.storeCells a h1 h2 _ _) λ_=>.pure _
theorem agM (ht:P.underlying t = some (.slice e)) (TT:jK P e E)
 (hx:cV F true x v) (hy:cV F true y u) (hu:mS L (bY v E xs T) (bY v E (ys.take xs.length ++ xs.drop ys.length) T) L') (hsrc:∀ w,bS K L w->bU E w u ys)
 (next:Sat K N ((d,true,I (min ys.length xs.length:Nat)) :: F) L') (hd:Nat.blt d K.n = true:=by rfl) :
 Sat K (dw P K ops Q ⟨some d,.call { callee:=.builtin .copy,args:=#[x,y],argTypes:=#[t,t'] },ty,pos,af,none⟩ N) F L:=λa w G=>by
 refine dI rfl rfl λhnv=>?_
 have qT:=hu.mem;have tm:Tm P (q9 K) K.E.fr (execOp a.eval ⟨some d,.call { callee:=.builtin .copy,args:=#[x,y],argTypes:=#[t,t'] },ty,pos,af,none⟩):=by
  have e:execOp a.eval ⟨some d,.call { callee:=.builtin .copy,args:=#[x,y],argTypes:=#[t,t'] },ty,pos,af,none⟩ = (Builtin.copy_ #[t,t'] ty #[a.eval x,a.eval y] >>= λr=>pure (Next.value r)):=by
   simp [execOp,resolve,invoke,builtin]
  rw [e,hx.eval rfl G.fo];exact .bind (.Ud ht λb hb=>⟨((G.inv.own _ qT).2 b hb).1,G.inv.fr qT b hb⟩) λ_=>.pure _
 have hown:w.ownsRow 0 T E.size v xs.length (E.row xs):=(G.inv.own _ hu.mem).1;have hlt:=hown.lt;obtain⟨sa,sc,rfl,h1,h2,h3,h4⟩:=hsrc w G.inv;have hru:(underlying t).run P w = .ok (.slice e) w:=by simp [underlying,ht]
 have hd':d < K.n:=by simpa [ir] using hd
 have hn:Nat.min ys.length xs.length = min ys.length xs.length:=rfl;have hcs:(Builtin.firstCells E.size (min ys.length xs.length) (.slice sa ys.length sc)).run P w = .ok (E.row (ys.take xs.length)).toArray w:=by
  cases sa with
  | none =>
    obtain⟨rfl,rfl⟩:=h3 rfl;simp [Builtin.firstCells,dy.row]
  | some p =>
    obtain⟨NK,hpc⟩:=h4 p rfl;have hcell:∀ j u,(E.row ys)[j]? = some u->w.cell? (p.add j) = some u:=λj u hu=>by
     have hne:ys ≠ []:=λe=>by rw [e] at hu; simp [dy.row] at hu
     obtain⟨pb,po,ps⟩:=p;have h:=NK hne;simp only at h;subst h;rw [lL];exact hpc j u hu
    refine run_firstCells_some w E.size _ _ _ _ (E.row (ys.take xs.length)) ?_ ?_
    ·rw [E.fp,dC,Nat.min_comm]
    ·intro j u hu;refine hcell j u ?_;rw [<- E.vX,fD] at hu;split at hu
     ·exact hu
     ·cases hu
 have hlen:(ys.take xs.length ++ xs.drop ys.length).length = xs.length:=by
  rw [cK,dC,n8]; omega
 rcases hown.2 with ⟨rfl,QI⟩ | ⟨gb,cap,cur,rfl,hbg,hg,hnc,hcm,XC,IG⟩
 ·have hxs:xs = []:=dQ QI;subst hxs;have he:(execOp a.eval ⟨some d,.call { callee:=.builtin .copy,args:=#[x,y],argTypes:=#[t,t'] },ty,pos,af,none⟩).run P w = .ok (.value (I (min ys.length 0:Nat))) w:=by
   simp only [execOp,resolve,invoke,builtin,Builtin.copy_,gY,dq,iD,hx.eval rfl G.fo,hy.eval rfl G.fo,ay,aJ,aj];simp only [dN,fL,kl,ay,hru,aj,Builtin.lenOf,aJ,run_sizeOf TT];have agi:=hcs;simp only [bw] at agi;rw [show Nat.min ys.length 0 = min ys.length 0 from rfl,agi]
   rfl
  refine xL he tm hnv ?_;have hL:L' = L:=by
   obtain⟨A,C,rfl,rfl⟩:=hu;simp
  rw [hL] at next;exact next _ _ (G.put d true _ _ hd' rfl G.inv)
 ·have ym:0 + 0 + (E.row (ys.take xs.length)).length <= cur.size:=by
   rw [E.fp,dC,XC];have:min xs.length ys.length * E.size <= cap * E.size:=dH _ (by omega);omega
  have hst:=run_storeCells_at P gb 0 T (E.row (ys.take xs.length)) 0 cur w hg ym (E.tF _);simp only [a9,List.take_zero,lU] at hst;have he:(execOp a.eval ⟨some d,.call { callee:=.builtin .copy,args:=#[x,y],argTypes:=#[t,t'] },ty,pos,af,none⟩).run P w =
   .ok (.value (I (min ys.length xs.length:Nat))) (w.setRow gb (E.row (ys.take xs.length) ++ cur.toList.drop (E.row (ys.take xs.length)).length).toArray):=by
   simp only [execOp,resolve,invoke,builtin,Builtin.copy_,gY,dq,iD,hx.eval rfl G.fo,hy.eval rfl G.fo,ay,aJ,aj];simp only [dN,fL,kl,ay,hru,aj,Builtin.lenOf,aJ,run_sizeOf TT];rw [hn,hcs];simp only [aj,hst]
   rfl
  refine xL he tm hnv (next _ _ (G.put d true _ _ hd' rfl (G.inv.upd hu ((pB _ _ _).mono (λk hk=>?_)) ?_ ?_)))
  ·subst hk; rfl
  ·refine ⟨E.fp _,.inr ⟨gb,cap,_,by grind,bu _,setRow_heap w gb cur _ T _ hg,by omega,hcm,?_,?_⟩⟩
   ·grind
   ·have e1:(E.row (ys.take xs.length)).length = (ys.take xs.length).length * E.size:=E.fp _;have e2:E.row (xs.drop ys.length) = (E.row xs).drop (ys.length * E.size):=(E.qO xs ys.length).symm;rw [E.ql,e2,<- IG,hlen];simp only [List.take_append,e1];rw [bH (by rw [E.fp,dC]; exact dH _ (by omega))]
    congr 1
    rw [dC,mG,<- Nat.sub_mul,<- Nat.sub_mul]
    rcases jd xs.length ys.length with hle | hle
    ·simp_all
    grind
  ·intro b hb;exact ⟨.inl hb,by simpa using (hlt b hb).2⟩
theorem R9 (cur ys:List α) (A E B o s:Nat) (h1:A + E <= B) (h2:B <= cur.length) (h3:o + s <= E) (h4:ys.length = s) :
 (cur.take (A + o) ++ ys ++ cur.drop (A + o + s)).take B = (cur.take B).take A ++ ((((cur.take B).drop A).take E).take o ++ ys ++ (((cur.take B).drop A).take E).drop (o + s)) ++ (cur.take B).drop (A + E):=by
 apply eZ;intro j;simp only [fD,jM,cK,dC,n8,jj,h4]
 repeat' split
 all_goals first | omega | rfl | (congr 1; omega) | (rw [fg (by omega)]) | (exact fg (by omega))
theorem aaD {i:Int} {k:Nat} (TT:jK P t E') (l:aB E E' o) (hk:k = i.toNat * E.size + o) (hx:cV F true x (kC v k)) (hy:cV F true y (E'.val yv))
 (hu:mS L (bY v E xs T) (bY v E (xs.set i.toNat (l.set (xs.getD i.toNat E.zero) yv)) T) L') (hi:0 <= i /\ i < xs.length) (next:Sat K N F L'):Sat K (dw P K ops Q ⟨none,.store t x y,ty,pos,af,none⟩ N) F L:=λa w G=>by
 refine dI rfl rfl λhnv=>?_
 have qT:=hu.mem;have hown:w.ownsRow 0 T E.size v xs.length (E.row xs):=(G.inv.own _ hu.mem).1;have hlt:=hown.lt;have hi':i.toNat < xs.length:=by omega
 rcases hown.2 with ⟨rfl,QI⟩ | ⟨gb,cap,cur,rfl,hbg,hg,hnc,hcm,XC,IG⟩
 ·omega
 ·subst hk;have hx':cV F true x (.pointer (some ⟨gb,0 + (i.toNat * E.size + o),none⟩)):=hx;rw [a9] at hx';have hfits:=l.fits;have hmul:(i.toNat + 1) * E.size <= cap * E.size:=dH _ (by omega);rw [dY,iV] at hmul;have hmul2:(i.toNat + 1) * E.size <= xs.length * E.size:=dH _ (by omega);rw [dY,iV] at hmul2;have hg':w.heap[gb]? = some (.cells cur.toList.toArray T (0,0)):=by simpa using hg
  have hr:=sq (P:=P) TT (o:=i.toNat * E.size + o) (yv:=yv) hg' (by rw [iW,XC]; omega);have he:(execOp a.eval ⟨none,.store t x y,ty,pos,af,none⟩).run P w = .ok .skip (w.setRow gb (cur.toList.take (i.toNat * E.size + o) ++ E'.cells yv ++ cur.toList.drop (i.toNat * E.size + o + E'.size)).toArray):=by
   simp only [execOp,hx'.eval rfl G.fo,hy.eval rfl G.fo,Instr.storeAt,Instr.sureAddr,ay,aJ,aj,hr]
  refine Sp he ?_ hnv ?_
  ·show Tm P _ _ (Instr.storeAt t (a.eval x) (a.eval y) >>= λ_=>pure Next.skip);rw [hx'.eval rfl G.fo];exact .bind (.known (b:=⟨gb,i.toNat * E.size + o,none⟩) (.sureAddr _) (λv=>rfl) (.storeVar _ _ _ ((G.inv.own _ qT).2 gb rfl).1 (G.inv.fr qT gb rfl))) λ_=>.pure _
  have hsl:(xs.set i.toNat (l.set (xs.getD i.toNat E.zero) yv)).length = xs.length:=by simp
  have hclen:cur.toList.length = cap * E.size:=by rw [iW,XC]
  refine next _ _ (G.world (G.inv.upd hu ((pB _ _ _).mono (λk hk=>?_)) ?_ ?_))
  ·subst hk; rfl
  ·refine ⟨E.fp _,.inr ⟨gb,cap,_,by simp,bu _,setRow_heap w gb cur _ T _ hg,by omega,hcm,?_,?_⟩⟩
   ·simp only [bK,cK,dC,n8,E'.len,hclen];omega
   ·rw [hsl,E.Na _ _ _ hi',l.wC];have hcell:E.cells (xs.getD i.toNat E.zero) = ((E.row xs).drop (i.toNat * E.size)).take E.size:=by
     rw [E.qO,dR hi'];have e:E.row (xs[i.toNat] :: xs.drop (i.toNat + 1)) = E.cells xs[i.toNat] ++ E.row (xs.drop (i.toNat + 1)):=List.flatMap_cons;rw [e,<- E.len xs[i.toNat],pw];simp [List.getD,hi']
    rw [hcell,<- IG];exact R9 _ _ _ _ _ _ _ (by omega) (by rw [hclen]; exact dH _ hnc) hfits (E'.len yv)
  ·intro b hb;exact ⟨.inl hb,by simpa using (hlt b hb).2⟩
def Bx {i:Int} {yv:α} (TT:jK P t E) (hx:cV F true x (kC v (i.toNat * E.size))) (hy:cV F true y (E.val yv))
    (hu:mS L (bY v E xs T) (bY v E (xs.set i.toNat yv) T) L') (hi:0 <= i /\ i < xs.length) (next:Sat K N F L'):Sat K (dw P K ops Q ⟨none,.store t x y,ty,pos,af,none⟩ N) F L :=
 aaD (i:=i) TT (aB.id E) (jP _).symm hx hy hu hi next
end
end Go.Gx
