/- A small kit of my own, over any program: symbolic states (what is known of a frame's slots, what blocks are owned), and one rule for each form of code. Part A: states, code, regions. -/
import Derived.OrdersHeld
import Derived.Tactics2
import Derived.Below
import Derived.Laws.AppendOwn
import Derived.Laws.Cells
import Derived.Deep.RegionHeld3
import Derived.Deep.LoopGhost
import Derived.KernelRfl
import Derived.Test.YtljifjflnakmoaaGreatHxX
set_option linter.unusedVariables false
set_option linter.unusedSimpArgs false
namespace Go.Gx
open Go Go.RowKit
structure aJ (M:Nat→Prop) (w w':World):Prop where
 os:w'.os = w.os
 tape:w'.tape = w.tape
 output:w'.output = w.output
 size:w.heap.size ≤ w'.heap.size
 block:∀ k,k < w.heap.size→¬ M k→w'.heap[k]? = w.heap[k]?
def dI:Nat→Prop:=fun _=>False
theorem aJ.refl (M:Nat→Prop) (w:World):aJ M w w:=⟨rfl,rfl,rfl,Nat.le_refl _,fun _ _ _=>rfl⟩
theorem aJ.trans {M:Nat→Prop} {a b c:World} (h:aJ M a b) (k:aJ M b c):aJ M a c :=
 ⟨k.os.trans h.os,k.tape.trans h.tape,k.output.trans h.output,Nat.le_trans h.size k.size,
  fun i hi hm=>(k.block i (Nat.lt_of_lt_of_le hi h.size) hm).trans (h.block i hi hm)⟩
theorem aJ.trans' {M M':Nat→Prop} {a b c:World} (h:aJ M a b) (k:aJ M' b c) (hm:∀ i,i < a.heap.size→M' i→M i):aJ M a c :=
 ⟨k.os.trans h.os,k.tape.trans h.tape,k.output.trans h.output,Nat.le_trans h.size k.size,
  fun i hi hn=>(k.block i (Nat.lt_of_lt_of_le hi h.size) (fun h'=>hn (hm i hi h'))).trans (h.block i hi hn)⟩
theorem aJ.mono {M M':Nat→Prop} {a b:World} (h:aJ M a b) (hm:∀ i,M i→M' i):aJ M' a b :=
 ⟨h.os,h.tape,h.output,h.size,fun i hi hn=>h.block i hi (fun h'=>hn (hm i h'))⟩
theorem aJ.below {w w':World} (h:aJ dI w w'):Below w.heap.size w w' :=
 ⟨h.os,h.tape,h.output,h.size,fun k hk=>h.block k hk (fun h=>h)⟩
theorem aJ.drew (M:Nat→Prop) (w:World):aJ M w { w with drawn:=w.drawn + 1 }:=⟨rfl,rfl,rfl,Nat.le_refl _,fun _ _ _=>rfl⟩
theorem aJ.alloc (M:Nat→Prop) (w:World) (o:Obj):aJ M w { w with heap:=w.heap.push o } :=
 ⟨rfl,rfl,rfl,by simp,fun k hk _=>by simp [Array.getElem?_push,Nat.ne_of_lt hk]⟩
theorem aJ.of_grown {w w':World} {row:Option Nat} (h:w.grownBy w' row):aJ (fun k=>row = some k) w w' :=
 ⟨h.os,h.tape,h.output,h.size,fun k hk hn=>h.block k hk (fun e=>hn e.symm)⟩
structure Res where
 bQ:Nat→Prop
 A:World→Prop
 st:∀ w w',(∀ b,bQ b→w'.heap[b]? = w.heap[b]?)→A w→A w'
def Res.qZ (r s:Res):Prop:=∀ b,r.bQ b→s.bQ b→False
theorem Res.qZ.symm {r s:Res} (h:r.qZ s):s.qZ r:=fun b hs hr=>h b hr hs
structure Ctx where
 n:Nat
 w0:World
 M:Nat→Prop
 E:En
def Ctx.OK (K:Ctx):Prop:=K.E.fr ≤ K.w0.heap.size ∧ ∀ b,K.M b→K.E.fr ≤ b
def pmK (K:Ctx):Nat→Prop:=fun b=>K.w0.heap.size ≤ b ∨ K.M b
structure aP (K:Ctx) (L:List Res) (w:World):Prop where
 keeps:aJ K.M K.w0 w
 own:∀ r ∈ L,r.A w ∧ ∀ b,r.bQ b→(K.w0.heap.size ≤ b ∨ K.M b) ∧ b < w.heap.size
 dis:L.Pairwise Res.qZ
 ok:K.OK
section
variable {K:Ctx} {L:List Res} {w w':World}
theorem aP.start {K:Ctx} (ok:K.OK):aP K [] K.w0:=⟨aJ.refl _ _,(fun _ h=>absurd h List.not_mem_nil),List.Pairwise.nil,ok⟩
theorem aJ.ed {v v1:World} (h:bo v v1):aJ dI v v1:=⟨h.os,h.tape,h.output,h.size,fun k hk _=>h.old k hk⟩
theorem aJ.of_turn {M:Nat→Prop} {v v1:World} (h:ik M v v1):aJ M v v1:=⟨h.os,h.tape,h.output,h.size,fun k hk hm=>h.old k hk hm⟩
theorem aP.grow (h:aP K L w) (k:aJ dI w w'):aP K L w' :=
 ⟨h.keeps.trans' k (fun _ _ h=>h.elim),fun r hr=>by
  obtain ⟨ha,hf⟩:=h.own r hr;exact ⟨r.st w w' (fun b hb=>k.block b (hf b hb).2 (fun h=>h)) ha,fun b hb=>⟨(hf b hb).1,Nat.lt_of_lt_of_le (hf b hb).2 k.size⟩⟩,h.dis,h.ok⟩
theorem aP.add (h:aP K L w) (k:aJ dI w w') {r:Res} (ha:r.A w') (hf:∀ b,r.bQ b→w.heap.size ≤ b ∧ b < w'.heap.size):aP K (r :: L) w':=by
 have hs:K.w0.heap.size ≤ w.heap.size:=h.keeps.size;refine ⟨(h.grow k).keeps,?_,?_,h.ok⟩
 ·intro s hs'
  rcases List.mem_cons.1 hs' with rfl | hs'
  ·exact ⟨ha,fun b hb=>⟨.inl (Nat.le_trans hs (hf b hb).1),(hf b hb).2⟩⟩
  ·exact (h.grow k).own s hs'
 ·refine List.pairwise_cons.2 ⟨fun s hs' b hb hsb=>?_,h.dis⟩;have h1:=(hf b hb).1;have h2:=((h.own s hs').2 b hsb).2;omega
theorem aP.adds (h:aP K L w) (k:aJ dI w w') {R:List Res} (ha:∀ r ∈ R,r.A w' ∧ ∀ b,r.bQ b→w.heap.size ≤ b ∧ b < w'.heap.size) (hd:R.Pairwise Res.qZ):aP K (R ++ L) w':=by
 have hs:K.w0.heap.size ≤ w.heap.size:=h.keeps.size;refine ⟨(h.grow k).keeps,?_,?_,h.ok⟩
 ·intro s hs'
  rcases List.mem_append.1 hs' with hs' | hs'
  ·obtain ⟨h1,h2⟩:=ha s hs';exact ⟨h1,fun b hb=>⟨.inl (Nat.le_trans hs (h2 b hb).1),(h2 b hb).2⟩⟩
  ·exact (h.grow k).own s hs'
 ·refine List.pairwise_append.2 ⟨hd,h.dis,fun r hr s hs' b hb hsb=>?_⟩;have h1:=((ha r hr).2 b hb).1;have h2:=((h.own s hs').2 b hsb).2;omega
theorem aP.sub {L':List Res} (h:aP K L w) (hs:L'.Sublist L):aP K L' w :=
 ⟨h.keeps,fun r hr=>h.own r (hs.subset hr),h.dis.sublist hs,h.ok⟩
def Upd (L:List Res) (r r':Res) (L':List Res):Prop:=∃ A C,L = A ++ r :: C ∧ L' = A ++ r' :: C
theorem Upd.head {r r':Res} {L:List Res}:Upd (r :: L) r r' (r' :: L):=⟨[],L,rfl,rfl⟩
theorem Upd.tail {x r r':Res} {L L':List Res} (h:Upd L r r' L'):Upd (x :: L) r r' (x :: L'):=by
 obtain ⟨A,C,rfl,rfl⟩:=h;exact ⟨x :: A,C,rfl,rfl⟩
theorem Upd.mem {L L':List Res} {r r':Res} (h:Upd L r r' L'):r ∈ L:=by
 obtain ⟨A,C,rfl,rfl⟩:=h;simp
theorem Upd.cases_mem {L L':List Res} {r r':Res} (h:Upd L r r' L') (hd:L.Pairwise Res.qZ):∀ s ∈ L',s = r' ∨ (s ∈ L ∧ s.qZ r):=by
 obtain ⟨A,C,rfl,rfl⟩:=h;obtain ⟨_,h2,h3⟩:=List.pairwise_append.1 hd;obtain ⟨h4,_⟩:=List.pairwise_cons.1 h2;intro s hs
 rcases List.mem_append.1 hs with h | h
 ·exact .inr ⟨List.mem_append.2 (.inl h),h3 s h r List.mem_cons_self⟩
 ·rcases List.mem_cons.1 h with h | h
  ·exact .inl h
  ·exact .inr ⟨List.mem_append.2 (.inr (List.mem_cons_of_mem _ h)),(h4 s h).symm⟩
theorem Upd.pairwise {L L':List Res} {r r':Res} (h:Upd L r r' L') (hd:L.Pairwise Res.qZ) (hx:∀ s ∈ L,s.qZ r→s.qZ r'):L'.Pairwise Res.qZ:=by
 obtain ⟨A,C,rfl,rfl⟩:=h;obtain ⟨h1,h2,h3⟩:=List.pairwise_append.1 hd;obtain ⟨h4,h5⟩:=List.pairwise_cons.1 h2;refine List.pairwise_append.2 ⟨h1,List.pairwise_cons.2 ⟨fun s hs=>(hx s (by simp [hs]) (h4 s hs).symm).symm,h5⟩,fun a ha s hs=>?_⟩
 rcases List.mem_cons.1 hs with rfl | hs
 ·exact hx a (by simp [ha]) (h3 a ha r List.mem_cons_self)
 ·exact h3 a ha s (List.mem_cons_of_mem _ hs)
theorem aP.upd (h:aP K L w) {L':List Res} {r r':Res} (hu:Upd L r r' L') (k:aJ r.bQ w w') (ha:r'.A w')
 (hf:∀ b,r'.bQ b→(r.bQ b ∨ w.heap.size ≤ b) ∧ b < w'.heap.size):aP K L' w':=by
 have hs:K.w0.heap.size ≤ w.heap.size:=h.keeps.size;have hr:=h.own r hu.mem;refine ⟨h.keeps.trans' k (fun i hi hi'=>?_),?_,?_,h.ok⟩
 ·rcases (hr.2 i hi').1 with h1 | h1
  ·omega
  ·exact h1
 ·intro s hs'
  rcases hu.cases_mem h.dis s hs' with rfl | ⟨h1,h2⟩
  ·refine ⟨ha,fun b hb=>⟨?_,(hf b hb).2⟩⟩
   rcases (hf b hb).1 with h3 | h3
   ·exact (hr.2 b h3).1
   ·exact .inl (Nat.le_trans hs h3)
  ·obtain ⟨h3,h4⟩:=h.own s h1;exact ⟨s.st w w' (fun b hb=>k.block b (h4 b hb).2 (fun h5=>h2 b hb h5)) h3,fun b hb=>⟨(h4 b hb).1,Nat.lt_of_lt_of_le (h4 b hb).2 k.size⟩⟩
 ·refine hu.pairwise h.dis (fun s hs' hd b hb hb'=>?_)
  rcases (hf b hb').1 with h3 | h3
  ·exact hd b hb h3
  ·have:=((h.own s hs').2 b hb).2;omega
end
abbrev Fr:=List (Nat × Bool × Value)
def eC:Fr→Nat→Option (Bool × Value)
 | [],_=>none
 | (s,e) :: r,t=>bif Nat.beq s t then some e else eC r t
abbrev DS:Nat:=1000000
def look (F:Fr) (t:Nat):Option (Bool × Value):=bif Nat.beq t 1000000 then none else eC F t
theorem sf {F:Fr} {t:Nat} {e:Bool × Value} (h:look F t = some e):t ≠ DS ∧ eC F t = some e:=by
 unfold look at h;cases hb:Nat.beq t 1000000 with
 | true=>rw [hb] at h; cases h
 | false=>rw [hb] at h; exact ⟨Nat.ne_of_beq_eq_false hb,h⟩
theorem xE {a b:Nat} (h:a ≠ b):Nat.beq a b = false:=by
 cases hb:Nat.beq a b with
 | false=>rfl
 | true=>exact absurd (Nat.eq_of_beq_eq_true hb) h
theorem xa {F:Fr} {t:Nat} (h:t ≠ DS):look F t = eC F t:=by
 unfold look;rw [xE h]
 rfl
def mkV (m:List Nat):Value:=.tuple (m.map fun D:Nat=>Value.int .i64 D).toArray
theorem wY {m m':List Nat} (h:mkV m = mkV m'):m = m':=by
 have h1:=congrArg (fun v=>match v with | Value.tuple a=>a.toList | _=>[]) h;simp only [mkV] at h1;exact (List.map_inj_right (f:=fun D:Nat=>Value.int .i64 D) (fun a b e=>by
  have:=(Value.int.inj e).2;omega)).1 h1
def mkD (D:Nat):Deferred:={ target:=.collected D,args:=#[] }
abbrev dz:Nat × Bool × Value:=(1000000,true,mkV [])
abbrev dm (m:List Nat):Nat × Bool × Value:=(1000000,true,mkV m)
structure gB (K:Ctx) (F:Fr) (a:Act):Prop where
 size:a.tmps.size = K.n
 le:K.n ≤ DS
 defers:∀ c v,eC F DS = some (c,v)→∃ m,v = mkV m ∧ a.defers = m.map mkD
 fr:∀ t c v,look F t = some (c,v)→a.tmps[t]? = some (bif c then v else undef)
structure Good (K:Ctx) (F:Fr) (L:List Res) (a:Act) (w:World):Prop where
 fo:gB K F a
 inv:aP K L w
def Sat (K:Ctx) (X:Act→World→Prop) (F:Fr) (L:List Res):Prop:=∀ a w,Good K F L a w→X a w
section
variable {K:Ctx} {F:Fr} {L:List Res} {P:Program}
theorem gB.put {a:Act} (G:gB K F a) (d:Nat) (c:Bool) (v v':Value) (hd:d < K.n) (hv:v' = (bif c then v else undef)):gB K ((d,c,v) :: F) (a.put (some d) v'):=by
 refine ⟨by simp [Act.put,G.size],G.le,fun c' u hl=>?_,fun t c' u hl=>?_⟩
 ·refine G.defers c' u ?_;have:Nat.beq d DS = false:=xE (by have:=G.le; omega)
  simpa only [eC,this,cond_false] using hl
 have hsz:d < a.tmps.size:=by rw [G.size]; exact hd
 show (a.tmps.setIfInBounds d v')[t]? = _;obtain ⟨hne0,hl⟩:=sf hl;simp only [eC] at hl;cases hb:Nat.beq d t with
 | true =>
   rw [hb] at hl;have:d = t:=Nat.eq_of_beq_eq_true hb;subst this;simp only [cond_true,Option.some.injEq,Prod.mk.injEq] at hl;obtain ⟨rfl,rfl⟩:=hl;rw [Array.getElem?_setIfInBounds_self_of_lt hsz,hv]
 | false =>
   rw [hb] at hl;have hne:d ≠ t:=Nat.ne_of_beq_eq_false hb;rw [Array.getElem?_setIfInBounds_ne hne];exact G.fr t c' u (by rw [xa hne0]; exact hl)
theorem Good.put {a:Act} {w w':World} {L':List Res} (G:Good K F L a w) (d:Nat) (c:Bool) (v v':Value) (hd:d < K.n) (hv:v' = (bif c then v else undef)) (h:aP K L' w'):Good K ((d,c,v) :: F) L' (a.put (some d) v') w' :=
 ⟨G.fo.put d c v v' hd hv,h⟩
theorem Good.world {a:Act} {w w':World} {L':List Res} (G:Good K F L a w) (h:aP K L' w'):Good K F L' a w':=⟨G.fo,h⟩
def Sub (F F':Fr):Prop:=∀ t e,eC F' t = some e→eC F t = some e
theorem Sub.nil:Sub F []:=fun t e h=>by simp [eC] at h
theorem Sub.cons {t:Nat} {e:Bool × Value} {F':Fr} (h1:eC F t = some e) (ih:Sub F F'):Sub F ((t,e) :: F'):=fun s e' h=>by
 simp only [eC] at h;cases hb:Nat.beq t s with
 | true =>
   rw [hb] at h;have:t = s:=Nat.eq_of_beq_eq_true hb;subst this;simp only [cond_true,Option.some.injEq] at h;rw [← h]; exact h1
 | false=>rw [hb] at h; exact ih s e' h
theorem Good.sub {a:Act} {w:World} {F':Fr} {L':List Res} (G:Good K F L a w) (hF:Sub F F') (hL:L'.Sublist L):Good K F' L' a w :=
 ⟨⟨G.fo.size,G.fo.le,fun c v h=>G.fo.defers c v (hF _ _ h),fun t c v h=>by
   obtain ⟨h1,h2⟩:=sf h;exact G.fo.fr t c v (by rw [xa h1]; exact hF t _ h2)⟩,G.inv.sub hL⟩
theorem Sat.sub {X:Act→World→Prop} {F':Fr} {L':List Res} (hF:Sub F F') (hL:L'.Sublist L) (h:Sat K X F' L'):Sat K X F L:=fun a w G=>h a w (G.sub hF hL)
def Opd (F:Fr) (g:Bool) (x:Operand) (v:Value):Prop :=
 match x with
 | .tmp t=>∃ c,look F t = some (c,v) ∧ (g = true→c = true)
 | .const u=>u = v
 | .func f=>v = .func (.func f) #[] #[]
 | .global n=>v = .pointer (some ⟨n,0,none⟩)
theorem Opd.t {g:Bool} {t:Nat} {v:Value} (h:look F t = some (true,v)):Opd F g (.tmp t) v:=⟨true,h,fun _=>rfl⟩
theorem Opd.g {g:Bool} {t:Nat} {c:Bool} {v:Value} (h:look F t = some (c,v)) (hc:g = true→c = true):Opd F g (.tmp t) v:=⟨c,h,hc⟩
theorem Opd.c {g:Bool} {u v:Value} (h:u = v):Opd F g (.const u) v:=h
theorem Opd.f {g:Bool} {f:Nat}:Opd F g (.func f) (.func (.func f) #[] #[]):=rfl
theorem Opd.eval {g:Bool} {x:Operand} {v:Value} (h:Opd F g x v) (hg:g = true) {a:Act} (G:gB K F a):a.eval x = v:=by
 cases x with
 | tmp t =>
   obtain ⟨c,h,hc⟩:=h;have h1:=G.fr _ _ _ h;rw [hc hg] at h1;simp only [cond_true] at h1;simp [Act.eval,h1]
 | const u=>exact h
 | func f=>exact h.symm
 | global n=>exact h.symm
def kN:Nat→List Value→Fr
 | _,[]=>[]
 | i,v :: vs=>(i,true,v) :: kN (i + 1) vs
theorem tG:∀ (vs:List Value) (i t:Nat) (c:Bool) (v:Value),eC (kN i vs) t = some (c,v)→c = true ∧ i ≤ t ∧ vs[t - i]? = some v
 | [],_,_,_,_,h=>by simp [kN,eC] at h
 | u :: vs,i,t,c,v,h=>by
   simp only [kN,eC] at h;cases hb:Nat.beq i t with
   | true =>
     rw [hb] at h;have:i = t:=Nat.eq_of_beq_eq_true hb;subst this;simp only [cond_true,Option.some.injEq,Prod.mk.injEq] at h;obtain ⟨rfl,rfl⟩:=h;exact ⟨rfl,Nat.le_refl _,by simp⟩
   | false =>
     rw [hb] at h;have hne:i ≠ t:=Nat.ne_of_beq_eq_false hb;obtain ⟨h1,h2,h3⟩:=tG vs (i + 1) t c v h;refine ⟨h1,by omega,?_⟩;rw [show t - i = (t - (i + 1)) + 1 by omega]
     simpa using h3
theorem enterFr {n:Nat} {K:Ctx} (hn:K.n = n) (hn2:n ≤ DS) {fn:Func} (hfn:fn.ntmps = n) {args:Array Value} (hsz:args.size ≤ n):gB K (dz :: kN 0 args.toList) { tmps:=args ++ Array.replicate (fn.ntmps - args.size) undef,defers:=[] }:=by
 subst hn;refine ⟨?_,hn2,?_,?_⟩
 ·simp only [Array.size_append,Array.size_replicate]; omega
 ·intro c v hl;have e:eC (dz :: kN 0 args.toList) DS = some (true,mkV []):=rfl;rw [e] at hl;cases hl;exact ⟨[],rfl,rfl⟩
 ·intro t c v hl;obtain ⟨hne,hl⟩:=sf hl;have e:eC (dz :: kN 0 args.toList) t = eC (kN 0 args.toList) t:=by
   have:Nat.beq 1000000 t = false:=xE (fun e=>hne e.symm);simp only [eC,this,cond_false]
  rw [e] at hl;obtain ⟨rfl,_,h3⟩:=tG _ _ _ _ _ hl;simp only [Nat.sub_zero] at h3;rw [Array.getElem?_append_left (by
   have:=List.getElem?_eq_some_iff.1 h3;obtain ⟨h4,_⟩:=this
   simpa using h4)]
  simpa using h3
abbrev bodyPost (P:Program) (K:Ctx) (fn:Func) (R:cX):Exit→Act→World→Prop:=qS P K.E.fr fn (pmK K) R
theorem nG {X:Ext} {fr:Nat} {f:FuncId} {fn:Func} {c:Code} {args:Array Value} {w:World} {R:cX} (n:Nat) (L:List Res)
 (hf:P.funcs[f]? = some fn) (hb:fn.body = some c) (hn:fn.ntmps = n) (hsz:args.size ≤ n) (hfr:fr ≤ w.heap.size) (hM:∀ b,R.M b→fr ≤ b) (hL:Ctx.OK ⟨n,w,R.M,⟨X,fr,none⟩⟩→aP ⟨n,w,R.M,⟨X,fr,none⟩⟩ L w)
 (h:Sat ⟨n,w,R.M,⟨X,fr,none⟩⟩ (c.wpX P ⟨X,fr,none⟩ (pmC w R.M) (bodyPost P ⟨n,w,R.M,⟨X,fr,none⟩⟩ fn R)) (dz :: kN 0 args.toList) L) (hn2:Nat.ble n 1000000 = true:=by rfl):eo X fr P f args w R :=
 callE_of_wp hf hb (h _ _ ⟨enterFr rfl (Nat.le_of_ble_eq_true hn2) hn hsz,hL ⟨hfr,hM⟩⟩)
theorem enter {f:FuncId} {fn:Func} {c:Code} {args:Array Value} {w:World} {R:cX} (n:Nat) (L:List Res)
 (hf:P.funcs[f]? = some fn) (hb:fn.body = some c) (hn:fn.ntmps = n) (hsz:args.size ≤ n) (hL:∀ E,Ctx.OK ⟨n,w,R.M,E⟩→aP ⟨n,w,R.M,E⟩ L w)
 (h:∀ X fr,Sat ⟨n,w,R.M,⟨X,fr,none⟩⟩ (c.wpX P ⟨X,fr,none⟩ (pmC w R.M) (bodyPost P ⟨n,w,R.M,⟨X,fr,none⟩⟩ fn R)) (dz :: kN 0 args.toList) L) (hn2:Nat.ble n 1000000 = true:=by rfl):Calls P f args w R:=fun X fr hfr hM =>
 nG n L hf hb hn hsz hfr hM (hL _) (h X fr) hn2
theorem enter0 {f:FuncId} {fn:Func} {c:Code} {args:Array Value} {w:World} {R:cX} (n:Nat)
 (hf:P.funcs[f]? = some fn) (hb:fn.body = some c) (hn:fn.ntmps = n) (hsz:args.size ≤ n)
 (h:∀ X fr,Sat ⟨n,w,R.M,⟨X,fr,none⟩⟩ (c.wpX P ⟨X,fr,none⟩ (pmC w R.M) (bodyPost P ⟨n,w,R.M,⟨X,fr,none⟩⟩ fn R)) (dz :: kN 0 args.toList) []) (hn2:Nat.ble n 1000000 = true:=by rfl):Calls P f args w R :=
 enter n [] hf hb hn hsz (fun E ok=>aP.start ok) h hn2
def RV (P:Program) (K:Ctx) (F:Fr) (L:List Res):List ResultVar→List Value→Prop
 | [],vs=>vs = []
 | .tmp t :: rs,vs=>∃ v us,vs = v :: us ∧ look F t = some (true,v) ∧ RV P K F L rs us
 | .cell t ty :: rs,vs=>∃ v us p,vs = v :: us ∧ look F t = some (true,.pointer (some p)) ∧ (∀ w,aP K L w→a9 w→(loadVar ty p).wpS P (pmK K) K.E.fr (fun x w'=>x = v ∧ w' = w) w) ∧ RV P K F L rs us
theorem RV.nil:RV P K F L [] []:=rfl
theorem RV.tmp {t:Nat} {v:Value} {rs:List ResultVar} {vs:List Value} (h:look F t = some (true,v)) (hr:RV P K F L rs vs):RV P K F L (.tmp t :: rs) (v :: vs):=⟨v,vs,rfl,h,hr⟩
theorem RV.cell {t:Nat} {ty:TypeId} {p:Addr} {v:Value} {rs:List ResultVar} {vs:List Value} (h:look F t = some (true,.pointer (some p)))
 (hl:∀ w,aP K L w→a9 w→(loadVar ty p).wpS P (pmK K) K.E.fr (fun x w'=>x = v ∧ w' = w) w) (hr:RV P K F L rs vs):RV P K F L (.cell t ty :: rs) (v :: vs):=⟨v,vs,p,rfl,h,hl,hr⟩
def jY:List Value→Value
 | [v]=>v
 | vs=>.tuple vs.toArray
def rvSem (a:Act):ResultVar→Sem Value
 | .tmp t=>pure (a.tmps.getD t undef)
 | .cell s t=>do loadVar t (← asAddr (a.tmps.getD s undef))
theorem wpS_map {α β:Type} {pm:Nat→Prop} {fr:Nat} {Q:β→World→Prop} (f:α→β) {e:Sem α} {v:World} (h:e.wpS P pm fr (fun a v'=>Q (f a) v') v):(Functor.map f e).wpS P pm fr Q v:=bA _ e v h
theorem RV.run:∀ {rs:List ResultVar} {vs:List Value},RV P K F L rs vs→∀ {a:Act} {w:World},Good K F L a w→a9 w →
 (rs.mapM (rvSem a)).wpS P (pmK K) K.E.fr (fun x w'=>x = vs ∧ w' = w) w
 | [],vs,h,a,w,_,_=>by rw [show vs = [] from h]; exact ⟨rfl,rfl⟩
 | .tmp t :: rs,vs,h,a,w,G,hn=>by
   obtain ⟨v,us,rfl,h,hr⟩:=h;have h1:=G.fo.fr _ _ _ h;simp only [cond_true] at h1;rw [List.mapM_cons];refine bA _ _ _ ?_;show (fun a_1 v'=>_) (a.tmps.getD t undef) w;refine bA _ _ _ (aU ?_ _ _ (RV.run hr G hn));rintro x w' ⟨rfl,rfl⟩;refine ⟨?_,rfl⟩;rw [Array.getD_eq_getD_getElem?,h1]
   rfl
 | .cell t ty :: rs,vs,h,a,w,G,hn=>by
   obtain ⟨v,us,p,rfl,h,hl,hr⟩:=h;have h1:=G.fo.fr _ _ _ h;simp only [cond_true] at h1;have e1:a.tmps.getD t undef = .pointer (some p):=by rw [Array.getD_eq_getD_getElem?,h1]; rfl
   rw [List.mapM_cons];refine bA _ _ _ ?_;show (asAddr (a.tmps.getD t undef) >>= fun q=>loadVar ty q).wpS P _ _ _ _;rw [e1];refine bA _ _ _ ?_;show (loadVar ty p).wpS P _ _ _ _;refine aU ?_ _ _ (hl w G.inv hn);rintro x w' ⟨rfl,rfl⟩;refine bA _ _ _ (aU ?_ _ _ (RV.run hr G hn));rintro y w' ⟨rfl,rfl⟩;exact ⟨rfl,rfl⟩
theorem lq {fn:Func} {rs:List ResultVar} {vs:List Value} (hr:fn.results = rs.toArray) (h:RV P K F L rs vs) {a:Act} {w:World} (G:Good K F L a w) (hn:a9 w) :
 (results fn a.tmps).wpS P (pmK K) K.E.fr (fun x w'=>x = jY vs ∧ w' = w) w:=by
 have h1:=h.run G hn;have e:results fn a.tmps = (do
  let vs ← fn.results.mapM (rvSem a)
  pure (if h:vs.size = 1 then vs[0] else .tuple vs)):=rfl
 rw [e,hr,List.mapM_toArray];refine bA _ _ _ (wpS_map _ (aU ?_ _ _ h1));rintro x w' ⟨rfl,rfl⟩;refine ⟨?_,rfl⟩
 match x with
 | []=>rfl
 | [v]=>rfl
 | v :: u :: vs=>simp [jY]
theorem Good.lh {a:Act} {w w1:World} (G:Good K F L a w) (hg:bo w w1):Good K F L a w1:=⟨G.fo,G.inv.grow (aJ.ed hg)⟩
theorem vG (hD:eC F 1000000 = some (true,mkV [])) {a:Act} (G:gB K F a):a.defers = []:=by
 obtain ⟨m,h1,h2⟩:=G.defers _ _ hD;rw [← wY h1] at h2;exact h2
theorem done {fn:Func} {R:cX} {rs:List ResultVar} {vs:List Value} (hr:fn.results = rs.toArray) (h:RV P K F L rs vs)
 (hR:∀ w,aP K L w→R (.returned (jY vs)) w) (hD:eC F 1000000 = some (true,mkV []):=by rfl):Sat K (bodyPost P K fn R .ret) F L:=fun a w G=>by
 show nJ P K.E.fr fn (pmK K) R a.tmps a.defers w;rw [vG hD G.fo];exact ⟨_,fun w1 hg hn=>lq hr h (G.lh hg) hn,hR w G.inv⟩
theorem rH {fn:Func} {R:cX} {rs:List ResultVar} {vs:List Value} (hr:fn.results = rs.toArray) (h:RV P K F L rs vs)
 (hR:∀ w,aP K L w→R (.returned (jY vs)) w) (hD:eC F 1000000 = some (true,mkV []):=by rfl):Sat K (bodyPost P K fn R .normal) F L:=fun a w G=>by
 show nJ P K.E.fr fn (pmK K) R a.tmps a.defers w;rw [vG hD G.fo];exact ⟨_,fun w1 hg hn=>lq hr h (G.lh hg) hn,hR w G.inv⟩
end
end Go.Gx
namespace Go
open Gx in
abbrev Code.wpK (c:Code) (P:Program) (K:Ctx) (Q:Exit→Act→World→Prop):Act→World→Prop:=c.wpX P K.E (pmK K) Q
end Go
namespace Go.Gx
open Go Go.RowKit
def wpList (P:Program) (K:Ctx) (ops:Array Oper) (Q:Exit→Act→World→Prop) (rest:List Oper) (a:Act) (w:World):Prop :=
 ∀ i,ops.toList.drop i = rest→qW P K.E (pmK K) ops (List.range' i rest.length) Q a w
section
variable {K:Ctx} {F:Fr} {L:List Res} {P:Program}
variable {Q:Exit→Act→World→Prop} {N:Act→World→Prop}
theorem seq {x y:Code} (h:Sat K (x.wpK P K (Exit.then (y.wpK P K Q) Q)) F L):Sat K ((Code.seq x y).wpK P K Q) F L:=fun a w G=>wpX_seq (h a w G)
theorem skip (h:Sat K (Q .normal) F L):Sat K (Code.skip.wpK P K Q) F L:=fun a w G=>wpX_skip (h a w G)
theorem exit {id:Nat} (h:Sat K (Q (.exit id)) F L):Sat K ((Code.exit id).wpK P K Q) F L:=fun a w G=>wpX_exit (h a w G)
theorem ret (h:Sat K (Q .ret) F L):Sat K (Code.ret.wpK P K Q) F L:=fun a w G=>wpX_ret (h a w G)
theorem block {id:Nat} {c:Code} (h:Sat K (c.wpK P K (Exit.inBlock id Q)) F L):Sat K ((Code.block id c).wpK P K Q) F L:=fun a w G=>wpX_block (h a w G)
theorem region {id:Nat} {l:List Oper} (h:Sat K (wpList P K l.toArray Q l) F L):Sat K ((Code.region id l.toArray false).wpK P K Q) F L:=fun a w G=>wpX_region (by
 have h1:=h a w G 0 (by simp);rw [List.range_eq_range']
 simpa using h1)
theorem nil {ops:Array Oper} (h:Sat K (Q .normal) F L):Sat K (wpList P K ops Q []) F L:=fun a w G i _=>tw (h a w G)
theorem pN (h:Sat K N F L):Sat K (Exit.then N Q .normal) F L:=h
theorem pX {id:Nat} (h:Sat K (Q (.exit id)) F L):Sat K (Exit.then N Q (.exit id)) F L:=h
theorem pR (h:Sat K (Q .ret) F L):Sat K (Exit.then N Q .ret) F L:=h
theorem bN {id:Nat} (h:Sat K (Q .normal) F L):Sat K (Exit.inBlock id Q .normal) F L:=h
theorem bR {id:Nat} (h:Sat K (Q .ret) F L):Sat K (Exit.inBlock id Q .ret) F L:=h
theorem bX {id:Nat} (h:Sat K (Q .normal) F L):Sat K (Exit.inBlock id Q (.exit id)) F L:=fun a w G=>by
 show (if id = id then Q .normal a w else Q (.exit id) a w);rw [if_pos rfl]; exact h a w G
theorem cond {t:Nat} {b:Bool} {x y:Code} (hb:look F t = some (true,.bool b)) (h1:b = true→Sat K (x.wpK P K Q) F L) (h2:b = false→Sat K (y.wpK P K Q) F L) :
 Sat K ((Code.cond (.tmp t) x y).wpK P K Q) F L:=fun a w G=>by
 have hv:a.eval (.tmp t) = .bool b:=(Opd.t hb:Opd F true (.tmp t) (.bool b)).eval rfl G.fo;exact sG hv (fun h=>h1 h a w G) (fun h=>h2 h a w G)
theorem condD {t:Nat} {p:Prop} [Decidable p] {x y:Code} (hb:look F t = some (true,.bool (decide p))) (h1:p→Sat K (x.wpK P K Q) F L) (h2:¬ p→Sat K (y.wpK P K Q) F L) :
 Sat K ((Code.cond (.tmp t) x y).wpK P K Q) F L:=cond hb (fun h=>h1 (of_decide_eq_true h)) (fun h=>h2 (of_decide_eq_false h))
theorem condT {t:Nat} {x y:Code} {b:Bool} (hb:look F t = some (true,.bool b)) (hc:b = true) (h1:Sat K (x.wpK P K Q) F L) :
 Sat K ((Code.cond (.tmp t) x y).wpK P K Q) F L:=cond hb (fun _=>h1) (fun h=>by rw [hc] at h; cases h)
theorem fL {t:Nat} {x y:Code} {b:Bool} (hb:look F t = some (true,.bool b)) (hc:b = false) (h1:Sat K (y.wpK P K Q) F L) :
 Sat K ((Code.cond (.tmp t) x y).wpK P K Q) F L:=cond hb (fun h=>by rw [hc] at h; cases h) (fun _=>h1)
theorem loop {X:Type} {c:Code} (J:X→Prop) (Fx:X→Fr) (Lx:X→List Res) (μ:X→Nat) (x0:X) (h0:J x0) (hF:Sub F (Fx x0)) (hL:(Lx x0).Sublist L)
 (round:∀ x,J x→Sat K (c.wpK P K (Exit.then (fun a w=>∃ x',J x' ∧ μ x' < μ x ∧ Good K (Fx x') (Lx x') a w) Q)) (Fx x) (Lx x)) :
 Sat K ((Code.loop c).wpK P K Q) F L:=fun a w G=>by
 refine wpX_loop (fun m a w=>∃ x,μ x = m ∧ J x ∧ Good K (Fx x) (Lx x) a w) (μ x0) ⟨x0,rfl,h0,G.sub hF hL⟩ ?_;rintro m a w ⟨x,rfl,hx,Gx⟩;refine mJ (round x hx a w Gx) ?_;intro e a' w' hq;cases e with
 | normal =>
   obtain ⟨x',hJ,hlt,G'⟩:=hq;exact ⟨μ x',hlt,x',rfl,hJ,G'⟩
 | _=>exact hq
theorem next {X:Type} {J:X→Prop} {Fx:X→Fr} {Lx:X→List Res} {μ:X→Nat} {x:X} (x':X) (hJ:J x') (hlt:μ x' < μ x) (hF:Sub F (Fx x')) (hL:(Lx x').Sublist L) :
 Sat K (fun a w=>∃ x',J x' ∧ μ x' < μ x ∧ Good K (Fx x') (Lx x') a w) F L:=fun _ _ G=>⟨x',hJ,hlt,G.sub hF hL⟩
theorem cut {X:Type} {x y:Code} (J:X→Prop) (Fx:X→Fr) (Lx:X→List Res)
 (h1:Sat K (x.wpK P K (Exit.then (fun a w=>∃ x',J x' ∧ Good K (Fx x') (Lx x') a w) Q)) F L) (h2:∀ x',J x'→Sat K (y.wpK P K Q) (Fx x') (Lx x')) :
 Sat K ((Code.seq x y).wpK P K Q) F L:=fun a w G=>by
 refine wpX_seq (mJ (h1 a w G) ?_);intro e a' w' hq;cases e with
 | normal =>
   obtain ⟨x',hJ,G'⟩:=hq;exact h2 x' hJ a' w' G'
 | _=>exact hq
theorem meet {X:Type} {J:X→Prop} {Fx:X→Fr} {Lx:X→List Res} (x':X) (hJ:J x') (hF:Sub F (Fx x')) (hL:(Lx x').Sublist L) :
 Sat K (fun a w=>∃ x',J x' ∧ Good K (Fx x') (Lx x') a w) F L:=fun _ _ G=>⟨x',hJ,G.sub hF hL⟩
def bH (P:Program) (K:Ctx) (ops:Array Oper) (Q:Exit→Act→World→Prop) (o:Oper) (N:Act→World→Prop) (a:Act) (w:World):Prop :=
 if Region.wanted o (yielded ops a.tmps) then (eK o.op = false ∨ K.E.rnd = none) ∧ (a9 w→OpX P K.E (pmK K) o a N w) else N (a.put o.dst undef) w
variable {ops:Array Oper} {o:Oper} {rest:List Oper}
theorem drop_cons {l:List Oper} {i:Nat} (h:l.drop i = o :: rest):l[i]? = some o ∧ l.drop (i + 1) = rest:=by
 have h1:(l.drop i)[0]? = some o:=by rw [h]; rfl
 rw [List.getElem?_drop] at h1;refine ⟨by simpa using h1,?_⟩;have h2:(l.drop i).drop 1 = rest:=by rw [h]; rfl
 rw [List.drop_drop] at h2;exact h2
theorem cons (h:Sat K (bH P K ops Q o (wpList P K ops Q rest)) F L):Sat K (wpList P K ops Q (o :: rest)) F L:=fun a w G i hi=>by
 obtain ⟨h1,h2⟩:=drop_cons hi;have ho:ops[i]? = some o:=by rw [← Array.getElem?_toList]; exact h1
 have h3:=h a w G;unfold bH at h3;rw [List.length_cons,List.range'_succ];split at h3
 ·rename_i hw;refine vF ho hw h3.1 fun v1 hg hn=>?_
  have h4:=h a v1 (G.lh hg);unfold bH at h4;rw [if_pos hw] at h4;exact uH (fun a' v' x=>x (i + 1) h2) (h4.2 hn)
 ·rename_i hw;exact oC ho (by simpa using hw) (h3 (i + 1) h2)
theorem bF {a:Act} {w:World} (hg:o.guard = none) (hd:eK o.op = false) (h:a9 w→OpX P K.E (pmK K) o a N w):bH P K ops Q o N a w:=by
 unfold bH;rw [if_pos (by simp [Region.wanted,hg])];exact ⟨.inl hd,h⟩
def Ev (P:Program) (K:Ctx) (F:Fr) (L:List Res) (g:Bool) (op:Op) (ty:TypeId) (v:Value):Prop :=
 g = true→eK op = false ∧ ∀ a,gB K F a→∀ w,aP K L w→a9 w→∀ dst pos af gd,(execOp a.eval ⟨dst,op,ty,pos,af,gd⟩).wpS P (pmK K) K.E.fr (fun n v'=>n = .value v ∧ v' = w) w
variable {op:Op} {ty:TypeId} {pos:String} {af:Array Edge} {v:Value} {d:Nat}
theorem Ev.of {g:Bool} (nd:eK op = false) (tm:g = true→∀ a,gB K F a→∀ w,aP K L w→∀ dst pos af gd,Tm P (pmK K) K.E.fr (execOp a.eval ⟨dst,op,ty,pos,af,gd⟩))
 (h:g = true→∀ a,gB K F a→∀ w,aP K L w→∀ dst pos af gd,(execOp a.eval ⟨dst,op,ty,pos,af,gd⟩).run P w = .ok (.value v) w):Ev P K F L g op ty v :=
 fun hg=>⟨nd,fun a fo w I hn dst pos af gd=>(tm hg a fo w I dst pos af gd).at hn _ _ (h hg a fo w I dst pos af gd)⟩
theorem Ev.ofW {g:Bool} (nd:eK op = false) (tm:g = true→∀ a,gB K F a→∀ w,aP K L w→∀ dst pos af gd,TmW P (pmK K) K.E.fr (execOp a.eval ⟨dst,op,ty,pos,af,gd⟩) w)
 (h:g = true→∀ a,gB K F a→∀ w,aP K L w→∀ dst pos af gd,(execOp a.eval ⟨dst,op,ty,pos,af,gd⟩).run P w = .ok (.value v) w):Ev P K F L g op ty v :=
 fun hg=>⟨nd,fun a fo w I hn dst pos af gd=>tm hg a fo w I dst pos af gd hn _ _ (h hg a fo w I dst pos af gd)⟩
theorem opRunW {a:Act} {w w':World} {v:Value} (hr:(execOp a.eval o).run P w = .ok (.value v) w') (ht:TmW P (pmK K) K.E.fr (execOp a.eval o) w) (hn:a9 w) (next:N (a.put o.dst v) w'):OpX P K.E (pmK K) o a N w:=by
 refine aU ?_ _ _ (ht hn _ _ hr);rintro n w2 ⟨rfl,rfl⟩;exact next
theorem wT {a:Act} {w w':World} (hr:(execOp a.eval o).run P w = .ok .skip w') (ht:TmW P (pmK K) K.E.fr (execOp a.eval o) w) (hn:a9 w) (next:N (a.put o.dst undef) w'):OpX P K.E (pmK K) o a N w:=by
 refine aU ?_ _ _ (ht hn _ _ hr);rintro n w2 ⟨rfl,rfl⟩;exact next
theorem nc {a:Act} {w w':World} {v:Value} (hr:(execOp a.eval o).run P w = .ok (.value v) w') (ht:Tm P (pmK K) K.E.fr (execOp a.eval o)) (hn:a9 w) (next:N (a.put o.dst v) w'):OpX P K.E (pmK K) o a N w:=opRunW hr ht.at hn next
theorem opRunS {a:Act} {w w':World} (hr:(execOp a.eval o).run P w = .ok .skip w') (ht:Tm P (pmK K) K.E.fr (execOp a.eval o)) (hn:a9 w) (next:N (a.put o.dst undef) w'):OpX P K.E (pmK K) o a N w:=wT hr ht.at hn next
theorem Ev.opx {gd:Option (Nat × Bool)} {dst:Option Tmp} (h:Ev P K F L true op ty v) {a:Act} {w:World} (fo:gB K F a) (I:aP K L w) (hn:a9 w) (next:N (a.put dst v) w):OpX P K.E (pmK K) ⟨dst,op,ty,pos,af,gd⟩ a N w :=
 aU (by rintro n w2 ⟨rfl,rfl⟩; exact next) _ _ ((h rfl).2 a fo w I hn _ _ _ _)
theorem Ev.yield {g:Bool} (h:Ev P K F L g op ty v) (hg:g = true) {a:Act} (fo:gB K F a) (w:World) (I:aP K L w) (hn:a9 w) {gd:Option (Nat × Bool)} {dst:Option Tmp}:(execOp a.eval ⟨dst,op,ty,pos,af,gd⟩).wpS P (pmK K) K.E.fr (fun n v'=>n = .value v ∧ v' = w) w :=
 (h hg).2 a fo w I hn _ _ _ _
theorem opv (h:Ev P K F L true op ty v) (next:Sat K N ((d,true,v) :: F) L) (hd:Nat.blt d K.n = true:=by rfl):Sat K (bH P K ops Q ⟨some d,op,ty,pos,af,none⟩ N) F L:=fun a w G =>
 bF rfl (h rfl).1 fun hn=>h.opx G.fo G.inv hn (next _ _ (G.put d true v v (by simpa [Nat.blt_eq] using hd) rfl G.inv))
theorem yielded_of {j tg:Nat} {c1 c2:Bool} {a:Act} (hj:(ops[j]?).bind (·.dst) = some tg) (hg:look F tg = some (c1,.bool c2)) (G:gB K F a) :
 yielded ops a.tmps j = bif c1 then some c2 else none:=by
 have h1:=G.fr _ _ _ hg;unfold yielded;rw [hj];simp only [Option.bind_some,h1];cases c1 <;> rfl
theorem j9 {j tg:Nat} {want c1 c2:Bool} {a:Act} (hgd:o.guard = some (j,want)) (hj:(ops[j]?).bind (·.dst) = some tg) (hg:look F tg = some (c1,.bool c2)) (G:gB K F a) :
 Region.wanted o (yielded ops a.tmps) = (c1 && (c2 == want)):=by
 unfold Region.wanted;rw [hgd];simp only [yielded_of hj hg G];cases c1 <;> cases c2 <;> cases want <;> rfl
theorem opg {j tg:Nat} {want c1 c2:Bool} (hj:(ops[j]?).bind (·.dst) = some tg) (hg:look F tg = some (c1,.bool c2))
 (h:Ev P K F L (c1 && (c2 == want)) op ty v) (next:Sat K N ((d,(c1 && (c2 == want)),v) :: F) L) (hd:Nat.blt d K.n = true:=by rfl) :
 Sat K (bH P K ops Q ⟨some d,op,ty,pos,af,some (j,want)⟩ N) F L:=fun a w G=>by
 unfold bH;rw [j9 rfl hj hg G.fo];have hd':d < K.n:=by simpa [Nat.blt_eq] using hd
 cases hc:(c1 && (c2 == want)) with
 | true =>
   rw [if_pos rfl];rw [hc] at next h;exact ⟨.inl (h rfl).1,fun hn=>h.opx G.fo G.inv hn (next _ _ (G.put d true v v hd' rfl G.inv))⟩
 | false =>
   rw [if_neg Bool.false_ne_true];rw [hc] at next;exact next _ _ (G.put d false v undef hd' rfl G.inv)
abbrev gq (P:Program) (K:Ctx) (ops:Array Oper) (Q:Exit→Act→World→Prop) (Lq:List Res) (fuel:Nat) (listed:Array Bool):Act→World→Prop :=
 om P K.E (pmK K) .any ops Q (fun w=>aP K Lq w) fuel listed
theorem draw {id:Nat} {l:List Oper} (Lq:List Res) (hm:P.follows .mixedOrders = true)
 (h:Sat K (gq P K l.toArray Q Lq l.toArray.size (Array.replicate l.toArray.size false)) F L):Sat K ((Code.region id l.toArray true).wpK P K Q) F L:=fun a w G =>
 rP (S:=fun w=>aP K Lq w) hm fun v1 hg _=>h a _ ((G.lh hg).world ((G.lh hg).inv.grow (aJ.drew _ _)))
theorem aP.xk:∀ v v1,aP K L v→bo v v1→aP K L v1:=fun _ _ h hg=>h.grow (aJ.ed hg)
theorem take {Lq:List Res} {fuel:Nat} {listed:Array Bool} (i:Nat) (hi:ops[i]? = some ⟨some d,op,ty,pos,af,none⟩) (hs:Region.noSelect ops = true)
 (hf:Region.free .any ops listed i = true) (hr:(Region.ready .any ops listed).contains i = true) (hL:Lq.Sublist L)
 (h:Ev P K F Lq true op ty v) (next:Sat K (gq P K ops Q Lq fuel (listed.setIfInBounds i true)) ((d,true,v) :: F) L) (hd:Nat.blt d K.n = true:=by rfl) :
 Sat K (gq P K ops Q Lq (fuel + 1) listed) F L:=fun a w G=>by
 refine qT (x:=v) aP.xk hi hs hf hr (.inl ⟨by simp [Region.wanted],(h rfl).1,fun w' hw' hn=>h.yield rfl G.fo w' hw' hn⟩) (G.inv.sub hL) ?_;exact next _ _ (G.put d true v v (by simpa [Nat.blt_eq] using hd) rfl G.inv)
theorem takeg {Lq:List Res} {fuel:Nat} {listed:Array Bool} {j tg:Nat} {want c1 c2:Bool} (i:Nat) (hi:ops[i]? = some ⟨some d,op,ty,pos,af,some (j,want)⟩) (hs:Region.noSelect ops = true)
 (hf:Region.free .any ops listed i = true) (hr:(Region.ready .any ops listed).contains i = true) (hL:Lq.Sublist L)
 (hj:(ops[j]?).bind (·.dst) = some tg) (hg:look F tg = some (c1,.bool c2))
 (h:Ev P K F Lq (c1 && (c2 == want)) op ty v) (next:Sat K (gq P K ops Q Lq fuel (listed.setIfInBounds i true)) ((d,(c1 && (c2 == want)),v) :: F) L) (hd:Nat.blt d K.n = true:=by rfl) :
 Sat K (gq P K ops Q Lq (fuel + 1) listed) F L:=fun a w G=>by
 have hw:=j9 (o:=⟨some d,op,ty,pos,af,some (j,want)⟩) rfl hj hg G.fo;have hd':d < K.n:=by simpa [Nat.blt_eq] using hd
 cases hc:(c1 && (c2 == want)) with
 | true =>
   rw [hc] at hw;rw [hc] at next;refine qT (x:=v) aP.xk hi hs hf hr (.inl ⟨hw,(h hc).1,fun w' hw' hn=>h.yield hc G.fo w' hw' hn⟩) (G.inv.sub hL) ?_;exact next _ _ (G.put d true v v hd' rfl G.inv)
 | false =>
   rw [hc] at hw;rw [hc] at next;refine qT (x:=undef) aP.xk hi hs hf hr (.inr ⟨hw,rfl⟩) (G.inv.sub hL) ?_;exact next _ _ (G.put d false v undef hd' rfl G.inv)
def heldN (P:Program) (K:Ctx) (ops:Array Oper) (Q:Exit→Act→World→Prop) (Lq:List Res) (fuel:Nat) (listed:Array Bool) (a:Act) (w:World):Prop :=
 aP K Lq w ∧ ∀ w2,bo w w2→gq P K ops Q Lq fuel listed a w2
theorem heldN_of {Lq:List Res} {fuel:Nat} {listed:Array Bool} (hL:Lq.Sublist L) (h:Sat K (gq P K ops Q Lq fuel listed) F L):Sat K (heldN P K ops Q Lq fuel listed) F L :=
 fun a w G=>⟨G.inv.sub hL,fun w2 hg=>h a w2 (G.lh hg)⟩
def Each (K:Ctx) (F:Fr) (L:List Res) (P:Program) (ops:Array Oper) (Q:Exit→Act→World→Prop) (Lq:List Res) (fuel:Nat) (listed:Array Bool) (rs:List Nat):Prop :=
 ∀ i ∈ rs,∃ o,ops[i]? = some o ∧ Sat K (bH P K ops Q o (heldN P K ops Q Lq fuel (listed.setIfInBounds i true))) F L
theorem Each.nil {Lq:List Res} {fuel:Nat} {listed:Array Bool}:Each K F L P ops Q Lq fuel listed []:=fun _ h=>absurd h List.not_mem_nil
theorem Each.cons {Lq:List Res} {fuel:Nat} {listed:Array Bool} {i:Nat} {rs:List Nat} {o:Oper} (ho:ops[i]? = some o) (h:Sat K (bH P K ops Q o (heldN P K ops Q Lq fuel (listed.setIfInBounds i true))) F L)
 (hr:Each K F L P ops Q Lq fuel listed rs):Each K F L P ops Q Lq fuel listed (i :: rs):=fun j hj=>by
 rcases List.mem_cons.1 hj with rfl | hj
 ·exact ⟨o,ho,h⟩
 ·exact hr j hj
theorem all {Lq:List Res} {fuel:Nat} {listed:Array Bool} (rs:List Nat) (hr:Region.ready .any ops listed = rs) (hne:rs ≠ [])
 (h:Each K F L P ops Q Lq fuel listed rs):Sat K (gq P K ops Q Lq (fuel + 1) listed) F L:=fun a w G=>by
 refine anyX_all hr hne ?_;intro i hi;obtain ⟨o,ho,hs⟩:=h i hi;refine ⟨o,ho,?_⟩;have h1:=hs a w G;unfold bH at h1;split at h1
 ·rename_i hw;refine .inl ⟨hw,h1.1,fun v1 hg hn=>?_⟩;have h2:=hs a v1 (G.lh hg);unfold bH at h2;rw [if_pos hw] at h2;exact h2.2 hn
 ·rename_i hw;exact .inr ⟨by simpa using hw,h1⟩
theorem over {Lq:List Res} {fuel:Nat} {listed:Array Bool} (hr:Region.ready .any ops listed = []) (h:Sat K (Q .normal) F L) :
 Sat K (gq P K ops Q Lq fuel listed) F L:=fun a w G=>anyX_done hr (fun v1 hg=>h a v1 (G.lh hg)) fuel
def fq (F:Fr) (g:Bool):List Operand→List Value→Prop
 | [],vs=>vs = []
 | x :: xs,vs=>∃ v us,vs = v :: us ∧ Opd F g x v ∧ fq F g xs us
theorem fq.nil {g:Bool}:fq F g [] []:=rfl
theorem fq.cons {g:Bool} {x:Operand} {v:Value} {xs:List Operand} {vs:List Value} (h:Opd F g x v) (hs:fq F g xs vs):fq F g (x :: xs) (v :: vs):=⟨v,vs,rfl,h,hs⟩
theorem fq.eval {g:Bool}:∀ {xs:List Operand} {vs:List Value},fq F g xs vs→g = true→∀ {a:Act},gB K F a→xs.map a.eval = vs
 | [],_,h,_,_,_=>by rw [show _ = [] from h]; rfl
 | x :: xs,vs,h,hg,a,G=>by
   obtain ⟨v,us,rfl,h,hs⟩:=h;simp [h.eval hg G,fq.eval hs hg G]
structure cv (P:Program) (f:FuncId):Prop where
 fn:∃ fn,P.funcs[f]? = some fn ∧ (fn.name == "runtime.NumGoroutine") = false ∧ fn.body.isNone = false
theorem cv.mk' {f:FuncId} (h:(P.funcs[f]?).map (fun fn=>(fn.name == "runtime.NumGoroutine",fn.body.isNone)) = some (false,false)):cv P f:=by
 cases hf:P.funcs[f]? with
 | none=>rw [hf] at h; cases h
 | some fn =>
   rw [hf] at h;simp only [Option.map_some,Option.some.injEq,Prod.mk.injEq] at h;exact ⟨fn,hf,h.1,h.2⟩
theorem dZ {f:FuncId} (h:cv P f) (args:Array Value) {pm:Nat→Prop} {fr:Nat} (w:World):(callFunc f args).wpS P pm fr (fun n w'=>n = .enter f args ∧ w' = w) w:=by
 obtain ⟨fn,h1,h2,h3⟩:=h.fn;have h4:¬ (fn.name == "runtime.NumGoroutine") = true:=by rw [h2]; exact Bool.false_ne_true
 have h5:¬ fn.body.isNone = true:=by rw [h3]; exact Bool.false_ne_true
 unfold callFunc;refine bA _ _ _ ?_;show (match P.funcs[f]? with | none=>_ | some fn=>_:Sem Next).wpS P pm fr _ w;rw [h1];simp only [if_neg h4,if_neg h5];exact ⟨rfl,rfl⟩
def Ret (w:World) (Φ:Value→World→Prop):cX:=⟨dI,fun e w'=>∃ v,e = .returned v ∧ aJ dI w w' ∧ Φ v w'⟩
def bG (w:World) (v:Value):cX:=⟨dI,fun e w'=>e = .returned v ∧ aJ dI w w'⟩
theorem qL {f:FuncId} {args:List Operand} {ats:Array TypeId} {vs:List Value} {g:Bool} (hen:cv P f) (hargs:fq F g args vs) (hg:g = true) {a:Act} (G:gB K F a) {pm:Nat→Prop} {fr:Nat} (w:World) {dst:Option Tmp} {gd:Option (Nat × Bool)} :
 (execOp a.eval ⟨dst,.call { callee:=.value (.func f),args:=args.toArray,argTypes:=ats },ty,pos,af,gd⟩).wpS P pm fr (fun n w'=>n = .enter f vs.toArray ∧ w' = w) w:=by
 have h1:=hargs.eval hg G;have h2:=dZ (P:=P) hen (vs.toArray) (pm:=pm) (fr:=fr) w;have e:execOp a.eval ⟨dst,.call { callee:=.value (.func f),args:=args.toArray,argTypes:=ats },ty,pos,af,gd⟩ = callFunc f vs.toArray:=by
  simp [execOp,resolve,Deferred.ofValue,invoke,Act.eval,h1]
 rw [e];exact h2
theorem Calls.here {f:FuncId} {args:Array Value} {w:World} {R:cX} (h:Calls P f args w R) (I:aP K L w) (hM:∀ b,R.M b→K.E.fr ≤ b):eo K.E.X K.E.fr P f args w R:=h _ _ (Nat.le_trans I.ok.1 I.keeps.size) hM
theorem aP.fr {r:Res} {w:World} (I:aP K L w) (hm:r ∈ L):∀ b,r.bQ b→K.E.fr ≤ b:=fun b hb=>((I.own r hm).2 b hb).1.elim (Nat.le_trans I.ok.1) (I.ok.2 b)
theorem qR {X:Type} {f:FuncId} {vs:List Value} {o:Oper} {d:Nat} (hdst:o.dst = some d) {R:cX} (J:X→Prop) (val:X→Value) (Lx:X→List Res) {a:Act} {w:World} (G:Good K F L a w)
 (he:(execOp a.eval o).wpS P (pmK K) K.E.fr (fun n w'=>n = .enter f vs.toArray ∧ w' = w) w) (hC:eo K.E.X K.E.fr P f vs.toArray w R) (hM:∀ b,R.M b→pmK K b)
 (hQ:∀ u w',R.Q (.returned u) w'→∃ x,J x ∧ u = val x ∧ aP K (Lx x) w')
 (next:∀ x,J x→Sat K N ((d,true,val x) :: F) (Lx x)) (hd:Nat.blt d K.n = true):OpX P K.E (pmK K) o a N w:=by
 refine aU ?_ _ _ he;rintro n w' ⟨rfl,rfl⟩;refine ⟨R,hC,fun b hb=>hb.elim (fun h=>.inl (Nat.le_trans G.inv.keeps.size h)) (hM b),fun u w2 hq=>?_⟩;obtain ⟨x,hJ,rfl,hI⟩:=hQ u w2 hq;rw [hdst];exact next x hJ _ _ (G.put d true (val x) (val x) (by simpa [Nat.blt_eq] using hd) rfl hI)
theorem uu {X:Type} {f:FuncId} {args:List Operand} {ats:Array TypeId} {vs:List Value} (R:World→cX) (J:X→Prop) (val:X→Value) (Lx:X→List Res) (hen:cv P f) (hargs:fq F true args vs)
 (hC:∀ w,aP K L w→eo K.E.X K.E.fr P f vs.toArray w (R w)) (hM:∀ w,aP K L w→∀ b,(R w).M b→pmK K b)
 (hQ:∀ w,aP K L w→∀ u w',(R w).Q (.returned u) w'→∃ x,J x ∧ u = val x ∧ aP K (Lx x) w')
 (next:∀ x,J x→Sat K N ((d,true,val x) :: F) (Lx x)) (hd:Nat.blt d K.n = true:=by rfl) :
 Sat K (bH P K ops Q ⟨some d,.call { callee:=.value (.func f),args:=args.toArray,argTypes:=ats },ty,pos,af,none⟩ N) F L:=fun a w G =>
 bF rfl rfl fun _=>qR rfl J val Lx G (qL hen hargs rfl G.fo w) (hC w G.inv) (hM w G.inv) (hQ w G.inv) next hd
theorem gW {w w':World} {u v:Value} (I:aP K L w) (h:(bG w v).Q (.returned u) w'):u = v ∧ aP K L w':=⟨by cases h.1; rfl,I.grow h.2⟩
theorem aQ {f:FuncId} {args:List Operand} {ats:Array TypeId} {vs:List Value} {u:Value} (hen:cv P f) (hargs:fq F true args vs)
 (hC:∀ w,aP K L w→Calls P f vs.toArray w (bG w u)) (next:Sat K N ((d,true,u) :: F) L) (hd:Nat.blt d K.n = true:=by rfl) :
 Sat K (bH P K ops Q ⟨some d,.call { callee:=.value (.func f),args:=args.toArray,argTypes:=ats },ty,pos,af,none⟩ N) F L :=
 uu (X:=Unit) (fun w=>bG w u) (fun _=>True) (fun _=>u) (fun _=>L) hen hargs (fun w I=>(hC w I).here I fun _ h=>h.elim) (fun _ _ _ h=>h.elim)
  (fun w I v w' q=>⟨(),trivial,(gW I q).1,(gW I q).2⟩) (fun _ _=>next) hd
theorem iM {f:FuncId} {args:List Operand} {ats:Array TypeId} {vs:List Value} {u:Value} {j tg:Nat} {want c1 c2:Bool} (hj:(ops[j]?).bind (·.dst) = some tg) (hg:look F tg = some (c1,.bool c2))
 (hen:cv P f) (hargs:fq F (c1 && (c2 == want)) args vs)
 (hC:(c1 && (c2 == want)) = true→∀ w,aP K L w→Calls P f vs.toArray w (bG w u)) (next:Sat K N ((d,(c1 && (c2 == want)),u) :: F) L) (hd:Nat.blt d K.n = true:=by rfl) :
 Sat K (bH P K ops Q ⟨some d,.call { callee:=.value (.func f),args:=args.toArray,argTypes:=ats },ty,pos,af,some (j,want)⟩ N) F L:=fun a w G=>by
 unfold bH;rw [j9 rfl hj hg G.fo];have hd':d < K.n:=by simpa [Nat.blt_eq] using hd
 cases hc:(c1 && (c2 == want)) with
 | true =>
   rw [if_pos rfl];rw [hc] at next;exact ⟨.inl rfl,fun _=>qR (X:=Unit) rfl (fun _=>True) (fun _=>u) (fun _=>L) G (qL hen hargs hc G.fo w) ((hC hc w G.inv).here G.inv fun _ h=>h.elim) (fun _ h=>h.elim)
    (fun v w' q=>⟨(),trivial,(gW G.inv q).1,(gW G.inv q).2⟩) (fun _ _=>next) hd⟩
 | false =>
   rw [if_neg Bool.false_ne_true];rw [hc] at next;exact next _ _ (G.put d false u undef hd' rfl G.inv)
def News (w w':World) (R:List Res):Prop:=(∀ r ∈ R,r.A w' ∧ ∀ b,r.bQ b→w.heap.size ≤ b ∧ b < w'.heap.size) ∧ R.Pairwise Res.qZ
theorem callf {f:FuncId} {args:List Operand} {ats:Array TypeId} {vs:List Value} (J:Value→Prop) (R:Value→List Res) (hen:cv P f) (hargs:fq F true args vs)
 (hC:∀ w,aP K L w→Calls P f vs.toArray w (Ret w fun v w'=>J v ∧ News w w' (R v))) (next:∀ v,J v→Sat K N ((d,true,v) :: F) (R v ++ L)) (hd:Nat.blt d K.n = true:=by rfl) :
 Sat K (bH P K ops Q ⟨some d,.call { callee:=.value (.func f),args:=args.toArray,argTypes:=ats },ty,pos,af,none⟩ N) F L :=
 uu (fun w=>Ret w fun v w'=>J v ∧ News w w' (R v)) J (fun v=>v) (fun v=>R v ++ L) hen hargs (fun w I=>(hC w I).here I fun _ h=>h.elim) (fun _ _ _ h=>h.elim)
  (fun w I u w' ⟨v,he,hk,hJ,hR⟩=>⟨v,hJ,by cases he; rfl,I.adds hk hR.1 hR.2⟩) next hd
end
theorem mH {a:Res} {l:List Res}:a ∈ a :: l:=List.Mem.head _
theorem mT {a b:Res} {l:List Res} (h:a ∈ l):a ∈ b :: l:=List.Mem.tail _ h
theorem mA {a:Res} {l m:List Res} (h:a ∈ m):a ∈ l ++ m:=List.mem_append_right _ h
theorem sR {l:List Res}:l.Sublist l:=List.Sublist.refl _
theorem sN {l:List Res}:List.Sublist [] l:=List.nil_sublist _
theorem sC {a:Res} {l m:List Res} (h:l.Sublist m):(a :: l).Sublist (a :: m):=List.Sublist.cons_cons _ h
theorem sS {a:Res} {l m:List Res} (h:l.Sublist m):l.Sublist (a :: m):=List.Sublist.cons _ h
theorem sA {l m k:List Res} (h:l.Sublist m):l.Sublist (k ++ m):=List.sublist_append_of_sublist_right h
end Go.Gx
