/- In company, part C: operations, calls. -/
import Derived.Conc.CompanyCalls
import Derived.OrdersHeld
import Derived.Test.YtljifjflnakmoaaGreatHxQ
set_option linter.unusedVariables false
set_option linter.unusedSimpArgs false
namespace Go.Gx
open Go Go.Conc
structure cX where
 M:Nat→Prop
 Q:Ending→World→Prop
instance:CoeFun cX (fun _=>Ending→World→Prop):=⟨cX.Q⟩
structure Leaves (P:Program) (pm:Nat→Prop) (f:Nat) (fr:Frame) (val:Value) (v:World):Prop where
 mode:fr.mode = .returning
 defers:fr.defers = []
 res:∃ fn,P.funcs[fr.fn]? = some fn ∧ ∀ v1,bo v v1→a9 v1→(results fn fr.tmps).wpS P pm f (fun x v2=>x = val ∧ v2 = v1) v1
theorem Leaves.grow {P:Program} {pm:Nat→Prop} {f:Nat} {fr:Frame} {val:Value} {v v1:World} (h:Leaves P pm f fr val v) (hg:bo v v1):Leaves P pm f fr val v1 :=
 ⟨h.mode,h.defers,let ⟨fn,h1,h2⟩:=h.res; ⟨fn,h1,fun v2 hg2=>h2 v2 (hg.trans hg2)⟩⟩
def LvX (P:Program) (pm:Nat→Prop) (f:Nat) (kind:CallKind) (cs:List Frame) (R:Value→World→Prop) (g:Goroutine) (v:World):Prop :=
 ∃ fr val v0,g = G fr cs ∧ fr.kind = kind ∧ R val v0 ∧ bo v0 v ∧ Leaves P pm f fr val v
theorem LvX.closed {P:Program} {pm:Nat→Prop} {f:Nat} {kind:CallKind} {cs:List Frame} {R:Value→World→Prop}:Closed (LvX P pm f kind cs R):=by
 rintro g v v1 ⟨fr,val,v0,h1,h2,h3,h4,h5⟩ hg;exact ⟨fr,val,v0,h1,h2,h3,h4.trans hg,h5.grow hg⟩
abbrev pmC (v:World) (M:Nat→Prop):Nat→Prop:=fun b=>v.heap.size ≤ b ∨ M b
def eo (X:Ext) (fr:Nat) (P:Program) (f:FuncId) (args:Array Value) (v:World) (R:cX):Prop :=
 ∀ (main:Bool) (kind:CallKind) (cs:List Frame),kind ≠ .early→cQ X P main (pmC v R.M) fr (LvX P (pmC v R.M) fr kind cs (fun val v'=>R.Q (.returned val) v')) (G (Frame.enter P f args kind) cs) v
def Calls (P:Program) (f:FuncId) (args:Array Value) (v:World) (R:cX):Prop:=∀ X fr,fr ≤ v.heap.size→(∀ b,R.M b→fr ≤ b)→eo X fr P f args v R
theorem eo.mono {X:Ext} {fr:Nat} {P:Program} {f:FuncId} {args:Array Value} {v:World} {R R':cX} (h:eo X fr P f args v R) (hM:∀ b,R.M b→R'.M b) (hQ:∀ e v',R.Q e v'→R'.Q e v'):eo X fr P f args v R':=fun main kind cs hk=>by
 have hp:∀ b,pmC v R.M b→pmC v R'.M b:=fun b hb=>hb.imp id (hM b)
 refine ((h main kind cs hk).m8 hp).bind ?_;rintro g v1 ⟨fr,val,v0,h1,h2,h3,h4,h5⟩;refine .stop ⟨fr,val,v0,h1,h2,hQ _ _ h3,h4,h5.mode,h5.defers,?_⟩;obtain ⟨fn,h6,h7⟩:=h5.res;exact ⟨fn,h6,fun v2 hg hn=>c8 hp _ _ (h7 v2 hg hn)⟩
theorem Calls.mono {P:Program} {f:FuncId} {args:Array Value} {v:World} {R R':cX} (h:Calls P f args v R) (hM:∀ b,R.M b→R'.M b) (hQ:∀ e v',R.Q e v'→R'.Q e v'):Calls P f args v R' :=
 fun X fr h1 h2=>(h X fr h1 fun b hb=>h2 b (hM b hb)).mono hM hQ
def LvR (P:Program) (pm:Nat→Prop) (f:Nat) (l:Nat) (cs:List Frame) (R:Value→World→Prop) (g:Goroutine) (v:World):Prop :=
 ∃ frm jump,g = G frm cs ∧ frm.kind = .normal ∧
   (∀ main w x w' es,(Instr.endRound l jump).runT P w #[] = (.ok x w',es)→stepG P main (G frm cs) w = GStep.after (seen P frm.fn es) (doReturn P main frm cs none x w')) ∧
   ∀ v1,bo v v1→a9 v1→(Instr.endRound l jump).wpS P pm f R v1
theorem LvR.closed {P:Program} {pm:Nat→Prop} {f l:Nat} {cs:List Frame} {R:Value→World→Prop}:Closed (LvR P pm f l cs R):=by
 rintro g v v1 ⟨frm,jump,h1,h2,h3,h4⟩ hg;exact ⟨frm,jump,h1,h2,h3,fun v2 hg2=>h4 v2 (hg.trans hg2)⟩
def pc (X:Ext) (fr:Nat) (P:Program) (l:Nat) (f:FuncId) (tm:Array Value) (asg bd:Code) (v:World) (R:cX):Prop :=
 ∀ (main:Bool) (cs:List Frame),cQ X P main (pmC v R.M) fr (LvR P (pmC v R.M) fr l cs (fun val v'=>R.Q (.returned val) v')) (G (Frame.round l f tm asg bd .normal) cs) v
theorem pc.mono {X:Ext} {fr:Nat} {P:Program} {l:Nat} {f:FuncId} {tm:Array Value} {asg bd:Code} {v:World} {R R':cX} (h:pc X fr P l f tm asg bd v R) (hM:∀ b,R.M b→R'.M b) (hQ:∀ e v',R.Q e v'→R'.Q e v'):pc X fr P l f tm asg bd v R':=fun main cs=>by
 have hp:∀ b,pmC v R.M b→pmC v R'.M b:=fun b hb=>hb.imp id (hM b)
 refine ((h main cs).m8 hp).bind ?_;rintro g v1 ⟨frm,jump,h1,h2,h3,h4⟩;exact .stop ⟨frm,jump,h1,h2,h3,fun v2 hg hn=>aU (fun x v3 q=>hQ _ _ q) _ _ (c8 hp _ _ (h4 v2 hg hn))⟩
def uponX (P:Program) (E:En) (pm:Nat→Prop) (o:Oper) (a:Act) (K:Act→World→Prop):Next→World→Prop
 | .value x,v=>K (a.put o.dst x) v
 | .skip,v=>K (a.put o.dst undef) v
 | .enter f args,v=>∃ R:cX,eo E.X E.fr P f args v R ∧ (∀ b,pmC v R.M b→pm b) ∧ ∀ val v',R.Q (.returned val) v'→K (a.put o.dst val) v'
 | .round l f tm asg bd,v=>∃ R:cX,pc E.X E.fr P l f tm asg bd v R ∧ (∀ b,pmC v R.M b→pm b) ∧ ∀ val v',R.Q (.returned val) v'→K (a.put o.dst val) v'
 | _,_=>False
def OpX (P:Program) (E:En) (pm:Nat→Prop) (o:Oper) (a:Act) (K:Act→World→Prop) (v:World):Prop:=(execOp a.eval o).wpS P pm E.fr (fun n v'=>uponX P E pm o a K n v') v
def eK:Op→Bool
 | .defer _=>true
 | _=>false
section
variable {P:Program} {main:Bool} {pm:Nat→Prop} {E:En} {T:Goroutine→World→Prop} {Q:Exit→Act→World→Prop} {a:Act} {v:World} {b:Frame} {k:List Item} {cs:List Frame}
theorem qW.grow {ops:Array Oper} {todo:List Nat} (h:qW P E pm ops todo Q a v) {v1:World} (hg:bo v v1):qW P E pm ops todo Q a v1 :=
 fun main T b k cs hT hk hr hc=>(h main T b k cs hT hk hr hc).grow hT hg
theorem ea {fn:FuncId} {es:Array Event} {v:World} {f:Nat} (h:∀ e ∈ es,EvS pm f v e):∀ e ∈ seen P fn es,EvS pm f v e:=fun e he=>h e (mem_seen he)
theorem iI {ops:Array Oper} {i:Nat} {rest:List Nat} {o:Oper} (w:World) (ho:ops[i]? = some o) (hw:Region.wanted o (yielded ops a.tmps) = true) (hd:eK o.op = false ∨ b.roundOf = none) :
 stepG P main (G (b.atR a (.inRegion ops (i :: rest) :: k)) cs) w = stepG.apply P true (b.atR a (.inRegion ops (i :: rest) :: k)) cs none (execOp a.eval o) w:=by
 have he:=Frame.eval_atR b a (.inRegion ops (i :: rest) :: k);have e1:stepG P main (G (b.atR a (.inRegion ops (i :: rest) :: k)) cs) w = stepG.oper P true (b.atR a (.inRegion ops (i :: rest) :: k)) cs none w:=by
  simp [G,stepG,stepG.exec,Frame.atR,ho,hw]
 rw [e1];unfold stepG.oper;have e2:(b.atR a (.inRegion ops (i :: rest) :: k)).oper? = some o:=by simp [Frame.oper?,Frame.atR,ho]
 rw [e2];simp only [he]
 rcases hd with hd | hd
 ·cases hop:o.op <;> first
   | (rw [hop] at hd; cases hd; done)
   | (cases b.roundOf <;> simp [Frame.atR])
 ·have e3:(b.atR a (.inRegion ops (i :: rest) :: k)).roundOf = none:=hd;rw [e3]
theorem vF {ops:Array Oper} {i:Nat} {rest:List Nat} {o:Oper} (ho:ops[i]? = some o) (hw:Region.wanted o (yielded ops a.tmps) = true) (hd:eK o.op = false ∨ E.rnd = none)
 (h:∀ v1,bo v v1→a9 v1→OpX P E pm o a (fun a' v'=>qW P E pm ops rest Q a' v') v1):qW P E pm ops (i :: rest) Q a v:=fun main T b k cs hT hk hr hc=>.go rfl fun v1 w m=>by
 have hd':eK o.op = false ∨ b.roundOf = none:=hd.imp id (fun h=>by rw [hr,h]);have hk':((b.atR a (.inRegion ops (i :: rest) :: k)).kind == CallKind.early) = false:=by simpa [Frame.atR] using hk
 have hfin:∀ x,(b.atR a (.inRegion ops (i :: rest) :: k)).finish x = b.atR (a.put o.dst x) (.inRegion ops rest :: k):=fun x=>by rw [Frame.finish_atR,ho]; rfl
 obtain ⟨n,v',es,h3,h4,h6,real⟩:=bY _ v1 (h v1 m.grow m.nv);obtain ⟨w',g1,g2⟩:=real w #[] m.msk;rw [Array.empty_append] at g1;cases n <;> try exact h3.elim
 case value x =>
  refine ⟨G (b.atR (a.put o.dst x) (.inRegion ops rest :: k)) cs,v',⟨w',seen P b.fn es,?_,h4,g2,ea h6⟩,h3 main T b k cs hT hk hr hc⟩;rw [iI w ho hw hd',← hfin x];unfold stepG.apply;simp only [if_true,g1,hk',Bool.false_eq_true,if_false];simp [GStep.after,G,Frame.atR]
 case skip =>
  refine ⟨G (b.atR (a.put o.dst undef) (.inRegion ops rest :: k)) cs,v',⟨w',seen P b.fn es,?_,h4,g2,ea h6⟩,h3 main T b k cs hT hk hr hc⟩;rw [iI w ho hw hd',← hfin undef];unfold stepG.apply;simp only [if_true,g1,hk',Bool.false_eq_true,if_false];simp [GStep.after,G,Frame.atR]
 case enter f args =>
  obtain ⟨R,hC,hp,hK⟩:=h3;refine ⟨G (Frame.enter P f args .normal) (b.atR a (.inRegion ops (i :: rest) :: k) :: cs),v',⟨w',seen P b.fn es,?_,h4,g2,ea h6⟩,?_⟩
  ·rw [iI w ho hw hd'];unfold stepG.apply;simp only [if_true,g1,hk',Bool.false_eq_true,if_false];simp [GStep.after,G,Frame.atR]
  ·refine ((hC main .normal _ (by decide)).m8 hp).bind ?_;rintro g v2 ⟨fr,val,v0,rfl,hkd,hR,hg0,hL⟩;refine .go rfl fun v3 w3 m3=>⟨G (b.atR (a.put o.dst val) (.inRegion ops rest :: k)) cs,v3,?_,((hK val v0 hR).grow (hg0.trans m3.grow)) main T b k cs hT hk hr hc⟩
   obtain ⟨fn,hfn,hres⟩:=hL.res;obtain ⟨x,v',new,⟨rfl,rfl⟩,q4,q6,qr⟩:=bY _ v3 (c8 hp _ _ (hres v3 m3.grow m3.nv));obtain ⟨w',q2,q5⟩:=qr w3 #[] m3.msk;rw [Array.empty_append] at q2;refine ⟨w',seen P fr.fn new,?_,.refl _ _,q5,ea q6⟩;rw [← hfin x];simp only [G,stepG,hL.mode,unwind,hL.defers,hfn];rw [q2];simp [GStep.after,doReturn,hkd,seen]
 case round l f tm asg bd =>
  obtain ⟨R,hC,hp,hK⟩:=h3;refine ⟨G (Frame.round l f tm asg bd .normal) (b.atR a (.inRegion ops (i :: rest) :: k) :: cs),v',⟨w',seen P b.fn es,?_,h4,g2,ea h6⟩,?_⟩
  ·rw [iI w ho hw hd'];unfold stepG.apply;simp only [if_true,g1,hk',Bool.false_eq_true,if_false];simp [GStep.after,G,Frame.atR]
  ·refine ((hC main _).m8 hp).bind ?_;rintro g v2 ⟨frm,jump,rfl,hkd,hst,hL⟩;refine .go rfl fun v3 w3 m3=>?_
   obtain ⟨x,v',new,hR,q4,q6,qr⟩:=bY _ v3 (c8 hp _ _ (hL v3 m3.grow m3.nv));obtain ⟨w',q2,q5⟩:=qr w3 #[] m3.msk;rw [Array.empty_append] at q2;refine ⟨G (b.atR (a.put o.dst x) (.inRegion ops rest :: k)) cs,v',⟨w',seen P frm.fn new,?_,q4,q5,ea q6⟩,(hK x v' hR) main T b k cs hT hk hr hc⟩;rw [hst main w3 x w' new q2,← hfin x];simp [GStep.after,doReturn,hkd,G]
end
def nJ (P:Program) (fr:Nat) (fn:Func) (pm:Nat→Prop) (R:cX) (tm:Array Value):List Deferred→World→Prop
 | [],v=>∃ val,(∀ v1,bo v v1→a9 v1→(results fn tm).wpS P pm fr (fun x v2=>x = val ∧ v2 = v1) v1) ∧ R.Q (.returned val) v
 | d :: ds,v=>∃ D,d = { target:=.collected D,args:=#[] } ∧ ∀ v1,bo v v1→a9 v1→(Instr.takeDeferred D).wpS P pm fr (fun calls v2=>calls = [] ∧ nJ P fr fn pm R tm ds v2) v1
def qS (P:Program) (fr:Nat) (fn:Func) (pm:Nat→Prop) (R:cX):Exit→Act→World→Prop
 | .normal,a,v | .ret,a,v=>nJ P fr fn pm R a.tmps a.defers v
 | _,_,_=>False
theorem gR_take {P:Program} {main:Bool} {b:Frame} {a:Act} {k:List Item} {cs:List Frame} {D:Nat} {ds calls:List Deferred} {w w':World} {es:Array Event} (h:(Instr.takeDeferred D).runT P w #[] = (.ok calls w',es)) :
 stepG P main (G { b.atR ⟨a.tmps,{ target:=.collected D,args:=#[] } :: ds⟩ k with mode:=.returning } cs) w = .go (G { b.atR ⟨a.tmps,calls ++ ds⟩ k with mode:=.returning } cs) w' (seen P b.fn es):=by
 simp [G,stepG,Frame.atR,unwind,h,GStep.after,-Sem.runT_eq]
def g7 (f:FuncId) (kind:CallKind):Frame:={ (default:Frame) with fn:=f,kind:=kind }
theorem callE_of_wp {X:Ext} {fr:Nat} {P:Program} {f:FuncId} {fn:Func} {c:Code} {args:Array Value} {v:World} {R:cX} (hf:P.funcs[f]? = some fn) (hb:fn.body = some c)
 (h:c.wpX P ⟨X,fr,none⟩ (pmC v R.M) (qS P fr fn (pmC v R.M) R) { tmps:=args ++ Array.replicate (fn.ntmps - args.size) undef,defers:=[] } v):eo X fr P f args v R:=fun main kind cs hk=>by
 have e:Frame.enter P f args kind = (g7 f kind).atR { tmps:=args ++ Array.replicate (fn.ntmps - args.size) undef,defers:=[] } [.code c]:=by
  simp [Frame.enter,Frame.atR,hf,hb,g7]
  rfl
 rw [e];have lv:∀ (ds:List Deferred) (tm:Array Value) (v':World) (todo:List Item),nJ P fr fn (pmC v R.M) R tm ds v' →
     cQ X P main (pmC v R.M) fr (LvX P (pmC v R.M) fr kind cs (fun val v'=>R.Q (.returned val) v')) (G { (g7 f kind).atR ⟨tm,ds⟩ todo with mode:=.returning } cs) v':=by
  intro ds
  induction ds with
  | nil =>
    rintro tm v' todo ⟨val,hr,hR⟩;exact .stop ⟨_,val,v',rfl,rfl,hR,.refl _,⟨rfl,rfl,fn,hf,hr⟩⟩
  | cons d ds ih =>
    rintro tm v' todo ⟨D,rfl,hD⟩;refine .go rfl fun v3 w3 m3=>?_
    obtain ⟨calls,v4,new,⟨rfl,hL⟩,q4,q6,qr⟩:=bY _ v3 (hD v3 m3.grow m3.nv);obtain ⟨w',q2,q5⟩:=qr w3 #[] m3.msk;rw [Array.empty_append] at q2;exact ⟨_,v4,⟨w',_,gR_take (a:=⟨tm,[]⟩) q2,q4,q5,ea q6⟩,ih tm v4 todo hL⟩
 refine h main _ (g7 f kind) [] cs LvX.closed hk rfl fun e a v' q=>?_
 cases e with
 | normal=>exact .ctl LvX.closed rfl (fun w=>gR_end w rfl) (lv a.defers a.tmps v' _ q)
 | ret=>exact fun k'=>.ctl LvX.closed rfl (fun w=>gR_ret w rfl) (lv a.defers a.tmps v' _ q)
 | exit id=>exact q.elim
 | goto l=>exact q.elim
 | panic ch=>exact q.elim
 | outgrown=>exact q.elim
def OpIX (P:Program) (E:En) (pm:Nat→Prop) (ops:Array Oper) (i:Nat) (K:Act→World→Prop) (a:Act) (v:World):Prop :=
 ∃ o,ops[i]? = some o ∧ ((Region.wanted o (yielded ops a.tmps) = true ∧ (eK o.op = false ∨ E.rnd = none) ∧ ∀ v1,bo v v1→a9 v1→OpX P E pm o a K v1) ∨ (Region.wanted o (yielded ops a.tmps) = false ∧ K (a.put o.dst undef) v))
def kQ (P:Program) (E:En) (pm:Nat→Prop) (ops:Array Oper) (S:World→Prop) (o:Oper) (x:Value) (a:Act):Prop :=
 (Region.wanted o (yielded ops a.tmps) = true ∧ eK o.op = false ∧ ∀ v,S v→a9 v→(execOp a.eval o).wpS P pm E.fr (fun n v'=>n = .value x ∧ v' = v) v) ∨ (Region.wanted o (yielded ops a.tmps) = false ∧ x = undef)
def om (P:Program) (E:En) (pm:Nat→Prop) (md:Region.Mode) (ops:Array Oper) (Q:Exit→Act→World→Prop) (S:World→Prop):Nat→Array Bool→Act→World→Prop
 | 0,listed,a,v=>Region.ready md ops listed = [] ∧ ∀ v1,bo v v1→Q .normal a v1
 | fuel + 1,listed,a,v=>(Region.ready md ops listed = []→∀ v1,bo v v1→Q .normal a v1) ∧
  ∀ i ∈ Region.ready md ops listed,OpIX P E pm ops i (fun a' v'=>S v' ∧ ∀ v2,bo v' v2→om P E pm md ops Q S fuel (listed.setIfInBounds i true) a' v2) a v
section
variable {P:Program} {pm:Nat→Prop} {E:En} {md:Region.Mode} {ops:Array Oper} {Q:Exit→Act→World→Prop} {S:World→Prop}
theorem uponX_mono {o:Oper} {a:Act} {K K':Act→World→Prop} (h:∀ a v,K a v→K' a v) {n:Next} {v:World} (hh:uponX P E pm o a K n v):uponX P E pm o a K' n v:=by
 cases n <;> first
  | exact h _ _ hh
  | exact hh
  | (obtain ⟨R,h1,h2,h3⟩:=hh; exact ⟨R,h1,h2,fun val v' q=>h _ _ (h3 val v' q)⟩)
theorem uH {o:Oper} {a:Act} {K K':Act→World→Prop} (h:∀ a v,K a v→K' a v) {v:World} (hh:OpX P E pm o a K v):OpX P E pm o a K' v :=
 aU (fun n v' q=>uponX_mono h q) _ _ hh
theorem OpIX_mono {i:Nat} {a:Act} {K K':Act→World→Prop} (h:∀ a v,K a v→K' a v) {v:World} (hh:OpIX P E pm ops i K a v):OpIX P E pm ops i K' a v:=by
 obtain ⟨o,ho,hh⟩:=hh;exact ⟨o,ho,hh.imp (fun ⟨h1,h2,h3⟩=>⟨h1,h2,fun v1 hg hn=>uH h (h3 v1 hg hn)⟩) (fun ⟨h1,h2⟩=>⟨h1,h _ _ h2⟩)⟩
theorem anyX_sound:∀ (fuel t:Nat) (listed:Array Bool) (a:Act) (v:World),om P E pm md ops Q S fuel listed a v →
 qW P E pm ops (Region.linearise.go md ops fuel t listed []) Q a v:=by
 intro fuel
 induction fuel with
 | zero=>intro t listed a v h; simpa [Region.linearise.go] using tw (h.2 v (.refl _))
 | succ fuel ih =>
   intro t listed a v h;obtain ⟨h0,h1⟩:=h;simp only [Region.linearise.go]
   change qW P E pm ops (match (Region.ready md ops listed)[t % (Region.ready md ops listed).length]? with
    | some i=>Region.linearise.go md ops fuel (t / (Region.ready md ops listed).length) (listed.setIfInBounds i true) [i]
    | none=>[].reverse) Q a v
   cases hi:(Region.ready md ops listed)[t % (Region.ready md ops listed).length]? with
   | none =>
     have hnil:Region.ready md ops listed = []:=by
      by_cases hr:Region.ready md ops listed = []
      ·exact hr
      ·exfalso;have hlt:t % (Region.ready md ops listed).length < (Region.ready md ops listed).length:=Nat.mod_lt _ (List.length_pos_iff.2 hr);rw [List.getElem?_eq_getElem hlt] at hi;cases hi
     simpa using tw (h0 hnil v (.refl _))
   | some i =>
     simp only [];rw [linearise_go_acc,List.reverse_singleton,List.singleton_append];obtain ⟨o,ho,hh⟩:=h1 i (List.mem_of_getElem? hi)
     rcases hh with ⟨hw,hd,hx⟩ | ⟨hw,hx⟩
     ·exact vF ho hw hd (fun v1 hg hn=>uH (fun a' v' x=>ih _ _ a' v' (x.2 v' (.refl _))) (hx v1 hg hn))
     ·exact oC ho hw (ih _ _ _ _ (hx.2 v (.refl _)))
theorem kQ.same {o:Oper} {x:Value} {a a':Act} (hy:kQ P E pm ops S o x a) (he:execOp a'.eval o = execOp a.eval o) (hw:Region.wanted o (yielded ops a'.tmps) = Region.wanted o (yielded ops a.tmps)):kQ P E pm ops S o x a':=by
 unfold kQ;rw [he,hw];exact hy
theorem om.grow:∀ (fuel:Nat) (listed:Array Bool) (a:Act) (v v1:World),(∀ v v1,S v→bo v v1→S v1)→om P E pm md ops Q S fuel listed a v→bo v v1→om P E pm md ops Q S fuel listed a v1
 | 0,_,_,_,_,_,h,hg=>⟨h.1,fun v2 hg2=>h.2 v2 (hg.trans hg2)⟩
 | fuel + 1,listed,a,v,v1,hS,h,hg=>⟨fun e v2 hg2=>h.1 e v2 (hg.trans hg2),fun i hi=>by
  obtain ⟨o,ho,hh⟩:=h.2 i hi;refine ⟨o,ho,hh.imp (fun ⟨h1,h2,h3⟩=>⟨h1,h2,fun v2 hg2 hn=>h3 v2 (hg.trans hg2) hn⟩) (fun ⟨h1,h2⟩=>⟨h1,hS _ _ h2.1 hg,fun v2 hg2=>h2.2 v2 (hg.trans hg2)⟩)⟩⟩
theorem OpIX_put {j:Nat} {oi oj:Oper} {x:Value} (hj:ops[j]? = some oj) (hap:oi.apart ops oj = true)
 (hsi:∀ cs b,oi.op ≠ .select cs b) (hsj:∀ cs b,oj.op ≠ .select cs b) {K:Act→World→Prop} {a:Act} {v:World}
 (hy:kQ P E pm ops S oi x a) (h:OpIX P E pm ops j K (a.put oi.dst x) v):OpIX P E pm ops j (fun a' v'=>kQ P E pm ops S oi x a' ∧ K (a'.put oi.dst x) v') a v:=by
 obtain ⟨h1,h2,h3⟩:=Oper.apart_spec hap;have cn:∀ u,kQ P E pm ops S oi x (a.put oj.dst u):=fun u=>hy.same (execOp_put oi hsi a oj.dst u h3) (wanted_put oi a oj.dst u h3)
 obtain ⟨o,ho,hh⟩:=h;rw [hj] at ho;obtain rfl:=Option.some.inj ho;rw [wanted_put oj a oi.dst x h1] at hh;refine ⟨oj,hj,hh.imp (fun ⟨g1,g2,g3⟩=>⟨g1,g2,fun v1 hg hn=>?_⟩) (fun ⟨g1,g2⟩=>⟨g1,cn undef,?_⟩)⟩
 ·have g4:=g3 v1 hg hn;unfold OpX at g4 ⊢;rw [execOp_put oj hsj a oi.dst x h1] at g4;refine aU (fun n v' q=>?_) _ _ g4;cases n <;> first
   | exact q.elim
   | exact ⟨cn _,by rw [← Act.put_comm a x _ h2]; exact q⟩
   | (obtain ⟨R,q1,q2,q3⟩:=q; exact ⟨R,q1,q2,fun val v' hR=>⟨cn _,by rw [← Act.put_comm a x _ h2]; exact q3 val v' hR⟩⟩)
 ·rw [← Act.put_comm a x undef h2];exact g2
theorem kQ.opIX {i:Nat} {o:Oper} {x:Value} {a:Act} (hi:ops[i]? = some o) (hy:kQ P E pm ops S o x a) {K:Act→World→Prop} {v:World} (hS:∀ v1,bo v v1→S v1) (h:∀ v1,bo v v1→K (a.put o.dst x) v1):OpIX P E pm ops i K a v:=by
 refine ⟨o,hi,?_⟩
 rcases hy with ⟨hw,hd,hv⟩ | ⟨hw,rfl⟩
 ·refine .inl ⟨hw,.inl hd,fun v1 hg hn=>aU (fun n v' q=>?_) _ _ (hv v1 (hS v1 hg) hn)⟩;obtain ⟨rfl,rfl⟩:=q;exact h _ hg
 ·exact .inr ⟨hw,h v (.refl _)⟩
theorem anyX_first (hSg:∀ v v1,S v→bo v v1→S v1) {i:Nat} {oi:Oper} {x:Value} (hi:ops[i]? = some oi) (hsel:∀ (j:Nat) (o:Oper) cs b,ops[j]? = some o→o.op ≠ .select cs b) :
 ∀ (fuel:Nat) (listed:Array Bool) (a:Act) (v:World),
   (∀ j oj,ops[j]? = some oj→j ≠ i→listed.getD j true = false→(∀ e ∈ oj.after,Region.binds md e = true→e.on ≠ i)→oi.apart ops oj = true) →
   i ∈ Region.ready md ops listed→kQ P E pm ops S oi x a→S v →
   om P E pm md ops Q S fuel (listed.setIfInBounds i true) (a.put oi.dst x) v→om P E pm md ops Q S (fuel + 1) listed a v:=by
 intro fuel
 induction fuel with
 | zero =>
   intro listed a v _ hr hy hS H;refine ⟨fun h=>(by rw [h] at hr; cases hr),fun j hj=>?_⟩
   by_cases hji:j = i
   ·subst hji;exact hy.opIX hi (fun v1 hg=>hSg _ _ hS hg) (fun v1 hg=>⟨hSg _ _ hS hg,fun v2 hg2=>om.grow _ _ _ _ _ hSg H (hg.trans hg2)⟩)
   ·have:=ready_mono hj hji;rw [H.1] at this;cases this
 | succ fuel ih =>
   intro listed a v hfree hr hy hS H;refine ⟨fun h=>(by rw [h] at hr; cases hr),fun j hj=>?_⟩
   by_cases hji:j = i
   ·subst hji;exact hy.opIX hi (fun v1 hg=>hSg _ _ hS hg) (fun v1 hg=>⟨hSg _ _ hS hg,fun v2 hg2=>om.grow _ _ _ _ _ hSg H (hg.trans hg2)⟩)
   ·have h1:=H.2 j (ready_mono hj hji);obtain ⟨hjun,oj,hoj,hall⟩:=mem_ready.1 hj;have hnot:∀ e ∈ oj.after,Region.binds md e = true→e.on ≠ i:=fun e he hb heq=>by
     have h1:=hall e he hb;have h0:=(mem_ready.1 hr).1;rw [heq] at h1
     by_cases hlt:i < listed.size
     ·simp only [Array.getD_eq_getD_getElem?,Array.getElem?_eq_getElem hlt,Option.getD_some] at h0 h1;rw [h1] at h0;cases h0
     ·simp [Array.getD_eq_getD_getElem?,Array.getElem?_eq_none (Nat.le_of_not_lt hlt)] at h1
    have h2:=OpIX_put hoj (hfree j oj hoj hji hjun hnot) (fun cs b=>hsel i oi cs b hi) (fun cs b=>hsel j oj cs b hoj) hy h1;have hfree':∀ k ok,ops[k]? = some ok→k ≠ i→(listed.setIfInBounds j true).getD k true = false→(∀ e ∈ ok.after,Region.binds md e = true→e.on ≠ i)→oi.apart ops ok = true:=fun k ok hk hki hun hno=>by
     refine hfree k ok hk hki ?_ hno
     by_cases hjk:j = k
     ·subst hjk; exact hjun
     ·rw [getD_set_ne true hjk] at hun; exact hun
    refine OpIX_mono (fun a' v' h3=>⟨h3.2.1,fun v2 hg2=>ih (listed.setIfInBounds j true) a' v2 hfree' (ready_mono hr (Ne.symm hji)) h3.1 (hSg _ _ h3.2.1 hg2) ?_⟩) h2;rw [Array.setIfInBounds_comm _ _ hji];exact h3.2.2 v2 hg2
theorem qT (hSg:∀ v v1,S v→bo v v1→S v1) {i:Nat} {oi:Oper} {x:Value} {fuel:Nat} {listed:Array Bool} {a:Act} {v:World} (hi:ops[i]? = some oi)
 (hs:Region.noSelect ops = true) (hf:Region.free md ops listed i = true) (hr:(Region.ready md ops listed).contains i = true) (hy:kQ P E pm ops S oi x a) (hS:S v)
 (h:om P E pm md ops Q S fuel (listed.setIfInBounds i true) (a.put oi.dst x) v):om P E pm md ops Q S (fuel + 1) listed a v :=
 anyX_first hSg hi (Region.noSelect_spec hs) fuel listed a v (Region.free_spec hi hf) (by simpa using hr) hy hS h
theorem anyX_all {rs:List Nat} {fuel:Nat} {listed:Array Bool} {a:Act} {v:World} (hr:Region.ready md ops listed = rs) (hne:rs ≠ [])
 (h:∀ i ∈ rs,OpIX P E pm ops i (fun a' v'=>S v' ∧ ∀ v2,bo v' v2→om P E pm md ops Q S fuel (listed.setIfInBounds i true) a' v2) a v):om P E pm md ops Q S (fuel + 1) listed a v :=
 ⟨fun h0=>absurd (hr ▸ h0) hne,hr ▸ h⟩
theorem anyX_done {listed:Array Bool} {a:Act} {v:World} (hr:Region.ready md ops listed = []) (h:∀ v1,bo v v1→Q .normal a v1):∀ fuel,om P E pm md ops Q S fuel listed a v
 | 0=>⟨hr,h⟩
 | _ + 1=>⟨fun _=>h,fun i hi=>by rw [hr] at hi; cases hi⟩
theorem rP {id:Nat} {a:Act} {v:World} (hm:P.follows .mixedOrders = true)
 (h:∀ v1,bo v v1→a9 v1→om P E pm .any ops Q S ops.size (Array.replicate ops.size false) a { v1 with drawn:=v1.drawn + 1 }):(Code.region id ops true).wpX P E pm Q a v :=
 wpX_draw fun v1 hg hn t=>by
  simp only [Region.schedule,hm,Bool.true_or,if_true];exact anyX_sound ops.size t _ a _ (h v1 hg hn)
end
end Go.Gx
