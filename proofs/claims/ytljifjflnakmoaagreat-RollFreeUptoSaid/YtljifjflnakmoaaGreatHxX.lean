/- In company, part E: ranges over functions: rounds, and the loop. -/
import Derived.RowKit
import Derived.Test.YtljifjflnakmoaaGreatHxS
set_option linter.unusedVariables false
set_option linter.unusedSimpArgs false
namespace Go.Gx
open Go Go.Conc
section
variable {X:Ext} {fr:Nat} {P:Program} {main:Bool} {pm:Nat→Prop} {b:Frame} {a:Act} {k:List Item} {cs:List Frame} {w w':World} {es:Array Event} {l:Nat}
theorem gR_begin (hb:b.roundOf = some l) (hk:b.kind ≠ .early) (h:(Instr.beginRound l).runT P w #[] = (.ok () w',es)) :
 stepG P main (G (b.atR a (.beginRound :: k)) cs) w = .go (G (b.atR a k) cs) w' (seen P b.fn es):=by
 have hk':(b.kind == CallKind.early) = false:=by simpa using hk
 have e1:((Instr.beginRound l >>= fun _=>(pure Next.skip:Sem Next)).runT P w #[]) = (.ok .skip w',es):=by
  show ((Instr.beginRound l).bind fun _=>Sem.pure Next.skip).runT P w #[] = _;rw [Sem.runT_bind',h];simp [Sem.runT,-Sem.runT_eq]
 simp only [G,stepG,stepG.exec,Frame.atR,hb];show stepG.apply P true _ _ _ (Instr.beginRound l >>= fun _=>pure Next.skip) w = _;unfold stepG.apply;simp only [if_true,e1,hk',Bool.false_eq_true,if_false];simp [GStep.after,Frame.finish]
theorem gR_leave0 (hb:b.roundOf = some l) {x:Value} (h:(Instr.endRound l none).runT P w #[] = (.ok x w',es)):stepG P main (G (b.atR a []) cs) w = GStep.after (seen P b.fn es) (doReturn P main (b.atR a []) cs none x w'):=by
 simp [G,stepG,stepG.exec,Frame.atR,hb,h,-Sem.runT_eq]
theorem gR_leaveRet (hb:b.roundOf = some l) {x:Value} (h:(Instr.endRound l (some .ret)).runT P w #[] = (.ok x w',es)):stepG P main (G (b.atR a (.code .ret :: k)) cs) w = GStep.after (seen P b.fn es) (doReturn P main (b.atR a (.code .ret :: k)) cs none x w'):=by
 simp [G,stepG,stepG.exec,Frame.atR,hb,h,-Sem.runT_eq]
theorem gR_leaveX (hb:b.roundOf = some l) {id:Nat} (he:exitTo id k = none) {x:Value} (h:(Instr.endRound l (some (.exit id))).runT P w #[] = (.ok x w',es)):stepG P main (G (b.atR a (.code (.exit id) :: k)) cs) w = GStep.after (seen P b.fn es) (doReturn P main (b.atR a (.code (.exit id) :: k)) cs none x w'):=by
 simp [G,stepG,stepG.exec,Frame.atR,hb,h,he,-Sem.runT_eq]
def rdPost (P:Program) (fr:Nat) (l:Nat) (pm:Nat→Prop) (R:cX):Exit→Act→World→Prop
 | .normal,_,v=>∀ v1,bo v v1→a9 v1→(Instr.endRound l none).wpS P pm fr (fun x v2=>R.Q (.returned x) v2) v1
 | .ret,_,v=>∀ v1,bo v v1→a9 v1→(Instr.endRound l (some .ret)).wpS P pm fr (fun x v2=>R.Q (.returned x) v2) v1
 | .exit id,_,v=>∀ v1,bo v v1→a9 v1→(Instr.endRound l (some (.exit id))).wpS P pm fr (fun x v2=>R.Q (.returned x) v2) v1
 | _,_,_=>False
def uv (l:Nat) (f:FuncId):Frame:={ (default:Frame) with fn:=f,kind:=.normal,roundOf:=some l }
theorem wK {f:FuncId} {tm:Array Value} {asg bd:Code} {v:World} {R:cX}
 (h:asg.wpX P ⟨X,fr,some l⟩ (pmC v R.M) (fun e a v'=>e = .normal ∧ ∀ v1,bo v' v1→a9 v1→(Instr.beginRound l).wpS P (pmC v R.M) fr (fun _ v2=>bd.wpX P ⟨X,fr,some l⟩ (pmC v R.M) (rdPost P fr l (pmC v R.M) R) a v2) v1) ⟨tm,[]⟩ v) :
 pc X fr P l f tm asg bd v R:=fun main cs=>by
 have e:Frame.round l f tm asg bd .normal = (uv l f).atR ⟨tm,[]⟩ [.code asg,.beginRound,.code bd]:=by simp [Frame.round,Frame.atR,uv]
 rw [e];refine h main _ (uv l f) [.beginRound,.code bd] cs LvR.closed (by simp [uv]) rfl ?_;rintro e a v' ⟨rfl,hq⟩;refine .go rfl fun v3 w3 m3=>?_
 obtain ⟨_,v4,new,hbd,q4,q6,qr⟩:=bY _ v3 (hq v3 m3.grow m3.nv);obtain ⟨w',q2,q5⟩:=qr w3 #[] m3.msk;rw [Array.empty_append] at q2;refine ⟨_,v4,⟨w',_,gR_begin rfl (by simp [uv]) q2,q4,q5,ea q6⟩,?_⟩;refine hbd main _ (uv l f) [] cs LvR.closed (by simp [uv]) rfl fun e a v5 hp=>?_
 cases e with
 | normal=>exact .stop ⟨_,none,rfl,rfl,fun main w x w' es hr=>gR_leave0 rfl hr,hp⟩
 | ret=>exact fun k'=>.stop ⟨_,some .ret,rfl,rfl,fun main w x w' es hr=>gR_leaveRet rfl hr,hp⟩
 | exit id =>
   refine ⟨fun k' hk'=>by simp [exitTo] at hk',fun _ k' hk'=>.stop ⟨_,some (.exit id),rfl,rfl,fun main w x w' es hr=>gR_leaveX rfl hk' hr,hp⟩⟩
 | goto l=>exact hp.elim
 | panic ch=>exact hp.elim
 | outgrown=>exact hp.elim
theorem xp {f:Operand} {ps:Array Tmp} {ac bd:Code} (hb:b.roundOf = none) (hk:b.kind ≠ .early) {l:Nat} {mark:List Deferred} {w1 w2:World} {es1 es2:Array Event} {fi:FuncId} {args:Array Value}
 (h1:(Instr.enterLoop b.fn a.tmps ps ac bd none).runT P w #[] = (.ok (l,mark) w1,es1))
 (h2:(do let d ← resolve a.eval { callee:=.value f,args:=#[.const (.func (.yield l) #[] #[])],argTypes:=#[] } 0; invoke d.target d.args:Sem Next).runT P w1 #[] = (.ok (.enter fi args) w2,es2)) :
 stepG P main (G (b.atR a (.code (.rangeFunc f ps ac bd) :: k)) cs) w = .go (G (Frame.enter P fi args .normal) (b.atR ⟨a.tmps,mark ++ a.defers⟩ (.inRangeFunc l :: k) :: cs)) w2 (seen P b.fn es1 ++ seen P b.fn es2):=by
 have hk':(b.kind == CallKind.early) = false:=by simpa using hk
 have he:(b.atR ⟨a.tmps,mark ++ a.defers⟩ (.inRangeFunc l :: k)).eval = a.eval:=by rw [Frame.eval_atR]; rfl
 simp only [G,stepG,stepG.exec,Frame.atR,hb] at he ⊢;simp only [h1];unfold stepG.apply;simp only [if_true,hk',Bool.false_eq_true,if_false,he];rw [h2];simp [GStep.after]
theorem gR_endRange {l:Nat} {j:Option Code} (h:(Instr.endLoop l).runT P w #[] = (.ok j w',es)) :
 stepG P main (G (b.atR a (.endRangeFunc l :: k)) cs) w = .go (G (b.atR a ((j.map Item.code).toList ++ k)) cs) w' (seen P b.fn es):=by
 simp [G,stepG,stepG.exec,Frame.atR,h,GStep.after,-Sem.runT_eq]
theorem uO {E:En} {Q:Exit→Act→World→Prop} {v:World} {f:Operand} {ps:Array Tmp} {ac bd:Code} (hrnd:E.rnd = none)
 (h:∀ fn v1,bo v v1→a9 v1→(Instr.enterLoop fn a.tmps ps ac bd none).wpS P pm E.fr (fun r v2 =>
  (do let d ← resolve a.eval { callee:=.value f,args:=#[.const (.func (.yield r.1) #[] #[])],argTypes:=#[] } 0; invoke d.target d.args:Sem Next).wpS P pm E.fr (fun n v3=>∃ fi args,n = .enter fi args ∧
   ∃ R:cX,eo E.X E.fr P fi args v3 R ∧ (∀ b,pmC v3 R.M b→pm b) ∧ ∀ val v4,R.Q (.returned val) v4→∀ v5,bo v4 v5→a9 v5 →
     (Instr.endLoop r.1).wpS P pm E.fr (fun j v6=>(j = none ∧ Q .normal ⟨a.tmps,r.2 ++ a.defers⟩ v6) ∨ ∃ c,j = some c ∧ c.wpX P E pm Q ⟨a.tmps,r.2 ++ a.defers⟩ v6) v5) v2) v1) :
 (Code.rangeFunc f ps ac bd).wpX P E pm Q a v:=fun main T b k cs hT hk hr hc=>.go rfl fun v1 w m=>by
 have hb:b.roundOf = none:=by rw [hr,hrnd]
 obtain ⟨⟨l,mark⟩,v2,es1,h3,t1,ev1,real1⟩:=bY _ v1 (h b.fn v1 m.grow m.nv);obtain ⟨w1,g1,b1⟩:=real1 w #[] m.msk;obtain ⟨n,v3,es2,⟨fi,args,rfl,R,hC,hp,hK⟩,t2,ev2,real2⟩:=bY _ v2 h3;obtain ⟨w2,g2,b2⟩:=real2 w1 #[] b1.msk;rw [Array.empty_append] at g1 g2;refine ⟨_,v3,⟨w2,_,xp hb hk g1 g2,t1.trans t2,b1.trans t1 b2,fun e he=>?_⟩,?_⟩
 ·rcases Array.mem_append.1 he with he | he
  ·exact (ev1 e (mem_seen he)).mono t2
  ·exact ev2 e (mem_seen he)
 ·refine ((hC main .normal _ (by decide)).m8 hp).bind ?_;rintro g v4 ⟨frm,val,v0,rfl,hkd,hR,hg0,hL⟩;refine .go rfl fun v5 w5 m5=>?_
  obtain ⟨fn,hfn,hres⟩:=hL.res;obtain ⟨x,v',new,⟨rfl,rfl⟩,q4,q6,qr⟩:=bY _ v5 (c8 hp _ _ (hres v5 m5.grow m5.nv));obtain ⟨w',q2,q5⟩:=qr w5 #[] m5.msk;rw [Array.empty_append] at q2;refine ⟨G (b.atR ⟨a.tmps,mark ++ a.defers⟩ (.endRangeFunc l :: k)) cs,v',⟨w',seen P frm.fn new,?_,.refl _ _,q5,ea q6⟩,?_⟩
  ·simp only [G,stepG,hL.mode,unwind,hL.defers,hfn];rw [q2];simp [GStep.after,doReturn,hkd,seen,Frame.finish,Frame.atR]
  ·refine .go rfl fun v6 w6 m6=>?_
   obtain ⟨j,v7,new,hj,q4,q6,qr⟩:=bY _ v6 (hK _ _ hR v6 ((hg0.trans m5.grow).trans m6.grow) m6.nv);obtain ⟨w',q2,q5⟩:=qr w6 #[] m6.msk;rw [Array.empty_append] at q2;refine ⟨_,v7,⟨w',_,gR_endRange q2,q4,q5,ea q6⟩,?_⟩
   rcases hj with ⟨rfl,hq⟩ | ⟨c,rfl,hq⟩
   ·exact hc _ _ _ hq
   ·exact hq main T b k cs hT hk hr hc
end
open Go.RowKit
section
variable {α β:Type} {P:Program} {pm:Nat→Prop} {fr:Nat}
def Tm (P:Program) (pm:Nat→Prop) (fr:Nat) (e:Sem α):Prop:=∀ v,a9 v→∀ a v',e.run P v = .ok a v'→e.wpS P pm fr (fun b v2=>b = a ∧ v2 = v') v
def mG (P:Program) (e:Sem α):Prop:=∀ v a v',e.run P v ≠ .ok a v'
theorem Tm.dead {e:Sem α} (h:mG P e):Tm P pm fr e:=fun v _ a v' hr=>absurd hr (h v a v')
theorem mG.halt (h:Halt):mG P (Sem.halt h:Sem α):=fun v a v' hr=>by simp [Sem.run] at hr
theorem mG.bind {e:Sem α} (h:mG P e) (f:α→Sem β):mG P (e >>= f):=fun v a v' hr=>by
 rw [Sem.run_bind] at hr;cases hx:e.run P v with
 | ok b w=>exact h v b w hx
 | halt x w=>rw [hx] at hr; cases hr
theorem mG.behind {e:Sem α} {f:α→Sem β} (h:∀ a,mG P (f a)):mG P (e >>= f):=fun v a v' hr=>by
 rw [Sem.run_bind] at hr;cases hx:e.run P v with
 | ok b w=>rw [hx] at hr; exact h b w a v' hr
 | halt x w=>rw [hx] at hr; cases hr
theorem Tm.halt (h:Halt):Tm P pm fr (Sem.halt h:Sem α):=.dead (.halt h)
theorem Tm.stuck (s:String):Tm P pm fr (Go.stuck s:Sem α):=.halt _
theorem Tm.fc (u:Unsupported):Tm P pm fr (Go.unsupported u:Sem α):=.halt _
theorem mG.fc (u:Unsupported):mG P (Go.unsupported u:Sem α):=.halt _
theorem mG.stuck (s:String):mG P (Go.stuck s:Sem α):=.halt _
theorem Tm.pure (a:α):Tm P pm fr (Pure.pure a:Sem α):=fun v _ b v' hr=>by
 rw [Sem.run_pure] at hr;cases hr;exact ⟨rfl,rfl⟩
theorem Tm.nv {e:Sem α} (h:Tm P pm fr e) {v v':World} {a:α} (hn:a9 v) (hr:e.run P v = .ok a v'):a9 v':=by
 obtain ⟨b,v2,new,⟨_,rfl⟩,t,_⟩:=bY e v (h v hn a v' hr);exact t.nv hn
theorem Tm.bind {e:Sem α} {f:α→Sem β} (h:Tm P pm fr e) (k:∀ a,Tm P pm fr (f a)):Tm P pm fr (e >>= f):=fun v hn a v' hr=>by
 rw [Sem.run_bind] at hr;cases hx:e.run P v with
 | halt x w=>rw [hx] at hr; cases hr
 | ok b w =>
   rw [hx] at hr;refine bA f e v (aU ?_ _ _ (h v hn b w hx));rintro b2 v2 ⟨rfl,rfl⟩;exact k b2 v2 (h.nv hn hx) a v' hr
theorem Tm.known {e:Sem α} {f:α→Sem β} {b:α} (h:Tm P pm fr e) (hr:∀ v,e.run P v = .ok b v) (k:Tm P pm fr (f b)):Tm P pm fr (e >>= f):=fun v hn a v' hr'=>by
 rw [Sem.run_bind,hr v] at hr';refine bA f e v (aU ?_ _ _ (h v hn b v (hr v)));rintro b2 v2 ⟨rfl,rfl⟩;exact k v2 hn a v' hr'
theorem Tm.map {e:Sem α} (f:α→β) (h:Tm P pm fr e):Tm P pm fr (Functor.map f e):=h.bind fun a=>.pure (f a)
theorem Tm.program:Tm P pm fr Go.program:=fun v _ a v' hr=>by
 simp only [Go.program,Sem.run] at hr;cases hr;exact ⟨rfl,rfl⟩
theorem Tm.iB {f:Program→Sem β} (h:Tm P pm fr (f P)):Tm P pm fr (Go.program >>= f):=fun v hn a v' hr=>h v hn a v' (by
 simpa [Go.program,Sem.run,Sem.run_bind] using hr)
theorem Tm.typeInfo (t:TypeId):Tm P pm fr (Go.typeInfo t):=.iB (by
 cases P.info? t with
 | none=>exact .halt _
 | some i=>exact .pure i)
theorem Tm.underlying (t:TypeId):Tm P pm fr (Go.underlying t):=.iB (by
 cases P.underlying t with
 | none=>exact .halt _
 | some i=>exact .pure i)
theorem Tm.under {t:TypeId} {d:TypeDesc} {f:TypeDesc→Sem β} (h:P.underlying t = some d) (k:Tm P pm fr (f d)):Tm P pm fr (Go.underlying t >>= f):=.known (.underlying t) (fun v=>by simp [Go.underlying,h]) k
theorem Tm.info {t:TypeId} {i:TypeInfo} {f:TypeInfo→Sem β} (h:P.info? t = some i) (k:Tm P pm fr (f i)):Tm P pm fr (Go.typeInfo t >>= f):=.known (.typeInfo t) (fun v=>by simp [Go.typeInfo,h]) k
theorem Tm.sizeOf (t:TypeId):Tm P pm fr (Go.sizeOf t):=.bind (.typeInfo t) fun _=>.pure _
theorem Tm.zeroValue (t:TypeId):Tm P pm fr (Go.zeroValue t):=.bind (.typeInfo t) fun i=>by
 cases h:i.zero with
 | none=>simpa only [h] using .halt _
 | some v=>simpa only [h] using .pure v
theorem Tm.isAgg (t:TypeId):Tm P pm fr (Go.isAgg t):=.bind (.underlying t) fun d=>by cases d <;> exact .pure _
theorem Tm.load (a:Addr):Tm P pm fr (Go.load a):=fun v hn x v' hr=>by
 simp only [Go.load,Sem.run] at hr;cases hc:v.cell? a with
 | some u =>
   rw [hc] at hr;simp only [Sem.run] at hr;cases hr;exact ⟨.inl rfl,_,.inl hc,rfl,rfl⟩
 | none =>
   rw [hc] at hr;simp only [World.farLoad] at hr;cases hb:v.heap[a.block]? with
   | none=>rw [hb] at hr; cases hr
   | some o =>
     rw [hb] at hr;have:=hn _ _ hb;cases o <;> first | (cases hr; done) | (simp [isV] at this)
theorem Tm.store (a:Addr) (u:Value) (hp:pm a.block) (hf:fr ≤ a.block):Tm P pm fr (Go.store a u):=fun v hn x v' hr=>by
 have h1:u.oneCell' = true:=by cases u <;> first | rfl | (simp [Go.store,Sem.run] at hr)
 have key:(Go.store a u).run P v = match v.cell? a with
  | some _=>if v.frozen? a then .halt (.unsupported (.unsafePointer "a write to bytes that a string shares")) v else .ok () (v.setCell a u)
  | none=>match v.farStore P a u false with
    | .ok (w,_)=>.ok () w
    | .error h=>.halt h v:=by
  cases u <;> first | (simp [Value.oneCell'] at h1; done) | rfl
 rw [key] at hr;cases hc:v.cell? a with
 | some y =>
   rw [hc] at hr;simp only at hr
   by_cases hz:v.frozen? a = true
   ·rw [if_pos hz] at hr; cases hr
   ·rw [if_neg hz] at hr;cases hr;exact ⟨h1,hp,.inl ⟨hf,⟨y,hc⟩,by simpa using hz,rfl,rfl⟩⟩
 | none =>
   rw [hc] at hr;simp only [World.farStore] at hr;cases hb:v.heap[a.block]? with
   | none=>rw [hb] at hr; cases hr
   | some o =>
     rw [hb] at hr;have:=hn _ _ hb;cases o <;> first | (cases hr; done) | (simp [isV] at this)
theorem Tm.newObj (o:Obj) (h1:isP o = false) (h2:isV o = false):Tm P pm fr (Go.newObj o):=fun v _ a v' hr=>by
 simp only [Go.newObj,Sem.run] at hr;cases hr;exact ⟨h1,h2,rfl,rfl⟩
theorem Tm.newRow (t:TypeId) (cs:Array Value):Tm P pm fr (Go.newRow t cs):=.bind (.newObj _ rfl rfl) fun _=>.pure _
theorem Tm.newVar (t:TypeId) (u:Value):Tm P pm fr (Go.newVar t u):=.newRow _ _
theorem Tm.choose (q:Question):Tm P pm fr (Go.choose q):=fun v _ a v' hr=>by
 simp only [Go.choose,Sem.run] at hr;simp only [Go.choose,Sem.wpS];split at hr
 ·rename_i h; rw [if_pos h]; cases hr; exact ⟨rfl,rfl⟩
 ·rename_i h; rw [if_neg h]; cases hr; exact ⟨rfl,rfl⟩
theorem Tm.noRoom:Tm P pm fr (Go.mark .noRoom):=fun v _ a v' hr=>by
 simp only [Go.mark,Sem.run] at hr;cases hr;exact ⟨.inl rfl,rfl,rfl⟩
theorem Tm.askRoom (n:Nat):Tm P pm fr (Go.askRoom n):=by
 unfold Go.askRoom;split
 ·exact .noRoom
 ·exact .pure ()
theorem Tm.getObj {r:Nat} {f:Obj→Sem β} (h:∀ o,isP o = false→o.isChan = false→Tm P pm fr (f o)) (h2:∀ o,isP o = true ∨ o.isChan = true→mG P (f o)):Tm P pm fr (Go.getObj r >>= f):=fun v hn a v' hr=>by
 have e:((Go.getObj r >>= f:Sem β)).run P v = match v.heap[r]? with
  | some (.cells ..)=>.halt (.stuck "getObj: a row of cells") v
  | some o=>(f o).run P v
  | none=>.halt (.stuck "getObj: no such block") v:=by
  show ((Sem.getObj r Sem.pure).bind f).run P v = _;simp only [Sem.bind,Sem.run];cases v.heap[r]? with
  | none=>rfl
  | some o=>cases o <;> rfl
 rw [e] at hr;cases hb:v.heap[r]? with
 | none=>rw [hb] at hr; cases hr
 | some o =>
   rw [hb] at hr;have key:(∀ c e z,o ≠ .cells c e z)→(f o).run P v = .ok a v'→((Go.getObj r >>= f:Sem β)).wpS P pm fr (fun b v2=>b = a ∧ v2 = v') v:=fun hc hr=>by
    cases hP:isP o with
    | true=>exact absurd hr (h2 o (.inl hP) v a v')
    | false =>
      cases hC:o.isChan with
      | true=>exact absurd hr (h2 o (.inr hC) v a v')
      | false=>exact ⟨fun o' ho'=>by rw [hb] at ho'; cases ho'; exact hP,o,hb,hc,hC,h o hP hC v hn a v' hr⟩
   cases o <;> first | (cases hr; done) | exact key (by intro c e z h; cases h) hr
theorem Tm.setObj (r:Nat) (o:Obj) (hp:pm r) (hf:fr ≤ r) (h1:isP o = false) (h2:isV o = false) (h3:o.isChan = false):∀ v,a9 v→Vis v r→∀ a v',(Go.setObj r o).run P v = .ok a v'→(Go.setObj r o).wpS P pm fr (fun b v2=>b = a ∧ v2 = v') v:=fun v hn hv a v' hr=>by
 simp only [Go.setObj,Sem.run] at hr;cases hb:v.heap[r]? with
 | none=>rw [hb] at hr; cases hr
 | some o' =>
   rw [hb] at hr;cases o' <;> first
    | (cases hr; done)
    | (simp only [Sem.run] at hr; cases hr; exact ⟨hv,hp,hf,h1,h2,h3,⟨_,hb,by intro c e z h; cases h⟩,rfl,rfl⟩)
theorem mG.runtimePanic (e:RuntimeError):mG P (Go.runtimePanic e:Sem α):=by
 unfold Go.runtimePanic;refine .behind fun p=>?_
 cases e <;> first
  | exact .halt _
  | (refine .behind fun _=>?_; first | exact .halt _ | (refine .behind fun _=>?_; exact .halt _))
theorem Tm.runtimePanic (e:RuntimeError):Tm P pm fr (Go.runtimePanic e:Sem α):=.dead (.runtimePanic e)
theorem mG.boundsPanic (k:IntKind) (x y:Int) (c:BoundsCode):mG P (Go.boundsPanic k x y c:Sem α):=by
 unfold Go.boundsPanic;simp only;split
 ·exact .behind fun _=>.runtimePanic _
 ·exact .behind fun _=>.runtimePanic _
theorem Tm.boundsPanic (k:IntKind) (x y:Int) (c:BoundsCode):Tm P pm fr (Go.boundsPanic k x y c:Sem α):=.dead (.boundsPanic k x y c)
theorem Tm.asIntOf (u:Value):Tm P pm fr (Go.asIntOf u):=by
 unfold Go.asIntOf;split
 ·exact .pure _
 ·exact .halt _
 ·exact .halt _
theorem Tm.asInt (u:Value):Tm P pm fr (Go.asInt u):=.bind (.asIntOf u) fun _=>.pure _
theorem Tm.asBool (u:Value):Tm P pm fr (Go.asBool u):=by
 unfold Go.asBool;split
 ·exact .pure _
 ·exact .halt _
theorem Tm.asAgg (u:Value):Tm P pm fr (Go.asAgg u):=by
 unfold Go.asAgg;split
 ·exact .pure _
 ·exact .halt _
theorem Tm.asAddr (u:Value):Tm P pm fr (Go.asAddr u):=by
 unfold Go.asAddr;split
 ·exact .pure _
 ·exact .runtimePanic _
 ·exact .halt _
theorem Tm.sureAddr (u:Value):Tm P pm fr (Go.Instr.sureAddr u):=by
 unfold Go.Instr.sureAddr;split
 ·exact .pure _
 ·exact .halt _
theorem Tm.loadCellsFrom (a:Addr):∀ (n i:Nat) (acc:Array Value),Tm P pm fr (Go.loadCellsFrom a i n acc)
 | 0,_,acc=>.pure acc
 | n + 1,i,acc=>.bind (.load _) fun _=>Tm.loadCellsFrom a n (i + 1) _
theorem Tm.loadCells (a:Addr) (n:Nat):Tm P pm fr (Go.loadCells a n):=.loadCellsFrom a n 0 _
theorem Tm.storeCells (a:Addr) (hp:pm a.block) (hf:fr ≤ a.block):∀ (vs:List Value) (i:Nat),Tm P pm fr (Go.storeCells a vs i)
 | [],_=>.pure ()
 | u :: rest,i=>by
   have hb:(a.add i).block = a.block:=by unfold Addr.add; split <;> rfl
   exact .bind (.store _ _ (by rw [hb]; exact hp) (by rw [hb]; exact hf)) fun _=>Tm.storeCells a hp hf rest (i + 1)
theorem Tm.loadVar (t:TypeId) (a:Addr):Tm P pm fr (Go.loadVar t a):=.bind (.isAgg t) fun b=>by
 cases b with
 | true=>exact .bind (.sizeOf t) fun n=>.bind (.loadCells a n) fun _=>.pure _
 | false=>exact .load a
theorem Tm.storeVar (t:TypeId) (a:Addr) (u:Value) (hp:pm a.block) (hf:fr ≤ a.block):Tm P pm fr (Go.storeVar t a u):=by
 unfold Go.storeVar;refine .bind (.sizeOf t) fun n=>?_
 split
 ·exact .bind (.halt _) fun _=>.storeCells a hp hf _ _
 ·exact .bind (.pure _) fun _=>.storeCells a hp hf _ _
theorem Tm.part (t:TypeId) (cs:Array Value) (off:Nat):Tm P pm fr (Go.part t cs off):=.bind (.isAgg t) fun b=>by
 cases b with
 | true=>exact .bind (.sizeOf t) fun n=>.pure _
 | false =>
   show Tm P pm fr (match cs[off]? with | some v=>_ | none=>_);cases cs[off]? with
   | some v=>exact .pure _
   | none=>exact .halt _
theorem Tm.forIn {γ σ:Type} (f:γ→σ→Sem (ForInStep σ)) (h:∀ x s,Tm P pm fr (f x s)):∀ (l:List γ) (s:σ),Tm P pm fr (forIn l s f)
 | [],s=>by rw [List.forIn_nil]; exact .pure s
 | x :: l,s=>by
   rw [List.forIn_cons];refine .bind (h x s) fun r=>?_
   cases r with
   | done s=>exact .pure s
   | yield s=>exact Tm.forIn f h l s
theorem Tm.tV {γ σ:Type} (f:γ→σ→Sem (ForInStep σ)):∀ (l:List γ) (s:σ),(∀ x ∈ l,∀ s,Tm P pm fr (f x s))→Tm P pm fr (ForIn.forIn l s f)
 | [],s,_=>by rw [List.forIn_nil]; exact .pure s
 | x :: l,s,h=>by
   rw [List.forIn_cons];refine .bind (h x List.mem_cons_self s) fun r=>?_
   cases r with
   | done s=>exact .pure s
   | yield s=>exact Tm.tV f l s fun y hy=>h y (List.mem_cons_of_mem _ hy)
theorem Tm.mapM {γ δ:Type} (f:γ→Sem δ) (h:∀ x,Tm P pm fr (f x)):∀ l:List γ,Tm P pm fr (l.mapM f)
 | []=>by rw [List.mapM_nil]; exact .pure _
 | x :: l=>by rw [List.mapM_cons]; exact .bind (h x) fun _=>.bind (Tm.mapM f h l) fun _=>.pure _
def TmW (P:Program) (pm:Nat→Prop) (fr:Nat) (e:Sem α) (v:World):Prop:=a9 v→∀ a v',e.run P v = .ok a v'→e.wpS P pm fr (fun b v2=>b = a ∧ v2 = v') v
variable {v:World}
theorem Tm.at {e:Sem α} (h:Tm P pm fr e):TmW P pm fr e v:=fun hn a v' hr=>h v hn a v' hr
theorem TmW.bind {e:Sem α} {f:α→Sem β} (h:TmW P pm fr e v) (k:∀ a v1,e.run P v = .ok a v1→TmW P pm fr (f a) v1):TmW P pm fr (e >>= f) v:=fun hn a v' hr=>by
 rw [Sem.run_bind] at hr;cases hx:e.run P v with
 | halt x w=>rw [hx] at hr; cases hr
 | ok b w =>
   rw [hx] at hr;have h1:=h hn b w hx;obtain ⟨b2,v2,new,⟨_,rfl⟩,t,_⟩:=bY e v h1;refine bA f e v (aU ?_ _ _ h1);rintro b2 v2 ⟨rfl,rfl⟩;exact k b2 v2 hx (t.nv hn) a v' hr
theorem TmW.known {e:Sem α} {f:α→Sem β} {b:α} (h:Tm P pm fr e) (hr:e.run P v = .ok b v) (k:TmW P pm fr (f b) v):TmW P pm fr (e >>= f) v :=
 .bind h.at fun a v1 hr'=>by rw [hr] at hr'; cases hr'; exact k
theorem TmW.getObj {r:Nat} {o:Obj} {f:Obj→Sem β} (hv:v.heap[r]? = some o) (h1:isP o = false) (h2:o.isChan = false) (h3:∀ c e z,o ≠ .cells c e z) (k:TmW P pm fr (f o) v):TmW P pm fr (Go.getObj r >>= f) v:=fun hn a v' hr=>by
 have e:((Go.getObj r >>= f:Sem β)).run P v = (f o).run P v:=by
  show ((Sem.getObj r Sem.pure).bind f).run P v = _;simp only [Sem.bind,Sem.run,hv]
 rw [e] at hr;exact ⟨fun o' ho'=>by rw [hv] at ho'; cases ho'; exact h1,o,hv,h3,h2,k hn a v' hr⟩
theorem TmW.setObj {r:Nat} {o o':Obj} (hv:v.heap[r]? = some o') (h0:isP o' = false) (hp:pm r) (hf:fr ≤ r) (h1:isP o = false) (h2:isV o = false) (h3:o.isChan = false):TmW P pm fr (Go.setObj r o) v:=fun hn a v' hr =>
 Tm.setObj r o hp hf h1 h2 h3 v hn (fun x hx=>by rw [hv] at hx; cases hx; exact h0) a v' hr
theorem Tm.typeStr (t:TypeId):Tm P pm fr (Go.typeStr t):=.bind (.typeInfo t) fun i=>by
 dsimp only;split
 ·exact .fc _
 ·exact .pure _
theorem Tm.checkKey (em:Bool):∀ (n:Nat) (t:TypeId) (k:Value),Tm P pm fr (Instr.checkKey em n t k)
 | 0,_,_=>.fc _
 | n + 1,t,k=>by
   unfold Instr.checkKey;refine .bind (.underlying t) fun d=>?_
   repeat' with_reducible first
    | exact .pure _
    | exact .stuck _
    | exact .runtimePanic _
    | exact .dead (.bind (.runtimePanic _) _)
    | exact Tm.checkKey em n _ _
    | refine .bind (.typeInfo _) fun _=>?_
    | refine .bind (.typeStr _) fun _=>?_
    | refine .bind (.sizeOf _) fun _=>?_
    | refine .bind (.part _ _ _) fun _=>?_
    | refine .bind (Tm.checkKey em n _ _) fun _=>?_
    | (rw [Std.Legacy.Range.forIn_eq_forIn_range']; refine .bind (.tV _ _ _ fun _ _ _=>?_) fun _=>?_)
    | (rw [← Array.forIn_toList]; refine .bind (.tV _ _ _ fun _ _ _=>?_) fun _=>?_)
    | refine .bind (.pure _) fun _=>?_
    | split
    | dsimp only
end
end Go.Gx
