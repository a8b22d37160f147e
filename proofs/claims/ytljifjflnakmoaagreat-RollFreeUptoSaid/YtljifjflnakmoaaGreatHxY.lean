/- Part Y: ranges over functions: the loop, its rounds, functions that call yield. -/
import Derived.RangeFuncRecord
import Derived.Test.YtljifjflnakmoaaGreatHxW
set_option linter.unusedVariables false
set_option linter.unusedSimpArgs false
namespace Go.Gx
open Go Go.RowKit
section
variable {α β γ σ:Type} {P:Program}
variable {K:Ctx} {F:Fr} {L:List Res} {g:Bool} {Q:Exit→Act→World→Prop} {N:Act→World→Prop} {ops:Array Oper} {o:Oper} {rest:List Oper}
 {op:Op} {ty t t':TypeId} {pos:String} {af:Array Edge} {d:Nat} {x y:Operand} {X:Ext} {fr:Nat}
theorem Ev.vac {v:Value} (hg:g = false):Ev P K F L g op ty v:=fun h=>by rw [hg] at h; cases h
theorem gd {ζ:Type} {Fa:ζ→Fr} {La:ζ→List Res} {Q:Exit→Act→World→Prop} (z:ζ) (hF:Sub F (Fa z)) (hL:(La z).Sublist L):Sat K (Exit.then (fun a' w'=>∃ z,Good K (Fa z) (La z) a' w') Q .normal) F L:=fun a w G=>⟨z,G.sub hF hL⟩
theorem opgTI {dst:Option Nat} {j tg:Nat} {want c2:Bool} (hj:(ops[j]?).bind (·.dst) = some tg) (hg:look F tg = some (true,.bool c2)) (hw:c2 = want)
 (h:Sat K (bH P K ops Q ⟨dst,op,ty,pos,af,none⟩ N) F L):Sat K (bH P K ops Q ⟨dst,op,ty,pos,af,some (j,want)⟩ N) F L:=fun a w G=>by
 have hw':=j9 (o:=⟨dst,op,ty,pos,af,some (j,want)⟩) rfl hj hg G.fo;have h1:=h a w G;unfold bH at h1 ⊢;rw [if_pos (by simp [Region.wanted])] at h1;rw [if_pos (by rw [hw',hw]; cases want <;> rfl)];exact h1
def yTm (r:Loop) (vs:List Value):Array Value:=(r.params.zip vs.toArray).foldl (fun tmps (t,a)=>tmps.setIfInBounds t a) r.tmps
def mh (X:Ext) (fr:Nat) (P:Program) (v:Value) (args:List Value) (w:World) (R:cX):Prop :=
 (∃ f fst cap,v = (bnd f fst cap).v ∧ cv P f ∧ eo X fr P f (fst ++ args ++ cap).toArray w R) ∨
 (∃ l r,v = .func (.yield l) #[] #[] ∧ w.heap[l]? = some (.loop r) ∧ args.toArray.size = r.params.size ∧ pc X fr P l r.fn (yTm r args) r.assign r.body w R)
theorem mh.of {f:FuncId} {fst cap args:List Value} {w:World} {R:cX} (hen:cv P f) (h:eo X fr P f (fst ++ args ++ cap).toArray w R):mh X fr P (bnd f fst cap).v args w R:=.inl ⟨f,fst,cap,rfl,hen,h⟩
theorem exec_yield {l:Nat} {r:Loop} {args:List Operand} {ats:Array TypeId} {vs:List Value} (hx:Opd F g x (.func (.yield l) #[] #[])) (hargs:fq F g args vs) (hg:g = true) {a:Act} (G:gB K F a) {pm:Nat→Prop} (w:World) (hn:a9 w) {dst:Option Tmp} {gd:Option (Nat × Bool)}
 (h:w.heap[l]? = some (.loop r)) (hs:vs.toArray.size = r.params.size) :
 (execOp a.eval ⟨dst,.call { callee:=.value x,args:=args.toArray,argTypes:=ats },ty,pos,af,gd⟩).wpS P pm fr (fun n w'=>n = .round l r.fn (yTm r vs) r.assign r.body ∧ w' = w) w:=by
 have h1:=hargs.eval hg G;have h2:=hx.eval hg G;have e:execOp a.eval ⟨dst,.call { callee:=.value x,args:=args.toArray,argTypes:=ats },ty,pos,af,gd⟩ = Instr.yield l vs.toArray:=by
  simp [execOp,resolve,Deferred.ofValue,invoke,h1,h2]
 rw [e];have tm:TmW P pm fr (Instr.yield l vs.toArray) w:=by
  unfold Instr.yield Instr.getLoop;refine .bind (.getObj h rfl rfl (by intro c e z h; cases h) (Tm.pure _).at) fun r' v1 hr=>?_
  refine Tm.at ?_;split
  ·exact .dead (.bind (.stuck _) _)
  ·exact .pure _
 exact tm hn _ _ (run_yield h hs)
theorem callVOp {X:Type} {yv:Value} {vs:List Value} {r:Res} {r':X→Res} {L':X→List Res} {dst:Nat} {args:List Operand} {ats:Array TypeId} {gd:Option (Nat × Bool)} (J:X→Prop) (val:X→Value) (hu:∀ q,Upd L r (r' q) (L' q)) (hm:r ∈ L) (hx:Opd F g x yv) (hargs:fq F g args vs) (hg:g = true)
 {a:Act} {w:World} (G:Good K F L a w) (hn:a9 w) (hC:mh K.E.X K.E.fr P yv vs w (fV w r J val r')) (next:∀ q,J q→Sat K N ((d,true,val q) :: F) (L' q)) (hd:Nat.blt d K.n = true) :
 OpX P K.E (pmK K) ⟨some d,.call { callee:=.value x,args:=args.toArray,argTypes:=ats },ty,pos,af,gd⟩ a N w:=by
 have fin:∀ val' v',(fV w r J val r').Q (.returned val') v'→N (a.put (some d) val') v':=by
  rintro u w2 ⟨q,hJ,he,hk,ha,hf⟩;cases he;exact next q hJ _ _ (G.put d true (val q) (val q) (by simpa [Nat.blt_eq] using hd) rfl (G.inv.upd (hu q) hk ha hf))
 have hM:∀ b,pmC w (fV w r J val r').M b→pmK K b:=fun b hb=>hb.elim (fun h=>.inl (Nat.le_trans G.inv.keeps.size h)) (fun h=>((G.inv.own r hm).2 b h).1)
 rcases hC with ⟨f,fst,cap,rfl,hen,hc⟩ | ⟨l,rc,rfl,hl,hs,hc⟩
 ·refine aU ?_ _ _ (ua hx hen hargs hg G.fo w);rintro n w' ⟨rfl,rfl⟩;exact ⟨_,hc,hM,fin⟩
 ·refine aU ?_ _ _ (exec_yield hx hargs hg G.fo w hn hl hs);rintro n w' ⟨rfl,rfl⟩;exact ⟨_,hc,hM,fin⟩
theorem callY {X:Type} {yv:Value} {args:List Operand} {ats:Array TypeId} {vs:List Value} {r:Res} {r':X→Res} {L':X→List Res} (J:X→Prop) (val:X→Value) (hu:∀ q,Upd L r (r' q) (L' q)) (hm:r ∈ L) (hx:Opd F true x yv) (hargs:fq F true args vs)
 (hC:∀ w,aP K L w→mh K.E.X K.E.fr P yv vs w (fV w r J val r')) (next:∀ q,J q→Sat K N ((d,true,val q) :: F) (L' q)) (hd:Nat.blt d K.n = true:=by rfl) :
 Sat K (bH P K ops Q ⟨some d,.call { callee:=.value x,args:=args.toArray,argTypes:=ats },ty,pos,af,none⟩ N) F L:=fun a w G =>
 bF rfl rfl fun hn=>callVOp (dst:=d) J val hu hm hx hargs rfl G hn (hC w G.inv) next hd
def mg (X:Ext) (fr:Nat) (P:Program) (yv:Value) (enc:α→List Value) (w0:World) (M:Nat→Prop) (ok:α→σ→Prop) (S:σ→Res) (J:α→σ→Bool × σ→Prop):Prop :=
 ∀ x s w,ok x s→aJ M w0 w→At (S s) w→(∀ b,(S s).bQ b→w0.heap.size ≤ b ∨ M b)→mh X fr P yv (enc x) w (fV w (S s) (J x s) (fun q=>.bool q.1) (fun q=>S q.2))
theorem mg.call {yv:Value} {enc:α→List Value} {ok:α→σ→Prop} {S:σ→Res} {J:α→σ→Bool × σ→Prop} (h:mg X fr P yv enc K.w0 K.M ok S J) {x:α} {s:σ} (hx:ok x s) (hm:S s ∈ L) (w:World) (I:aP K L w) :
 mh X fr P yv (enc x) w (fV w (S s) (J x s) (fun q=>.bool q.1) (fun q=>S q.2)) :=
 h x s w hx I.keeps (at_mem hm w I) (fun b hb=>((I.own _ hm).2 b hb).1)
def uE (J:α→σ→Bool × σ→Prop):List α→σ→σ→Prop
 | [],s,t=>t = s
 | x :: xs,s,t=>∃ q,J x s q ∧ (if q.1 = true then uE J xs q.2 t else t = q.2)
theorem aP.lh {r:Res} {w w':World} (I:aP K L w) (hm:r ∈ L) (k:aJ r.bQ w w'):aJ K.M K.w0 w' :=
 I.keeps.trans' k (fun i hi hr=>(((I.own r hm).2 i hr).1).resolve_left (by omega))
theorem mg.lh {yv:Value} {enc:α→List Value} {ok:α→σ→Prop} {S:σ→Res} {J:α→σ→Bool × σ→Prop} (h:mg X fr P yv enc K.w0 K.M ok S J) {s:σ} (hm:S s ∈ L) (w:World) (I:aP K L w) :
 mg X fr P yv enc w (S s).bQ ok S J:=fun x s' w' hx k ha hf=>h x s' w' hx (I.lh hm k) ha (fun b hb=>by
 rcases hf b hb with h1 | h1
 ·exact .inl (Nat.le_trans I.keeps.size h1)
 ·exact ((I.own _ hm).2 b h1).1)
def oH (J:α→σ→Bool × σ→Prop):List α→σ→Bool × σ→Prop
 | [],s,q=>q = (true,s)
 | x :: xs,s,q=>∃ r,J x s r ∧ (if r.1 = true then oH J xs r.2 q else q = (false,r.2))
theorem oH.append {J:α→σ→Bool × σ→Prop}:∀ {xs ys:List α} {s:σ} {r q:Bool × σ},oH J xs s r→(if r.1 = true then oH J ys r.2 q else q = (false,r.2))→oH J (xs ++ ys) s q
 | [],ys,s,r,q,h,k=>by
   rw [show r = (true,s) from h] at k;exact k
 | x :: xs,ys,s,r,q,⟨z,hz,h⟩,k=>by
   refine ⟨z,hz,?_⟩;split
   ·rename_i hb;rw [if_pos hb] at h;exact oH.append h k
   ·rename_i hb;rw [if_neg hb] at h;rw [h] at k;exact k
def uI (ok:α→σ→Prop) (J:α→σ→Bool × σ→Prop):List α→σ→Prop
 | [],_=>True
 | x :: xs,s=>ok x s ∧ ∀ q,J x s q→q.1 = true→uI ok J xs q.2
theorem uI.left {ok:α→σ→Prop} {J:α→σ→Bool × σ→Prop}:∀ {xs ys:List α} {s:σ},uI ok J (xs ++ ys) s→uI ok J xs s
 | [],_,_,_=>trivial
 | _ :: _,_,_,⟨h1,h2⟩=>⟨h1,fun q hq hb=>(h2 q hq hb).left⟩
theorem uI.right {ok:α→σ→Prop} {J:α→σ→Bool × σ→Prop}:∀ {xs ys:List α} {s:σ} {q:Bool × σ},uI ok J (xs ++ ys) s→oH J xs s q→q.1 = true→uI ok J ys q.2
 | [],ys,s,q,h,hr,_=>by rw [show q = (true,s) from hr]; exact h
 | x :: xs,ys,s,q,⟨h1,h2⟩,⟨z,hz,h⟩,hb=>by
   by_cases hz1:z.1 = true
   ·rw [if_pos hz1] at h;exact (h2 z hz hz1).right h hb
   ·rw [if_neg hz1] at h;rw [h] at hb;cases hb
theorem oH.runs {J:α→σ→Bool × σ→Prop}:∀ {xs:List α} {s:σ} {q:Bool × σ},oH J xs s q→uE J xs s q.2
 | [],s,q,h=>by rw [show q = (true,s) from h]; rfl
 | x :: xs,s,q,⟨z,hz,h⟩=>by
   refine ⟨z,hz,?_⟩;split
   ·rename_i hb;rw [if_pos hb] at h;exact oH.runs h
   ·rename_i hb;rw [if_neg hb] at h;rw [h]
def IterAt (X:Ext) (fr:Nat) (P:Program) (gv:Value) (enc:α→List Value) (w0:World) (M:Nat→Prop) (xs:List α):Prop :=
 ∀ (σ:Type) (S:σ→Res) (ok:α→σ→Prop) (J:α→σ→Bool × σ→Prop) (yv:OV) (w:World) (s:σ),uI ok J xs s→aJ M w0 w→(∀ b,(S s).bQ b→w0.heap.size ≤ b ∨ M b)→At (S s) w→fr ≤ w.heap.size→(∀ b,(S s).bQ b→fr ≤ b) →
   mg X fr P yv.v enc w (S s).bQ ok S J→mh X fr P gv [yv.v] w (fV w (S s) (uE J xs s) (fun _=>.tuple #[]) S)
def Blk (b:Nat) (o:Obj):Res where
 bQ:=fun k=>k = b
 A:=fun w=>w.heap[b]? = some o
 st:=fun w w' h h1=>by rw [h b rfl]; exact h1
def Dm (m:List Nat):Res where
 bQ:=fun k=>k ∈ m
 A:=fun w=>m.Nodup ∧ ∀ D ∈ m,w.heap[D]? = some (.deferred (some []))
 st:=fun w w' h ⟨h1,h2⟩=>⟨h1,fun D hD=>by rw [h D hD]; exact h2 D hD⟩
theorem dm0 {X:Act→World→Prop} (h:Sat K X F (Dm [] :: L)):Sat K X F L:=fun a w G=>h a w (G.world (G.inv.add (aJ.refl _ _) ⟨List.nodup_nil,fun _ h=>absurd h List.not_mem_nil⟩ (fun b hb=>absurd hb List.not_mem_nil)))
theorem aJ.putObj {M:Nat→Prop} (w:World) {l:Nat} (o:Obj) (h:M l):aJ M w (w.putObj l o) :=
 ⟨rfl,rfl,rfl,by simp,fun k _ hm=>World.putObj_heap_other (fun e=>hm (e ▸ h))⟩
def MS (S:σ→Res) (s:σ) (n0:Nat):Nat→Prop:=fun b=>(S s).bQ b ∨ n0 ≤ b
def mZ (w:World) (S:σ→Res) (s:σ) (n0:Nat) (J:σ→Prop) (w':World):Prop:=∃ s',J s' ∧ aJ (MS S s n0) w w' ∧ (S s').A w' ∧ ∀ b,(S s').bQ b→((S s).bQ b ∨ n0 ≤ b) ∧ b < w'.heap.size
def rdQ (w:World) (S:σ→Res) (s:σ) (n0:Nat) (Jn:σ→Prop) (Jx:Code→σ→Prop):Exit→Act→World→Prop
 | .normal,_,w'=>mZ w S s n0 Jn w'
 | .ret,_,w'=>mZ w S s n0 (Jx .ret) w'
 | .exit id,_,w'=>mZ w S s n0 (Jx (.exit id)) w'
 | _,_,_=>False
theorem mZ.grow {w:World} {S:σ→Res} {s:σ} {n0:Nat} {J:σ→Prop} {w' w1:World} (h:mZ w S s n0 J w') (hg:bo w' w1):mZ w S s n0 J w1:=by
 obtain ⟨s',hJ,hk,ha,hf⟩:=h;have k1:=aJ.ed hg;exact ⟨s',hJ,hk.trans (k1.mono fun _ h=>h.elim),(S s').st _ _ (fun b hb=>k1.block b (hf b hb).2 (fun h=>h)) ha,fun b hb=>⟨(hf b hb).1,Nat.lt_of_lt_of_le (hf b hb).2 hg.size⟩⟩
theorem rdEnd {n n0:Nat} {e0:En} {w0:World} {L:List Res} {S:σ→Res} {s:σ} {J:σ→Prop} (hn:n0 ≤ w0.heap.size) (s':σ) (hJ:J s') (hm:S s' ∈ L) (w:World) (h:aP ⟨n,w0,MS S s n0,e0⟩ L w):mZ w0 S s n0 J w :=
 ⟨s',hJ,h.keeps,(h.own _ hm).1,fun b hb=>⟨by
  rcases ((h.own _ hm).2 b hb).1 with h1 | h1
  ·exact .inr (Nat.le_trans hn h1)
  ·exact h1,((h.own _ hm).2 b hb).2⟩⟩
theorem rdN {n n0:Nat} {e0:En} {w0:World} {S:σ→Res} {s:σ} {Jn:σ→Prop} {Jx:Code→σ→Prop} (hn:n0 ≤ w0.heap.size) (s':σ) (hJ:Jn s') (hm:S s' ∈ L):Sat ⟨n,w0,MS S s n0,e0⟩ (rdQ w0 S s n0 Jn Jx .normal) F L:=fun a w G=>rdEnd hn s' hJ hm w G.inv
def putF:List Nat→List Value→Fr→Fr
 | p :: ps,v :: vs,F=>putF ps vs ((p,true,v) :: F)
 | _,_,F=>F
theorem vV:∀ (ps:List Nat) (vs:List Value) (F:Fr) (a:Act),gB K F a→(∀ p ∈ ps,p < K.n)→gB K (putF ps vs F) ⟨(ps.zip vs).foldl (fun t (p,v)=>t.setIfInBounds p v) a.tmps,a.defers⟩
 | [],_,F,a,h,_=>h
 | _ :: _,[],F,a,h,_=>h
 | p :: ps,v :: vs,F,a,h,hp=>by
   have h1:=h.put p true v v (hp p List.mem_cons_self) rfl;exact vV ps vs _ _ h1 (fun q hq=>hp q (List.mem_cons_of_mem _ hq))
theorem gB.marks {F:Fr} {a:Act} (h:gB K F a) (m:List Nat):gB K (dm m :: F) ⟨a.tmps,m.map mkD⟩ :=
 ⟨h.size,h.le,fun c v hl=>by
  have e:eC (dm m :: F) DS = some (true,mkV m):=rfl;rw [e] at hl;cases hl;exact ⟨m,rfl,rfl⟩,fun t c v hl=>by
  obtain ⟨hne,hl⟩:=sf hl;have e:eC (dm m :: F) t = eC F t:=by
   have:Nat.beq 1000000 t = false:=xE (fun e=>hne e.symm);simp only [eC,this,cond_false]
  rw [e] at hl;exact h.fr t c v (by rw [xa hne]; exact hl)⟩
def fg (fn:FuncId) (tm:Array Value) (ps:Array Tmp) (asg bd:Code) (D:Nat) (j:Option Code):Loop:={ state:=if j.isNone then .ready else .done,pending:=j,fn,tmps:=tm,params:=ps,assign:=asg,body:=bd,defers:=D }
def LS (S:σ→Res) (l:Nat) (rc:Option Code→Loop) (D:Nat) (q:σ × Option Code):Res:=Sep (S q.1) (Sep (Blk l (.loop (rc q.2))) (Blk D (.deferred (some []))))
section
variable {pm:Nat→Prop} {l:Nat} {r:Loop} {w:World}
theorem oK (h:w.heap[l]? = some (.loop r)):TmW P pm fr (Instr.getLoop l) w:=.getObj h rfl rfl (by intro c e z h; cases h) (Tm.pure _).at
theorem lX (h:w.heap[l]? = some (.loop r)):(Instr.getLoop l).run P w = .ok r w:=by simp [Instr.getLoop,Sem.run_bind,getObj,Sem.run,h,Result.andThen]
theorem oJ (h:w.heap[l]? = some (.loop r)) (hp:pm l) (hf:fr ≤ l) (r':Loop):TmW P pm fr (setObj l (.loop r')) w:=.setObj h rfl hp hf rfl rfl rfl
theorem wpS_begin (h:w.heap[l]? = some (.loop r)) (hs:r.state = .ready) (hp:pm l) (hf:fr ≤ l) (hn:a9 w):(Instr.beginRound l).wpS P pm fr (fun _ w'=>w' = w.putObj l (.loop { r with state:=.busy })) w:=by
 have tm:TmW P pm fr (Instr.beginRound l) w:=by
  unfold Instr.beginRound;refine .bind (oK h) fun r' v1 hr=>?_
  rw [lX h] at hr;cases hr;refine .bind (oJ h hp hf _) fun _ _ _=>?_
  rw [hs];exact (Tm.pure _).at
 exact aU (fun _ _ h=>h.2) _ _ (tm hn _ _ (run_beginRound h hs))
theorem wpS_end (h:w.heap[l]? = some (.loop r)) (hp:pm l) (hf:fr ≤ l) (hn:a9 w) (j:Option Code):(Instr.endRound l j).wpS P pm fr (fun x w'=>x = .bool j.isNone ∧ w' = w.putObj l (.loop { r with state:=if j.isNone then .ready else .done,pending:=j })) w:=by
 have tm:TmW P pm fr (Instr.endRound l j) w:=by
  unfold Instr.endRound;refine .bind (oK h) fun r' v1 hr=>?_
  rw [lX h] at hr;cases hr;exact .bind (oJ h hp hf _) fun _ _ _=>(Tm.pure _).at
 exact tm hn _ _ (run_endRound j h)
theorem wpS_endLoop (h:w.heap[l]? = some (.loop r)) (hb:r.state ≠ .busy) (hp:pm l) (hf:fr ≤ l) (hn:a9 w):(Instr.endLoop l).wpS P pm fr (fun x w'=>x = r.pending ∧ w' = w.putObj l (.loop { r with state:=.exhausted })) w:=by
 have tm:TmW P pm fr (Instr.endLoop l) w:=by
  unfold Instr.endLoop;refine .bind (oK h) fun r' v1 hr=>?_
  rw [lX h] at hr;cases hr;have e:(r.state == .busy) = false:=by cases hs:r.state <;> first | rfl | exact absurd hs hb
  simp only [e,Bool.false_eq_true,if_false];exact .bind (oJ h hp hf _) fun _ _ _=>(Tm.pure _).at
 exact tm hn _ _ (run_endLoop h hb)
theorem wpS_enter (fn:FuncId) (tmps:Array Value) (ps:Array Tmp) (ac bd:Code) (hn:a9 w):(Instr.enterLoop fn tmps ps ac bd none).wpS P pm fr (fun x w'=>x = (w.heap.size + 1,[{ target:=.collected w.heap.size,args:=#[] }]) ∧
 w' = ((w.alloc (.deferred (some []))).alloc (.loop { state:=.ready,pending:=none,fn,tmps,params:=ps,assign:=ac,body:=bd,defers:=w.heap.size }))) w:=by
 have tm:Tm P pm fr (Instr.enterLoop fn tmps ps ac bd none):=by
  unfold Instr.enterLoop;exact Tm.bind (Tm.newObj _ rfl rfl) fun r=>Tm.bind (Tm.pure _) fun x=>Tm.bind (Tm.newObj _ rfl rfl) fun y=>Tm.pure _
 exact tm w hn _ _ (run_enterLoop_outer fn tmps ps ac bd)
theorem wpS_take {D:Nat} {ds:List Deferred} (h:w.heap[D]? = some (.deferred (some ds))) (hp:pm D) (hf:fr ≤ D) (hn:a9 w):(Instr.takeDeferred D).wpS P pm fr (fun x w'=>x = ds ∧ w' = w.putObj D (.deferred none)) w:=by
 have tm:TmW P pm fr (Instr.takeDeferred D) w:=by
  unfold Instr.takeDeferred;refine .getObj h rfl rfl (by intro c e z h; cases h) ?_;exact .bind (.setObj h rfl hp hf rfl rfl rfl) fun _ _ _=>(Tm.pure _).at
 exact tm hn _ _ (run_takeDeferred h)
end
def En.round (E:En) (l:Nat):En:=⟨E.X,E.fr,some l⟩
theorem round_at {l D:Nat} {fn:FuncId} {tm:Array Value} {ps:List Nat} {ac bd:Code} {S:σ→Res} {s:σ} {vs:List Value} {Jn:σ→Prop} {Jx:Code→σ→Prop} {w:World}
 (hps:vs.length = ps.length) (h:At (LS S l (fg fn tm ps.toArray ac bd D) D (s,none)) w) (hfr:∀ b,(LS S l (fg fn tm ps.toArray ac bd D) D (s,none)).bQ b→fr ≤ b)
 (hb:ac.wpX P ⟨X,fr,some l⟩ (pmC w dI) (Exit.then (fun a' w'=>aJ dI w w' ∧ ∀ w2,aJ (fun b=>b = l) w' w2→At (S s) w2→bd.wpX P ⟨X,fr,some l⟩ (pmC w2 (MS S s w.heap.size)) (rdQ w2 S s w.heap.size Jn Jx) a' w2) (fun _ _ _=>False)) ⟨(ps.zip vs).foldl (fun t (p,v)=>t.setIfInBounds p v) tm,[]⟩ w) :
 mh X fr P (.func (.yield l) #[] #[]) vs w (fV w (LS S l (fg fn tm ps.toArray ac bd D) D (s,none))
  (fun q:Bool × (σ × Option Code)=>(q.1 = true ∧ q.2.2 = none ∧ Jn q.2.1) ∨ (∃ c,q.1 = false ∧ q.2.2 = some c ∧ Jx c q.2.1)) (fun q=>.bool q.1) (fun q=>LS S l (fg fn tm ps.toArray ac bd D) D q.2)):=by
 obtain ⟨⟨h1,⟨h2,h3,h4⟩,h5⟩,h6⟩:=h;have h2':w.heap[l]? = some (.loop (fg fn tm ps.toArray ac bd D none)):=h2;have hzip:yTm (fg fn tm ps.toArray ac bd D none) vs = (ps.zip vs).foldl (fun t (x:Nat × Value)=>t.setIfInBounds x.1 x.2) tm:=by
  show (ps.toArray.zip vs.toArray).foldl (fun t (x:Tmp × Value)=>t.setIfInBounds x.1 x.2) tm = _;rw [List.zip_toArray,List.foldl_toArray]
 have hlw:l < w.heap.size:=h6 l (.inr (.inl rfl));have hDw:D < w.heap.size:=h6 D (.inr (.inr rfl));have hlD:l ≠ D:=fun e=>h4 l rfl e
 have hSl:¬ (S s).bQ l:=fun e=>h5 l e (.inl rfl)
 have hSD:¬ (S s).bQ D:=fun e=>h5 D e (.inr rfl)
 have hfl:fr ≤ l:=hfr l (.inr (.inl rfl));refine .inr ⟨l,_,rfl,h2',by simp [fg,hps],?_⟩;rw [hzip];show pc X fr P l fn _ ac bd w _;have hpl:∀ v:World,w.heap.size ≤ v.heap.size→pmC w (LS S l (fg fn tm ps.toArray ac bd D) D (s,none)).bQ l:=fun v _=>.inr (.inr (.inl rfl))
 refine wK (mJ (va (pm':=pmC w (LS S l (fg fn tm ps.toArray ac bd D) D (s,none)).bQ) (fun b hb=>hb.elim .inl (fun h=>h.elim)) hb) ?_);intro e0 a0 w' hq;cases e0 with
 | normal=>?_
 | exit _=>exact hq.elim
 | goto _=>exact hq.elim
 | ret=>exact hq.elim
 | panic _=>exact hq.elim
 | outgrown=>exact hq.elim
 refine ⟨rfl,fun v1 hg1 hn1=>?_⟩;obtain ⟨k0',hb⟩:=hq;have k0:aJ dI w v1:=k0'.trans (aJ.ed hg1);have h2'':v1.heap[l]? = some (.loop (fg fn tm ps.toArray ac bd D none)):=(k0.block l hlw (fun e=>e)).trans h2';have hlw':l < v1.heap.size:=Nat.lt_of_lt_of_le hlw k0.size;refine aU ?_ _ _ (wpS_begin h2'' rfl (hpl v1 k0.size) hfl hn1);rintro _ w2 hw2;have k1:aJ (fun b=>b = l) v1 w2:=by rw [hw2]; exact aJ.putObj v1 _ rfl
 have k1':aJ (fun b=>b = l) w' w2:=((aJ.ed hg1).mono (fun _ h=>h.elim)).trans k1;have k2:aJ (fun b=>b = l) w w2:=(k0.mono (fun _ h=>h.elim)).trans k1;have hz2:w.heap.size ≤ w2.heap.size:=k2.size;have hl2:w2.heap[l]? = some (.loop { fg fn tm ps.toArray ac bd D none with state:=.busy }):=by rw [hw2]; exact World.putObj_heap_same hlw'
 have hD2:w2.heap[D]? = some (.deferred (some [])):=(k2.block D hDw (fun e=>hlD e.symm)).trans h3;have hA2:(S s).A w2:=(S s).st w w2 (fun b hb=>k2.block b (h6 b (.inl hb)) (fun e=>hSl (e ▸ hb))) h1;have hAt2:At (S s) w2:=⟨hA2,fun b hb=>Nat.lt_of_lt_of_le (h6 b (.inl hb)) hz2⟩;have hbd:=hb w2 k1' hAt2;have fin:∀ (j:Option Code) (J:σ→Prop) (w3:World),mZ w2 S s w.heap.size J w3→∀ v3,bo w3 v3→a9 v3 →
  (Instr.endRound l j).wpS P (pmC w (LS S l (fg fn tm ps.toArray ac bd D) D (s,none)).bQ) fr (fun x w4=>x = .bool j.isNone ∧ ∃ s',J s' ∧ aJ (LS S l (fg fn tm ps.toArray ac bd D) D (s,none)).bQ w w4 ∧ (LS S l (fg fn tm ps.toArray ac bd D) D (s',j)).A w4 ∧
   ∀ b,(LS S l (fg fn tm ps.toArray ac bd D) D (s',j)).bQ b→((LS S l (fg fn tm ps.toArray ac bd D) D (s,none)).bQ b ∨ w.heap.size ≤ b) ∧ b < w4.heap.size) v3:=fun j J w3' hrd w3 hg3 hn3=>by
  obtain ⟨s',hJ,k3,ha,hf⟩:=hrd.grow hg3;have hl3:w3.heap[l]? = some (.loop { fg fn tm ps.toArray ac bd D none with state:=.busy }):=(k3.block l (by omega) (fun e=>e.elim hSl (by omega))).trans hl2;have hD3:w3.heap[D]? = some (.deferred (some [])):=(k3.block D (by omega) (fun e=>e.elim hSD (by omega))).trans hD2;have hz3:w.heap.size ≤ w3.heap.size:=Nat.le_trans hz2 k3.size;have hS'l:¬ (S s').bQ l:=fun e=>by
   rcases (hf l e).1 with h | h
   ·exact hSl h
   ·omega
  have hS'D:¬ (S s').bQ D:=fun e=>by
   rcases (hf D e).1 with h | h
   ·exact hSD h
   ·omega
  refine aU ?_ _ _ (wpS_end hl3 (hpl w3 hz3) hfl hn3 j);rintro x w4 ⟨rfl,rfl⟩;refine ⟨rfl,s',hJ,?_,?_,?_⟩
  ·refine ((k2.mono (M':=(LS S l (fg fn tm ps.toArray ac bd D) D (s,none)).bQ) (fun i e=>.inr (.inl e))).trans' k3 (fun i hi e=>e.elim .inl (fun h=>absurd h (by omega)))).trans (aJ.putObj w3 _ (.inr (.inl rfl)))
  ·refine ⟨(S s').st w3 _ (fun b hb=>World.putObj_heap_other (fun e=>hS'l (e ▸ hb))) ha,⟨?_,?_,h4⟩,?_⟩
   ·exact World.putObj_heap_same (by omega)
   ·exact (World.putObj_heap_other (fun e=>hlD e.symm)).trans hD3
   ·rintro b hb (e | e)
    ·exact hS'l (e ▸ hb)
    ·exact hS'D (e ▸ hb)
  ·rintro b (hb | hb | hb)
   ·have:=hf b hb;refine ⟨?_,by simpa using this.2⟩
    rcases this.1 with h | h
    ·exact .inl (.inl h)
    ·exact .inr (by omega)
   ·exact ⟨.inl (.inr (.inl hb)),by have:b = l:=hb; simp; omega⟩
   ·exact ⟨.inl (.inr (.inr hb)),by have:b = D:=hb; simp; omega⟩
 refine mJ (va (fun b hb=>?_) hbd) ?_
 ·rcases hb with hb | hb | hb
  ·exact .inl (Nat.le_trans hz2 hb)
  ·exact .inr (.inl hb)
  ·exact .inl hb
 intro e a3 w3 hp;cases e with
 | normal =>
   intro v3 hg3 hn3;refine aU ?_ _ _ (fin none _ w3 hp v3 hg3 hn3);rintro x w4 ⟨rfl,s',hJ,c1,c2,c3⟩;exact ⟨(true,(s',none)),.inl ⟨rfl,rfl,hJ⟩,rfl,c1,c2,c3⟩
 | ret =>
   intro v3 hg3 hn3;refine aU ?_ _ _ (fin (some .ret) _ w3 hp v3 hg3 hn3);rintro x w4 ⟨rfl,s',hJ,c1,c2,c3⟩;exact ⟨(false,(s',some .ret)),.inr ⟨_,rfl,rfl,hJ⟩,rfl,c1,c2,c3⟩
 | exit id =>
   intro v3 hg3 hn3;refine aU ?_ _ _ (fin (some (.exit id)) _ w3 hp v3 hg3 hn3);rintro x w4 ⟨rfl,s',hJ,c1,c2,c3⟩;exact ⟨(false,(s',some (.exit id))),.inr ⟨_,rfl,rfl,hJ⟩,rfl,c1,c2,c3⟩
 | goto t=>exact hp.elim
 | panic ch=>exact hp.elim
 | outgrown=>exact hp.elim
def jK (J:α→σ→σ→Prop):List α→σ→σ→Prop
 | [],s,t=>t = s
 | x :: xs,s,t=>∃ q,J x s q ∧ jK J xs q t
def RunsX (J:α→σ→σ→Prop) (Jx:α→σ→Code→σ→Prop) (c:Code):List α→σ→σ→Prop
 | [],_,_=>False
 | x :: xs,s,t=>Jx x s c t ∨ ∃ q,J x s q ∧ RunsX J Jx c xs q t
theorem runs_of {J:α→σ→σ→Prop} {Jx:α→σ→Code→σ→Prop}:∀ (xs:List α) (s:σ) (q:σ × Option Code),
 uE (fun x (s:σ × Option Code) (q:Bool × (σ × Option Code))=>(q.1 = true ∧ q.2.2 = none ∧ J x s.1 q.2.1) ∨ (∃ c,q.1 = false ∧ q.2.2 = some c ∧ Jx x s.1 c q.2.1)) xs (s,none) q →
 (q.2 = none ∧ jK J xs s q.1) ∨ (∃ c,q.2 = some c ∧ RunsX J Jx c xs s q.1)
 | [],s,q,h=>.inl (by rw [show q = (s,none) from h]; exact ⟨rfl,rfl⟩)
 | x :: xs,s,q,⟨r,hr,h⟩=>by
   obtain ⟨b,s',j⟩:=r
   rcases hr with ⟨h1,h2,h3⟩ | ⟨c,h1,h2,h3⟩
   ·simp only at h1 h2 h3;subst h1 h2;rw [if_pos rfl] at h
    rcases runs_of xs s' q h with ⟨e1,e2⟩ | ⟨c,e1,e2⟩
    ·exact .inl ⟨e1,s',h3,e2⟩
    ·exact .inr ⟨c,e1,.inr ⟨s',h3,e2⟩⟩
   ·simp only at h1 h2 h3;subst h1 h2;rw [if_neg Bool.false_ne_true] at h;subst h;exact .inr ⟨c,rfl,.inl h3⟩
theorem jK.snoc {J:α→σ→σ→Prop} {x:α} {t':σ}:∀ {xs:List α} {s t:σ},jK J xs s t→J x t t'→jK J (xs ++ [x]) s t'
 | [],s,t,h,hj=>⟨t',by rw [← show t = s from h]; exact hj,rfl⟩
 | y :: xs,s,t,⟨q,h1,h⟩,hj=>⟨q,h1,jK.snoc h hj⟩
theorem okay_of {Jn:α→σ→σ→Prop} {Jx:α→σ→Code→σ→Prop} {xs:List α} {s0:σ}:∀ (post pre:List α) (s:σ),xs = pre ++ post→jK Jn pre s0 s →
 uI (fun x (q:σ × Option Code)=>q.2 = none ∧ ∃ pre post,xs = pre ++ x :: post ∧ jK Jn pre s0 q.1)
  (fun x (s:σ × Option Code) (q:Bool × (σ × Option Code))=>(q.1 = true ∧ q.2.2 = none ∧ Jn x s.1 q.2.1) ∨ (∃ c,q.1 = false ∧ q.2.2 = some c ∧ Jx x s.1 c q.2.1)) post (s,none)
 | [],_,_,_,_=>trivial
 | x :: post,pre,s,e,hr=>⟨⟨rfl,pre,post,e,hr⟩,fun q hq hb=>by
   obtain ⟨b,s',j⟩:=q
   rcases hq with ⟨h1,h2,h3⟩ | ⟨c,h1,h2,h3⟩
   ·simp only at h1 h2 h3;subst h2;exact okay_of post (pre ++ [x]) s' (by rw [e,List.append_assoc]; rfl) (hr.snoc h3)
   ·simp only at h1 hb;rw [hb] at h1;cases h1⟩
theorem rangeF2 {ζ:Type} {m:List Nat} {L1 L2:List Res} {gv:Value} {gx:Operand} {ps:List Nat} {ac bd:Code} (enc:α→List Value) (S:σ→Res) (s0:σ) (xs:List α) (Jn:α→σ→σ→Prop) (Jx:α→σ→Code→σ→Prop) (Fa:α→ζ→Fr) (La:α→ζ→List Res)
 (hm:Rem L (S s0) L1) (hm2:Rem L1 (Dm m) L2) (hD:eC F 1000000 = some (true,mkV m)) (hg:Opd F true gx gv) (hgv:∃ f fst cap,gv = (bnd f fst cap).v) (hps:∀ x,(enc x).length = ps.length) (hpn:ps.all (fun p=>Nat.blt p K.n) = true)
 (iter:∀ w,aP K L w→(∀ w',aJ (S s0).bQ w w'→aP K L1 w')→IterAt K.E.X K.E.fr P gv enc w (S s0).bQ xs)
 (asg:∀ (l:Nat) x w,Sat ⟨K.n,w,dI,K.E.round l⟩ (ac.wpK P ⟨K.n,w,dI,K.E.round l⟩ (Exit.then (fun a' w'=>∃ z,Good ⟨K.n,w,dI,K.E.round l⟩ (Fa x z) (La x z) a' w') (fun _ _ _=>False))) (putF ps (enc x) (dz :: F)) [])
 (body:∀ (l:Nat) x s z n0 w,(∃ pre post,xs = pre ++ x :: post ∧ jK Jn pre s0 s)→n0 ≤ w.heap.size→(∀ b,(S s).bQ b→K.w0.heap.size ≤ b ∨ K.M b)→(∀ w',aJ (MS S s n0) w w'→aP K L1 w')→Sat ⟨K.n,w,MS S s n0,K.E.round l⟩ (bd.wpK P ⟨K.n,w,MS S s n0,K.E.round l⟩ (rdQ w S s n0 (Jn x s) (Jx x s))) (Fa x z) (S s :: La x z))
 (next:∀ s D,jK Jn xs s0 s→Sat K (Q .normal) (dm (D :: m) :: F) (S s :: Dm (D :: m) :: L2))
 (stop:∀ c s D,RunsX Jn Jx c xs s0 s→Sat K (c.wpK P K Q) (dm (D :: m) :: F) (S s :: Dm (D :: m) :: L2)) (hR:K.E.rnd = none:=by rfl) :
 Sat K ((Code.rangeFunc gx ps.toArray ac bd).wpK P K Q) F L:=fun a w00 G00=>uO hR fun fn w hg0 hn0=>by
 have G:Good K F L a w:=G00.lh hg0;obtain ⟨f,fst,cap,rfl⟩:=hgv;refine aU ?_ _ _ (wpS_enter fn a.tmps ps.toArray ac bd hn0);rintro rr W1 ⟨rfl,hW1⟩;have hW1:W1 = (w.alloc (.deferred (some []))).alloc (.loop (fg fn a.tmps ps.toArray ac bd w.heap.size none)):=hW1;have hz1:W1.heap.size = w.heap.size + 2:=by rw [hW1]; simp
 have hl1:W1.heap[w.heap.size + 1]? = some (.loop (fg fn a.tmps ps.toArray ac bd w.heap.size none)):=by
  rw [hW1]; have:=World.alloc_heap_new (w.alloc (.deferred (some []))) (.loop (fg fn a.tmps ps.toArray ac bd w.heap.size none)); rwa [World.size_alloc] at this
 have hD1:W1.heap[w.heap.size]? = some (.deferred (some [])):=by
  rw [hW1]; exact (Below.heap_alloc _ _ _ (by simp)).trans (World.alloc_heap_new w _)
 have k1:aJ dI w W1:=by
  rw [hW1];exact (aJ.alloc dI w _).trans (aJ.alloc dI _ _)
 obtain ⟨l,hl⟩:∃ l,l = w.heap.size + 1:=⟨_,rfl⟩;obtain ⟨D,hDe⟩:∃ D,D = w.heap.size:=⟨_,rfl⟩;rw [← hl] at hl1;rw [← hDe] at hD1 hl1;have hI:=G.inv.perm hm.perm;have hSw:=hI.own _ List.mem_cons_self;have hb0:∀ b,(S s0).bQ b→b < w.heap.size:=fun b hb=>(hSw.2 b hb).2
 have hLS:(LS S l (fg fn a.tmps ps.toArray ac bd D) D (s0,none)).A W1:=by
  refine ⟨(S s0).st w W1 (fun b hb=>k1.block b (hb0 b hb) (fun h=>h)) hSw.1,⟨hl1,hD1,?_⟩,?_⟩
  ·intro b hb hb';have e1:b = l:=hb;have e2:b = D:=hb';omega
  ·rintro b hb (hb' | hb')
   ·have e1:b = l:=hb';have:=hb0 b hb;omega
   ·have e2:b = D:=hb';have:=hb0 b hb;omega
 have hLSf:∀ b,(LS S l (fg fn a.tmps ps.toArray ac bd D) D (s0,none)).bQ b→((S s0).bQ b ∨ w.heap.size ≤ b) ∧ b < W1.heap.size:=by
  rintro b (hb | hb | hb)
  ·exact ⟨.inl hb,by have:=hb0 b hb; omega⟩
  ·have e1:b = l:=hb;exact ⟨.inr (by omega),by omega⟩
  ·have e1:b = D:=hb;exact ⟨.inr (by omega),by omega⟩
 have I1:aP K (LS S l (fg fn a.tmps ps.toArray ac bd D) D (s0,none) :: L1) W1:=hI.upd Upd.head (k1.mono (fun _ h=>h.elim)) hLS hLSf
 -- what others have stays
 have hbut:∀ w',aJ (LS S l (fg fn a.tmps ps.toArray ac bd D) D (s0,none)).bQ W1 w'→aP K L1 w':=fun w' k=>I1.but Rem.head k
 have hbut0:∀ w',aJ (S s0).bQ w w'→aP K L1 w':=fun w' k=>G.inv.but hm k
 have hfW:K.E.fr ≤ W1.heap.size:=Nat.le_trans I1.ok.1 I1.keeps.size;have hfb:∀ b,(LS S l (fg fn a.tmps ps.toArray ac bd D) D (s0,none)).bQ b→K.E.fr ≤ b:=I1.fr List.mem_cons_self;have hit:=iter w G.inv hbut0;have hcv:=hit (σ × Option Code) (LS S l (fg fn a.tmps ps.toArray ac bd D) D) (fun x q=>q.2 = none ∧ ∃ pre post,xs = pre ++ x :: post ∧ jK Jn pre s0 q.1)
  (fun x (s:σ × Option Code) (q:Bool × (σ × Option Code))=>(q.1 = true ∧ q.2.2 = none ∧ Jn x s.1 q.2.1) ∨ (∃ c,q.1 = false ∧ q.2.2 = some c ∧ Jx x s.1 c q.2.1)) (⟨.func (.yield l) #[] #[],rfl⟩:OV) W1 (s0,none) (okay_of xs [] s0 rfl rfl)
  (k1.mono (fun _ h=>h.elim)) (fun b hb=>(hLSf b hb).1.symm) ⟨hLS,fun b hb=>(hLSf b hb).2⟩ hfW hfb (by
  rintro x ⟨s,j⟩ w2 ⟨hj,hx⟩ k2 hA hf;simp only at hj hx;subst hj;have hfS':∀ b,(LS S l (fg fn a.tmps ps.toArray ac bd D) D (s,none)).bQ b→K.E.fr ≤ b:=fun b hb=>(hf b hb).elim (Nat.le_trans hfW) (hfb b)
  have hfS:∀ b,(S s).bQ b→K.E.fr ≤ b:=fun b hb=>hfS' b (.inl hb)
  have hz2:K.E.fr ≤ w2.heap.size:=Nat.le_trans hfW k2.size;refine round_at (hps x) hA hfS' ?_;have hfo0:gB ⟨K.n,w2,dI,K.E.round l⟩ F a:=⟨G.fo.size,G.fo.le,G.fo.defers,G.fo.fr⟩;refine mJ (asg l x w2 _ w2 ⟨vV ps (enc x) _ _ (hfo0.marks []) (fun p hp=>by simpa [Nat.blt_eq] using List.all_eq_true.1 hpn p hp),aP.start ⟨hz2,fun _ h=>h.elim⟩⟩) ?_;intro e0 a0 w' hq;cases e0 with
  | normal=>?_
  | exit _=>exact hq.elim
  | goto _=>exact hq.elim
  | ret=>exact hq.elim
  | panic _=>exact hq.elim
  | outgrown=>exact hq.elim
  obtain ⟨z,hq⟩:=hq;refine ⟨hq.inv.keeps,fun w3 k3 hA3=>?_⟩;have hk:aJ (LS S l (fg fn a.tmps ps.toArray ac bd D) D (s0,none)).bQ W1 w3:=(k2.trans (hq.inv.keeps.mono (fun _ h=>h.elim))).trans (k3.mono (fun i e=>.inr (.inl e)));have hz:w2.heap.size ≤ w3.heap.size:=Nat.le_trans hq.inv.keeps.size k3.size;have hl2:l < w2.heap.size:=hA.2 l (.inr (.inl rfl));have hbut3:∀ w',aJ (MS S s w2.heap.size) w3 w'→aP K L1 w':=fun w' k=>hbut w' (hk.trans' k (fun i hi hm=>by
   rcases hm with hm | hm
   ·rcases hf i (.inl hm) with h | h
    ·omega
    ·exact h
   ·have:=k2.size;omega))
  refine body l x s z w2.heap.size w3 hx hz (fun b hb=>by
   rcases hf b (.inl hb) with h | h
   ·have h1:=G.inv.keeps.size;exact .inl (by omega)
   ·exact ((I1.own _ List.mem_cons_self).2 b h).1) hbut3 _ w3 ⟨⟨hq.fo.size,hq.fo.le,hq.fo.defers,hq.fo.fr⟩,⟨aJ.refl _ _,?_,?_,⟨Nat.le_trans hz2 hz,fun b hb=>hb.elim (hfS b) (Nat.le_trans hz2)⟩⟩⟩
  ·intro r hr
   rcases List.mem_cons.1 hr with rfl | hr
   ·exact ⟨hA3.1,fun b hb=>⟨.inr (.inl hb),hA3.2 b hb⟩⟩
   ·obtain ⟨r1,r2⟩:=hq.inv.own r hr;have hge:∀ b,r.bQ b→w2.heap.size ≤ b:=fun b hb=>by
     rcases (r2 b hb).1 with h | h
     ·exact h
     ·exact h.elim
    refine ⟨r.st _ _ (fun b hb=>k3.block b (r2 b hb).2 (fun e=>by have e1:b = l:=e; have:=hge b hb; omega)) r1,fun b hb=>⟨.inr (.inr (hge b hb)),Nat.lt_of_lt_of_le (r2 b hb).2 k3.size⟩⟩
  ·refine List.pairwise_cons.2 ⟨fun r hr b hb hb'=>?_,hq.inv.dis⟩;have h1:=hA.2 b (.inl hb)
   rcases ((hq.inv.own r hr).2 b hb').1 with h | h
   ·have h:w2.heap.size ≤ b:=h;omega
   ·exact h.elim)
 rcases hcv with ⟨f',fst',cap',e,hen,hc⟩ | ⟨_,_,e,_⟩
 rotate_left
 ·cases e
 have hfe:f = f' ∧ fst = fst' ∧ cap = cap':=by
  have:=Value.func.inj e
  simpa using this
 obtain ⟨rfl,rfl,rfl⟩:=hfe;have h2:a.eval gx = .func (.func f) fst.toArray cap.toArray:=hg.eval rfl G.fo;have ec:(do let d ← resolve a.eval { callee:=.value gx,args:=#[.const (.func (.yield (w.heap.size + 1)) #[] #[])],argTypes:=#[] } 0; invoke d.target d.args:Sem Next) = callFunc f (fst ++ [Value.func (.yield l) #[] #[]] ++ cap).toArray:=by
  rw [hl];simp [resolve,h2,Deferred.ofValue,invoke]
  rfl
 show (do let d ← resolve a.eval { callee:=.value gx,args:=#[.const (.func (.yield (w.heap.size + 1)) #[] #[])],argTypes:=#[] } 0; invoke d.target d.args:Sem Next).wpS P _ _ _ _;rw [ec];refine aU ?_ _ _ (dZ hen _ W1);rintro n W2 ⟨rfl,rfl⟩;refine ⟨_,_,rfl,_,hc,fun b hb=>hb.elim (fun h=>.inl (Nat.le_trans I1.keeps.size h)) (fun h=>((I1.own _ List.mem_cons_self).2 b h).1),?_⟩;rintro val w5' ⟨⟨s,j⟩,hruns,he,k5',hA5',hf5'⟩ w5 hg5 hn5;have k5:=k5'.trans ((aJ.ed hg5).mono (fun _ h=>h.elim));have hA5:=(LS S l (fg fn a.tmps ps.toArray ac bd D) D (s,j)).st _ _ (fun b hb=>(aJ.ed hg5).block b (hf5' b hb).2 (fun h=>h)) hA5';have hf5:∀ b,(LS S l (fg fn a.tmps ps.toArray ac bd D) D (s,j)).bQ b→_:=fun b hb=>And.intro (hf5' b hb).1 (Nat.lt_of_lt_of_le (hf5' b hb).2 hg5.size)
 have I5:aP K (LS S l (fg fn a.tmps ps.toArray ac bd D) D (s,j) :: L1) w5:=I1.upd Upd.head k5 hA5 hf5;have hl5:w5.heap[l]? = some (.loop (fg fn a.tmps ps.toArray ac bd D j)):=hA5.2.1.1;have I6:aP K (S s :: Dm (D :: m) :: L2) (w5.putObj l (.loop { fg fn a.tmps ps.toArray ac bd D j with state:=.exhausted })):=by
  have J1:aP K (S s :: Blk l (.loop (fg fn a.tmps ps.toArray ac bd D j)) :: Blk D (.deferred (some [])) :: L1) w5:=by
   have h1:=I5.lW;have h2:=(h1.perm (List.Perm.swap _ _ _):aP K (Sep (Blk l (.loop (fg fn a.tmps ps.toArray ac bd D j))) (Blk D (.deferred (some []))) :: S s :: L1) w5).lW;exact h2.perm ((List.perm_middle (l₁:=[Blk l _,Blk D _]) (a:=S s) (l₂:=L1)).symm)
  have hll:l < w5.heap.size:=(Array.getElem?_eq_some_iff.1 hl5).1;have J2:aP K (S s :: Blk l (.loop { fg fn a.tmps ps.toArray ac bd D j with state:=.exhausted }) :: Blk D (.deferred (some [])) :: L1) (w5.putObj l (.loop { fg fn a.tmps ps.toArray ac bd D j with state:=.exhausted })) :=
   J1.upd (Upd.tail Upd.head) (aJ.putObj w5 _ rfl) (World.putObj_heap_same hll) (fun b hb=>⟨.inl hb,by have:b = l:=hb; simp; omega⟩)
  have J3:=J2.sub (L':=S s :: Blk D (.deferred (some [])) :: L1) (by exact List.Sublist.cons_cons _ (List.Sublist.cons _ (List.Sublist.refl _)));have J4:=J3.perm (L':=Blk D (.deferred (some [])) :: Dm m :: S s :: L2) (by
   have p1:(Dm m :: L2).Perm L1:=hm2.perm;refine List.Perm.trans (List.Perm.cons _ (List.Perm.swap _ _ _)) (List.Perm.trans (List.Perm.swap _ _ _) ?_);exact List.Perm.cons _ (List.Perm.cons _ p1))
  obtain ⟨c1,c2,c3,c4⟩:=J4;rw [List.pairwise_cons,List.pairwise_cons] at c3;obtain ⟨d1,d2⟩:=c2 _ List.mem_cons_self;obtain ⟨⟨e1,e2⟩,e3⟩:=c2 _ (List.mem_cons_of_mem _ List.mem_cons_self);have J5:aP K (Dm (D :: m) :: S s :: L2) (w5.putObj l (.loop { fg fn a.tmps ps.toArray ac bd D j with state:=.exhausted })):=by
   refine ⟨c1,?_,List.pairwise_cons.2 ⟨?_,c3.2.2⟩,c4⟩
   ·intro q hq
    rcases List.mem_cons.1 hq with rfl | hq
    ·refine ⟨⟨List.nodup_cons.2 ⟨fun hDm=>c3.1 _ List.mem_cons_self D rfl hDm,e1⟩,fun E hE=>?_⟩,fun b hb=>?_⟩
     ·rcases List.mem_cons.1 hE with rfl | hE
      ·exact d1
      ·exact e2 E hE
     ·rcases List.mem_cons.1 hb with rfl | hb
      ·exact d2 _ rfl
      ·exact e3 b hb
    ·exact c2 q (List.mem_cons_of_mem _ (List.mem_cons_of_mem _ hq))
   ·intro q hq b hb hb'
    rcases List.mem_cons.1 hb with rfl | hb
    ·exact c3.1 q (List.mem_cons_of_mem _ hq) _ rfl hb'
    ·exact c3.2.1 q hq b hb hb'
  exact J5.perm (List.Perm.swap _ _ _)
 have hfo:gB K (dm (D :: m) :: F) { a with defers:=[mkD D] ++ a.defers }:=by
  obtain ⟨m',h1,h2⟩:=G.fo.defers _ _ hD;have h3:=wY h1;subst h3;have:=G.fo.marks (D :: m);rw [List.map_cons,← h2] at this;exact this
 have hfo2:gB K (dm (D :: m) :: F) ⟨a.tmps,[({ target:=.collected w.heap.size,args:=#[] }:Deferred)] ++ a.defers⟩:=by
  rw [← hDe];exact hfo
 have hlm:pmK K l:=((I5.own _ List.mem_cons_self).2 l (.inr (.inl rfl))).1;have hns:(fg fn a.tmps ps.toArray ac bd D j).state ≠ .busy:=by unfold fg; cases j <;> simp
 have hlf:K.E.fr ≤ l:=hfb l (.inr (.inl rfl));have hwe:=wpS_endLoop (P:=P) (pm:=pmK K) (fr:=K.E.fr) hl5 hns hlm hlf hn5;subst hl;refine aU ?_ _ _ hwe;rintro j w6 ⟨rfl,rfl⟩
 rcases runs_of xs s0 (s,j) hruns with ⟨h1,h2⟩ | ⟨c,h1,h2⟩
 ·simp only at h1;subst h1;exact .inl ⟨rfl,next s D h2 _ _ ⟨hfo2,I6⟩⟩
 ·simp only at h1;subst h1;exact .inr ⟨c,rfl,stop c s D h2 _ _ ⟨hfo2,I6⟩⟩
theorem jK.inv {J:α→σ→σ→Prop} {Inv:σ→Prop} (h:∀ x s s',Inv s→J x s s'→Inv s'):∀ {xs:List α} {s t:σ},jK J xs s t→Inv s→Inv t
 | [],s,t,hr,hi=>by rw [show t = s from hr]; exact hi
 | x :: xs,s,t,⟨q,h1,hr⟩,hi=>jK.inv h hr (h x s q hi h1)
theorem rangeF {ζ:Type} {m:List Nat} {L1 L2:List Res} {gv:Value} {gx:Operand} {ps:List Nat} {ac bd:Code} (enc:α→List Value) (S:σ→Res) (s0:σ) (xs:List α) (Jn:α→σ→σ→Prop) (Jx:α→σ→Code→σ→Prop) (Fa:α→ζ→Fr) (La:α→ζ→List Res) (Inv:σ→Prop) (hI0:Inv s0) (hIn:∀ x s s',Inv s→Jn x s s'→Inv s')
 (hm:Rem L (S s0) L1) (hm2:Rem L1 (Dm m) L2) (hD:eC F 1000000 = some (true,mkV m)) (hg:Opd F true gx gv) (hgv:∃ f fst cap,gv = (bnd f fst cap).v) (hps:∀ x,(enc x).length = ps.length) (hpn:ps.all (fun p=>Nat.blt p K.n) = true)
 (iter:∀ w,aP K L w→(∀ w',aJ (S s0).bQ w w'→aP K L1 w')→IterAt K.E.X K.E.fr P gv enc w (S s0).bQ xs)
 (asg:∀ (l:Nat) x w,Sat ⟨K.n,w,dI,K.E.round l⟩ (ac.wpK P ⟨K.n,w,dI,K.E.round l⟩ (Exit.then (fun a' w'=>∃ z,Good ⟨K.n,w,dI,K.E.round l⟩ (Fa x z) (La x z) a' w') (fun _ _ _=>False))) (putF ps (enc x) (dz :: F)) [])
 (body:∀ (l:Nat) x s z n0 w,x ∈ xs→n0 ≤ w.heap.size→Inv s→(∀ b,(S s).bQ b→K.w0.heap.size ≤ b ∨ K.M b)→(∀ w',aJ (MS S s n0) w w'→aP K L1 w')→Sat ⟨K.n,w,MS S s n0,K.E.round l⟩ (bd.wpK P ⟨K.n,w,MS S s n0,K.E.round l⟩ (rdQ w S s n0 (Jn x s) (Jx x s))) (Fa x z) (S s :: La x z))
 (next:∀ s D,jK Jn xs s0 s→Sat K (Q .normal) (dm (D :: m) :: F) (S s :: Dm (D :: m) :: L2))
 (stop:∀ c s D,RunsX Jn Jx c xs s0 s→Sat K (c.wpK P K Q) (dm (D :: m) :: F) (S s :: Dm (D :: m) :: L2)) (hR:K.E.rnd = none:=by rfl) :
 Sat K ((Code.rangeFunc gx ps.toArray ac bd).wpK P K Q) F L :=
 rangeF2 enc S s0 xs Jn Jx Fa La hm hm2 hD hg hgv hps hpn iter asg (fun l x s z n0 w hx hn hf hb=>by
  obtain ⟨pre,post,e,hr⟩:=hx;exact body l x s z n0 w (by rw [e]; simp) hn (jK.inv hIn hr hI0) hf hb) next stop hR
theorem emp0 {X:Act→World→Prop} (h:Sat K X F (Emp :: L)):Sat K X F L:=fun a w G=>h a w (G.world (G.inv.add (aJ.refl _ _) trivial (fun b hb=>hb.elim)))
theorem enterM {f:FuncId} {fn:Func} {c:Code} {args:Array Value} {w:World} {R:cX} (n:Nat) (L:List Res)
 (hf:P.funcs[f]? = some fn) (hb:fn.body = some c) (hn:fn.ntmps = n) (hsz:args.size ≤ n) (hL:∀ E,Ctx.OK ⟨n,w,R.M,E⟩→aP ⟨n,w,R.M,E⟩ L w)
 (h:∀ X fr,Sat ⟨n,w,R.M,⟨X,fr,none⟩⟩ (c.wpX P ⟨X,fr,none⟩ (pmC w R.M) (bodyPost P ⟨n,w,R.M,⟨X,fr,none⟩⟩ fn R)) (dz :: kN 0 args.toList) (Dm [] :: L)) (hn2:Nat.ble n 1000000 = true:=by rfl):Calls P f args w R :=
 enter n L hf hb hn hsz hL (fun X fr=>dm0 (h X fr)) hn2
theorem enterM0 {f:FuncId} {fn:Func} {c:Code} {args:Array Value} {w:World} {R:cX} (n:Nat)
 (hf:P.funcs[f]? = some fn) (hb:fn.body = some c) (hn:fn.ntmps = n) (hsz:args.size ≤ n)
 (h:∀ X fr,Sat ⟨n,w,R.M,⟨X,fr,none⟩⟩ (c.wpX P ⟨X,fr,none⟩ (pmC w R.M) (bodyPost P ⟨n,w,R.M,⟨X,fr,none⟩⟩ fn R)) (dz :: kN 0 args.toList) [Dm []]) (hn2:Nat.ble n 1000000 = true:=by rfl):Calls P f args w R :=
 enterM n [] hf hb hn hsz (fun E ok=>aP.start ok) h hn2
theorem pQ {fn:Func} {R:cX} {rs:List ResultVar} {vs:List Value} {L':List Res} (hr:fn.results = rs.toArray) (h:RV P K F L' rs vs) (hR:∀ w,aP K L' w→R (.returned (jY vs)) w) {a:Act} (fo:gB K F a):∀ (m:List Nat) (w:World),aP K (Dm m :: L') w→nJ P K.E.fr fn (pmK K) R a.tmps (m.map mkD) w
 | [],w,I=>by
   have I':=I.sub (List.Sublist.cons _ (List.Sublist.refl _));exact ⟨_,fun w1 hg hn=>lq hr h (Good.lh ⟨fo,I'⟩ hg) hn,hR w I'⟩
 | D :: m,w,I=>by
   refine ⟨D,rfl,fun w1 hg hn=>?_⟩;have J:aP K (Dm (D :: m) :: L') w1:=I.grow (aJ.ed hg);obtain ⟨⟨h1,h2⟩,h3⟩:=J.own _ List.mem_cons_self;have hD:=h2 D List.mem_cons_self;rw [List.nodup_cons] at h1;refine aU ?_ _ _ (wpS_take hD (h3 D List.mem_cons_self).1 (J.fr List.mem_cons_self D List.mem_cons_self) hn);rintro _ w2 ⟨rfl,rfl⟩;refine ⟨rfl,pQ hr h hR fo m _ ?_⟩;refine (J.upd (r':=Dm m) Upd.head (aJ.putObj w1 _ (List.mem_cons_self)) ⟨h1.2,fun E hE=>?_⟩ (fun b hb=>⟨.inl (List.mem_cons_of_mem _ hb),?_⟩))
   ·have hne:E ≠ D:=fun e=>h1.1 (by rw [← e]; exact hE)
    exact (World.putObj_heap_other hne).trans (h2 E (List.mem_cons_of_mem _ hE))
   ·simpa using (h3 b (List.mem_cons_of_mem _ hb)).2
theorem doneM_ {fn:Func} {R:cX} {rs:List ResultVar} {vs:List Value} {m:List Nat} {L':List Res} (hr:fn.results = rs.toArray) (hD:eC F 1000000 = some (true,mkV m)) (hm:Rem L (Dm m) L') (h:RV P K F L' rs vs)
 (hR:∀ w,aP K L' w→R (.returned (jY vs)) w) {a:Act} {w:World} (G:Good K F L a w):nJ P K.E.fr fn (pmK K) R a.tmps a.defers w:=by
 obtain ⟨m',h1,h2⟩:=G.fo.defers _ _ hD;rw [← wY h1] at h2;rw [h2];exact pQ hr h hR G.fo m w (G.inv.perm hm.perm)
theorem doneM {fn:Func} {R:cX} {rs:List ResultVar} {vs:List Value} {m:List Nat} {L':List Res} (hm:Rem L (Dm m) L') (hD:eC F 1000000 = some (true,mkV m)) (hr:fn.results = rs.toArray) (h:RV P K F L' rs vs)
 (hR:∀ w,aP K L' w→R (.returned (jY vs)) w):Sat K (bodyPost P K fn R .ret) F L :=
 fun a w G=>doneM_ hr hD hm h hR G
end
end Go.Gx
