/- Part. -/
import Derived.Great.BuildSlice
import Derived.Test.YtjanhajdmhalaaaGreatM10
import Derived.Test.YtjanhajdmhalaaaGreatM11
import Derived.Test.YtjanhajdmhalaaaGreatHxB
import Derived.Test.YtjanhajdmhalaaaGreatHxC
set_option linter.unusedVariables false
set_option linter.unusedSimpArgs false
set_option linter.unusedSectionVars false
namespace Go.Proofs.YtjanhajdmhalaaaGreat
open Go Go.Gx Go.Conc Go.ConcN Go.RowKit Go.Conc.Lib Go.ConcR.Gen Go.ConcN.Gen
open Go.ConcR (KK wgBlock WgAt stA smA rd wr mk Payload DC0 Bk g_of_ofEvents)
structure Gates (u0:World) (C gb n cp:Nat) (cap:Nat→Array Value):Prop where
  pos:0 < n
  few:n ≤ 16
  cell:∀ i,i < n→u0.cell? ⟨gb,i,none⟩ = some (.func (.func 7) #[] (cap i))
  ne:gb ≠ C
  here:u0.heap[C]? = some (.cells (Array.replicate n (.bool false)) 4)
  wr:∀ v s,bT u0 v→bC v→u0.heap.size ≤ s→s ≤ v.heap.size→gC X0 s Tryz.prog 20 #[.slice (some ⟨gb,0,none⟩) n cp] v (cD v (.int .i64 0))
  gate:∀ i,i < n→∀ v s,bC v→s ≤ v.heap.size→u0.heap.size ≤ s→v.heap[C]? = some (slot i (.bool false))→aX (· = C) u0 v →
    gC X0 s Tryz.prog 7 (#[.nilIface] ++ cap i) v ⟨(· = C),fun e v'=>e = .returned (.tuple #[]) ∧ v'.heap[C]? = some (slot i (.bool true))⟩
def B0 (u0:World) (C:Nat) (v:World):Prop:=aX (· = C) u0 v
def B2 (u0:World) (C n:Nat) (v:World):Prop:=aX (· = C) u0 v ∧ v.heap[C]? = some (.cells (Array.replicate n (.bool true)) 4)
def EndT (kind:CallKind) (cs:List Frame) (u0:World) (C n:Nat) (g:Goroutine) (v:World):Prop :=
  B2 u0 C n v ∧ ∃ T td,T[2]? = some (.int .i64 0) ∧ g = G { (gj 8 kind).atR ⟨T,[]⟩ td with mode:=.returning } cs
abbrev FinF (kind:CallKind) (cs:List Frame) (u0:World) (C n:Nat):Goroutine→World→Prop:=FinX Tryz.prog (fun b=>u0.heap.size ≤ b) u0.heap.size (EndT kind cs u0 C n) (B0 u0 C) (B2 u0 C n)
def AllocT (kind:CallKind) (cs:List Frame) (u0:World) (C n:Nat) (g:Goroutine) (v:World):Prop :=
  g.status = .running ∧ aX bO u0 v ∧ ∀ v1,bT v v1→bC v1→∃ g',g'.status = .running ∧ (∀ w:World,w.heap.size = v1.heap.size→stepG Tryz.prog true g w = .go g' { w with heap:=w.heap.push (wgBlock 107 0 0) } #[]) ∧
    cQ (XB Tryz.prog 107 v1.heap.size n) Tryz.prog true (pmM (v1.heap.size + 1)) (v1.heap.size + 1) (TM Tryz.prog 107 v1.heap.size C n (.bool false) (.bool true) (FinF kind cs u0 C n) (n - 1 + 2) (v1.heap.size + 1)) g'
      (gW { v1 with heap:=v1.heap.push (wgBlock 107 0 0) } v1.heap.size C [0,n - 1,5])
theorem allocT_closed {kind:CallKind} {cs:List Frame} {u0:World} {C n:Nat}:Closed (AllocT kind cs u0 C n):=fun g v v1 h hg=>⟨h.1,h.2.1.trans (.ew hg),fun v2 h2=>h.2.2 v2 (hg.trans h2)⟩
set_option maxRecDepth 100000 in
theorem enterWait (Wg:Nat):Frame.enter Tryz.prog 24 #[ptr Wg] .normal = (base wgL.wait).at ⟨#[ptr Wg,undef,undef,undef,undef,undef,undef,undef,undef,undef,undef,undef,undef,undef,undef,undef,undef,undef,undef,undef,undef,undef,undef,undef,undef,undef,undef,undef,undef,undef,undef,undef,undef,undef,undef,undef,undef,undef,undef,undef,undef,undef,undef,undef,undef,undef,undef,undef,undef,undef,undef,undef,undef,undef,undef,undef,undef,undef,undef,undef,undef,undef,undef,undef,undef,undef,undef,undef,undef,undef,undef,undef,undef,undef,undef,undef,undef,undef,undef,undef,undef,undef,undef,undef],[]⟩ [.code (body_wait wgL)]:=(enter_at (fn:=waitFn wgL) (c:=body_wait wgL) _ wgH.f_wait rfl).trans (by walk_nrmf waitFn)
set_option maxRecDepth 100000 in
theorem enterAdd (Wg:Nat):Frame.enter Tryz.prog 21 #[ptr Wg,.int .i64 1] .normal = (base wgL.add).at ⟨#[ptr Wg,.int .i64 1,undef,undef,undef,undef,undef,undef,undef,undef,undef,undef,undef,undef,undef,undef,undef,undef,undef,undef,undef,undef,undef,undef,undef,undef,undef,undef,undef,undef,undef,undef,undef,undef,undef,undef,undef,undef,undef,undef,undef,undef,undef,undef,undef,undef,undef,undef,undef,undef,undef,undef,undef,undef,undef,undef,undef,undef,undef,undef,undef,undef,undef,undef,undef,undef,undef,undef,undef,undef,undef,undef,undef,undef,undef,undef,undef,undef,undef,undef,undef,undef,undef,undef,undef,undef,undef,undef,undef,undef,undef,undef,undef,undef,undef,undef,undef,undef,undef,undef,undef,undef,undef,undef,undef,undef,undef,undef,undef,undef,undef,undef,undef,undef,undef,undef,undef],[]⟩ [.code (body_add wgL)]:=(enter_at (fn:=addFn wgL) (c:=body_add wgL) _ wgH.f_add rfl).trans (by walk_nrmf addFn)
theorem entersWait:aC Tryz.prog 24:=aC.mk' (by kernel_rfl)
theorem entersAdd:aC Tryz.prog 21:=aC.mk' (by kernel_rfl)
theorem enters20:aC Tryz.prog 20:=aC.mk' (by kernel_rfl)
theorem n8 {P:Program} {pm:Nat→Prop} {fr:Nat} {op:BinOp} {t:TypeId} {x y:Operand} {k k':IntKind} {m n:Int}:Tm P pm fr ((do eqGuard op t x y (.int k m) (.int k' n); binOp op t (.int k m) (.int k' n):Sem Value) >>= fun r=>pure (Next.value r)):=.bind (.bind gF fun _=>jP) fun _=>.pure _
theorem mw {P:Program} {op:BinOp} {t:TypeId} {x y:Operand} {k:IntKind} {m n:Int} {r:Value} (h:∀ w,(binOp op t (.int k m) (.int k n)).run P w = .ok r w) (w:World):((do eqGuard op t x y (.int k m) (.int k n); binOp op t (.int k m) (.int k n):Sem Value) >>= fun r=>pure (Next.value r)).run P w = .ok (.value r) w:=by
  simp [Sem.run_bind,jm,h]
theorem kg {M:Nat→Prop} {a b c:World} (h:aX M a b) (g:bT b c):aX M a c:=h.trans' (.ew g) fun _ _ h=>h.elim
structure Ph (u0:World) (C Wg fr:Nat) (l:List Nat) (v:World):Prop where
  b:B0 u0 C v
  g:v.heap[Wg]? = some (gh l)
  f:fr ≤ v.heap.size
theorem pg {u0:World} {C Wg fr:Nat} {l:List Nat} {v v1:World} (h:Ph u0 C Wg fr l v) (g:bT v v1):Ph u0 C Wg fr l v1:=⟨kg h.1 g,by rw [g.old _ (aS h.2)]; exact h.2,Nat.le_trans h.3 g.size⟩
theorem b0_setG {u0:World} {C Wg:Nat} {v:World} {o:Obj} (h:B0 u0 C v) (hW:u0.heap.size ≤ Wg):B0 u0 C (dr v Wg o) :=
  h.trans' (gY (M:=(· = Wg)) rfl) fun i hi e=>by omega
theorem endT_closed {kind:CallKind} {cs:List Frame} {u0:World} {C n:Nat}:Closed (EndT kind cs u0 C n):=fun g v v1 h hg=>⟨⟨kg h.1.1 hg,by rw [hg.old _ (aS h.1.2)]; exact h.1.2⟩,h.2⟩
theorem finF_closed {kind:CallKind} {cs:List Frame} {u0:World} {C n:Nat}:Closed (FinF kind cs u0 C n):=fun g v v1 h hg=>⟨kg h.1 hg,h.2⟩
theorem ph_start {u0:World} {C Wg:Nat} {l:List Nat} {v:World} {o:Obj} (h:aX bO u0 v) (hW:v.heap.size = Wg) (hC:C < u0.heap.size):Ph u0 C Wg (Wg + 1) l (gW { v with heap:=v.heap.push o } Wg C l):=by
  have hs:=h.size
  have e:Wg < ({ v with heap:=v.heap.push o }:World).heap.size:=by simp [hW]
  refine ⟨?_,by rw [gW,dU (by omega)]; exact cr e,by simp [gW,di,hW]⟩
  have h1:aX bO u0 (dr { v with heap:=v.heap.push o } Wg (gh l)):=(h.trans (.alloc _ v o)).trans' (gY (M:=(· = Wg)) rfl) fun i hi e=>by omega
  exact (h1.mono fun _ h=>h.elim).trans (gY rfl)
theorem run_lenG {P:Program} {t e:TypeId} (h:P.underlying t = some (.slice e)) {ty:TypeId} {b:Option Addr} {n c:Nat} (w:World):(Builtin.len_ #[t] ty #[.slice b n c] >>= fun r=>pure (Next.value r)).run P w = .ok (.value (.int .i64 n)) w:=by
  have hu:(underlying t).run P w = .ok (.slice e) w:=by simp [underlying,h]
  simp [Builtin.len_,hu,goInt]
theorem tm_lenG {P:Program} {pm:Nat→Prop} {fr:Nat} {t e:TypeId} (h:P.underlying t = some (.slice e)) {ty:TypeId} {b:Option Addr} {n c:Nat}:Tm P pm fr (Builtin.len_ #[t] ty #[.slice b n c] >>= fun r=>pure (Next.value r)):=.bind (.under h (.pure _)) fun _=>.pure _
theorem exec_len {ρ:Operand→Value} {t ty:TypeId} {x:Operand} {dst:Option Tmp} {pos:String} {af:Array Edge} {gd:Option (Nat × Bool)}:execOp ρ ⟨dst,.call { callee:=.builtin .len,args:=#[x],argTypes:=#[t] },ty,pos,af,gd⟩ = (Builtin.len_ #[t] ty #[ρ x] >>= fun r=>pure (Next.value r)):=by
  simp [execOp,resolve,invoke,builtin]
theorem alloc_step {b:Frame} {a:Act} {k:List Item} {cs:List Frame} {ops:Array Oper} {i:Nat} {rest:List Nat} {o:Oper} (hk:b.kind ≠ .early) (ho:ops[i]? = some o) (hg:o.guard = none) (hop:o.op = .alloc 107) (w:World) :
    stepG Tryz.prog true (G (b.atR a (.inRegion ops (i :: rest) :: k)) cs) w = .go (G (b.atR (a.put o.dst (ptr w.heap.size)) (.inRegion ops rest :: k)) cs) { w with heap:=w.heap.push (wgBlock 107 0 0) } #[]:=by
  have hk':((b.atR a (.inRegion ops (i :: rest) :: k)).kind == CallKind.early) = false:=by simpa [Frame.atR] using hk
  have hfin:∀ x,(b.atR a (.inRegion ops (i :: rest) :: k)).finish x = b.atR (a.put o.dst x) (.inRegion ops rest :: k):=fun x=>by rw [Frame.finish_atR,ho]; rfl
  have hw:Region.wanted o (yielded ops a.tmps) = true:=by simp [Region.wanted,hg]
  have h1:(execOp a.eval o).runT Tryz.prog w #[] = (.ok (.value (ptr w.heap.size)) { w with heap:=w.heap.push (wgBlock 107 0 0) },#[]):=by
    have z:=wgH.zeroValue_tWg
    unfold execOp
    rw [hop]
    simp [Instr.alloc,go_sem,ptr,wgBlock]
  rw [ia w ho hw (.inl (by rw [hop]; rfl))]
  unfold stepG.apply
  simp only [if_true,h1,hk',Bool.false_eq_true,if_false]
  rw [← hfin]
  simp [GStep.after,G,Frame.atR,seen]
theorem lss_t {i n:Int} (h:i < n):Op.intCmp .lss i n = pure (.bool true):=by simp [Op.intCmp,h]
theorem lss_f {i n:Int} (h:¬ i < n):Op.intCmp .lss i n = pure (.bool false):=by simp [Op.intCmp,h]
section
variable {X:Ext} {P:Program} {main:Bool} {pm:Nat→Prop} {fr:Nat} {T:Goroutine→World→Prop} {b:Frame} {a:Act} {k:List Item} {cs:List Frame} {v:World} {ops:Array Oper} {i:Nat} {rest:List Nat} {o:Oper}
theorem rPush {ob:World→Obj} (hk:b.kind ≠ .early) (ho:ops[i]? = some o) (hg:o.guard = none) (hd:eU o.op = false) (ht:Tm P pm fr (execOp a.eval o)) (hr:∀ v1,bT v v1→(execOp a.eval o).run P v1 = .ok (.value (ptr v1.heap.size)) { v1 with heap:=v1.heap.push (ob v1) })
    (h:∀ v1,bT v v1→bC v1→cQ X P main pm fr T (G (b.atR (a.put o.dst (ptr v1.heap.size)) (.inRegion ops rest :: k)) cs) { v1 with heap:=v1.heap.push (ob v1) }):cQ X P main pm fr T (G (b.atR a (.inRegion ops (i :: rest) :: k)) cs) v :=
  rOp hk ho hg hd fun v1 h1 hn=>bA (by rintro nx v2 ⟨rfl,rfl⟩; exact .inl ⟨_,rfl,h _ h1 hn⟩) _ _ (ht v1 hn _ _ (hr v1 h1))
theorem rPut {f:World→World} (hk:b.kind ≠ .early) (ho:ops[i]? = some o) (hg:o.guard = none) (hd:eU o.op = false) (ht:Tm P pm fr (execOp a.eval o)) (hr:∀ v1,bT v v1→(execOp a.eval o).run P v1 = .ok .skip (f v1))
    (h:∀ v1,bT v v1→bC v1→cQ X P main pm fr T (G (b.atR (a.put o.dst undef) (.inRegion ops rest :: k)) cs) (f v1)):cQ X P main pm fr T (G (b.atR a (.inRegion ops (i :: rest) :: k)) cs) v :=
  rOp hk ho hg hd fun v1 h1 hn=>bA (by rintro nx v2 ⟨rfl,rfl⟩; exact .inr ⟨rfl,h _ h1 hn⟩) _ _ (ht v1 hn _ _ (hr v1 h1))
theorem spawn_step {d:Deferred} {f:Fn} {c:Array Value} (hk:b.kind ≠ .early) (ho:ops[i]? = some o) (hg:o.guard = none) (hd:eU o.op = false) {w:World} (hr:(execOp a.eval o).runT P w #[] = (.ok (.spawn d) w,#[])) (ht:d.target = .fn f c) :
    stepG P main (G (b.atR a (.inRegion ops (i :: rest) :: k)) cs) w = .spawn (G (b.atR (a.put o.dst undef) (.inRegion ops rest :: k)) cs) (born P d) w #[]:=by
  have hk':((b.atR a (.inRegion ops (i :: rest) :: k)).kind == CallKind.early) = false:=by simpa [Frame.atR] using hk
  have hfin:∀ x,(b.atR a (.inRegion ops (i :: rest) :: k)).finish x = b.atR (a.put o.dst x) (.inRegion ops rest :: k):=fun x=>by rw [Frame.finish_atR,ho]; rfl
  have hw:Region.wanted o (yielded ops a.tmps) = true:=by simp [Region.wanted,hg]
  rw [ia w ho hw (.inl hd)]
  unfold stepG.apply
  simp only [if_true,hr,hk',Bool.false_eq_true,if_false]
  rw [← hfin]
  simp [GStep.after,G,born,ht,seen]
end
structure Bx (u0:World) (C fr box:Nat) (cap:Array Value) (v:World):Prop where
  b:B0 u0 C v
  f:fr ≤ v.heap.size
  c:v.cell? ⟨box,0,none⟩ = some (.func (.func 7) #[] cap)
theorem oq {u0:World} {C fr box:Nat} {cap:Array Value} (v v1:World) (h:Bx u0 C fr box cap v) (g:bT v v1):Bx u0 C fr box cap v1:=⟨kg h.1 g,Nat.le_trans h.2 g.size,by rw [← h.3]; simp only [World.cell?]; rw [g.old _ (jY h.3)]⟩
theorem bx_setG {u0:World} {C fr box Wg:Nat} {cap:Array Value} (hW:u0.heap.size ≤ Wg) (hb:Wg ≠ box) (v:World) (l:List Nat) (h:Bx u0 C fr box cap v):Bx u0 C fr box cap (dr v Wg (gh l)):=⟨b0_setG h.1 hW,by rw [di]; exact h.2,by rw [← h.3]; simp only [World.cell?]; rw [dU hb]⟩
set_option maxRecDepth 100000 in
set_option maxHeartbeats 4000000 in
theorem freeX {kind:CallKind} (hk:kind ≠ .early) {cs:List Frame} {u0:World} {C gb n cp:Nat} {cap:Nat→Array Value} (H:Gates u0 C gb n cp cap) :
    cQ X0 Tryz.prog true (pmM u0.heap.size) u0.heap.size (AllocT kind cs u0 C n) (G (Frame.enter Tryz.prog 8 #[.slice (some ⟨gb,0,none⟩) n cp] kind) cs) u0:=by
  have hb8:(gj 8 kind).kind ≠ .early:=hk
  have hT:=allocT_closed (kind:=kind) (cs:=cs) (u0:=u0) (C:=C) (n:=n)
  have hG:bT u0 u0:=.refl _
  have e:Frame.enter Tryz.prog 8 #[.slice (some ⟨gb,0,none⟩) n cp] kind = (gj 8 kind).atR ⟨#[.slice (some ⟨gb,0,none⟩) n cp,undef,undef,undef,undef,undef,undef,undef,undef,undef,undef,undef,undef,undef,undef,undef,undef,undef,undef,undef,undef,undef],[]⟩ [.code (Tryz.f8.body.getD .skip)]:=by
    simp [Frame.enter,Frame.atR,Tryz.func8,Tryz.f8,gj]
    rfl
  rw [e]
  simp only [Tryz.f8,Option.getD_some]
  repeat (refine .ctl hT rfl (fun w=>fU w) ?_)
  refine .ctl hT rfl (fun w=>dC w) ?_
  simp only [List.size_toArray,List.length_cons,List.length_nil,Nat.reduceAdd,Nat.zero_add,List.range,List.range.loop]
  refine ky (x:=(.int .i64 0)) hb8 rfl rfl rfl (.pure _) (fun v1 _=>by simp [execOp,Act.eval,Instr.makeFunc]) fun v1 h1 n1=>?_
  replace hG:=bT.trans hG h1
  clear h1 n1
  walk_nrm
  refine .ctl hT rfl (fun w=>cv w) ?_
  repeat (refine .ctl hT rfl (fun w=>fU w) ?_)
  refine .ctl hT rfl (fun w=>dC w) ?_
  simp only [List.size_toArray,List.length_cons,List.length_nil,Nat.reduceAdd,Nat.zero_add,List.range,List.range.loop]
  refine ky (x:=(.slice (some ⟨gb,0,none⟩) n cp)) hb8 rfl rfl rfl (.pure _) (fun v1 _=>by simp [execOp,Act.eval,Instr.makeFunc]) fun v1 h1 n1=>?_
  replace hG:=bT.trans hG h1
  clear h1 n1
  walk_nrm
  refine rCall (f:=20) (args:=#[.slice (some ⟨gb,0,none⟩) n cp]) (R:=fun v=>cD v (.int .i64 0)) hb8 rfl rfl rfl (fun v2=>?_) (fun v2 h2 n2=>H.wr v2 _ (hG.trans h2) n2 (Nat.le_refl _) (hG.trans h2).size) (fun v2 h2 b hb2=>?_) fun v2 val v3 h2 ⟨hq,hq2⟩ v4 h4 n4=>?_
  · have:=eo (P:=Tryz.prog) enters20 (#[.slice (some ⟨gb,0,none⟩) n cp]) (pm:=pmM u0.heap.size) (fr:=u0.heap.size) v2
    simpa [execOp,resolve,Deferred.ofValue,invoke,Act.eval] using this
  · exact hb2.elim (fun h=>Nat.le_trans hG.size (Nat.le_trans h2.size h)) fun h=>h.elim
  obtain rfl:=Ending.returned.inj hq
  have hK:aX bO u0 v4:=((aX.ew (hG.trans h2)).trans hq2).trans (.ew h4)
  clear hG hq2 h4 h2
  walk_nrm
  refine ky (x:=(.int .i64 0)) hb8 rfl rfl rfl (.pure _) (fun v1 _=>by simp [execOp,Act.eval,Instr.makeFunc]) fun v1 h1 n1=>?_
  replace hK:=kg hK h1
  clear h1 n1
  walk_nrm
  refine .ctl hT rfl (fun w=>cv w) ?_
  repeat (refine .ctl hT rfl (fun w=>fU w) ?_)
  refine .ctl hT rfl (fun w=>dC w) ?_
  simp only [List.size_toArray,List.length_cons,List.length_nil,Nat.reduceAdd,Nat.zero_add,List.range,List.range.loop]
  refine ky (x:=(.int .i64 0)) hb8 rfl rfl rfl (.pure _) (fun v1 _=>by simp [execOp,Act.eval,Instr.makeFunc]) fun v1 h1 n1=>?_
  replace hK:=kg hK h1
  clear h1 n1
  walk_nrm
  refine ky (x:=(.bool false)) hb8 rfl rfl rfl n8 (fun v1 _=>mw (dV (b:=false) rfl (by decide)) v1) fun v1 h1 n1=>?_
  replace hK:=kg hK h1
  clear h1 n1
  walk_nrm
  refine .ctl hT rfl (fun w=>cv w) ?_
  refine .ctl hT rfl (fun w=>om (t:=false) w rfl) ?_
  simp only [if_true,if_false,Bool.false_eq_true,↓reduceIte]
  refine .ctl hT rfl (fun w=>gR_skip w) ?_
  repeat (refine .ctl hT rfl (fun w=>fU w) ?_)
  refine .ctl hT rfl (fun w=>dC w) ?_
  simp only [List.size_toArray,List.length_cons,List.length_nil,Nat.reduceAdd,Nat.zero_add,List.range,List.range.loop]
  refine .stop ⟨rfl,hK,fun v5 h5 n5=>⟨_,?_,fun w hw=>((alloc_step hb8 rfl rfl rfl w).trans (by rw [hw])),?_⟩⟩
  · rfl
  replace hK:=kg hK h5
  clear h5 hT e
  walk_nrm
  obtain ⟨Wg,hWg⟩:∃ Wg,v5.heap.size = Wg:=⟨_,rfl⟩
  have hWu:u0.heap.size ≤ Wg:=by rw [← hWg]; exact hK.size
  have hP:=ph_start (o:=wgBlock 107 0 0) (l:=[0,n - 1,5]) hK hWg (aS H.here)
  have hF:=finF_closed (kind:=kind) (cs:=cs) (u0:=u0) (C:=C) (n:=n)
  rw [hWg]
  generalize gW { v5 with heap:=v5.heap.push (wgBlock 107 0 0) } Wg C [0,n - 1,5] = v6 at hP ⊢
  have hT:=kS (P:=Tryz.prog) (ty:=107) (Wg:=Wg) (C:=C) (n:=n) (fv:=.bool false) (tv:=.bool true) hF (n - 1 + 2) (Wg + 1)
  refine .ctl hT rfl (fun w=>cv w) ?_
  repeat (refine .ctl hT rfl (fun w=>fU w) ?_)
  refine .ctl hT rfl (fun w=>dC w) ?_
  simp only [List.size_toArray,List.length_cons,List.length_nil,Nat.reduceAdd,Nat.zero_add,List.range,List.range.loop]
  refine ky (x:=(.slice (some ⟨gb,0,none⟩) n cp)) hb8 rfl rfl rfl (.pure _) (fun v1 _=>by simp [execOp,Act.eval,Instr.makeFunc]) fun v1 h1 n1=>?_
  replace hP:=pg hP h1
  clear h1 n1
  walk_nrm
  refine ky (x:=.int .i64 n) hb8 rfl rfl rfl (exec_len ▸ tm_lenG Tryz.underlying51) (fun v1 _=>(congrArg (fun e=>Sem.run Tryz.prog e v1) exec_len).trans (run_lenG Tryz.underlying51 v1)) fun v1 h1 n1=>?_
  replace hP:=pg hP h1
  clear h1 n1
  walk_nrm
  refine ky (x:=(.int .i64 0)) hb8 rfl rfl rfl (.pure _) (fun v1 _=>by simp [execOp,Act.eval,Instr.makeFunc]) fun v1 h1 n1=>?_
  replace hP:=pg hP h1
  clear h1 n1
  walk_nrm
  refine .ctl hT rfl (fun w=>cv w) ?_
  refine .ctl hT rfl (fun w=>pa w) ?_
  refine .ctl hT rfl (fun w=>gR_loop w) ?_
  have eg:[0,n - 1,5] = nS n:=by
    obtain ⟨m,rfl⟩:∃ m,n = m + 1:=⟨n - 1,by have:=H.pos; omega⟩
    rfl
  have et:n - 1 + 2 = n + 1:=by have:=H.pos; omega
  rw [eg] at hP
  rw [et]
  clear eg et hT
  have hpos:=H.pos
  have hfew:=H.few
  refine (show ∀ (r j:Nat),j + r = n→∀ (ji:Int) (x6 x15 x16 x17 x18 x19 x20:Value) (fr:Nat) (v:World),ji = j→Ph u0 C Wg fr (nS r) v→Wg < fr →
    cQ (XB Tryz.prog 107 Wg n) Tryz.prog true (pmM fr) fr (TM Tryz.prog 107 Wg C n (.bool false) (.bool true) (FinF kind cs u0 C n) (r + 1) fr) (G ((gj 8 kind).atR ⟨#[.slice (some ⟨gb,0,none⟩) n cp,undef,.int .i64 0,.int .i64 0,ptr Wg,undef,x6,.slice (some ⟨gb,0,none⟩) n cp,.int .i64 0,.int .i64 0,.bool false,undef,.slice (some ⟨gb,0,none⟩) n cp,.int .i64 n,.int .i64 ji,x15,x16,x17,x18,x19,x20,undef],[]⟩ _) cs) v from ?_) n 0 (by omega) 0 undef undef undef undef undef undef undef (Wg + 1) _ rfl hP (by omega)
  clear hP
  intro r
  induction r with
  | zero =>
    intro j hj ji x6 x15 x16 x17 x18 x19 x20 fr v hji hP hWf
    have hT:=kS (P:=Tryz.prog) (ty:=107) (Wg:=Wg) (C:=C) (n:=n) (fv:=.bool false) (tv:=.bool true) hF (0 + 1) fr
    subst hji
    repeat (refine .ctl hT rfl (fun w=>fU w) ?_)
    refine .ctl hT rfl (fun w=>dC w) ?_
    simp only [List.size_toArray,List.length_cons,List.length_nil,Nat.reduceAdd,Nat.zero_add,List.range,List.range.loop]
    refine ky (x:=(.bool false)) hb8 rfl rfl rfl n8 (fun v1 _=>mw (dV (op:=.lss) (b:=false) (lss_f (by omega)) (by decide)) v1) fun v1 h1 n1=>?_
    replace hP:=pg hP h1
    clear h1 n1
    walk_nrm
    refine .ctl hT rfl (fun w=>cv w) ?_
    repeat (refine .ctl hT rfl (fun w=>fU w) ?_)
    refine .ctl hT rfl (fun w=>om (t:=false) w rfl) ?_
    simp only [if_true,if_false,Bool.false_eq_true,↓reduceIte]
    refine .ctl hT rfl (fun w=>gR_exit w rfl) ?_
    repeat (refine .ctl hT rfl (fun w=>fU w) ?_)
    refine .ctl hT rfl (fun w=>dC w) ?_
    simp only [List.size_toArray,List.length_cons,List.length_nil,Nat.reduceAdd,Nat.zero_add,List.range,List.range.loop]
    refine rEnter (f:=24) (args:=#[ptr Wg]) hb8 rfl rfl rfl (fun v2=>?_) fun v7 h7 n7=>?_
    · have:=eo (P:=Tryz.prog) entersWait (#[ptr Wg]) (pm:=pmM fr) (fr:=fr) v2
      simpa [execOp,resolve,Deferred.ofValue,invoke,Act.eval] using this
    replace hP:=pg hP h7
    rw [enterWait]
    refine (waitX (b₀:=gj 8 kind) wgH (B:=fun v=>B0 u0 C v) (fun v v1 h g=>kg h g) (fun v l h=>b0_setG h hWu) (fv:=.bool false) (tv:=.bool true) (B2:=B2 u0 C n) (fun v v1 h g=>⟨kg h.1 g,by rw [g.old _ (aS h.2)]; exact h.2⟩) fun v hv=>?_).2 v7 hP.2 hP.1
    have hT:=endT_closed (kind:=kind) (cs:=cs) (u0:=u0) (C:=C) (n:=n)
    rw [← Frame.atR_of_none (b:=gj 8 kind) rfl]
    walk_nrm
    refine .ctl hT rfl (fun w=>cv w) ?_
    repeat (refine .ctl hT rfl (fun w=>fU w) ?_)
    refine .ctl hT rfl (fun w=>dC w) ?_
    simp only [List.size_toArray,List.length_cons,List.length_nil,Nat.reduceAdd,Nat.zero_add,List.range,List.range.loop]
    refine ky (x:=.int .i64 0) hb8 rfl rfl rfl (.pure _) (fun v1 _=>by simp [execOp,Act.eval]) fun v1 h1 n1=>?_
    replace hv:B2 u0 C n v1:=⟨kg hv.1 h1,by rw [h1.old _ (aS hv.2)]; exact hv.2⟩
    walk_nrm
    refine .ctl hT rfl (fun w=>cv w) ?_
    refine .ctl hT rfl (fun w=>gR_ret (b:=gj 8 kind) w rfl) ?_
    exact .stop ⟨hv,_,_,rfl,rfl⟩
  | succ r ih =>
    intro j hj ji x6 x15 x16 x17 x18 x19 x20 fr v hji hP hWf
    have hT:=kS (P:=Tryz.prog) (ty:=107) (Wg:=Wg) (C:=C) (n:=n) (fv:=.bool false) (tv:=.bool true) hF (r + 1 + 1) fr
    subst hji
    repeat (refine .ctl hT rfl (fun w=>fU w) ?_)
    refine .ctl hT rfl (fun w=>dC w) ?_
    simp only [List.size_toArray,List.length_cons,List.length_nil,Nat.reduceAdd,Nat.zero_add,List.range,List.range.loop]
    refine ky (x:=(.bool true)) hb8 rfl rfl rfl n8 (fun v1 _=>mw (dV (op:=.lss) (b:=true) (lss_t (by omega)) (by decide)) v1) fun v1 h1 n1=>?_
    replace hP:=pg hP h1
    clear h1 n1
    walk_nrm
    refine .ctl hT rfl (fun w=>cv w) ?_
    repeat (refine .ctl hT rfl (fun w=>fU w) ?_)
    refine .ctl hT rfl (fun w=>om (t:=true) w rfl) ?_
    simp only [if_true,if_false,Bool.false_eq_true,↓reduceIte]
    refine .ctl hT rfl (fun w=>gR_skip w) ?_
    repeat (refine .ctl hT rfl (fun w=>fU w) ?_)
    refine .ctl hT rfl (fun w=>pa w) ?_
    repeat (refine .ctl hT rfl (fun w=>fU w) ?_)
    refine .ctl hT rfl (fun w=>dC w) ?_
    simp only [List.size_toArray,List.length_cons,List.length_nil,Nat.reduceAdd,Nat.zero_add,List.range,List.range.loop]
    have hjn:j < n:=by omega
    refine ky (x:=.pointer (some ⟨gb,j,none⟩)) hb8 rfl rfl rfl (.bind (.indexAt _ _ _) fun _=>.pure _) (fun v1 _=>?_) fun v1 h1 n1=>?_
    · simp [execOp,Act.eval,Instr.indexAt,asIntOf,Tryz.runUnderlying51,Tryz.sizeOf54,Addr.add,hjn]
      first | done | omega | (intro e; exact e.symm)
    replace hP:=pg hP h1
    clear h1 n1
    walk_nrm
    refine ky (x:=.func (.func 7) #[] (cap j)) hb8 rfl rfl rfl (.bind (.bind (.sureAddr _) fun _=>.loadVar _ _) fun _=>.pure _) (fun v1 h1=>?_) fun v1 h1 n1=>?_
    · have hc:v1.cell? ⟨gb,j,none⟩ = some (.func (.func 7) #[] (cap j)):=(kg hP.b h1).cell (H.cell j hjn) H.ne
      simp [Act.eval,execOp,go_sem,hc]
    replace hP:=pg hP h1
    clear h1 n1
    walk_nrm
    refine rPush (ob:=fun _=>.cells #[.nilFunc] 54) hb8 rfl rfl rfl (.bind (.bind (.zeroValue _) fun _=>.bind (.newVar _ _) fun _=>.pure _) fun _=>.pure _) (fun v1 _=>?_) fun v7 h7 n7=>?_
    · simp [execOp,Instr.alloc,go_sem,ptr,Tryz.zeroValue54,newVar,newRow]
    replace hP:=pg hP h7
    clear h7 n7
    walk_nrm
    obtain ⟨box,hbox⟩:∃ box,v7.heap.size = box:=⟨_,rfl⟩
    rw [hbox]
    have hWl:Wg < box:=hbox ▸ aS hP.g
    have hub:u0.heap.size ≤ box:=hbox ▸ hP.b.size
    have hfb:fr ≤ box:=hbox ▸ hP.f
    have hbn:({ v7 with heap:=v7.heap.push (.cells #[.nilFunc] 54) }:World).heap[box]? = some (.cells #[.nilFunc] 54):=by simp [← hbox]
    replace hP:Ph u0 C Wg fr (nS (r + 1)) { v7 with heap:=v7.heap.push (.cells #[.nilFunc] 54) } :=
      ⟨hP.b.trans (.alloc _ v7 _),by show (v7.heap.push _)[Wg]? = _; rw [Array.getElem?_push_lt (by omega),← hP.g]; simp [hbox,hWl],by simp; omega⟩
    generalize ({ v7 with heap:=v7.heap.push (.cells #[.nilFunc] 54) }:World) = v8 at hbn hP ⊢
    refine rPut (f:=fun v1=>v1.setRow box #[.func (.func 7) #[] (cap j)]) hb8 rfl rfl rfl (.bind (.known (b:=⟨box,0,none⟩) (.sureAddr _) (fun v=>rfl) (.storeVar _ _ _ hfb hfb)) fun _=>.pure _) (fun v1 h1=>?_) fun v9 h9 n9=>?_
    · have:=run_storeVar_one (P:=Tryz.prog) v1 box 54 54 .nilFunc (.func (.func 7) #[] (cap j)) (by rw [h1.old _ (aS hbn)]; exact hbn) (by kernel_rfl) rfl
      simp [execOp,Act.eval,Instr.storeAt,Instr.sureAddr,ptr,this]
    replace hbn:v9.heap[box]? = some (.cells #[.nilFunc] 54):=by rw [h9.old _ (aS hbn)]; exact hbn
    replace hP:=pg hP h9
    have hB:Bx u0 C fr box (cap j) (v9.setRow box #[.func (.func 7) #[] (cap j)]) :=
      ⟨hP.b.trans' (mr _ _ _) fun i hi e=>by omega,by simpa using hP.f,by simp [World.cell?,setRow_heap _ _ _ #[.func (.func 7) #[] (cap j)] _ _ hbn]⟩
    replace hP:Ph u0 C Wg fr (nS (r + 1)) (v9.setRow box #[.func (.func 7) #[] (cap j)]):=⟨hB.b,(setRow_other _ _ _ _ (by omega)).trans hP.g,hB.f⟩
    generalize v9.setRow box #[.func (.func 7) #[] (cap j)] = v10 at hB hP ⊢
    clear h9 n9 hbn
    walk_nrm
    refine .ctl hT rfl (fun w=>cv w) ?_
    repeat (refine .ctl hT rfl (fun w=>fU w) ?_)
    refine .ctl hT rfl (fun w=>dC w) ?_
    simp only [List.size_toArray,List.length_cons,List.length_nil,Nat.reduceAdd,Nat.zero_add,List.range,List.range.loop]
    refine rEnter (f:=21) (args:=#[ptr Wg,.int .i64 1]) hb8 rfl rfl rfl (fun v2=>?_) fun v11 h11 n11=>?_
    · have:=eo (P:=Tryz.prog) entersAdd (#[ptr Wg,.int .i64 1]) (pm:=pmM fr) (fr:=fr) v2
      simpa [execOp,resolve,Deferred.ofValue,invoke,Act.eval] using this
    replace hP:=pg hP h11
    replace hB:=oq _ _ hB h11
    clear h11 n11
    rw [enterAdd]
    refine (addX (b₀:=gj 8 kind) wgH (B:=Bx u0 C fr box (cap j)) oq (fun v l h=>bx_setG hWu (by omega) v l h) ⟨rfl,fun v12 hg hB=>?_⟩).2 v11 hP.2 hB
    replace hP:Ph u0 C Wg fr [0,r,2] v12:=⟨hB.b,hg,hB.f⟩
    clear hg
    rw [← Frame.atR_of_none (b:=gj 8 kind) rfl]
    walk_nrm
    refine .ctl hT rfl (fun w=>cv w) ?_
    refine .ctl hT rfl (fun w=>dC w) ?_
    simp only [List.size_toArray,List.length_cons,List.length_nil,Nat.reduceAdd,Nat.zero_add,List.range,List.range.loop]
    refine ky (x:=.func (.func 22) #[] #[ptr Wg,ptr box]) hb8 rfl rfl rfl (.pure _) (fun v1 _=>by simp [execOp,Act.eval,Instr.makeFunc]) fun v1 h1 n1=>?_
    replace hP:=pg hP h1
    replace hB:=oq _ _ hB h1
    clear h1 n1
    walk_nrm
    have ej:n - (r + 1) = j:=by omega
    refine .stop ⟨rfl,hP.g,_,_,?_,rfl,fun u w hu nu mu=>spawn_step (d:=callW Wg box) hb8 rfl rfl rfl (by simp [execOp,resolve,Deferred.ofValue,Act.eval,callW,ptr]) rfl,fun u hu nu=>?_,fun u hu nu=>?_⟩
    · rfl
    · replace hB:=oq _ _ hB hu
      have hCl:=aS H.here
      have hCu:C < u.heap.size:=Nat.lt_of_lt_of_le hCl hB.b.size
      rw [ej]
      refine workerX (cap:=cap j) ?_ (by rw [di]; exact Nat.le_refl _) fun v1 g1 n1=>H.gate j hjn v1 u.heap.size n1 (by have:=g1.size; rw [di] at this; exact this) hB.b.size ?_ ?_
      · rw [← hB.c]; simp only [World.cell?]; rw [dU (by omega)]
      · rw [g1.old _ (by rw [di]; exact hCu)]; exact cr hCu
      · exact kg (hB.b.trans (gY (M:=(· = C)) rfl)) g1
    · replace hP:=pg hP hu
      have hT:=kS (P:=Tryz.prog) (ty:=107) (Wg:=Wg) (C:=C) (n:=n) (fv:=.bool false) (tv:=.bool true) hF (r + 1) u.heap.size
      have hWs:Wg < u.heap.size:=aS hP.g
      have hPn:Ph u0 C Wg u.heap.size (nS r) (dr u Wg (gh (nS r))):=⟨b0_setG hP.b hWu,cr hWs,by rw [di]; exact Nat.le_refl _⟩
      generalize dr u Wg (gh (nS r)) = v14 at hPn ⊢
      walk_nrm
      refine .ctl hT rfl (fun w=>cv w) ?_
      refine .ctl hT rfl (fun w=>o9 w) ?_
      refine .ctl hT rfl (fun w=>dC w) ?_
      simp only [List.size_toArray,List.length_cons,List.length_nil,Nat.reduceAdd,Nat.zero_add,List.range,List.range.loop]
      refine ky (x:=.int .i64 ((j + 1:Nat):Int)) hb8 rfl rfl rfl n8 (fun v1 _=>mw (fun w=>by rw [kV (.inl rfl)]; congr 2; simp only [IntKind.wrap_i64]; omega) v1) fun v1 h1 n1=>?_
      replace hPn:=pg hPn h1
      clear h1 n1
      walk_nrm
      refine ky (x:=(.int .i64 ((j + 1:Nat):Int))) hb8 rfl rfl rfl (.pure _) (fun v1 _=>by simp [execOp,Act.eval,Instr.makeFunc]) fun v1 h1 n1=>?_
      replace hPn:=pg hPn h1
      clear h1 n1
      walk_nrm
      refine .ctl hT rfl (fun w=>cv w) ?_
      refine .ctl hT rfl (fun w=>gR_inLoop w) ?_
      exact ih (j + 1) (by omega) _ _ _ _ _ _ _ _ _ _ rfl hPn hWs
end Go.Proofs.YtjanhajdmhalaaaGreat
