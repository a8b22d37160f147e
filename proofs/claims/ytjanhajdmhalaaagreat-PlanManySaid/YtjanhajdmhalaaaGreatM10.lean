/- Part. -/
import Derived.Test.YtjanhajdmhalaaaGreatM8
import Derived.Test.YtjanhajdmhalaaaGreatM9
set_option linter.unusedVariables false
set_option linter.unusedSimpArgs false
set_option linter.unusedSectionVars false
namespace Go.Proofs.YtjanhajdmhalaaaGreat
open Go Go.Gx Go.Conc Go.ConcN Go.RowKit Go.Conc.Lib Go.ConcR.Gen Go.ConcN.Gen
def b22:Frame:=baseD 22
noncomputable def bot:Frame:={ (default:Frame) with fn:=Tryz.prog.funcs.size,defers:=[],mode:=.panicking [goexitEntry] }
noncomputable def body22:Code:=Tryz.f22.body.getD .skip
def ptr (b:Nat):Value:=.pointer (some ⟨b,0,none⟩)
def callW (Wg box:Nat):Deferred:={ target:=.fn (.func 22) #[ptr Wg,ptr box],args:=#[] }
theorem quitsTail (T:Array Value):QuitsD Tryz.prog 2 0 (G { b22.at ⟨T,[]⟩ [] with mode:=.returning } [bot]):=by
  refine QuitsD.ctl (g':=G bot []) rfl (fun w=>?_) ?_
  · simp [G,stepG,unwind,doReturn,results,Frame.at,b22,baseD,bot,Tryz.func22,Tryz.f22,seen,GStep.after,goexitEntry]
  refine QuitsD.ctl (g':={ G bot [] with status:=.finished }) rfl (fun w=>?_) ⟨rfl,rfl⟩
  simp [G,stepG,unwind,bot,goexitEntry,Frame.catches]
  rfl
theorem born_step (Wg box:Nat) (w:World):stepG Tryz.prog false (born Tryz.prog (callW Wg box)) w =
    .go (G (b22.atR ⟨#[ptr Wg,ptr box,undef,undef],[]⟩ [.code body22]) [bot]) w #[]:=by
  simp [born,callW,stepG,unwind,callDeferred,invoke,callFunc,Tryz.func22,Tryz.f22,seen,GStep.after,G,Frame.enter,Frame.atR,b22,baseD,bot,body22]
  rfl
theorem entersC:aC Tryz.prog 7:=aC.mk' (by kernel_rfl)
set_option maxRecDepth 100000 in
set_option maxHeartbeats 2000000 in
theorem workerX {Wg C n i box s:Nat} {tv:Value} {cap:Array Value} {v:World} (hb:v.cell? ⟨box,0,none⟩ = some (.func (.func 7) #[] cap)) (hs:s ≤ v.heap.size)
    (hC:∀ v1,bT v v1→bC v1→gC X0 s Tryz.prog 7 (#[.nilIface] ++ cap) v1 ⟨(· = C),fun e v'=>e = .returned (.tuple #[]) ∧ v'.heap[C]? = some (slot i tv)⟩) :
    cQ X0 Tryz.prog false (pmW C s) s (TW Tryz.prog 107 Wg C n tv i) (born Tryz.prog (callW Wg box)) v:=by
  have hT:=tw_closed (P:=Tryz.prog) (ty:=107) (Wg:=Wg) (C:=C) (n:=n) (tv:=tv) i
  refine .ctl hT rfl (born_step Wg box) ?_
  simp only [body22,Tryz.f22,Option.getD_some]
  refine .ctl hT rfl (fun w=>fU w) ?_
  refine .ctl hT rfl (fun w=>dC w) ?_
  simp only [List.size_toArray,List.length_cons,List.length_nil,Nat.reduceAdd,Nat.zero_add,List.range,List.range.loop]
  refine .ctl hT rfl (fun w=>stepG_defer (b:=b22) rfl rfl (by decide) rfl) ?_
  walk_nrm
  refine .ctl hT rfl (fun w=>cv (b:=b22) w) ?_
  refine .ctl hT rfl (fun w=>dC (b:=b22) w) ?_
  simp only [List.size_toArray,List.length_cons,List.length_nil,Nat.reduceAdd,Nat.zero_add,List.range,List.range.loop]
  refine ky (b:=b22) (x:=.func (.func 7) #[] cap) (by decide) rfl rfl rfl (Tm.bind (.bind (.sureAddr _) fun _=>.loadVar _ _) fun _=>.pure _) (fun v1 h1=>?_) fun v1 h1 n1=>?_
  · have hc:v1.cell? ⟨box,0,none⟩ = some (.func (.func 7) #[] cap):=by
      rw [← hb]
      simp only [World.cell?]
      rw [h1.old _ (jY hb)]
    simp [Act.eval,execOp,ptr,go_sem,hc]
  walk_nrm
  refine rCall (b:=b22) (f:=7) (args:=#[.nilIface] ++ cap) (R:=fun _=>⟨(· = C),fun e v'=>e = .returned (.tuple #[]) ∧ v'.heap[C]? = some (slot i tv)⟩) (by decide) rfl rfl rfl (fun v2=>?_) (fun v2 h2 n2=>hC v2 (h1.trans h2) n2) (fun v2 h2 b hb2=>?_) fun v2 val v3 h2 ⟨hq,hq2⟩ v4 h4 n4=>?_
  · have e:∀ T ds,execOp (Act.eval ⟨T,ds⟩) = execOp (Act.eval ⟨T,ds⟩):=fun _ _=>rfl
    have:=eo (P:=Tryz.prog) entersC (#[.nilIface] ++ cap) (pm:=pmW C s) (fr:=s) v2
    simpa [execOp,resolve,Deferred.ofValue,invoke,Act.eval] using this
  · exact hb2.imp (fun h=>Nat.le_trans hs (Nat.le_trans h1.size (Nat.le_trans h2.size h))) id
  obtain rfl:=Ending.returned.inj hq
  refine .ctl hT rfl (fun w=>cv (b:=b22) w) ?_
  refine .ctl hT rfl (fun w=>gR_end (b:=b22) w rfl) ?_
  walk_nrm
  refine .ctl hT rfl (g':=G ((baseD wgL.done).at ⟨#[ptr Wg,undef,undef,undef],[]⟩ [.code (body_done wgL)]) ({ b22.at ⟨#[ptr Wg,ptr box,.func (.func 7) #[] cap,.tuple #[]],[]⟩ [] with mode:=.returning } :: [bot])) (fun w=>?_) ?_
  · exact stepG_unwind_enter (b:=b22) (a:=⟨#[ptr Wg,ptr box,.func (.func 7) #[] cap,.tuple #[]],[dcall 23 #[ptr Wg]]⟩) (ds:=[]) (f:=23) (args:=#[ptr Wg]) (cs:=[bot]) (todo:=[]) rfl wgH.f_done (nm_done wgL) rfl
  refine .stop ⟨by rw [h4.old _ (aS hq2)]; exact hq2,fun w hl hh=>?_⟩
  exact doneX wgH (c:={ b22.at ⟨#[ptr Wg,ptr box,.func (.func 7) #[] cap,.tuple #[]],[]⟩ [] with mode:=.returning }) (cs:=[bot]) rfl (quitsTail _) w hl hh
end Go.Proofs.YtjanhajdmhalaaaGreat
namespace Go.Gx
open Go Go.Conc Go.ConcN
open Go.ConcR (KK wgBlock WgAt stA smA rd wr mk Payload DC0 Bk g_of_ofEvents)
section
variable {X:Ext} {P:Program} {main:Bool} {pm:Nat→Prop} {fr:Nat} {T:Goroutine→World→Prop} {b:Frame} {a:Act} {k:List Item} {cs:List Frame} {v:World} {ops:Array Oper} {i:Nat} {rest:List Nat} {o:Oper}
theorem rEnter (hk:b.kind ≠ .early) (ho:ops[i]? = some o) (hg:o.guard = none) (hd:eU o.op = false) {f:FuncId} {args:Array Value} (hx:∀ v1,(execOp a.eval o).wpS P pm fr (fun n v2=>n = .enter f args ∧ v2 = v1) v1)
    (h:∀ v1,bT v v1→bC v1→cQ X P main pm fr T (G (Frame.enter P f args .normal) (b.atR a (.inRegion ops (i :: rest) :: k) :: cs)) v1) :
    cQ X P main pm fr T (G (b.atR a (.inRegion ops (i :: rest) :: k)) cs) v:=.go rfl fun v1 w m=>by
  have hk':((b.atR a (.inRegion ops (i :: rest) :: k)).kind == CallKind.early) = false:=by simpa [Frame.atR] using hk
  have hfin:∀ x,(b.atR a (.inRegion ops (i :: rest) :: k)).finish x = b.atR (a.put o.dst x) (.inRegion ops rest :: k):=fun x=>by rw [Frame.finish_atR,ho]; rfl
  have hw:Region.wanted o (yielded ops a.tmps) = true:=by simp [Region.wanted,hg]
  obtain ⟨nx,v',es,⟨rfl,rfl⟩,h4,h6,real⟩:=cu _ v1 (hx v1)
  obtain ⟨w',g1,g2⟩:=real w #[] m.msk
  rw [Array.empty_append] at g1
  refine ⟨G (Frame.enter P f args .normal) (b.atR a (.inRegion ops (i :: rest) :: k) :: cs),v',⟨w',seen P b.fn es,?_,h4,g2,eR h6⟩,h v' m.grow m.nv⟩
  rw [ia w ho hw (.inl hd)]
  unfold stepG.apply
  simp only [if_true,g1,hk',Bool.false_eq_true,if_false]
  simp [GStep.after,G,Frame.atR]
theorem cQ.kept (hk:∀ g v w g' v',X.kind main g v w g' v'→aX pm v v') {g:Goroutine} (h:cQ X P main pm fr T g v):∀ v0,aX pm v0 v→cQ X P main pm fr (fun g' v'=>T g' v' ∧ aX pm v0 v') g v:=by
  induction h with
  | stop h=>exact fun v0 h0=>.stop ⟨h,h0⟩
  | step hr bl hb f h _ ih =>
    refine fun v0 h0=>.step hr bl hb f h fun v1 w m up=>ih v1 w m up v0 ?_
    have h1:aX pm v0 v1:=h0.trans' (.ew m.grow) fun _ _ h=>h.elim
    rcases h v1 w m up with ⟨w',es,_,ht,_⟩ | h2
    · exact h1.trans (.of_turn ht)
    · exact h1.trans (hk _ _ _ _ _ h2)
theorem gY {v:World} {b:Nat} {o:Obj} {M:Nat→Prop} (h:M b):aX M v (dr v b o) :=
  ⟨rfl,rfl,rfl,by rw [di]; exact Nat.le_refl _,fun k _ hm=>dU fun e=>hm (e ▸ h)⟩
theorem aX.cell {M:Nat→Prop} {v v':World} {a:Addr} {x:Value} (h:aX M v v') (hc:v.cell? a = some x) (hm:¬ M a.block):v'.cell? a = some x:=by
  rw [← hc]
  simp only [World.cell?]
  rw [h.block _ (jY hc) hm]
end
section
variable {P:Program} {Shun:Loc→Prop} {t:Trace} {gs:Array Goroutine} {q:Nat→Nat} {ga g g':Goroutine} {v w:World} {sl:Option (Nat × Nat)}
theorem low_touch {B:Nat} {a:Addr} {x:Touch} {ac:MemAct} (h2:ac.touch? = some x) (h3:ac.low B) (h4:x.loc = .cell a):a.block < B:=by
  cases ac with
  | access e =>
    simp only [MemAct.touch?,Option.some.injEq] at h2
    subst h2
    simp only at h4
    simp only [MemAct.low,h4] at h3
    exact h3
  | mark m =>
    cases m <;> simp [MemAct.touch?] at h2 <;> (subst h2; simp at h4; subst h4; exact h3)
  | _=>simp [MemAct.touch?] at h2
theorem past_fresh {B:Nat} (h:Past Shun B t) {a:Addr} (hb:B ≤ a.block):j4 t (.cell a):=fun i x hx e=>by
  obtain ⟨ac,h1,h2⟩:∃ ac,t.act? i = some ac ∧ ac.touch? = some x:=by simpa [touchAt,Option.bind_eq_some_iff] using hx
  obtain ⟨op,ho,rfl⟩:∃ op,t[i]? = some op ∧ op.act = ac:=by simpa [Trace.act?,Option.map_eq_some_iff] using h1
  have:=low_touch h2 (h.seen op (Array.mem_of_getElem? ho)) e
  omega
variable [Bad]
theorem cx.made (h:cx P Shun t gs q ga v w) (al:Alike P ga g) {o:Obj} (h1:isP o = false) (h2:isV o = false) (hst:∀ w:World,w.heap.size = v.heap.size→stepG P true g w = .go g' { w with heap:=w.heap.push o } #[]) :
    ∃ gs' ops,runT P (crowd gs w sl) 0 = (.next (crowd gs' { w with heap:=w.heap.push o } sl),ops) ∧ cx P Shun (t ++ ops) gs' q g' { v with heap:=v.heap.push o } { w with heap:=w.heap.push o } ∧ ∀ a:Addr,a.block = v.heap.size→j4 (t ++ ops) (.cell a):=by
  obtain ⟨htn,hbs⟩:=m9 (v:=v) (w:=w) (pm:=fun _=>False) (o:=o) h1 h2
  replace hbs:=hbs h.msk
  have hp:Priv P true (fun _=>False) 0 g v w g' { v with heap:=v.heap.push o }:=⟨_,#[],hst w h.msk.size,htn,hbs,by simp⟩
  obtain ⟨gs',w',ops,h3,h4,h5⟩:=h.priv (sl:=sl) al hp
  have h6:=runT_crowd_go (P:=P) (sl:=sl) (i:=0) h.at0 (show stepG P (0 == 0) ga w = _ from (al.step w).trans (hst w h.msk.size))
  rw [h3] at h6
  have e1:=congrArg Prod.snd h6
  have e2:=congrArg Prod.fst h6
  simp only [Stepped.next.injEq] at e2
  have e3:w' = { w with heap:=w.heap.push o }:=congrArg Machine.world e2
  subst e3
  have e4:ops = #[]:=e1.trans (by simp [MemOp.ofEvents])
  subst e4
  refine ⟨gs',_,h3,h5,fun a ha=>?_⟩
  rw [Array.append_empty]
  exact past_fresh h.past (by rw [ha,h.msk.size]; exact Nat.le_refl _)
theorem cx.mask (h:cx P Shun t gs q g v w) {u:World} (k:aX bO u v) (nu:bC u) (hsl:∀ (b k:Nat) z,u.heap[b]? ≠ some (slot k z)):cx P Shun t gs q g (gZ u w) w:=by
  have hs:=h.msk.size
  have hk:=k.size
  have gsz:(gZ u w).heap.size = w.heap.size:=by simp [gZ]; omega
  have hg:=eA u w
  have get:∀ b o,(gZ u w).heap[b]? = some o→(v.heap[b]? = some o) ∨ o = dummy:=fun b o ho=>by
    by_cases hb:b < u.heap.size
    · rw [hg.old b hb] at ho
      exact .inl ((k.block b hb id).trans ho)
    · rw [hg.new b (by omega) (aS ho)] at ho
      exact .inr (Option.some.inj ho).symm
  refine ⟨h.at0,h.leave,h.past,h.few,h.norel,hg.nv nu,⟨gsz.symm,h.msk.tape.trans k.tape,rfl,h.msk.os.trans k.os,h.msk.output.trans k.output,fun b hv=>?_,fun b j z hz=>?_⟩,fun l hl=>?_,fun b j z hz=>?_,h.kept⟩
  · by_cases hb:b < u.heap.size
    · have e:=(hg.old b hb).trans (k.block b hb id).symm
      rw [e]
      exact h.msk.vis b fun o ho=>hv o (e.trans ho)
    · by_cases hb2:b < w.heap.size
      · exact absurd (hv dummy (hg.new b (by omega) (by omega))) (by simp [isP,dummy])
      · rw [Array.getElem?_eq_none (by omega),Array.getElem?_eq_none (by omega)]
  · rcases get b _ hz with h1 | h1
    · exact absurd h1 (h.gK b j z)
    · simp [slot,dummy] at h1
  · obtain ⟨a,o,h1,h2,h3⟩:=h.hid l hl
    by_cases hb:a.block < u.heap.size
    · exact ⟨a,o,h1,by rw [hg.old _ hb,← k.block _ hb id]; exact h2,h3⟩
    · exact ⟨a,dummy,h1,hg.new _ (by omega) (by rw [gsz,hs]; exact aS h2),rfl⟩
  · rcases get b _ hz with h1 | h1
    · exact h.gK b j z h1
    · simp [slot,dummy] at h1
end
end Go.Gx
