/- Part. -/
import Derived.Conc.Beside
import Derived.Test.YtgnmiaonbadbnaaGreatH1
import Derived.Conc.CrowdRun
import Derived.Conc.WgGenN3
import Derived.Test.YtgnmiaonbadbnaaGreatH2
import Derived.Test.YtgnmiaonbadbnaaGreatH3
import Derived.Room.Entries
import Derived.Laws.LoneSync
import Derived.Test.YtgnmiaonbadbnaaGreatChecked
import Derived.Conc.LeavingOf
import Derived.WalkKit
import Derived.ProofKit
import Derived.OpenShut
import Derived.ShutString
import Derived.ChangeOld
import Derived.Below
import Derived.SizedLaws
import Derived.JoinedCond
import Derived.Test.YtgnmiaonbadbnaaGreatRows
set_option linter.unusedVariables false
set_option linter.defProp false
set_option linter.unusedSimpArgs false
set_option linter.unusedSectionVars false
set_option maxRecDepth 100000
set_option maxHeartbeats 2000000
namespace Go.Gx
open Go Go.Conc Go.ConcN
variable {j base k i b d gn n d0 Wg C rem:Nat} {u v w w' u' v' ux ux' w1:World} {t:Trace} {g g' ga:Goroutine} {l l' rest:List Nat} {Shun:Loc->Prop} {a:Addr} {P:Program} {q ow ow':Nat->Nat} {x fv tv z:Value} {o:Obj} {e:Event} {fn:FuncId} {M:Nat->Prop} {sl0 sl1:Option (Nat × Nat)} {K:Ctx} {T Fin:Goroutine->World->Prop} {X:Ext} {bl:Bool} {α:Type} {ty:TypeId} {es:Array Event} {st' sm':Int} {L:List du} {ops:Array Oper} {args:Array Value} {af:Array Edge} {qJ:Array TypeId}
structure Pl where
 Sh:Loc->Prop
 Own:Nat->Loc->Prop
 Rd:Nat->Loc->Prop
 Fr:Loc->Prop
 Mn:Loc->Prop
 At:Loc->Prop
structure Pl.OK (p:Pl) (j:Nat):Prop where
 own:∀ k k' l,k < j->k' < j->p.Own k l->p.Own k' l->k = k'
 ownRd:∀ k k' l,k < j->k' < j->p.Own k l->¬ p.Rd k' l
 ak3:∀ k l,k < j->p.Own k l->¬ p.Mn l
 ak4:∀ k l,k < j->p.Own k l->¬ p.Fr l
 amN:∀ k l,k < j->p.Rd k l->¬ p.Fr l
 ownSh:∀ k l,k < j->p.Own k l->¬ p.Sh l
 rdSh:∀ k l,k < j->p.Rd k l->¬ p.Sh l
 ao9:∀ l,p.Fr l->¬ p.Sh l
 anm:∀ l,p.Mn l->¬ p.Sh l
 apq:∀ l,p.At l->¬ p.Sh l
 ak5:∀ k l,k < j->p.Own k l->¬ p.At l
 amO:∀ k l,k < j->p.Rd k l->¬ p.At l
 ann:∀ l,p.Mn l->¬ p.At l
 apa:∀ l,p.Fr l->¬ p.At l
def Pl.Ok0 (p:Pl) (op:MemOp):Prop:=op.g = 0 /\ ∀ x,op.act.touch? = some x->(p.Sh x.loc /\ x.kind ≠ .plain) \/ (p.Mn x.loc /\ (x.write = true->p.Fr x.loc))
def Pl.OkW (p:Pl) (base k:Nat) (op:MemOp):Prop:=op.g = base + k /\ ∀ x,op.act.touch? = some x->(p.Sh x.loc /\ x.kind ≠ .plain /\ x.kind ≠ .said) \/ (p.Own k x.loc /\ x.kind ≠ .said) \/ (p.Rd k x.loc /\ x.write = false /\ x.kind ≠ .said) \/ (p.At x.loc /\ x.kind = .atomic)
def Still (u:Trace):Prop:=∀ op ∈ u,op.act ≠ .mark .disable /\ op.act ≠ .mark .enable
def aac (t:Trace) (g:Nat) (l:Loc):Prop:=∀ i a,touchAt t i = some a->a.loc = l->a.kind ≠ .atomic->Knows t g i
structure CTP (p:Pl) (base:Nat) (Shun:Loc->Prop) (B j:Nat) (t:Trace):Prop where
 pos:0 < base
 quiet:Quiet p.Sh t
 own:∀ k,k < j->∀ l,p.Own k l->Perm t (base + k) l
 rd:∀ k,k < j->∀ l,p.Rd k l->PermW t (base + k) l
 free:∀ l,p.Fr l->Perm t 0 l
 mine:∀ l,p.Mn l->PermW t 0 l
 nr:∀ said,¬ Race said t
 gs:∀ (i:Nat) (op:MemOp),t[i]? = some op->op.g < base + j
 old:∀ i a g,t.g? i = some g->g < base->touchAt t i = some a->a.loc.isMemory = true->Knows t 0 i \/ (Shun a.loc /\ a.kind = .atomic)
 atm:∀ i a g,t.g? i = some g->base <= g->touchAt t i = some a->a.kind = .atomic->p.Sh a.loc \/ t.heard i
 said:∀ i a g,t.g? i = some g->base <= g->touchAt t i = some a->a.kind ≠ .said
 over:∀ i g,t.g? i = some g->g ≠ 0->g < base->t.counts i->∃ q,t.g? q = some 0 /\ HappensBefore t i q
 seen:∀ op ∈ t,op.act.low B
 ata:∀ k,k < j->∀ l,p.At l->aac t (base + k) l
 QN:∀ l,p.At l->aac t 0 l
variable {gs:Array Goroutine}
section
variable {p:Pl} {B:Nat} {u:Trace}
theorem g?_of {op:MemOp} (h:t[i]? = some op):t.g? i = some op.g:=by simp [Trace.g?,h]
def Ot (t:Trace) (l:Loc):Prop:=∀ i a,touchAt t i = some a->a.loc ≠ l
end
def vN (v:World) (l:Loc):Prop:=∃ a o,l = .cell a /\ v.heap[a.block]? = some o /\ pL o = true /\ ∀ x,¬ Ro o a.off x
theorem vN.mk0 {c:Array Value} (h:v.heap[a.block]? = some (.pending c 0)):vN v (.cell a):=⟨a,_,rfl,h,rfl,λ_=>kW⟩
class wT where
 W0:World
 B:Nat->Prop
variable {B:Nat}
def DN [wT] (Shun:Loc->Prop) (w:World):Prop:=∀ b,wT.B b->Shun (.cell ⟨b,0,none⟩) /\ w.heap[b]? = wT.W0.heap[b]?
theorem DN.step [wT] (h:DN Shun w) (k:∀ b,Shun (.cell ⟨b,0,none⟩)->w'.heap[b]? = w.heap[b]?):DN Shun w':=λb hb=>⟨(h b hb).1,(k b (h b hb).1).trans (h b hb).2⟩
theorem HO (h:∀ l,Shun l->vN u l) (k:Beside u w u' w'):∀ b,Shun (.cell ⟨b,0,none⟩)->w'.heap[b]? = w.heap[b]?:=λb hb=>by
 have⟨a,o,h1,h2,h3,_⟩:=h _ hb;cases h1;exact k.nE _ o h2 h3
theorem Ri (v:World) (b:Nat):ny v b \/ (∃ o,v.heap[b]? = some o /\ pL o = true) \/ ∃ k x,v.heap[b]? = some (slot k x):=by
 cases ho:v.heap[b]? with
 | none=>exact .inl λo h=>by grind
 | some o =>
   cases hp:u9 o with
   | false=>exact .inl λo' h=>by grind
   | true =>
     cases hh:pL o with
     | true=>grind
     | false =>
       refine .inr (.inr ?_);cases o with
       | pending c n =>
         simp only [pL,iJ,bne_eq_false_iff_eq] at hh;have⟨h1,h2⟩:=hh;obtain⟨x,hx⟩:∃ x,c = #[x]:=by
          have⟨l⟩:=c
          match l,h2 with
          | [x],_=>simp
         subst hx;cases n with
         | zero=>grind
         | succ n=>exact ⟨n,x,rfl⟩
       | _=>trivial
def Hg (v:World):Prop:=∀ (b k:Nat) o z,v.heap[b]? = some o->¬ Ro o k z
theorem Hg.uf {pm:Nat->Prop} (h:Hg v) (t:oS pm v v'):Hg v':=λb k o z ho hr=>by
 have hP:=jH hr.pL
 by_cases hlt:b < v.heap.size
 ·rcases Ri v b with h1 | ⟨o',h1,h2⟩ | ⟨k',z',h1⟩
  ·have:=t.iL b h1 _ ho
   grind
  ·rw [t.nE b o' h1 h2] at ho;rw [<- ak ho] at hr;exact h b k o' z h1 hr
  ·have⟨y,hy⟩:=t.sl b k' z' h1;rw [hy] at ho;have:=hr.pL;rw [<- ak ho] at this;cases this
 ·have:=t.fresh b _ (by omega) ho
  grind
structure Alike (P:Program) (g g':Goroutine):Prop where
 st:g.status = g'.status
 step:∀ w,stepG P true g w = stepG P true g' w
theorem Alike.refl (P:Program) (g:Goroutine):Alike P g g:=⟨rfl,λ_=>rfl⟩
structure fC [wT] (P:Program) (Shun:Loc->Prop) (t:Trace) (gs:Array Goroutine) (q:Nat->Nat) (g:Goroutine) (v w:World):Prop where
 QN:gs[0]? = some g
 leave:Leavers P t gs q
 past:Past Shun w.heap.size t
 xQ:∀ (i:Nat) op,t[i]? = some op->op.g < gs.size
 norel:∀ a,NoRelease a t
 nv:cI v
 gy:vk v w
 nE:∀ l,Shun l->vN v l
 me:∀ (b k:Nat) z,v.heap[b]? ≠ some (slot k z)
 Af:Hg v
 kept:DN Shun w
theorem df.at (v:World) (d:Nat):df v (v.at d):=⟨rfl,rfl,rfl,aA _,λ_ _=>rfl,λi h1 h2=>by have h3:i < v.heap.size:=h2; omega⟩
theorem vk.at {v w:World} (m:vk v w) (d:Nat):vk (v.at d) (w.at d):=⟨m.size,m.tape,rfl,m.os,m.output,m.iL,m.slot,m.ro⟩
theorem vN.uf {pm:Nat->Prop} {l:Loc} (h:vN v l) (t:oS pm v v'):vN v' l:=by
 have⟨a,o,h1,h2,h3,h4⟩:=h;exact ⟨a,o,h1,t.nE _ _ h2 h3,h3,h4⟩
theorem vN.W4 (h:vN v (.cell a)):¬ ny v a.block:=by
 have⟨a',o,h1,h2,h3,_⟩:=h;cases h1;intro hv;have:=hv o h2;rw [jH h3] at this
 grind
theorem vN.Sx (h:vN v (.cell a)):v.heap[a.block]? ≠ some (slot a.off x):=by
 have⟨a',o,h1,h2,h3,_⟩:=h;cases h1;rw [h2];intro e;rw [ak e] at h3
 trivial
theorem vN.abl (h:vN v (.cell a)) (h':v.heap[a.block]? = some o):¬ Ro o a.off x:=by
 have⟨a',o',h1,h2,_,h4⟩:=h
 grind
section
variable {P:Program} {Shun:Loc->Prop} {t:Trace} {gs:Array Goroutine} {q:Nat->Nat} {g:Goroutine} {v w:World} {sl:Option (Nat × Nat)}
theorem yw {pm:Nat->Prop} {fr:Nat} (h:EvS pm fr v e) (nE:∀ l,Shun l->vN v l):EvL Shun v.heap.size e:=by
 rcases h with ⟨a,h1,h2,h3,h4⟩ | ⟨r,h1,h2,h3,h4,h5⟩ | ⟨m,hm,rfl⟩
 ·have⟨loc,wr,sy⟩:=e;subst h1;refine ⟨λx hx hs=>?_,by simp,by simp,by assumption⟩;simp only [ofEvent_cell0,MemAct.touch?,br] at hx;subst hx
  rcases h4 with ⟨hv,_⟩ | ⟨_,⟨x,hx⟩,_⟩ | ⟨_,_,o,x,hx,hr⟩
  ·exact absurd hv (nE _ hs).W4
  ·exact absurd hx (nE _ hs).Sx
  ·exact absurd hr ((nE _ hs).abl hx)
 ·have⟨loc,wr,sy⟩:=e;subst h1 h4;refine ⟨λx hx hs=>?_,by simp,by simp,?_⟩
  ·have⟨a,o,h,_⟩:=nE _ hs;exfalso;simp only [MemAct.ofEvent] at hx;cases wr <;> simp only [MemAct.touch?,br] at hx <;> (subst hx; simp at h)
  ·cases wr <;> exact h2
 ·refine ⟨λx hx=>?_,?_,?_,?_⟩
  ·rcases hm with rfl | ⟨f,rfl⟩ <;> simp [MemAct.ofEvent,MemAct.touch?] at hx
  ·grind
  ·grind
  ·rcases hm with rfl | ⟨f,rfl⟩ <;> trivial
theorem yH {pm:Nat->Prop} {fr:Nat} (h:EvS pm fr v e) (a:Addr):MemAct.ofEvent e ≠ .mark (.release a):=by
 rcases h with ⟨b,h1,h2,h3,h4⟩ | ⟨r,h1,h2,h3,h4,h5⟩ | ⟨m,hm,rfl⟩
 ·have⟨loc,wr,sy⟩:=e
  grind [ofEvent_cell0]
 ·have⟨loc,wr,sy⟩:=e
  grind [MemAct.ofEvent]
 grind [MemAct.ofEvent]
theorem r8 {u:Array Event} {pos:String} (h:NoRelease a t) (hu:∀ e ∈ u,MemAct.ofEvent e ≠ .mark (.release a)):NoRelease a (t ++ MemOp.ofEvents gn fn pos u) :=
 h.app λop g9=>by
  obtain⟨e,he,rfl⟩:=Conc.mem_ofEvents g9
  grind
theorem NZ {u:Array Event} {pos:String} (h:∀ (i:Nat) op,t[i]? = some op->op.g < n) (hg:gn < n):∀ (i:Nat) op,(t ++ MemOp.ofEvents gn fn pos u)[i]? = some op->op.g < n:=λi op hi=>by
 rcases dx hi with ⟨_,hi'⟩ | ⟨_,hiu⟩
 ·grind
 ·obtain⟨e,_,rfl⟩:=Conc.mem_ofEvents hiu;exact hg
theorem CQ (h:e.mute = true) (a:Addr):MemAct.ofEvent e ≠ .mark (.release a):=by
 have⟨loc,wr,sy⟩:=e;cases loc <;> simp_all [Event.mute]
 grind [MemAct.ofEvent]
variable [wT]
theorem fC.at (h:fC P Shun t gs q g v w) (d:Nat):fC P Shun t gs q g (v.at d) (w.at d) :=
 ⟨h.QN,h.leave,h.past,h.xQ,h.norel,h.nv,h.gy.at d,h.nE,h.me,h.Af,h.kept.step λ_ _=>rfl⟩
theorem fC.slip (h:fC P Shun t gs q g v w) (hr:g.status = .running) {i k:Nat} {x:Goroutine} (hi:gs[i]? = some x) (hpos:0 < i) (hx:x.status = .running) :
 ∃ k yn t' ,q i = k + 1 /\ runT P (crowd gs w sl) i = (.next (crowd yn w sl),t') /\ yn.size = gs.size /\ fC P Shun (t ++ t') yn (upd q i k) g v w:=by
 have hq:=h.leave.old i x hpos hi;have hi0:(i == 0) = false:=by simp; omega
 have hlt:i < gs.size:=by grind
 cases hqi:q i with
 | zero=>rw [hqi] at hq; rw [hq.1] at hx; cases hx
 | succ k =>
   rw [hqi] at hq
   rcases hq with ⟨hf,_⟩ | ⟨_,g',es,hm,Tb,hq'⟩
   ·grind
   have Td:=runT_crowd_go (P:=P) (sl:=sl) (i:=i) hi (by rw [hi0]; exact Tb w);have hne:i ≠ 0:=by omega
   refine ⟨k,_,_,rfl,Td,by simp,⟨?_,⟨λj y hj hy=>?_,λj hj=>?_⟩,h.past.mute (by omega) hm,?_,λa=>r8 (h.norel a) λe he=>CQ (hm e he) a,h.nv,h.gy,h.nE,h.me,h.Af,h.kept⟩⟩
   ·rw [bL hne,fE,h.QN];simp [woken_run hr]
   ·by_cases hji:i = j
    ·grind [upd_same,Deaf_own]
    ·rw [bL hji,fE] at hy;obtain⟨z,hz,rfl⟩:=cd.1 hy;have hqj:=h.leave.old j z hj hz;rw [woken_quitsD hqj,upd_ne q k (cN hji),Deaf_other t hji _ (λop g9=>by obtain⟨e,_,rfl⟩:=Conc.mem_ofEvents g9; rfl)];omega
   ·rw [Deaf_other t (g':=i) (by simp at hj; omega) _ (λop g9=>by obtain⟨e,_,rfl⟩:=Conc.mem_ofEvents g9; rfl)];exact h.leave.above j (by grind)
   ·rw [show ((gs.map (woken P x g' w)).setIfInBounds i g').size = gs.size by simp];exact NZ h.xQ hlt
theorem fC.awake (h:fC P Shun t gs q g v w) (hr:g.status = .running):∀ x ∈ gs,awake x:=by
 intro x hx;obtain⟨i,hi,rfl⟩:=Array.mem_iff_getElem.1 hx
 rcases ji i with rfl | hpos
 ·have:gs[0] = g:=by simpa [aX hi] using h.QN
  grind [awake_of]
 ·exact awake_of ((h.leave.old i _ hpos (aX hi)).status.elim .inl λx=>.inr (.inr x))
theorem fC.uf (hr:g.status = .running):∀ (M:Nat) (gs:Array Goroutine) (q:Nat->Nat) (t:Trace) (v w:World) (sl:Option (Nat × Nat)),sumTo gs.size q <= M->fC P Shun t gs q g v w ->
 ∃ (N:Nat) (yn:Array Goroutine) (q':Nat->Nat) (t':Trace) (d:Nat) (sl0 OQ:Option (Nat × Nat)) (d0:Nat),runNT P N (crowd gs w sl) t = (.next (crowd yn (w.at d0) sl0),t') ∧
   stepT P (crowd yn (w.at d0) sl0) = runT P (crowd yn (w.at d) OQ) 0 /\ fC P Shun t' yn q' g (v.at d) (w.at d):=by
 intro M
 induction M with
 | zero =>
   intro gs q t v w sl hM h;have⟨i,x,d,OQ,hi,hx,hst⟩:=crowd_pick (P:=P) (w:=w) (sl:=sl) (h.awake hr) ⟨0,g,h.QN,hr⟩
   rcases ji i with rfl | hpos
   ·exact ⟨0,gs,q,t,d,sl,OQ,w.drawn,rfl,hst,h.at d⟩
   ·have⟨k,yn,t',hk,_⟩:=(h.at d).slip (sl:=OQ) (k:=0) hr hi hpos hx
    grind [le_sumTo]
 | succ M ih =>
   intro gs q t v w sl hM h;have⟨i,x,d,OQ,hi,hx,hst⟩:=crowd_pick (P:=P) (w:=w) (sl:=sl) (h.awake hr) ⟨0,g,h.QN,hr⟩
   rcases ji i with rfl | hpos
   ·exact ⟨0,gs,q,t,d,sl,OQ,w.drawn,rfl,hst,h.at d⟩
   ·have⟨k,yn,t',hk,hrun,hsz,h'⟩:=(h.at d).slip (sl:=OQ) (k:=0) hr hi hpos hx;have hlt:=(bP.1 hi).1;have hsum:sumTo gs.size (upd q i k) + (k + 1) = sumTo gs.size q + k:=by
     have:=sumTo_upd q k id hlt
     simpa [hk] using this
    have⟨N,gs2,q2,t2,d2,sl2,RD,d3,h1,h2,h3⟩:=ih yn (upd q i k) (t ++ t') (v.at d) (w.at d) OQ (by grind) h';exact ⟨N + 1,gs2,q2,t2,d2,sl2,RD,d3,by simp only [runNT,hst,hrun]; exact h1,h2,h3⟩
theorem fC.afd {pm:Nat->Prop} {fr:Nat} (h:fC P Shun t gs q ga v w) (al:Alike P ga g) (hp:Bt P true pm fr g v w g' v') :
 ∃ yn w' ops,runT P (crowd gs w sl) 0 = (.next (crowd yn w' sl),ops) /\ yn.size = gs.size /\ fC P Shun (t ++ ops) yn q g' v' w':=by
 have⟨w',es,hst,Ta,hb,Ed⟩:=hp;have Td:=runT_crowd_go (P:=P) (sl:=sl) (i:=0) h.QN (show stepG P (0 == 0) ga w = _ from (al.step w).trans hst);have hlt:0 < gs.size:=(bP.1 h.QN).1;have hsz:w.heap.size <= w'.heap.size:=by rw [h.gy.size,hb.gy.size]; exact Ta.size
 have hid':∀ l,Shun l->vN v' l:=λl hl=>(h.nE l hl).uf Ta
 refine ⟨_,w',_,Td,by simp,⟨by grind,⟨λj x hj hx=>?_,λj hj=>?_⟩,(h.past.mono hsz).own λe he=>?_,?_,λa=>r8 (h.norel a) λe he=>yH (Ed e he) a,Ta.nv h.nv,hb.gy,hid',λb k z hz=>?_,h.Af.uf Ta,h.kept.step (HO h.nE hb)⟩⟩
 ·have hne:0 ≠ j:=by omega
  rw [bL hne,fE] at hx;obtain⟨y,hy,rfl⟩:=cd.1 hx;have hq:=h.leave.old j y hj hy;rw [woken_quitsD hq,Deaf_other t (by omega) _ (λop g9=>by obtain⟨e,_,rfl⟩:=Conc.mem_ofEvents g9; rfl)];exact hq
 ·rw [Deaf_other t (g':=0) (by simp at hj; omega) _ (λop g9=>by obtain⟨e,_,rfl⟩:=Conc.mem_ofEvents g9; rfl)];exact h.leave.above j (by grind)
 ·rw [hb.gy.size]
  grind [yw]
 ·rw [show ((gs.map (woken P ga g' w')).setIfInBounds 0 g').size = gs.size by simp];exact NZ h.xQ hlt
 ·by_cases hlt:b < v.heap.size
  ·rcases Ri v b with h1 | ⟨o,h1,h2⟩ | ⟨k',z',h1⟩
   ·have:=Ta.iL b h1 _ hz
    trivial
   ·rw [Ta.nE b o h1 h2] at hz;rw [ak hz] at h2
    trivial
   ·exact h.me _ _ _ h1
  ·have:=Ta.fresh b _ (by omega) hz
   trivial
theorem runNT_then {P:Program} {m m':Machine} {t t':Trace} {N:Nat} (h:runNT P N m t = (.next m',t')) {K:Nat} {r:Stepped × Trace} (h':runNT P K m' t' = r):runNT P (N + K) m t = r:=by
 rw [runNT_add,h]; exact h'
def Comes (P:Program) (m:Machine) (t:Trace) (T:Goroutine->World->Prop):Prop :=
 ∃ (N:Nat) (yn:Array Goroutine) (w':World) (OQ:Option (Nat × Nat)) (t':Trace) (q':Nat->Nat) (UZ:Loc->Prop) (ga g':Goroutine) (v' u':World),
   runNT P N m t = (.next (crowd yn w' OQ),t') /\ T g' v' /\ df v' u' /\ Alike P ga g' /\ fC P UZ t' yn q' ga u' w'
def yI (P:Program) (gs:Array Goroutine) (w:World) (d0:Nat) (sl0 sl1:Option (Nat × Nat)):Prop:=stepT P (crowd gs (w.at d0) sl0) = runT P (crowd gs w sl1) 0
section
variable {X:Ext} {pm:Nat->Prop} {fr:Nat} {T:Goroutine->World->Prop}
theorem AT (ym:∀ v w,X.fits v w) (IM:∀ g,¬ X.blk g)
 (A0:∀ (gs:Array Goroutine) (q:Nat->Nat) (t:Trace) (Shun:Loc->Prop) (d0:Nat) (sl0 sl1:Option (Nat × Nat)) (ga g:Goroutine) (u w:World) (S:Goroutine->World->Prop),X.kind true g u w S->Alike P ga g->fC P Shun t gs q ga u w->yI P gs w d0 sl0 sl1 ->
  Comes P (crowd gs (w.at d0) sl0) t S)
 {g:Goroutine} {v:World} {f:World->World->Goroutine->World->Prop} (hb:bl = true->X.blk g)
 (h:∀ v1 w,On X v v1 w->(bl = true->X.up w)->(∃ g' v',Bt P true pm fr g v1 w g' v' /\ f v1 w g' v') \/ X.kind true g v1 w (f v1 w))
 (ih:∀ v1 w,On X v v1 w->(bl = true->X.up w)->∀ g' v',f v1 w g' v'->∀ (gs:Array Goroutine) (q:Nat->Nat) (t:Trace) (Shun:Loc->Prop) (sl:Option (Nat × Nat)) (ga:Goroutine) (u w2:World),df v' u->Alike P ga g'->fC P Shun t gs q ga u w2->Comes P (crowd gs w2 sl) t T)
 {gs:Array Goroutine} {q:Nat->Nat} {t:Trace} {Shun:Loc->Prop} {w:World} (hg:df v u) (al:Alike P ga g) (hB:fC P Shun t gs q ga u w) (hp:yI P gs w d0 sl0 sl1) :
 Comes P (crowd gs (w.at d0) sl0) t T:=by
 have hbl:bl = false:=by
  cases bl with
  | false=>rfl
  | true=>exact absurd (hb rfl) (IM g)
 have m:On X v u w:=⟨hg,hB.nv,hB.gy,ym _ _⟩;have up:bl = true->X.up w:=by grind
 rcases h _ _ m up with ⟨g',v',hpr,hf⟩ | hk
 ·have⟨gs2,w2,ops,h3,_,QL⟩:=hB.afd (sl:=sl1) al hpr;have⟨K,gs3,w3,RD,t3,q3,Sh3,ga3,g3,v3,u3,h4,h5⟩:=ih _ _ m up _ _ hf gs2 q (t ++ ops) Shun sl1 _ _ w2 (.refl _) (.refl P _) QL;exact ⟨K + 1,gs3,w3,RD,t3,q3,Sh3,ga3,g3,v3,u3,by simp only [runNT,show stepT P (crowd gs (w.at d0) sl0) = _ from hp,h3]; exact h4,h5⟩
 ·have⟨K,gs3,w3,RD,t3,q3,Sh3,ga3,g3,v3,u3,h4,hS,h6,h7,h8⟩:=A0 gs q t Shun d0 sl0 sl1 ga g _ _ _ hk al hB hp;have⟨K2,gs4,w4,sl4,t4,q4,Sh4,ga4,g4,v4,u4,k4,k5⟩:=ih _ _ m up _ _ hS gs3 q3 t3 Sh3 RD ga3 u3 w3 h6 h7 h8;exact ⟨K + K2,gs4,w4,sl4,t4,q4,Sh4,ga4,g4,v4,u4,runNT_then h4 k4,k5⟩
theorem yd (ym:∀ v w,X.fits v w) (IM:∀ g,¬ X.blk g)
 (A0:∀ (gs:Array Goroutine) (q:Nat->Nat) (t:Trace) (Shun:Loc->Prop) (d0:Nat) (sl0 sl1:Option (Nat × Nat)) (ga g:Goroutine) (u w:World) (S:Goroutine->World->Prop),X.kind true g u w S->Alike P ga g->fC P Shun t gs q ga u w->yI P gs w d0 sl0 sl1 ->
  Comes P (crowd gs (w.at d0) sl0) t S)
 {g:Goroutine} {v:World} (h:eB X P true pm fr T g v):∀ (gs:Array Goroutine) (q:Nat->Nat) (t:Trace) (Shun:Loc->Prop) (sl:Option (Nat × Nat)) (ga:Goroutine) (u w:World),df v u->Alike P ga g->fC P Shun t gs q ga u w ->
  Comes P (crowd gs w sl) t T:=by
 induction h with
 | stop h=>exact λgs q t Shun sl ga u w hg al hB=>⟨0,gs,w,sl,t,q,Shun,ga,_,_,u,rfl,h,hg,al,hB⟩
 | step hr bl hb f h _ ih =>
   intro gs q t Shun sl ga u w hg al hB;have⟨N,gs1,q1,t1,d,sl0,sl1,d0,h1,h2,Vy⟩:=fC.uf (al.st.trans hr) _ gs q t u w sl (aA _) hB;have⟨K,gs3,w3,RD,t3,q3,Sh3,ga3,g3,v3,u3,h4,h5⟩:=AT (d0:=d0) (sl0:=sl0) (sl1:=sl1) ym IM A0 hb h ih (hg.trans (df.at u d)) al Vy h2;exact ⟨N + K,gs3,w3,RD,t3,q3,Sh3,ga3,g3,v3,u3,runNT_then h1 h4,h5⟩
theorem KD (ym:∀ v w,X.fits v w) (IM:∀ g,¬ X.blk g)
 (A0:∀ (gs:Array Goroutine) (q:Nat->Nat) (t:Trace) (Shun:Loc->Prop) (d0:Nat) (sl0 sl1:Option (Nat × Nat)) (ga g:Goroutine) (u w:World) (S:Goroutine->World->Prop),X.kind true g u w S->Alike P ga g->fC P Shun t gs q ga u w->yI P gs w d0 sl0 sl1 ->
  Comes P (crowd gs (w.at d0) sl0) t S)
 {g:Goroutine} {v:World} (h:eB X P true pm fr T g v) {gs:Array Goroutine} {q:Nat->Nat} {t:Trace} {Shun:Loc->Prop} {w:World} (hg:df v u) (al:Alike P ga g) (hB:fC P Shun t gs q ga u w) (hp:yI P gs w d0 sl0 sl1) :
 Comes P (crowd gs (w.at d0) sl0) t T:=by
 cases h with
 | stop h=>exact ⟨0,gs,w.at d0,sl0,t,q,Shun,ga,_,_,u.at d0,rfl,h,hg.trans (df.at u d0),al,hB.at d0⟩
 | step hr bl hb f h ih=>exact AT ym IM A0 hb h (λv1 w1 m up g' v' hf=>yd ym IM A0 (ih v1 w1 m up g' v' hf)) hg al hB hp
end
end
inductive Tr where
 | leaf
 | node (f:World->World->Goroutine->World->Tr)
def Tr.Sub (s t:Tr):Prop:=∃ f v w g v',t = .node f /\ s = f v w g v'
theorem Tr.wf:WellFounded Tr.Sub:=⟨λt=>by
 induction t with
 | leaf=>exact ⟨_,λs ⟨f,v,w,_,_,h,_⟩=>by cases h⟩
 | node f ih=>exact ⟨_,λs ⟨g,v,w,_,_,h,e⟩=>by simp_all⟩⟩
inductive RunT (X:Ext) (P:Program) (main:Bool) (pm:Nat->Prop) (fr:Nat) (T:Goroutine->World->Prop):Tr->Goroutine->World->Prop
 | stop {g:Goroutine} {v:World} (h:T g v):RunT X P main pm fr T .leaf g v
 | step {g:Goroutine} {v:World} (hr:g.status = .running) (bl:Bool) (hb:bl = true->X.blk g) (f:World->World->Goroutine->World->Prop) (t:World->World->Goroutine->World->Tr)
  (h:∀ v1 w,On X v v1 w->(bl = true->X.up w)->(∃ g' v',Bt P main pm fr g v1 w g' v' /\ f v1 w g' v') \/ X.kind main g v1 w (f v1 w))
  (ih:∀ v1 w,On X v v1 w->(bl = true->X.up w)->∀ g' v',f v1 w g' v'->RunT X P main pm fr T (t v1 w g' v') g' v'):RunT X P main pm fr T (.node t) g v
theorem eB.tree {main:Bool} {pm:Nat->Prop} {fr:Nat} (h:eB X P main pm fr T g v):∃ t,RunT X P main pm fr T t g v:=by
 classical
 induction h with
 | stop h=>exact ⟨_,.stop h⟩
 | step hr bl hb f h _ ih =>
   refine ⟨_,.step hr bl hb f (λv1 w g' v'=>if hg:On X _ v1 w /\ (bl = true->X.up w) /\ f v1 w g' v' then (ih v1 w hg.1 hg.2.1 g' v' hg.2.2).choose else .leaf) h λv1 w m u g' v' hf=>?_⟩
   grind
theorem RunT.cases {X:Ext} {P:Program} {main:Bool} {pm:Nat->Prop} {fr:Nat} {T:Goroutine->World->Prop} {t:Tr} {g:Goroutine} {v:World} (h:RunT X P main pm fr T t g v) :
 (t = .leaf /\ T g v) \/ (g.status = .running /\ t ≠ .leaf /\ ∃ bl:Bool,(bl = true->X.blk g) /\ ∀ v1 w,On X v v1 w->(bl = true->X.up w) ->
  (∃ g' v' t',Tr.Sub t' t /\ Bt P main pm fr g v1 w g' v' /\ RunT X P main pm fr T t' g' v') \/ X.kind main g v1 w (λg' v'=>∃ t',Tr.Sub t' t /\ RunT X P main pm fr T t' g' v')):=by
 cases h with
 | stop h=>grind
 | step hr bl hb f t h ih=>exact .inr ⟨hr,(λe=>by cases e),bl,hb,λv1 w m u=>(h v1 w m u).imp (λ⟨g',v',hp,hf⟩=>⟨g',v',_,⟨t,v1,w,g',v',rfl,rfl⟩,hp,ih v1 w m u _ _ hf⟩) (λhk=>X.mono hk λg' v' hf=>⟨_,⟨t,v1,w,g',v',rfl,rfl⟩,ih v1 w m u _ _ hf⟩)⟩
def hZ (u w':World):World:={ u with heap:=u.heap ++ Array.replicate (w'.heap.size - u.heap.size) dummy,drawn:=w'.drawn }
theorem gL (u w':World):df u (hZ u w'):=by
 refine ⟨rfl,rfl,rfl,by simp [hZ],λi hi=>?_,λi h1 h2=>?_⟩
 ·show (u.heap ++ _)[i]? = _
  grind
 grind [hZ]
theorem df.nv (g:df u u') (h:cI u):cI u':=λi o ho=>by
 by_cases hi:i < u.heap.size
 ·exact h i o (by rw [<- g.old i hi]; exact ho)
 ·rw [g.new i (by omega) (aG ho)] at ho;cases ho; rfl
theorem df.iL (g:df u u') (hb:b < u'.heap.size):ny u' b ↔ b < u.heap.size /\ ny u b:=by
 constructor
 ·intro h
  by_cases hi:b < u.heap.size
  ·exact ⟨hi,λo ho=>h o (by rw [g.old b hi]; exact ho)⟩
  ·have:=h _ (g.new b (by omega) hb)
   trivial
 ·rintro ⟨hi,h⟩ o ho;exact h o (by rw [<- g.old b hi]; exact ho)
theorem df.slot {u u':World} (g:df u u') {b k:Nat} {x:Value} (h:u'.heap[b]? = some (slot k x)):u.heap[b]? = some (slot k x):=by
 by_cases hi:b < u.heap.size
 ·rw [<- g.old b hi]; exact h
 ·rw [g.new b (by omega) (aG h)] at h;simp [Gx.slot,dummy] at h
theorem oS.VY {pm:Nat->Prop} (t:oS pm v v') (hb:b < v.heap.size):ny v' b ↔ ny v b:=by
 refine ⟨λh=>?_,t.iL b⟩
 rcases Ri v b with h1 | ⟨o,h1,h2⟩ | ⟨k,x,h1⟩
 ·exact h1
 ·have:=h o (t.nE b o h1 h2);rw [jH h2] at this; grind
 ·have⟨y,h2⟩:=t.sl b k x h1;have:=h _ h2
  trivial
theorem oS.RB {pm:Nat->Prop} (t:oS pm v v') (hb:b < v.heap.size) (h:v'.heap[b]? = some (slot k x)):∃ y,v.heap[b]? = some (slot k y):=by
 rcases Ri v b with h1 | ⟨o,h1,h2⟩ | ⟨k',x',h1⟩
 ·have:=t.iL b h1 _ h
  trivial
 ·rw [t.nE b o h1 h2] at h
  grind
 ·have⟨y,h2⟩:=t.sl b k' x' h1
  grind [yR,Option.some.inj]
theorem Pf {pm:Nat->Prop} {uy:World} (t:oS pm ux ux') (b:Beside ux w ux' w') (mx:vk ux w) (my:vk uy w)
 (sep:∀ i,i < w.heap.size->ny uy i->(∃ o,ux.heap[i]? = some o /\ pL o = true) \/ (ny ux i /\ ¬ pm i))
 (sl:∀ (i k:Nat) z,uy.heap[i]? = some (slot k z)->(∃ o,ux.heap[i]? = some o /\ pL o = true) \/ (∃ k' z',ux.heap[i]? = some (slot k' z') /\ k' ≠ k))
 (ro:∀ (i:Nat) o,uy.heap[i]? = some o->(∃ k z,Ro o k z)->∃ o',ux.heap[i]? = some o' /\ pL o' = true):vk (hZ uy w') w':=by
 have hsz:w.heap.size <= w'.heap.size:=by rw [mx.size,b.gy.size]; exact t.size
 have gsz:(hZ uy w').heap.size = w'.heap.size:=by
  have:=my.size;simp [hZ]; omega
 refine ⟨gsz.symm,b.tape.trans my.tape,rfl,b.os.trans my.os,b.output.trans my.output,λi hi=>?_,λi k z hz=>?_,λi k o z hz hr=>?_⟩
 ·by_cases hlt:i < w'.heap.size
  ·have⟨h1,h2⟩:=((gL uy w').iL (by omega)).1 hi;have h1':i < w.heap.size:=by rw [my.size]; exact h1
   rw [(gL uy w').old i h1,<- my.iL i h2]
   rcases sep i h1' h2 with ⟨o,h3,h4⟩ | ⟨h3,h4⟩
   ·exact b.nE i o h3 h4
   ·rw [b.gy.iL i (t.iL i h3),t.old i (by rw [<- mx.size]; exact h1') h4,mx.iL i h3]
  grind
 ·have hz':=(gL uy w').slot hz;have⟨c,e,h1,h2⟩:=my.slot i k z hz'
  rcases sl i k z hz' with ⟨o,h3,h4⟩ | ⟨k',z',h3,h4⟩
  ·exact ⟨c,e,(b.nE i o h3 h4).trans h1,h2⟩
  ·have⟨c',g1,g2,g3⟩:=b.sl i k' z' h3 c e _ h1
   grind
 ·have hlt:i < uy.heap.size:=nX λhge=>by
   rw [(gL uy w').new i hge (aG hz)] at hz;rw [<- ak hz] at hr;exact kW hr
  rw [(gL uy w').old i hlt] at hz;have⟨c,e,h1,h2⟩:=my.ro i k o z hz hr;have⟨o',h3,h4⟩:=ro i o hz ⟨k,z,hr⟩;exact ⟨c,e,(b.nE i o' h3 h4).trans h1,h2⟩
def NC (m:vk u w) (h1:w'.tape = w.tape) (h2:w'.os = w.os) (h3:w'.output = w.output) (h4:w'.heap.size = w.heap.size)
    (h5:∀ b:Nat,ny u b->w'.heap[b]? = w.heap[b]?) (hs:∀ (b k:Nat) z,u.heap[b]? = some (Gx.slot k z)->∃ (c:Array Value) (e:TypeId),w'.heap[b]? = some (.cells c e (0,0)) /\ c[k]? = some z)
    (hr:∀ (b k:Nat) o z,u.heap[b]? = some o->Ro o k z->∃ (c:Array Value) (e:TypeId),w'.heap[b]? = some (.cells c e (0,0)) /\ c[k]? = some z):vk (u.at w'.drawn) w' :=
 ⟨h4.trans m.size,h1.trans m.tape,rfl,h2.trans m.os,h3.trans m.output,λi hi=>(h5 i hi).trans (m.iL i hi),hs,hr⟩
inductive Bf {α:Type} (r:α->α->Prop):List α->List α->Prop
 | head {x y:α} {l:List α}:r x y->Bf r (x :: l) (y :: l)
 | tail {x:α} {l l':List α}:Bf r l l'->Bf r (x :: l) (x :: l')
theorem SW {r:α->α->Prop} (h:WellFounded r):WellFounded (Bf r):=by
 have key:∀ l:List α,Acc (Bf r) l:=by
  intro l
  induction l with
  | nil=>exact ⟨_,λy h=>by cases h⟩
  | cons x l ih =>
    induction ih generalizing x with
    | intro l _ ihl =>
      induction h.apply x with
      | intro x _ ihx =>
        refine ⟨_,λy hy=>?_⟩;cases hy with
        | head h1=>exact ihx _ h1
        | tail h1=>exact ihl _ h1 x
 exact ⟨key⟩
theorem y6 {α:Type} {r:α->α->Prop} {f f':Nat->α} {i:Nat}:∀ {n s:Nat},s <= i->i < s + n->r (f' i) (f i)->(∀ k,k ≠ i->f' k = f k)->Bf r ((List.range' s n).map f') ((List.range' s n).map f)
 | 0,s,h1,h2,_,_=>by omega
 | n + 1,s,h1,h2,h3,h4=>by
   simp only [nY,dq]
   rcases Nat.eq_or_lt_of_le h1 with rfl | hlt
   ·have e:(List.range' (s + 1) n).map f' = (List.range' (s + 1) n).map f:=List.map_congr_left λk hk=>h4 k (by have:=List.mem_range'.1 hk; omega)
    rw [e];exact .head h3
   ·rw [h4 s (by omega)];exact .tail (y6 (s:=s + 1) (by omega) (by omega) h3 h4)
open Go.ConcR (KK wgBlock WgAt stA smA rd wr mk Payload DC0 Bk g_of_ofEvents)
def X0:Ext:=⟨λ_ _=>True,λ_ _ _ _ _=>False,λ_=>False,λ_=>True,λh _=>h⟩
class Duo where
 C2:Nat
 R:Nat
 ty2:TypeId
 tyR:TypeId
 fv2:Value
 c0:List Value
 two:2 <= c0.length
 ini:List Nat
 J:Nat->(Nat->List Nat)->Prop
 Tr:List Nat->Nat->List Nat->Nat->Prop
 keep:∀ {σ γs i γ' σ'},J σ γs->Tr (γs i) σ γ' σ'->J σ' (upd γs i γ')
 U1:Nat->World->Prop
 post:∀ {i u u'},U1 i u->df u u'->U1 i u'
section
variable [Duo]
def wdA:Addr:=⟨Duo.R,Duo.c0.length,none⟩
def bT (l:List Nat):List Value:=l.map λn:Nat=>Value.int .i64 n
omit [Duo] in
theorem Ig {l l':List Nat} (h:bT l = bT l'):l = l' :=
 (List.map_inj_right (f:=λn:Nat=>Value.int .i64 n) (λa b e=>by
  grind)).1 h
def roB (γ:List Nat):Obj:=.pending (Duo.c0 ++ bT γ).toArray (Duo.c0.length + 1)
def GhR (u:World) (γ:List Nat):Prop:=u.heap[Duo.R]? = some (roB γ)
end
def gh (l:List Nat):Obj:=.pending (l.map λn:Nat=>Value.int .i64 n).toArray 0
theorem LB (l:List Nat):pL (gh l) = true:=rfl
theorem LA (h:gh l = gh l'):l = l':=by
 simp only [gh,Obj.pending.injEq,mW] at h;have h1:=aL Array.toList h
 grind [List.map_inj_right]
theorem sM (h:v.heap[b]? = some (gh l)) (h':v.heap[b]? = some (gh l')):l = l':=by grind [LA]
def dU (v:World) (b:Nat) (o:Obj):World:={ v with heap:=v.heap.setIfInBounds b o }
theorem eJ (h:b < v.heap.size):(dU v b o).heap[b]? = some o:=by simp [dU,h]
theorem eI (h:b ≠ i):(dU v b o).heap[i]? = v.heap[i]?:=by grind [dU]
theorem fN (v:World) (b:Nat) (o:Obj):(dU v b o).heap.size = v.heap.size:=by simp [dU]
theorem OX (h:df v u) (hb:b < v.heap.size):df (dU v b o) (dU u b o):=by
 have hb':b < u.heap.size:=aD hb h.size;refine ⟨h.tape,h.os,h.output,by simpa [dU] using h.size,λi hi=>?_,λi h1 h2=>?_⟩
 ·by_cases e:b = i
  ·grind [eJ]
  ·rw [eI e,eI e]; exact h.old i (by simpa [dU] using hi)
 ·have h1':v.heap.size <= i:=by simpa [dU] using h1
  rw [eI (by omega)];exact h.new i h1' (by simpa [dU] using h2)
theorem M7 (h:cI v) (ho:Eb o = false):cI (dU v b o):=λi x hx=>by
 by_cases e:b = i
 ·grind [eJ,dU]
 ·rw [eI e] at hx; exact h i x hx
def AtE [Duo] (e:Event):Prop:=(∃ wr,e = ⟨.cell wdA,wr,true⟩) \/ ∃ f,e = ⟨.mark (.extern f),false,true⟩
def KW [Duo] (P:Program) (m:Bool) (g:Goroutine) (v w:World) (S:Goroutine->World->Prop):Prop :=
 ∃ g' γ γ' σ σ' w' es,GhR v γ /\ stepG P m g w = .go g' w' es /\ g'.status = .running /\ (∀ e ∈ es,AtE e) /\ w.cell? wdA = some (.int .u64 (σ:Nat)) ∧
   Duo.Tr γ σ γ' σ' /\ ((w' = w /\ σ' = σ) \/ w' = w.setCell wdA (.int .u64 (σ':Nat))) /\ S g' (dU v Duo.R (roB γ'))
def akD [Duo] (i:Nat) (v w:World):Prop:=∃ γs σ,GhR v (γs i) /\ w.cell? wdA = some (.int .u64 (σ:Nat)) /\ Duo.J σ γs
def XW [Duo] (P:Program) (i:Nat):Ext:=⟨akD i,KW P,λ_=>False,λ_=>True,λ⟨g',γ,γ',σ,σ',w',es,h2,h3,h4,h5,h6,h7,h8,h9⟩ hS=>⟨g',γ,γ',σ,σ',w',es,h2,h3,h4,h5,h6,h7,h8,hS _ _ h9⟩⟩
section
variable [Payload] [Duo] (P:Program) (ty:TypeId) (Wg C n:Nat)
def Row (b:Nat):Prop:=b = C \/ b = Duo.C2
structure Ou (l:List Nat) (w:World):Prop where
 live:WgLive ty Wg w
 add:∀ r,l = [0,r,4]->∃ c:Nat,c < 2147483647 /\ WgAt ty Wg w (c * KK) 0
 anch:∀ b,l = [2,b]->∃ c:Nat,c <= b /\ c < 2147483648 /\ WgAt ty Wg w (c * KK) 0
 seen:∀ vs,l = [3,vs]->∃ c:Nat,c <= vs /\ c < 2147483648 /\ WgAt ty Wg w (c * KK) 0
 aiy:l = [5]->WgAt ty Wg w 0 0
inductive Rel (n:Nat):List Nat->List Nat->World->World->Array Event->Prop
 | Jj {r:Nat} {w:World}:Rel n [0,r,5] [0,r,4] w w #[mk .disable]
 | add {r c:Nat} {w:World}:WgAt ty Wg w (c * KK) 0->Rel n [0,r,4] [0,r,3] w (w.setCell (stA Wg) (.int .u64 (((c:Int) + 1) * KK))) #[rd (stA Wg),wr (stA Wg)]
 | said {l:List Nat} {w:World} {e:Event}:(e = ⟨.mark (.read (smA Wg)),false,true⟩ \/ e = ⟨.mark (.write (smA Wg)),false,true⟩)->Rel n l l w w #[e]
 | en {r:Nat} {w:World}:Rel n [0,r,3] [0,r,2] w w #[mk .enable]
 | aei {w:World}:Rel n [1] [2,n] w w #[mk .disable]
 | ld0 {b:Nat} {w:World}:WgAt ty Wg w 0 0->Rel n [2,b] [6] w w #[rd (stA Wg)]
 | ld {b c:Nat} {w:World}:WgAt ty Wg w (c * KK) 0->c ≠ 0->c <= b->Rel n [2,b] [3,c] w w #[rd (stA Wg)]
 | Xz {c:Nat} {w:World}:WgAt ty Wg w (c * KK) 0->Rel n [3,c] [4] w (w.setCell (stA Wg) (.int .u64 ((c:Int) * KK + 1))) #[rd (stA Wg),wr (stA Wg)]
 | afz {vs c:Nat} {w:World}:WgAt ty Wg w (c * KK) 0->c < vs->Rel n [3,vs] [2,vs - 1] w w #[rd (stA Wg)]
 | ld4 {w:World}:Rel n [5] [6] w w #[rd (stA Wg)]
 | enk {w:World}:Rel n [6] [7] w w #[mk .enable]
def KB (main:Bool) (g:Goroutine) (v w:World) (S:Goroutine->World->Prop):Prop :=
 main = true /\ ∃ g' l l' w' es,v.heap[Wg]? = some (gh l) /\ stepG P true g w = .go g' w' es /\ g'.status = .running /\ Rel ty Wg n l l' w w' es /\ S g' (dU v Wg (gh l'))
def Vf (g:Goroutine):Prop:=g.status = .running /\ g.offers = none /\ ∀ w,(∃ st,WgAt ty Wg w st 0)->stepG P true g w = .go { g with status:=.blocked } w #[]
def XB:Ext:=⟨λv w=>∃ l,v.heap[Wg]? = some (gh l) /\ Ou ty Wg l w,KB P ty Wg n,λ_=>False,λ_=>True,λ⟨h0,g',l,l',w',es,h1,h2,h3,h4,h5⟩ hS=>⟨h0,g',l,l',w',es,h1,h2,h3,h4,hS _ _ h5⟩⟩
def O0:Nat->Loc->Prop:=λ_ _=>False
def pmM (fr:Nat):Nat->Prop:=λb=>fr <= b
def pmW (s:Nat):Nat->Prop:=λb=>s <= b \/ Row C b \/ b = Duo.R
variable (fv tv:Value)
def agX (i:Nat) (fv:Value) (u:World):World:=dU (dU (dU u C (slot i fv)) Duo.C2 (slot i Duo.fv2)) Duo.R (roB Duo.ini)
def TW (i:Nat) (g:Goroutine) (v:World):Prop :=
 v.heap[C]? = some (slot i tv) /\ Duo.U1 i v /\ ∀ w,WgLive ty Wg w->Has C i tv w->Goes P false (RW ty Wg C n 0 (i + 1 - 1)) DC0 (AtR0 P ty Wg C n 0 (i + 1) tv) 23 g w
variable (Fin:Goroutine->World->Prop)
def sZ (g:Goroutine) (v:World):Prop:=g.status = .running /\ v.heap[Wg]? = some (gh [7]) /\ ∃ g',g'.status = .running /\ (∀ w,stepG P true g w = .go g' w #[mk (.acquire (stA Wg))]) /\ Fin g' v
def qR:Nat->List Nat
 | 0=>[1]
 | r + 1=>[0,r,5]
def TM:Nat->Nat->Goroutine->World->Prop
 | 0,_,g,v=>sZ P Wg Fin g v
 | 1,fr,g,v=>sZ P Wg Fin g v \/ (v.heap[Wg]? = some (gh [4]) /\ Vf P ty Wg g /\ ∃ g',g'.status = .running /\ (∀ w,WgAt ty Wg w 0 1->stepG P true g w = .go g' (w.setCell (smA Wg) (.int .u32 0)) (semEvents (smA Wg))) ∧
  (∀ u,df v u->cI u->eB (XB P ty Wg n) P true (pmM fr) fr (TM 0 fr) g' (dU u Wg (gh [5]))))
 | r + 2,_,g,v=>g.status = .running /\ v.heap[Wg]? = some (gh [0,r,2]) /\ ∃ g' child,g'.status = .running /\ child.status = .running ∧
     (∀ u w,df v u->cI u->vk u w->stepG P true g w = .spawn g' child w #[]) ∧
     (∀ u,df v u->cI u->eB (XW P (n - (r + 1))) P false (pmW C u.heap.size) u.heap.size (TW P ty Wg C n tv (n - (r + 1))) child (agX C (n - (r + 1)) fv u)) ∧
     (∀ u,df v u->cI u->eB (XB P ty Wg n) P true (pmM u.heap.size) u.heap.size (TM (r + 1) u.heap.size) g' (dU u Wg (gh (qR r))))
structure WX where
 tr:Tr
 run:Bool
 wd:WD
 s:Nat
 gm:List Nat
variable (Shun:Loc->Prop)
structure VW (ow:Nat->Nat) (i s:Nat) (γ:List Nat) (w u:World):Prop where
 nv:cI u
 gy:vk u w
 cell:∀ b,Row C b->∃ z,u.heap[b]? = some (slot i z)
 ajD:∃ o,u.heap[Wg]? = some o /\ pL o = true
 iL:∀ b,b < w.heap.size->ny u b->(b < s /\ ow b = 0) \/ (s <= b /\ ow b = i + 1)
 sl:∀ (b k:Nat) z,u.heap[b]? = some (slot k z)->Row C b /\ k = i
 nE:∀ l,Shun l->vN u l
 gh:GhR u γ
 ro:∀ (b k:Nat) o z,u.heap[b]? = some o->Ro o k z->b = Duo.R
 am2:ow Duo.R = 0 /\ Duo.R < s
structure aks (ow:Nat->Nat) (i:Nat) (x:WX) (g:Goroutine) (w u:World):Prop extends VW Wg C Shun ow i x.s x.gm w u where
 wd:x.wd = ⟨7,0,0⟩
 run:∃ v,RunT (XW P i) P false (pmW C x.s) x.s (TW P ty Wg C n tv i) x.tr g v /\ df v u
 nl:x.tr ≠ .leaf
def aky (i:Nat) (wd:WD) (g:Goroutine) (w:World):Prop :=
 (wd.stage = 7 /\ wd.deaf = 0 /\ Goes P false (RW ty Wg C n 0 (i + 1 - 1)) DC0 (AtR0 P ty Wg C n 0 (i + 1) tv) wd.fuel g w) \/ (wd.stage <= 6 /\ WSit P ty Wg C n O0 O0 0 (i + 1) tv wd.stage wd.fuel wd.deaf g w)
def WOK (ow:Nat->Nat) (i:Nat) (x:WX) (g:Goroutine) (w:World):Prop :=
 (x.run = true /\ ∃ u,aks P ty Wg C n tv Shun ow i x g w u) \/ (x.run = false /\ x.tr = .leaf /\ aky P ty Wg C n tv i x.wd g w /\ ∃ u,VW Wg C Shun ow i x.s x.gm w u /\ Duo.U1 i u)
structure ahb (ow:Nat->Nat) (l:List Nat) (w u:World):Prop where
 nv:cI u
 gy:vk u w
 iL:∀ b,b < w.heap.size->ny u b->ow b = 0
 me:∀ (b k:Nat) z,u.heap[b]? ≠ some (slot k z)
 Af:Hg u
 hC:∀ b,Row C b \/ b = Duo.R->∃ o,u.heap[b]? = some o /\ pL o = true
 hW:u.heap[Wg]? = some (gh l)
 nE:∀ l,Shun l->vN u l
def xV:Loc->Option Nat
 | .cell a=>some a.block
 | .obj r=>some r
 | _=>none
def pls (j fr:Nat) (ow s:Nat->Nat):Pl where
 Sh:=ShN Wg
 Own k l:=(∃ b,xV l = some b /\ ¬ Row C b /\ b ≠ Duo.R /\ b ≠ Wg /\ ow b = k + 1) \/ ∃ b,Row C b /\ l = .cell ⟨b,k,none⟩
 Rd k l:=∃ b,xV l = some b /\ ¬ Row C b /\ b ≠ Wg /\ ow b = 0 /\ b < s k /\ ¬ Shun l /\ l ≠ .cell wdA
 Mn l:=∃ b,xV l = some b /\ ¬ Row C b /\ b ≠ Wg /\ ow b = 0 /\ ¬ Shun l /\ l ≠ .cell wdA
 Fr l:=(∃ b,xV l = some b /\ ¬ Row C b /\ b ≠ Duo.R /\ b ≠ Wg /\ ow b = 0 /\ fr <= b /\ ¬ Shun l) \/ ∃ b k,Row C b /\ j <= k /\ l = .cell ⟨b,k,none⟩
 At l:=l = .cell wdA
end
variable {sl:Option (Nat × Nat)} {D:Nat->WX}
section
variable [Payload] [Duo] {γ γ':List Nat} {x y:WX} {fr:Nat}
structure Left (Wg C n:Nat) (except:Nat->Prop) (w w':World):Prop where
 wg:w'.heap[Wg]? = w.heap[Wg]?
 pay:PayAt C n w->PayAt C n w'
 row:∀ b,Row C b->∀ i,¬ except i->(∃ cs e,w.heap[b]? = some (.cells cs e (0,0)))->w'.cell? ⟨b,i,none⟩ = w.cell? ⟨b,i,none⟩
 rows:∀ b,Row C b->∀ cs e,w.heap[b]? = some (.cells cs e (0,0))->∃ Jk,w'.heap[b]? = some (.cells Jk e (0,0)) /\ Jk.size = cs.size
 word:w'.heap[Duo.R]? = w.heap[Duo.R]?
structure aid (Wg:Nat) (w w':World):Prop where
 tape:w'.tape = w.tape
 os:w'.os = w.os
 output:w'.output = w.output
 size:w'.heap.size = w.heap.size
 block:∀ b:Nat,b ≠ Wg->b ≠ Duo.R->w'.heap[b]? = w.heap[b]?
 word:oD Duo.c0.length w.heap[Duo.R]? w'.heap[Duo.R]?
structure Apart (Wg C:Nat):Prop where
 cw:¬ Row C Wg
 cr:¬ Row C Duo.R
 rw:Duo.R ≠ Wg
def owN (ow:Nat->Nat) (a b k:Nat):Nat->Nat:=λx=>if a <= x /\ x < b then k + 1 else ow x
end
section
variable [Payload] [Duo] [wT] (P:Program) (ty:TypeId) (Wg C n:Nat) (fv tv:Value) (Shun:Loc->Prop)
def gms (j:Nat) (D:Nat->WX):Nat->List Nat:=λi=>if i < j then (D i).gm else Duo.ini
def UU (w:World) (γs:Nat->List Nat):Prop :=
 ∃ σ:Nat,w.heap[Duo.R]? = some (.cells (Duo.c0 ++ [Value.int .u64 (σ:Nat)]).toArray Duo.tyR (0,0)) /\ Duo.J σ γs
def aha (n:Nat) (w:World):Prop:=∃ cs,w.heap[Duo.C2]? = some (.cells cs Duo.ty2 (0,0)) /\ cs.size = n
structure akE (base j:Nat) (gs:Array Goroutine) (w:World) (t:Trace) (D:Nat->WX) (d0:Nat) (q ow:Nat->Nat) (fr:Nat):Prop where
 pos:0 < base
 size:gs.size = base + j
 old:∀ i g,0 < i->i < base->gs[i]? = some g->QuitsD P (q i) (Deaf t i) g
 wk:∀ i,i < j->∃ g,gs[base + i]? = some g /\ WOK P ty Wg C n tv Shun ow i (D i) g w
 ct:CTP (pls Wg C Shun j fr ow (λi=>(D i).s)) base Shun w.heap.size j t
 norel:∀ a,NoRelease a t
 deaf0:Deaf t 0 = d0
 deafW:∀ i,i < j->Deaf t (base + i) = (D i).wd.deaf
 rel:∀ i,i < j->(D i).wd.stage <= 6->∃ r,RelBy (stA Wg) t (base + i) r
 has:∀ i,i < j->(D i).wd.stage <= 6->Has C i tv w
 un:∀ i,j <= i->i < n->Has C i fv w
 pay:PayAt C n w
 un2:∀ i,j <= i->i < n->w.cell? ⟨Duo.C2,i,none⟩ = some Duo.fv2
 amS:aha n w
 word:UU w (gms j D)
 owR:ow Duo.R = 0
 owj:∀ b,ow b <= j
 DR:∀ b,w.heap.size <= b->ow b = 0
 sfr:∀ i,i < j->(D i).s <= fr
 frs:fr <= w.heap.size
 ap:Apart Wg C
 c2:C ≠ Duo.C2
 ltC:∀ b,Row C b \/ b = Duo.R->b < w.heap.size
 ltW:Wg < w.heap.size
 kept:DN Shun w
end
variable {pos:String}
section
variable [Payload] [Duo] [wT] {fr:Nat} {a':Goroutine}
end
open Go.ConcR (bk_of_mute ofEvent_loc_mark deafBehind_cons deafBehind_one)
def jZ:List Nat->Bool->CTag
 | [0,r,s],_=>.sp r s
 | [1],_=>.kd
 | [2,_],_=>.anch
 | [3,vs],_=>.w2 vs
 | [4],bl=>if bl then .blk else .w3
 | [5],_=>.w4
 | [6],_=>.ke
 | [7],_=>.acq
 | _,_=>.ret
def jr:List Nat->Nat
 | [0,_,s]=>if s = 3 \/ s = 4 then 1 else 0
 | [2,_] | [3,_] | [4] | [5] | [6]=>1
 | _=>0
def Qu (n j:Nat) (l:List Nat):Prop:=(∃ r s,l = [0,r,s] /\ j + r + 1 = n) \/ (j = n /\ (l = [1] \/ (∃ b,l = [2,b]) \/ (∃ vs,l = [3,vs]) \/ l = [4] \/ l = [5] \/ l = [6] \/ l = [7]))
theorem Qu.le (h:Qu n j l):j <= n:=by
 rcases h with ⟨r,s,_,h⟩ | ⟨h,_⟩ <;> omega
abbrev Mu1:=Tr × (Nat × Nat)
abbrev Mu:=Nat × (List Mu1 × (Nat × Nat))
def rM:Mu1->Mu1->Prop:=Prod.Lex Tr.Sub (Prod.Lex (· < ·) (· < ·))
def rMu:Mu->Mu->Prop:=Prod.Lex (· < ·) (Prod.Lex (Bf rM) (Prod.Lex (· < ·) (· < ·)))
def ae4:WellFounded rM:=(Prod.lex ⟨_,Tr.wf⟩ (Prod.lex Nat.lt_wfRel Nat.lt_wfRel)).wf
def wm (x:WX):Mu1:=(x.tr,(x.wd.stage,x.wd.fuel))
def muL (tr:Tr) (D:Nat->WX) (j:Nat):List Mu1:=(tr,(0,0)) :: (List.range' 0 j).map (λi=>wm (D i))
def wds (D:Nat->WX):Nat->WD:=λi=>(D i).wd
section
variable [Payload] [Duo] [wT] (P:Program) (ty:TypeId) (Wg C n:Nat) (fv tv:Value) (Fin:Goroutine->World->Prop) (Shun:Loc->Prop) (base:Nat)
def ac1 (l:List Nat) (bl:Bool) (gs:Array Goroutine) (w:World) (ow:Nat->Nat) (tr:Tr) (rem fr:Nat):Prop :=
 ∃ gm v u,gs[0]? = some (if bl then { gm with status:=.blocked } else gm) /\ gm.status = .running /\ RunT (XB P ty Wg n) P true (pmM fr) fr (TM P ty Wg C n fv tv Fin rem fr) tr gm v /\ df v u /\ ahb Wg C Shun ow l w u /\ (bl = true->l = [4] /\ Vf P ty Wg gm)
structure ag7 (gs:Array Goroutine) (w:World) (t:Trace) (j:Nat) (D:Nat->WX) (q ow:Nat->Nat) (fr:Nat) (l:List Nat) (bl:Bool) (tr:Tr) (rem:Nat) (st sm:Int):Prop where
 com:akE P ty Wg C n fv tv Shun base j gs w t D (jr l) q ow fr
 main:ac1 P ty Wg C n fv tv Fin Shun l bl gs w ow tr rem fr
 wf:Qu n j l
 wg:WgAt ty Wg w st sm
 mode:ConcN.Mode j (wds D) (jZ l bl) st sm
 bound:∀ b,l = [2,b]->Vc j (wds D) <= b
 amG:∀ a,a.block = Wg->¬ Shun (.cell a)
def apx (μ:Mu) (m:Machine) (t:Trace):Prop :=
 ∃ gs w sl j D q ow fr l bl tr rem st sm,m = crowd gs w sl /\ ag7 P ty Wg C n fv tv Fin Shun base gs w t j D q ow fr l bl tr rem st sm /\ μ = (rem,(muL tr D j,(sumTo base q,if bl then 0 else 1)))
end
variable {main:Bool}
section
variable [Payload] [Duo] [wT] {fr:Nat} {tr:Tr} {st sm:Int}
def VE (Wg:Nat) (e:Event):Prop:=Bk Wg e \/ e = mk (.releaseMerge (stA Wg))
theorem VE.touch {e:Event} (h:VE Wg e) {x:Touch} (hx:(MemAct.ofEvent e).touch? = some x):ShN Wg x.loc /\ x.kind ≠ .plain /\ x.kind ≠ .said:=by
 rcases h with (h1 | h1 | ⟨a,wr,rfl,ha⟩) | rfl
 ·rw [ofEvent_loc_mark h1] at hx; cases hx
 ·rw [ofEvent_loc_mark h1] at hx; cases hx
 ·simp only [Go.ConcR.ofEvent_cell,MemAct.touch?,br] at hx;subst hx;exact ⟨⟨a,rfl,ha⟩,by simp,by simp⟩
 trivial
theorem VE.low {e:Event} (h:VE Wg e) {B:Nat} (hB:Wg < B):(MemAct.ofEvent e).low B:=by
 rcases h with (h1 | h1 | ⟨a,wr,rfl,ha⟩) | rfl
 ·rw [ofEvent_loc_mark h1]; trivial
 ·rw [ofEvent_loc_mark h1]; trivial
 ·show a.block < B; omega
 assumption
theorem VE.norel (h:VE Wg e) (a:Addr):MemAct.ofEvent e ≠ .mark (.release a):=by
 rcases h with (h1 | h1 | ⟨a,wr,rfl,ha⟩) | rfl
 ·rw [ofEvent_loc_mark h1]; simp
 ·rw [ofEvent_loc_mark h1]; simp
 ·rw [Go.ConcR.ofEvent_cell]; simp
 simp [Go.ConcR.ofEvent_mk]
end
section
variable [Payload] [Duo] [wT] {P:Program} {ty:TypeId} {Wg C n:Nat} {fv tv:Value} {Fin:Goroutine->World->Prop} {Shun:Loc->Prop} {base:Nat}
 {gs:Array Goroutine} {w w' u ux':World} {t:Trace} {j k:Nat} {D:Nat->WX} {q ow ow':Nat->Nat} {fr fr' d0:Nat} {l l':List Nat} {bl bl':Bool} {tr tr':Tr} {rem aiR:Nat} {st sm st' sm':Int} {g g' a a':Goroutine} {es:Array Event} {sl:Option (Nat × Nat)}
def qK (o:Obj):Bool:=u9 o || Eb o
noncomputable def opened (K:Nat->Prop) (Wg:Nat) (u w:World):World :=
 open Classical in { w with heap:=w.heap.mapIdx λb o=>if K b then (u.heap[b]?).getD dummy else if b = Wg \/ qK o = true then dummy else o }
section
variable {K:Nat->Prop}
omit [Payload] [Duo] [wT] in
theorem Zr:(opened K Wg u w).heap.size = w.heap.size:=by simp [opened]
omit [Payload] [Duo] [wT] in
theorem afs {b:Nat} (m:vk u w) (h:K b):(opened K Wg u w).heap[b]? = u.heap[b]?:=by
 simp only [opened,Array.getElem?_mapIdx];cases hw:w.heap[b]? with
 | none =>
   have h1:w.heap.size <= b:=by simpa using hw
   rw [j9,c8 (by rw [<- m.size]; exact h1)]
 | some o =>
   have h1:=aG hw;rw [m.size] at h1
   grind
end
structure ahj (Wg C:Nat) (Shun:Loc->Prop) (i:Nat) (γ:List Nat) (w u:World):Prop where
 nv:cI u
 gy:vk u w
 cell:∀ b,Row C b->∃ z,u.heap[b]? = some (slot i z)
 ajD:∃ o,u.heap[Wg]? = some o /\ pL o = true
 gh:GhR u γ
 post:Duo.U1 i u
 nE:∀ l,Shun l->vN u l
def amj (P:Program) (Wg C n:Nat) (Shun:Loc->Prop) (tv:Value) (K:Nat->Prop) (Fin:Goroutine->World->Prop) (m:Machine) (t:Trace):Prop :=
 ∃ gs w sl q UZ g' v u γs,m = crowd gs w sl /\ Fin g' v /\ df v u /\ vk u w /\ w.heap[C]? = some (.cells (Array.replicate n tv) Payload.ety) /\ aha n w /\ UU w γs /\ (∀ i,i < n->∃ ui,ahj Wg C Shun i (γs i) w ui) /\ (∀ i,n <= i->γs i = Duo.ini) /\ fC P UZ t gs q g' (opened K Wg u w) w
omit [Payload] in
theorem Qu.sp {r s:Nat} (h:Qu n j [0,r,s]) (s':Nat):Qu n j [0,r,s']:=by
 rcases h with ⟨r',s,e,h⟩ | ⟨_,h1⟩
 ·cases e;exact .inl ⟨_,_,rfl,h⟩
 grind
omit [Payload] in
theorem Qu.jn (h:Qu n j l) (hl:∀ r s,l ≠ [0,r,s]):j = n:=by
 rcases h with ⟨r',s,e,h⟩ | ⟨h,_⟩
 ·grind
 omega
def zQ (Wg:Nat) (e:Event):Prop:=Bk Wg e \/ e = ⟨.mark (.read (smA Wg)),false,true⟩ \/ e = ⟨.mark (.write (smA Wg)),false,true⟩
theorem zQ.touch {e:Event} (h:zQ Wg e) {x:Touch} (hx:(MemAct.ofEvent e).touch? = some x):ShN Wg x.loc /\ x.kind ≠ .plain:=by
 rcases h with h | rfl | rfl
 ·have⟨h1,h2,_⟩:=VE.touch (.inl h) hx
  trivial
 ·simp only [MemAct.ofEvent,MemAct.touch?,br] at hx;subst hx;exact ⟨⟨_,rfl,rfl⟩,by simp⟩
 ·simp only [MemAct.ofEvent,MemAct.touch?,br] at hx;subst hx;exact ⟨⟨_,rfl,rfl⟩,by simp⟩
theorem zQ.low {e:Event} (h:zQ Wg e) {B:Nat} (hB:Wg < B):(MemAct.ofEvent e).low B:=by
 rcases h with h | rfl | rfl
 ·exact VE.low (.inl h) hB
 ·exact hB
 trivial
theorem zQ.norel {e:Event} (h:zQ Wg e) (a:Addr):MemAct.ofEvent e ≠ .mark (.release a):=by
 rcases h with h | rfl | rfl
 ·exact VE.norel (.inl h) a
 ·simp [MemAct.ofEvent]
 ·simp [MemAct.ofEvent]
end
section
variable [Payload] [Duo] [wT] {fr fr':Nat} {bl':Bool} {tr tr':Tr} {aiR:Nat} {K:Nat->Prop} {st sm:Int} {a a':Goroutine}
end
section
variable [Payload] [Duo] [wT] {K:Nat->Prop}
def alB (u:World) (Wg C:Nat) (l:List Nat):World:=dU (dU (dU (dU u Wg (gh l)) C dummy) Duo.C2 dummy) Duo.R dummy
end
section
variable (P:Program) (ty:TypeId) (Wg n:Nat) (pm:Nat->Prop) (fr:Nat) (T:Goroutine->World->Prop) (B:World->Prop)
def RZ (w w1:World):Prop:=WgLive ty Wg w->WgLive ty Wg w1
def RT (_ _:World):Prop:=True
def TE (l:List Nat) (g:Goroutine):Prop:=g.status = .running /\ ∀ v,v.heap[Wg]? = some (gh l)->B v->eB (XB P ty Wg n) P true pm fr T g v
def ag6 (l:List Nat) (g:Goroutine) (w:World):Prop :=
 g.status = .running /\ (Ou ty Wg l w->∃ l' g' w' es,stepG P true g w = .go g' w' es /\ Rel ty Wg n l l' w w' es /\ TE P ty Wg n pm fr T B l' g')
def StopB (l:List Nat) (g:Goroutine) (w:World):Prop:=ag6 P ty Wg n pm fr T B l g w \/ TE P ty Wg n pm fr T B l g
def amb (g:Goroutine) (_:World):Prop:=g.status = .running /\ ∀ v,B v->eB X0 P true pm fr T g v
end
section
variable {pm:Nat->Prop} {fr:Nat} {B:World->Prop}
def RL (a b c:World) (h:RZ ty Wg a b) (k:RZ ty Wg b c):RZ ty Wg a c:=k ∘ h
def lv (h:WgLive ty Wg w) (r:RZ ty Wg w w1):WgLive ty Wg w1:=r h
theorem Aj (ty:TypeId) (Wg:Nat):∃ w:World,WgLive ty Wg w:=by
 refine ⟨{ (default:World) with heap:=(Array.replicate Wg dummy).push (wgBlock ty 0 0) },0,0,?_⟩;show ((Array.replicate Wg dummy).push (wgBlock ty 0 0))[Wg]? = _
 grind
end
open Go.RowKit Go.Conc.Lib Go.ConcR.Gen Go.ConcN.Gen
section
variable [Payload] {L:WgLink} {P:Program} {Wg C n:Nat} {pm:Nat->Prop} {fr:Nat} {T:Goroutine->World->Prop} {B:World->Prop}
 {b₀:Frame} {a₀:Act} {CH:Array Oper} {i₀:Nat} {AU:List Nat} {k₀:List Item} {cs:List Frame}
def StK (P:Program) (g:Goroutine) (w:World):Prop:=g.status = .running /\ ∃ g',stepG P false g w = .go g' w #[mk .disable]
def StR (P:Program) (R:World->World->Prop) (Wg:Nat) (g:Goroutine) (w:World):Prop:=g.status = .running /\ ∃ g',stepG P false g w = .go g' w #[mk (.releaseMerge (stA Wg))] /\ ∃ m,Goes P false R DC0 (StK P) m g' w
section
variable {ty:TypeId} {i:Nat} {v:Value}
theorem Ry:∀ (m m':Nat) (g:Goroutine) (w:World),Goes P false (RW ty Wg C n 0 i) DC0 (StK P) m g w->Goes P false (RW ty Wg C n 0 i) (DWs Wg O0 O0 C n k) (AtR0 P ty Wg C n 0 k v) m' g w->False:=by
 have fin:∀ (m':Nat) (g:Goroutine) (w:World),StK P g w->Goes P false (RW ty Wg C n 0 i) (DWs Wg O0 O0 C n k) (AtR0 P ty Wg C n 0 k v) m' g w->False:=by
  rintro m' g w ⟨_,g',h1⟩ h2;have QD:AtR0 P ty Wg C n 0 k v g w->False:=λ⟨_,_,g2,h3,_⟩=>by
   rw [h1] at h3;simp [mk] at h3
  cases m' with
  | zero=>exact QD (h2 w (RW.refl w))
  | succ m' =>
    rcases h2 with h2 | ⟨_,h2⟩
    ·exact QD (h2 w (RW.refl w))
    ·have h3:=h2 w (RW.refl w);rw [h1] at h3;exact ((h3.1.2 (mk .disable) (by simp)).2.1 rfl).elim
 intro m
 induction m with
 | zero=>exact λm' g w h1 h2=>fin m' g w (h1 w (RW.refl w)) h2
 | succ m ih =>
   rintro m' g w (h1 | ⟨_,h1⟩) h2
   ·grind [RW.refl]
   ·have h3:=h1 w (RW.refl w);cases hst:stepG P false g w with
    | go g' w' es =>
      rw [hst] at h3;obtain⟨⟨rfl,rfl⟩,h3⟩:=h3;have QD:AtR0 P ty Wg C n 0 k v g w'->False:=λ⟨_,_,g2,h4,_⟩=>by
       rw [hst] at h4;simp at h4
      cases m' with
      | zero=>exact QD (h2 w' (RW.refl w'))
      | succ m' =>
        rcases h2 with h2 | ⟨_,h2⟩
        ·exact QD (h2 w' (RW.refl w'))
        ·have h4:=h2 w' (RW.refl w')
         simp_all
    | _=>rw [hst] at h3; trivial
theorem Wa:∀ (m m':Nat) (g:Goroutine) (w:World),Goes P false (RW ty Wg C n 0 i) DC0 (StR P (RW ty Wg C n 0 i) Wg) m g w->Goes P false (RW ty Wg C n 0 i) (DWs Wg O0 O0 C n k) (AtR0 P ty Wg C n 0 k v) m' g w->Goes P false (RW ty Wg C n 0 i) DC0 (AtR0 P ty Wg C n 0 k v) m g w:=by
 have fin:∀ (m':Nat) (g:Goroutine) (w:World),(∀ w1,RW ty Wg C n 0 i w w1->StR P (RW ty Wg C n 0 i) Wg g w1)->Goes P false (RW ty Wg C n 0 i) (DWs Wg O0 O0 C n k) (AtR0 P ty Wg C n 0 k v) m' g w->∀ w1,RW ty Wg C n 0 i w w1->AtR0 P ty Wg C n 0 k v g w1:=by
  intro m' g w h1 h2;cases m' with
  | zero=>exact h2
  | succ m' =>
    rcases h2 with h2 | ⟨_,h2⟩
    ·exact h2
    ·have⟨_,g',h3,m2,h4⟩:=h1 w (RW.refl w);have h5:=h2 w (RW.refl w);rw [h3] at h5;exact (Ry _ _ _ _ h4 h5.2).elim
 intro m
 induction m with
 | zero=>assumption
 | succ m ih =>
   rintro m' g w (h1 | ⟨hr,h1⟩) h2
   ·exact .inl (fin m' g w h1 h2)
   ·cases m' with
    | zero=>exact .inl h2
    | succ m' =>
      rcases h2 with h2 | ⟨_,h2⟩
      ·exact .inl h2
      ·refine .inr ⟨hr,λw1 hw1=>?_⟩;have h3:=h1 w1 hw1;have h4:=h2 w1 hw1;cases hst:stepG P false g w1 with
       | go g' w' es =>
         rw [hst] at h3 h4;exact ⟨h3.1,ih m' g' w' h3.2 h4.2⟩
       | _=>rw [hst] at h3; trivial
def F4 (h:WgLive ty Wg w) (r:RW ty Wg C n 0 i w w1):WgLive ty Wg w1:=r.live h
end
theorem agI (H:WgLib P L) {val:Value} {c:Frame} {qt:Nat} (hcm:c.mode = .returning) (hT:QuitsD P qt 0 (G c cs)) (w:World) (hl:WgLive L.tWg Wg w) (hh:Has C i val w) :
 Goes P false (RW L.tWg Wg C n 0 (i + 1 - 1)) DC0 (AtR0 P L.tWg Wg C n 0 (i + 1) val) 23 (G ((baseD L.done).at ⟨#[.pointer (some ⟨Wg,0,none⟩),undef,undef,undef],[]⟩ [.code (body_done L)]) (c :: cs)) w:=by
 refine Wa 23 23 _ w ?_ (doneN H hcm hT w ⟨hl,hh⟩)
 lib_facts
 have hF:=hl;simp only [body_done,doneFn,dM]
 u_reg F4 hF
 u_op F4 hF
 u_in F4 hF
 refine goes_call rfl rfl (by k_ne) rfl H.f_add (nm_add L) rfl ⟨by u_nil,?_⟩
 walk_nrmf addFn
 u_c aH F4 hF
 u_cond true F4 hF
 u_c aH F4 hF
 u_c aH F4 hF
 u_reg F4 hF
 u_op F4 hF
 u_op F4 hF
 u_c au F4 hF
 u_cond true F4 hF
 u_reg F4 hF
 u_op F4 hF
 u_conv H.underlying_tWgP H.room_tWg (WgLive.cell0 hF).choose_spec F4 hF
 refine dA (λw₁ h₁=>?_);replace hF:=F4 hF h₁;refine ⟨rfl,_,stepG_markAt .releaseMerge (by simp) rfl rfl (by k_ne) rfl H.f_relMerge (x_relMerge_n L) (x_relMerge_b L) (x_relMerge_x L) (x_relMerge_f L) (by simp [Act.eval,stA]),10,?_⟩
 walk_nrm
 u_c au F4 hF
 u_c aH F4 hF
 u_reg F4 hF
 exact dA (λw₂ h₂=>⟨rfl,_,stepG_mark0 .disable (by simp) rfl rfl (by k_ne) rfl H.f_disable (x_disable_n L) (x_disable_b L) (x_disable_x L) (x_disable_f L)⟩)
end
section
variable {pm:Nat->Prop} {fr:Nat} {b:Frame} {a:Act} {k:List Item} {cs:List Frame} {o:Oper}
theorem rOp (hk:b.kind ≠ .early) (ho:ops[i]? = some o) (hg:o.guard = none) (hd:jA o.op = false)
 (h:∀ v1,df v v1->cI v1->(execOp a.eval o).wpS P pm fr (λn v'=>(∃ x,n = .value x /\ eB X P main pm fr T (G (b.atR (a.put o.dst x) (.inRegion ops rest :: k)) cs) v') \/ (n = .skip /\ eB X P main pm fr T (G (b.atR (a.put o.dst undef) (.inRegion ops rest :: k)) cs) v')) v1) :
 eB X P main pm fr T (G (b.atR a (.inRegion ops (i :: rest) :: k)) cs) v:=.go rfl λv1 w m=>by
 have hk':((b.atR a (.inRegion ops (i :: rest) :: k)).kind == CallKind.early) = false:=by simpa [Frame.atR] using hk
 have hfin:∀ x,(b.atR a (.inRegion ops (i :: rest) :: k)).finish x = b.atR (a.put o.dst x) (.inRegion ops rest :: k):=λx=>by rw [eP,ho]; rfl
 have hw:Region.wanted o (yielded ops a.tmps) = true:=by simp [Region.wanted,hg]
 have⟨nx,v',es,h3,h4,h6,real⟩:=eG _ v1 (h v1 m.grow m.nv);have⟨w',g1,g2⟩:=real w #[] m.gy
 rcases h3 with ⟨x,rfl,h3⟩ | ⟨rfl,h3⟩
 ·refine ⟨_,v',⟨w',seen P b.fn es,?_,h4,g2,kT h6⟩,h3⟩;rw [mO w ho hw (.inl hd),<- hfin x];unfold stepG.apply;simp only [if_true,g1,hk',aI,cD];simp [GStep.after,G,Frame.atR]
 ·refine ⟨_,v',⟨w',seen P b.fn es,?_,h4,g2,kT h6⟩,h3⟩;rw [mO w ho hw (.inl hd),<- hfin undef];unfold stepG.apply;simp only [if_true,g1,hk',aI,cD];simp [GStep.after,G,Frame.atR]
theorem R5 (hk:b.kind ≠ .early) (ho:ops[i]? = some o) (hg:o.guard = none) (hd:jA o.op = false) (ht:Tm P pm fr (execOp a.eval o)) (hr:∀ v1,df v v1->(execOp a.eval o).run P v1 = .ok (.value x) v1)
 (h:∀ v1,df v v1->cI v1->eB X P main pm fr T (G (b.atR (a.put o.dst x) (.inRegion ops rest :: k)) cs) v1):eB X P main pm fr T (G (b.atR a (.inRegion ops (i :: rest) :: k)) cs) v :=
 rOp hk ho hg hd λv1 h1 hn=>cu (by grind) _ _ (ht v1 hn _ _ (hr v1 h1))
theorem ae6 (hk:b.kind ≠ .early) (ho:ops[i]? = some o) (hg:o.guard = none) (hd:jA o.op = false) {f:FuncId} (hx:∀ v1,(execOp a.eval o).wpS P pm fr (λn v2=>n = .enter f args /\ v2 = v1) v1)
 {R:World->ja} (hC:∀ v1,df v v1->cI v1->iQ X fr P f args v1 (R v1)) (hp:∀ v1,df v v1->∀ b,tI v1 (R v1).M b->pm b)
 (h:∀ v1 val v',df v v1->(R v1).Q (.returned val) v'->∀ v2,df v' v2->cI v2->eB X P main pm fr T (G (b.atR (a.put o.dst val) (.inRegion ops rest :: k)) cs) v2) :
 eB X P main pm fr T (G (b.atR a (.inRegion ops (i :: rest) :: k)) cs) v:=.go rfl λv1 w m=>by
 have hk':((b.atR a (.inRegion ops (i :: rest) :: k)).kind == CallKind.early) = false:=by simpa [Frame.atR] using hk
 have hfin:∀ x,(b.atR a (.inRegion ops (i :: rest) :: k)).finish x = b.atR (a.put o.dst x) (.inRegion ops rest :: k):=λx=>by rw [eP,ho]; rfl
 have hw:Region.wanted o (yielded ops a.tmps) = true:=by simp [Region.wanted,hg]
 obtain⟨nx,v',es,⟨rfl,rfl⟩,h4,h6,real⟩:=eG _ v1 (hx v1);have⟨w',g1,g2⟩:=real w #[] m.gy;refine ⟨G (Frame.enter P f args .normal) (b.atR a (.inRegion ops (i :: rest) :: k) :: cs),v',⟨w',seen P b.fn es,?_,h4,g2,kT h6⟩,?_⟩
 ·rw [mO w ho hw (.inl hd)];unfold stepG.apply;simp only [if_true,g1,hk',aI,cD];simp [GStep.after,G,Frame.atR]
 ·refine ((hC v' m.grow m.nv main .normal _ (by decide)).uq (hp v' m.grow)).bind ?_;rintro g v2 ⟨DT,val,v0,rfl,NL,hR,PD,hL⟩;refine .go rfl λv3 w3 m3=>⟨G (b.atR (a.put o.dst val) (.inRegion ops rest :: k)) cs,v3,?_,h v' val v0 m.grow hR v3 (PD.trans m3.grow) m3.nv⟩
  have⟨fn,hfn,Lr⟩:=hL.res;obtain⟨x,v',new,⟨rfl,rfl⟩,q4,q6,qr⟩:=eG _ v3 (gG (hp _ m.grow) _ _ (Lr v3 m3.grow m3.nv));have⟨w',q2,q5⟩:=qr w3 #[] m3.gy;refine ⟨w',seen P DT.fn new,?_,.refl _ _,q5,kT q6⟩;rw [<- hfin x];simp only [G,stepG,hL.mode,unwind,hL.defers,hfn];rw [q2];simp [GStep.after,doReturn,NL,seen]
end
section
variable [Payload] [Duo]
end
section
variable {pm:Nat->Prop} {fr:Nat} {b:Frame} {a:Act} {k:List Item} {cs:List Frame} {o:Oper}
theorem R6 (hk:b.kind ≠ .early) (ho:ops[i]? = some o) (hg:o.guard = none) (hd:jA o.op = false) {f:FuncId} (hx:∀ v1,(execOp a.eval o).wpS P pm fr (λn v2=>n = .enter f args /\ v2 = v1) v1)
 (h:∀ v1,df v v1->cI v1->eB X P main pm fr T (G (Frame.enter P f args .normal) (b.atR a (.inRegion ops (i :: rest) :: k) :: cs)) v1) :
 eB X P main pm fr T (G (b.atR a (.inRegion ops (i :: rest) :: k)) cs) v:=.go rfl λv1 w m=>by
 have hk':((b.atR a (.inRegion ops (i :: rest) :: k)).kind == CallKind.early) = false:=by simpa [Frame.atR] using hk
 have hw:Region.wanted o (yielded ops a.tmps) = true:=by simp [Region.wanted,hg]
 obtain⟨nx,v',es,⟨rfl,rfl⟩,h4,h6,real⟩:=eG _ v1 (hx v1);have⟨w',g1,g2⟩:=real w #[] m.gy;refine ⟨G (Frame.enter P f args .normal) (b.atR a (.inRegion ops (i :: rest) :: k) :: cs),v',⟨w',seen P b.fn es,?_,h4,g2,kT h6⟩,h v' m.grow m.nv⟩;rw [mO w ho hw (.inl hd)];unfold stepG.apply;simp only [if_true,g1,hk',aI,cD];simp [GStep.after,G,Frame.atR]
theorem sJ {b:Nat} {o:Obj} (h:M b):bf M v (dU v b o) :=
 ⟨rfl,rfl,rfl,by rw [fN]; omega,λk _ hm=>eI λe=>hm (e ▸ h)⟩
end
section
theorem Pu {x:Touch} {ac:MemAct} (h2:ac.touch? = some x) (h3:ac.low B) (h4:x.loc = .cell a):a.block < B:=by
 cases ac with
 | access e =>
   simp only [MemAct.touch?,br] at h2;subst h2;simp only at h4;simp only [MemAct.low,h4] at h3;exact h3
 | mark m =>
   cases m <;> simp [MemAct.touch?] at h2 <;> (subst h2; simp at h4; subst h4; exact h3)
 | _=>trivial
theorem K1 (h:Past Shun B t) (hb:B <= a.block):Ot t (.cell a):=λi x hx e=>by
 obtain⟨ac,h1,h2⟩:∃ ac,t.act? i = some ac /\ ac.touch? = some x:=by grind [touchAt,Option.bind_eq_some_iff]
 obtain⟨op,ho,rfl⟩:∃ op,t[i]? = some op /\ op.act = ac:=by simpa [Trace.act?,cd] using h1
 have:=Pu h2 (h.seen op (jy ho)) e;omega
variable [wT]
theorem fC.made (h:fC P Shun t gs q ga v w) (al:Alike P ga g) (h1:u9 o = false) (h2:Eb o = false) (hst:∀ w:World,w.heap.size = v.heap.size->stepG P true g w = .go g' { w with heap:=w.heap.push o } #[]) :
 ∃ yn ops,runT P (crowd gs w sl) 0 = (.next (crowd yn { w with heap:=w.heap.push o } sl),ops) /\ fC P Shun (t ++ ops) yn q g' { v with heap:=v.heap.push o } { w with heap:=w.heap.push o } /\ ∀ a:Addr,a.block = v.heap.size->Ot (t ++ ops) (.cell a):=by
 have⟨Ta,hbs⟩:=EA (v:=v) (w:=w) (pm:=λ_=>False) (o:=o) h1 h2;replace hbs:=hbs h.gy;have hp:Bt P true (λ_=>False) 0 g v w g' { v with heap:=v.heap.push o }:=⟨_,#[],hst w h.gy.size,Ta,hbs,by simp⟩;have⟨yn,w',ops,h3,h4,h5⟩:=h.afd (sl:=sl) al hp;have h6:=runT_crowd_go (P:=P) (sl:=sl) (i:=0) h.QN (show stepG P (0 == 0) ga w = _ from (al.step w).trans (hst w h.gy.size));rw [h3] at h6;have e1:=aL Prod.snd h6;have e2:=aL Prod.fst h6;simp only [Stepped.next.injEq] at e2;have e3:w' = { w with heap:=w.heap.push o }:=aL Machine.world e2;subst e3;have e4:ops = #[]:=by assumption
 subst e4;refine ⟨yn,_,h3,h5,λa ha=>?_⟩;exact K1 h.past (by rw [ha,h.gy.size]; omega)
end
def aaf (pm:Nat->Prop) (s:Nat) (v:World):Prop:=s <= v.heap.size /\ ∀ b,b < v.heap.size->pm b->ny v b->s <= b
def akC (X:Ext):Prop:=∀ {m g v w S} {pm:Nat->Prop} {s:Nat},X.kind m g v w S->X.kind m g v w (λg' v'=>S g' v' /\ (aaf pm s v->aaf pm s v'))
section
variable {F:Fr} {g:Bool} {Q:Exit->Act->World->Prop} {N:Act->World->Prop} {op:Op} {t t':TypeId} {x y:Operand}
def amd (C k:Nat) (z:Value):du:=⟨λb=>b = C,λw=>w.heap[C]? = some (slot k z),λw w' h ha=>(h C rfl).trans ha⟩
def RoR [Duo] (γ:List Nat):du:=⟨λb=>b = Duo.R,λw=>GhR w γ,λw w' h ha=>(h Duo.R rfl).trans ha⟩
end
section
variable {pm:Nat->Prop} {fr:Nat} {x y:Int}
structure acY (pm:Nat->Prop) (fr:Nat) (a:Addr) (x:Int) (w:World):Prop where
 cell:w.cell? a = some (.int .u64 x)
 fz:w.frozen? a = false
 pm:pm a.block
 fr:fr <= a.block
theorem B3 (h:w.cell? a = some (.int .u64 x)):(Extern.Atomic.read (.int .u64) a).wpS P pm fr (λr w'=>r = .int .u64 x /\ w' = w) w:=by
 refine cR _ _ _ (show (Go.load a .atomic).wpS P pm fr _ w from ?_);exact ⟨.inr ⟨_,h⟩,_,.inl h,rfl,rfl⟩
def OA (h:w.cell? a = some (.int .u64 x)):(Extern.Atomic.loadT (.int .u64) #[.pointer (some a)]).wpS P pm fr (λr w'=>r = .int .u64 x /\ w' = w) w:=B3 h
theorem B1 (h:acY pm fr a x w):(viewAt a.block).wpS P pm fr (λr w'=>r = none /\ w' = w) w:=by
 refine cR _ _ _ (show (Go.shape a.block).wpS P pm fr _ w from (⟨sQ h.cell,?_⟩));show Sem.wpS P pm fr (if (w.shape? a.block).isSome = true then _ else _) _ w;rw [if_pos (World.shape?_isSome_of_cell? h.cell)]
 trivial
theorem Q5 (h:acY pm fr a x w) {Q:Value->World->Prop} (hQ:Q (.bool true) (w.setCell a (.int .u64 y))):(Extern.Atomic.casT (.int .u64) #[.pointer (some a),.int .u64 x,.int .u64 y]).wpS P pm fr Q w:=by
 refine cR _ _ _ ?_;show Sem.wpS P pm fr (Extern.Atomic.touchesFrozen a >>= _) Q w;refine cR _ _ _ (cu ?_ _ _ (show (Extern.Atomic.touchesFrozen a).wpS P pm fr (λr w'=>r = false /\ w' = w) w from ?_))
 ·rintro r w' ⟨rfl,rfl⟩;show Sem.wpS P pm fr (Extern.Atomic.read (.int .u64) a >>= _) Q w';refine cR _ _ _ (cu ?_ _ _ (B3 h.cell));rintro r w2 ⟨rfl,rfl⟩;show Sem.wpS P pm fr (if (x == x) = true then (store a (.int .u64 y) .atomic >>= λ_=>pure (.bool (x == x))) else pure (.bool (x == x))) Q w2;have hx:(x == x) = true:=by simp
  rw [hx,if_pos rfl];exact ⟨rfl,h.pm,.inl ⟨h.fr,⟨_,h.cell⟩,h.fz,hQ⟩⟩
 ·refine cR _ _ _ (cu ?_ _ _ (B1 h));rintro r w' ⟨rfl,rfl⟩;exact ⟨sQ h.cell,h.fz,rfl⟩
end
section
variable {pm:Nat->Prop} {fr:Nat}
theorem FQ {f:FuncId} {fn:Func} {e:Array Value->Sem Value} {vs:Array Value} {Q:Next->World->Prop} (hf:P.funcs[f]? = some fn) (C6:(fn.name == "runtime.NumGoroutine") = false) (hb:fn.body.isNone = true) (hn:Extern.findNext fn = none) (he:Extern.find fn = some e)
 (h:(e vs).wpS P pm fr (λv w'=>Q (.value v) w') w):(callFunc f vs).wpS P pm fr Q w:=by
 refine cR _ _ _ (show (Go.program).wpS P pm fr _ w from ?_);show Sem.wpS P pm fr _ Q w;simp only [hf,C6,hb,hn,he,aI,cD,if_true];refine cR _ _ _ (show (Go.mark (.extern f)).wpS P pm fr _ w from ⟨.inr ⟨f,rfl⟩,?_⟩);exact cR _ _ _ h
end
section
variable {f:FuncId} {fn:Func} {x y z:Int}
end
section
variable [Duo] {F:Fr} {Q:Exit->Act->World->Prop} {o:Oper} {rest:List Oper}
variable {f:FuncId} {fn:Func} {args:List Operand} {γ:List Nat}
end
def Ol (w:World) (b k:Nat) (z:Value):Prop:=w.cell? ⟨b,k,none⟩ = some z \/ ∃ o,w.heap[b]? = some o /\ Ro o k z
theorem Ol.same (h:Ol w b k z) (e:w'.heap[b]? = w.heap[b]?):Ol w' b k z :=
 h.imp (λh=>by simp only [World.cell?,e]; exact h) (λ⟨o,h1,h2⟩=>⟨o,e.trans h1,h2⟩)
theorem Ol.lt (h:Ol w b k z):b < w.heap.size:=h.elim (λh=>zG h) (λ⟨_,h1,_⟩=>aG h1)
theorem Ol.keep (h:Ol w b k z) (hk:bf M w w') (hm:¬ M b):Ol w' b k z:=h.same (hk.block b h.lt hm)
section
variable {F:Fr} {g:Bool} {Q:Exit->Act->World->Prop} {N:Act->World->Prop} {t:TypeId} {x:Operand}
theorem Ev.E7 (ha:∀ w,(isAgg t).run P w = .ok false w) (hx:cV F g x (.pointer (some ⟨b,k,none⟩))) (h:∀ w,bS K L w->Ol w b k z):Ev P K F L g (.load t x) ty z:=λhg=>⟨rfl,λa fo w I hn dst pos af gd=>by
 show (Instr.loadAt t (a.eval x) >>= λr=>pure (Next.value r)).wpS P (q9 K) K.E.fr _ w;rw [hx.eval hg fo];refine cR _ _ _ (cu ?_ _ _ (show (loadVar t ⟨b,k,none⟩).wpS P (q9 K) K.E.fr (λr w'=>r = z /\ w' = w) w from ?_))
 ·rintro r w' ⟨rfl,rfl⟩
  trivial
 ·refine cR _ _ _ (cu ?_ _ _ ((Tm.isAgg (P:=P) t) w hn _ _ (ha w)));rintro b' w' ⟨rfl,rfl⟩;exact ⟨.inl rfl,z,(h w' I).elim .inl (λ⟨o,h1,h2⟩=>.inr (.inr ⟨rfl,o,h1,h2⟩)),rfl,rfl⟩⟩
theorem Ev.nm {E:dy α} {v:Value} {xs:List α} {i:Int} {s f o:Nat} (hx:cV F g x (kC v k)) (h:∀ w,bS K L w->bU E w v xs) (hi:g = true->0 <= i /\ i < xs.length)
 (hf:(P.underlying s).bind (λd=>match d with | .struct fs=>(fs[f]?).bind (λfd=>(P.info? fd.type).map (λi=>(fd.offset,Nat.beq i.size 0))) | _=>none) = some (o,false)) :
 Ev P K F L g (.fieldAddr s x f) ty (kC v (k + o)):=λhg=>⟨rfl,λa fo w I hn dst pos af gd=>by
 obtain⟨b,cap,rfl,h1,_,h2,h3⟩:=h w I;cases b with
 | none =>
   grind
 | some p =>
   have hx':cV F g x (.pointer (some ⟨p.block,p.off + k,none⟩)):=hx;have:=((Ev.fieldAddr (P:=P) (K:=K) (L:=L) (ty:=ty) hx' hf) hg).2 a fo w I hn dst pos af gd;rw [j4] at this;exact this⟩
theorem G9 {X:Type} {f:FuncId} {args:List Operand} {vs:List Value} {r:du} {r':X->du} {L':X->List du} (J:X->Prop) (val:X->Value) (hu:∀ x,mS L r (r' x) (L' x)) (hm:r ∈ L) (om:dV P f) (fQ:lM F true args vs)
 (hC:∀ w,bS K L w->iQ K.E.X K.E.fr P f vs.toArray w (mE w r J val r')) (next:∀ x,J x->Sat K N ((d,true,val x) :: F) (L' x)) (hd:Nat.blt d K.n = true:=by rfl) :
 Sat K (dw P K ops Q ⟨some d,.call { callee:=.value (.func f),args:=args.toArray,argTypes:=qJ },ty,pos,af,none⟩ N) F L :=
 zH (λw=>mE w r J val r') J val L' om fQ hC (λw I b hb=>((I.own r hm).2 b hb).1)
  (λw I u w' ⟨x,hJ,he,hk,ha,hf⟩=>⟨x,hJ,by grind,I.upd (hu x) hk ha hf⟩) next hd
end
end Go.Gx
namespace Go.Proofs.YtgnmiaonbadbnaaGreat
open Go Go.Gx
abbrev Vi:Go.Conc.Lib.WgLink:={ add:=95,done:=97,wait:=50,relMerge:=153,disable:=99,enable:=100,inBubble:=105,associate:=154,fatal:=155,uOr:=156,uAdd:=157,raceRead:=158,uLoad:=72,uStore:=159,disassociate:=103,semrelease:=160,acquire:=101,isAssociated:=102,uCas:=76,raceWrite:=104,semacquire:=106,orU64:=204,addU64:=205,loadU64:=124,storeU64:=206,casU64:=125,tWgP:=158,tUP:=243,tAssoc:=310,tWg:=143,tAU:=120,tU64:=41,tUint:=235,tU32:=57,tPU32:=246,tPAU:=270,tPU64:=253,tNoCopy:=141,tANoCopy:=117,tAlign64:=118 }
theorem wgH:Go.Conc.Lib.WgLib Tryz.prog Vi :=
 ⟨Tryz.func95,Tryz.func97,Tryz.func50,Tryz.func153,Tryz.func99,Tryz.func100,Tryz.func105,Tryz.func154,Tryz.func155,Tryz.func156,Tryz.func157,Tryz.func158,Tryz.func72,Tryz.func159,Tryz.func103,Tryz.func160,Tryz.func101,Tryz.func102,Tryz.func76,Tryz.func104,Tryz.func106,Tryz.func204,Tryz.func205,Tryz.func124,Tryz.func206,Tryz.func125,Tryz.underlying158,Tryz.runUnderlying158,Tryz.sizeOf158,Tryz.isAgg158,Tryz.zeroValue158,Tryz.underlying243,Tryz.runUnderlying243,Tryz.sizeOf243,Tryz.isAgg243,Tryz.zeroValue243,Tryz.underlying310,Tryz.runUnderlying310,Tryz.sizeOf310,Tryz.isAgg310,Tryz.zeroValue310,Tryz.underlying143,Tryz.runUnderlying143,Tryz.sizeOf143,Tryz.isAgg143,Tryz.zeroValue143,Tryz.underlying120,Tryz.runUnderlying120,Tryz.sizeOf120,Tryz.isAgg120,Tryz.zeroValue120,Tryz.underlying41,Tryz.runUnderlying41,Tryz.sizeOf41,Tryz.isAgg41,Tryz.zeroValue41,Tryz.underlying235,Tryz.runUnderlying235,Tryz.sizeOf235,Tryz.isAgg235,Tryz.zeroValue235,Tryz.underlying57,Tryz.runUnderlying57,Tryz.sizeOf57,Tryz.isAgg57,Tryz.zeroValue57,Tryz.underlying246,Tryz.runUnderlying246,Tryz.sizeOf246,Tryz.isAgg246,Tryz.zeroValue246,Tryz.underlying270,Tryz.runUnderlying270,Tryz.sizeOf270,Tryz.isAgg270,Tryz.zeroValue270,Tryz.underlying253,Tryz.runUnderlying253,Tryz.sizeOf253,Tryz.isAgg253,Tryz.zeroValue253,Tryz.underlying0,Tryz.runUnderlying0,Tryz.sizeOf0,Tryz.isAgg0,Tryz.zeroValue0,Tryz.underlying3,Tryz.runUnderlying3,Tryz.sizeOf3,Tryz.isAgg3,Tryz.zeroValue3,Tryz.underlying4,Tryz.runUnderlying4,Tryz.sizeOf4,Tryz.isAgg4,Tryz.zeroValue4,Tryz.underlying9,Tryz.runUnderlying9,Tryz.sizeOf9,Tryz.isAgg9,Tryz.zeroValue9,Tryz.underlying20,Tryz.runUnderlying20,Tryz.sizeOf20,Tryz.isAgg20,Tryz.zeroValue20,Tryz.underlying21,Tryz.runUnderlying21,Tryz.sizeOf21,Tryz.isAgg21,Tryz.zeroValue21,(by rfl),(by rfl)⟩
instance:Go.ConcR.Payload:=⟨4⟩
end Go.Proofs.YtgnmiaonbadbnaaGreat
namespace Go.Gx
open Go
variable {L:List du} {n m:UInt64}
section
variable {P:Program} {K:Ctx} {F:Fr} {g:Bool} {ty t t':TypeId} {x y:Operand}
theorem Ev.Nc {m n:UInt32} (hx:cV F g x (qZ m)) (hy:cV F g y (qZ n)) (hn:g = true->n ≠ 0):Ev P K F L g (.binOp .rem t x y t') ty (qZ (m % n)):=λhg =>
 Ev.ly hx hy (λw=>by
  have h0:(n.toNat:Int) ≠ 0:=λh=>hn hg (by apply nV.1; simpa using h)
  rw [BA (.inr rfl) h0]
  rfl) hg
theorem Ev.Xp (hx:cV F g x (fO m)) (hy:cV F g y (fO n)):Ev P K F L g (.binOp .leq t x y t') ty (.bool (decide (m <= n))) :=
 Ev.ly hx hy (jg (by simp [Op.intCmp,fR,Int.ofNat_le]) (.inr (.inr (.inr (.inl rfl)))))
theorem Ev.Xl (hx:cV F g x (fO m)) (hy:cV F g y (fO n)) {qJ:Array TypeId}:Ev P K F L g (.call { callee:=.builtin .max,args:=#[x,y],argTypes:=qJ }) ty (fO (max m n)):=.of rfl (λhg a G w hw dst pos af gd=>by
 have e1:execOp a.eval ⟨dst,.call { callee:=.builtin .max,args:=#[x,y],argTypes:=qJ },ty,pos,af,gd⟩ = (do pure (.value (<- Builtin.max2 (fO m) (fO n)))):=by
  simp [execOp,resolve,invoke,builtin,Builtin.max_,hx.eval hg G,hy.eval hg G]
 rw [e1];exact .bind (.pure _) λ_=>.pure _) λhg a G w hw dst pos af gd=>by
 have e:(max m n).toNat = max m.toNat n.toNat:=by
  show (if m <= n then n else m).toNat = _;split <;> rename_i h <;> rw [fR] at h <;> omega
 simp [execOp,resolve,invoke,builtin,Builtin.max_,Builtin.max2,hx.eval hg G,hy.eval hg G,fO,e];omega
theorem bO {Q:Exit->Act->World->Prop} {id Vs:Nat} (hne:Nat.beq Vs id = false) (h:Sat K (Q (.exit Vs)) F L):Sat K (Exit.inBlock id Q (.exit Vs)) F L:=λa w G=>by
 show (if Vs = id then Q .normal a w else Q (.exit Vs) a w);rw [if_neg (je hne)]; exact h a w G
end
end Go.Gx
namespace Go.Proofs.YtgnmiaonbadbnaaGreat
open Go Go.Gx Go.RowKit
section
variable {K:Ctx} {F:Fr} {L:List du} {g:Bool} {Q:Exit->Act->World->Prop} {N:Act->World->Prop} {ops:Array Oper}
 {op:Op} {ty t t':TypeId} {pos:String} {af:Array Edge} {d:Nat} {x y:Operand}
theorem Ev.agH {f:Fn} {fst cap:Array Value} {ps rs:Array TypeId} {vr:Bool} {P:Program} (ht:P.underlying t = some (.func ps rs vr)) (hx:cV F g x (.func f fst cap)) (hy:cV F g y .nilFunc):Ev P K F L g (.binOp .eql t x y t') ty (.bool false):=.of rfl (λhg ac G w _ dst pos af gd=>by
 show Tm P _ _ ((do eqGuard .eql t x y (ac.eval x) (ac.eval y); binOp .eql t (ac.eval x) (ac.eval y):Sem Value) >>= λr=>pure (Next.value r));rw [hx.eval hg G,hy.eval hg G];refine .bind (.bind (by exact .pure _) λ_=>.bind ?_ λ_=>.pure _) λ_=>.pure _
 show Tm P _ _ (Op.equalIn (9999 + 1) t (.func f fst cap) .nilFunc);refine .under ht ?_;exact .pure _) λhg ac G w _ dst pos af gd=>by
 have hru:(underlying t).run P w = .ok (.func ps rs vr) w:=by simp [underlying,ht]
 have hg1:(eqGuard .eql t x y (.func f fst cap) .nilFunc).run P w = .ok () w:=by
  unfold eqGuard
  rfl
 have hE:∀ d:Nat,(Op.equalIn (d + 1) t (.func f fst cap) .nilFunc).run P w = .ok false w:=λd=>by
  unfold Op.equalIn;rw [ay,hru]
  rfl
 have he:(Op.equal t (.func f fst cap) .nilFunc).run P w = .ok false w:=hE 9999;have hb:(binOp .eql t (.func f fst cap) .nilFunc).run P w = .ok (.bool false) w:=by
  have e1:binOp .eql t (.func f fst cap) .nilFunc = (do pure (.bool (<- Op.equal t (.func f fst cap) .nilFunc))):=rfl;rw [e1];simp only [ay,he,aj,aJ]
 simp only [execOp,hx.eval hg G,hy.eval hg G,ay,hg1,hb,aj,aJ]
end
end Go.Proofs.YtgnmiaonbadbnaaGreat
namespace Go.Gx
open Go Go.Conc Go.RowKit
variable {P:Program} {fr j:Nat} {f:FuncId} {v w W:World} {X:Ext} {args:Array Value} {fn:Func} {c:Code} {H α:Type} {ds:List (DataW H)} {k:IntKind} {t:TypeId} {E:dy α} {fs:Array Field}
def LvF (P:Program) (pm:Nat->Prop) (fr:Nat) (f:FuncId) (R:Value->World->Prop) (g:Goroutine) (v:World):Prop :=
 ∃ DT val v0,g = G DT [] /\ DT.fn = f /\ DT.kind = .normal /\ R val v0 /\ df v0 v /\ Leaves P pm fr DT val v
theorem LvF.closed {pm:Nat->Prop} {R:Value->World->Prop}:Closed (LvF P pm fr f R):=by
 rintro g v v1 ⟨DT,val,v0,h1,h1',h2,h3,h4,h5⟩ hg;exact ⟨DT,val,v0,h1,h1',h2,h3,h4.trans hg,h5.grow hg⟩
def JZ (X:Ext) (fr:Nat) (P:Program) (f:FuncId) (args:Array Value) (v:World) (R:ja):Prop :=
 eB X P true (tI v R.M) fr (LvF P (tI v R.M) fr f (λval v'=>R.Q (.returned val) v')) (G (Frame.enter P f args .normal) []) v
theorem JB {R:ja} (hf:P.funcs[f]? = some fn) (hb:fn.body = some c)
 (h:c.vp P ⟨X,fr,none⟩ (tI v R.M) (AA P fr fn (tI v R.M) R) { tmps:=args ++ Array.replicate (fn.ntmps - args.size) undef,defers:=[] } v):JZ X fr P f args v R:=by
 have e:Frame.enter P f args .normal = (oC f .normal).atR { tmps:=args ++ Array.replicate (fn.ntmps - args.size) undef,defers:=[] } [.code c]:=by
  simp [Frame.enter,Frame.atR,hf,hb,oC]
  rfl
 unfold JZ;rw [e];have lv:∀ (ds:List Deferred) (tm:Array Value) (v':World) (todo:List Item),wR P fr fn (tI v R.M) R tm ds v' ->
  eB X P true (tI v R.M) fr (LvF P (tI v R.M) fr f (λval v'=>R.Q (.returned val) v')) (G { (oC f .normal).atR ⟨tm,ds⟩ todo with mode:=.returning } []) v':=by
  intro ds
  induction ds with
  | nil =>
    rintro tm v' todo ⟨val,hr,hR⟩;exact .stop ⟨_,val,v',rfl,rfl,rfl,hR,.refl _,⟨rfl,rfl,fn,hf,hr⟩⟩
  | cons d ds ih =>
    rintro tm v' todo ⟨D,rfl,hD⟩;refine .go rfl λv3 w3 m3=>?_
    obtain⟨calls,v4,new,⟨rfl,hL⟩,q4,q6,qr⟩:=eG _ v3 (hD v3 m3.grow m3.nv);have⟨w',q2,q5⟩:=qr w3 #[] m3.gy;rw [di] at q2;exact ⟨_,v4,⟨w',_,NX (a:=⟨tm,[]⟩) q2,q4,q5,kT q6⟩,ih tm v4 todo hL⟩
 refine h true _ (oC f .normal) [] [] LvF.closed (λh=>by cases h) rfl λe a v' q=>?_
 cases e with
 | normal=>exact .ctl LvF.closed rfl (λw=>GS w rfl) (lv a.defers a.tmps v' _ q)
 | ret=>exact λk'=>.ctl LvF.closed rfl (λw=>LG w rfl) (lv a.defers a.tmps v' _ q)
 | exit id=>trivial
 | goto l=>trivial
 | panic ch=>trivial
 | outgrown=>trivial
def acf {R:ja} (n:Nat) (L:List du)
    (hf:P.funcs[f]? = some fn) (hb:fn.body = some c) (hn:fn.ntmps = n) (hsz:args.size <= n) (uK:fr <= w.heap.size) (hM:∀ b,R.M b->fr <= b) (hL:Ctx.OK ⟨n,w,R.M,⟨X,fr,none⟩⟩->bS ⟨n,w,R.M,⟨X,fr,none⟩⟩ L w)
    (h:Sat ⟨n,w,R.M,⟨X,fr,none⟩⟩ (c.vp P ⟨X,fr,none⟩ (tI w R.M) (bodyPost P ⟨n,w,R.M,⟨X,fr,none⟩⟩ fn R)) (dz :: tO 0 args.toList) L) (BO:Nat.ble n 1000000 = true:=by rfl):JZ X fr P f args w R :=
 JB hf hb (h _ _ ⟨GZ rfl (aT BO) hn hsz,hL ⟨uK,hM⟩⟩)
def mask (W:World):World:={ W with heap:=W.heap.map λo=>if qK o then dummy else o }
theorem pH (W:World) (i:Nat):(mask W).heap[i]? = (W.heap[i]?).map λo=>if qK o then dummy else o:=by simp [mask]
theorem Ai (W:World):(mask W).heap.size = W.heap.size:=by simp [mask]
theorem Le {i:Nat} {o:Obj} (h:W.heap[i]? = some o) (hw:qK o = false):(mask W).heap[i]? = some o:=by rw [pH,h]; grind
theorem Ps (W:World) (a:Addr):(mask W).cell? a = W.cell? a:=by
 simp only [World.cell?,pH];cases h:W.heap[a.block]? with
 | none=>rfl
 | some o=>cases o <;> rfl
theorem JH {w':World} (h:Beside v w v w') (m:vk v w) (me:∀ (b k:Nat) z,v.heap[b]? ≠ some (slot k z)):w' = w:=by
 have hh:w'.heap = w.heap:=by
  apply ik;intro i
  rcases Ri v i with h1 | ⟨o,h1,h2⟩ | ⟨k,x,h1⟩
  ·rw [h.gy.iL i h1,m.iL i h1]
  ·exact h.nE i o h1 h2
  ·exact absurd h1 (me _ _ _)
 have h3:=h.gy.drawn.trans m.drawn.symm;have⟨a1,a2,a3,a4,a5⟩:=w;have⟨b1,b2,b3,b4,b5⟩:=w';have h4:=h.tape;have h5:=h.os;have h6:=h.output
 grind
theorem Ye {rv:Value} (hin:P.inits.idxOf? f = none) (ym:∀ v w,X.fits v w) (IM:∀ g,¬ X.blk g)
 (A0:∀ [wT] (gs:Array Goroutine) (q:Nat->Nat) (t:Trace) (Shun:Loc->Prop) (d0:Nat) (sl0 sl1:Option (Nat × Nat)) (ga g:Goroutine) (u w:World) (S:Goroutine->World->Prop),X.kind true g u w S->Alike P ga g->fC P Shun t gs q ga u w->yI P gs w d0 sl0 sl1 ->
  Comes P (crowd gs (w.at d0) sl0) t S)
 (h:JZ X fr P f args (mask W) (dO (mask W) rv)) :
 ∃ M last o w' t',runNT P (M + 1) (solo (G (Frame.enter P f args .normal) []) W) #[] = (.ended o w',t') /\ runN P M (solo (G (Frame.enter P f args .normal) []) W) = .next last /\ step P last = .ended o w' ∧
   Conc.Good P (λv W'=>v = rv /\ Below W.heap.size W W') last o w' t':=by
 letI:wT:=⟨W,λb=>∃ o,W.heap[b]? = some o /\ qK o = true⟩;have nr:Hg (mask W):=λi k o x ho hr=>by
  rw [pH] at ho;obtain⟨o',h1,rfl⟩:=cd.1 ho
  by_cases hw:qK o' = true
  ·rw [if_pos hw] at hr; exact kW hr
  ·rw [if_neg hw] at hr;simp [qK,jH hr.pL] at hw
 have hB:fC P (λl=>∃ b o,l = .cell ⟨b,0,none⟩ /\ W.heap[b]? = some o /\ qK o = true) #[] #[G (Frame.enter P f args .normal) []] (λ_=>0) (G (Frame.enter P f args .normal) []) (mask W) W:=by
  refine ⟨rfl,leavers_one P _,⟨past_nil.clean,λi a ha=>by simp [touchAt,Trace.act?] at ha,past_nil.over,rfl,by simp⟩,λi op hi=>by simp at hi,λa k=>by simp [Trace.act?],λi o ho=>?_,⟨(Ai W).symm,rfl,rfl,rfl,rfl,λi hv=>?_,λi k x hx=>?_,λi k o x ho hr=>absurd hr (nr i k o x ho)⟩,λl ⟨b,o,h1,h2,h3⟩=>h1 ▸ .mk0 (c:=#[]) ?_,λb k z hz=>?_,nr,λb ⟨o,h1,h2⟩=>⟨⟨b,o,rfl,h1,h2⟩,rfl⟩⟩
  ·rw [pH] at ho;obtain⟨o',h1,rfl⟩:=cd.1 ho
   by_cases hw:qK o' = true
   ·rw [if_pos hw]; rfl
   ·rw [if_neg hw];simp only [qK,iH,not_or,Bool.not_eq_true] at hw;exact hw.2
  ·cases hW:W.heap[i]? with
   | none=>rw [pH,hW]; rfl
   | some o =>
     have h1:=pH W i;rw [hW,cB] at h1
     by_cases hw:qK o = true
     ·rw [if_pos hw] at h1;have:=hv _ h1;simp [u9,dummy] at this
     ·rw [if_neg hw] at h1; exact h1.symm
  ·rw [pH] at hx;have⟨o',h1,h2⟩:=cd.1 hx
   by_cases hw:qK o' = true
   ·rw [if_pos hw] at h2; simp [dummy,slot] at h2
   ·rw [if_neg hw] at h2;subst h2;exact absurd rfl hw
  ·show (mask W).heap[b]? = _;rw [pH,h2,cB,if_pos h3]; rfl
  ·rw [pH] at hz;have⟨o',h1,h2⟩:=cd.1 hz
   by_cases hw:qK o' = true
   ·rw [if_pos hw] at h2; simp [dummy,slot] at h2
   ·rw [if_neg hw] at h2;subst h2;exact absurd rfl hw
 obtain⟨N,yn,w',OQ,t',q',Sh',ga,g',v',u',h1,⟨DT,val,v0,rfl,hfn,NL,⟨hv,hk⟩,PD,hL⟩,hg,al,Vz⟩:=yd ym IM (λgs q t Shun d0 sl0 sl1 ga g u w S=>A0 gs q t Shun d0 sl0 sl1 ga g u w S) h _ _ _ _ none _ _ _ (.refl _) (.refl _ _) hB;obtain rfl:=Ending.returned.inj hv;have hkept:∀ b o,W.heap[b]? = some o->qK o = true->w'.heap[b]? = W.heap[b]?:=λb o h2 h3=>(Vz.kept b ⟨o,h2,h3⟩).2
 have end1:∀ w₁,AtRel w' w₁->AtEnd P Sh' w'.heap.size (λv W'=>v = val /\ Below W.heap.size W W') ga w₁:=by
  rintro w₁ ⟨d,rfl⟩;have Vy:=Vz.at d;have hLu:=hL.grow (hg.trans (df.at u' d));have⟨fn,hf,Lr⟩:=hLu.res;obtain⟨x,v3,new,⟨rfl,rfl⟩,q4,q6,qr⟩:=eG _ (u'.at d) (Lr _ (.refl _) Vy.nv);have⟨w3,q2,q5⟩:=qr (w'.at d) #[] Vy.gy;rw [di] at q2;obtain rfl:=JH q5 Vy.gy Vy.me;refine ⟨al.st.trans rfl,x,seen P DT.fn new,?_,λe he=>?_,rfl,?_⟩
  ·rw [al.step];simp only [G,stepG,hL.mode,unwind,hL.defers,hf];rw [q2];simp [GStep.after,doReturn,NL,seen,hfn,hin]
  ·have h5:=yw (kT q6 e he) Vy.nE;have h6:(u'.at d).heap.size = w'.heap.size:=Vy.gy.size.symm;rw [<- h6];exact h5
  ·have hu:bf fX (mask W) u':=(hk.trans (.eA PD)).trans (.eA hg);refine ⟨Vz.gy.os.trans hu.os,Vz.gy.tape.trans hu.tape,Vz.gy.output.trans hu.output,?_,λk hkl=>?_⟩
   ·have:=hu.size;rw [Ai] at this;rw [show (w'.at d).heap.size = w'.heap.size from rfl,Vz.gy.size];exact this
   ·show w'.heap[k]? = W.heap[k]?;have hW:=aX hkl
    by_cases hw:qK W.heap[k] = true
    ·exact hkept k _ hW hw
    ·have hw':qK W.heap[k] = false:=by simpa using hw
     have h6:=hu.block k (by rw [Ai]; exact hkl) id;rw [Le hW hw'] at h6;rw [Vz.gy.iL k λo ho=>?_,h6,hW];rw [h6] at ho;obtain rfl:=ak ho;simp only [qK,iJ] at hw';exact hw'.1
 have⟨N2,last,o,w2,t2,k1,k2,k3,k4⟩:=beside_ends (D:=λ_ _ _=>False) (λ_ _ _ h=>h.elim) Vz.QN Vz.leave Vz.past (n:=0) end1 (sl:=OQ);refine ⟨N + N2,last,o,w2,t2,?_,?_,k3,k4⟩
 ·exact runNT_then h1 k1
 ·rw [<- runNT_fst P _ _ #[],solo_eq_crowd,runNT_add,h1];rw [runNT_fst,k2]
section
variable {K:Ctx} {F:Fr} {L:List du} {Q:Exit->Act->World->Prop} {N:Act->World->Prop} {ops:Array Oper} {op:Op} {ty:TypeId} {pos:String} {af:Array Edge}
theorem aiY {dst:Option Tmp} {tg:Nat} {want c2:Bool} (hj:(ops[j]?).bind (·.dst) = some tg) (hg:look F tg = some (true,.bool c2)) (hw:c2 = want)
 (h:Sat K (dw P K ops Q ⟨dst,op,ty,pos,af,none⟩ N) F L):Sat K (dw P K ops Q ⟨dst,op,ty,pos,af,some (j,want)⟩ N) F L:=λa w G=>by
 have hw':=r6 (o:=⟨dst,op,ty,pos,af,some (j,want)⟩) rfl hj hg G.fo;have h1:=h a w G;unfold dw at h1 ⊢;rw [hw',hw];simp only [Region.wanted,if_true,beq_self_eq_true,Bool.and_self] at h1 ⊢;exact h1
end
section
variable {β:Type} {e:TypeId}
theorem zb {f:α->Int} (ht:P.underlying t = some (.int k)) (hE:∀ a,E.cells a = [.int k (f a)]) (hg:E.agg = false) (w:World) (r:Reach) (b:Nat) (v:Value) (a:α) (h:Value.okWide P w r b t v) (hc:v.cells.toList = E.cells a):v = E.val a:=by
 obtain⟨n,rfl⟩:=Go.WideShapes.okWide_int ht h
 grind [dy.val,Value.cells]
theorem B6 {n:Int} (h:(Lit.int k n).wf = true):k.has n:=by
 grind [Lit.wf,IntKind.has]
theorem uV (ht:P.underlying t = some (.int .u8)) (hc:P.cellsOf t = 1):xy P t iO (λ_ _ _ _=>True) where
 cells:=hc
 op enc w sp held fuel cs x h:=by
  obtain⟨n,rfl,_,hw⟩:=kR ht h;have h1:(0:Int) <= n /\ n <= 255:=B6 hw;refine ⟨UInt8.ofNat n.toNat,?_,trivial⟩;show [Value.int .u8 n] = [U8 (UInt8.ofNat n.toNat)]
  grind [UInt8.toNat_ofNat',U8]
 val:=zb ht (f:=λa=>(a.toNat:Int)) (λ_=>rfl) rfl
theorem BG (ht:P.underlying t = some (.int .u16)) (hc:P.cellsOf t = 1):xy P t xw (λ_ _ _ _=>True) where
 cells:=hc
 op enc w sp held fuel cs x h:=by
  obtain⟨n,rfl,_,hw⟩:=kR ht h;have h1:(0:Int) <= n /\ n <= 65535:=B6 hw;refine ⟨UInt16.ofNat n.toNat,?_,trivial⟩;show [Value.int .u16 n] = [rX (UInt16.ofNat n.toNat)]
  grind [UInt16.toNat_ofNat',rX]
 val:=zb ht (f:=λa=>(a.toNat:Int)) (λ_=>rfl) rfl
theorem Nl (ht:P.underlying t = some (.int .u32)) (hc:P.cellsOf t = 1):xy P t OE (λ_ _ _ _=>True) where
 cells:=hc
 op enc w sp held fuel cs x h:=by
  obtain⟨n,rfl,_,hw⟩:=kR ht h;have h1:(0:Int) <= n /\ n <= 4294967295:=B6 hw;refine ⟨UInt32.ofNat n.toNat,?_,trivial⟩;show [Value.int .u32 n] = [qZ (UInt32.ofNat n.toNat)]
  grind [UInt32.toNat_ofNat',qZ]
 val:=zb ht (f:=λa=>(a.toNat:Int)) (λ_=>rfl) rfl
theorem yZ (ht:P.underlying t = some (.int .u64)) (hc:P.cellsOf t = 1):xy P t lG (λ_ _ _ _=>True) where
 cells:=hc
 op enc w sp held fuel cs x h:=by
  obtain⟨n,rfl,_,hw⟩:=kR ht h;have h1:(0:Int) <= n /\ n <= 18446744073709551615:=B6 hw;refine ⟨UInt64.ofNat n.toNat,?_,trivial⟩;show [Value.int .u64 n] = [fO (UInt64.ofNat n.toNat)]
  grind [UInt64.toNat_ofNat',fO]
 val:=zb ht (f:=λa=>(a.toNat:Int)) (λ_=>rfl) rfl
theorem vA (ht:P.underlying t = some (.int .i64)) (hc:P.cellsOf t = 1):xy P t iE (λ_ n _ _=>Fit n) where
 cells:=hc
 op enc w sp held fuel cs x h:=by
  obtain⟨n,rfl,_,hw⟩:=kR ht h;exact ⟨n,rfl,B6 hw⟩
 val:=zb ht (f:=λa=>a) (λ_=>rfl) rfl
theorem Zp (ht:P.underlying t = some .bool) (hc:P.cellsOf t = 1):xy P t bE (λ_ _ _ _=>True) where
 cells:=hc
 op enc w sp held fuel cs x h:=by
  obtain⟨b,rfl,_⟩:=DataW.trod_bool ht h;exact ⟨b,rfl,trivial⟩
 val w r b v a h hc:=by
  obtain⟨n,rfl⟩:=Go.WideShapes.okWide_bool ht h;have e:bE.cells a = [.bool a]:=rfl;rw [e] at hc;simp [Value.cells] at hc;rw [hc]
  rfl
theorem Ib (ht:P.underlying t = some .string) (hc:P.cellsOf t = 1):xy P t sE (λ_ s _ d=>s.size <= maxLen /\ d = .lit (.string s.data.toList)) where
 cells:=hc
 op enc w sp held fuel cs x h:=by
  obtain⟨s,rfl,hx,hs⟩:=DataW.trod_string ht h;exact ⟨s,rfl,hs,by rw [hx]⟩
 val w r b v a h hc:=by
  obtain⟨n,rfl⟩:=Go.WideShapes.okWide_string ht h;have e:sE.cells a = [.string a]:=rfl;rw [e] at hc;simp [Value.cells] at hc;rw [hc]
  rfl
def SlD (d:DataW H) (ds:List (DataW H)):Prop:=ds = [] \/ ∃ sp,d = .slice ds sp
def UY (E:dy α) (Q:Kn α):Kn OV:=λw o H d=>∃ xs ds,bU E w o.v xs /\ SlD d ds /\ xs.length = ds.length /\ ∀ i (h1:i < xs.length) (h2:i < ds.length),Q w xs[i] H ds[i]
theorem sw {Q:Kn α} (O:xy P e E Q) (ht:P.underlying t = some (.slice e)) (hc:P.cellsOf t = 1) (hsz:Nat.blt 0 E.size = true):xy P t (dJ aM) (UY E Q) where
 cells:=hc
 op {H} enc w sp held fuel cs x h:=by
  rcases DataW.trod_slice ht h with ⟨rfl,_⟩ | ⟨a,len,cap,elems,rest,n,rfl,rfl,hx,_,h1,h2,h3,h4,_⟩
  ·exact ⟨aM,rfl,[],[],bU.nil E w,.inl rfl,rfl,λi h _=>absurd h (eC _)⟩
  ·refine ⟨⟨.slice (some a) len cap,rfl⟩,rfl,?_⟩;have hpos:0 < E.size:=by simpa [ir] using hsz
   have each:∀ i,(hi:i < len)->∃ y,w.cells? 0 (a.add (i * E.size)) E.size = some (E.cells y) /\ Q w y H (elems[i]'(by omega)).1:=λi hi=>by
    have h5:=h4 i hi;rw [bW (by omega),O.cells] at h5;cases hcs:w.cells? 0 (a.add (i * E.size)) E.size with
    | none=>rw [hcs] at h5; simp at h5
    | some cs =>
      rw [hcs] at h5;obtain⟨y,rfl,hy⟩:=O.op enc w sp held n cs _ h5;exact ⟨y,rfl,hy⟩
   have all:∀ n,n <= len->∃ xs:List α,xs.length = n /\ (∀ i (hi:i < n),w.cells? 0 (a.add (i * E.size)) E.size = some (E.cells (xs.getD i E.zero))) /\ ∀ i (h1:i < xs.length) (h2:i < elems.length),Q w xs[i] H (elems[i]).1:=by
    intro n
    induction n with
    | zero=>exact λ_=>⟨[],rfl,λi hi=>absurd hi (eC _),λi h _=>absurd h (eC _)⟩
    | succ n ih =>
      intro hn;have⟨xs,e1,e2,e3⟩:=ih (by omega);have⟨y,e4,e5⟩:=each n (by omega);refine ⟨xs ++ [y],by simp [e1],λi hi=>?_,λi hi1 hi2=>?_⟩
      ·by_cases hin:i < n
       ·rw [e2 i hin];simp [List.getD,jM,e1,hin]
       ·have:i = n:=by omega
        subst this;rw [e4];simp [List.getD,jM,e1]
      ·by_cases hin:i < n
       ·have e6:=e3 i (by omega) hi2;rw [mF (by omega)];exact e6
       ·have:i = n:=by simp at hi1; omega
        subst this;rw [ma (by omega)]
        simpa [e1] using e5
   have⟨xs,e1,e2,e3⟩:=all len (aA _);refine ⟨xs,elems.map (·.1),⟨some a,cap,by rw [e1],by omega,h2,λh=>(by cases h),λp hp=>?_⟩,.inr ⟨_,by rw [hx]⟩,by grind,λi h1 h2=>by grind⟩;cases hp;have cell:∀ i,i < xs.length->∀ j,j < E.size->w.cell? (a.add (i * E.size + j)) = (E.cells (xs.getD i E.zero))[j]?:=λi hi j hj=>by
    have h5:=(World.cells?_some (e2 i (by omega))).2.2 j hj
    rwa [Go.Addr.add_add] at h5
   have spot:xs ≠ []->a.spot = none:=λhne=>by
    have h6:=cell 0 (lV.2 hne) 0 hpos;rw [bW (by rw [E.len]; exact hpos)] at h6
    simpa [Addr.add] using World.cell?_spot h6
   refine ⟨spot,λj u hu=>?_⟩;have hj:j < xs.length * E.size:=by
    have:=(cY.1 hu).1
    rwa [E.fp] at this
   have hi:j / E.size < xs.length:=Nat.div_lt_of_lt_mul (by rwa [oG] at hj);have hm:j % E.size < E.size:=jY _ hpos;have ej:j = j / E.size * E.size + j % E.size:=by rw [oG]; exact (Nat.div_add_mod j E.size).symm
   have h7:=cell _ hi _ hm;rw [<- E.F6 xs (j / E.size) (j % E.size) E.zero hi hm,<- ej] at h7;rw [hu] at h7;have hs:=spot (λe=>by rw [e] at hi; exact absurd hi (eC _));obtain⟨ab,ao,asp⟩:=a
   grind [lL]
 val w r b v a h hc:=by
  obtain⟨p,l,c,rfl⟩:=Go.WideShapes.okWide_slice ht h;have e:(dJ aM).cells a = [a.v]:=rfl;rw [e] at hc;simp [Value.cells] at hc
  assumption
theorem Oh (hg:E.agg = true) {v:Value} {a:α} (h:∃ cs,v = .agg cs) (hc:v.cells.toList = E.cells a):v = E.val a:=by
 obtain⟨cs,rfl⟩:=h;unfold dy.val;rw [hg,<- hc]
 rfl
theorem WY {Q:Kn α} {n:Nat} (O:xy P e E Q) (ht:P.underlying t = some (.array n e)) (hc:P.cellsOf t = n * E.size):xy P t (mh n E) (λw v H d=>∃ ds,d = .agg ds /\ ∀ i (hi:i < n) (h2:i < ds.length),Q w v[i] H ds[i]) where
 cells:=hc
 op {H} enc w sp held fuel cs x h:=by
  obtain⟨xs,m,rfl,hx,h1,h2,h3⟩:=DataW.trod_array ht h;have each:∀ i,(hi:i < n)->∃ y,(cs.drop (i * E.size)).take E.size = E.cells y /\ Q w y H (xs[i]'(by omega)).1:=λi hi=>by
   have h5:=h3 i hi;rw [bW (by omega),O.cells] at h5;exact O.op enc w sp held m _ _ h5
  have all:∀ k,k <= n->∃ ys:List α,ys.length = k /\ cs.take (k * E.size) = E.row ys /\ ∀ i (h1:i < ys.length) (h2:i < xs.length),Q w ys[i] H (xs[i]).1:=by
   intro k
   induction k with
   | zero=>exact λ_=>⟨[],rfl,by simp [dy.row],λi h _=>absurd h (eC _)⟩
   | succ k ih =>
     intro hk;have⟨ys,e1,e2,e3⟩:=ih (by omega);have⟨y,e4,e5⟩:=each k (by omega);refine ⟨ys ++ [y],by simp [e1],?_,λi hi1 hi2=>?_⟩
     ·rw [E.ql,<- e2,dY,iV,qf,e4];simp [dy.row]
     ·by_cases hin:i < k
      ·have e6:=e3 i (by omega) hi2;rw [mF (by omega)];exact e6
      ·have:i = k:=by simp at hi1; omega
       subst this;rw [ma (by omega)]
       simpa [e1] using e5
  have⟨ys,e1,e2,e3⟩:=all n (aA _);refine ⟨⟨ys.toArray,by omega⟩,?_,xs.map (·.1),by rw [hx],λi hi h2=>by simp_all⟩;rw [bH (by rw [h1,hc]; exact aA _)] at e2
  assumption
 val w r b v a h hcl:=Oh rfl (by
  grind [Value.okWide]) hcl
theorem iY {E:dy β} {to:β->α} {of:α->β} {Q:World->β->(H:Type)->List (DataW H)->Prop} (ht:P.underlying t = some (.struct fs)) (hc:P.cellsOf t = E.size) (R:iI P fs.toList 0 E Q) (hto:∀ b,of (to b) = b) :
 xy P t (l8 E to of) (λw a H d=>∃ ds,d = .agg ds /\ Q w (of a) H ds) where
 cells:=hc
 op enc w sp held fuel cs x h:=by
  obtain⟨xs,n,rfl,hx,h1,h2,h3⟩:=DataW.trod_struct ht h;have⟨b,h4,h5⟩:=R.op enc w sp held n cs xs (by omega) (λi hi1 hi2=>by
   have h6:=h3 i fs.toList[i] (by simp)
   grind)
  refine ⟨to b,?_,_,by rw [hx],by grind⟩;show cs = E.cells (of (to b))
  grind
 val w r b v a h hcl:=Oh rfl (by
  grind [Go.WideShapes.okWide_struct]) hcl
theorem one_le (d:DataW H):1 <= Go.Proofs.YtgnmiaonbadbnaaGreat.Rows.uptoBulk d:=by
 cases d with
 | lit l=>cases l <;> simp [Go.Proofs.YtgnmiaonbadbnaaGreat.Rows.uptoBulk]
 | nil=>simp [Go.Proofs.YtgnmiaonbadbnaaGreat.Rows.uptoBulk]
 | ptr d=>simp [Go.Proofs.YtgnmiaonbadbnaaGreat.Rows.uptoBulk]
 | slice elems spare=>simp [Go.Proofs.YtgnmiaonbadbnaaGreat.Rows.uptoBulk]
 | agg parts=>simp [Go.Proofs.YtgnmiaonbadbnaaGreat.Rows.uptoBulk]
 | iface t d=>simp [Go.Proofs.YtgnmiaonbadbnaaGreat.Rows.uptoBulk]
 | map entries=>simp [Go.Proofs.YtgnmiaonbadbnaaGreat.Rows.uptoBulk]
 | held h=>simp [Go.Proofs.YtgnmiaonbadbnaaGreat.Rows.uptoBulk]
theorem SlD.akh {d:DataW H} (h:SlD d ds):Go.Proofs.YtgnmiaonbadbnaaGreat.Rows.uptoBulkAll ds + 1 <= Go.Proofs.YtgnmiaonbadbnaaGreat.Rows.uptoBulk d:=by
 rcases h with rfl | ⟨sp,rfl⟩
 ·have:=one_le d
  assumption
 simp [Go.Proofs.YtgnmiaonbadbnaaGreat.Rows.uptoBulk]
end
theorem EF {ts:List TypeId} {parts:List (DataW H)} (hz:(DataW.weightsEach P ts ds).all (· <= reachBytes) = true) (ht:ts[j]? = some t) (hd:ds[j]? = some (.agg parts)) (hu:P.underlying t = some (.struct fs)) :
 (DataW.weightsEach P (fs.toList.map (·.type)) parts).all (· <= reachBytes) = true:=by grind [DataW.weights_mem_each,DataW.weights]
end Go.Gx
