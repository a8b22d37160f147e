/- Part. -/
import Derived.Test.YtgnmiaonbadbnaaGreatM5
import Derived.Test.YtgnmiaonbadbnaaGreatM1
import Derived.Conc.WgGenN3
import Derived.Conc.Events
import Derived.Test.YtgnmiaonbadbnaaGreatH3
import Derived.Orders
set_option linter.unusedVariables false
set_option linter.defProp false
set_option linter.unusedSimpArgs false
set_option linter.unusedSectionVars false
set_option maxRecDepth 100000
set_option maxHeartbeats 2000000
namespace Go.Gx
open Go Go.Conc Go.ConcN
open Go.ConcR (KK wgBlock WgAt stA smA rd wr mk Payload DC0 Bk g_of_ofEvents)
variable {P:Program} {ty:TypeId} {Wg i n' b r c j n fr fr2:Nat} {said:Bool->Value->Prop} {gJ Fin T T2:Goroutine->World->Prop} {u v w w' v':World} {ow ow' q:Nat->Nat} {l l' rest:List Nat} {x:Operand} {x':PX} {g g':Goroutine} {mm mm':MX} {bl bl' main:Bool} {gs:Array Goroutine} {t:Trace} {D:Nat->PX} {sm st' sm':Int} {sl:Option (Nat × Nat)} {es:Array Event} {a:Nat × aC} {F xc F' X pm pm2:Nat->Prop} {G0 G':Gh} {tr tr':Tr} {o o':Obj} {lo:Loc} {cs:List Frame} {z v0 ze:Value} {B2:World->Prop} {ops:Array Oper} {cases:Array CommCase} {mk:Value->Prop} {e0:En}
section
variable [Payload] [av] {k base:Nat} {s:aC} {G:Gh} {al:Al} {x:PX} {st:Int}
theorem cj.ags {al':Al} (S:cj P ty Wg said gJ base gs w t D mm al l bl q ow G st sm) (hg:gs[0]? = some g) (hgo:stepG P true g w = .go g' w' es) (XJ:AF P ty Wg said gJ al' l' ow' G w' bl' mm' g')
 (hal:∀ (k:Nat) a',al'[k]? = some a'->∃ a,al[k]? = some a /\ a.2 = a'.2 /\ (a'.1 = 1 ↔ a.1 = 1)) (hlen:al'.length = al.length) (aoK:JU base al' = JU base al)
 (hmd:2 <= mm.md ↔ 2 <= mm'.md) (ZO:2 <= mm.md->mm'.k = mm.k) (h2:mm.md = 2->mm'.md = 2) (h1:mm'.md ≠ 1)
 (hoth:∀ k' a',al[k']? = some a'->∀ u G,VT k' a'.2 ow G w u->VT k' a'.2 ow' G w' (hZ u w')) (hsz:w.heap.size <= w'.heap.size) (hRW:∀ i,RW ty Wg av.C av.n 0 i w w')
 (agj:∀ a ∈ al',(∃ m,w'.heap[a.2.ct]? = some (.chan 0 #[] false m m false)) /\ (∃ m,w'.heap[a.2.ce]? = some (.chan 0 #[] (a.1 == 2) m m false)) /\ ∃ m,w'.heap[a.2.cs]? = some (.chan 0 #[] false m m false))
 (Ff:PastS (ShN Wg) av.Sn (JU base al) (yJ base l' al.length D) (QQ base mm' al.length D) w'.heap.size (hP base mm') (t ++ MemOp.ofEvents 0 g.frame.fn g.frame.place es))
 (hnr:∀ e ∈ es,∀ a,MemAct.ofEvent e ≠ .mark (.release a)) (Vw:deafBehind (jr l) es = jr l') (hkept:∀ b,¬ fq b->w'.heap[b]? = w.heap[b]?) (Tg:∀ b,b < w.heap.size->ow' b = ow b) (Tf:∀ b,ow' b = 0->¬ fq b)
 (hwf:Qu av.n al.length l') (oZ:WgAt ty Wg w' st' sm') (hmode:ConcN.Mode al.length (pf D) (jZ l' bl') st' sm') (ZT:∀ b,l' = [2,b]->Vc al.length (pf D) <= b) (hμ:lX (uJ base av.n D mm' al.length q bl') (uJ base av.n D mm al.length q bl)) :
 ∃ m' ops μ',runT P (crowd gs w sl) 0 = (.next m',ops) /\ lX μ' (uJ base av.n D mm al.length q bl) /\ nA P ty Wg said gJ base μ' m' (t ++ ops):=by
 have hp:=S.pos;have hrun:=runT_crowd_go (sl:=sl) hg hgo;have ho:∀ op ∈ MemOp.ofEvents 0 g.frame.fn g.frame.place es,op.g = 0:=g_of_ofEvents;have hm:∀ a' ∈ al',∃ a ∈ al,a.2 = a'.2:=λa' ha'=>by
  have⟨k,hk⟩:=aP ha';have⟨a,h1,h2,_⟩:=hal k a' hk;exact ⟨a,ai h1,h2⟩
 refine ⟨_,_,_,hrun,hμ,_,w',sl,D,mm',al',l',bl',q,ow',G,st',sm',rfl,⟨hp,by simp [S.size,hlen],λy g0 hy0 Vu hi=>?_,⟨g',by grind,XJ⟩,λy b' hy=>?_,λy b' hy=>?_,by grind,λy op hy=>?_,
  λa=>r8 (S.norel a) λe he=>hnr e he a,by rw [Deaf_own,S.deaf0,Vw],λy hy=>by rw [Deaf_other t (by omega) _ ho,S.deafW y (by omega)],λy hy hst=>?_,λb hb=>(hkept b hb).trans (S.kept b hb),?_,Tf,S.afl Tg,S.sn' Tg,?_,λa ha b hb=>?_,λy y' b1 b2 e1 e2=>?_,agj,by grind,oZ,by grind,by grind⟩,by grind⟩
 ·exact s43
 ·have⟨b,e1,e2,e3⟩:=hal y b' hy;have⟨z,hz,hT⟩:=S.EB y b e1;have XH:=hT.step (hoth y b e1) hsz (λ_=>hRW _);have⟨⟨m1,c1⟩,⟨m2,c2⟩,m3,c3⟩:=agj b' (ai hy);rw [<- e2] at c1 c2 c3 ⊢;refine ⟨z,?_,XH⟩;rw [get_map_set _ _ _ _ (by omega),hz,cB,XH.woken ⟨_,_,_,_,_,c1⟩ (λh3=>?_) ⟨_,_,_,_,_,c3⟩];have eb:=e3.2 (by
   rcases S.now y b e1 with ⟨_,_,h,_⟩ | ⟨_,⟨_,h,_⟩ | ⟨h,_⟩⟩
   ·exact h
   ·exact h
   ·exact absurd h h3)
  rw [eb] at c2;exact ⟨_,_,_,_,_,c2⟩
 ·have⟨b,e0,_,e3⟩:=hal y b' hy
  rcases S.now y b e0 with ⟨e1,e2,e4,e5,e6⟩ | ⟨e1,e2⟩
  ·grind
  grind
 ·rw [hlen];exact s40
 ·have⟨r,hr⟩:=S.rel y (by omega) hst;exact ⟨r,hr.appOther ho (by omega)⟩
 ·have⟨h1,h2,h3⟩:=S.H9
  grind
 ·have⟨h1,h2,h3⟩:=S.CG
  grind
 ·have⟨a0,ha0,e⟩:=hm a ha;rw [<- e] at hb;have⟨h1,h2,h3,h4⟩:=S.rn a0 ha0 b hb
  grind
 ·intro i1 i2 b' h3 h4;have⟨a1,g1,g2,_⟩:=hal y b1 e1;have⟨a2,g3,g4,_⟩:=hal y' b2 e2;exact S.sep y y' a1 a2 g1 g3 i1 i2 b' (by grind) (by grind)
theorem cj.goM (S:cj P ty Wg said gJ base gs w t D mm al l bl q ow G st sm) (hg:gs[0]? = some g) (hgo:stepG P true g w = .go g' w' es) (XJ:AF P ty Wg said gJ al l' ow' G w' bl' mm' g')
 (hmd:2 <= mm.md ↔ 2 <= mm'.md) (ZO:2 <= mm.md->mm'.k = mm.k) (h2:mm.md = 2->mm'.md = 2) (h1:mm'.md ≠ 1)
 (hoth:∀ k' a',al[k']? = some a'->∀ u G,VT k' a'.2 ow G w u->VT k' a'.2 ow' G w' (hZ u w')) (hsz:w.heap.size <= w'.heap.size) (hRW:∀ i,RW ty Wg av.C av.n 0 i w w') (hch:∀ a ∈ al,∀ b ∈ [a.2.ct,a.2.ce,a.2.cs,a.2.bx],w'.heap[b]? = w.heap[b]?)
 (Ff:PastS (ShN Wg) av.Sn (JU base al) (yJ base l' al.length D) (QQ base mm' al.length D) w'.heap.size (hP base mm') (t ++ MemOp.ofEvents 0 g.frame.fn g.frame.place es))
 (hnr:∀ e ∈ es,∀ a,MemAct.ofEvent e ≠ .mark (.release a)) (Vw:deafBehind (jr l) es = jr l') (hkept:∀ b,¬ fq b->w'.heap[b]? = w.heap[b]?) (Tg:∀ b,b < w.heap.size->ow' b = ow b) (Tf:∀ b,ow' b = 0->¬ fq b)
 (hwf:Qu av.n al.length l') (oZ:WgAt ty Wg w' st' sm') (hmode:ConcN.Mode al.length (pf D) (jZ l' bl') st' sm') (ZT:∀ b,l' = [2,b]->Vc al.length (pf D) <= b) (hμ:lX (uJ base av.n D mm' al.length q bl') (uJ base av.n D mm al.length q bl)) :
 ∃ m' ops μ',runT P (crowd gs w sl) 0 = (.next m',ops) /\ lX μ' (uJ base av.n D mm al.length q bl) /\ nA P ty Wg said gJ base μ' m' (t ++ ops) :=
 S.ags hg hgo XJ (λk a h=>⟨a,h,rfl,.rfl⟩) rfl rfl hmd ZO h2 h1 hoth hsz hRW (λa ha=>by
  have⟨⟨m1,h1⟩,⟨m2,h2⟩,m3,h3⟩:=S.FF a ha
  grind) Ff hnr Vw hkept Tg Tf hwf oZ hmode ZT hμ
theorem cj.aiA (S:cj P ty Wg said gJ base gs w t D mm al l false q ow G st sm) (h0:gs[0]? = some g) (hm:mm = ⟨tr,2,k,n' + 2⟩) (hk:al[k]? = some (1,s)) (QO:VM Wg ow l al G w (gQ F v w)) (hsz:v.heap.size <= w.heap.size) (hF:∀ b,F b->¬ xM Wg al b) (hl:jr l = 0)
 (hgo:stepG P true g w = .go g' w' es) (hD:DMt s w w' es) (hrun:g'.status = .running) (hT:Goes P true (λ_ w1=>oo s w1) (DMt s) (λg _=>MAt P ty Wg said gJ k s G F v al tr g) n' g' w') :
 ∃ m' ops μ',runT P (crowd gs w sl) 0 = (.next m',ops) /\ lX μ' (uJ base av.n D mm al.length q false) /\ nA P ty Wg said gJ base μ' m' (t ++ ops):=by
 subst hm;obtain⟨⟨d,rfl⟩,Ed⟩:=hD;have ho:∀ op ∈ MemOp.ofEvents 0 g.frame.fn g.frame.place es,op.g = 0:=g_of_ofEvents;have wH:=ai hk;have hA:Conc.Aside Wg w (w.at d):=⟨rfl,rfl,rfl,rfl,λ_ _=>rfl⟩;have⟨h1,h2,h3,h4,h5⟩:=S.aside hA S.wg;have hst:∀ e ∈ es,e.loc ≠ .mark .disable /\ e.loc ≠ .mark .enable:=by grind
 have VM2:VM Wg ow l al G (w.at d) (gQ F v (w.at d)):=by
  have:=h2 _ QO
  rwa [<- uG (w':=w.at d) hsz (aA _)] at this
 refine S.goM (l':=l) (ow':=ow) (st':=st) (sm':=sm) h0 hgo (.mV VM2 hsz hF hk hl hrun hT) .rfl (λ_=>rfl) (λ_=>rfl) (by simp) h1 (aA _)
  h3 (λ_ _ _ _=>rfl) (S.past.app ho (λ_=>?_) (λop g9=>?_) λop g9 b hb=>?_) (λe he a=>by grind [MemAct.ofEvent]) (deafBehind_still hst _) h5 (λ_ _=>rfl) S.DR S.wf S.wg S.mode S.bound
  (Prod.Lex.right _ (Prod.Lex.right _ (Prod.Lex.right _ (Prod.Lex.left _ _ (by simp)))))
 ·grind [Deaf_own,deafBehind_still]
 ·obtain⟨e,he,rfl⟩:=Conc.mem_ofEvents g9
  rcases Ed e he with ⟨i,_,rfl⟩ | rfl
  ·exact (S.rn _ wH s.sb (by simp [aC.bT])).2.2.1
  ·exact (S.rn _ wH s.bx (by simp [aC.bT])).2.2.1
 ·obtain⟨e,he,rfl⟩:=Conc.mem_ofEvents g9
  rcases Ed e he with ⟨i,hi,rfl⟩ | rfl <;> (simp only [ofEvent_cell0,MemAct.touch?,br] at hb; subst hb)
  ·refine ⟨S.wb rfl (.inl (S.Gb (S.rn (1,s) wH s.sb (by simp [aC.bT])).1)),λ⟨a1,e1,e2⟩=>?_,.inr (.inr ⟨rfl,.inl ⟨rfl,hl⟩,.inl ⟨rfl,aA 2⟩,k,(1,s),i,hk,hi,.inl rfl,.inl rfl⟩)⟩;cases e1;exact absurd e2 (S.rn _ wH s.sb (by simp [aC.bT])).2.2.2
  ·refine ⟨S.wb rfl (.inl (S.Gb (S.rn (1,s) wH s.bx (by simp [aC.bT])).1)),λ⟨a1,e1,e2⟩=>?_,.inr (.inr ⟨rfl,.inl ⟨rfl,hl⟩,.inl ⟨rfl,aA 2⟩,k,(1,s),0,hk,(by decide),.inr rfl,.inl rfl⟩)⟩;cases e1;exact absurd e2 (S.rn _ wH s.bx (by simp [aC.bT])).2.2.2
theorem cj.afc (S:cj P ty Wg said gJ base gs w t D mm al l false q ow G st sm) (h0:gs[0]? = some g) (hm:mm = ⟨tr,0,0,0⟩) (V:VM Wg ow l al G w u) (hp:Bt P true fq 0 g u w g' v') (sK:Tr.Sub tr' tr) (hT:RunT (XM P ty Wg said) P true fq 0 gJ tr' g' v') (hrun:g'.status = .running) :
 ∃ m' ops μ',runT P (crowd gs w sl) 0 = (.next m',ops) /\ lX μ' (uJ base av.n D mm al.length q false) /\ nA P ty Wg said gJ base μ' m' (t ++ ops):=by
 subst hm;have⟨w',es,hgo,tn,hb,hev⟩:=hp;have hH:=S.II V;have⟨h1,_,h3,h4,h5,h6,h7⟩:=S.others V.toVG hH tn hb;have keep:∀ {b:Nat} {o:Obj},pL o = true->u.heap[b]? = some o->v'.heap[b]? = some o:=λhh ho=>tn.nE _ _ ho hh
 have V':VM Wg (xJ w 1 ow) l al G w' v':=by
  have hV:=V.toVG.own tn hb (λb hb'=>(hH b hb').1);refine ⟨hV,keep (LB l) V.hW,?_,λa ha=>?_,λa ha=>?_,λa ha b hb'=>?_,λb al' G' hb'=>?_,λb j o z hb' hr=>?_⟩
  ·have:=V.gm;cases al with
   | nil=>exact this
   | cons a r=>exact ⟨this.1,keep rfl this.2⟩
  ·have⟨L,e,e1,e2⟩:=V.oe a ha;exact ⟨L,e,keep (tD _ _) e1,(h5 _ (.inr ⟨a,ha,by simp [aC.bT]⟩)).trans e2⟩
  ·have⟨h0,e,e1⟩:=V.box a ha;exact ⟨keep (Dx _) h0,e,(h5 _ (.inr ⟨a,ha,by simp [aC.bT]⟩)).trans e1⟩
  ·have⟨o,e1,e2⟩:=V.ch a ha b hb';exact ⟨o,keep e2 e1,e2⟩
  ·rcases Ri u b with e | ⟨o,e1,e2⟩ | ⟨i,z,e⟩
   ·have:=tn.iL b e _ hb';simp [u9,tq] at this
   ·rw [tn.nE b o e1 e2] at hb';cases hb';exact V.one b al' G' e1
   ·exact absurd e (V.me b i z)
  ·rcases Ri u b with e | ⟨o',e1,e2⟩ | ⟨i,y,e⟩
   ·have:=tn.iL b e _ hb';rw [jH hr.pL] at this; cases this
   ·rw [tn.nE b o' e1 e2] at hb';cases hb';exact V.Nb b j _ z e1 hr
   ·exact absurd e (V.me b i y)
 refine S.goM (mm':=⟨tr',0,0,0⟩) (l':=l) (bl':=false) (ow':=xJ w 1 ow) (st':=st) (sm':=sm) h0 hgo (.hold (bl:=false) hT (.refl v') V' hrun (λe=>by cases e)) .rfl (λ_=>rfl) (λe=>by omega) (by simp) (λk' a' ha'=>h1 k' a' (by omega) ha') h3 h4
  (λa ha b hb'=>h5 b (.inr ⟨a,ha,by grind [aC.bT]⟩)) (S.H8 V.toVG hH tn hb rfl (λb hb'=>⟨(hH b hb').1,S.Gb (hH b hb').2.1⟩) (by omega) (λo i z ho hr=>by rw [V.hW] at ho; cases ho; exact kW hr) hev _ _) (λe he a=>yH (hev e he) a)
  (deafBehind_still (λe he=>As (hev e he)) _) h6 (λb hb'=>oY hb') (h7 (by decide)) S.wf ((h5 _ (.inl rfl)).trans S.wg) S.mode S.bound (Prod.Lex.right _ (Prod.Lex.left _ _ sK))
end
theorem PastS.join {Sh Sn:Loc->Prop} {St:Nat->Loc->Prop} {Mem Mem' Lo:Nat->Prop} {B:Nat} (H:PastS Sh Sn St Mem Lo B 0 t) (h0:Deaf t 0 = 0) (hS:∀ l,St 0 l->l.isMemory = true /\ ¬ Sh l /\ ¬ Sn l) (hM:∀ g,Mem' g->Mem g \/ g = 0):PastS Sh Sn St Mem' Lo B 0 t :=
 ⟨H.clean,H.quiet,H.known,λi a g ha hw hg hs=>by
  rcases hM g hg with hg | rfl
  ·exact H.wrote i a g ha hw hg hs
  ·rcases H.known i a ha (hS _ hs).1 with hk | ⟨hk,_⟩ | ⟨hk,_⟩ | ⟨hk,_⟩
   ·exact hk
   ·grind
   ·grind
   grind,λg hg=>(hM g hg).elim (H.hears g) λe=>e ▸ h0,H.seen⟩
section
local instance:Duo:=AX
local instance:wT:=Ns
variable [Payload] [av] {k base:Nat} {s:aC} {G:Gh} {al:Al} {x:PX} {st:Int}
theorem cj.stP (S:cj P ty Wg said gJ base gs w t D mm al l bl q ow G st sm) (h:JU base al i lo):lo.isMemory = true /\ ¬ ShN Wg lo /\ ¬ av.Sn lo:=by
 have⟨k',a',i',ha',_,e1,_⟩:=h
 rcases e1 with rfl | rfl
 ·exact s50
 ·exact s50
theorem cj.afk (S:cj P ty Wg said gJ base gs w t D mm al l bl q ow G st sm) (hh:hP base mm = 0) (hev:∀ e ∈ es,zQ Wg e) (Vw:deafBehind (jr l) es = jr l') (fn:FuncId) (pos:String) :
 PastS (ShN Wg) av.Sn (JU base al) (yJ base l' al.length D) (QQ base mm al.length D) w.heap.size (hP base mm) (t ++ MemOp.ofEvents 0 fn pos es):=by
 have ho:∀ op ∈ MemOp.ofEvents 0 fn pos es,op.g = 0:=g_of_ofEvents;have H:=S.past;have hp:=S.pos;rw [hh] at H ⊢;have H1:=(H.uf (Mem':=λg=>yJ base l al.length D g /\ g ≠ 0) (aA _) (λg h=>h.1) (λ_ h=>h)).app ho (λhM=>absurd rfl hM.2) (λop g9=>by
  obtain⟨e,he,rfl⟩:=Conc.mem_ofEvents g9;exact (hev e he).low S.CG.2.2) λop g9 b hb=>by
  obtain⟨e,he,rfl⟩:=Conc.mem_ofEvents g9;have⟨h1,h2⟩:=(hev e he).touch hb;exact ⟨by have⟨a1,e1,e2⟩:=h1; exact S.wb (r:=a1.block) (by rw [e1]; rfl) (.inl (e2 ▸ S.Gb S.CG.1)),λ_=>⟨h2,λ_=>rfl⟩,.inl ⟨rfl,λ_ g' _ hs=>(S.stP hs).2.1 h1⟩⟩
 by_cases hd:jr l' = 0
 ·refine H1.join (by rw [Deaf_own,S.deaf0,Vw,hd]) (λl h=>S.stP h) λg hg=>?_
  rcases hg with ⟨e,_⟩ | ⟨k,h1,e,h2⟩
  ·omega
  ·exact .inl ⟨.inr ⟨k,h1,e,h2⟩,by omega⟩
 ·refine H1.uf (aA _) (λg hg=>?_) λ_ h=>h
  rcases hg with ⟨_,e⟩ | ⟨k,h1,e,h2⟩
  ·omega
  ·exact ⟨.inr ⟨k,h1,e,h2⟩,by omega⟩
theorem cj.Uv (S:cj P ty Wg said gJ base gs w t D mm al l bl q ow G st sm) (h0:gs[0]? = some g) (hm:mm = ⟨tr,0,0,0⟩) (hgo:stepG P true g w = .go g' w' es) (hA:Conc.Aside Wg w w') (oZ:WgAt ty Wg w' st' sm') (hev:∀ e ∈ es,zQ Wg e)
 (XJ:AF P ty Wg said gJ al l' ow G w' bl' ⟨tr',0,0,0⟩ g') (hwf:Qu av.n al.length l') (Vw:deafBehind (jr l) es = jr l') (hmode:ConcN.Mode al.length (pf D) (jZ l' bl') st' sm') (ZT:∀ b,l' = [2,b]->Vc al.length (pf D) <= b)
 (hlt:Tr.Sub tr' tr \/ (tr' = tr /\ bl' = true /\ bl = false)) :
 ∃ m' ops μ',runT P (crowd gs w sl) 0 = (.next m',ops) /\ lX μ' (uJ base av.n D mm al.length q bl) /\ nA P ty Wg said gJ base μ' m' (t ++ ops):=by
 subst hm;have⟨h1,h2,h3,h4,h5⟩:=S.aside hA oZ;refine S.goM h0 hgo XJ .rfl (λ_=>rfl) (λe=>by omega) (by simp) h1 (eW hA.size.symm) h3 (λa ha b hb=>h4 a ha b (by grind [aC.bT]))
  (by rw [hA.size]; exact S.afk rfl hev Vw _ _) (λe he a=>(hev e he).norel a) Vw h5 (λ_ _=>rfl) S.DR hwf oZ hmode ZT ?_
 rcases hlt with h | ⟨rfl,rfl,rfl⟩
 ·exact Prod.Lex.right _ (Prod.Lex.left _ _ h)
 ·exact Prod.Lex.right _ (Prod.Lex.right _ (Prod.Lex.right _ (Prod.Lex.right _ (by simp))))
theorem VM.aiL (h:VM Wg ow l al G w u) (hS:∀ a ∈ al,∀ b ∈ a.2.bT,b ≠ Wg) (l':List Nat):VM Wg ow l' al G w (dU u Wg (gh l')):=by
 have hn:∀ d,d ≠ Wg->(dU u Wg (gh l')).heap[d]? = u.heap[d]?:=λd hd=>eI (cN hd)
 have hs:=eJ (o:=gh l') (aG h.hW);refine ⟨h.toVG.OU (.inl rfl) h.hW rfl (λk z hr=>absurd hr kW),hs,?_,λa ha=>?_,λa ha=>⟨(hn _ (hS a ha _ (by simp [aC.bT]))).trans (h.box a ha).1,(h.box a ha).2⟩,λa ha b hb=>?_,λb al' G' hb=>?_,λb j o z hb hr=>?_⟩
 ·have:=h.gm;cases al with
  | nil=>exact this
  | cons a r=>exact ⟨this.1,(hn _ (hS a (by simp) _ (by simp [aC.bT]))).trans this.2⟩
 ·have⟨L,e,h1,h2⟩:=h.oe a ha
  grind [aC.bT]
 ·have⟨o,h1,h2⟩:=h.ch a ha b hb
  grind [aC.bT]
 ·by_cases e:b = Wg
  ·grind [Option.some.inj,yp]
  ·rw [hn b e] at hb; exact h.one b al' G' hb
 ·by_cases e:b = Wg
  ·subst e; rw [hs] at hb; cases hb; exact absurd hr kW
  ·rw [hn b e] at hb; exact h.Nb b j o z hb hr
theorem cj.neW (S:cj P ty Wg said gJ base gs w t D mm al l bl q ow G st sm):∀ a ∈ al,∀ b ∈ a.2.bT,b ≠ Wg:=λa ha b hb=>(S.rn a ha b hb).2.2.2
theorem cj.ZK (S:cj P ty Wg said gJ base gs w t D mm al l bl q ow G st sm) (V:VM Wg ow l al G w u) (hA:Conc.Aside Wg w w') (oZ:WgAt ty Wg w' st' sm') (hrun:g'.status = .running) (hT:RunT (XM P ty Wg said) P true fq 0 gJ tr' g' (dU u Wg (gh l'))) :
 AF P ty Wg said gJ al l' ow G w' false ⟨tr',0,0,0⟩ g':=by
 have V2:=(S.aside hA oZ).2.1 u V;rw [xj (hA.size.trans V.gy.size)] at V2;exact .hold hT (OX (df.at u w'.drawn) (aG V.hW)) (V2.aiL S.neW l') hrun (λe=>by cases e)
theorem cj.vcP (hn:av.n < 2147483648) (S:cj P ty Wg said gJ base gs w t D mm al l bl q ow G st sm):Vc al.length (pf D) <= av.n:=az (Vc_le _ _) S.wf.le
theorem cj.fits (hn:av.n < 2147483648) (S:cj P ty Wg said gJ base gs w t D mm al l bl q ow G st sm):Ou ty Wg l w:=by
 have hV:=S.vcP hn;have hj:=Vc_le al.length (pf D);refine ⟨⟨st,sm,S.wg⟩,λr e=>?_,λb e=>?_,λvs e=>?_,λe=>?_⟩
 ·subst e;have⟨_,h2,h3,_⟩:=S.mode.open_inv trivial;have hw:=S.wg;rw [h2,h3] at hw;refine ⟨Vc al.length _,?_,by assumption⟩
  rcases S.wf with ⟨r',s,e,h⟩ | ⟨_,h1⟩
  ·omega
  grind
 ·subst e;have⟨_,h2,h3,_⟩:=S.mode.open_inv trivial;have hw:=S.wg;rw [h2,h3] at hw;exact ⟨_,S.bound b rfl,by omega,by assumption⟩
 ·subst e;have⟨_,h2,h3,h4⟩:=S.mode.open_inv trivial;have hw:=S.wg
  grind [jZ,pend]
 ·subst e;have⟨_,h2,h3⟩:=S.mode.fin_inv trivial;have hw:=S.wg
  grind
theorem cj.afC (hn:av.n < 2147483648) (S:cj P ty Wg said gJ base gs w t D mm al l false q ow G st sm) (h0:gs[0]? = some g) (hm:mm = ⟨tr,0,0,0⟩) (V:VM Wg ow l al G w u) (hgo:stepG P true g w = .go g' w' es) (hrun:g'.status = .running) (hR:Rel ty Wg av.n l l' w w' es)
 (hT:RunT (XM P ty Wg said) P true fq 0 gJ tr' g' (dU u Wg (gh l'))) (sK:Tr.Sub tr' tr) :
 ∃ m' ops μ',runT P (crowd gs w sl) 0 = (.next m',ops) /\ lX μ' (uJ base av.n D mm al.length q false) /\ nA P ty Wg said gJ base μ' m' (t ++ ops):=by
 have oZ:=S.wg;have hmode:=S.mode;have hV:=S.vcP hn;have kk:∀ a b:Nat,(a:Int) * KK = (b:Int) * KK->a = b:=λa b e=>by simp only [KK] at e; omega
 have bk:∀ {w':World} {st' sm':Int},stepG P true g w = .go g' w' es->Conc.Aside Wg w w'->WgAt ty Wg w' st' sm'->(∀ e ∈ es,zQ Wg e)->Qu av.n al.length l'->deafBehind _ es = jr l'->ConcN.Mode al.length _ _ st' sm'->(∀ b,l' = [2,b]->Vc al.length _ <= b) ->
  ∃ m' ops μ',runT P (crowd gs w sl) 0 = (.next m',ops) /\ lX μ' _ /\ nA P ty Wg said gJ base μ' m' _ :=
  λa1 a2 a3 a4 a5 a6 a7 a8=>S.Uv h0 hm a1 a2 a3 a4 (S.ZK V a2 a3 hrun hT) a5 a6 a7 a8 (.inl sK)
 have ac:=aside_setCell w (stA Wg);cases hR with
 | @Jj r=>exact bk hgo (.refl Wg w) oZ (λe he=>.inl (bk_dis e he)) (S.wf.sp _) (by rfl) (hmode.reopen trivial trivial rfl (by simp [jZ])) (λb e=>by cases e)
 | @add r c _ hc =>
   obtain⟨ho,rfl,rfl,_⟩:=hmode.open_inv trivial;have ec:=kk _ _ (by simpa [jZ,pend] using (oZ.unique hc).1);subst ec;refine bk hgo (ac _) (oZ.setSt _) (λe he=>.inl (bk_rw e he)) (S.wf.sp _) (by rfl) ?_ (λb e=>by cases e);have e:(((Vc al.length (pf D):Nat):Int) + 1) * KK = ((Vc al.length (pf D) + pend (.sp r 3):Nat):Int) * KK:=by simp [pend]
   exact .opn trivial ho (by simp [jZ])
 | said he =>
   refine bk hgo (.refl Wg w) oZ (λe he'=>by rw [Array.mem_singleton] at he'; subst he'; exact .inr he) S.wf ?_ hmode S.bound
   grind [deafBehind]
 | @en r=>exact bk hgo (.refl Wg w) oZ (λe he=>.inl (bk_en e he)) (S.wf.sp _) (by rfl) (hmode.reopen trivial trivial rfl (by simp [jZ])) (λb e=>by cases e)
 | aei=>exact bk hgo (.refl Wg w) oZ (λe he=>.inl (bk_dis e he)) (.inr ⟨S.wf.jn (by simp),.inr (.inl ⟨_,rfl⟩)⟩) (by rfl) (hmode.reopen trivial trivial rfl (by simp [jZ])) (λb e=>by grind)
 | @ld0 b _ hc =>
   obtain⟨ho,rfl,rfl,_⟩:=hmode.open_inv trivial;have e1:=(oZ.unique hc).1;have ec:Vc al.length (pf D) = 0:=by have:=kk (Vc al.length (pf D) + pend (jZ [2,b] false)) 0 (by simpa using e1); omega
   refine bk hgo (.refl Wg w) oZ (λe he=>.inl (bk_rd e he)) (.inr ⟨S.wf.jn (by simp),by simp⟩) (by rfl) ?_ (λb e=>by cases e);have z:=e1;rw [z];exact .fin trivial (allQuit_of ho ec)
 | @ld b c _ hc h1 h2 =>
   obtain⟨ho,rfl,rfl,_⟩:=hmode.open_inv trivial;have ec:=kk _ _ (by simpa [jZ,pend] using (oZ.unique hc).1);exact bk hgo (.refl Wg w) oZ (λe he=>.inl (bk_rd e he)) (.inr ⟨S.wf.jn (by simp),by simp⟩) (by rfl) (hmode.reopen trivial trivial rfl (λvs e=>by grind [jZ])) (λb e=>by cases e)
 | @Xz c _ hc =>
   obtain⟨ho,rfl,rfl,h4⟩:=hmode.open_inv trivial;have ec:=kk _ _ (by simpa [jZ,pend] using (oZ.unique hc).1);subst ec;exact bk hgo (ac _) (oZ.setSt _) (λe he=>.inl (bk_rw e he)) (.inr ⟨S.wf.jn (by simp),by simp⟩) (by rfl) (.reg trivial ho (h4 _ rfl).2) (λb e=>by cases e)
 | @afz vs c _ hc h1 =>
   obtain⟨ho,rfl,rfl,h4⟩:=hmode.open_inv trivial;have ec:=kk _ _ (by simpa [jZ,pend] using (oZ.unique hc).1);exact bk hgo (.refl Wg w) oZ (λe he=>.inl (bk_rd e he)) (.inr ⟨S.wf.jn (by simp),by simp⟩) (by rfl) (hmode.reopen trivial trivial rfl (by simp [jZ])) (λb e=>by grind)
 | ld4 =>
   obtain⟨hq,rfl,rfl⟩:=hmode.fin_inv trivial;exact bk hgo (.refl Wg w) oZ (λe he=>.inl (bk_rd e he)) (.inr ⟨S.wf.jn (by simp),by simp⟩) (by rfl) (.fin trivial hq) (λb e=>by cases e)
 | enk =>
   obtain⟨hq,rfl,rfl⟩:=hmode.fin_inv trivial;exact bk hgo (.refl Wg w) oZ (λe he=>.inl (bk_en e he)) (.inr ⟨S.wf.jn (by simp),by simp⟩) (by rfl) (.fin trivial hq) (λb e=>by cases e)
theorem cj.afB (hn:av.n < 2147483648) (S:cj P ty Wg said gJ base gs w t D mm al l false q ow G st sm) (h0:gs[0]? = some g) (hm:mm = ⟨tr,0,0,0⟩) (hT0:RunT (XM P ty Wg said) P true fq 0 gJ tr g v) (BP:df v u) (V:VM Wg ow l al G w u) (afX:g.status = .running)
 (h:ahd P ty Wg true g u w (λg' v'=>∃ t',Tr.Sub t' tr /\ RunT (XM P ty Wg said) P true fq 0 gJ t' g' v')) :
 ∃ m' ops μ',runT P (crowd gs w sl) 0 = (.next m',ops) /\ lX μ' (uJ base av.n D mm al.length q false) /\ nA P ty Wg said gJ base μ' m' (t ++ ops):=by
 have⟨_,g',fB,G1,k1,a1,ZR,Tk,pM,hv,hB,hrun,hgo,tr',sK,hT⟩:=h;obtain⟨rfl,rfl⟩:=V.ghost ZR Tk;obtain rfl:=sM V.hW hv;have ej:=S.wf.jn (by simp);have oZ:=S.wg;have held:sm = 0->ConcN.Mode fB.length _ .blk st 0->∃ m' ops μ',runT P (crowd gs w sl) 0 = (.next m',ops) /\ lX μ' _ /\ nA P ty Wg said gJ base μ' m' (t ++ ops):=λes hmd=>by
  subst es;have hM:=AF.hold (bl:=true) hT0 BP V afX (λ_=>⟨rfl,hB,pM⟩);simp only [if_true] at hM;exact S.Uv (l':=[4]) (bl':=true) (tr':=tr) (es:=#[]) h0 hm (hB.2.2 w ⟨st,oZ⟩) (.refl Wg w) oZ (by simp) hM S.wf rfl hmd (λb e=>by cases e) (.inr ⟨rfl,rfl,rfl⟩)
 have em:ConcN.Mode fB.length _ .w3 st sm:=S.mode;cases em with
 | opn e1 _ _=>trivial
 | reg h1 h2 h3=>exact held rfl (.reg trivial h2 h3)
 | last L h1 h2 h3 h4=>exact held rfl (.last L trivial h2 h3 h4)
 | sema h2 =>
   exact S.Uv (l':=[5]) h0 hm (hgo oZ) (aside_setCell w (smA Wg) _) (oZ.setSm 0) (λe he=>.inl (bk_sem e he)) (S.ZK V (aside_setCell w (smA Wg) _) (oZ.setSm 0) hrun hT) (.inr ⟨ej,by simp⟩) (by rfl) (.fin trivial h2) (λb e=>by cases e) (.inl sK)
 | fin e1 _=>trivial
theorem VG.UM (h:VG c xc ow w u) (h1:w'.tape = w.tape) (h2:w'.os = w.os) (h3:w'.output = w.output) (h4:w'.heap.size = w.heap.size) (h5:∀ b:Nat,ny u b->w'.heap[b]? = w.heap[b]?)
 (hr:∀ (b k:Nat) o z,u.heap[b]? = some o->Ro o k z->∃ (cs:Array Value) (e:TypeId),w'.heap[b]? = some (.cells cs e (0,0)) /\ cs[k]? = some z):VG c xc ow w' (u.at w'.drawn) :=
 ⟨h.nv,NC h.gy h1 h2 h3 h4 h5 (λb k z hz=>absurd hz (h.me b k z)) hr,λb hb hv=>h.iL b (by omega) hv,h.me,h.ro,λb hb=>h.nE b (by omega)⟩
theorem Yy (h:u.drawn = w.drawn):u.at w.drawn = u:=by show { u with drawn:=w.drawn } = u; rw [<- h]
theorem OW:dU (dU u b o) b o' = dU u b o':=by simp [dU]
theorem VG.both {ow':Obj} (h:VG c xc ow w u) (hb:xc b) (h0:u.heap[b]? = some o) (hH:pL o = true) (hH':pL o' = true) (hr:∀ k z,Ro o' k z->∃ (cs:Array Value) (e:TypeId),ow' = .cells cs e (0,0) /\ cs[k]? = some z) :
 VG c xc ow { w with heap:=w.heap.setIfInBounds b ow' } (dU u b o'):=by
 have hl:=aG h0;have hlw:b < w.heap.size:=by rw [h.gy.size]; exact hl
 have h1:=h.OU hb h0 rfl λk z hr=>absurd hr ef
 have ne:∀ d,d ≠ b->({ w with heap:=w.heap.setIfInBounds b ow' }:World).heap[d]? = w.heap[d]?:=by grind
 have h2:=h1.UM (w':={ w with heap:=w.heap.setIfInBounds b ow' }) rfl rfl rfl (by simp) (λd hv=>ne d λe=>by
  subst e;exact qD (eJ hl) hv) (λd j o z ho hro=>by
  have hd:d ≠ b:=λe=>by
   subst e;rw [eJ hl] at ho; cases ho;exact absurd hro ef
  have⟨cs,e,e1,e2⟩:=h1.gy.ro d j o z ho hro;exact ⟨cs,e,(ne d hd).trans e1,e2⟩)
 rw [show ({ w with heap:=w.heap.setIfInBounds b ow' }:World).drawn = w.drawn from rfl,Yy (by show u.drawn = _; exact h.gy.drawn.symm)] at h2;have h3:=h2.OU hb (eJ hl) hH' λk z hro=>by
  have⟨cs,e,e1,e2⟩:=hr k z hro;exact ⟨cs,e,by rw [<- e1]; show (w.heap.setIfInBounds b ow')[b]? = _; simp [hlw],e2⟩
 rwa [OW] at h3
theorem cj.Xn (S:cj P ty Wg said gJ base gs w t D mm al l false q ow G st sm) (h0:gs[0]? = some g) (hm:mm = ⟨tr,0,0,0⟩) (V:VM Wg ow l al G w u) (h:JW P true g u w (λg' v'=>∃ t',Tr.Sub t' tr /\ RunT (XM P ty Wg said) P true fq 0 gJ t' g' v')) :
 ∃ m' ops μ',runT P (crowd gs w sl) 0 = (.next m',ops) /\ lX μ' (uJ base av.n D mm al.length q false) /\ nA P ty Wg said gJ base μ' m' (t ++ ops):=by
 subst hm;have⟨_,s,L,L',g',es,hv,hL,hrun,hgo,Ed,tr',sK,hT⟩:=h;have⟨a,ha,QM⟩:=V.Nb s.sb 0 _ _ hv (sr.2 rfl);have QM:=QM.resolve_right λe=>by
  have h1:=(V.box a ha).1;rw [<- e,hv] at h1;have:=aL Array.toList (bF (ak h1)).1;simp [aC.c0] at this
 have⟨k,hk⟩:=aP ha;have⟨L2,e,h1,h2⟩:=V.oe a ha;rw [<- QM] at h1 h2;have ec:s.c0 = a.2.c0 /\ L = L2:=by
  rw [hv] at h1;have:=aL Array.toList (bF (ak h1)).1;exact List.append_inj this rfl
 obtain⟨ec,rfl⟩:=ec;rw [<- ec] at h2;have hgo:=hgo e h2;have hsb:=aG h2;have idx:=λk' i a' h3 h4=>S.sep k' k a' a h3 hk i 0 s.sb h4 (by rw [QM]; rfl)
 have nes:∀ a' ∈ al,∀ b ∈ a'.2.bT,b ≠ a'.2.sb->b ≠ s.sb:=λa' ha' b hb hne e=>by
  have⟨k',hk'⟩:=aP ha';have⟨i,hi⟩:=aP hb;obtain⟨rfl,rfl⟩:=idx k' i a' hk' (by rw [hi,e]);exact hne (by simpa [aC.bT] using hi.symm)
 have nei:∀ (k' i:Nat) a' b,al[k']? = some a'->a'.2.bT[i]? = some b->i ≠ 0->b ≠ s.sb:=by grind
 have hWs:Wg ≠ s.sb:=λe=>S.neW a ha a.2.sb (by simp [aC.bT]) (by rw [<- QM,e])
 have hCs:av.C ≠ s.sb:=λe=>by
  have h1:=S.H9.1;rw [e,QM,(S.rn a ha a.2.sb (by simp [aC.bT])).1] at h1;cases h1
 generalize hw':({ w with heap:=w.heap.setIfInBounds s.sb (.cells (s.c0 ++ L').toArray e (0,0)) }:World) = w' at hgo
 have ne:∀ d,d ≠ s.sb->w'.heap[d]? = w.heap[d]?:=by grind
 have same:w'.heap[s.sb]? = some (.cells (s.c0 ++ L').toArray e (0,0)):=by rw [<- hw']; simp [hsb]
 have hsz:w'.heap.size = w.heap.size:=by rw [<- hw']; simp
 have nu:∀ d,d ≠ s.sb->(dU u s.sb (lr s L')).heap[d]? = u.heap[d]?:=λd hd=>eI (cN hd)
 have Xx:=eJ (o:=lr s L') (aG hv);have hVG:VG 1 (xM Wg al) ow w' (dU u s.sb (lr s L')):=by
  rw [<- hw'];exact V.toVG.both (.inr ⟨a,ha,by rw [QM]; simp [aC.bT]⟩) hv (tD _ _) (tD _ _) λk z hr=>⟨_,e,rfl,by rw [dN]; exact sr.1 hr⟩
 have V2:VM Wg ow l al G w' (dU u s.sb (lr s L')):=by
  refine ⟨hVG,(nu _ hWs).trans V.hW,?_,λa' ha'=>?_,λa' ha'=>?_,λa' ha' b hb=>?_,λb al' G' hb=>?_,λb j o z hb hr=>?_⟩
  ·have:=V.gm;cases al with
   | nil=>exact this
   | cons a0 r=>exact ⟨this.1,(nu _ (nei 0 3 a0 _ rfl rfl (by decide))).trans this.2⟩
  ·have⟨k',hk'⟩:=aP ha'
   by_cases ee:a'.2.sb = s.sb
   ·obtain⟨rfl,_⟩:=idx k' 0 a' hk' (by rw [<- ee]; rfl);rw [hk] at hk'; cases hk';exact ⟨L',e,by rw [ee,Xx]; simp [lr,ec],by rw [ee,same,ec]⟩
   ·have⟨L3,e3,h3,h4⟩:=V.oe a' ha';exact ⟨L3,e3,(nu _ ee).trans h3,(ne _ ee).trans h4⟩
  ·have⟨k',hk'⟩:=aP ha';have⟨h0,e3,h3⟩:=V.box a' ha';exact ⟨(nu _ (nei k' 4 a' _ hk' rfl (by decide))).trans h0,e3,(ne _ (nei k' 4 a' _ hk' rfl (by decide))).trans h3⟩
  ·have⟨k',hk'⟩:=aP ha';have⟨o,h3,h4⟩:=V.ch a' ha' b hb;have⟨i,hi⟩:=aP hb;exact ⟨o,(nu _ (nei k' (i + 1) a' _ hk' (by simpa [aC.bT] using hi) (by omega))).trans h3,h4⟩
  ·by_cases ee:b = s.sb
   ·subst ee;rw [Xx] at hb;have:=(bF (ak hb)).2;simp at this
   ·rw [nu b ee] at hb; exact V.one b al' G' hb
  ·by_cases ee:b = s.sb
   ·exact ⟨a,ha,.inl (ee.trans QM)⟩
   ·rw [nu b ee] at hb; exact V.Nb b j o z hb hr
 have cell:∀ i:Nat,w'.cell? ⟨av.C,i,none⟩ = w.cell? ⟨av.C,i,none⟩:=λi=>by simp only [World.cell?,ne _ hCs]
 have ho:∀ op ∈ MemOp.ofEvents 0 g.frame.fn g.frame.place es,op.g = 0:=g_of_ofEvents;have hst:∀ e ∈ es,e.loc ≠ .mark .disable /\ e.loc ≠ .mark .enable:=by grind
 have hdr:w'.drawn = w.drawn:=by rw [<- hw']
 refine S.goM (l':=l) (bl':=false) (ow':=ow) (st':=st) (sm':=sm) h0 hgo (.hold (bl:=false) hT (.refl _) V2 hrun (λe=>by cases e)) .rfl (λ_=>rfl) (λe=>by omega) (by simp) (λk' a' hk' u1 G1 V1=>?_) (eW hsz.symm)
  (λi=>⟨λb hb=>absurd hb (by omega),λ⟨p,q,h⟩=>⟨p,q,(ne _ hWs).trans h⟩,λ⟨cs,g1,g2⟩=>⟨cs,(ne _ hCs).trans g1,g2⟩,cell i⟩) (λa' ha' b hb=>?_) (S.past.uf (eW hsz.symm) (λ_ h=>h) (λ_ h=>h) |>.app ho (λ_=>?_) (λop g9=>?_) λop g9 b hb=>?_)
  (λe he a=>by grind [MemAct.ofEvent]) (deafBehind_still hst _) (λb hb=>ne b λe=>hb (by rw [e,QM]; exact S.Gb (S.rn a ha _ (by simp [aC.bT])).1)) (λ_ _=>rfl) S.DR S.wf ((ne _ hWs).trans S.wg) S.mode S.bound (Prod.Lex.right _ (Prod.Lex.left _ _ sK))
 ·rw [xj (hsz.trans V1.gy.size)];refine ⟨V1.toVG.UM (by grind) (by grind) (by grind) hsz (λb hv=>ne b λe=>?_) (λb j o z hb hr=>?_),V1.gt,V1.bo⟩
  ·have⟨_,_,o,h3,h4⟩:=S.PC hk' V1 s.sb (.inr ⟨a,ha,by rw [QM]; simp [aC.bT]⟩);rw [e] at hv;have:=hv o h3
   grind [jH]
  ·by_cases ee:b = s.sb
   ·subst ee;have hx:=V1.ro _ _ _ _ hb hr;have⟨i,hi⟩:=aP (ng hx);obtain⟨rfl,rfl⟩:=idx k' i a' hk' hi;rw [hk] at hk'; cases hk';have hb2:u1.heap[a.2.sb]? = _:=V1.gt;rw [<- QM,hb] at hb2;rw [ak hb2] at hr;exact ⟨_,e,same,by rw [dN,ec,eX (cY.1 (nj.1 hr)).1]; exact nj.1 hr⟩
   ·have⟨cs,e3,h3,h4⟩:=V1.gy.ro b j o z hb hr
    grind
 ·have⟨k',hk'⟩:=aP ha';have⟨i,hi⟩:=aP hb;exact ne _ (nei k' (i + 1) a' _ hk' (by assumption) (by omega))
 ·grind [Deaf_own,deafBehind_still]
 ·obtain⟨e,he,rfl⟩:=Conc.mem_ofEvents g9;obtain⟨i,_,rfl⟩:=Ed e he;rw [ofEvent_cell0,hsz]; exact hsb
 ·obtain⟨e,he,rfl⟩:=Conc.mem_ofEvents g9;obtain⟨i,hi,rfl⟩:=Ed e he;simp only [ofEvent_cell0,MemAct.touch?,br] at hb;subst hb;refine ⟨S.wb rfl (.inl (by rw [QM]; exact S.Gb (S.rn a ha _ (by simp [aC.bT])).1)),λ⟨a1,e1,e2⟩=>?_,.inl ⟨rfl,λ_ g' _ ⟨k',a',i',hk',hi',e1,_⟩=>?_⟩⟩
  ·grind
  grind
theorem cj.Pt (S:cj P ty Wg said gJ base gs w t D mm al l false q ow G st sm) (h0:gs[0]? = some g) (hm:mm = ⟨tr,0,0,0⟩) (V:VM Wg ow l al G w u) (h:Hi P true g u w (λg' v'=>∃ t',Tr.Sub t' tr /\ RunT (XM P ty Wg said) P true fq 0 gJ t' g' v')) :
 ∃ m' ops μ',runT P (crowd gs w sl) 0 = (.next m',ops) /\ lX μ' (uJ base av.n D mm al.length q false) /\ nA P ty Wg said gJ base μ' m' (t ++ ops):=by
 subst hm;have⟨_,fB,G1,k,s,g',ZR,hk,hrun,⟨es,Ed,hgo⟩,tr',sK,hT⟩:=h;obtain⟨rfl,rfl⟩:=V.ghost ZR hk;have wH:=ai hk;have⟨c1,⟨m,c2⟩,c3⟩:=S.FF _ wH;have hgo:=hgo m c2;have hch:=S.Ul (i:=2) (c:=s.ce) V hk rfl (by decide);have agk:=S.neW _ wH s.ce (by simp [aC.bT]);have hceC:av.C ≠ s.ce:=λe=>by
  have h1:=S.H9.1;rw [e,(S.rn _ wH s.ce (by simp [aC.bT])).1] at h1;cases h1
 have ne:∀ b,b ≠ s.ce->(w.setChan s.ce 0 #[] true m m false).heap[b]? = w.heap[b]?:=λb hb=>heap_setChan_ne w _ _ _ _ _ _ (cN hb)
 have hsz:(w.setChan s.ce 0 #[] true m m false).heap.size = w.heap.size:=by simp [World.setChan]
 have V2:=(V.chan (m:=m) (cl:=true) hch.1 hch.2).qN (n:=2) (G':=G1) hk (λa ha=>S.neW a ha _ (by simp [aC.bT])) λa' ha' a'' abU e=>by
  have⟨k1,Tk⟩:=aP ha';have⟨k2,hk2⟩:=aP abU;exact absurd (S.sep k1 k2 a' a'' Tk hk2 3 0 a'.2.cs rfl (by rw [e]; rfl)).2 (by decide)
 have cell:∀ i:Nat,(w.setChan s.ce 0 #[] true m m false).cell? ⟨av.C,i,none⟩ = w.cell? ⟨av.C,i,none⟩:=λi=>by simp only [World.cell?,ne _ hceC]
 have ho:∀ op ∈ MemOp.ofEvents 0 g.frame.fn g.frame.place es,op.g = 0:=g_of_ofEvents;have hev:∀ e ∈ es,∃ wr,e = ⟨_,wr,true⟩:=λe he=>by
  replace he:=Ed e he;simp only [closeEvents,dZ,aE,aU,dj] at he
  rcases he with rfl | rfl <;> exact ⟨_,rfl⟩
 have hst:∀ e ∈ es,e.loc ≠ .mark .disable /\ e.loc ≠ .mark .enable:=by grind
 refine S.ags (al':=fB.set k (2,s)) (l':=l) (bl':=false) (ow':=ow) (st':=st) (sm':=sm) h0 hgo (.hold (bl:=false) hT (.refl _) V2 hrun (λe=>by cases e)) (λk' a' ha'=>?_) (by simp) (M0 hk) .rfl (λ_=>rfl) (λe=>by omega) (by simp)
  (λk' a' hk' u1 G1 V1=>?_) (eW hsz.symm) (λi=>⟨λb hb=>absurd hb (by omega),λ⟨p,q,h⟩=>⟨p,q,(ne _ agk.symm).trans h⟩,λ⟨cs,g1,g2⟩=>⟨cs,(ne _ hceC).trans g1,g2⟩,cell i⟩) (λa' ha'=>?_) (S.past.uf (eW hsz.symm) (λ_ h=>h) (λ_ h=>h) |>.app ho (λ_=>?_) (λop g9=>?_) λop g9 b hb=>?_)
  (λe he a=>by obtain⟨wr,rfl⟩:=hev e he; cases wr <;> simp [MemAct.ofEvent]) (deafBehind_still hst _) (λb hb=>ne b λe=>hb (e ▸ S.Gb (S.rn _ wH s.ce (by simp [aC.bT])).1)) (λ_ _=>rfl) S.DR S.wf ((ne _ agk.symm).trans S.wg) S.mode S.bound (Prod.Lex.right _ (Prod.Lex.left _ _ sK))
 ·grind
 ·rw [wI (w:=w.setChan s.ce 0 #[] true m m false) (by rw [hsz]; exact V1.gy.size.symm) V1.gy.drawn.symm];have⟨_,_,o,g1,g2⟩:=S.PC hk' V1 s.ce (.inr ⟨_,wH,by simp [aC.bT]⟩);exact ⟨V1.toVG.chan ⟨o,g1,g2,λi z hr=>hch.2 a' (ai hk') (V1.ro _ i o z g1 hr)⟩,V1.gt,V1.bo⟩
 ·have⟨k',hk'⟩:=aP ha';have⟨a0,e1,e2,e3,e4⟩:=rK hk hk';have⟨⟨m1,d1⟩,⟨m2,d2⟩,m3,d3⟩:=S.FF a0 (ai e1);have nei:∀ (i:Nat) b,a0.2.bT[i]? = some b->i ≠ 2->b ≠ s.ce:=λi b h3 h5 e=>h5 (S.sep k' k a0 _ e1 hk i 2 s.ce (by rw [h3,e]) rfl).2
  rw [<- e2];refine ⟨⟨m1,(ne _ (nei 1 _ rfl (by decide))).trans d1⟩,?_,m3,(ne _ (nei 3 _ rfl (by decide))).trans d3⟩
  by_cases e:k' = k
  ·grind [heap_setChan_self]
  ·refine ⟨m2,(ne _ λee=>e ?_).trans (by grind)⟩;exact (S.sep k' k a0 _ e1 hk 2 2 s.ce (by rw [<- ee]; rfl) rfl).1
 ·grind [Deaf_own,deafBehind_still]
 ·obtain⟨e,he,rfl⟩:=Conc.mem_ofEvents g9;obtain⟨wr,rfl⟩:=hev e he;have:=aG c2;rw [hsz];cases wr <;> exact this
 ·obtain⟨e,he,rfl⟩:=Conc.mem_ofEvents g9;obtain⟨wr,rfl⟩:=hev e he;have hl:b.loc = .obj s.ce:=by cases wr <;> simp [MemAct.ofEvent,MemAct.touch?] at hb <;> (subst hb; rfl)
  refine ⟨S.wb (by rw [hl]; rfl) (.inl (S.Gb (S.rn _ wH s.ce (by simp [aC.bT])).1)),λ⟨a1,e1,e2⟩=>?_,.inl ⟨rfl,λ_ g' _ ⟨k',a',i',hk',hi',e1,_⟩=>?_⟩⟩
  ·grind
  grind
end
section
local instance:Duo:=AX
local instance:wT:=Ns
variable [Payload] [av] {k base:Nat} {s:aC} {G:Gh} {al:Al} {x:PX} {st:Int} {xc':Nat->Prop} {L:List Value}
def VG.afx (h:VG c xc ow w u) (hx:∀ d,xc d->xc' d):VG c xc' ow w u:=⟨h.nv,h.gy,h.iL,h.me,λb k o z h1 h2=>hx _ (h.ro b k o z h1 h2),λb h1 hp h2 h3 h4=>h.nE b h1 hp h2 h3 λh5=>h4 (hx _ h5)⟩
def VG.KC (h:VG c xc ow w u) (hb:xc b) (hl:b < u.heap.size) (hH:pL o' = true) (hr:∀ k z,Ro o' k z->∃ (cs:Array Value) (e:TypeId),w.heap[b]? = some (.cells cs e (0,0)) /\ cs[k]? = some z):VG c xc ow w (dU u b o') :=
 h.OU hb (aX hl) hH hr
def nF:Al->aC->aC
 | [],s=>s
 | a :: _,_=>a.2
theorem ov (v:World):qN v (al ++ [(n,s)]) G = dU v (nF al s).cs (tq ((al ++ [(n,s)]).gh G)):=by cases al <;> rfl
theorem NR:DU v (al ++ [(n,s)]) G ↔ av.N0 <= (nF al s).cs /\ v.heap[(nF al s).cs]? = some (tq (Al.gh (al ++ [(n,s)]) G)):=by cases al <;> exact .rfl
def kZ (v:World) (s:aC) (L:List Value) (Wg r:Nat) (al:Al) (n:Nat) (G:Gh):World:=qN (dU (vC v s L) Wg (gh (qR r))) (al ++ [(n,s)]) G
def mN (s:aC) (Wg:Nat) (al:Al):Nat->Prop:=λb=>b ∈ s.bT \/ b = Wg \/ b = (nF al s).cs
structure zS (s:aC) (Wg:Nat) (al:Al) (u:World):Prop where
 lt:∀ b,mN s Wg al b->b < u.heap.size
 nd:s.sb ≠ s.ct /\ s.sb ≠ s.ce /\ s.sb ≠ s.cs /\ s.sb ≠ s.bx /\ s.bx ≠ s.ct /\ s.bx ≠ s.ce /\ s.bx ≠ s.cs
 nW:∀ b ∈ s.bT,b ≠ Wg
 fW:(nF al s).cs ≠ Wg
 fs:al ≠ []->(nF al s).cs ∉ s.bT
theorem j6 (h:zS s Wg al u) (b:Nat):(kZ u s L Wg r al n G).heap[b]? =
 if b = (nF al s).cs then some (tq (Al.gh (al ++ [(n,s)]) G)) else if b = Wg then some (gh (qR r)) else if b = s.bx then some (Ka s) else if b = s.cs \/ b = s.ce \/ b = s.ct then some dummy else if b = s.sb then some (lr s L) else u.heap[b]?:=by
 have⟨n1,n2,n3,n4,n5,n6,n7⟩:=h.nd;have lt:=λd hd=>h.lt d (.inl hd)
 unfold kZ;rw [ov]
 by_cases e1:b = (nF al s).cs
 ·rw [if_pos e1,e1];exact eJ (by simp only [fN,vC]; exact h.lt _ (.inr (.inr rfl)))
 rw [if_neg e1,eI (cN e1)]
 by_cases e2:b = Wg
 ·rw [if_pos e2,e2];exact eJ (by simp only [fN,vC]; exact h.lt _ (.inr (.inl rfl)))
 rw [if_neg e2,eI (cN e2)];unfold vC
 by_cases e3:b = s.bx
 ·rw [if_pos e3,e3]; exact eJ (by simp only [fN]; exact lt _ (by simp [aC.bT]))
 rw [if_neg e3,eI (cN e3)]
 by_cases e4:b = s.cs
 ·rw [if_pos (.inl e4),e4]; exact eJ (by simp only [fN]; exact lt _ (by simp [aC.bT]))
 rw [eI (cN e4)]
 by_cases e5:b = s.ce
 ·rw [if_pos (.inr (.inl e5)),e5]; exact eJ (by simp only [fN]; exact lt _ (by simp [aC.bT]))
 rw [eI (cN e5)]
 by_cases e6:b = s.ct
 ·rw [if_pos (.inr (.inr e6)),e6]; exact eJ (by simp only [fN]; exact lt _ (by simp [aC.bT]))
 rw [eI (cN e6),if_neg (by rintro (h | h | h) <;> contradiction)]
 by_cases e7:b = s.sb
 ·rw [if_pos e7,e7]; exact eJ (lt _ (by simp [aC.bT]))
 ·rw [if_neg e7,eI (cN e7)]
theorem mn (h:zS s Wg al u) (hb:¬ mN s Wg al b):(kZ u s L Wg r al n G).heap[b]? = u.heap[b]?:=by
 have e:∀ d ∈ s.bT,b ≠ d:=λd hd e=>hb (.inl (e ▸ hd))
 rw [j6 h,if_neg λe=>hb (.inr (.inr e)),if_neg λe=>hb (.inr (.inl e)),if_neg (e _ (by simp [aC.bT])),if_neg (by rintro (h | h | h) <;> exact e _ (by simp [aC.bT]) h),if_neg (e _ (by simp [aC.bT]))]
theorem yj:(kZ u s L Wg r al n G).heap.size = u.heap.size:=by simp [kZ,ov,fN,vC]
theorem C7 (h:zS s Wg al u) (hb:mN s Wg al b):∃ o,(kZ u s L Wg r al n G).heap[b]? = some o /\ pL o = true /\ (o = tq (Al.gh (al ++ [(n,s)]) G)->b = (nF al s).cs) /\ (∀ k z,Ro o k z->xT s b):=by
 rw [j6 h]
 by_cases e1:b = (nF al s).cs
 ·exact ⟨_,if_pos e1,rfl,λ_=>e1,λk z hr=>absurd hr kW⟩
 rw [if_neg e1]
 by_cases e2:b = Wg
 ·exact ⟨_,if_pos e2,rfl,λe=>absurd e.symm yp,λk z hr=>absurd hr kW⟩
 rw [if_neg e2]
 by_cases e0:b = s.bx
 ·exact ⟨_,if_pos e0,rfl,λe=>absurd (bF e).2 (by decide),λk z hr=>.inr e0⟩
 rw [if_neg e0]
 by_cases e3:b = s.cs \/ b = s.ce \/ b = s.ct
 ·exact ⟨_,if_pos e3,rfl,λe=>absurd e.symm Fj,λk z hr=>absurd hr ef⟩
 rw [if_neg e3];have e4:b = s.sb:=by
  rcases hb with hb | hb | hb
  ·simp only [aC.bT,aE,aU,dj] at hb
   rcases hb with rfl | rfl | rfl | rfl | rfl
   ·rfl
   ·exact absurd (.inr (.inr rfl)) e3
   ·exact absurd (.inr (.inl rfl)) e3
   ·exact absurd (.inl rfl) e3
   ·exact absurd rfl e0
  ·exact absurd hb e2
  ·exact absurd hb e1
 refine ⟨_,if_pos e4,tD _ _,λe=>?_,λk z hr=>.inl e4⟩;have:=(bF e).2;simp at this
theorem cj.Fg (S:cj P ty Wg said gJ base gs w t D mm al l bl q ow G st sm) (V:VM Wg ow l al G w u) (M:Made F s L u):zS s Wg al u /\ (∀ b ∈ s.bT,ny u b /\ w.heap[b]? = u.heap[b]? /\ ow b = 1 /\ fq b) /\ ∀ a ∈ al,∀ b ∈ a.2.bT,b ∉ s.bT:=by
 have iL:∀ b ∈ s.bT,b < u.heap.size /\ ny u b:=λb hb=>by
  have c:∀ {o:Obj},u.heap[b]? = some o->u9 o = false->b < u.heap.size /\ ny u b:=λh hp=>⟨aG h,λo' ho'=>by rw [h] at ho'; cases ho'; exact hp⟩
  exact s37
 have hH:=S.II V;have nx:∀ b ∈ s.bT,¬ xM Wg al b:=λb hb hx=>by
  have⟨_,_,o,h1,h2⟩:=hH b hx;have:=(iL b hb).2 o h1;rw [jH h2] at this; cases this
 have dist:∀ {a b:Nat} {o o':Obj},u.heap[a]? = some o->u.heap[b]? = some o'->o ≠ o'->a ≠ b:=by grind
 have⟨e1,m1⟩:=M.cells;have⟨e2,m2⟩:=M.box;have fx:al ≠ []->xM Wg al (nF al s).cs:=λh=>by
  cases al with
  | nil=>exact absurd rfl h
  | cons a r=>exact .inr ⟨a,by simp,by simp [nF,aC.bT]⟩
 refine ⟨⟨λb hb=>?_,⟨dist m1 M.ct (by simp),dist m1 M.ce (by simp),dist m1 M.cs (by simp),M.ne.2.2.2,dist m2 M.ct (by simp),dist m2 M.ce (by simp),dist m2 M.cs (by simp)⟩,λb hb e=>nx b hb (.inl e),?_,λh hm=>nx _ hm (fx h)⟩,λb hb=>?_,λa ha b hb hm=>nx b hm (.inr ⟨a,ha,hb⟩)⟩
 ·rcases hb with hb | rfl | rfl
  ·grind
  ·exact aG V.hW
  ·by_cases h:al = []
   ·grind [nF,aC.bT]
   grind
 ·by_cases h:al = []
  ·subst h; exact λe=>nx s.cs (by simp [aC.bT]) (.inl e)
  ·intro e;cases al with
   | nil=>trivial
   | cons a r=>exact S.neW a (by simp) a.2.cs (by simp [aC.bT]) e
 ·have⟨h1,h2⟩:=iL b hb;have h3:=M.low b hb;refine ⟨h2,V.gy.iL b h2,(V.iL b (by rw [V.gy.size]; exact h1) h2).resolve_left λe=>S.DR b e (.inl h3.1),.inl h3.1⟩
theorem cj.abL (S:cj P ty Wg said gJ base gs w t D mm al l bl q ow G st sm) (V:VM Wg ow l al G w u) (M:Made F s L u):VM Wg ow (qR r) (al ++ [(1,s)]) G w (kZ u s L Wg r al 1 G):=by
 have⟨H,hv,hn⟩:=S.Fg V M;have⟨n1,n2,n3,n4,n5,n6,n7⟩:=H.nd;have hxx:∀ b,xM Wg al b->xM Wg (al ++ [(1,s)]) b:=λb h=>h.imp id λ⟨a,ha,hb⟩=>⟨a,by simp [ha],hb⟩
 have hx:∀ b,mN s Wg al b->xM Wg (al ++ [(1,s)]) b:=λb hb=>by
  rcases hb with hb | hb | rfl
  ·exact .inr ⟨(1,s),by simp,hb⟩
  ·exact .inl hb
  ·cases al with
   | nil=>exact .inr ⟨(1,s),by simp,by simp [nF,aC.bT]⟩
   | cons a r=>exact .inr ⟨a,by simp,by simp [nF,aC.bT]⟩
 have⟨e1,m1⟩:=M.cells;have⟨e2,m2⟩:=M.box;have w1:=(hv _ (by simp [aC.bT])).2.1.trans m1;have hVG:VG 1 (xM Wg (al ++ [(1,s)])) ow w (kZ u s L Wg r al 1 G):=by
  unfold kZ;rw [ov];unfold vC;have no0:∀ {c:Array Value} {k z},Ro (.pending c 0) k z->∃ (cs:Array Value) (e:TypeId),(none:Option Obj) = some (.cells cs e (0,0)) /\ cs[k]? = some z:=λh=>absurd h kW
  have lt:∀ d ∈ s.bT,d < u.heap.size:=λd hd=>H.lt d (.inl hd)
  have a1:=(V.toVG.afx hxx).KC (b:=s.sb) (o':=lr s L) (hx _ (.inl (by simp [aC.bT]))) (lt _ (by simp [aC.bT])) (tD _ _) λk z hr=>⟨_,e1,w1,by rw [dN]; exact sr.1 hr⟩
  have a2:=a1.KC (b:=s.ct) (o':=dummy) (hx _ (.inl (by simp [aC.bT]))) (by rw [fN]; exact lt _ (by simp [aC.bT])) rfl λk z hr=>absurd hr ef
  have a3:=a2.KC (b:=s.ce) (o':=dummy) (hx _ (.inl (by simp [aC.bT]))) (by simp only [fN]; exact lt _ (by simp [aC.bT])) rfl λk z hr=>absurd hr ef
  have a4:=a3.KC (b:=s.cs) (o':=dummy) (hx _ (.inl (by simp [aC.bT]))) (by simp only [fN]; exact lt _ (by simp [aC.bT])) rfl λk z hr=>absurd hr ef
  have a5:=a4.KC (b:=s.bx) (o':=Ka s) (hx _ (.inl (by simp [aC.bT]))) (by simp only [fN]; exact lt _ (by simp [aC.bT])) rfl λk z hr=>by
   obtain⟨rfl,rfl⟩:=yf.1 hr;exact ⟨_,e2,(hv _ (by simp [aC.bT])).2.1.trans m2,rfl⟩
  have a6:=a5.KC (b:=Wg) (o':=gh (qR r)) (.inl rfl) (by simp only [fN]; exact H.lt _ (.inr (.inl rfl))) rfl λk z hr=>absurd hr kW
  have a7:=a6.KC (b:=(nF al s).cs) (o':=tq (Al.gh (al ++ [(1,s)]) G)) (hx _ (.inr (.inr rfl))) (by simp only [fN]; exact H.lt _ (.inr (.inr rfl))) rfl λk z hr=>absurd hr kW
  exact a7
 have outA:∀ a ∈ al,∀ b ∈ a.2.bT,b ≠ (nF al s).cs->¬ mN s Wg al b:=λa ha b hb h1 h2=>by
  rcases h2 with h2 | h2 | h2
  ·exact hn a ha b hb h2
  ·exact S.neW a ha b hb h2
  ·exact h1 h2
 have nsb:∀ a ∈ al,a.2.sb ≠ (nF al s).cs:=λa ha e=>by
  have⟨k,hk⟩:=aP ha;cases al with
  | nil=>cases ha
  | cons a0 r0=>exact absurd (S.sep k 0 a a0 hk rfl 0 3 a.2.sb rfl (by rw [e]; rfl)).2 (by decide)
 have f1:s.sb ≠ (nF al s).cs:=λe=>by
  by_cases h:al = []
  ·subst h; exact n3 e
  ·exact H.fs h (by rw [<- e]; simp [aC.bT])
 have mem:∀ a:Nat × aC,a ∈ al ++ [(1,s)]->a ∈ al \/ a = (1,s):=by simp
 refine ⟨hVG,?_,?_,λa ha=>?_,λa ha=>?_,λa ha b hb=>?_,λb al' G' hb=>?_,λb j o z hb hr=>?_⟩
 ·rw [j6 H,if_neg (cN H.fW),if_pos rfl]
 ·rw [NR,j6 H,if_pos rfl];refine ⟨?_,rfl⟩;cases al with
  | nil=>exact (M.low s.cs (by simp [aC.bT])).1
  | cons a r=>exact (S.rn a (by simp) a.2.cs (by simp [aC.bT])).2.1
 ·rcases mem a ha with ha | rfl
  ·have⟨L2,e,h1,h2⟩:=V.oe a ha
   grind [mn,aC.bT]
  ·refine ⟨L,e1,?_,w1⟩;rw [j6 H,if_neg f1,if_neg (H.nW _ (by simp [aC.bT])),if_neg n4,if_neg λh=>h.elim n3 λh=>h.elim n2 n1,if_pos rfl]
 ·rcases mem a ha with ha | rfl
  ·have hc:a.2.bx ≠ (nF al s).cs:=λe=>by
    cases al with
    | nil=>cases ha
    | cons a0 r0 =>
      have⟨k,hk⟩:=aP ha;exact absurd (S.sep k 0 a a0 hk rfl 4 3 a.2.bx rfl (by rw [e]; rfl)).2 (by decide)
   exact ⟨(mn H (outA a ha _ (by simp [aC.bT]) hc)).trans (V.box a ha).1,(V.box a ha).2⟩
  ·refine ⟨?_,e2,(hv _ (by simp [aC.bT])).2.1.trans m2⟩;rw [j6 H,if_neg λe=>?_,if_neg (H.nW _ (by simp [aC.bT])),if_pos rfl]
   by_cases h:al = []
   ·subst h; exact n7 e
   ·exact H.fs h (by rw [<- e]; simp [aC.bT])
 ·rcases mem a ha with ha | rfl
  ·by_cases e:b = (nF al s).cs
   ·have⟨o,h1,h2,_⟩:=C7 (L:=L) (r:=r) (n:=1) (G:=G) H (.inr (.inr e))
    grind
   ·have⟨o,h1,h2⟩:=V.ch a ha b hb
    grind [mn,aC.bT]
  ·have⟨o,h1,h2,_⟩:=C7 (L:=L) (r:=r) (n:=1) (G:=G) H (b:=b) (.inl (by grind [aC.bT]))
   grind
 ·have fst:∃ a r',al ++ [(1,s)] = a :: r' /\ (nF al s).cs = a.2.cs:=by cases al <;> exact ⟨_,_,rfl,rfl⟩
  have⟨a,r',f2,f3⟩:=fst
  by_cases e:mN s Wg al b
  ·by_cases hN:b < av.N0
   ·omega
   refine .inr ⟨a,r',f2,?_⟩;rw [<- f3]
   by_cases ee:b = (nF al s).cs
   ·exact ee
   ·rw [j6 H,if_neg ee] at hb;split at hb
    ·exact absurd (ak hb).symm yp
    ·split at hb
     ·exact absurd (bF (ak hb)).2 (by decide)
     split at hb
     ·exact absurd (ak hb).symm Fj
     ·split at hb
      ·have:=(bF (ak hb)).2;simp at this
      ·have⟨a2,r2,e3,e4⟩:=(V.one b al' G' hb).resolve_left hN;subst e3;exact e4
  ·rw [mn H e] at hb
   rcases V.one b al' G' hb with e3 | ⟨a2,r2,e3,e4⟩
   ·omega
   grind
 ·by_cases e:mN s Wg al b
  ·have⟨o',h1,h2,_,h4⟩:=C7 (L:=L) (r:=r) (n:=1) (G:=G) H e;rw [hb] at h1; cases h1;exact ⟨(1,s),by simp,h4 j z hr⟩
  ·rw [mn H e] at hb;have⟨a,ha,h1⟩:=V.Nb b j o z hb hr
   grind
open Classical in
noncomputable def uE (u:World) (F:Nat->Prop) (s:aC) (G:Gh):World :=
 { u with heap:=Array.ofFn (n:=u.heap.size) λb=>if b.1 = s.sb then nL s G else if b.1 = s.bx then Ka s else if ¬ fq b.1 \/ F b.1 then (u.heap[b.1]?).getD dummy else dummy }
theorem uD (hb:b < u.heap.size):(uE u F s G).heap[b]? = some (open Classical in if b = s.sb then nL s G else if b = s.bx then Ka s else if ¬ fq b \/ F b then (u.heap[b]?).getD dummy else dummy):=by simp [uE,hb]
theorem sU:(uE u F s G).heap.size = u.heap.size:=by simp [uE]
theorem qY (ho:(uE u F s G).heap[b]? = some o):(b = s.sb /\ o = nL s G) \/ (b = s.bx /\ o = Ka s) \/ (b ≠ s.sb /\ b ≠ s.bx /\ (¬ fq b \/ F b) /\ u.heap[b]? = some o) \/ o = dummy:=by
 grind [sU,aG,uD]
theorem cj.acC (S:cj P ty Wg said gJ base gs w t D mm al l bl q ow G st sm) (V:VM Wg ow l al G w u) (M:Made F s L u) (hsa:av.SA G F u) (hpm:∀ b,F b->fq b) :
 U6 u F s G (uE u F s G) /\ (∀ b,F b->ow b = 1) /\ VT k s (tj F (k + 2) ow) G w (uE u F s G):=by
 have⟨H,hv,hn⟩:=S.Fg V M;have⟨n1,n2,n3,n4,n5,n6,n7⟩:=H.nd;have⟨e1,m1⟩:=M.cells;have⟨e2,m2⟩:=M.box;have lt:=λd hd=>H.lt d (.inl hd)
 have hF1:∀ b,F b->ow b = 1:=λb hb=>by
  have⟨h1,h2⟩:=av.iL hsa hb;exact (V.iL b (by rw [V.gy.size]; exact h2) h1).resolve_left λe=>S.DR b e (hpm b hb)
 have gsb:(uE u F s G).heap[s.sb]? = some (nL s G):=by rw [uD (lt _ (by simp [aC.bT])),if_pos rfl]
 have gbx:(uE u F s G).heap[s.bx]? = some (Ka s):=by rw [uD (lt _ (by simp [aC.bT])),if_neg (cN n4),if_pos rfl]
 have gold:∀ b,¬ fq b \/ F b->(uE u F s G).heap[b]? = u.heap[b]?:=λb hb=>by
  have ns:∀ d ∈ s.bT,b ≠ d:=λd hd e=>by
   subst e;exact hb.elim (λh=>h (hv _ hd).2.2.2) (M.low _ hd).2
  by_cases hl:b < u.heap.size
  ·rw [uD hl,if_neg (ns _ (by simp [aC.bT])),if_neg (ns _ (by simp [aC.bT])),if_pos hb,aX hl]; rfl
  ·rw [c8 (by rw [sU]; omega),c8 (by omega)]
 have ghid:∀ b,fq b->¬ F b->b ≠ s.sb->b ≠ s.bx->b < u.heap.size->(uE u F s G).heap[b]? = some dummy:=λb h1 h2 h3 h4 h5=>by
  rw [uD h5,if_neg h3,if_neg h4,if_neg (by rintro (h | h) <;> contradiction)]
 have hnv:cI (uE u F s G):=λb o ho=>by
  rcases qY ho with ⟨_,rfl⟩ | ⟨_,rfl⟩ | ⟨_,_,_,ho⟩ | rfl
  ·rfl
  ·rfl
  ·exact V.nv b o ho
  ·rfl
 have Af:∀ (b k:Nat) o z,(¬ fq b \/ F b)->u.heap[b]? = some o->¬ Ro o k z:=λb k o z hb ho hr=>by
  have⟨a,ha,hx⟩:=V.Nb b k o z ho hr
  rcases hb with hb | hb
  ·exact hb (.inl (S.rn a ha b (ng hx)).2.1)
  ·have:=(av.iL hsa hb).1 o ho;rw [jH hr.pL] at this; cases this
 refine ⟨⟨rfl,rfl,rfl,rfl,sU,hnv,gold,gsb,gbx,ghid⟩,hF1,⟨hnv,⟨by rw [sU]; exact V.gy.size,V.gy.tape,V.gy.drawn,V.gy.os,V.gy.output,λb hb=>?_,λb j z hz=>?_,λb j o z ho hr=>?_⟩,λb hb hv'=>?_,λb j z hz=>?_,λb j o z ho hr=>?_,λb hb hp h0 h1 h2=>?_⟩,gsb,gbx⟩
 ·by_cases hl:b < u.heap.size
  ·cases ho:(uE u F s G).heap[b]? with
   | none=>grind
   | some o =>
     have hP:=hb o ho
     rcases qY ho with ⟨_,rfl⟩ | ⟨_,rfl⟩ | ⟨_,_,h3,ho'⟩ | rfl
     ·cases hP
     ·cases hP
     ·rw [V.gy.iL b λo' h=>by rw [ho'] at h; cases h; exact hP,ho']
     trivial
  ·rw [c8 (by rw [V.gy.size]; omega),c8 (by rw [sU]; omega)]
 ·exact s54
 ·rcases qY ho with ⟨rfl,rfl⟩ | ⟨rfl,rfl⟩ | ⟨_,_,h3,h⟩ | rfl
  ·exact ⟨_,e1,(hv _ (by simp [aC.bT])).2.1.trans m1,by rw [dN,eX (cY.1 (nj.1 hr)).1]; exact nj.1 hr⟩
  ·obtain⟨rfl,rfl⟩:=yf.1 hr
   grind [aC.bT]
  ·grind
  grind [ef]
 ·by_cases hf:F b
  ·exact .inr (wY hf)
  ·rw [iX hf];have hnp:¬ fq b:=λhp=>by
    by_cases e1:b = s.sb
    ·subst e1; have:=hv' _ gsb; rw [jH (wV _ _)] at this; cases this
    by_cases e2:b = s.bx
    ·subst e2; have:=hv' _ gbx; rw [jH (Dx _)] at this; cases this
    exact qD (ghid b hp hf e1 e2 (by rw [<- V.gy.size]; exact hb)) hv'
   refine .inl ((V.iL b hb λo ho=>hv' o (by grind)).resolve_right λe=>hnp (S.Gb e))
 ·exact s54
 ·rcases qY ho with ⟨rfl,rfl⟩ | ⟨rfl,rfl⟩ | ⟨_,_,h3,h⟩ | rfl
  ·exact .inl rfl
  ·exact .inr rfl
  ·grind
  grind [ef]
 ·by_cases hf:F b
  ·exact absurd (wY hf) h1
  ·exact ghid b hp hf (λe=>h2 (.inl e)) (λe=>h2 (.inr e)) (by rw [<- V.gy.size]; exact hb)
open Classical in
noncomputable def vZ (X:Nat->Prop) (u v':World):World:={ v' with heap:=Array.ofFn (n:=v'.heap.size) λb=>if X b.1 then (u.heap[b.1]?).getD dummy else (v'.heap[b.1]?).getD dummy }
theorem uR:(vZ X u v').heap.size = v'.heap.size:=by simp [vZ]
theorem Cr (h:X b) (hb:b < u.heap.size) (hs:u.heap.size <= v'.heap.size):(vZ X u v').heap[b]? = u.heap[b]?:=by
 have:b < v'.heap.size:=by omega
 simp [vZ,this,h,hb]
theorem um (h:¬ X b):(vZ X u v').heap[b]? = v'.heap[b]?:=by
 by_cases hb:b < v'.heap.size
 ·simp [vZ,hb,h]
 grind [uR]
theorem Pz (H:zS s Wg al u) (nvu:cI u) (hFX:∀ b,mN s Wg al b->¬ F b) (hF':∀ b,mN s Wg al b->¬ F' b) (nN:Sw F F' (kZ u s L Wg r al 1 G) v') (hsa:av.SA G' F' v') :
 Sw F F' u (vZ (mN s Wg al) u v') /\ av.SA G' F' (vZ (mN s Wg al) u v') /\ kZ (vZ (mN s Wg al) u v') s L Wg r al n G' = qN v' (al ++ [(n,s)]) G':=by
 have hz:(kZ u s L Wg r al 1 G).heap.size = u.heap.size:=yj;have hs:u.heap.size <= v'.heap.size:=by rw [<- hz]; exact nN.size
 have hdr:∀ {n:Nat} {v:World} {G:Gh},(kZ v s L Wg r al n G).tape = v.tape /\ (kZ v s L Wg r al n G).os = v.os /\ (kZ v s L Wg r al n G).output = v.output /\ (kZ v s L Wg r al n G).drawn = v.drawn:=by
  intro n v G;unfold kZ;rw [ov];simp only [dU,vC,and_self]
 have hd1:=hdr (n:=1) (v:=u) (G:=G);refine ⟨⟨nN.tape.trans hd1.1,nN.os.trans hd1.2.1,nN.output.trans hd1.2.2.1,by rw [uR]; exact hs,λb o ho=>?_,λb hb h1 h2=>?_,λb hb h1 h2=>?_,λb hb=>?_,nN.pm⟩,av.loc hsa λb hb=>um λh=>hF' b h hb,?_⟩
 ·by_cases hx:mN s Wg al b
  ·rw [Cr hx (H.lt b hx) hs] at ho; exact nvu b o ho
  ·rw [um hx] at ho; exact nN.nv b o ho
 ·by_cases hx:mN s Wg al b
  ·rw [Cr hx hb hs]
  ·rw [um hx,nN.keep b (by rw [hz]; exact hb) h1 h2,mn H hx]
 ·by_cases hx:mN s Wg al b
  ·rcases hb with hb | hb
   ·grind
   ·exact absurd (H.lt b hx) (by omega)
  ·rw [uR] at h2;rw [um hx];exact nN.gone b (hb.imp id λh=>by omega) h1 h2
 ·by_cases hx:mN s Wg al b
  ·grind
  ·have:=nN.Js b hb
   grind [mn]
 ·have H2:zS s Wg al (vZ (mN s Wg al) u v'):=⟨λb hb=>by rw [uR]; exact aD (H.lt b hb) hs,H.nd,H.nW,H.fW,H.fs⟩;have hd:=hdr (n:=n) (v:=vZ (mN s Wg al) u v') (G:=G');refine World.Ft (ik λb=>?_) (by rw [hd.2.2.2,ov]; rfl) (by rw [hd.1,ov]; rfl) (by rw [hd.2.1,ov]; rfl) (by rw [hd.2.2.1,ov]; rfl);rw [ov]
  by_cases hx:mN s Wg al b
  ·have hb:=H.lt b hx;have h1:=nN.keep b (by rw [hz]; exact hb) (hFX b hx) (hF' b hx);rw [j6 H2];rw [j6 H] at h1
   by_cases e:b = (nF al s).cs
   ·rw [if_pos e,e]; exact (eJ (by omega)).symm
   ·rw [if_neg e,eI (cN e),h1,if_neg e]
    by_cases e1:b = Wg
    ·rw [if_pos e1,if_pos e1]
    ·rw [if_neg e1,if_neg e1]
     by_cases e0:b = s.bx
     ·rw [if_pos e0,if_pos e0]
     rw [if_neg e0,if_neg e0]
     by_cases e2:b = s.cs \/ b = s.ce \/ b = s.ct
     ·rw [if_pos e2,if_pos e2]
     ·rw [if_neg e2,if_neg e2]
      by_cases e3:b = s.sb
      ·rw [if_pos e3,if_pos e3]
      ·rw [if_neg e3,if_neg e3,Cr hx hb hs]
  ·rw [mn H2 hx,um hx,eI λe=>hx (.inr (.inr e.symm))]
theorem Bz {g:Nat}:JU base (al ++ [(n,s)]) g lo ↔ JU base al g lo \/ (∃ i:Nat,i < 3 /\ (lo = .cell ⟨s.sb,i,none⟩ \/ lo = .cell ⟨s.bx,0,none⟩) /\ (g = 0 \/ g = base + al.length)):=by
 constructor
 ·rintro ⟨k,a,i,h1,h2⟩
  rcases fZ k al.length with h3 | h3
  ·rw [eX h3] at h1;exact .inl ⟨k,a,i,h1,h2⟩
  grind
 ·rintro (⟨k,a,i,h1,h2⟩ | ⟨i,h2⟩)
  ·exact ⟨k,a,i,by grind,h2⟩
  ·exact ⟨al.length,(n,s),i,by simp,h2⟩
theorem BU {k:Nat} {a':Nat × aC} (h:(al ++ [(n,s)])[k]? = some a'):(k < al.length /\ al[k]? = some a') \/ (k = al.length /\ a' = (n,s)):=by
 grind
theorem cj.SN (S:cj P ty Wg said gJ base gs w t D mm al l false q ow G st sm) (h0:gs[0]? = some g) (hm:mm = ⟨tr,0,0,0⟩) (V:VM Wg ow l al G w u) (h:Oo P ty Wg said true g u w (λg' v'=>∃ t',Tr.Sub t' tr /\ RunT (XM P ty Wg said) P true fq 0 gJ t' g' v')) :
 ∃ m' ops μ',runT P (crowd gs w sl) 0 = (.next m',ops) /\ lX μ' (uJ base av.n D mm al.length q false) /\ nA P ty Wg said gJ base μ' m' (t ++ ops):=by
 subst hm;have⟨_,fB,G1,s,r,L,F,g1,child,m,ZR,hn,hv,hsa,hpm,M,ZJ,hrc,hsp,abS,S9⟩:=h;obtain⟨rfl,rfl⟩:fB = al /\ G1 = G:=by
  cases fB with
  | nil =>
    cases al with
    | nil=>exact ⟨rfl,(ZR:G1 = av.G0).trans (V.gm:G = av.G0).symm⟩
    | cons a r0=>
      have h2:=S.wf;obtain rfl:=sM V.hW hv
      rcases h2 with ⟨r',s',e,h3⟩ | ⟨_,h3⟩
      ·grind
      grind
  | cons a r0=>exact V.ghost (k:=0) ZR rfl
 obtain rfl:=sM V.hW hv;have hp:=S.pos;have⟨H,hN,hNn⟩:=S.Fg V M;have⟨hB,hF1,NO⟩:=S.acC (k:=fB.length) V M hsa hpm;have VH:=S.abL (r:=r) V M;have Xx:=V.gy.size.symm;have⟨trc,hTc⟩:=(abS _ hB).tree;have hrun:=runT_crowd_spawn (sl:=sl) h0 (show stepG P _ g w = _ from hsp);have hsize:=S.size;have e0:((MemOp.ofEvents 0 g.frame.fn g.frame.place #[]).push { g:=0,fn:=g.frame.fn,pos:=g.frame.place,act:=MemAct.go gs.size }).push { g:=gs.size,fn:=child.frame.fn,pos:=g.frame.place,act:=MemAct.start } = #[{ g:=0,fn:=g.frame.fn,pos:=g.frame.place,act:=.go (base + fB.length) },{ g:=base + fB.length,fn:=child.frame.fn,pos:=g.frame.place,act:=.start }]:=by
  rw [hsize]; rfl
 rw [e0] at hrun
 generalize hxo:({ g:=0,fn:=g.frame.fn,pos:=g.frame.place,act:=.go (base + fB.length) }:MemOp) = xo at hrun
 generalize hyo:({ g:=base + fB.length,fn:=child.frame.fn,pos:=g.frame.place,act:=.start }:MemOp) = yo at hrun
 have hx:xo.g = 0 /\ xo.act = .go (base + fB.length):=by rw [<- hxo]; exact ⟨rfl,rfl⟩
 have hy:yo.g = base + fB.length /\ yo.act = .start:=by rw [<- hyo]; exact ⟨rfl,rfl⟩
 have hmo:∀ op ∈ (#[xo,yo]:Trace),op = xo \/ op = yo:=by intro op g9; simpa using g9
 have hst:∀ op ∈ (#[xo,yo]:Trace),op.act ≠ .mark .disable /\ op.act ≠ .mark .enable:=λop g9=>by
  rcases hmo op g9 with rfl | rfl
  ·rw [hx.2]; exact ⟨by simp,by simp⟩
  ·rw [hy.2]; exact ⟨by simp,by simp⟩
 have hnot:∀ i,0 < i->i < base + fB.length->∀ op ∈ (#[xo,yo]:Trace),op.g ≠ i:=λi i0 il op g9=>by
  rcases hmo op g9 with rfl | rfl
  ·rw [hx.1]; omega
  ·rw [hy.1]; omega
 have hlen:(fB ++ [(1,s)]).length = fB.length + 1:=by simp
 have hl':jr (qR r) = 0:=by cases r <;> rfl
 have⟨ho,e2,e3,_⟩:=S.mode.open_inv trivial;have hd0:Deaf t 0 = 0:=S.deaf0;have hxF:∀ b,xM Wg (fB ++ [(1,s)]) b->¬ F b:=λb hb hf=>by
  have afS:=(av.iL hsa hf).1
  rcases hb with rfl | ⟨a,ha,hb⟩
  ·have⟨_,_,o,h1,h2⟩:=S.II V b (.inl rfl);have:=afS o h1;rw [jH h2] at this; cases this
  ·rcases (by simpa using ha:a ∈ fB \/ a = (1,s)) with ha | rfl
   ·have⟨_,_,o,h1,h2⟩:=S.II V b (.inr ⟨a,ha,hb⟩);have:=afS o h1;rw [jH h2] at this; cases this
   ·exact (M.low b hb).2 hf
 have hXx:∀ b,mN s Wg fB b->xM Wg (fB ++ [(1,s)]) b:=λb hb=>by
  rcases hb with hb | hb | rfl
  ·exact .inr ⟨(1,s),by simp,hb⟩
  ·exact .inl hb
  ·cases fB with
   | nil=>exact .inr ⟨(1,s),by simp,by simp [nF,aC.bT]⟩
   | cons a r=>exact .inr ⟨a,by simp,by simp [nF,aC.bT]⟩
 have hsetl:∀ n:Nat,(fB ++ [(1,s)]).set fB.length (n,s) = fB ++ [(n,s)]:=by simp
 have hway:Way P true s (MAt P ty Wg said gJ fB.length s G1 F (kZ u s L Wg r fB 1 G1) _ tr) m g1:=λw1 hw1=>Goes.imp (λg2 _ ⟨g3,z',h1,h2⟩=>⟨g3,z',h1,λb v0 G' F' v' a1 a2 a3 a4 a5=>by
  have⟨b1,b2,b3⟩:=Pz (n:=if b then 0 else 1) H V.nv (λb hb=>hxF b (hXx b hb)) (λb hb hf=>a5 b hf (hXx b hb)) a4 a3;have⟨t',h3,h4⟩:=h2 b v0 G' F' _ a1 a2 b2 b1;refine ⟨t',h3,?_⟩;rw [hsetl,<- b3];exact h4⟩) (S9 w1 hw1)
 have hSw:oo s w:=VH.qk (a:=(1,s)) (by simp);have hgz:(gs.setIfInBounds 0 g1).size = base + fB.length:=by simp [hsize]
 have gold:∀ i:Nat,i ≠ 0->i < base + fB.length->((gs.setIfInBounds 0 g1).push child)[i]? = gs[i]?:=λi h1 h2=>by
  rw [Array.getElem?_push_lt (by omega),<- aX,bL (cN h1)]
 have hwF:∀ b,tj F (fB.length + 2) ow b = 0->¬ fq b:=λb hb=>by
  by_cases hf:F b
  ·rw [wY hf] at hb; omega
  ·rw [iX hf] at hb; exact S.DR b hb
 have hown:∀ b,xM Wg _ b->tj F (fB.length + 2) ow b = ow b:=λb hb=>iX (hxF b hb)
 have hM:AF P ty Wg said gJ (fB ++ [(1,s)]) (qR r) (tj F (fB.length + 2) ow) G1 w false ⟨tr,2,fB.length,m + 1⟩ g1:=by
  refine .mV (v:=kZ u s L Wg r fB 1 G1) ?_ (by rw [yj]; omega) (λb hb hx=>hxF b hx hb) (jF (aA _) |>.trans (by simp)) hl' ZJ (hway w hSw);refine VH.gQ (λb hb=>?_) hF1 λb hb=>⟨?_,hxF b hb⟩
  ·have:=mn (L:=L) (r:=r) (n:=1) (G:=G1) H (b:=b) λh=>hxF b (hXx b h) hb
   exact λo ho=>(av.iL hsa hb).1 o (by rw [<- this]; exact ho)
  ·rcases hb with rfl | ⟨a,ha,hb⟩
   ·exact S.CG.2.2
   ·rcases (by simpa using ha:a ∈ fB \/ a = (1,s)) with ha | rfl
    ·exact (S.rn a ha b hb).2.2.1
    ·have:=H.lt b (.inl hb); omega
 have P1:PastS (ShN Wg) av.Sn (JU base (fB ++ [(1,s)])) (yJ base (qR r) (fB.length + 1) (upd D fB.length ⟨trc,0,0,⟨7,0,0⟩,G1⟩)) (QQ base ⟨tr,2,fB.length,m + 1⟩ (fB.length + 1) (upd D fB.length ⟨trc,0,0,⟨7,0,0⟩,G1⟩)) w.heap.size (base + fB.length) (t ++ #[xo,yo]):=by
  have hnew:∀ {i:Nat} {lo:Loc},(lo = .cell ⟨s.sb,i,none⟩ \/ lo = .cell ⟨s.bx,0,none⟩)->lo.isMemory = true /\ ¬ ShN Wg lo /\ ¬ av.Sn lo:=λh=>by
   rcases h with rfl | rfl
   ·exact ⟨rfl,λ⟨a,e,e2⟩=>by cases e; exact H.nW s.sb (by simp [aC.bT]) e2,S.wb rfl (.inl (hN s.sb (by simp [aC.bT])).2.2.2)⟩
   ·exact ⟨rfl,λ⟨a,e,e2⟩=>by cases e; exact H.nW s.bx (by simp [aC.bT]) e2,S.wb rfl (.inl (hN s.bx (by simp [aC.bT])).2.2.2)⟩
  have Q0:=S.past;have eh:hP base (⟨tr,0,0,0⟩:MX) = 0:=rfl;rw [eh] at Q0;have Q1:=Q0.still (St':=λg lo=>JU base fB g lo \/ (g = 0 /\ ∃ i:Nat,i < 3 /\ (lo = .cell ⟨s.sb,i,none⟩ \/ lo = .cell ⟨s.bx,0,none⟩))) (λg lo h=>.inl h) (λg lo h0 _ h=>h.resolve_right λh=>h0 h.1) λlo h=>by
   rcases h with h | ⟨_,i,_,h⟩
   ·exact S.stP h
   ·exact hnew h
  have Q2:=Q1.hire (St':=JU base (fB ++ [(1,s)])) (c:=base + fB.length) (.inl ⟨rfl,rfl⟩) (λi op hi e=>by have:=S.xQ i op hi; omega) (by omega) (λg lo hc h=>by
   rcases Bz.1 h with h | ⟨i,h1,h2,h3⟩
   ·exact .inl h
   ·exact .inr ⟨h3.resolve_right hc,i,h1,h2⟩) (λg lo hL h=>by
   rcases h with h | ⟨e,i,h1,h2⟩
   ·exact Bz.2 (.inl h)
   ·exact Bz.2 (.inr ⟨i,h1,h2,.inl e⟩)) (λlo h=>by
   rcases Bz.1 h with h | ⟨i,h1,h2,h3⟩
   ·exact S.stP h
   ·exact hnew h2) hx hy
  refine Q2.uf (aA _) (λg hg=>?_) λg hg=>?_
  ·rcases hg with ⟨e,_⟩ | ⟨k,h1,e,h2⟩
   ·exact .inl (.inl ⟨e,rfl⟩)
   ·by_cases ek:k = fB.length
    ·exact .inr (by rw [e,ek])
    ·rw [upd_ne D _ ek] at h2;exact .inl (.inr ⟨k,by omega,e,h2⟩)
  ·rcases hg with ⟨_,h⟩ | ⟨k,h1,e,h2⟩
   ·exact absurd h (by simp)
   ·exact .inr ⟨k,by omega,e,by rw [upd_ne D _ (by omega)]; exact h2⟩
 have eV:Vc (fB.length + 1) (upd (pf D) fB.length ⟨7,0,0⟩) = Vc fB.length (pf D) + 1:=by
  simp only [Vc,sumTo,upd_same];rw [sumTo_upd_out (pf D) _ cnt (aA _)];simp [cnt]
 have ho':OpenSt (fB.length + 1) (upd _ fB.length ⟨7,0,0⟩):=λi hi=>by
  by_cases e:i = fB.length
  ·subst e; rw [upd_same]; simp
  ·rw [upd_ne (pf D) _ e]; exact ho i (by omega)
 refine ⟨_,_,_,hrun,Prod.Lex.left _ _ (by omega),_,w,sl,_,_,_,qR r,false,q,_,G1,st,sm,rfl,
  ⟨hp,by grind,λi g0 hi0 hib hi=>?_,⟨g1,by grind,hM⟩,λk a hk=>?_,λk a hk=>?_,by rw [hlen]; exact P1,λi op hi=>?_,λa=>(S.norel a).app λop g9=>?_,by grind [Deaf_still],λk hk=>?_,λk hk h6=>?_,S.kept,?_,hwF,λb hb=>?_,λlo hlo=>?_,?_,λa ha b hb=>?_,?_,λa ha=>?_,?_,S.wg,?_,λb e=>?_⟩,rfl⟩
 ·rw [gold i (by omega) (by omega)] at hi;rw [Deaf_still t i _ hst];exact S.old i g0 hi0 hib hi
 ·rcases BU hk with ⟨hkl,hk⟩ | ⟨rfl,rfl⟩
  ·have⟨z,hz,hT⟩:=S.EB k a hk;refine ⟨z,by grind,?_⟩;rw [upd_ne D _ (by omega)];refine hT.step (λu2 G2 V2=>?_) (aA _) λ_=>RW.refl w
   rw [wI V2.gy.size.symm V2.gy.drawn.symm];exact ⟨V2.toVG.Zk hF1 (by decide) (by omega) (by omega) (by omega) λb hb hx=>hxF b (.inr ⟨a,by grind,ng hx⟩) hb,V2.gt,V2.bo⟩
  ·refine ⟨child,by grind,?_⟩;rw [upd_same];exact .run hTc (.refl _) NO hrc
 ·rcases BU hk with ⟨hkl,hk⟩ | ⟨rfl,rfl⟩
  ·rw [upd_ne D _ (by omega)]
   rcases S.now k a hk with ⟨h,_⟩ | ⟨_,h⟩
   ·grind
   ·exact .inr ⟨λh=>absurd h.2 (by grind),h.imp (λ⟨a,b,c,_⟩=>⟨a,b,c,λh=>by grind⟩) id⟩
  simp [upd_same]
 ·rcases dx hi with ⟨_,h1⟩ | ⟨_,h1⟩
  ·have:=S.xQ i op h1; omega
  ·rcases hmo op h1 with rfl | rfl
   ·omega
   omega
 ·rcases hmo op g9 with rfl | rfl
  ·grind
  grind
 ·rw [Deaf_still t _ _ hst]
  by_cases e:k = fB.length
  ·subst e;rw [upd_same];exact Deaf_absent λi op hi e=>by have:=S.xQ i op hi; omega
  ·rw [upd_ne D _ e,S.deafW k (by omega)]
 ·by_cases e:k = fB.length
  ·grind [upd_same]
  ·rw [upd_ne D _ e] at h6;have⟨rr,hr⟩:=S.rel k (by omega) h6;exact ⟨rr,hr.appNot λop g9=>hnot _ (by omega) (by omega) op g9⟩
 ·have⟨h1,h2,h3⟩:=S.H9
  grind [iX]
 ·rw [iX λhf=>hb (hpm b hf)]; exact S.Ia b hb
 ·have⟨a,q1,q2,q3⟩:=S.sn lo hlo
  grind [iX]
 ·rw [hown _ (.inl rfl)]; exact S.CG
 ·rw [hown _ (.inr ⟨a,ha,hb⟩)]
  rcases (by grind:a ∈ fB \/ a = (1,s)) with ha | rfl
  ·exact S.rn a ha b hb
  ·exact ⟨(hN b hb).2.2.1,(M.low b hb).1,by have:=H.lt b (.inl hb); omega,H.nW b hb⟩
 ·intro k k' a a' hk hk' i i' b h1 h2
  rcases BU hk with ⟨hkl,hk⟩ | ⟨rfl,rfl⟩ <;> rcases BU hk' with ⟨an1,hk'⟩ | ⟨rfl,rfl⟩
  ·exact S.sep k k' a a' hk hk' i i' b h1 h2
  ·exact absurd (ai h2) (hNn a (ai hk) b (ai h1))
  ·exact absurd (ai h1) (hNn a' (ai hk') b (ai h2))
  ·refine ⟨rfl,?_⟩;have⟨n1,n2,n3,n4,n5,n6,n7⟩:=H.nd;have⟨m1,m2,m3,_⟩:=M.ne;have hnd:s.bT.Nodup:=by
    simp only [aC.bT,ki,aE,aU,dj,not_or,px,jE,mW];exact ⟨⟨n1,n2,n3,n4⟩,⟨m1,m2,cN n5⟩,⟨m3,cN n6⟩,cN n7⟩
   exact (List.getElem?_inj (cY.1 h1).1 hnd).1 (h1.trans h2.symm)
 ·rcases (by simpa using ha:a ∈ fB \/ a = (1,s)) with ha | rfl
  ·exact S.FF a ha
  ·exact ⟨⟨0,(hN _ (by simp [aC.bT])).2.1.trans M.ct⟩,⟨0,(hN _ (by simp [aC.bT])).2.1.trans M.ce⟩,0,(hN _ (by simp [aC.bT])).2.1.trans M.cs⟩
 ·rw [hlen];cases r with
  | zero=>exact .inr ⟨by omega,.inl rfl⟩
  | succ r=>exact .inl ⟨r,5,rfl,by omega⟩
 ·rw [hlen,yL];have est:∀ aaB,pend aaB = 0->st = ((Vc _ _ + pend aaB:Nat):Int) * KK:=λaaB hp=>by rw [e2,eV,hp]; simp [pend,jZ]
  rw [e3];cases r with
  | zero=>rw [est .kd rfl]; exact .opn trivial ho' (by simp [jZ,qR])
  | succ r=>rw [est (.sp r 5) rfl]; exact .opn trivial ho' (by simp [jZ,qR])
 ·cases r <;> cases e
end
section
local instance:Duo:=AX
local instance:wT:=Ns
variable [Payload] [av] {k base:Nat} {s:aC} {G:Gh} {al:Al} {x:PX} {g2:Goroutine} {st:Int} {m:Nat}
variable (P ty Wg said gJ) in
def U2 (base:Nat) (gs:Array Goroutine) (w:World) (t:Trace) (D:Nat->PX) (mm:MX) (al:Al) (bl:Bool) (q:Nat->Nat) (sl:Option (Nat × Nat)) (i:Nat):Prop :=
 ∃ m' ops μ',runT P (crowd gs w sl) i = (.next m',ops) /\ lX μ' (uJ base av.n D mm al.length q bl) /\ nA P ty Wg said gJ base μ' m' (t ++ ops)
theorem QP.grow (h:QP P ty Wg said k s g v) (hg:df v u):QP P ty Wg said k s g u:=by
 have⟨v0,G,G',F,g2,z,ze,m,h1,h2,h3⟩:=h;exact ⟨v0,G,G',F,g2,z,ze,m,h1,⟨(hg.old _ (aG h2.gh)).trans h2.gh,av.loc h2.sa λb hb=>hg.old b (av.iL h2.sa hb).2,h2.st,h2.pm,h2.Qn⟩,h3⟩
theorem AF.mds (h:AF P ty Wg said gJ al l ow G w bl mm g):mm.md <= 3:=by cases h <;> simp
theorem HB (hr:g2.status = .running) (hw:Way P false s (TAt P ty Wg said k s G' F v tr) m (Go.Conc.served g2 (commResult (ic s v0 z ze) .select 0 undef false))) (V:VT k s ow' G w' (gQ F v w')) (hs:v.heap.size <= w'.heap.size) (hF:∀ b,F b->¬ xT s b) :
 Be P ty Wg said k s ow' w' ⟨tr,1,m + 1,⟨7,0,0⟩,G'⟩ (Go.Conc.served g2 (commResult (ic s v0 z ze) .select 0 undef false)) :=
 .mV V hs hF rfl (hw w' V.qk)
theorem cj.Zb {b:Bool} (S:cj P ty Wg said gJ base gs w t D mm al l bl q ow G st sm) (hk:al[k]? = some a) (hg:gs[base + k]? = some g) (hx:D k = ⟨tr,0,0,⟨7,0,0⟩,G⟩) (hh:2 <= mm.md /\ k = mm.k) (V:VT k a.2 ow G w u) (sf:J0 P false (ic a.2 v0 z ze) .select g2 g)
 (QH:said b v0) (hsa:av.SA G' F u) (C9:av.St k v0 G G') (hpm:∀ b,F b->fq b) (va:x'.md = if b then 3 else 1) (hx2:x'.wd.stage = 7 /\ x'.wd.deaf = 0) (hx3:b = false->x'.G = G')
 (hT:Be P ty Wg said k a.2 ow w ⟨tr,2,0,⟨7,0,0⟩,G⟩ (parked g2 (ic a.2 v0 z ze) .select))
 (hT':∀ w' ow',VT k a.2 ow' G w' (gQ F u w')->u.heap.size <= w'.heap.size->(∀ b,F b->¬ xT a.2 b)->WgLive ty Wg w'->Has av.C k (av.tv k) w'->k < av.n->Be P ty Wg said k a.2 ow' w' x' (Go.Conc.served g2 (commResult (ic a.2 v0 z ze) .select 0 undef false))) :
 U2 P ty Wg said gJ base gs w t D mm al bl q sl (base + k):=by
 have⟨gm,_,hM⟩:=S.main;have h3:=hM.mds
 rcases (by omega:mm.md = 2 \/ mm.md = 3) with e | e
 ·exact S.Rn hk hg hx hh e sf hT
 ·exact S.Rp hk hg hx hh e V sf QH hsa C9 hpm va hx2 hx3 hT'
theorem cj.stepT (hn:av.n < 2147483648) (S:cj P ty Wg said gJ base gs w t D mm al l bl q ow G st sm) (hk:al[k]? = some a) (hg:gs[base + k]? = some g) (hrun:g.status = .running) :
 U2 P ty Wg said gJ base gs w t D mm al bl q sl (base + k):=by
 have⟨z,hz,hT⟩:=S.EB k a hk;rw [hg] at hz;obtain rfl:=ak hz;have yi:=S.now k a hk
 generalize hD:D k = d at hT yi
 cases hT with
 | @run tr G1 _ v u h1 h2 h3 h4 =>
   obtain⟨hh1,hh2,_,_,hG⟩:2 <= mm.md /\ k = mm.k /\ a.1 = 1 /\ ((0:Nat) = 0 \/ ((0:Nat) = 2 /\ mm.md = 2)) /\ G1 = G:=by
    grind
   subst hG;have told:∀ {g':Goroutine->World->Prop},KT P (said false) k a.2 false g u w (λg' v'=>∃ t',Tr.Sub t' tr /\ RunT (Kc P (said false) k a.2) P false fq 0 (QP P ty Wg said k a.2) t' g' v')->U2 P ty Wg said gJ base gs w t D mm al bl q sl (base + k):=by
    intro _ hK;have⟨v1,z1,ze1,g2,sf,alL⟩:=Be.abd (ow:=ow) (w:=w) h3 hK;have⟨v0,Ga,G',F,g2',z,ze,zt,QA,m,S',k1,k2,k3,k4⟩:=hK rfl;have e:Ga = G1:=zZ (ak (k2.gh.symm.trans h3.gt));subst e;have hway:Way P false a.2 (TAt P ty Wg said k a.2 G' F u tr) m (Go.Conc.served g2' (commResult (ic a.2 v0 z ze) .select 0 undef false)):=λw1 hs=>Goes.imp (λg' _ ⟨g3,h5,h6⟩=>⟨g3,zt,QA,h5,λx JY F'' v' a1 a2 a3=>k4 _ _ (h6 x JY F'' v' a1 a2 a3)⟩) (k3 w1 hs)
    exact S.Zb (b:=false) (x':=⟨tr,1,m + 1,⟨7,0,0⟩,G'⟩) hk hg hD ⟨hh1,hh2⟩ h3 k2.Qn k1 k2.sa k2.st k2.pm rfl ⟨rfl,rfl⟩ (λ_=>rfl) (.told (.refl u) h3 k1 k2.sa k2.st k2.pm k2.Qn.2.1 hway) λw' ow' b1 b2 b3 _ _ _=>HB k2.Qn.2.1 hway b1 b2 b3
   rcases h1.cases with ⟨rfl,sL⟩ | ⟨_,_,bl1,hb1,hst⟩
   ·have⟨v0,Ga,G',F,g2,z,ze,m,k1,k2,k3⟩:=sL.grow h2;have e:=zZ (ak (k2.gh.symm.trans h3.gt));subst e;exact S.Zb (x':=⟨.leaf,3,0,⟨7,m,0⟩,G'⟩) hk hg hD ⟨hh1,hh2⟩ h3 k2.Qn k1 k2.sa k2.st k2.pm rfl ⟨rfl,rfl⟩ (λh=>by cases h) (.last (.refl u) h3 k1 k2.sa k2.st k2.pm k2.Qn.2.1 k3) λw' ow' b1 b2 b3 b4 b5 _=>.wo (.inl ⟨rfl,rfl,k3 w' b4 b5⟩)
   ·rcases hst u w ⟨h2,h3.nv,h3.gy,trivial⟩ (λ_=>trivial) with ⟨g',v',tr',sK,hp,hT'⟩ | hK
    ·exact S.afb hk hg hD ⟨hh1,hh2⟩ h3 hp sK hT'
    ·exact told (g':=λ_ _=>True) hK
 | @mV tr G0 G1 _ F v n h1 h2 h3 h4 h5 =>
   rcases Goes.cases h5 with hs | ⟨n',rfl,hs⟩
   ·have hT:=hs w h1.qk
    by_cases hm:mm.md = 1 /\ mm.k = k
    ·exact S.Rh hk hg hD h1 h2 hT hm
    ·exact S.Rg hk hg hD h1 h2 h3 hT hm
   ·obtain⟨g',w',es,hgo,⟨rfl,Ed⟩,hG⟩:=hs w h1.qk;exact S.aiz hk hg hD h1 h2 h3 hgo Ed (Goes.running (λ_ _ ⟨_,_,_,h,_⟩=>h.1) w' h1.qk hG) hG
 | Vj=>cases hrun
 | told=>cases hrun
 | last=>cases hrun
 | @wo wd G1 _ h =>
   exact S.V9 hn hk hg (by rw [hD]) (by grind) hrun
end
section
variable [Payload] [av] {k base:Nat} {s:aC} {G:Gh} {al:Al} {x:PX} {g2:Goroutine} {st:Int} {m:Nat}
theorem cj.Xo (S:cj P ty Wg said gJ base gs w t D mm al l false q ow G st sm) (h0:gs[0]? = some g) (hm:mm = ⟨tr,0,0,0⟩) (V:VM Wg ow l al G w u) (h:YM P Wg said true g u w (λg' v'=>∃ t',Tr.Sub t' tr /\ RunT (XM P ty Wg said) P true fq 0 gJ t' g' v')) :
 U2 P ty Wg said gJ base gs w t D mm al false q sl 0:=by
 have⟨_,fB,G1,k,s,F,g2,z,z0,m,ZR,hk,⟨l1,hl1,hdl⟩,hsa,hpm,sf,S9⟩:=h;obtain⟨rfl,rfl⟩:=V.ghost ZR hk;obtain rfl:=sM V.hW hl1;have hway:Way P true s (MAt P ty Wg said gJ k s G1 F u fB tr) m _:=λw1 hs=>Goes.imp (λg' _ ⟨g3,z',h5,h6⟩=>⟨g3,z',h5,λb v0 G' F' v' a1 a2 a3 a4 _=>h6 b v0 G' F' v' a1 a2 a3 a4⟩) (S9 w1 hs)
 have⟨z1,hz1,hT⟩:=S.EB k _ hk;have yi:=S.now k _ hk
 generalize hD:D k = d at hT yi
 have hm0:¬ 2 <= mm.md:=by rw [hm]; simp
 have e1:d.md = 1:=by
  rcases yi with ⟨h,_⟩ | ⟨_,⟨h,_⟩ | ⟨_,h⟩⟩
  ·exact absurd h hm0
  ·exact h
  ·exact absurd rfl h
 cases hT with
 | run=>cases e1
 | told=>cases e1
 | last=>cases e1
 | wo=>cases e1
 | mV h1 h2 h3 h4 h5 =>
   subst hm;exact S.YA hk h0 rfl (by grind) sf (.send (.refl u) V hsa hpm hk hdl sf.2.1 hway)
 | Vj h1 h2 h3 h4 h5=>exact S.YB hk h0 hm (.refl u) V hsa hpm hdl sf hway hD hz1 h1 h2 h5
theorem cj.aeA (hn:av.n < 2147483648) (hTr:∀ g v,gJ g v->g.status = .running) (S:cj P ty Wg said gJ base gs w t D mm al l bl q ow G st sm) (h0:gs[0]? = some g) (hrun:g.status = .running) :
 (bl = false /\ mm = ⟨.leaf,0,0,0⟩ /\ ∃ v u,gJ g v /\ df v u /\ VM Wg ow l al G w u) \/ U2 P ty Wg said gJ base gs w t D mm al bl q sl 0:=by
 have⟨gm,Hm,hM⟩:=S.main;rw [h0] at Hm;obtain rfl:=ak Hm
 generalize hmm:mm = m0 at hM
 cases hM with
 | @hold tr g v u _ h1 h2 h3 h4 h5 =>
   cases bl with
   | true=>grind
   | false =>
     rcases h1.cases with ⟨rfl,sL⟩ | ⟨_,_,bl1,hb1,hst⟩
     ·grind
     ·refine .inr ?_
      rcases hst u w ⟨h2,h3.nv,h3.gy,l,h3.hW,S.fits hn⟩ (λ_=>trivial) with ⟨g',v',tr',sK,hp,hT'⟩ | hK
      ·have hr:g'.status = .running:=by
        rcases hT'.cases with ⟨_,h⟩ | ⟨h,_⟩
        ·exact (hTr g' v' h)
        ·exact h
       rw [<- hmm];exact S.afc h0 hmm h3 hp sK hT' hr
      ·rw [<- hmm]
       rcases hK rfl with ⟨_,g',l1,l',w',es,k1,k2,k3,k4,tr',k5,k6⟩ | hK | hK | hK | hK | hK
       ·obtain rfl:=sM h3.hW k1;exact S.afC hn h0 hmm h3 k2 k3 k4 k6 k5
       ·exact S.Xo h0 hmm h3 hK
       ·exact S.SN h0 hmm h3 hK
       ·exact S.Pt h0 hmm h3 hK
       ·exact S.Xn h0 hmm h3 hK
       ·exact S.afB hn h0 hmm h1 h2 h3 h4 hK
 | send=>cases hrun
 | wait=>cases hrun
 | @mV tr k n s F v _ h1 h2 h3 h4 h4' h5 h6 =>
   refine .inr ?_;have hs0:=h1.qk (ai h4);have⟨z1,hz1,hT⟩:=S.EB k _ h4;have yi:=S.now k _ h4;rw [<- hmm]
   rcases Goes.cases h6 with hs | ⟨n',rfl,hs⟩
   ·have hA:=hs w hs0
    rcases yi with ⟨_,_,_,hmd,hG⟩ | ⟨h,_⟩
    ·rcases hmd with hmd | ⟨hmd,_⟩
     ·exact S.R4 h4 h0 hmm h1 h2 h3 h4' hA hmd
     ·generalize hD:D k = d at hT hmd hG
      cases hT with
      | run=>grind
      | mV=>grind
      | Vj=>grind
      | wo=>grind
      | @told tr1 G1 G' F1 v1 u1 v0 z ze g2 m k1 k2 k3 k4 k5 k6 k7 k8 =>
        subst hG;exact S.H3 h4 h0 hmm h1 h2 h4' hA hD hz1 k1 k2 k3 k4 k5 k6 rfl ⟨rfl,rfl⟩ (λ_=>rfl) λw' ow' b1 b2 b3 _ _ _=>HB k7 k8 b1 b2 b3
      | @last G1 G' F1 v1 u1 v0 z ze g2 m k1 k2 k3 k4 k5 k6 k7 k8 =>
        subst hG;exact S.H3 (x':=⟨.leaf,3,0,⟨7,m,0⟩,G'⟩) h4 h0 hmm h1 h2 h4' hA hD hz1 k1 k2 k3 k4 k5 k6 rfl ⟨rfl,rfl⟩ (λh=>by cases h) λw' ow' b1 b2 b3 b4 b5 _=>.wo (.inl ⟨rfl,rfl,k8 w' b4 b5⟩)
    grind
   ·have⟨g',w',es,hgo,hD,hG⟩:=hs w hs0;have hs1:oo s w':=by
     obtain⟨⟨d,rfl⟩,_⟩:=hD;exact hs0
    exact S.aiA h0 hmm h4 h1 h2 h3 h4' hgo hD (Goes.running (λ_ _ ⟨_,_,h,_⟩=>h.1) w' hs1 hG) hG
end
def Al.fV (al:Al):Nat->Prop:=λb=>∃ a ∈ al,b ∈ a.2.bT
variable {al:Al}
theorem Al.HS (h:∃ a ∈ al,xT a.2 b):al.fV b:=let ⟨a,h1,h2⟩:=h; ⟨a,h1,by rcases h2 with rfl | rfl <;> simp [aC.bT]⟩
section
local instance:Duo:=AX
variable [Payload] [av] [wT] {k base:Nat} {s:aC} {G:Gh} {x:PX} {g2:Goroutine} {st:Int} {m:Nat}
def Ow (P:Program) (Wg:Nat) (Fin:Goroutine->World->Prop) (m:Machine) (t:Trace):Prop :=
 ∃ gs w sl q g' v u al ow G,m = crowd gs w sl /\ Fin g' v /\ df v u /\ VM Wg ow [7] al G w u /\ al.length = av.n /\ (∀ b,¬ fq b->w.heap[b]? = av.W1.heap[b]?) /\ (∀ a ∈ al,∀ b ∈ a.2.bT,av.N0 <= b) /\ fC P (λl=>av.Sn l \/ ShN Wg l) t gs q g' (gQ al.fV u w) w
theorem aeC (V:VM Wg ow l al G w u):cI (gQ al.fV u w) /\ vk (gQ al.fV u w) w /\ (∀ (b k:Nat) z,(gQ al.fV u w).heap[b]? ≠ some (slot k z)) /\ Hg (gQ al.fV u w):=by
 have hs:=V.gy.size;have me:∀ (b k:Nat) z,(gQ al.fV u w).heap[b]? ≠ some (slot k z):=λb k z hz=>by
  rcases lk hz with e | ⟨_,hz⟩
  ·simp [slot,dummy] at e
  ·exact V.me b k z hz
 have Af:Hg (gQ al.fV u w):=λb k o z ho hr=>by
  rcases lk ho with rfl | ⟨hF,ho⟩
  ·exact ef hr
  ·exact hF (Al.HS (V.Nb b k o z ho hr))
 refine ⟨λb o ho=>?_,⟨kO.symm,V.gy.tape,rfl,V.gy.os,V.gy.output,λb hv=>?_,λb k z hz=>absurd hz (me b k z),λb k o z ho hr=>absurd hr (Af b k o z ho)⟩,me,Af⟩
 ·rcases lk ho with rfl | ⟨_,ho⟩
  ·rfl
  ·exact V.nv b o ho
 ·by_cases hb:b < w.heap.size
  ·by_cases hF:al.fV b
   ·grind [qD,qI]
   ·have e:(gQ al.fV u w).heap[b]? = u.heap[b]?:=by rw [iA hF hb,aX (by omega)]; rfl
    rw [e];exact V.gy.iL b λo ho=>hv o (e.trans ho)
  grind [kO]
theorem cj.afD (S:cj P ty Wg said gJ base gs w t D mm al [7] false q ow G st sm) (h0:gs[0]? = some g) (hm:mm.md = 0) (BP:df v u) (V:VM Wg ow [7] al G w u) (hg':g'.status = .running) (hst:∀ w,stepG P true g w = .go g' w #[Go.ConcR.mk (.acquire (stA Wg))]) (hF:Fin g' v)
 (hB:∀ b,wT.B b->av.Sn (.cell ⟨b,0,none⟩) /\ av.W1.heap[b]? = wT.W0.heap[b]?) :
 ∃ m' ops,runT P (crowd gs w sl) 0 = (.next m',ops) /\ Ow P Wg Fin m' (t ++ ops):=by
 have hp:=S.pos;have hrun:=runT_crowd_go (sl:=sl) h0 (show stepG P _ g w = _ from hst w);have⟨hq,_,_⟩:=S.mode.fin_inv trivial;have ho:∀ op ∈ MemOp.ofEvents 0 g.frame.fn g.frame.place #[Go.ConcR.mk (.acquire (stA Wg))],op.g = 0:=g_of_ofEvents;have hq1:∀ i,i < al.length->(D i).wd.stage = 1:=by assumption
 have hmd:∀ i,i < al.length->(D i).md = 3:=λi hi=>by
  have⟨z,_,hT⟩:=S.EB i _ (bW hi);have:=hq1 i hi
  generalize hD:D i = d at hT this
  cases hT with
  | wo=>rfl
  | _=>cases this
 have hnt:∀ e ∈ (#[Go.ConcR.mk (.acquire (stA Wg))]:Array Event),e = Go.ConcR.mk (.acquire (stA Wg)):=by intro e he; simpa using he
 have P1:=(S.past.app ho (λ_=>by
  rw [Deaf_own];exact deafBehind_still (λe he=>by rw [hnt e he]; simp [Go.ConcR.mk]) _) (λop g9=>by
  obtain⟨e,he,rfl⟩:=Conc.mem_ofEvents g9;rw [hnt e he];exact S.CG.2.2) λop g9 b hb=>by
  obtain⟨e,he,rfl⟩:=Conc.mem_ofEvents g9;rw [hnt e he] at hb;simp [Go.ConcR.mk,MemAct.ofEvent,MemAct.touch?] at hb)
 have hh:hP base mm = 0:=by unfold hP; rw [if_neg (by omega)]
 rw [hh] at P1;have P2:=P1.toPast (.inl ⟨rfl,rfl⟩) λg' hL=>by
  rcases hL with ⟨_,h⟩ | ⟨k,hk,_,h⟩
  ·omega
  ·rw [hmd k hk] at h; cases h
 have⟨z1,z2,z3,z4⟩:=aeC V;have hsz:=V.gy.size;refine ⟨_,_,hrun,_,w,sl,λi=>if i < base then q i else (D (i - base)).wd.fuel,g',v,u,al,ow,G,rfl,hF,BP,V,S.wf.jn (by simp),S.kept,λa ha b hb=>(S.rn a ha b hb).2.1,get_map_set_same _ _ _ (by grind),⟨λi y hi hy=>?_,λi hi=>?_⟩,P2,λi op hi=>?_,λa=>r8 (S.norel a) λe he=>?_,z1,z2,λl hl=>?_,z3,z4,λb hb=>?_⟩
 ·rw [bL (by omega),fE] at hy;obtain⟨z,hz,rfl⟩:=cd.1 hy;rw [Deaf_other t (by omega) _ ho]
  by_cases hb:i < base
  ·have hqd:=S.old i z hi hb hz
   grind [woken_quitsD]
  ·have hlt:=(bP.1 hz).1;rw [S.size] at hlt;have⟨z',hz',hT⟩:=S.EB _ _ (bW (by omega:i - base < al.length));rw [show base + (i - base) = i by omega] at hz';rw [hz] at hz';obtain rfl:=ak hz';have hd:=S.deafW (i - base) (by omega);rw [show base + (i - base) = i by omega] at hd;have h1:=hq1 (i - base) (by omega);have h3:=hmd (i - base) (by omega);rw [hd,if_neg hb]
   generalize hD:D (i - base) = d at hT h1 h3
   cases hT with
   | run=>cases h3
   | mV=>cases h3
   | Vj=>cases h3
   | told=>cases h3
   | last=>cases h3
   | wo h =>
     rw [oW (lD _ h.status)]
     rcases h with ⟨h7,_⟩ | ⟨_,hW⟩
     ·grind
     ·exact hW.quits h1
 ·have hi':base + al.length <= i:=by simpa [S.size] using hi
  rw [Deaf_other t (by omega) _ ho];exact Deaf_absent λa op ha e=>by have:=S.xQ a op ha; omega
 ·rw [show ((gs.map (Go.Conc.woken P g g' w)).setIfInBounds 0 g').size = gs.size by simp,S.size]
  rcases dx hi with ⟨_,h1⟩ | ⟨_,h1⟩
  ·exact S.xQ i op h1
  grind
 ·grind [Go.ConcR.mk,MemAct.ofEvent]
 ·rcases hl with hl | ⟨a,h1,h2⟩
  ·obtain⟨a,rfl,h2,h3⟩:=S.sn l hl;have hlt:=S.lt0 h2;have hnx:¬ al.fV a.block:=λ⟨a',ha',e⟩=>h2 (S.Gb (S.rn a' ha' _ e).1)
   have e:(gQ al.fV u w).heap[a.block]? = u.heap[a.block]?:=by rw [iA hnx hlt,aX (by omega)]; rfl
   rcases Ri u a.block with h4 | ⟨o,h4,h5⟩ | ⟨i,y,h4⟩
   ·rcases V.iL _ hlt h4 with e | e <;> omega
   ·refine ⟨a,o,rfl,e.trans h4,h5,λy hr=>?_⟩;exact hnx (Al.HS (V.Nb _ _ _ _ h4 hr))
   grind
  ·subst h1;have hnx:¬ al.fV a.block:=λ⟨a',ha',e⟩=>(S.rn a' ha' _ e).2.2.2 h2
   refine ⟨a,gh [7],rfl,?_,LB _,λy=>kW⟩;rw [iA hnx (by rw [h2]; exact S.CG.2.2),h2,V.hW]; rfl
 ·have⟨h1,h2⟩:=hB b hb;have⟨a,e,h3,_⟩:=S.sn _ h1;cases e;exact ⟨.inl h1,(S.kept _ h3).trans h2⟩
theorem cj.aeB (S:cj P ty Wg said gJ base gs w t D mm al l bl q ow G st sm):∃ (i:Nat) (g:Goroutine),gs[i]? = some g /\ g.status = .running:=by
 have⟨gm,Hm,hM⟩:=S.main
 generalize hmm:mm = m0 at hM
 cases hM with
 | hold h1 h2 h3 h4 h5 =>
   cases bl with
   | false=>grind
   | true =>
     obtain⟨rfl,_,pM⟩:=h5 rfl;have run:∀ i,i < al.length->(pf D i).stage ≠ 1->∃ (i:Nat) (g:Goroutine),gs[i]? = some g /\ g.status = .running:=λi hi h1=>by
      have⟨z,hz,hT⟩:=S.EB i _ (bW hi);refine ⟨_,z,hz,?_⟩;have e:pf D i = (D i).wd:=rfl;rw [e] at h1;have e3:(D i).md = 3:=by
       rcases S.now i _ (bW hi) with ⟨h,_⟩ | ⟨_,⟨_,h,_⟩ | ⟨h,_⟩⟩
       ·rw [hmm] at h; simp at h
       ·exact absurd h (pM _ (oa hi))
       ·exact h
      generalize hD:D i = d at hT h1 e3
      cases hT with
      | wo h =>
        rcases h with ⟨_,_,h⟩ | ⟨_,h⟩
        ·exact Goes.running (λ_ _ x=>x.1) w (RW.refl w) h
        ·exact h.running_of h1
      | _=>cases e3
     have hmode:ConcN.Mode al.length _ .blk st sm:=S.mode;cases hmode with
     | opn h1 _ _=>trivial
     | reg _ _ h3 =>
       grind [exists_counted]
     | last L _ h2 h3 _=>grind
     | fin h1 _=>trivial
 | mV h1 h2 h3 h4 h4' h5 h6=>grind
 | @send tr k m s F v u g2 z z0 h0 h1 h2 h3 h4 h4' h5 h6 =>
   have⟨z,hz,hT⟩:=S.EB k _ h4;have yi:=S.now k _ h4;have e1:(D k).md = 1 /\ 0 < (D k).st:=by
    rcases yi with ⟨h,_⟩ | ⟨_,⟨e,_,_,h⟩ | ⟨_,h⟩⟩
    ·rw [hmm] at h; simp at h
    ·exact ⟨e,h (by rw [hmm]) (by rw [hmm])⟩
    ·exact absurd rfl h
   refine ⟨_,z,hz,?_⟩
   generalize hD:D k = d at hT e1
   cases hT with
   | mV _ _ _ h=>exact h
   | Vj=>grind
   | run=>omega
   | told=>grind
   | last=>grind
   | wo=>grind
 | @wait tr k s F v g3 z' h1 h2 h3 h4 h4' h5 h6 =>
   have⟨z,hz,hT⟩:=S.EB k _ h4;have yi:=S.now k _ h4;have e1:(D k).md = 0:=by
    rcases yi with ⟨_,_,_,h | ⟨_,h⟩,_⟩ | ⟨h,_⟩
    ·exact h
    ·rw [hmm] at h; cases h
    ·exact absurd ⟨by rw [hmm]; exact (by decide:2 <= 3),by rw [hmm]⟩ h
   refine ⟨_,z,hz,?_⟩
   generalize hD:D k = d at hT e1
   cases hT with
   | run _ _ _ h=>exact h
   | _=>cases e1
end
section
local instance:Duo:=AX
variable [Payload] [av] [wT] {base:Nat} {G:Gh} {st:Int}
theorem cj.awake (S:cj P ty Wg said gJ base gs w t D mm al l bl q ow G st sm):∀ g ∈ gs,awake g:=by
 intro g hg;have⟨i,hi⟩:=Array.mem_iff_getElem?.1 hg
 by_cases h0:i = 0
 ·subst h0;have⟨gm,Hm,hM⟩:=S.main;rw [hi] at Hm;obtain rfl:=ak Hm;cases hM with
  | hold _ _ _ h4 =>
    grind [awake_of]
  | send=>exact awake_of (.inr (.inl rfl))
  | wait=>exact awake_of (.inr (.inl rfl))
  | mV _ _ _ _ _ h=>exact awake_of (.inl h)
 ·by_cases hb:i < base
  ·exact awake_of ((S.old i g (by omega) hb hi).status.elim .inl λx=>.inr (.inr x))
  ·have hlt:=(bP.1 hi).1;rw [S.size] at hlt;have⟨z,hz,hT⟩:=S.EB _ _ (bW (by omega:i - base < al.length));rw [show base + (i - base) = i by omega,hi] at hz;obtain rfl:=ak hz
   generalize D (i - base) = d at hT
   cases hT with
   | run _ _ _ h=>exact awake_of (.inl h)
   | mV _ _ _ h=>exact awake_of (.inl h)
   | wo h=>exact awake_of (h.status.elim .inl λx=>.inr (.inr x))
   | _=>exact awake_of (.inr (.inl rfl))
theorem cj.at (S:cj P ty Wg said gJ base gs w t D mm al l bl q ow G st sm) (d:Nat):cj P ty Wg said gJ base gs (w.at d) t D mm al l bl q ow G st sm:=by
 have hA:Conc.Aside Wg w (w.at d):=⟨rfl,rfl,rfl,rfl,λ_ _=>rfl⟩;have⟨h1,h2,h3,h4,h5⟩:=S.aside hA S.wg;have⟨gm,Hm,hM⟩:=S.main;have hsa:∀ a ∈ al,oo a.2 (w.at d):=λa ha=>by
  have:oo a.2 w:=by
   exact s57
  exact this
 refine ⟨S.pos,S.size,S.old,⟨gm,Hm,hM.step h2 (aA _) hsa⟩,λk a hk=>?_,S.now,S.past,S.xQ,S.norel,S.deaf0,S.deafW,S.rel,S.kept,S.H9,S.DR,S.Ia,S.sn,S.CG,S.rn,S.sep,S.FF,S.wf,S.wg,S.mode,S.bound⟩;have⟨z,hz,hT⟩:=S.EB k a hk;exact ⟨z,hz,hT.step (h1 k a hk) (aA _) λ_=>h3 _⟩
theorem aez (hn:av.n < 2147483648) (hB:∀ b,wT.B b->av.Sn (.cell ⟨b,0,none⟩) /\ av.W1.heap[b]? = wT.W0.heap[b]?) (μ:MuP) (m:Machine) (t:Trace) (hI:nA P ty Wg said (sZ P Wg Fin) base μ m t) :
 (∃ m' ops,stepT P m = (.next m',ops) /\ Ow P Wg Fin m' (t ++ ops)) \/ ∃ m' ops μ',stepT P m = (.next m',ops) /\ lX μ' μ /\ nA P ty Wg said (sZ P Wg Fin) base μ' m' (t ++ ops):=by
 obtain⟨gs,w,sl,D,mm,al,l,bl,q,ow,G,st,sm,rfl,S,rfl⟩:=hI;have⟨i,g,d,OQ,hi,hg,hst⟩:=crowd_pick (P:=P) (w:=w) (sl:=sl) S.awake S.aeB;rw [hst];have S':=S.at d
 by_cases h0:i = 0
 ·subst h0
  rcases S'.aeA hn (λ_ _ h=>h.1) hi hg with ⟨rfl,rfl,v,u,⟨_,hv,g',hg',Tb,hF⟩,BP,V⟩ | h
  ·obtain rfl:=sM V.hW (by rw [BP.old _ (aG hv)]; exact hv);exact .inl (S'.afD hi rfl BP V hg' Tb hF hB)
  ·exact .inr h
 ·refine .inr ?_
  by_cases hb:i < base
  ·have hq:=S'.old i g (by omega) hb hi;cases hqi:q i with
   | zero=>rw [hqi] at hq; rw [hq.1] at hg; cases hg
   | succ k =>
     rw [hqi] at hq
     rcases hq with ⟨hf,_⟩ | ⟨_,g',es,hm,Tb,hq'⟩
     ·grind
     exact S'.slip (by omega) hb hi (Tb _) hq' hm (by omega)
  ·have hlt:=(bP.1 hi).1;rw [S.size] at hlt;have ei:i = base + (i - base):=by omega
   rw [ei];exact S'.stepT hn (bW (by omega:i - base < al.length)) (by grind) hg
theorem aiM (hn:av.n < 2147483648) (hB:∀ b,wT.B b->av.Sn (.cell ⟨b,0,none⟩) /\ av.W1.heap[b]? = wT.W0.heap[b]?):∀ (μ:MuP) (m:Machine) (t:Trace),nA P ty Wg said (sZ P Wg Fin) base μ m t ->
 ∃ N m' t',runNT P N m t = (.next m',t') /\ Ow P Wg Fin m' t':=by
 intro μ
 induction μ using Wz.induction with
 | _ μ ih =>
   intro m t hI
   rcases aez hn hB μ m t hI with ⟨m',ops,h1,h2⟩ | ⟨m',ops,μ',h1,h2,h3⟩
   ·exact ⟨1,m',_,by simp [runNT,h1],h2⟩
   ·have⟨N,m2,t2,h4,h5⟩:=ih μ' h2 m' _ h3;exact ⟨N + 1,m2,t2,by grind [runNT],h5⟩
end
section
local instance:Duo:=AX
variable [Payload] [av] [wT] {Shun:Loc->Prop}
open Classical in
noncomputable def Ia (u:World):Nat->Nat:=λb=>if fq b then 1 else if ny u b then 0 else av.n + 2
theorem aa1 (hn:av.n < 2147483648) (GL:0 < av.n) (hB:fC P Shun t gs q g u w) (hr:g.status = .running) (hW:u.heap[Wg]? = some (wgBlock ty 0 0)) (hN:av.N0 = Wg) (hsz:u.heap.size = Wg + 1) (hSn:av.Sn = Shun) (hW1:av.W1 = w)
 (hF0:∀ b,av.F0 b->ny u b) (hC:ny u av.C /\ av.C < Wg /\ ¬ av.F0 av.C) (hF:∀ l,ShN Wg l->Ot t l)
 (hT:eB (XM P ty Wg said) P true fq 0 (sZ P Wg Fin) g (dU u Wg (gh [0,av.n - 1,5]))) :
 ∃ N m' t',runNT P N (crowd gs w sl) t = (.next m',t') /\ Ow P Wg Fin m' t':=by
 have hWl:=aG hW;have hws:=hB.gy.size;have hWv:ny u Wg:=λo ho=>by rw [hW] at ho; cases ho; rfl
 have wW:w.heap[Wg]? = some (wgBlock ty 0 0):=by rw [hB.gy.iL _ hWv]; exact hW
 have hpW:fq Wg:=.inl (eW hN);have hpC:¬ fq av.C:=λh=>h.elim (λh=>by have:=hC.2.1; omega) hC.2.2
 have ne:∀ d,d ≠ Wg->(dU u Wg (gh [0,av.n - 1,5])).heap[d]? = u.heap[d]?:=λd hd=>eI (cN hd)
 have same:=eJ (o:=gh [0,av.n - 1,5]) hWl;have visU:∀ b,ny (dU u Wg (gh [0,av.n - 1,5])) b->b ≠ Wg /\ ny u b:=λb hv=>by
  have e:b ≠ Wg:=λe=>by
   subst e;have:=hv _ same;rw [jH (LB _)] at this; cases this
  exact ⟨e,λo ho=>hv o (by rw [ne b e]; exact ho)⟩
 have o1:∀ b,fq b->Ia u b = 1:=λb h=>if_pos h
 have o0:∀ b,¬ fq b->ny u b->Ia u b = 0:=λb h h2=>by unfold Ia; rw [if_neg h,if_pos h2]
 have o2:∀ b,¬ fq b->¬ ny u b->Ia u b = av.n + 2:=λb h h2=>by unfold Ia; rw [if_neg h,if_neg h2]
 have V:VM Wg (Ia u) [0,av.n - 1,5] [] av.G0 w (dU u Wg (gh [0,av.n - 1,5])):=by
  have me:∀ (b k:Nat) z,(dU u Wg (gh [0,av.n - 1,5])).heap[b]? ≠ some (slot k z):=λb k z hz=>by
   by_cases e:b = Wg
   ·subst e;rw [same] at hz;have:=LB [0,av.n - 1,5];rw [ak hz] at this;simp [pL,slot] at this
   ·rw [ne b e] at hz; exact hB.me b k z hz
  have Af:Hg (dU u Wg (gh [0,av.n - 1,5])):=λb k o z ho hr=>by
   by_cases e:b = Wg
   ·subst e;rw [same] at ho;rw [<- ak ho] at hr;exact kW hr
   ·rw [ne b e] at ho; exact hB.Af b k o z ho hr
  refine ⟨⟨M7 hB.nv rfl,⟨by rw [fN]; exact hws,hB.gy.tape,hB.gy.drawn,hB.gy.os,hB.gy.output,λb hv=>?_,λb k z hz=>absurd hz (me b k z),λb k o z ho hr=>absurd hr (Af b k o z ho)⟩,λb hb hv=>?_,me,λb k o z ho hr=>absurd hr (Af b k o z ho),λb hb hp h0 h1 _=>absurd (o1 b hp) h1⟩,same,rfl,λa ha=>(by cases ha),λa ha=>(by cases ha),λa ha=>(by cases ha),λb al' G' hb=>?_,λb k o z ho hr=>absurd hr (Af b k o z ho)⟩
  ·have⟨h1,h2⟩:=visU b hv;rw [ne b h1];exact hB.gy.iL b h2
  ·have⟨h1,h2⟩:=visU b hv
   by_cases hp:fq b
   ·exact .inr (o1 b hp)
   ·exact .inl (o0 b hp h2)
  ·by_cases e:b = Wg
   ·subst e;rw [same] at hb;exact absurd (ak hb).symm yp
   ·rw [ne b e] at hb;have:=aG hb;exact .inl (by omega)
 have hgs:gs.size ≠ 0:=λe=>by
  have:=(bP.1 hB.QN).1;omega
 have⟨tr,hT'⟩:=hT.tree;have hmode:ConcN.Mode 0 (pf (λ_=>(⟨.leaf,0,0,⟨0,0,0⟩,[]⟩:PX))) (jZ [0,av.n - 1,5] false) 0 0:=by
  have:=ConcN.Mode.opn (j:=0) (D:=pf (λ_=>(⟨.leaf,0,0,⟨0,0,0⟩,[]⟩:PX))) (tag:=.sp (av.n - 1) 5) trivial (λi hi=>by omega) (λvs e=>by cases e)
  simpa [Vc,sumTo,pend,jZ] using this
 have hBad:∀ b,wT.B b->av.Sn _ /\ av.W1.heap[b]? = wT.W0.heap[b]?:=λb hb=>by rw [hSn,hW1]; exact hB.kept b hb
 have P0:PastS (ShN Wg) av.Sn (JU gs.size []) (λg=>g = 0) (λ_=>False) w.heap.size 0 t:=by
  rw [hSn];exact .ofPast hB.past hF λl ⟨k,a,i,h,_⟩=>by cases h
 refine aiM (base:=gs.size) hn hBad _ _ _ ⟨gs,w,sl,_,⟨tr,0,0,0⟩,[],[0,av.n - 1,5],false,q,Ia u,av.G0,0,0,rfl,
  ⟨by omega,rfl,λi g hi _ hg=>hB.leave.old i g hi hg,⟨g,hB.QN,.hold (bl:=false) hT' (.refl _) V hr (λe=>by cases e)⟩,λk a h=>(by cases h),λk a h=>(by cases h),P0.uf (aA _) (λg hg=>?_) (λ_ h=>h.elim),hB.xQ,hB.norel,hB.past.hears,λk hk=>absurd hk (eC _),λk hk=>absurd hk (eC _),
   λb _=>(by rw [hW1]),⟨o0 _ hpC hC.1,by omega,by omega⟩,λb hb hp=>(by grind),λb hp=>?_,λl hl=>?_,⟨o1 _ hpW,eW hN,by omega⟩,λa ha=>(by cases ha),λk k' a a' h=>(by cases h),λa ha=>(by cases ha),.inl ⟨av.n - 1,5,rfl,by grind⟩,wW,hmode,(λb e=>by cases e)⟩,rfl⟩
 ·rcases hg with ⟨e,_⟩ | ⟨k,hk,_⟩
  ·exact e
  grind
 ·grind
 ·rw [hSn] at hl;have hH:=hB.nE l hl;obtain⟨a,o,rfl,h2,h3,h4⟩:=hH;have hnv:¬ ny u a.block:=λhv=>by have:=hv o h2; rw [jH h3] at this; cases this
  grind [aG,fq]
end
section
variable [Payload] [av] (P:Program) (ty:TypeId) (Wg:Nat) (said:Bool->Value->Prop) (pm:Nat->Prop) (fr:Nat) (T:Goroutine->World->Prop) (B:World->Prop)
def TQ (l:List Nat) (g:Goroutine):Prop:=g.status = .running /\ ∀ v,v.heap[Wg]? = some (gh l)->B v->eB (XM P ty Wg said) P true pm fr T g v
def acU (l:List Nat) (g:Goroutine) (w:World):Prop :=
 g.status = .running /\ (Ou ty Wg l w->∃ l' g' w' es,stepG P true g w = .go g' w' es /\ Rel ty Wg av.n l l' w w' es /\ TQ P ty Wg said pm fr T B l' g')
def Hd (l:List Nat) (g:Goroutine) (w:World):Prop:=acU P ty Wg said pm fr T B l g w \/ TQ P ty Wg said pm fr T B l g
def UX (g:Goroutine) (_:World):Prop:=g.status = .running /\ ∀ v,B v->eB X0 P true pm fr T g v
end
section
variable [Payload] [av] {B:World->Prop}
theorem Hd.st (h:Hd P ty Wg said pm fr T B l g w):g.status = .running:=h.elim (·.1) (·.1)
theorem afE (hB:∀ v v1,B v->df v v1->B v1) (yK:∀ v l l1,v.heap[Wg]? = some (gh l)->(l1 = l \/ l1 ≠ [])->B v->B (dU v Wg (gh l1))) {l:List Nat}:∀ (m:Nat) (g:Goroutine) (v:World),v.heap[Wg]? = some (gh l)->B v->(∀ w,WgLive ty Wg w->Goes P true (RZ ty Wg) DC0 (Hd P ty Wg said pm fr T B l) m g w) ->
 eB (XM P ty Wg said) P true pm fr T g v
 | 0,g,v,hv,hb,h=>by
   by_cases ht:TQ P ty Wg said pm fr T B l g
   ·exact ht.2 v hv hb
   ·have⟨w0,hw0⟩:=Aj ty Wg;refine .gen (h w0 hw0 w0 id).st false (λe=>by cases e) λv1 w mt _=>?_
    have⟨l1,hl1,hf⟩:=mt.fits;have hv1:v1.heap[Wg]? = some (gh l):=by rw [mt.grow.old _ (aG hv)]; exact hv
    obtain rfl:=sM hv1 hl1
    rcases h w hf.live w id with hs | hs
    ·exact s39
    trivial
 | m + 1,g,v,hv,hb,h=>by
   by_cases ht:TQ P ty Wg said pm fr T B l g
   ·exact ht.2 v hv hb
   ·have⟨w0,hw0⟩:=Aj ty Wg;have hr:g.status = .running:=by
     rcases h w0 hw0 with h1 | ⟨h1,_⟩
     ·exact (h1 w0 id).st
     ·exact h1
    refine .gen hr false (λe=>by cases e) λv1 w mt _=>?_
    have⟨l1,hl1,hf⟩:=mt.fits;have hv1:v1.heap[Wg]? = some (gh l):=by rw [mt.grow.old _ (aG hv)]; exact hv
    obtain rfl:=sM hv1 hl1
    rcases h w hf.live with h1 | ⟨_,h1⟩
    ·rcases h1 w id with hs | hs
     ·exact s39
     trivial
    ·have h2:=h1 w id;cases hst:stepG P true g w with
     | go g' w' es =>
       rw [hst] at h2;obtain⟨⟨rfl,rfl⟩,hG⟩:=h2;exact .inl ⟨g',v1,⟨w',#[],hst,.refl _ _,.refl mt.gy,by simp⟩,afE hB yK m g' v1 hv1 (hB _ _ hb mt.grow) λw2 hw2=>Goes.rely RL hG (λ_=>hw2)⟩
     | _=>rw [hst] at h2; trivial
theorem TQ.wo (hB:∀ v v1,B v->df v v1->B v1) (yK:∀ v l l1,v.heap[Wg]? = some (gh l)->(l1 = l \/ l1 ≠ [])->B v->B (dU v Wg (gh l1))) {l:List Nat} {g:Goroutine} (m:Nat) (h:∀ w,WgLive ty Wg w->Goes P true (RZ ty Wg) DC0 (Hd P ty Wg said pm fr T B l) m g w):TQ P ty Wg said pm fr T B l g:=by
 have⟨w0,hw0⟩:=Aj ty Wg;exact ⟨Goes.running (λ_ _ x=>x.st) w0 (λx=>x) (h w0 hw0),λv hv hb=>afE hB yK m g v hv hb h⟩
theorem TQ.sem (hB:∀ v v1,B v->df v v1->B v1) (yK:∀ v l l1,v.heap[Wg]? = some (gh l)->(l1 = l \/ l1 ≠ [])->B v->B (dU v Wg (gh l1))) (hBG:∀ v,B v->∃ (al:Al) (G:Gh) (k:Nat) (a:Nat × aC),DU v al G /\ al[k]? = some a /\ ∀ a ∈ al,a.1 ≠ 1) (hb:Vf P ty Wg g) (hr:g'.status = .running)
 (hgo:∀ w,WgAt ty Wg w 0 1->stepG P true g w = .go g' (w.setCell (smA Wg) (.int .u32 0)) (semEvents (smA Wg))) (h:TQ P ty Wg said pm fr T B [5] g'):TQ P ty Wg said pm fr T B [4] g:=⟨hb.1,λv hv QF=>.gen hb.1 false (λe=>by cases e) λv1 w mt _=>by
 have hv1:v1.heap[Wg]? = some (gh [4]):=by rw [mt.grow.old _ (aG hv)]; exact hv
 have hb1:=hB _ _ QF mt.grow;have⟨al,G,k,a,h1,h2,h3⟩:=hBG _ hb1;exact .inr λ_=>.inr (.inr (.inr (.inr (.inr ⟨rfl,g',al,G,k,a,h1,h2,h3,hv1,hb,hr,hgo w,h.2 _ (eJ (aG hv1)) (yK _ _ _ hv1 (.inr (by simp)) hb1)⟩))))⟩
theorem SV (hB:∀ v v1,B v->df v v1->B v1):∀ (m:Nat) (g:Goroutine) (v:World),B v->(∀ w,Goes P true RT DC0 (UX P pm fr T B) m g w)->eB X0 P true pm fr T g v
 | 0,g,v,hb,h=>(h (default:World) (default:World) trivial).2 v hb
 | m + 1,g,v,hb,h=>by
   by_cases ht:UX P pm fr T B g (default:World)
   ·exact ht.2 v hb
   ·have hr:g.status = .running:=by
     rcases h default with h1 | ⟨h1,_⟩
     ·exact absurd (h1 default trivial) ht
     ·exact h1
    refine .go hr λv1 w mt=>?_
    rcases h w with h1 | ⟨_,h1⟩
    ·exact absurd (h1 w trivial) ht
    ·have h2:=h1 w trivial;cases hst:stepG P true g w with
     | go g' w' es =>
       rw [hst] at h2;obtain⟨⟨rfl,rfl⟩,hG⟩:=h2;exact ⟨g',v1,⟨w',#[],hst,.refl _ _,.refl mt.gy,by simp⟩,SV hB m g' v1 (hB _ _ hb mt.grow) λw2=>Goes.rely (λ_ _ _ _ _=>trivial) hG trivial⟩
     | _=>rw [hst] at h2; trivial
end
open Go.RowKit Go.Conc.Lib Go.ConcR.Gen Go.ConcN.Gen
section
variable [Payload] [av] {L:WgLink} {B:World->Prop} {b₀:Frame} {a₀:Act} {CH:Array Oper} {i₀:Nat} {AU:List Nat} {k₀:List Item}
def ac3 (P:Program) (pm:Nat->Prop) (fr:Nat) (T:Goroutine->World->Prop) (B B2:World->Prop) (g:Goroutine) (v:World):Prop:=B v /\ ∀ v2,B2 v2->eB X0 P true pm fr T g v2
def rt {w1:World} (h:True) (r:RT w w1):True:=h
theorem Kj (H:WgLib P L) (hB:∀ v v1,B v->df v v1->B v1) (yK:∀ v l l1,v.heap[Wg]? = some (gh l)->(l1 = l \/ l1 ≠ [])->B v->B (dU v Wg (gh l1))) (hBG:∀ v,B v->∃ (al:Al) (G:Gh) (k:Nat) (a:Nat × aC),DU v al G /\ al[k]? = some a /\ ∀ a ∈ al,a.1 ≠ 1) (QL:∀ v v1,B2 v->df v v1->B2 v1)
 (hT:∀ v,B2 v->eB X0 P true pm2 fr2 T2 (G (b₀.at (a₀.put ((CH[i₀]?).bind (·.dst)) (.tuple #[])) (.inRegion CH AU :: k₀)) cs) v) :
 ∀ (b:Nat) (T:Array Value),T.size = 84->T[0]? = some (.pointer (some ⟨Wg,0,none⟩))->TQ P L.tWg Wg said pm fr (sZ P Wg (ac3 P pm2 fr2 T2 B B2)) B [2,b] (G ((base L.wait).at ⟨T,[]⟩ [.code (L7 L),.inLoop (L7 L),.inBlock 0]) (b₀.at a₀ (.inRegion CH (i₀ :: AU) :: k₀) :: cs)):=by
 lib_facts
 intro b
 induction b using Nat.strongRecOn with
 | _ b ih =>
 intro T ajQ t0;obtain⟨v0,v1,v2,v3,v4,v5,v6,v7,v8,v9,v10,v11,v12,v13,v14,v15,v16,v17,v18,v19,v20,v21,v22,v23,v24,v25,v26,v27,v28,v29,v30,v31,v32,v33,v34,v35,v36,v37,v38,v39,v40,v41,v42,v43,v44,v45,v46,v47,v48,v49,v50,v51,v52,v53,v54,v55,v56,v57,v58,v59,v60,v61,v62,v63,v64,v65,v66,v67,v68,v69,v70,v71,v72,v73,v74,v75,v76,v77,v78,v79,v80,v81,v82,v83,rfl⟩:=array84 T ajQ;simp only [dN,fL,br] at t0;subst t0;simp only [L7,body_wait,waitFn,dM] at ih ⊢;refine TQ.wo hB yK 30 λw hF=>?_
 u_c stepG_block lv hF
 u_c aH lv hF
 u_reg lv hF
 u_op lv hF
 u_op lv hF
 u_op lv hF
 u_call H.f_uLoad (nm_uLoad L) uLoadFn lv hF
 u_c aH lv hF
 u_reg lv hF
 u_op lv hF
 u_c au lv hF
 u_c aH lv hF
 u_reg lv hF
 u_op lv hF
 u_op lv hF
 u_op lv hF
 refine dA (λw₁ h₁=>.inl ⟨rfl,λhf=>?_⟩);have⟨v,hvb,hv,hw⟩:=hf.anch b rfl;clear hf h₁ hF
 rcases ji v with rfl | hvp
 ·replace hw:WgAt L.tWg Wg w₁ 0 0:=by simpa using hw
  refine ⟨[6],_,_,_,stepG_load_atomic rfl rfl (by k_ne) rfl H.f_loadU64 (x_loadU64_n L) (x_loadU64_b L) (x_loadU64_x L) .u64 (x_loadU64_f L) rfl hw.cellSt,.ld0 hw,TQ.wo hB yK 50 λw hF=>?_⟩
  walk_nrm
  u_op lv hF
  u_c au lv hF
  u_c iq lv hF
  u_leave1 H.f_uLoad lv hF
  u_op lv hF
  u_c au lv hF
  u_c aH lv hF
  u_reg lv hF
  u_op lv hF
  u_op lv hF
  u_op lv hF
  u_op lv hF
  u_c au lv hF
  u_c aH lv hF
  u_reg lv hF
  u_op lv hF
  u_op lv hF
  u_op lv hF
  u_op lv hF
  u_c au lv hF
  u_c aH lv hF
  u_c aH lv hF
  u_reg lv hF
  u_op lv hF
  u_op lv hF
  u_c au lv hF
  u_cond true lv hF
  u_c aH lv hF
  u_cond true lv hF
  u_c aH lv hF
  u_reg lv hF
  refine dA (λw₅ h₅=>.inl ⟨rfl,λ_=>⟨[7],_,_,_,stepG_mark0 _ (by simp) rfl rfl (by k_ne) rfl H.f_enable (x_enable_n L) (x_enable_b L) (x_enable_x L) (x_enable_f L),.enk,TQ.wo hB yK 12 λw hF=>?_⟩⟩)
  walk_nrm
  u_c au lv hF
  u_reg lv hF
  u_op lv hF
  u_conv H.underlying_tWgP H.room_tWg (WgLive.cell0 hF).choose_spec lv hF
  refine dA (λw₆ h₆=>.inr ⟨rfl,λv hv hb=>.stop (⟨rfl,hv,_,rfl,λw=>stepG_markAt _ (by simp) rfl rfl (by k_ne) rfl H.f_acquire (x_acquire_n L) (x_acquire_b L) (x_acquire_x L) (x_acquire_f L) (by simp [Act.eval,stA]),hb,λv2 hb2=>?_⟩)⟩)
  walk_nrm
  refine SV QL 60 _ _ hb2 λw=>?_
  have hF:=trivial
  u_c au rt hF
  u_c aH rt hF
  u_c aH rt hF
  u_reg rt hF
  u_op rt hF
  u_op rt hF
  u_op rt hF
  u_op rt hF
  u_op rt hF
  u_op rt hF
  u_op rt hF
  u_op rt hF
  u_skip rt hF
  u_skip rt hF
  u_op rt hF
  u_c au rt hF
  u_cond false rt hF
  u_c eO rt hF
  u_c iq rt hF
  u_leave0 H.f_wait rt hF
  exact dA (λ_ _=>⟨rfl,hT⟩)
 ·obtain⟨S,hS⟩:∃ S:Int,(v:Int) * KK = S:=⟨_,rfl⟩;have a1:S / 4294967296 = (v:Int):=by rw [<- hS]; simp only [KK]; omega
  have b1:bits .and .u64 S 2147483648 = 0:=by rw [<- hS]; have:=st_flag v 0 (by omega) (by omega); simpa [KK] using this
  have b2:bits .and .u64 S 2147483647 = 0:=by rw [<- hS]; have:=st_waiters v 0 (by omega) (by omega); simpa [KK] using this
  have c1:IntKind.i32.wrap (v:Int) = (v:Int):=by rw [IntKind.wrap_i32]; omega
  have w1:IntKind.u64.wrap (S + 1) = S + 1:=by rw [IntKind.wrap_u64,<- hS]; simp only [KK]; omega
  have q3:decide ((v:Int) < 0) = false:=by rfl
  have q4:decide (0 < (v:Int)) = true:=ia (by omega);have q5:((v:Int) == 0) = false:=by simp; omega
  have q6:decide ((v:Int) = 0) = false:=by omega
  have hr:=Rel.ld (n:=av.n) hw (by omega) hvb;rw [hS] at hw;refine ⟨[3,v],_,_,_,stepG_load_atomic rfl rfl (by k_ne) rfl H.f_loadU64 (x_loadU64_n L) (x_loadU64_b L) (x_loadU64_x L) .u64 (x_loadU64_f L) rfl hw.cellSt,hr,TQ.wo hB yK 60 λw hF=>?_⟩;clear hw hr
  walk_nrm
  u_op lv hF
  u_c au lv hF
  u_c iq lv hF
  u_leave1 H.f_uLoad lv hF
  u_op lv hF
  u_c au lv hF
  u_c aH lv hF
  u_reg lv hF
  u_op lv hF
  u_op lv hF
  u_op lv hF
  u_op lv hF
  u_c au lv hF
  u_c aH lv hF
  u_reg lv hF
  u_op lv hF
  u_op lv hF
  u_op lv hF
  u_op lv hF
  u_c au lv hF
  u_c aH lv hF
  u_c aH lv hF
  u_reg lv hF
  u_op lv hF
  u_op lv hF
  u_c au lv hF
  u_cnd false lv hF
  u_c eO lv hF
  u_c aH lv hF
  u_reg lv hF
  u_op lv hF
  u_op lv hF
  u_op lv hF
  u_op lv hF
  u_op lv hF
  u_op lv hF
  u_call H.f_uCas (nm_uCas L) uCasFn lv hF
  u_c aH lv hF
  u_reg lv hF
  u_op lv hF
  u_c au lv hF
  u_c aH lv hF
  u_reg lv hF
  u_op lv hF
  u_op lv hF
  u_op lv hF
  u_op lv hF
  u_op lv hF
  refine dA (λw₂ h₂=>.inl ⟨rfl,λhf=>?_⟩);have⟨v',anH,hv',hw⟩:=hf.seen v rfl;clear hf h₂ hF
  by_cases e:v' = v
  ·subst e;have hr:=Rel.Xz (n:=av.n) hw;rw [hS] at hw hr;refine ⟨[4],_,_,_,(stepG_cas_hit (v:=S) (n:=S + 1) rfl rfl (by k_ne) rfl H.f_casU64 (x_casU64_n L) (x_casU64_b L) (x_casU64_x L) .u64 (x_casU64_f L) rfl rfl rfl hw.cellSt (hw.thaw 0)).trans (by rfl),hr,TQ.wo hB yK 70 λw hF=>?_⟩;clear hw hr
   walk_nrm
   u_op lv hF
   u_c au lv hF
   u_c iq lv hF
   u_leave1 H.f_uCas lv hF
   u_c au lv hF
   u_cond true lv hF
   u_c aH lv hF
   u_c aH lv hF
   u_reg lv hF
   u_op lv hF
   u_op lv hF
   u_op lv hF
   u_op lv hF
   u_c au lv hF
   u_cond true lv hF
   u_reg lv hF
   u_op lv hF
   u_op lv hF
   u_op lv hF
   u_conv H.underlying_tPU32 H.room_tU32 (WgLive.cell1 hF).choose_spec lv hF
   refine dA (λw₁ h₁=>.inl ⟨rfl,λ_=>⟨_,_,_,_,stepG_markAt .write (by simp) rfl rfl (by k_ne) rfl H.f_raceWrite (x_raceWrite_n L) (x_raceWrite_b L) (x_raceWrite_x L) (x_raceWrite_f L) (ad:=⟨_,1,none⟩) (by simp [Act.eval] <;> rfl),.said (.inr rfl),TQ.wo hB yK 60 λw hF=>?_⟩⟩)
   walk_nrm
   u_c au lv hF
   u_c aH lv hF
   u_reg lv hF
   u_op lv hF
   u_c au lv hF
   u_c aH lv hF
   u_c aH lv hF
   u_reg lv hF
   u_op lv hF
   u_op lv hF
   u_op lv hF
   u_op lv hF
   u_skip lv hF
   u_op lv hF
   u_c au lv hF
   u_cond false lv hF
   u_c eO lv hF
   u_c aH lv hF
   u_reg lv hF
   u_op lv hF
   u_op lv hF
   u_op lv hF
   u_op lv hF
   refine dA (λw₃ h₃=>.inr (TQ.sem hB yK hBG ⟨rfl,rfl,λw ⟨st,hw⟩=>stepG_semacquire_wait rfl rfl rfl H.f_semacquire (x_semacquire_n L) (x_semacquire_b L) (x_semacquire_x L) (x_semacquire_f L) (by simp [Act.eval,smA]) hw.cellSm⟩ rfl (λw hf=>(stepG_semacquire (n:=1) rfl rfl (by k_ne) rfl H.f_semacquire (x_semacquire_n L) (x_semacquire_b L) (x_semacquire_x L) (x_semacquire_f L) (by simp [Act.eval,smA]) hf.cellSm (by k_ne) (hf.thaw 1)).trans (by rfl)) (TQ.wo hB yK 30 λw hF=>?_)))
   walk_nrm
   u_c au lv hF
   u_c aH lv hF
   u_reg lv hF
   u_op lv hF
   u_op lv hF
   u_op lv hF
   u_call H.f_uLoad (nm_uLoad L) uLoadFn lv hF
   u_c aH lv hF
   u_reg lv hF
   u_op lv hF
   u_c au lv hF
   u_c aH lv hF
   u_reg lv hF
   u_op lv hF
   u_op lv hF
   u_op lv hF
   refine dA (λw₄ h₄=>.inl ⟨rfl,λhf=>?_⟩);have hw:=hf.aiy rfl;clear hf h₄ hF;refine ⟨[6],_,_,_,stepG_load_atomic (v:=0) rfl rfl (by k_ne) rfl H.f_loadU64 (x_loadU64_n L) (x_loadU64_b L) (x_loadU64_x L) .u64 (x_loadU64_f L) rfl hw.cellSt,.ld4,TQ.wo hB yK 30 λw hF=>?_⟩;clear hw
   walk_nrm
   u_op lv hF
   u_c au lv hF
   u_c iq lv hF
   u_leave1 H.f_uLoad lv hF
   u_op lv hF
   u_op lv hF
   u_c au lv hF
   u_c aH lv hF
   u_cond true lv hF
   u_c aH lv hF
   u_reg lv hF
   refine dA (λw₅ h₅=>.inl ⟨rfl,λ_=>⟨[7],_,_,_,stepG_mark0 .enable (by simp) rfl rfl (by k_ne) rfl H.f_enable (x_enable_n L) (x_enable_b L) (x_enable_x L) (x_enable_f L),.enk,TQ.wo hB yK 12 λw hF=>?_⟩⟩)
   walk_nrm
   u_c au lv hF
   u_reg lv hF
   u_op lv hF
   u_conv H.underlying_tWgP H.room_tWg (WgLive.cell0 hF).choose_spec lv hF
   refine dA (λw₆ h₆=>.inr ⟨rfl,λv hv hb=>.stop (⟨rfl,hv,_,rfl,λw=>stepG_markAt .acquire (by simp) rfl rfl (by k_ne) rfl H.f_acquire (x_acquire_n L) (x_acquire_b L) (x_acquire_x L) (x_acquire_f L) (by simp [Act.eval,stA]),hb,λv2 hb2=>?_⟩)⟩)
   walk_nrm
   refine SV QL 60 _ _ hb2 λw=>?_
   have hF:True:=trivial
   u_c au rt hF
   u_c aH rt hF
   u_c aH rt hF
   u_reg rt hF
   u_op rt hF
   u_c au rt hF
   u_cond false rt hF
   u_c eO rt hF
   u_c iq rt hF
   u_leave0 H.f_wait rt hF
   exact dA (λ_ _=>⟨rfl,hT⟩)
  ·refine ⟨[2,v - 1],_,_,_,stepG_cas_miss (v:=(v':Int) * KK) (old:=S) (n:=S + 1) rfl rfl (by k_ne) rfl H.f_casU64 (x_casU64_n L) (x_casU64_b L) (x_casU64_x L) .u64 (x_casU64_f L) rfl rfl rfl hw.cellSt (hw.thaw 0) (by rw [<- hS]; simp only [KK]; omega),.afz hw (by omega),TQ.wo hB yK 20 λw hF=>?_⟩;clear hw
   walk_nrm
   u_op lv hF
   u_c au lv hF
   u_c iq lv hF
   u_leave1 H.f_uCas lv hF
   u_c au lv hF
   u_cond false lv hF
   u_c eO lv hF
   u_c stepG_inBlock lv hF
   u_c stepG_inLoop lv hF
   exact dA (λw₃ h₃=>.inr (ih (v - 1) (by omega) _ (by simp) (by simp)))
theorem aek (H:WgLib P L) (hB:∀ v v1,B v->df v v1->B v1) (yK:∀ v l l1,v.heap[Wg]? = some (gh l)->(l1 = l \/ l1 ≠ [])->B v->B (dU v Wg (gh l1))) (hBG:∀ v,B v->∃ (al:Al) (G:Gh) (k:Nat) (a:Nat × aC),DU v al G /\ al[k]? = some a /\ ∀ a ∈ al,a.1 ≠ 1) (QL:∀ v v1,B2 v->df v v1->B2 v1)
 (hT:∀ v,B2 v->eB X0 P true pm2 fr2 T2 (G (b₀.at (a₀.put ((CH[i₀]?).bind (·.dst)) (.tuple #[])) (.inRegion CH AU :: k₀)) cs) v) :
 TQ P L.tWg Wg said pm fr (sZ P Wg (ac3 P pm2 fr2 T2 B B2)) B [1] (G ((base L.wait).at ⟨#[.pointer (some ⟨Wg,0,none⟩),undef,undef,undef,undef,undef,undef,undef,undef,undef,undef,undef,undef,undef,undef,undef,undef,undef,undef,undef,undef,undef,undef,undef,undef,undef,undef,undef,undef,undef,undef,undef,undef,undef,undef,undef,undef,undef,undef,undef,undef,undef,undef,undef,undef,undef,undef,undef,undef,undef,undef,undef,undef,undef,undef,undef,undef,undef,undef,undef,undef,undef,undef,undef,undef,undef,undef,undef,undef,undef,undef,undef,undef,undef,undef,undef,undef,undef,undef,undef,undef,undef,undef,undef],[]⟩ [.code (body_wait L)]) (b₀.at a₀ (.inRegion CH (i₀ :: AU) :: k₀) :: cs)):=by
 lib_facts
 have hR:=Kj (pm:=pm) (fr:=fr) (said:=said) H hB yK hBG QL hT av.n;simp only [L7,body_wait,waitFn,dM] at hR ⊢;refine TQ.wo hB yK 3 λw hF=>?_
 u_c aH lv hF
 u_cond true lv hF
 u_reg lv hF
 refine dA (λw₁ h₁=>.inl ⟨rfl,λ_=>⟨_,_,_,_,stepG_mark0 _ (by simp) rfl rfl (by k_ne) rfl H.f_disable (x_disable_n L) (x_disable_b L) (x_disable_x L) (x_disable_f L),.aei,TQ.wo hB yK 3 λw hF=>?_⟩⟩)
 walk_nrm
 u_c au lv hF
 u_c stepG_block lv hF
 u_c stepG_loop lv hF
 exact dA (λw₂ h₂=>.inr (hR _ (by simp) (by simp)))
end
section
variable {s:aC} {T T':Goroutine->Prop} {b:Frame} {a:Act} {k:List Item} {o:Oper}
theorem agK (main:Bool) (s:aC) (w:World) (h:∀ e ∈ es,(∃ k:Nat,k < 3 /\ e = ⟨.cell ⟨s.sb,k,none⟩,false,false⟩) \/ (main = true /\ e = ⟨.cell ⟨s.bx,0,none⟩,false,false⟩)):(bif main then DMt s else DSt s) w w es:=by
 cases main with
 | true=>exact ⟨⟨w.drawn,rfl⟩,λe he=>(h e he).imp id (·.2)⟩
 | false=>exact ⟨rfl,λe he=>(h e he).elim id λh=>(by grind)⟩
def Way.here (h:T g):Way P main s T 0 g:=λ_ _ _ _=>h
theorem Way.ctl (hr:g.status = .running) (h:∀ w,stepG P main g w = .go g' w #[]) (k:Way P main s T n g'):Way P main s T (n + 1) g:=λw _=>.step hr λw1 h1=>by
 rw [h w1];exact ⟨agK main s w1 (by simp),k w1 h1⟩
theorem Way.op {x:Value} (hk:b.kind ≠ .early) (ho:ops[i]? = some o) (hg:o.guard = none) (hd:jA o.op = false)
 (h:∀ w,oo s w->(execOp a.eval o).run P w = .ok (.value x) w /\ ∀ e ∈ (execOp a.eval o).events P w #[],(∃ k:Nat,k < 3 /\ e = ⟨.cell ⟨s.sb,k,none⟩,false,false⟩) \/ (main = true /\ e = ⟨.cell ⟨s.bx,0,none⟩,false,false⟩))
 (next:Way P main s T n (G (b.atR (a.put o.dst x) (.inRegion ops rest :: k)) cs)):Way P main s T (n + 1) (G (b.atR a (.inRegion ops (i :: rest) :: k)) cs):=λw _=>.step rfl λw1 h1=>by
 have hk':((b.atR a (.inRegion ops (i :: rest) :: k)).kind == CallKind.early) = false:=by simpa [Frame.atR] using hk
 have hfin:∀ x,(b.atR a _).finish x = b.atR (a.put o.dst x) (.inRegion ops rest :: k):=λx=>by rw [eP,ho]; rfl
 have hw:Region.wanted o (yielded ops a.tmps) = true:=by simp [Region.wanted,hg]
 have⟨h2,h3⟩:=h w1 h1;have e:stepG P main (G (b.atR a (.inRegion ops (i :: rest) :: k)) cs) w1 = .go (G (b.atR (a.put o.dst x) (.inRegion ops rest :: k)) cs) w1 (seen P b.fn ((execOp a.eval o).events P w1 #[])):=by
  rw [mO w1 ho hw (.inl hd),<- hfin x];unfold stepG.apply;simp only [if_true,pq,h2,hk',aI,cD];simp [GStep.after,G,Frame.atR]
 rw [e];exact ⟨agK main s w1 λx hx=>h3 x (oU hx),next w1 h1⟩
theorem P9 {sh:CommShape} (hk:b.kind ≠ .early) (ho:ops[i]? = some o) (hg:o.guard = none) (hd:jA o.op = false) (h:∀ w,(execOp a.eval o).run P w = .ok (.comm cases bl sh) w /\ (execOp a.eval o).events P w #[] = #[]) (w:World) :
 stepG P main (G (b.atR a (.inRegion ops (i :: rest) :: k)) cs) w = .comm (G (b.atR a (.inRegion ops (i :: rest) :: k)) cs) cases bl sh w #[]:=by
 have hk':((b.atR a (.inRegion ops (i :: rest) :: k)).kind == CallKind.early) = false:=by simpa [Frame.atR] using hk
 have hw:Region.wanted o (yielded ops a.tmps) = true:=by simp [Region.wanted,hg]
 have⟨h2,h3⟩:=h w;rw [mO w ho hw (.inl hd)];unfold stepG.apply;simp only [if_true,pq,h2,h3,hk',aI,cD]
 rfl
theorem atC {sh:CommShape} (hk:b.kind ≠ .early) (ho:ops[i]? = some o) (hg:o.guard = none) (hd:jA o.op = false) (h:∀ w,(execOp a.eval o).run P w = .ok (.comm cases true sh) w /\ (execOp a.eval o).events P w #[] = #[]) :
 J0 P main cases sh (G (b.atR a (.inRegion ops (i :: rest) :: k)) cs) (G (b.atR a (.inRegion ops (i :: rest) :: k)) cs):=⟨rfl,rfl,P9 hk ho hg hd h⟩
theorem r7 (ho:ops[i]? = some o) (x:Value):Go.Conc.served (G (b.atR a (.inRegion ops (i :: rest) :: k)) cs) x = G (b.atR (a.put o.dst x) (.inRegion ops rest :: k)) cs:=by
 have hfin:(b.atR a (.inRegion ops (i :: rest) :: k)).finish x = b.atR (a.put o.dst x) (.inRegion ops rest :: k):=by rw [eP,ho]; rfl
 simp only [Go.Conc.served,G,hfin]
variable [av]
theorem thV {k:Nat} {T:Goroutine->World->Prop} (hr:g.status = .running):eB (Kc P mk k s) P true pm fr T g v :=
 .step hr false (λe=>by cases e) (λ_ _ _ _=>False) (λ_ _ _ _=>.inr λe=>by cases e) λ_ _ _ _ _ _ h=>h.elim
variable [Payload] in
theorem mnV {ty:TypeId} {Wg:Nat} {said:Bool->Value->Prop} {pm:Nat->Prop} {fr:Nat} {T:Goroutine->World->Prop} (hr:g.status = .running):eB (XM P ty Wg said) P false pm fr T g v :=
 .step hr false (λe=>by cases e) (λ_ _ _ _=>False) (λ_ _ _ _=>.inr λe=>by cases e) λ_ _ _ _ _ _ h=>h.elim
end
section
variable {X:Ext} {b:Frame} {a:Act} {k:List Item} {o:Oper} {s:aC} {T':Goroutine->Prop}
def abb:Op->Bool
 | .move _ | .assign _ | .load _ _ | .makeInterface _ _ | .extract _ _ | .build _ _ | .indexAddr _ _ _=>true
 | _=>false
theorem tmO {ρ:Operand->Value} (h:abb o.op = true):Tm P pm fr (execOp ρ o):=by
 unfold execOp;cases ho:o.op <;> rw [ho] at h <;> simp only [abb,aI] at h <;> dsimp only
 case move | assign=>exact .pure _
 case makeInterface =>
  refine .bind (.bind (.underlying _) λd=>?_) λ_=>.pure _
  cases d <;> first | exact .pure _ | exact .stuck _
 case build=>exact .bind (.build _ _) λ_=>.pure _
 case load=>exact .bind (.bind (.sureAddr _) λ_=>.loadVar _ _) λ_=>.pure _
 case indexAddr=>exact .bind (.indexAt _ _ _) λ_=>.pure _
 case extract =>
  refine .bind ?_ λ_=>.pure _
  unfold Instr.extract
  repeat' with_reducible first
   | exact .pure _
   | exact .stuck _
   | split
   | dsimp only
theorem rV {x:Value} (hk:b.kind ≠ .early) (ho:ops[i]? = some o) (hg:o.guard = none) (GK:abb o.op = true) (hr:∀ v1,df v v1->(execOp a.eval o).run P v1 = .ok (.value x) v1)
 (h:∀ v1,df v v1->cI v1->eB X P main pm fr T (G (b.atR (a.put o.dst x) (.inRegion ops rest :: k)) cs) v1):eB X P main pm fr T (G (b.atR a (.inRegion ops (i :: rest) :: k)) cs) v :=
 R5 hk ho hg (by cases ho:o.op <;> rw [ho] at GK <;> first | rfl | cases GK) (tmO GK) hr h
theorem Zm {p:Addr} (hk:b.kind ≠ .early) (ho:ops[i]? = some o) (hg:o.guard = none) (g9:o.op = .nilCheck x) (hx:a.eval x = .pointer (some p))
 (h:∀ v1,df v v1->cI v1->eB X P main pm fr T (G (b.atR (a.put o.dst (.pointer (some p))) (.inRegion ops rest :: k)) cs) v1):eB X P main pm fr T (G (b.atR a (.inRegion ops (i :: rest) :: k)) cs) v:=by
 have e:execOp a.eval o = pure (.value (.pointer (some p))):=by unfold execOp; rw [g9]; simp [hx]
 exact R5 hk ho hg (by rw [g9]; rfl) (e ▸ .pure _) (λv1 _=>by rw [e]; rfl) h
theorem Zn {t f:Nat} (hk:b.kind ≠ .early) (ho:ops[i]? = some o) (hg:o.guard = none) (g9:o.op = .fieldAddr t x f) (hx:a.eval x = .pointer (some ⟨r,c,none⟩))
 (hf:(P.underlying t).bind (λd=>match d with | .struct fs=>(fs[f]?).bind (λfd=>(P.info? fd.type).map (λi=>(fd.offset,Nat.beq i.size 0))) | _=>none) = some (j,false))
 (h:∀ v1,df v v1->cI v1->eB X P main pm fr T (G (b.atR (a.put o.dst (.pointer (some ⟨r,c + j,none⟩))) (.inRegion ops rest :: k)) cs) v1):eB X P main pm fr T (G (b.atR a (.inRegion ops (i :: rest) :: k)) cs) v:=by
 have e:∀ ρ:Operand->Value,ρ x = .pointer (some ⟨r,c,none⟩)->Tm P pm fr (execOp ρ o) /\ ∀ v1,(execOp ρ o).run P v1 = .ok (.value (.pointer (some ⟨r,c + j,none⟩))) v1:=λρ hx=>by
  unfold execOp;rw [g9];dsimp only;rw [hx];cases hu:P.underlying t with
  | none=>rw [hu] at hf; cases hf
  | some dsc =>
    cases dsc <;> first | (rw [hu] at hf; cases hf; done) | skip
    rename_i fs;rw [hu] at hf;simp only [cQ] at hf;have⟨fd,h1,h2⟩:=mY.1 hf;have⟨inf,h3,h4⟩:=cd.1 h2;simp only [eU] at h4;obtain⟨rfl,h5⟩:=h4;have hz:inf.size ≠ 0:=λe=>by rw [e] at h5; cases h5
    have hs:∀ w,(sizeOf fd.type).run P w = .ok inf.size w:=λw=>by simp [sizeOf,typeInfo,h3]
    refine ⟨.bind (.under hu ?_) λ_=>.pure _,λv1=>?_⟩
    ·simp only [h1];refine .bind (.pure _) λq=>?_
     refine .bind (.known (.sizeOf _) hs ?_) λ_=>.pure _
     rw [if_neg hz];exact .pure _
    ·simp [Instr.fieldAt,underlying,hu,h1,Instr.sureAddr,fieldPlace,hs,hz,Addr.add]
 exact R5 hk ho hg (by rw [g9]; rfl) (e _ hx).1 (λv1 _=>(e _ hx).2 v1) h
theorem Vm {t:TypeId} (hk:b.kind ≠ .early) (ho:ops[i]? = some o) (hg:o.guard = none) (g9:o.op = .load t x) (hx:a.eval x = .pointer (some ⟨r,j,none⟩)) (ha:∀ w,(isAgg t).run P w = .ok false w)
 (hs:∃ c,v.heap[r]? = some c /\ Ro c j z)
 (h:∀ v1,df v v1->cI v1->eB X P main pm fr T (G (b.atR (a.put o.dst z) (.inRegion ops rest :: k)) cs) v1):eB X P main pm fr T (G (b.atR a (.inRegion ops (i :: rest) :: k)) cs) v :=
 rOp hk ho hg (by rw [g9]; rfl) λv1 h1 hn=>by
  have⟨c,hc,hro⟩:=hs;have hc1:v1.heap[r]? = some c:=by rw [h1.old _ (aG hc)]; exact hc
  unfold execOp;rw [g9];refine cR _ _ _ ?_;refine cu ?_ _ _ (show (Instr.loadAt t _).wpS P pm fr (λr w'=>r = z /\ w' = v1) v1 from ?_)
  ·rintro y w' ⟨rfl,rfl⟩;exact .inl ⟨_,rfl,h _ h1 hn⟩
  rw [hx];show (loadVar t ⟨r,j,none⟩).wpS P pm fr (λy w'=>y = z /\ w' = v1) v1;refine cR _ _ _ (cu ?_ _ _ ((Tm.isAgg t) v1 hn _ _ (ha v1)));rintro y w' ⟨rfl,rfl⟩;exact ⟨.inl rfl,z,.inr (.inr ⟨rfl,_,hc1,hro⟩),rfl,rfl⟩
theorem aiT {ob:World->Obj} {x:Value} (hk:b.kind ≠ .early) (ho:ops[i]? = some o) (hg:o.guard = none) (hd:jA o.op = false) (ht:Tm P pm fr (execOp a.eval o)) (hr:∀ v1,df v v1->(execOp a.eval o).run P v1 = .ok (.value (.pointer (some ⟨v1.heap.size,0,none⟩))) { v1 with heap:=v1.heap.push (ob v1) })
 (h:∀ v1,df v v1->cI v1->eB X P main pm fr T (G (b.atR (a.put o.dst (.pointer (some ⟨v1.heap.size,0,none⟩))) (.inRegion ops rest :: k)) cs) { v1 with heap:=v1.heap.push (ob v1) }):eB X P main pm fr T (G (b.atR a (.inRegion ops (i :: rest) :: k)) cs) v :=
 rOp hk ho hg hd λv1 h1 hn=>cu (by grind) _ _ (ht v1 hn _ _ (hr v1 h1))
theorem R8 {t:TypeId} (hk:b.kind ≠ .early) (ho:ops[i]? = some o) (hg:o.guard = none) (g9:o.op = .box t x)
 (h:∀ v1,df v v1->cI v1->eB X P main pm fr T (G (b.atR (a.put o.dst (.pointer (some ⟨v1.heap.size,0,none⟩))) (.inRegion ops rest :: k)) cs) { v1 with heap:=v1.heap.push (.cells (a.eval x).cells t) }):eB X P main pm fr T (G (b.atR a (.inRegion ops (i :: rest) :: k)) cs) v:=by
 have e:Tm P pm fr (execOp a.eval o) /\ ∀ v1,(execOp a.eval o).run P v1 = .ok (.value (.pointer (some ⟨v1.heap.size,0,none⟩))) { v1 with heap:=v1.heap.push (.cells (a.eval x).cells t) }:=by
  generalize Act.eval a = ρ
  unfold execOp;rw [g9];exact ⟨.bind (.bind (.newVar _ _) λ_=>.pure _) λ_=>.pure _,λv1=>by simp [Instr.box,newVar,newRow]⟩
 exact aiT (x:=undef) hk ho hg (by rw [g9]; rfl) e.1 (λv1 _=>e.2 v1) h
theorem ae5 {bop:BinOp} {t d:TypeId} {y:Operand} {m n:Int} {c c':IntKind} {r:Value} (hk:b.kind ≠ .early) (ho:ops[i]? = some o) (hg:o.guard = none) (g9:o.op = .binOp bop t x y d) (hx:a.eval x = .int c m) (hy:a.eval y = .int c' n) (hr:∀ w,(binOp bop t (.int c m) (.int c' n)).run P w = .ok r w)
 (h:∀ v1,df v v1->cI v1->eB X P main pm fr T (G (b.atR (a.put o.dst r) (.inRegion ops rest :: k)) cs) v1):eB X P main pm fr T (G (b.atR a (.inRegion ops (i :: rest) :: k)) cs) v:=by
 have e:Tm P pm fr (execOp a.eval o) /\ ∀ v1,(execOp a.eval o).run P v1 = .ok (.value r) v1:=by
  generalize Act.eval a = ρ at hx hy
  unfold execOp;rw [g9];dsimp only;rw [hx,hy];exact ⟨.bind (.bind ix λ_=>lg) λ_=>.pure _,λv1=>by simp [ay,j1,hr]⟩
 exact R5 hk ho hg (by rw [g9]; rfl) e.1 (λv1 _=>e.2 v1) h
theorem HZ {fn:Func} (h:fn.results = #[]) (tm:Array Value) (v:World):(results fn tm).wpS P pm fr (λx v2=>x = .tuple #[] /\ v2 = v) v:=by
 have e:results fn tm = pure (.tuple #[]):=by simp [results,h]
 rw [e]
 trivial
theorem Way.pure {x:Value} (hk:b.kind ≠ .early) (ho:ops[i]? = some o) (hg:o.guard = none) (hd:jA o.op = false) (h:∀ w,(execOp a.eval o).run P w = .ok (.value x) w /\ (execOp a.eval o).events P w #[] = #[])
 (next:Way P main s T' n (G (b.atR (a.put o.dst x) (.inRegion ops rest :: k)) cs)):Way P main s T' (n + 1) (G (b.atR a (.inRegion ops (i :: rest) :: k)) cs):=by grind [Way.op]
theorem Way.ld {t:TypeId} {x:Operand} {j:Nat} {z:Value} (hk:b.kind ≠ .early) (ho:ops[i]? = some o) (hg:o.guard = none) (g9:o.op = .load t x) (hx:a.eval x = .pointer (some ⟨s.sb,j,none⟩)) (ha:∀ w,(isAgg t).run P w = .ok false w) (hz:s.c0[j]? = some z)
 (next:Way P main s T' n (G (b.atR (a.put o.dst z) (.inRegion ops rest :: k)) cs)):Way P main s T' (n + 1) (G (b.atR a (.inRegion ops (i :: rest) :: k)) cs) :=
 Way.op hk ho hg (by rw [g9]; rfl) (λw hs=>by
  have⟨⟨c,e,h1,h2⟩,_⟩:=hs;have hj:j < 3:=by have:=(cY.1 hz).1; simpa [aC.c0] using this
  have hc:w.cell? ⟨s.sb,j,none⟩ = some z:=by simp only [World.cell?,h1]; exact h2 j z hz
  simp_all [Act.eval,execOp,Instr.loadAt,Instr.sureAddr,loadVar]) next
def jD (P:Program) (main:Bool) (s:aC) (T:Goroutine->Prop) (g:Goroutine):Prop:=∃ n,Way P main s T n g
def jD.here (h:T' g):jD P main s T' g:=⟨0,Way.here h⟩
def jD.ctl {g':Goroutine} (hr:g.status = .running) (h:∀ w,stepG P main g w = .go g' w #[]):jD P main s T' g'->jD P main s T' g:=λ⟨n,k⟩=>⟨n + 1,Way.ctl hr h k⟩
theorem jD.pure {x:Value} (hk:b.kind ≠ .early) (ho:ops[i]? = some o) (hg:o.guard = none) (hd:jA o.op = false) (h:∀ w,(execOp a.eval o).run P w = .ok (.value x) w /\ (execOp a.eval o).events P w #[] = #[]) :
 jD P main s T' (G (b.atR (a.put o.dst x) (.inRegion ops rest :: k)) cs)->jD P main s T' (G (b.atR a (.inRegion ops (i :: rest) :: k)) cs):=λ⟨n,k⟩=>⟨n + 1,Way.pure hk ho hg hd h k⟩
theorem jD.ld {t:TypeId} {x:Operand} {j:Nat} {z:Value} (hk:b.kind ≠ .early) (ho:ops[i]? = some o) (hg:o.guard = none) (g9:o.op = .load t x) (hx:a.eval x = .pointer (some ⟨s.sb,j,none⟩)) (ha:∀ w,(isAgg t).run P w = .ok false w) (hz:s.c0[j]? = some z) :
 jD P main s T' (G (b.atR (a.put o.dst z) (.inRegion ops rest :: k)) cs)->jD P main s T' (G (b.atR a (.inRegion ops (i :: rest) :: k)) cs):=λ⟨n,k⟩=>⟨n + 1,Way.ld hk ho hg g9 hx ha hz k⟩
theorem KT.of [av] {k:Nat} {g2:Goroutine} {S:Goroutine->World->Prop} {G:Gh} (zt QA:Value) (h1:mk v0) (h2:Va P k s v0 G G' F g2 z ze g v)
 (h3:jD P false s (λg=>∃ g3,J0 P false (lq s zt QA) .select g3 g /\ ∀ x JY F' v',av.R k G' JY->av.SA JY F' v'->Sw F F' v v'->S (Go.Conc.served g3 (commResult (lq s zt QA) .select 0 x true)) (dU v' s.sb (nL s JY))) (Go.Conc.served g2 (commResult (ic s v0 z ze) .select 0 undef false))):KT P mk k s false g v w S :=
 λ_=>let ⟨m,h⟩:=h3; ⟨v0,G,G',F,g2,z,ze,zt,QA,m,S,h1,h2,h,λ_ _ h=>h⟩
end
class pd (r:du):Prop where
 s:∀ w,r.A w->∀ b,r.c9 b->w.heap[b]? ≠ some dummy
class ry (L:List du):Prop where
 s:∀ r ∈ L,pd r
instance:ry []:=⟨λ_ h=>by cases h⟩
instance {r:du} {L:List du} [h:pd r] [k:ry L]:ry (r :: L):=⟨λq hq=>by
 rcases aE.1 hq with rfl | hq
 ·exact h
 ·exact k.s q hq⟩
instance {α:Type} {b:Nat} {E:dy α} {x:α} {T:TypeId}:pd (Var b E x T):=⟨λw h c hc e=>by
 obtain rfl:c = b:=hc;have h':w.heap[c]? = some _:=h;rw [e] at h';cases h'⟩
instance {α:Type} {v:Value} {E:dy α} {xs:List α} {T:TypeId}:pd (bY v E xs T):=⟨λw h c hc e=>by
 have hb:v.ownBlock = some c:=hc
 rcases h.2 with ⟨h1,_⟩ | ⟨g,cap,cur,hv,_,hh,_⟩
 ·rw [h1] at hb; cases hb
 ·rw [hv] at hb;obtain rfl:g = c:=by grind [Value.ownBlock]
  rw [hh] at e;cases e⟩
instance {r s:du} [h:pd r] [k:pd s]:pd (Sep r s):=⟨λw ha c hc=>hc.elim (h.s w ha.1 c) (k.s w ha.2.1 c)⟩
def lN (keep:Nat->Prop) (r:du) (w:World):Prop:=∀ b,keep b->b < w.heap.size /\ w.heap[b]? ≠ some dummy /\ ¬ r.c9 b
def qy {X:Type} (U keep:Nat->Prop) (w:World) (J:X->Prop) (val:X->Value) (r':X->du):ja:=⟨λb=>U b /\ ¬ keep b,λe w' =>
 ∃ x,J x /\ e = .returned (val x) /\ bf (λb=>U b /\ ¬ keep b) w w' /\ (r' x).A w' /\ ∀ b,(r' x).c9 b->U b /\ ¬ keep b /\ b < w'.heap.size⟩
section
variable {K:Ctx} {F:Fr} {L:List du} {Q:Exit->Act->World->Prop} {N:Act->World->Prop} {pos:String} {af:Array Edge} {d:Nat} {U kp keep:Nat->Prop} {r:du}
structure QR (K:Ctx) (U kp:Nat->Prop):Prop where
 m:∀ b,K.M b ↔ U b /\ ¬ kp b
 k:∀ b,kp b->b < K.w0.heap.size /\ K.w0.heap[b]? ≠ some dummy
def xP (kp:Nat->Prop) (L:List du) (r:du):Nat->Prop:=λb=>kp b \/ ∃ q ∈ L,q.c9 b /\ ¬ r.c9 b
theorem pK (h:QR K U kp) [hs:ry L] (I:bS K L w) (hm:r ∈ L):lN (xP kp L r) r w:=λb hb=>by
 rcases hb with hb | ⟨q,hq,h1,h2⟩
 ·have⟨h1,h2⟩:=h.k b hb;have hn:¬ K.M b:=λhM=>((h.m b).1 hM).2 hb
  refine ⟨aD h1 I.keeps.size,by rw [I.keeps.block b h1 hn]; exact h2,λhf=>?_⟩
  rcases ((I.own r hm).2 b hf).1 with h3 | h3
  ·omega
  trivial
 ·have⟨a1,a2⟩:=I.own q hq;exact ⟨(a2 b h1).2,(hs.s q hq).s w a1 b h1,h2⟩
theorem bS.Q9 (h:QR K U kp) (I:bS K L w) {L':List du} {r':du} (hu:mS L r r' L') (k:bf (λb=>U b /\ ¬ xP kp L r b) w w') (ha:r'.A w') (hf:∀ b,r'.c9 b->U b /\ ¬ xP kp L r b /\ b < w'.heap.size):bS K L' w':=by
 refine ⟨I.keeps.trans' k (λi hi hi'=>(h.m i).2 ⟨hi'.1,λhk=>hi'.2 (.inl hk)⟩),λs Bp=>?_,hu.pairwise I.Jj λs Bp hd b hb hb'=>(hf b hb').2.1 (.inr ⟨s,Bp,hb,hd b hb⟩),I.ok⟩
 rcases hu.FH I.Jj s Bp with rfl | ⟨h1,h2⟩
 ·exact ⟨ha,λb hb=>⟨.inr ((h.m b).2 ⟨(hf b hb).1,λhk=>(hf b hb).2.1 (.inl hk)⟩),(hf b hb).2.2⟩⟩
 ·have⟨h3,h4⟩:=I.own s h1;exact ⟨s.st w w' (λb hb=>k.block b (h4 b hb).2 (λh5=>h5.2 (.inr ⟨s,h1,hb,h2 b hb⟩))) h3,λb hb=>⟨(h4 b hb).1,aD (h4 b hb).2 k.size⟩⟩
theorem Bd {X:Type} {f:FuncId} {args:List Operand} {qJ:Array TypeId} {vs:List Value} {r':X->du} {L':X->List du} (h:QR K U kp) (J:X->Prop) (val:X->Value) [ry L] (hu:∀ x,mS L r (r' x) (L' x)) (hm:r ∈ L) (om:dV P f) (fQ:lM F true args vs)
 (hC:∀ w keep,bS K L w->At r w->lN keep r w->iQ K.E.X K.E.fr P f vs.toArray w (qy U keep w J val r')) (next:∀ x,J x->Sat K N ((d,true,val x) :: F) (L' x)) (hd:Nat.blt d K.n = true:=by rfl) :
 Sat K (dw P K ops Q ⟨some d,.call { callee:=.value (.func f),args:=args.toArray,argTypes:=qJ },ty,pos,af,none⟩ N) F L :=
 zH (λw=>qy U (xP kp L r) w J val r') J val L' om fQ (λw I=>hC w _ I (at_mem hm w I) (pK h I hm)) (λw I b hb=>.inr ((h.m b).2 ⟨hb.1,λhk=>hb.2 (.inl hk)⟩))
  (λw I u w' ⟨x,hJ,he,hk,ha,hf⟩=>⟨x,hJ,by grind,I.Q9 h (hu x) hk ha hf⟩) next hd
theorem zX (h:At r w) (hU:∀ b,r.c9 b->U b) (hk:lN keep r w) (e0:En) (ok:Ctx.OK ⟨n,w,λb=>U b /\ ¬ keep b,e0⟩):bS ⟨n,w,λb=>U b /\ ¬ keep b,e0⟩ [r] w :=
 ⟨bf.refl _ _,λq hq=>by
  obtain rfl:=cq.1 hq;exact ⟨h.1,λb hb=>⟨.inr ⟨hU b hb,λe=>(hk b e).2.2 hb⟩,h.2 b hb⟩⟩,eD _ _,ok⟩
def ZD (hk:lN keep r w):QR ⟨n,w,λb=>U b /\ ¬ keep b,e0⟩ U keep:=⟨λ_=>.rfl,λb hb=>⟨(hk b hb).1,(hk b hb).2.1⟩⟩
theorem KH {X:Type} {w0:World} {J:X->Prop} {val:X->Value} {r':X->du} {v:Value} (hlt:∀ b,keep b->b < w0.heap.size) (x:X) (hJ:J x) (hv:v = val x) (hm:r' x ∈ L) (hU:∀ b,(r' x).c9 b->U b) (w:World) (h:bS ⟨n,w0,λb=>U b /\ ¬ keep b,e0⟩ L w):qy U keep w0 J val r' (.returned v) w :=
 ⟨x,hJ,by rw [hv],h.keeps,(h.own _ hm).1,λb hb=>⟨hU b hb,((h.own _ hm).2 b hb).1.elim (λh1 hk=>by grind) (·.2),((h.own _ hm).2 b hb).2⟩⟩
end
end Go.Gx
namespace Go.Proofs.YtgnmiaonbadbnaaGreat
open Go Go.Gx Go.Conc Go.ConcN Go.RowKit
open Go.ConcR (KK wgBlock WgAt stA smA rd wr mk Payload DC0 Bk g_of_ofEvents)
variable {k:Nat} {s:aC} {v0 v v1:World} {x y:Value} {keep:Nat->Prop}
def ptr (b:Nat):Value:=.pointer (some ⟨b,0,none⟩)
variable [av]
abbrev TZ:=Gh × Gh × (Nat->Prop)
variable {z:TZ}
def HT (k:Nat) (s:aC) (z:TZ):du where
 c9:=λb=>b = s.sb \/ z.2.2 b
 A:=λv=>GhT s v z.1 /\ av.SA z.2.1 z.2.2 v /\ (∀ b,z.2.2 b->fq b)
 st:=λw w' h ⟨h1,h2,h3⟩=>⟨(h _ (.inl rfl)).trans h1,av.loc h2 λb hb=>h b (.inr hb),h3⟩
instance {k:Nat} {s:aC} {z:TZ}:pd (HT k s z):=⟨λw ⟨h1,h2,_⟩ b hb e=>by
 rcases hb with rfl | hb
 ·have h1':w.heap[s.sb]? = _:=h1;rw [e] at h1';exact absurd (bF (ak h1')).2 (by decide)
 ·have:=(av.iL h2 hb).1 _ e
  trivial⟩
structure AtHT (k:Nat) (s:aC) (z:TZ) (v0 v:World):Prop where
 kp:bf fX v0 v
 a:(HT k s z).A v
theorem Fe (h:(HT k s z).A v) (g:bf fX v v1):(HT k s z).A v1:=(HT k s z).st v v1 (λb hb=>g.block b (by
 rcases hb with rfl | hb
 ·exact aG h.1
 ·exact (av.iL h.2.1 hb).2) id) h
def FK (h:AtHT k s z v0 v) (g:df v v1):AtHT k s z v0 v1:=⟨h.kp.trans (.eA g),Fe h.a (.eA g)⟩
structure ac6 (k:Nat) (s:aC) (z:TZ) (v0:World) (bk:Nat) (x y:Value) (v:World):Prop extends AtHT k s z v0 v where
 c0:v.cell? ⟨bk,0,none⟩ = some x
 c1:v.cell? ⟨bk,1,none⟩ = some y
theorem pc {a:Addr} (h:v.cell? a = some x) (g:df v v1):v1.cell? a = some x:=by
 rw [<- h];simp only [World.cell?];rw [g.old _ (zG h)]
def jO {bk:Nat} (h:ac6 k s z v0 bk x y v) (g:df v v1):ac6 k s z v0 bk x y v1:=⟨FK h.toAtHT g,pc h.c0 g,pc h.c1 g⟩
theorem UK {t:TypeId} (h:AtHT k s z v0 v):ac6 k s z v0 v.heap.size x y { v with heap:=v.heap.push (.cells #[x,y] t) } :=
 ⟨⟨h.kp.trans (.alloc _ _ _),Fe h.a (.alloc _ _ _)⟩,by simp,by simp⟩
structure AtEnd (k:Nat) (s:aC) (keep:Nat->Prop) (z:TZ) (v0 v:World):Prop where
 kp:bf (λb=>fq b /\ ¬ keep b) v0 v
 a:(HT k s z).A v
 f:∀ b,(HT k s z).c9 b->fq b /\ ¬ keep b /\ b < v.heap.size
def yF (h:AtEnd k s keep z v0 v) (g:df v v1):AtEnd k s keep z v0 v1:=⟨h.kp.trans' (.eA g) λ_ _ h=>h.elim,Fe h.a (.eA g),λb hb=>⟨(h.f b hb).1,(h.f b hb).2.1,aD (h.f b hb).2.2 g.size⟩⟩
theorem UJ {v':World} {G':Gh} {F':Nat->Prop} (hsb:av.N0 <= s.sb) (hk:lN keep (HT k s z) v0) (h:AtHT k s z v0 v1) (hsa:av.SA G' F' v') (nN:Sw z.2.2 F' v1 v') :
 AtEnd k s keep (G',G',F') v0 (dU v' s.sb (nL s G')):=by
 have h1:v1.heap[s.sb]? = some _:=h.a.1;have hlt:=aG h1;have hnF:∀ F G v,av.SA G F v->v.heap[s.sb]? = some (nL s z.1)->¬ F s.sb:=λF G v hs hv hf=>by
  have:=(av.iL hs hf).1 _ hv;rw [jH (wV _ _)] at this; cases this
 have hF0:=hnF _ _ _ h.a.2.1 h1;have hF:¬ F' s.sb:=λhf=>by
  rcases nN.Js _ hf with e | e | e
  ·exact hF0 e
  ·rw [h1] at e;exact absurd (bF (ak e)).2 (by decide)
  ·omega
 have Bp:=aD hlt nN.size;have hne:∀ b,F' b->s.sb ≠ b:=by grind
 have hkF:∀ b,keep b->¬ F' b:=λb hb hf=>by
  have⟨k1,k2,k3⟩:=hk b hb
  rcases nN.Js _ hf with e | e | e
  ·exact k3 (.inr e)
  ·rw [h.kp.block b k1 id] at e; exact k2 e
  ·have:=h.kp.size; omega
 refine ⟨⟨nN.os.trans h.kp.os,nN.tape.trans h.kp.tape,nN.output.trans h.kp.output,by rw [fN]; exact az h.kp.size nN.size,λb hb hn=>?_⟩,⟨eJ Bp,av.loc hsa λb hb=>eI (hne b hb),nN.pm⟩,λb hb=>?_⟩
 ·have hb1:=aD hb h.kp.size;have hq:¬ fq b \/ keep b:=by
   exact s79
  have e1:s.sb ≠ b:=λe=>hq.elim (λh=>h (.inl (e ▸ hsb))) λh=>(hk b h).2.2 (.inl e.symm)
  rw [eI e1,nN.keep b hb1 (λhf=>hq.elim (λh'=>h' (h.a.2.2 b hf)) λh'=>(hk b h').2.2 (.inr hf)) λhf=>hq.elim (λh'=>h' (nN.pm b hf)) λh'=>hkF b h' hf];exact h.kp.block b hb id
 ·rcases hb with rfl | hb
  ·exact ⟨.inl hsb,λh'=>(hk _ h').2.2 (.inl rfl),by rw [fN]; omega⟩
  ·exact ⟨nN.pm b hb,λh'=>hkF b h' hb,by rw [fN]; exact (av.iL hsa hb).2⟩
theorem PU (k:CallKind) (p m:Value):Frame.enter Tryz.prog 264 #[p,m] k = (oC 264 k).atR ⟨#[p,m,undef,undef,undef,undef,undef,undef,undef,undef,undef,undef,undef,undef,undef,undef,undef,undef,undef,undef,undef,undef,undef,undef,undef,undef,undef,undef,undef,undef,undef,undef,undef,undef],[]⟩ [.code (Tryz.f264.body.getD .skip)]:=by
 simp [Frame.enter,Frame.atR,Tryz.func264,Tryz.f264,oC]
 rfl
theorem V8 {mk:Value->Prop} {op word:Value} (ZO:mk (.agg #[op,word,.bool false])) (hsb:av.N0 <= s.sb) (z:TZ) (C9:av.St k (.agg #[op,word,.bool false]) z.1 z.2.1) (v:World) (keep:Nat->Prop) (hA:At (HT k s z) v) (hk:lN keep (HT k s z) v) :
 iQ (Kc Tryz.prog mk k s) 0 Tryz.prog 264 #[ptr s.sb,.agg #[op,word]] v (qy fq keep v (λz':TZ=>z'.1 = z'.2.1 /\ av.R k z.2.1 z'.1) (λ_=>.tuple #[]) (HT k s)):=λmain kind cs NL=>by
 cases main with
 | true=>exact thV rfl
 | false =>
 have hb:(oC 264 kind).kind ≠ .early:=NL;have hT:=YL.closed (P:=Tryz.prog) (pm:=tI v (qy fq keep v (λz':TZ=>z'.1 = z'.2.1 /\ av.R k z.2.1 z'.1) (λ_=>.tuple #[]) (HT k s)).M) (f:=0) (kind:=kind) (cs:=cs) (R:=λval v'=>(qy fq keep v (λz':TZ=>z'.1 = z'.2.1 /\ av.R k z.2.1 z'.1) (λ_=>.tuple #[]) (HT k s)).Q (.returned val) v');have hP:AtHT k s z v v:=⟨.refl _ _,hA.1⟩;rw [PU];simp only [Tryz.f264,dM]
 repeat (refine .ctl hT rfl (λw=>mC w) ?_)
 refine m38 ?_;simp only [bK,aS,bw,Nat.reduceAdd,a9,List.range,List.range.loop];refine R8 hb rfl rfl rfl λv1 h1 n1=>?_
 have hB:=UK (x:=op) (y:=word) (t:=152) (FK hP h1);obtain⟨bk,hbk⟩:∃ bk,v1.heap.size = bk:=⟨_,rfl⟩;rw [hbk] at hB ⊢;clear h1 n1 hP
 walk_nrm
 simp only [Act.eval,Value.cells];refine m39 ?_
 repeat (refine .ctl hT rfl (λw=>mC w) ?_)
 refine m38 ?_;simp only [bK,aS,bw,Nat.reduceAdd,a9,List.range,List.range.loop];refine rV (x:=(ptr s.sb)) hb rfl rfl rfl (λv1 _=>by simp [execOp,Act.eval]) λv1 h1 n1=>?_
 replace hB:=jO hB h1;clear h1 n1
 walk_nrm
 refine Zm hb rfl rfl rfl rfl λv1 h1 n1=>?_
 replace hB:=jO hB h1;clear h1 n1
 walk_nrm
 refine Zn (j:=2) hb rfl rfl rfl rfl zk λv1 h1 n1=>?_
 replace hB:=jO hB h1;clear h1 n1
 walk_nrm
 refine Vm hb rfl rfl rfl rfl Tryz.isAgg149 ⟨_,hB.a.1,nj.2 (rfl:s.c0[2]? = some _)⟩ λv1 h1 n1=>?_
 replace hB:=jO hB h1;clear h1 n1
 walk_nrm
 refine m39 ?_;refine m38 ?_;simp only [bK,aS,bw,Nat.reduceAdd,a9,List.range,List.range.loop];refine rV (x:=.agg #[op,word]) hb rfl rfl rfl (λv1 h1=>?_) λv1 h1 n1=>?_
 ·have c0:=pc hB.c0 h1;have c1:=pc hB.c1 h1;simp [execOp,Act.eval,go_sem,c0,c1]
 replace hB:=jO hB h1;clear h1 n1
 walk_nrm
 refine rV (x:=(.agg #[op,word,.bool false])) hb rfl rfl rfl (λv1 _=>by simp [execOp,Act.eval,go_sem]) λv1 h1 n1=>?_
 replace hB:=jO hB h1;clear h1 n1
 walk_nrm
 refine m39 ?_;refine m38 ?_;simp only [bK,aS,bw,Nat.reduceAdd,a9,List.range,List.range.loop];refine rV (x:=(ptr s.sb)) hb rfl rfl rfl (λv1 _=>by simp [execOp,Act.eval]) λv1 h1 n1=>?_
 replace hB:=jO hB h1;clear h1 n1
 walk_nrm
 refine Zm hb rfl rfl rfl rfl λv1 h1 n1=>?_
 replace hB:=jO hB h1;clear h1 n1
 walk_nrm
 refine Zn (j:=1) hb rfl rfl rfl rfl zk λv1 h1 n1=>?_
 replace hB:=jO hB h1;clear h1 n1
 walk_nrm
 refine Vm hb rfl rfl rfl rfl Tryz.isAgg148 ⟨_,hB.a.1,nj.2 (rfl:s.c0[1]? = some _)⟩ λv1 h1 n1=>?_
 replace hB:=jO hB h1;clear h1 n1
 walk_nrm
 refine m39 ?_
 repeat (refine .ctl hT rfl (λw=>mC w) ?_)
 refine m38 ?_;simp only [bK,aS,bw,Nat.reduceAdd,a9,List.range,List.range.loop];refine .gen rfl false (λe=>by cases e) λv1 w m _=>.inr (KT.of (w:=w) (z:=.agg #[.int .u8 0,.int .i64 0,.bool false]) (ze:=.agg #[]) (.agg #[]) (.agg #[]) ZO ⟨(jO hB m.grow).a.1,(jO hB m.grow).a.2.1,C9,(jO hB m.grow).a.2.2,atC hb rfl rfl rfl λw=>by constructor <;> simp [execOp,Act.eval,go_sem,ic,scase,rcase]⟩ ?_)
 replace hB:=(jO hB m.grow).toAtHT;rw [r7 rfl]
 walk_nrm
 refine jD.pure (x:=(.int .i64 0)) hb rfl rfl rfl (λw=>by constructor <;> simp [execOp,Act.eval,go_sem,commResult,ic,lq,scase,rcase,ptr]) ?_
 walk_nrm
 refine jD.pure (x:=(.bool true)) hb rfl rfl rfl (λw=>by constructor <;> simp [execOp,Act.eval,go_sem,commResult,ic,lq,scase,rcase,ptr]) ?_
 walk_nrm
 refine jD.pure (x:=(.bool false)) hb rfl rfl rfl (λw=>by constructor <;> simp [execOp,Act.eval,go_sem,commResult,ic,lq,scase,rcase,ptr]) ?_
 walk_nrm
 refine m239 ?_;refine jD.ctl rfl (λw=>Da w) ?_;refine jD.ctl rfl (λw=>GU w rfl) ?_;simp only [if_true,cD,aI,↓reduceIte];refine jD.ctl rfl (λw=>GQ w) ?_;refine jD.ctl rfl (λw=>yr w) ?_
 repeat (refine jD.ctl rfl (λw=>mC w) ?_)
 refine m299 ?_;simp only [bK,aS,bw,Nat.reduceAdd,a9,List.range,List.range.loop];refine jD.pure (x:=(ptr s.sb)) hb rfl rfl rfl (λw=>by constructor <;> simp [execOp,Act.eval,go_sem,commResult,ic,lq,scase,rcase,ptr]) ?_
 walk_nrm
 refine jD.pure (x:=(ptr s.sb)) hb rfl rfl rfl (λw=>by constructor <;> simp [execOp,Act.eval,go_sem,commResult,ic,lq,scase,rcase,ptr]) ?_
 walk_nrm
 refine jD.pure (x:=(.pointer (some ⟨s.sb,0,none⟩))) hb rfl rfl rfl (λw=>by constructor <;> simp [execOp,Act.eval,go_sem,commResult,ic,lq,scase,rcase,ptr]) ?_
 walk_nrm
 refine jD.ld hb rfl rfl rfl rfl Tryz.isAgg148 rfl ?_
 walk_nrm
 refine m239 ?_;refine m299 ?_;simp only [bK,aS,bw,Nat.reduceAdd,a9,List.range,List.range.loop];refine jD.pure (x:=(ptr s.sb)) hb rfl rfl rfl (λw=>by constructor <;> simp [execOp,Act.eval,go_sem,commResult,ic,lq,scase,rcase,ptr]) ?_
 walk_nrm
 refine jD.pure (x:=(ptr s.sb)) hb rfl rfl rfl (λw=>by constructor <;> simp [execOp,Act.eval,go_sem,commResult,ic,lq,scase,rcase,ptr]) ?_
 walk_nrm
 refine jD.pure (x:=(.pointer (some ⟨s.sb,1,none⟩))) hb rfl rfl rfl (λw=>by constructor <;> simp [execOp,Act.eval,go_sem,commResult,ic,lq,scase,rcase,ptr]) ?_
 walk_nrm
 refine jD.ld hb rfl rfl rfl rfl Tryz.isAgg148 rfl ?_
 walk_nrm
 refine m239 ?_
 repeat (refine jD.ctl rfl (λw=>mC w) ?_)
 refine m299 ?_;simp only [bK,aS,bw,Nat.reduceAdd,a9,List.range,List.range.loop];refine jD.here ⟨_,atC hb rfl rfl rfl λw=>by constructor <;> simp [execOp,Act.eval,go_sem,lq,rcase],λx JY F'' v' hR hsa nN=>?_⟩;have hE:=UJ hsb hk hB hsa nN;rw [r7 rfl]
 walk_nrm
 generalize dU v' s.sb (nL s JY) = v9 at hE ⊢
 refine rV (x:=.int .i64 0) hb rfl rfl rfl (λv1 _=>by simp [execOp,Act.eval,go_sem,commResult,lq,rcase]) λv1 h1 n1=>?_
 replace hE:=yF hE h1;clear h1 n1
 walk_nrm
 refine ae5 (r:=(.bool true)) hb rfl rfl rfl rfl rfl (λw=>by simp [go_sem]) λv1 h1 n1=>?_
 replace hE:=yF hE h1;clear h1 n1
 walk_nrm
 refine ae5 (r:=(.bool false)) hb rfl rfl rfl rfl rfl (λw=>by simp [go_sem]) λv1 h1 n1=>?_
 replace hE:=yF hE h1;clear h1 n1
 walk_nrm
 refine m39 ?_;refine .ctl hT rfl (λw=>Da w) ?_;refine .ctl hT rfl (λw=>GU w rfl) ?_;simp only [if_true,cD,aI,↓reduceIte];refine .ctl hT rfl (λw=>GQ w) ?_;refine .ctl hT rfl (λw=>yr w) ?_;refine .ctl hT rfl (λw=>GS w rfl) ?_;exact .stop ⟨_,_,_,rfl,rfl,⟨_,⟨rfl,hR⟩,rfl,hE.kp,hE.a,hE.f⟩,.refl _,rfl,rfl,_,Tryz.func264,λv2 _ _=>HZ rfl _ v2⟩
end Go.Proofs.YtgnmiaonbadbnaaGreat
namespace Go.Gx
open Go Go.Conc Go.ConcN
open Go.ConcR (KK wgBlock WgAt stA smA rd wr mk Payload DC0 Bk g_of_ofEvents)
variable {Wg k n:Nat} {v v1 v0 v':World} {s:aC} {keep F':Nat->Prop} {G':Gh}
section
variable [av]
structure MZ where
 al:Al
 G:Gh
 F:Nat->Prop
 l:List Nat
 L:Nat->List Value
def MZ.own (Wg:Nat) (z:MZ) (b:Nat):Prop:=b = Wg \/ (∃ a ∈ z.al,b = a.2.sb) \/ ∃ a r,z.al = a :: r /\ b = a.2.cs
structure Bg (Wg:Nat) (z:MZ) (v:World):Prop where
 gm:DU v z.al z.G
 sa:av.SA z.G z.F v
 pm:∀ b,z.F b->fq b
 wg:v.heap[Wg]? = some (gh z.l)
 ne:z.l ≠ []
 oe:∀ (k:Nat) (a:Nat × aC),z.al[k]? = some a->v.heap[a.2.sb]? = some (lr a.2 (z.L k))
 sep:∀ (k k':Nat) (a a':Nat × aC),z.al[k]? = some a->z.al[k']? = some a'->a.2.sb = a'.2.sb->k = k'
 low:av.N0 <= Wg /\ ∀ a ∈ z.al,av.N0 <= a.2.sb
theorem Bg.own {z:MZ} (h:Bg Wg z v) {b:Nat} (hb:z.own Wg b):∃ o,v.heap[b]? = some o /\ pL o = true /\ o ≠ dummy /\ av.N0 <= b:=by
 rcases hb with rfl | ⟨a,ha,rfl⟩ | ⟨a,r,e,rfl⟩
 ·exact ⟨_,h.wg,LB _,λe=>by
   have h1:=aL Array.toList (bF e).1;have:=h.ne
   simp_all,h.low.1⟩
 ·have⟨k,hk⟩:=aP ha;exact ⟨_,h.oe k a hk,tD _ _,λe=>by
   have h1:=(bF e).2
   grind,h.low.2 a ha⟩
 ·have:=h.gm;rw [e] at this;exact ⟨_,this.2,rfl,Fj,this.1⟩
theorem Bg.iL {Wg:Nat} {z:MZ} {v:World} (h:Bg Wg z v) {b:Nat} (hb:z.own Wg b) {G:Gh} {F:Nat->Prop} (hs:av.SA G F v):¬ F b:=λhf=>by
 have⟨o,h1,h2,_⟩:=h.own hb;have:=(av.iL hs hf).1 o h1;rw [jH h2] at this; cases this
theorem Bg.st {z:MZ} (h:Bg Wg z v) (g:∀ b,z.F b \/ z.own Wg b->v1.heap[b]? = v.heap[b]?):Bg Wg z v1:=by
 refine ⟨?_,av.loc h.sa λb hb=>g b (.inl hb),h.pm,(g _ (.inr (.inl rfl))).trans h.wg,h.ne,λk a hk=>(g _ (.inr (.inr (.inl ⟨a,ai hk,rfl⟩)))).trans (h.oe k a hk),h.sep,h.low⟩;have:=h.gm;have hc:=λa r e=>g _ (.inr (.inr (.inr ⟨a,r,e,rfl⟩)))
 generalize z.al = al at this hc
 cases al with
 | nil=>exact this
 | cons a r=>exact ⟨this.1,(hc a r rfl).trans this.2⟩
def HM (Wg:Nat) (z:MZ):du:=⟨λb=>z.F b \/ z.own Wg b,Bg Wg z,λw w' h ha=>ha.st h⟩
instance {Wg:Nat} {z:MZ}:pd (HM Wg z):=⟨λw h b hb e=>by
 rcases hb with hb | hb
 ·have:=(av.iL h.sa hb).1 _ e
  trivial
 ·have⟨o,h1,_,h2,_⟩:=Bg.own h hb
  grind⟩
theorem WT {z:MZ} {G:Gh} {F:Nat->Prop} (hk:∃ n',z.al[k]? = some (n',s)):({ z with al:=z.al.set k (n,s),G:=G,F:=F }:MZ).own Wg = z.own Wg:=by
 have⟨n',hk⟩:=hk
 funext b
 refine propext ⟨λh=>h.imp id (.imp (λ⟨a,ha,e⟩=>?_) λ⟨a,r,e,e2⟩=>?_),λh=>h.imp id (.imp (λ⟨a,ha,e⟩=>?_) λ⟨a,r,e,e2⟩=>?_)⟩
 ·grind
 ·cases hz:z.al with
  | nil=>grind
  | cons a0 r0 =>
    refine ⟨a0,r0,rfl,?_⟩;simp only [hz] at e;cases k with
    | zero =>
      grind
    | succ k=>grind
 ·have⟨j,hj⟩:=aP ha
  by_cases e1:j = k
  ·subst e1;rw [hk] at hj; cases hj;exact ⟨(n,s),ai (kG (cY.1 hk).1),e⟩
  ·exact ⟨a,ai (by rw [List.getElem?_set_ne (cN e1)]; exact hj),e⟩
 ·cases k with
  | zero =>
    grind
  | succ k=>grind
structure FP (Wg:Nat) (keep:Nat->Prop) (z:MZ) (v0 v:World):Prop where
 kp:bf (λb=>fq b /\ ¬ keep b) v0 v
 a:Bg Wg z v
 f:∀ b,(HM Wg z).c9 b->¬ keep b
theorem zM {z:MZ} (h:FP Wg keep z v0 v) (g:df v v1):FP Wg keep z v0 v1 :=
 ⟨h.kp.trans' (.eA g) λ_ _ h=>h.elim,h.a.st λb hb=>g.old b (by
  rcases hb with hb | hb
  ·exact (av.iL h.a.sa hb).2
  ·have⟨o,h1,_⟩:=h.a.own hb; grind),h.f⟩
theorem JL {z:MZ} (hk:∃ n',z.al[k]? = some (n',s)) (hkp:∀ b,keep b->b < v0.heap.size /\ v0.heap[b]? ≠ some dummy) (h:FP Wg keep z v0 v1) (hsa:av.SA G' F' v') (nN:Sw z.F F' v1 v') :
 FP Wg keep { z with al:=z.al.set k (n,s),G:=G',F:=F' } v0 (qN v' (z.al.set k (n,s)) G'):=by
 have hne:∀ b,z.own Wg b->v'.heap[b]? = v1.heap[b]? /\ ¬ F' b:=λb hb=>by
  have⟨o,h1,h2,h3,_⟩:=h.a.own hb;have hF:=h.a.iL hb h.a.sa;have hF':¬ F' b:=λhf=>by
   rcases nN.Js b hf with e | e | e
   ·exact hF e
   ·rw [h1] at e; exact h3 (ak e)
   ·have:=aG h1; omega
  exact ⟨nN.keep b (aG h1) hF hF',hF'⟩
 have⟨n',hk'⟩:=hk;have hkF:∀ b,keep b->¬ F' b:=λb hb hf=>by
  have⟨k1,k2⟩:=hkp b hb;have h1:=h.kp.block b k1 λe=>e.2 hb
  rcases nN.Js b hf with e | e | e
  ·exact h.f b (.inl e) hb
  ·rw [h1] at e; exact k2 e
  ·have:=h.kp.size; omega
 have hkeep:∀ b,b < v0.heap.size->¬ (fq b /\ ¬ keep b)->v'.heap[b]? = v1.heap[b]?:=λb hb hn=>by
  have hb1:b < v1.heap.size:=aD hb h.kp.size;have hq:¬ fq b \/ keep b:=by
   exact s79
  exact nN.keep b hb1 (λhf=>hq.elim (λh'=>h' (h.a.pm b hf)) (h.f b (.inl hf))) λhf=>hq.elim (λh'=>h' (nN.pm b hf)) λh'=>hkF b h' hf
 obtain⟨a0,r0,hz⟩:∃ a0 r0,z.al = a0 :: r0:=by
  cases hz:z.al with
  | nil=>grind
  | cons a r=>simp
 obtain⟨a1,r1,hz1,hcs⟩:∃ a1 r1,z.al.set k (n,s) = a1 :: r1 /\ a1.2 = a0.2:=by
  rw [hz] at hk' ⊢;cases k with
  | zero =>
    grind
  | succ k=>simp
 have hoc:z.own Wg _:=.inr (.inr ⟨a0,r0,hz,rfl⟩);have PD:=h.a.gm;rw [hz] at PD;have hlt:=aD (aG PD.2) nN.size;have eM:qN v' (z.al.set k (n,s)) G' = dU v' a0.2.cs (tq (Al.gh (z.al.set k (n,s)) G')):=by rw [hz1]; show dU v' a1.2.cs _ = _; rw [hcs]
 have neC:∀ b o,v1.heap[b]? = some o->(∀ al G,o ≠ tq (Al.gh al G))->a0.2.cs ≠ b:=λb o h1 h2 e=>by
  rw [<- e,PD.2] at h1;exact h2 _ _ (ak h1).symm
 have hold:∀ b o,z.own Wg b->v1.heap[b]? = some o->(∀ al G,o ≠ tq _)->(dU v' _ (tq (Al.gh (z.al.set k (n,s)) G'))).heap[b]? = some o:=λb o hb h1 h2=>by
  rw [eI (neC b o h1 h2),(hne b hb).1,h1]
 have eo:=WT (Wg:=Wg) (n:=n) (G:=G') (F:=F') ⟨n',hk'⟩;have gseat:∀ s L (al:Al) (G:Gh),lr s L ≠ tq (Al.gh al G):=λs L al G e=>by
  have:=(bF e).2;simp at this
 have get:∀ (j:Nat) (a:Nat × aC),(z.al.set k (n,s))[j]? = some a->∃ a',z.al[j]? = some a' /\ a'.2 = a.2:=λj a hj=>by
  by_cases e:j = k
  ·subst e;rw [kG (cY.1 hk').1] at hj;cases hj;exact ⟨_,hk',rfl⟩
  ·rw [List.getElem?_set_ne (cN e)] at hj;exact ⟨a,hj,rfl⟩
 rw [eM];refine ⟨⟨nN.os.trans h.kp.os,nN.tape.trans h.kp.tape,nN.output.trans h.kp.output,by rw [fN]; exact az h.kp.size nN.size,λb hb hn=>?_⟩,⟨?_,av.loc hsa λb hb=>eI λe=>(hne _ hoc).2 (e ▸ hb),nN.pm,hold Wg _ (.inl rfl) h.a.wg λ_ _ e=>yp e.symm,h.a.ne,λj a hj=>?_,λj j' a a' hj hj' e=>?_,h.a.low.1,λa ha=>?_⟩,λb hb=>?_⟩
 ·have e1:a0.2.cs ≠ b:=λe=>by
   have⟨_,_,_,_,h5⟩:=h.a.own hoc;exact hn ⟨.inl (e ▸ h5),λhk=>h.f b (.inr (e ▸ hoc)) hk⟩
  rw [eI e1,hkeep b hb hn];exact h.kp.block b hb hn
 ·grind [DU,eJ]
 ·have⟨a',h1,h2⟩:=get j a hj;have:=hold _ _ (.inr (.inl ⟨a',ai h1,rfl⟩)) (h.a.oe j a' h1) (gseat _ _)
  grind
 ·have⟨b1,h1,h2⟩:=get j a hj;have⟨b2,h3,h4⟩:=get j' a' hj';exact h.a.sep j j' b1 b2 h1 h3 (by grind)
 ·have⟨j,hj⟩:=aP ha;have⟨a',h1,h2⟩:=get j a hj;rw [<- h2];exact h.a.low.2 a' (ai h1)
 ·rcases hb with hb | hb
  ·grind
  ·rw [eo] at hb;exact h.f b (.inr hb)
end
section
variable [av] {r:Nat} {z:MZ} {F:Nat->Prop} {L:List Value}
def MZ.app (z:MZ) (n:Nat) (s:aC) (G:Gh) (F:Nat->Prop) (l:List Nat) (L:List Value):MZ:=⟨z.al ++ [(n,s)],G,F,l,λk=>if k = z.al.length then L else z.L k⟩
theorem Bg.Fg (h:Bg Wg z v1) (M:Made F s L v1):zS s Wg z.al v1 /\ (∀ b,z.own Wg b->b ∉ s.bT):=by
 have iL:∀ b ∈ s.bT,b < v1.heap.size /\ ny v1 b:=λb hb=>by
  have c:∀ {o:Obj},v1.heap[b]? = some o->u9 o = false->b < v1.heap.size /\ ny v1 b:=λh hp=>⟨aG h,λo' ho'=>by rw [h] at ho'; cases ho'; exact hp⟩
  exact s37
 have nx:∀ b,z.own Wg b->b ∉ s.bT:=λb hb hm=>by
  have⟨o,h1,h2,_⟩:=h.own hb;have:=(iL b hm).2 o h1;rw [jH h2] at this; cases this
 have dist:∀ {a b:Nat} {o o':Obj},v1.heap[a]? = some o->v1.heap[b]? = some o'->o ≠ o'->a ≠ b:=by grind
 have⟨e1,m1⟩:=M.cells;have⟨e2,m2⟩:=M.box;have ff:z.al ≠ []->z.own Wg (nF z.al s).cs:=λhne=>by
  cases hz:z.al with
  | nil=>exact absurd hz hne
  | cons a r=>exact .inr (.inr ⟨a,r,hz,rfl⟩)
 refine ⟨⟨λb hb=>?_,⟨dist m1 M.ct (by simp),dist m1 M.ce (by simp),dist m1 M.cs (by simp),M.ne.2.2.2,dist m2 M.ct (by simp),dist m2 M.ce (by simp),dist m2 M.cs (by simp)⟩,λb hb e=>nx b (.inl e) hb,?_,λhne hm=>nx _ (ff hne) hm⟩,nx⟩
 ·rcases hb with hb | rfl | rfl
  ·grind
  ·exact aG h.wg
  ·by_cases hz:z.al = []
   ·grind [nF,aC.bT]
   ·have⟨o,h1,_⟩:=h.own (ff hz); grind
 ·by_cases hz:z.al = []
  ·rw [hz]; exact λe=>nx Wg (.inl rfl) (by grind [nF,aC.bT])
  ·intro e;have h1:=h.gm;cases hz':z.al with
   | nil=>trivial
   | cons a r =>
     rw [hz'] at h1 e;have h2:=h1.2;have e':a.2.cs = Wg:=e;rw [e',h.wg] at h2
     grind [yp]
theorem UI (hkp:∀ b,keep b->b < v0.heap.size /\ v0.heap[b]? ≠ some dummy /\ b ∉ s.bT) (h:FP Wg keep z v0 v1) (M:Made F s L v1) (hF:∀ b,F b->fq b) (hFk:∀ b,F b->¬ keep b) (hFv:∀ b,F b->ny v1 b) (hsa:av.SA G' F' v') (nN:Sw F F' v1 v') :
 FP Wg keep (z.app n s G' F' (qR r) L) v0 (qN (dU (vC v' s L) Wg (gh (qR r))) (z.al ++ [(n,s)]) G'):=by
 have⟨H1,nx⟩:=h.a.Fg M;have H:zS s Wg z.al v':=⟨λb hb=>aD (H1.lt b hb) nN.size,H1.nd,H1.nW,H1.fW,H1.fs⟩;show FP Wg keep _ v0 (kZ v' s L Wg r z.al n G');have hkF:∀ b,keep b->¬ F' b:=λb hb hf=>by
  have⟨k1,k2,_⟩:=hkp b hb;have h1:=h.kp.block b k1 λe=>e.2 hb
  rcases nN.Js b hf with e | e | e
  ·exact hFk b e hb
  ·rw [h1] at e; exact k2 e
  ·have:=h.kp.size; omega
 have own':∀ b,z.own Wg b->v'.heap[b]? = v1.heap[b]? /\ ¬ F' b:=λb hb=>by
  have⟨o,h1,h2,h3,_⟩:=h.a.own hb;have hnF:¬ F b:=λhf=>by
   have:=hFv b hf o h1;rw [jH h2] at this; cases this
  have hF':¬ F' b:=λhf=>by
   rcases nN.Js b hf with e | e | e
   ·exact hnF e
   ·rw [h1] at e; exact h3 (ak e)
   ·have:=aG h1; omega
  exact ⟨nN.keep b (aG h1) hnF hF',hF'⟩
 have new':∀ b ∈ s.bT,¬ F' b:=λb hb hf=>by
  have hl:=H1.lt b (.inl hb);have hv:v1.heap[b]? ≠ some dummy:=λe=>by
   have⟨e1,m1⟩:=M.cells;have⟨e2,m2⟩:=M.box;simp only [aC.bT,aE,aU,dj] at hb
   rcases hb with rfl | rfl | rfl | rfl | rfl
   ·rw [m1] at e; cases e
   ·rw [M.ct] at e; cases e
   ·rw [M.ce] at e; cases e
   ·rw [M.cs] at e; cases e
   ·rw [m2] at e; cases e
  rcases nN.Js b hf with e | e | e
  ·exact (M.low b hb).2 e
  ·exact hv e
  ·omega
 have ff:mN s Wg z.al = λb=>b ∈ s.bT \/ b = Wg \/ b = (nF z.al s).cs:=rfl
 have fown:z.own Wg (nF z.al s).cs \/ (z.al = [] /\ (nF z.al s).cs = s.cs):=by
  cases hz:z.al with
  | nil=>exact .inr ⟨rfl,rfl⟩
  | cons a r=>exact .inl (.inr (.inr ⟨a,r,hz,rfl⟩))
 have xF:∀ b,mN s Wg z.al b->¬ F' b /\ fq b /\ ¬ keep b:=λb hb=>by
  have ho:∀ b,z.own Wg b->¬ F' b /\ fq b /\ ¬ keep b:=λb hb=>by
   have⟨_,_,_,_,h5⟩:=h.a.own hb;exact ⟨(own' b hb).2,.inl h5,λhk=>h.f b (.inr hb) hk⟩
  have hs:∀ b ∈ s.bT,¬ F' b /\ fq b /\ ¬ keep b:=λb hb=>⟨new' b hb,.inl (M.low b hb).1,λhk=>(hkp b hk).2.2 hb⟩
  rcases hb with hb | rfl | rfl
  ·exact hs b hb
  ·exact ho _ (.inl rfl)
  ·rcases fown with h | ⟨_,h⟩
   ·exact ho _ h
   ·rw [h]; exact hs _ (by simp [aC.bT])
 have n1:s.sb ≠ (nF z.al s).cs:=λe=>by
  rcases fown with h | ⟨_,h⟩
  ·exact nx _ h (by rw [<- e]; simp [aC.bT])
  ·exact H1.nd.2.2.1 (e.trans h)
 have gsb:(kZ v' s L Wg r z.al n G').heap[s.sb]? = some (lr s L):=by
  rw [j6 H,if_neg n1,if_neg (H.nW _ (by simp [aC.bT])),if_neg H.nd.2.2.2.1,if_neg λh=>h.elim H.nd.2.2.1 λh=>h.elim H.nd.2.1 H.nd.1,if_pos rfl]
 have gold:∀ b,¬ mN s Wg z.al b->(kZ v' s L Wg r z.al n G').heap[b]? = v'.heap[b]?:=λb hb=>mn H hb
 have oldsb:∀ a ∈ z.al,¬ mN s Wg z.al _:=λa ha hx=>by
  have⟨k,hk⟩:=aP ha;have h1:=h.a.oe k a hk
  rcases hx with hx | hx | hx
  ·exact nx _ (.inr (.inl ⟨a,ha,rfl⟩)) hx
  ·rw [hx,h.a.wg] at h1;have:=(bF (ak h1)).2;simp at this
  ·cases hz:z.al with
   | nil=>rw [hz] at ha; cases ha
   | cons a0 r0 =>
     have h2:=h.a.gm;rw [hz] at h2 hx;have h3:=h2.2;have e:a.2.sb = a0.2.cs:=hx;rw [<- e,h1] at h3;have:=(bF (ak h3)).2;simp at this
 have mem:∀ (k:Nat) (a:Nat × aC),(z.al ++ [(n,s)])[k]? = some a->(k < z.al.length /\ z.al[k]? = some a) \/ (k = z.al.length /\ a = (n,s)):=λk a h=>by
  rcases fZ k z.al.length with h3 | h3
  ·rw [eX h3] at h;exact .inl ⟨h3,h⟩
  ·obtain rfl:k = z.al.length:=by
    have:=(cY.1 h).1;simp at this; omega
   rw [jF (aA _),oF] at h;exact .inr ⟨rfl,(ak h).symm⟩
 have nsb:∀ a ∈ z.al,a.2.sb ≠ s.sb:=λa ha e=>nx _ (.inr (.inl ⟨a,ha,rfl⟩)) (by rw [e]; simp [aC.bT])
 have hdr:(kZ v' s L Wg r z.al n G').tape = v'.tape /\ (kZ v' s L Wg r z.al n G').os = v'.os /\ (kZ v' s L Wg r z.al n G').output = v'.output:=by
  unfold kZ;rw [ov];simp only [dU,vC,and_self]
 refine ⟨⟨hdr.2.1.trans (nN.os.trans h.kp.os),hdr.1.trans (nN.tape.trans h.kp.tape),hdr.2.2.trans (nN.output.trans h.kp.output),by rw [yj]; exact az h.kp.size nN.size,λb hb hn=>?_⟩,⟨?_,av.loc hsa λb hb=>gold b λhx=>(xF b hx).1 hb,nN.pm,?_,?_,λk a hk=>?_,λk k' a a' hk hk' e=>?_,h.a.low.1,λa ha=>?_⟩,λb hb=>?_⟩
 ·have hq:¬ fq b \/ keep b:=by
   by_cases hp:fq b
   ·exact .inr (Classical.not_not.1 λe=>hn ⟨hp,e⟩)
   ·exact .inl hp
  rw [gold b λhx=>hq.elim (λh=>h (xF b hx).2.1) (xF b hx).2.2,nN.keep b (aD hb h.kp.size) (λhf=>hq.elim (λh'=>h' (hF b hf)) (hFk b hf)) λhf=>hq.elim (λh'=>h' (nN.pm b hf)) λh'=>hkF b h' hf];exact h.kp.block b hb hn
 ·show DU _ (z.al ++ [(n,s)]) G';rw [NR,j6 H,if_pos rfl];refine ⟨?_,rfl⟩
  rcases fown with h' | ⟨_,h'⟩
  ·have⟨_,_,_,_,h5⟩:=h.a.own h'; exact h5
  ·rw [h']; exact (M.low _ (by simp [aC.bT])).1
 ·show (kZ v' s L Wg r z.al n G').heap[Wg]? = some (gh (qR r));rw [j6 H,if_neg (cN H.fW),if_pos rfl]
 ·show qR r ≠ [];cases r <;> simp [qR]
 ·show (kZ v' s L Wg r z.al n G').heap[a.2.sb]? = some (lr a.2 (if k = z.al.length then L else z.L k))
  rcases mem k a hk with ⟨hl,hk⟩ | ⟨rfl,rfl⟩
  ·rw [if_neg (by omega),gold _ (oldsb a (ai hk)),(own' _ (.inr (.inl ⟨a,ai hk,rfl⟩))).1];exact h.a.oe k a hk
  grind
 ·rcases mem k a hk with ⟨hl,hk⟩ | ⟨rfl,rfl⟩ <;> rcases mem k' a' hk' with ⟨hl',hk'⟩ | ⟨rfl,rfl⟩
  ·exact h.a.sep k k' a a' hk hk' e
  ·grind
  ·grind
  ·rfl
 ·rcases (by simpa [MZ.app] using ha:a ∈ z.al \/ a = (n,s)) with ha | rfl
  ·exact h.a.low.2 a ha
  ·exact (M.low s.sb (by simp [aC.bT])).1
 ·rcases hb with hb | rfl | ⟨a,ha,rfl⟩ | ⟨a,r',e,rfl⟩
  ·exact λhk=>hkF b hk hb
  ·grind
  ·rcases (by simpa [MZ.app] using ha:a ∈ z.al \/ a = (n,s)) with ha | rfl
   ·exact h.f _ (.inr (.inr (.inl ⟨a,ha,rfl⟩)))
   grind [aC.bT]
  ·have e':z.al ++ [(n,s)] = a :: r':=e;have:a.2.cs = (nF z.al s).cs:=by
    cases hz:z.al with
    | nil=>rw [hz] at e'; cases e'; rfl
    | cons a0 r0=>rw [hz] at e'; cases e'; rfl
   grind
end
end Go.Gx
namespace Go.Proofs.YtgnmiaonbadbnaaGreat
open Go Go.Gx Go.Conc Go.ConcN Go.RowKit Go.Conc.Lib Go.ConcR.Gen Go.ConcN.Gen
open Go.ConcR (KK wgBlock WgAt stA smA rd wr mk Payload DC0 Bk g_of_ofEvents)
variable {w v v1:World} {fv:Value}
def JK:Frame:=baseD 96
noncomputable def Ml:Frame:={ (default:Frame) with fn:=Tryz.prog.funcs.size,defers:=[],mode:=.panicking [goexitEntry] }
def JA (ba bt bx:Nat):Deferred:={ target:=.fn (.func 96) #[ptr ba,ptr bt,ptr bx],args:=#[] }
theorem aaX (T:Array Value):QuitsD Tryz.prog 2 0 (G { JK.at ⟨T,[]⟩ [] with mode:=.returning } [Ml]):=by
 refine QuitsD.ctl (g':=G Ml []) rfl (λw=>?_) ?_
 ·simp [G,stepG,unwind,doReturn,results,Frame.at,JK,baseD,Ml,Tryz.func96,Tryz.f96,seen,GStep.after,goexitEntry]
 refine QuitsD.ctl (g':={ G Ml [] with status:=.finished }) rfl (λw=>?_) ⟨rfl,rfl⟩
 rfl
theorem Mm (ba bt bx:Nat) (w:World):stepG Tryz.prog false (born Tryz.prog (JA ba bt bx)) w =
 .go (G (JK.atR ⟨#[ptr ba,ptr bt,ptr bx,undef,undef,undef,undef,undef,undef,undef,undef,undef,undef,undef,undef,undef,undef,undef,undef,undef,undef],[]⟩ [.code (Tryz.f96.body.getD .skip)]) [Ml]) w #[]:=by
 simp [born,JA,stepG,unwind,callDeferred,invoke,callFunc,Tryz.func96,Tryz.f96,seen,GStep.after,G,Frame.enter,Frame.atR,JK,baseD,Ml]
 rfl
section
variable {P:Program} {main:Bool} {b c:Frame} {a:Act} {k:List Item} {cs:List Frame} {ops:Array Oper} {i:Nat} {rest:List Nat} {o:Oper}
theorem Bm (ho:ops[i]? = some o) (hg:o.guard = none) (hb:b.kind = .deferred) (g9:∃ qJ,o.op = .call { callee:=.builtin .recover,args:=#[],argTypes:=qJ }) (hc:c.mode = .returning) :
 stepG P main (G (b.at a (.inRegion ops (i :: rest) :: k)) (c :: cs)) w = .go (G (b.at (a.put o.dst .nilIface) (.inRegion ops rest :: k)) (c :: cs)) w #[]:=by
 have⟨qJ,g9⟩:=g9;have hfin:∀ x,(b.at a _).finish x = b.at (a.put o.dst x) (.inRegion ops rest :: k):=λx=>by rw [Frame.finish_at,ho]; rfl
 have hw:Region.wanted o (yielded ops a.tmps) = true:=by simp [Region.wanted,hg]
 rw [stepG_oper ho hw];have e:execOp a.eval o = pure .recover:=by
  unfold execOp;simp [g9,resolve,invoke,builtin]
 rw [e,<- hfin];simp [stepG.apply,tryRecover,hb,hc,Frame.at,G,GStep.after,seen]
end
section
variable [av] {said:Bool->Value->Prop} {Wg k:Nat} {s:aC} {G0:Gh} {F:Nat->Prop} {ba bt:Nat} {f:FuncId} {cap:Array Value} {u:World}
structure ChB (Wg k:Nat) (s:aC) (G0:Gh) (F:Nat->Prop) (ba bt:Nat) (fv:Value) (v:World):Prop where
 h:(HT k s (G0,G0,F)).A v
 bx:v.heap[s.bx]? = some (Ka s)
 ca:v.cell? ⟨ba,0,none⟩ = some (ptr Wg)
 ct:v.cell? ⟨bt,0,none⟩ = some fv
 n:av.N0 <= v.heap.size
theorem pW (h:ChB Wg k s G0 F ba bt fv v) (g:df v v1):ChB Wg k s G0 F ba bt fv v1:=⟨Fe h.h (.eA g),by rw [g.old _ (aG h.bx)]; exact h.bx,pc h.ca g,pc h.ct g,az h.n g.size⟩
structure ChE (k:Nat) (s:aC) (z:TZ) (v:World):Prop where
 h:(HT k s z).A v
 bx:v.heap[s.bx]? = some (Ka s)
theorem pU {z:TZ} (h:ChE k s z v) (g:df v v1):ChE k s z v1:=⟨Fe h.h (.eA g),by rw [g.old _ (aG h.bx)]; exact h.bx⟩
theorem Jw (h:ChB Wg k s G0 F ba bt fv v):lN (λb=>b = s.bx) (HT k s (G0,G0,F)) v:=λb hb=>by
 subst hb;refine ⟨aG h.bx,λe=>?_,λhf=>?_⟩
 ·rw [h.bx] at e;exact absurd (bF (ak e)).2 (by decide)
 ·rcases hf with hf | hf
  ·have h1:v.heap[s.sb]? = some (nL s G0):=h.h.1;rw [<- hf,h.bx] at h1;exact absurd (bF (ak h1)).2 (by decide)
  ·have:=(av.iL h.h.2.1 hf).1 _ h.bx;rw [jH (Dx s)] at this; cases this
theorem K9 (w:World):Sem.events Tryz.prog (binOp .neq 20 .nilIface .nilIface) w #[] = #[]:=by
 rfl
theorem Bn {w1:World} (h:WgLive 143 Wg w /\ Has av.C k (av.tv k) w) (r:RW 143 Wg av.C av.n 0 (k + 1 - 1) w w1):WgLive 143 Wg w1 /\ Has av.C k (av.tv k) w1:=⟨r.live h.1,by
 have:=r.cell
 grind [Has]⟩
theorem afm {t3 t6 t7 t8 t9 t11 t12 t15 t16:Value} (w:World) (hF:WgLive 143 Wg w /\ Has av.C k (av.tv k) w) (o4 o5 t0 t1 t2 t10 t13 t14:Value) :
 Goes Tryz.prog false (RW 143 Wg av.C av.n 0 (k + 1 - 1)) DC0 (AtR0 Tryz.prog 143 Wg av.C av.n 0 (k + 1) (av.tv k)) 60 (G (JK.at ⟨#[t0,t1,t2,t3,o4,o5,t6,t7,t8,t9,t10,t11,t12,t13,t14,t15,t16,.tuple #[.int .i64 0,.bool false,.agg #[]],.int .i64 0,.bool true,.bool false],[dcall 98 #[],dcall 97 #[ptr Wg]]⟩ []) [Ml]) w:=by
 u_c stepG_end Bn hF
 u_in Bn hF
 rw [stepG_unwind_enter (b:=JK) (ds:=[dcall 97 #[ptr Wg]]) (f:=98) (args:=#[]) rfl Tryz.func98 rfl rfl];refine ⟨by u_nil,?_⟩
 walk_nrmf Tryz.f98
 u_c aH Bn hF
 u_reg Bn hF
 u_in Bn hF
 rw [Bm rfl rfl rfl ⟨_,rfl⟩ rfl];refine ⟨by u_nil,?_⟩
 walk_nrm
 u_op Bn hF
 u_c au Bn hF
 u_c aH Bn hF
 u_reg Bn hF
 u_op Bn hF
 have hev:=K9
 u_op Bn hF
 u_c au Bn hF
 u_cond false Bn hF
 u_c eO Bn hF
 u_c stepG_end Bn hF
 u_in Bn hF
 rw [stepG_leave_deferred (b:=baseD 98) (v:=.tuple #[]) rfl rfl Tryz.func98 (results_none rfl _ _ _) (events_results_none rfl _ _) rfl];refine ⟨by u_nil,?_⟩
 u_in Bn hF
 rw [stepG_unwind_enter (b:=JK) (ds:=[]) (f:=97) (args:=#[ptr Wg]) rfl wgH.f_done (nm_done Vi) rfl];refine ⟨by u_nil,?_⟩;exact rH (agI wgH rfl (aaX _) _ hF.1 hF.2) (by omega)
theorem acu (om:dV Tryz.prog f) (QH:said true (.agg #[.int .u8 0,.int .i64 0,.bool true])) (hB:ChB Wg k s G0 F ba bt (.func (.func f) #[] cap) u)
 (hC:∀ u1,df u u1->cI u1->iQ (Kc Tryz.prog (said false) k s) 0 Tryz.prog f (#[.iface 147 (ptr s.sb)] ++ cap) u1 (qy fq (λb=>b = s.bx) u1 (λz:TZ=>av.St k (.agg #[.int .u8 0,.int .i64 0,.bool true]) z.1 z.2.1) (λ_=>.tuple #[]) (HT k s))) :
 eB (Kc Tryz.prog (said false) k s) Tryz.prog false fq 0 (QP Tryz.prog 143 Wg said k s) (born Tryz.prog (JA ba bt s.bx)) u:=by
 have hT:Gx.Closed (QP Tryz.prog 143 Wg said k s):=λg v v1 h hg=>h.grow hg
 have hb:JK.kind ≠ .early:=by decide
 have hG:df u u:=.refl _;refine .ctl hT rfl (Mm ba bt s.bx) ?_;simp only [Tryz.f96,dM]
 repeat (refine .ctl hT rfl (λw=>mC w) ?_)
 refine m38 ?_;simp only [bK,aS,bw,Nat.reduceAdd,a9,List.range,List.range.loop];refine rV (x:=ptr Wg) hb rfl rfl rfl (λv1 h1=>?_) λv1 h1 n1=>?_
 ·have c0:=pc hB.ca h1;simp [execOp,Act.eval,go_sem,c0,ptr]
 replace hB:=pW hB h1;replace hG:=hG.trans h1;clear h1 n1
 walk_nrm
 refine .ctl hT rfl (λw=>stepG_defer rfl rfl (by decide) rfl) ?_
 walk_nrm
 refine m39 ?_
 repeat (refine .ctl hT rfl (λw=>mC w) ?_)
 refine m38 ?_;simp only [bK,aS,bw,Nat.reduceAdd,a9,List.range,List.range.loop];refine .ctl hT rfl (λw=>stepG_defer rfl rfl (by decide) rfl) ?_
 walk_nrm
 refine m39 ?_
 repeat (refine .ctl hT rfl (λw=>mC w) ?_)
 refine m38 ?_;simp only [bK,aS,bw,Nat.reduceAdd,a9,List.range,List.range.loop];refine rV (x:=.func (.func f) #[] cap) hb rfl rfl rfl (λv1 h1=>?_) λv1 h1 n1=>?_
 ·have c0:=pc hB.ct h1;simp [execOp,Act.eval,go_sem,c0,ptr]
 replace hB:=pW hB h1;replace hG:=hG.trans h1;clear h1 n1
 walk_nrm
 refine Vm hb rfl rfl rfl rfl Tryz.isAgg147 ⟨_,hB.bx,yf.2 ⟨rfl,rfl⟩⟩ λv1 h1 n1=>?_
 replace hB:=pW hB h1;replace hG:=hG.trans h1;clear h1 n1
 walk_nrm
 refine rV (x:=.iface 147 s.pt) hb rfl rfl rfl (λv1 h1=>by rfl) λv1 h1 n1=>?_
 replace hB:=pW hB h1;replace hG:=hG.trans h1;clear h1 n1
 walk_nrm
 refine ae6 (R:=λv=>qy fq _ v (λz:TZ=>av.St k (.agg _) z.1 z.2.1) _ _) hb rfl rfl rfl (λv2=>?_) (λv2 h2 n2=>hC v2 (hG.trans h2) n2) (λv2 h2 b hb2=>?_) λv2 val v3 h2 ⟨z,C9,hq,hkp,ha,hft⟩ v4 h4 n4=>?_
 ·have:=kS om (#[.iface 147 (ptr s.sb)] ++ cap) (pm:=fq) (fr:=0) v2
  simp_all [execOp,resolve,Deferred.ofValue,invoke,Act.eval,ptr,aC.pt]
 ·rcases hb2 with h | h
  ·exact .inl (az hB.n (az h2.size h))
  ·exact h.1
 obtain rfl:=Ending.returned.inj hq;have hE:ChE k s z v4:=by
  have QL:=pW hB h2;have⟨k1,_,k3⟩:=Jw QL s.bx rfl;refine ⟨Fe ha (.eA h4),?_⟩;rw [h4.old _ (aD k1 hkp.size),hkp.block _ k1 λe=>e.2 rfl];exact QL.bx
 clear hB hG hC h2 hkp ha hft h4 n4
 walk_nrm
 refine m39 ?_
 repeat (refine .ctl hT rfl (λw=>mC w) ?_)
 refine m38 ?_;simp only [bK,aS,bw,Nat.reduceAdd,a9,List.range,List.range.loop];refine Vm hb rfl rfl rfl rfl Tryz.isAgg147 ⟨_,hE.bx,yf.2 ⟨rfl,rfl⟩⟩ λv1 h1 n1=>?_
 replace hE:=pU hE h1;clear h1 n1
 walk_nrm
 refine Zm hb rfl rfl rfl rfl λv1 h1 n1=>?_
 replace hE:=pU hE h1;clear h1 n1
 walk_nrm
 refine Zn (j:=2) hb rfl rfl rfl rfl zk λv1 h1 n1=>?_
 replace hE:=pU hE h1;clear h1 n1
 walk_nrm
 refine Vm hb rfl rfl rfl rfl Tryz.isAgg149 ⟨_,hE.h.1,nj.2 (rfl:s.c0[2]? = some _)⟩ λv1 h1 n1=>?_
 replace hE:=pU hE h1
 walk_nrm
 refine m39 ?_;refine m38 ?_;refine rV (x:=(.agg #[.int .u8 0,.int .i64 0,.bool true])) hb rfl rfl rfl (λv1 _=>by simp [execOp,Act.eval,go_sem]) λv1 h1 n1=>?_
 replace hE:=pU hE h1
 walk_nrm
 refine m39 ?_;refine m38 ?_;refine Vm hb rfl rfl rfl rfl Tryz.isAgg147 ⟨_,hE.bx,yf.2 ⟨rfl,rfl⟩⟩ λv1 h1 n1=>?_
 replace hE:=pU hE h1
 walk_nrm
 refine Zm hb rfl rfl rfl rfl λv1 h1 n1=>?_
 replace hE:=pU hE h1
 walk_nrm
 refine Zn (j:=1) hb rfl rfl rfl rfl zk λv1 h1 n1=>?_
 replace hE:=pU hE h1
 walk_nrm
 refine Vm hb rfl rfl rfl rfl Tryz.isAgg148 ⟨_,hE.h.1,nj.2 (rfl:s.c0[1]? = some _)⟩ λv1 h1 n1=>?_
 replace hE:=pU hE h1
 walk_nrm
 refine m39 ?_
 repeat (refine .ctl hT rfl (λw=>mC w) ?_)
 refine m38 ?_;refine .stop ⟨_,z.1,z.2.1,z.2.2,_,.agg #[.int .u8 0,.int .i64 0,.bool false],.agg #[],80,QH,⟨hE.h.1,hE.h.2.1,C9,hE.h.2.2,atC hb rfl rfl rfl λw=>by simp [execOp,Act.eval,ic,scase,rcase]⟩,λw hl hh=>?_⟩;rw [r7 rfl];have hF:WgLive 143 Wg w /\ Has av.C k _ w:=⟨hl,hh⟩;have e17:commResult (ic s (.agg #[.int .u8 0,.int .i64 0,.bool true]) (.agg #[.int .u8 0,.int .i64 0,.bool false]) (.agg #[])) .select 0 undef false = .tuple #[.int .i64 0,.bool false,.agg #[]]:=by simp [commResult,ic,scase,rcase,goInt]
 walk_nrm
 u_op Bn hF
 u_op Bn hF
 u_op Bn hF
 u_c au Bn hF
 u_c stepG_block Bn hF
 u_cond true Bn hF
 u_c eO Bn hF
 u_c stepG_inBlock Bn hF
 exact rH (afm _ hF _ _ _ _ _ _ _ _) (by omega)
end
end Go.Proofs.YtgnmiaonbadbnaaGreat
namespace Go.Gx
open Go Go.Conc Go.ConcN
open Go.ConcR (KK wgBlock WgAt stA smA rd wr mk Payload DC0 Bk g_of_ofEvents)
variable {ops:Array Oper} {i r Wg:Nat} {t:TypeId} {x y:Operand} {P:Program} {b:Frame} {k:List Item} {cs:List Frame} {rest l:List Nat} {o:Oper} {s:aC} {w v:World} {p q l0:Value} {L L':List Value} {said:Bool->Value->Prop} {al:Al} {F:Nat->Prop}
def AE (md:Region.Mode) (ops:Array Oper):Nat->Array Bool->List (List Nat)
 | 0,_=>[[]]
 | f + 1,listed=>if Region.ready md ops listed = [] then [[]] else (Region.ready md ops listed).flatMap λi=>(AE md ops f (listed.setIfInBounds i true)).map (i :: ·)
theorem yG {md:Region.Mode} {ops:Array Oper}:∀ (f t:Nat) (listed:Array Bool),Region.linearise.go md ops f t listed [] ∈ AE md ops f listed
 | 0,_,_=>by simp [Region.linearise.go,AE]
 | f + 1,t,listed=>by
   change (match (Region.ready md ops listed)[t % (Region.ready md ops listed).length]? with
    | some i=>Region.linearise.go md ops f (t / (Region.ready md ops listed).length) (listed.setIfInBounds i true) [i]
    | none=>[].reverse) ∈ _
   unfold AE;cases hi:(Region.ready md ops listed)[t % (Region.ready md ops listed).length]? with
   | none =>
     have hnil:Region.ready md ops listed = []:=by
      cases hr:Region.ready md ops listed with
      | nil=>rfl
      | cons x xs =>
        rw [hr] at hi;have hlt:t % (x :: xs).length < (x :: xs).length:=jY _ (by simp);rw [bW hlt] at hi;cases hi
     grind
   | some i =>
     have hm:=ai hi;rw [if_neg (λe=>by rw [e] at hm; cases hm)];simp only [];rw [linearise_go_acc,nJ,List.singleton_append];exact nZ.2 ⟨i,hm,iC.2 ⟨_,yG f _ _,rfl⟩⟩
section
variable {main:Bool} {a:Act} {T':Goroutine->Prop}
theorem Kw {d:Deferred} {f:Fn} {c:Array Value} (hk:b.kind ≠ .early) (ho:ops[i]? = some o) (hg:o.guard = none) (hd:jA o.op = false) (hr:(execOp a.eval o).runT P w #[] = (.ok (.spawn d) w,#[])) (ht:d.target = .fn f c) :
 stepG P main (G (b.atR a (.inRegion ops (i :: rest) :: k)) cs) w = .spawn (G (b.atR (a.put o.dst undef) (.inRegion ops rest :: k)) cs) (born P d) w #[]:=by
 have hk':((b.atR a (.inRegion ops (i :: rest) :: k)).kind == CallKind.early) = false:=by simpa [Frame.atR] using hk
 have hfin:∀ x,(b.atR a _).finish x = b.atR (a.put o.dst x) (.inRegion ops rest :: k):=λx=>by rw [eP,ho]; rfl
 have hw:Region.wanted o (yielded ops a.tmps) = true:=by simp [Region.wanted,hg]
 rw [mO w ho hw (.inl hd)];unfold stepG.apply;simp only [if_true,hr,hk',aI,cD];rw [<- hfin];simp [GStep.after,G,born,ht,seen]
theorem Ht {ι:Type} {f:ι->Goroutine}:∀ l:List ι,(∀ x ∈ l,jD P main s T' (f x))->∃ n,∀ x ∈ l,Way P main s T' n (f x)
 | [],_=>⟨0,λ_ h=>by cases h⟩
 | x :: l,h=>by
   have⟨n,hn⟩:=Ht l λy hy=>h y (aF _ hy)
   have⟨m,hm⟩:=h x ah;refine ⟨max n m,λy hy=>?_⟩
   rcases aE.1 hy with rfl | hy
   ·exact λw hw=>rH (hm w hw) (Nat.le_max_right _ _)
   ·exact λw hw=>rH (hn y hy w hw) (Nat.le_max_left _ _)
theorem jD.draw {id:Nat} {l:List (List Nat)} (hm:P.follows .mixedOrders = true) (hl:AE .any ops ops.size (Array.replicate ops.size false) = l) (h:∀ r ∈ l,jD P true s T' (G (b.atR a (.inRegion ops r :: k)) cs)):jD P true s T' (G (b.atR a (.code (.region id ops true) :: k)) cs):=by
 have⟨n,hn⟩:=Ht l h;refine ⟨n + 1,λw _=>.step rfl λw1 h1=>?_⟩;refine ⟨⟨⟨_,rfl⟩,by simp⟩,hn _ ?_ _ h1⟩;rw [<- hl];simp only [Region.schedule,hm,rj,if_true];exact yG _ _ _
theorem jD.bx {t:TypeId} {x:Operand} (hk:b.kind ≠ .early) (ho:ops[i]? = some o) (hg:o.guard = none) (g9:o.op = .load t x) (hx:a.eval x = .pointer (some ⟨s.bx,0,none⟩)) (ha:∀ w,(isAgg t).run P w = .ok false w) :
 jD P true s T' (G (b.atR (a.put o.dst s.pt) (.inRegion ops rest :: k)) cs)->jD P true s T' (G (b.atR a (.inRegion ops (i :: rest) :: k)) cs):=λ⟨n,h⟩=>⟨n + 1,Way.op hk ho hg (by rw [g9]; rfl) (λw hs=>by
 have⟨_,c,e,h1,h2⟩:=hs;have hc:w.cell? ⟨s.bx,0,none⟩ = some s.pt:=by simp only [World.cell?,h1]; exact h2
 simp_all [Act.eval,execOp,Instr.loadAt,Instr.sureAddr,loadVar]) h⟩
theorem xR {g f:Nat} {t:TypeId}:∀ (vs:List Value) (i:Nat) (cur:Array Value) (w:World) (es:Array Event),w.heap[g]? = some (.cells cur t (0,0))->f + i + vs.length <= cur.size->(∀ v ∈ vs,v.oneCell' = true) ->
 ∀ ev ∈ (storeCells ⟨g,f,none⟩ vs i).events P w es,ev ∈ es \/ ∃ j:Nat,f <= j /\ ev = ⟨.cell ⟨g,j,none⟩,true,false⟩
 | [],_,_,_,_,_,_,_=>λev h=>.inl (by assumption)
 | v :: rest,i,cur,w,es,hg,hl,h1=>λev h=>by
   have hi:f + i < cur.size:=by simp at hl; omega
   have hadd:(⟨g,f,none⟩:Addr).add i = ⟨g,f + i,none⟩:=by unfold Addr.add; split <;> simp_all
   have hcell:w.cell? ⟨g,f + i,none⟩ = some cur[f + i]:=by simp [World.cell?,hg,hi]
   have hfro:w.frozen? ⟨g,f + i,none⟩ = false:=by simp [World.frozen?,hg]
   have hst:(store ((⟨g,f,none⟩:Addr).add i) v).run P w = .ok () (w.setRow g (cur.setIfInBounds (f + i) v)):=by
    rw [hadd,run_store P w _ v _ (h1 v (by simp)),hcell];simp [hfro,setCell_eq_setRow w g (f + i) cur t (0,0) v hg]
   have hev:(store ((⟨g,f,none⟩:Addr).add i) v).events P w es = es.push ⟨.cell ⟨g,f + i,none⟩,true,false⟩:=by
    rw [hadd,events_store P w es _ v _ (h1 v (by simp)),hcell];simp only [hfro,aI,cD]
    rfl
   simp only [storeCells,oL,hst,Result.evThen_ok,hev] at h
   rcases xR rest (i + 1) (cur.setIfInBounds (f + i) v) (w.setRow g (cur.setIfInBounds (f + i) v)) _ (setRow_heap w g cur _ t _ hg) (by grind) (λx hx=>h1 x (by grind)) ev h with h | h
   ·grind
   grind
theorem Ch {r l1 l2:Value} (hk:b.kind ≠ .early) (ho:ops[i]? = some o) (hg:o.guard = none) (g9:o.op = .store t x y) (IK:o.dst = none) (hx:a.eval x = .pointer (some ⟨s.sb,3,none⟩)) (hy:a.eval y = .agg #[p,q,r])
 (sz:∀ w,(sizeOf t).run P w = .ok 3 w) (h1:∀ v ∈ [p,q,r],v.oneCell' = true) {e:TypeId} (hc:w.heap[s.sb]? = some (.cells (s.c0 ++ [l0,l1,l2]).toArray e (0,0))) :
 stepG P main (G (b.atR a (.inRegion ops (i :: rest) :: k)) cs) w = .go (G (b.atR a (.inRegion ops rest :: k)) cs) { w with heap:=w.heap.setIfInBounds s.sb (.cells (s.c0 ++ [p,q,r]).toArray e (0,0)) } (seen P b.fn ((execOp a.eval o).events P w #[])) ∧
 ∀ z ∈ seen P b.fn ((execOp a.eval o).events P w #[]),∃ j:Nat,3 <= j /\ z = ⟨.cell ⟨s.sb,j,none⟩,true,false⟩:=by
 have hk':((b.atR a (.inRegion ops (i :: rest) :: k)).kind == CallKind.early) = false:=by simpa [Frame.atR] using hk
 have hfin:∀ x,(b.atR a _).finish x = b.atR (a.put o.dst x) (.inRegion ops rest :: k):=λx=>by rw [eP,ho]; rfl
 have hw:Region.wanted o (yielded ops a.tmps) = true:=by simp [Region.wanted,hg]
 have hr:=run_storeCells_at P s.sb 3 e _ 0 _ w hc (by simp [aC.c0]) h1;have e1:(execOp a.eval o).run P w = .ok .skip { w with heap:=w.heap.setIfInBounds s.sb (.cells (s.c0 ++ [p,q,r]).toArray e (0,0)) } /\ ∀ z ∈ (execOp a.eval o).events P w #[],∃ j:Nat,3 <= j /\ z = ⟨.cell ⟨s.sb,j,none⟩,true,false⟩:=by
  have hmod:w.setRow s.sb (List.take (3 + 0) (s.c0 ++ [l0,l1,l2]).toArray.toList ++ [p,q,r] ++ List.drop (3 + 0 + [p,q,r].length) (s.c0 ++ [l0,l1,l2]).toArray.toList).toArray = { w with heap:=w.heap.setIfInBounds s.sb (.cells (s.c0 ++ [p,q,r]).toArray e (0,0)) }:=by
   simp only [World.setRow,World.mk.injEq,mW];apply ik;intro j;rw [Array.getElem?_modify,ll]
   by_cases hj:s.sb = j
   ·subst hj;have⟨hl,he⟩:=bP.1 hc;simp [hc,hl,he,aC.c0]
   ·simp [hj]
  generalize Act.eval a = ρ at hx hy
  unfold execOp;rw [g9];dsimp only;rw [hx,hy];constructor
  ·rw [ay];have:(Instr.storeAt t (.pointer (some ⟨s.sb,3,none⟩)) (.agg #[p,q,r])).run P w = .ok () { w with heap:=w.heap.setIfInBounds s.sb (.cells (s.c0 ++ [p,q,r]).toArray e (0,0)) }:=by
    show (storeVar t ⟨s.sb,3,none⟩ (.agg #[p,q,r])).run P w = _;simp only [storeVar,ay,sz,aj];rw [if_neg (by simp [Value.cells])];exact hr.trans (aL _ hmod)
   rw [this]
   rfl
  ·intro z hz;rw [oL] at hz;have h2:(Instr.storeAt t (.pointer (some ⟨s.sb,3,none⟩)) (.agg #[p,q,r])).events P w #[] = (storeCells ⟨s.sb,3,none⟩ [p,q,r] 0).events P w #[]:=by
    show (storeVar t ⟨s.sb,3,none⟩ (.agg #[p,q,r])).events P w #[] = _;simp only [storeVar,oL,sz,Result.evThen_ok,events_sizeOf];rw [if_neg (by simp [Value.cells])]
    rfl
   have h3:z ∈ (storeCells ⟨s.sb,3,none⟩ [p,q,r] 0).events P w #[]:=by
    rw [<- h2];revert hz;cases (Instr.storeAt t (.pointer (some ⟨s.sb,3,none⟩)) (.agg #[p,q,r])).run P w <;> intro hz <;> exact hz
   rcases xR [p,q,r] 0 _ w #[] hc (by simp [aC.c0]) h1 z h3 with h | h
   ·simp at h
   ·exact h
 refine ⟨?_,λz hz=>e1.2 z (oU hz)⟩;have hp:a.put o.dst undef = a:=by rw [IK]; rfl
 rw [mO w ho hw (.inl (by rw [g9]; rfl)),show G (b.atR a (.inRegion ops rest :: k)) cs = G ((b.atR a (.inRegion ops (i :: rest) :: k)).finish undef) cs by rw [hfin undef,hp]];unfold stepG.apply;simp only [if_true,pq,e1.1,hk',aI,cD]
 rfl
end
section
variable [av] {k:Nat} {keep:Nat->Prop} {z:MZ} {v0:World}
def MZ.set (z:MZ) (k:Nat) (L:List Value):MZ:={ z with L:=λj=>if j = k then L else z.L j }
theorem Og {a:Nat × aC} (h:FP Wg keep z v0 v) (hk:z.al[k]? = some a):FP Wg keep (z.set k L) v0 (dU v a.2.sb (lr a.2 L)):=by
 have ho:z.own Wg _:=.inr (.inl ⟨a,ai hk,rfl⟩);have⟨o,h1,h2,h3,h5⟩:=h.a.own ho;have hlt:=aG h1;have hs:=h.a.oe k a hk;have ne:∀ b o',v.heap[b]? = some o'->(∀ s L,o' ≠ lr s L)->a.2.sb ≠ b:=λb o' h6 h7 e=>by
  rw [<- e,hs] at h6;exact h7 _ _ (ak h6).symm
 refine ⟨h.kp.trans' (sJ (M:=λb=>b = a.2.sb) rfl) λi hi e=>by rw [e]; exact ⟨.inl h5,h.f _ (.inr ho)⟩,⟨?_,av.loc h.a.sa λb hb=>eI λe=>h.a.iL ho h.a.sa (e ▸ hb),h.a.pm,?_,h.a.ne,λj a' hj=>?_,h.a.sep,h.a.low⟩,h.f⟩
 ·show DU (dU v a.2.sb (lr a.2 L)) z.al z.G;have hg:=h.a.gm;revert hg;cases z.al with
  | nil=>exact id
  | cons a0 r =>
    intro hg;exact ⟨hg.1,(eI (ne _ _ hg.2 λs L e=>by have:=(bF e).2; trivial)).trans hg.2⟩
 ·exact (eI (ne _ _ h.a.wg λs L e=>by have:=(bF e).2; trivial)).trans h.a.wg
 ·show (dU v a.2.sb (lr a.2 L)).heap[a'.2.sb]? = some (lr a'.2 (if j = k then L else z.L j))
  by_cases e:j = k
  ·subst e;have hj':z.al[j]? = some a':=hj;rw [hk] at hj'; cases hj';rw [if_pos rfl]; exact eJ hlt
  ·rw [if_neg e,eI λe2=>e (h.a.sep j k a' a hj hk e2.symm)];exact h.a.oe j a' hj
end
section
variable [Payload] [av] {ty:TypeId} {g g1 g2 child:Goroutine} {S:Goroutine->World->Prop} {G:Gh} {k:Nat} {Lv:List Value} {z z0:Value}
theorem Oo.of (h1:DU v al G) (h2:al.length + r + 1 = av.n) (h3:v.heap[Wg]? = some (gh [0,r,2])) (h4:av.SA G F v) (h5:∀ b,F b->fq b) (h6:Made F s Lv v) (h7:g1.status = .running) (h8:child.status = .running) (h9:stepG P true g w = .spawn g1 child w #[])
 (ha:∀ u,U6 v F s G u->eB (Kc P (said false) al.length s) P false fq 0 (QP P ty Wg said al.length s) child u)
 (hb:jD P true s (λg=>∃ g3 z',J0 P true #[rcase s.cs z'] (.recv false) g3 g /\ ∀ b v0 G' F' v',said b v0->av.St al.length v0 G G'->av.SA G' F' v'->Sw F F' v v'->S (Go.Conc.served g3 v0) (qN (dU (vC v' s Lv) Wg (gh (qR r))) (al ++ [(if b then 0 else 1,s)]) G')) g1):(XM P ty Wg said).kind true g v w S :=
 λ_=>let ⟨m,hm⟩:=hb; .inr (.inr (.inl ⟨rfl,al,G,s,r,Lv,F,g1,child,m,h1,h2,h3,h4,h5,h6,h7,h8,h9,ha,hm⟩))
theorem YM.of (h1:DU v al G) (h2:al[k]? = some (1,s)) (h3:v.heap[Wg]? = some (gh l)) (ZV:jr l = 0) (h4:av.SA G F v) (h5:∀ b,F b->fq b) (h6:J0 P true #[scase s.ct z z0] .send g2 g)
 (hb:jD P true s (λg=>∃ g3 z',J0 P true #[rcase s.cs z'] (.recv false) g3 g /\ ∀ b v0 G' F' v',said b v0->av.St k v0 G G'->av.SA G' F' v'->Sw F F' v v'->S (Go.Conc.served g3 v0) (qN v' (al.set k (if b then 0 else 1,s)) G')) (Go.Conc.served g2 undef)):(XM P ty Wg said).kind true g v w S :=
 λ_=>let ⟨m,hm⟩:=hb; .inr (.inl ⟨rfl,al,G,k,s,F,g2,z,z0,m,h1,h2,⟨l,h3,ZV⟩,h4,h5,h6,hm⟩)
def JW.of {g':Goroutine} {es:Array Event} (h1:v.heap[s.sb]? = some (lr s L)) (h2:L'.length = L.length) (h3:g'.status = .running) (h4:∀ e:TypeId,w.heap[s.sb]? = some (.cells (s.c0 ++ L).toArray e (0,0))->stepG P true g w = .go g' { w with heap:=w.heap.setIfInBounds s.sb (.cells (s.c0 ++ L').toArray e (0,0)) } es)
    (h5:∀ x ∈ es,∃ i:Nat,3 <= i /\ x = ⟨.cell ⟨s.sb,i,none⟩,true,false⟩) (h6:S g' (dU v s.sb (lr s L'))):(XM P ty Wg said).kind true g v w S :=
 λ_=>.inr (.inr (.inr (.inr (.inl ⟨rfl,s,L,L',g',es,h1,h2,h3,h4,h5,h6⟩))))
end
section
variable [Payload] [av] {ty:TypeId} {S:Goroutine->World->Prop}
theorem JW.store {a:Act} {r l1 l2:Value} (hk:b.kind ≠ .early) (ho:ops[i]? = some o) (hg:o.guard = none) (g9:o.op = .store t x y) (IK:o.dst = none)
 (hx:a.eval x = .pointer (some ⟨s.sb,3,none⟩)) (hy:a.eval y = .agg #[p,q,r]) (sz:(P.info? t).map (·.size) = some 3) (h1:∀ v ∈ [p,q,r],v.oneCell' = true) (hc:v.heap[s.sb]? = some (lr s [l0,l1,l2])) (h6:S (G (b.atR a (.inRegion ops rest :: k)) cs) (dU v s.sb (lr s [p,q,r]))) :
 (XM P ty Wg said).kind true (G (b.atR a (.inRegion ops (i :: rest) :: k)) cs) v w S:=by
 have⟨inf,hi,hz⟩:=cd.1 sz;have hs:∀ w,(sizeOf t).run P w = .ok 3 w:=λw=>by simp [sizeOf,typeInfo,hi,hz]
 by_cases he:∃ e:TypeId,w.heap[s.sb]? = some (.cells (s.c0 ++ [l0,l1,l2]).toArray e (0,0))
 ·have⟨e,he⟩:=he;exact JW.of (L':=[p,q,r]) hc rfl rfl (λe' he'=>(Ch hk ho hg g9 IK hx hy hs h1 he').1) (Ch (main:=true) (k:=k) (cs:=cs) (rest:=rest) hk ho hg g9 IK hx hy hs h1 he).2 h6
 ·exact JW.of (L':=[p,q,r]) (es:=#[]) hc rfl rfl (λe' he'=>absurd ⟨e',he'⟩ he) (by simp) h6
end
open Go.RowKit Go.Conc.Lib Go.ConcR.Gen Go.ConcN.Gen
section
variable [Payload] [av] {L:WgLink} {pm:Nat->Prop} {fr:Nat} {T:Goroutine->World->Prop} {B:World->Prop} {b₀:Frame} {a₀:Act} {CH:Array Oper} {i₀:Nat} {AU:List Nat} {k₀:List Item}
theorem aki (H:WgLib P L) (hB:∀ v v1,B v->df v v1->B v1) (yK:∀ v l l1,v.heap[Wg]? = some (gh l)->(l1 = l \/ l1 ≠ [])->B v->B (dU v Wg (gh l1)))
 (hT:TQ P L.tWg Wg said pm fr T B [0,r,2] (G (b₀.at (a₀.put ((CH[i₀]?).bind (·.dst)) (.tuple #[])) (.inRegion CH AU :: k₀)) cs)) :
 TQ P L.tWg Wg said pm fr T B [0,r,5] (G ((base L.add).at ⟨#[.pointer (some ⟨Wg,0,none⟩),.int .i64 1,undef,undef,undef,undef,undef,undef,undef,undef,undef,undef,undef,undef,undef,undef,undef,undef,undef,undef,undef,undef,undef,undef,undef,undef,undef,undef,undef,undef,undef,undef,undef,undef,undef,undef,undef,undef,undef,undef,undef,undef,undef,undef,undef,undef,undef,undef,undef,undef,undef,undef,undef,undef,undef,undef,undef,undef,undef,undef,undef,undef,undef,undef,undef,undef,undef,undef,undef,undef,undef,undef,undef,undef,undef,undef,undef,undef,undef,undef,undef,undef,undef,undef,undef,undef,undef,undef,undef,undef,undef,undef,undef,undef,undef,undef,undef,undef,undef,undef,undef,undef,undef,undef,undef,undef,undef,undef,undef,undef,undef,undef,undef,undef,undef,undef,undef],[]⟩ [.code (body_add L)]) (b₀.at a₀ (.inRegion CH (i₀ :: AU) :: k₀) :: cs)):=by
 lib_facts
 simp only [body_add,addFn,dM];refine TQ.wo hB yK 12 λw hF=>?_
 u_c aH lv hF
 u_cond true lv hF
 u_c aH lv hF
 u_c aH lv hF
 u_reg lv hF
 u_op lv hF
 u_op lv hF
 u_c au lv hF
 u_cond false lv hF
 u_c eO lv hF
 u_c aH lv hF
 u_reg lv hF
 refine dA (λw₁ h₁=>.inl ⟨rfl,λ_=>⟨_,_,_,_,stepG_mark0 _ (by simp) rfl rfl (by k_ne) rfl H.f_disable (x_disable_n L) (x_disable_b L) (x_disable_x L) (x_disable_f L),.Jj,TQ.wo hB yK 40 λw hF=>?_⟩⟩)
 walk_nrm
 u_c au lv hF
 u_reg lv hF
 u_defer lv hF
 u_c au lv hF
 u_c aH lv hF
 u_reg lv hF
 u_op lv hF
 u_c au lv hF
 u_c aH lv hF
 u_c aH lv hF
 u_reg lv hF
 u_bub lv hF
 u_c au lv hF
 u_cond false lv hF
 u_c eO lv hF
 u_c aH lv hF
 u_reg lv hF
 u_op lv hF
 u_op lv hF
 u_op lv hF
 u_op lv hF
 u_op lv hF
 u_op lv hF
 u_call H.f_uAdd (nm_uAdd L) uAddFn lv hF
 u_c aH lv hF
 u_reg lv hF
 u_op lv hF
 u_c au lv hF
 u_c aH lv hF
 u_reg lv hF
 u_op lv hF
 u_op lv hF
 u_op lv hF
 u_op lv hF
 refine dA (λw₂ h₂=>.inl ⟨rfl,λhf=>?_⟩);have⟨v,hv,hw⟩:=hf.add r rfl;clear hf h₂ hF
 rcases ji v with rfl | hvp
 ·have hr:=Rel.add (n:=av.n) (r:=r) hw;replace hw:WgAt L.tWg Wg w₂ 0 0:=by simpa using hw
  have z:(((0:Nat):Int) + 1) * KK = KK:=by simp
  rw [z] at hr;have e0:IntKind.u64.wrap (0 + 4294967296) = KK:=by decide
  refine ⟨_,_,_,_,(stepG_add_atomic rfl rfl (by k_ne) rfl H.f_addU64 (x_addU64_n L) (x_addU64_b L) (x_addU64_x L) .u64 (x_addU64_f L) rfl rfl hw.cellSt (hw.thaw 0)).trans (by rw [e0]; rfl),hr,TQ.wo hB yK 110 λw hF=>?_⟩;clear hw hr;simp only [KK]
  walk_nrm
  u_op lv hF
  u_c au lv hF
  u_c iq lv hF
  u_leave1 H.f_uAdd lv hF
  u_op lv hF
  u_c au lv hF
  u_c aH lv hF
  u_c aH lv hF
  u_reg lv hF
  u_op lv hF
  u_op lv hF
  u_op lv hF
  u_op lv hF
  u_skip lv hF
  u_skip lv hF
  u_op lv hF
  u_c au lv hF
  u_cond false lv hF
  u_c eO lv hF
  u_c aH lv hF
  u_reg lv hF
  u_op lv hF
  u_op lv hF
  u_op lv hF
  u_op lv hF
  u_c au lv hF
  u_c aH lv hF
  u_reg lv hF
  u_op lv hF
  u_op lv hF
  u_op lv hF
  u_op lv hF
  u_c au lv hF
  u_c aH lv hF
  u_c aH lv hF
  u_reg lv hF
  u_op lv hF
  u_op lv hF
  u_op lv hF
  u_op lv hF
  u_op lv hF
  u_op lv hF
  u_op lv hF
  u_op lv hF
  u_op lv hF
  u_op lv hF
  u_c au lv hF
  u_cond true lv hF
  u_reg lv hF
  u_op lv hF
  u_op lv hF
  u_op lv hF
  u_conv H.underlying_tPU32 H.room_tU32 (WgLive.cell1 hF).choose_spec lv hF
  refine dA (λw₁ h₁=>.inl ⟨rfl,λ_=>⟨_,_,_,_,stepG_markAt .read (by simp) rfl rfl (by k_ne) rfl H.f_raceRead (x_raceRead_n L) (x_raceRead_b L) (x_raceRead_x L) (x_raceRead_f L) (ad:=⟨Wg,1,none⟩) (by simp [Act.eval]),.said (.inl rfl),TQ.wo hB yK 110 λw hF=>?_⟩⟩)
  walk_nrm
  u_c au lv hF
  u_c aH lv hF
  u_c aH lv hF
  u_reg lv hF
  u_op lv hF
  u_op lv hF
  u_c au lv hF
  u_cond false lv hF
  u_c eO lv hF
  u_c aH lv hF
  u_c aH lv hF
  u_reg lv hF
  u_op lv hF
  u_op lv hF
  u_op lv hF
  u_skip lv hF
  u_skip lv hF
  u_op lv hF
  u_op lv hF
  u_skip lv hF
  u_skip lv hF
  u_skip lv hF
  u_skip lv hF
  u_op lv hF
  u_c au lv hF
  u_cond false lv hF
  u_c eO lv hF
  u_c aH lv hF
  u_c aH lv hF
  u_reg lv hF
  u_op lv hF
  u_op lv hF
  u_op lv hF
  u_skip lv hF
  u_skip lv hF
  u_op lv hF
  u_c au lv hF
  u_cond true lv hF
  u_c iq lv hF
  refine dA (λw₃ h₃=>.inl ⟨rfl,λ_=>⟨[0,r,2],_,_,_,stepG_unwind_entry (v:=.tuple #[]) (evs:=#[mk .enable]) rfl H.f_enable (x_enable_n L) (x_enable_b L) (x_enable_x L) (x_enable_f L) (by simp [Extern.Race.none_]) (by simp [mk]) (by simp [mk]),.en,TQ.wo hB yK 4 λw hF=>?_⟩⟩)
  u_leave0 H.f_add lv hF
  exact dA (λ_ _=>.inr hT)
 ·obtain⟨V,hV⟩:∃ V:Int,V = (v:Int) + 1:=⟨_,rfl⟩;obtain⟨S,hS⟩:∃ S:Int,S = V * KK:=⟨_,rfl⟩;have hr:=Rel.add (n:=av.n) (r:=r) hw;have eS:IntKind.u64.wrap ((v:Int) * KK + 4294967296) = S:=by rw [IntKind.wrap_u64,hS,hV]; simp only [KK]; omega
  rw [<- hV,<- hS] at hr;have a1:S / 4294967296 = V:=by rw [hS]; simp only [KK]; omega
  have b1:bits .and .u64 S 2147483648 = 0:=by rw [hS,hV]; have:=st_flag (v + 1) 0 (by omega) (by omega); simpa [KK] using this
  have b2:bits .and .u64 S 2147483647 = 0:=by rw [hS,hV]; have:=st_waiters (v + 1) 0 (by omega) (by omega); simpa [KK] using this
  have c1:IntKind.i32.wrap V = V:=by rw [IntKind.wrap_i32]; omega
  have hV1:1 < V:=by omega
  have hV2:V < 2147483648:=by omega
  have q1:(V == 1) = false:=by simp; omega
  have q2:decide (V = 1) = false:=by omega
  have q3:decide (V < 0) = false:=by grind
  have q4:decide (0 < V) = true:=by grind
  refine ⟨[0,r,3],_,_,_,(stepG_add_atomic rfl rfl (by k_ne) rfl H.f_addU64 (x_addU64_n L) (x_addU64_b L) (x_addU64_x L) .u64 (x_addU64_f L) rfl rfl hw.cellSt (hw.thaw 0)).trans (by rw [eS]; rfl),hr,TQ.wo hB yK 110 λw hF=>?_⟩;clear hw hS hV eS hr
  walk_nrm
  u_op lv hF
  u_c au lv hF
  u_c iq lv hF
  u_leave1 H.f_uAdd lv hF
  u_op lv hF
  u_c au lv hF
  u_c aH lv hF
  u_c aH lv hF
  u_reg lv hF
  u_op lv hF
  u_op lv hF
  u_op lv hF
  u_op lv hF
  u_skip lv hF
  u_skip lv hF
  u_op lv hF
  u_c au lv hF
  u_cnd false lv hF
  u_c eO lv hF
  u_c aH lv hF
  u_reg lv hF
  u_op lv hF
  u_op lv hF
  u_op lv hF
  u_op lv hF
  u_c au lv hF
  u_c aH lv hF
  u_reg lv hF
  u_op lv hF
  u_op lv hF
  u_op lv hF
  u_op lv hF
  u_c au lv hF
  u_c aH lv hF
  u_c aH lv hF
  u_reg lv hF
  u_op lv hF
  u_op lv hF
  u_op lv hF
  u_op lv hF
  u_op lv hF
  u_op lv hF
  u_op lv hF
  u_op lv hF
  u_op lv hF
  u_op lv hF
  u_c au lv hF
  u_cnd false lv hF
  u_c eO lv hF
  u_c aH lv hF
  u_c aH lv hF
  u_reg lv hF
  u_op lv hF
  u_op lv hF
  u_c au lv hF
  u_cnd false lv hF
  u_c eO lv hF
  u_c aH lv hF
  u_c aH lv hF
  u_reg lv hF
  u_op lv hF
  u_op lv hF
  u_op lv hF
  u_skip lv hF
  u_skip lv hF
  u_op lv hF
  u_op lv hF
  u_skip lv hF
  u_skip lv hF
  u_skip lv hF
  u_skip lv hF
  u_op lv hF
  u_c au lv hF
  u_cnd false lv hF
  u_c eO lv hF
  u_c aH lv hF
  u_c aH lv hF
  u_reg lv hF
  u_op lv hF
  u_op lv hF
  u_op lv hF
  u_skip lv hF
  u_skip lv hF
  u_op lv hF
  u_c au lv hF
  u_cnd true lv hF
  u_c iq lv hF
  refine dA (λw₃ h₃=>.inl ⟨rfl,λ_=>⟨[0,r,2],_,_,_,stepG_unwind_entry (v:=.tuple #[]) (evs:=#[mk .enable]) rfl H.f_enable (x_enable_n L) (x_enable_b L) (x_enable_x L) (x_enable_f L) (by simp [Extern.Race.none_]) (by simp [mk]) (by simp [mk]),.en,TQ.wo hB yK 4 λw hF=>?_⟩⟩)
  u_leave0 H.f_add lv hF
  exact dA (λ_ _=>.inr hT)
end
section
variable [av] {n:Nat} {keep:Nat->Prop} {z:MZ} {v0 v1:World}
theorem acH (h:FP Wg keep z v0 v) (g:bf fX v v1):FP Wg keep z v0 v1 :=
 ⟨h.kp.trans' g λ_ _ h=>h.elim,h.a.st λb hb=>g.block b (by
  rcases hb with hb | hb
  ·exact (av.iL h.a.sa hb).2
  ·have⟨o,h1,_⟩:=h.a.own hb; grind) id,h.f⟩
theorem JM {l1:List Nat} (h:FP Wg keep { z with l:=l } v0 v) (hl:l1 ≠ []):FP Wg keep { z with l:=l1 } v0 (dU v Wg (gh l1)):=by
 have ho:z.own Wg Wg:=.inl rfl;have hW:v.heap[Wg]? = some (gh l):=h.a.wg;have ne:∀ b o',v.heap[b]? = some o'->o' ≠ gh l->Wg ≠ b:=λb o' h6 h7 e=>by
  rw [<- e,hW] at h6;exact h7 (ak h6).symm
 refine ⟨h.kp.trans' (sJ (M:=λb=>b = Wg) rfl) λi hi e=>by rw [e]; exact ⟨.inl h.a.low.1,h.f _ (.inr ho)⟩,⟨?_,av.loc h.a.sa λb hb=>eI λe=>h.a.iL (b:=Wg) ho h.a.sa (e ▸ hb),h.a.pm,eJ (aG hW),hl,λk a hk=>?_,h.a.sep,h.a.low⟩,h.f⟩
 ·show DU (dU v Wg (gh l1)) z.al z.G;have hg:DU v z.al z.G:=h.a.gm;revert hg;cases z.al with
  | nil=>exact id
  | cons a0 r=>exact λhg=>⟨hg.1,(eI (ne _ _ hg.2 yp)).trans hg.2⟩
 ·refine (eI (ne _ _ (h.a.oe k a hk) λe=>?_)).trans (h.a.oe k a hk);have:=(bF e).2
  trivial
theorem DG (h:FP Wg keep z v0 v):∀ b,(HM Wg z).c9 b->fq b /\ ¬ keep b /\ b < v.heap.size:=λb hb=>⟨by
 rcases hb with hb | hb
 ·exact h.a.pm b hb
 ·have⟨_,_,_,_,h5⟩:=h.a.own hb; exact .inl h5,h.f b hb,by
 rcases hb with hb | hb
 ·exact (av.iL h.a.sa hb).2
 ·have⟨o,h1,_⟩:=h.a.own hb; grind⟩
theorem Tl {G:Gh} {u:World} (H:zS s Wg al u):(kZ u s L Wg r al n G).heap[s.bx]? = some (Ka s):=by
 rw [j6 H,if_neg λe=>?_,if_neg (H.nW _ (by simp [aC.bT])),if_pos rfl]
 by_cases h:al = []
 ·subst h; exact H.nd.2.2.2.2.2.2 e
 ·exact H.fs h (by rw [<- e]; simp [aC.bT])
theorem MZ.Wp {G:Gh}:(z.app n s G F l L).set z.al.length L' = z.app n s G F l L':=by
 simp_all [MZ.set,MZ.app,MZ.mk.injEq]
structure RnE (Wg:Nat) (keep:Nat->Prop) (z:MZ) (s:aC) (v0 v:World):Prop where
 a:FP Wg keep z v0 v
 bx:v.heap[s.bx]? = some (Ka s)
def yU (h:RnE Wg keep z s v0 v) (g:df v v1):RnE Wg keep z s v0 v1:=⟨zM h.a g,(g.old _ (aG h.bx)).trans h.bx⟩
def Bu (sb ct ce cs:Nat) (L:List Value):du where
 c9:=λb=>b ∈ [sb,ct,ce,cs]
 A:=λv=>(∃ e:TypeId,v.heap[sb]? = some (.cells ([Value.chan (some ct),Value.chan (some ce),Value.chan (some cs)] ++ L).toArray e (0,0))) /\ ∀ c ∈ [ct,ce,cs],v.heap[c]? = some (.chan 0 #[] false 0 0 false)
 st:=λw w' h ⟨⟨e,h1⟩,h2⟩=>⟨⟨e,(h _ (by simp)).trans h1⟩,λc hc=>(h c (by grind)).trans (h2 c hc)⟩
instance {sb ct ce cs:Nat} {L:List Value}:pd (Bu sb ct ce cs L):=⟨λw ⟨⟨e,h1⟩,h2⟩ b hb ho=>by
 rcases aE.1 hb with rfl | hb
 ·rw [h1] at ho; cases ho
 ·rw [h2 b hb] at ho; cases ho⟩
structure RnD (Wg:Nat) (keep:Nat->Prop) (z:MZ) (sb ct ce cs:Nat) (L:List Value) (v0 v:World):Prop where
 Qn:∃ l,FP Wg keep { z with l:=l } v0 v
 nw:(Bu sb ct ce cs L).A v
variable {sb ct ce cs:Nat}
theorem yg (h:RnD Wg keep z sb ct ce cs L v0 v) (g:bf fX v v1):RnD Wg keep z sb ct ce cs L v0 v1:=by
 have⟨l,h1⟩:=h.Qn;have⟨⟨e,h2⟩,h3⟩:=h.nw;refine ⟨⟨l,acH h1 g⟩,(Bu sb ct ce cs L).st v v1 (λb hb=>g.block b ?_ id) h.nw⟩
 rcases aE.1 hb with rfl | hb
 ·grind
 grind
end
end Go.Gx
namespace Go.Proofs.YtgnmiaonbadbnaaGreat
open Go Go.Gx Go.Conc Go.ConcN Go.RowKit Go.Conc.Lib Go.ConcR.Gen Go.ConcN.Gen
open Go.ConcR (KK wgBlock WgAt stA smA rd wr mk Payload DC0 Bk g_of_ofEvents)
variable {Wg sb ct ce cs bx bt ba:Nat} {keep:Nat->Prop} {z:MZ} {L:List Value} {fv:Value} {v0 v v1:World}
theorem T3 (k:CallKind) (p f m:Value):Frame.enter Tryz.prog 48 #[p,f,m] k = (oC 48 k).atR ⟨#[p,f,m,undef,undef,undef,undef,undef,undef,undef,undef,undef,undef,undef,undef,undef,undef],[]⟩ [.code (Tryz.f48.body.getD .skip)]:=by
 rfl
theorem PV (Wg:Nat):Frame.enter Tryz.prog 95 #[ptr Wg,.int .i64 1] .normal = (base Vi.add).at ⟨#[ptr Wg,.int .i64 1,undef,undef,undef,undef,undef,undef,undef,undef,undef,undef,undef,undef,undef,undef,undef,undef,undef,undef,undef,undef,undef,undef,undef,undef,undef,undef,undef,undef,undef,undef,undef,undef,undef,undef,undef,undef,undef,undef,undef,undef,undef,undef,undef,undef,undef,undef,undef,undef,undef,undef,undef,undef,undef,undef,undef,undef,undef,undef,undef,undef,undef,undef,undef,undef,undef,undef,undef,undef,undef,undef,undef,undef,undef,undef,undef,undef,undef,undef,undef,undef,undef,undef,undef,undef,undef,undef,undef,undef,undef,undef,undef,undef,undef,undef,undef,undef,undef,undef,undef,undef,undef,undef,undef,undef,undef,undef,undef,undef,undef,undef,undef,undef,undef,undef,undef],[]⟩ [.code (body_add Vi)]:=(enter_at (fn:=addFn Vi) (c:=body_add Vi) _ wgH.f_add rfl).trans (by walk_nrmf addFn)
def LW:dV Tryz.prog 95:=dV.mk' zk
structure RnX [av] (Wg:Nat) (keep:Nat->Prop) (z:MZ) (sb ct ce cs:Nat) (L:List Value) (fv:Value) (bx bt ba:Nat) (v0 v:World):Prop extends RnD Wg keep z sb ct ce cs L v0 v where
 x:v.heap[bx]? = some (.cells #[ptr sb] 147)
 t:v.heap[bt]? = some (.cells #[fv] 64)
 a:v.heap[ba]? = some (.cells #[ptr Wg] 158)
theorem aaT [av] (h:RnX Wg keep z sb ct ce cs L fv bx bt ba v0 v) (g:bf fX v v1):RnX Wg keep z sb ct ce cs L fv bx bt ba v0 v1 :=
 ⟨yg h.toRnD g,(g.block _ (aG h.x) id).trans h.x,(g.block _ (aG h.t) id).trans h.t,(g.block _ (aG h.a) id).trans h.a⟩
theorem uk [av] (h:RnX Wg keep z sb ct ce cs L fv bx bt ba v0 v) (g:df v v1):RnX Wg keep z sb ct ce cs L fv bx bt ba v0 v1:=aaT h (.eA g)
theorem R3 [av] {l l1:List Nat} (hv:v.heap[Wg]? = some (gh l)) (hl:l1 = l \/ l1 ≠ []) (h:RnX Wg keep z sb ct ce cs L fv bx bt ba v0 v):RnX Wg keep z sb ct ce cs L fv bx bt ba v0 (dU v Wg (gh l1)):=by
 have⟨l2,h2⟩:=h.Qn;obtain rfl:=sM (show v.heap[Wg]? = some (gh l2) from h2.a.wg) hv;have hne:l1 ≠ []:=hl.elim (λe=>by rw [e]; exact h2.a.ne) id;have ne:∀ b o,v.heap[b]? = some o->u9 o = false->Wg ≠ b:=λb o h1 h3 e=>by
  rw [<- e,hv] at h1;rw [<- ak h1,jH (LB _)] at h3; cases h3
 have⟨⟨e,n1⟩,n2⟩:=h.nw;exact ⟨⟨⟨l1,JM h2 hne⟩,⟨⟨e,(eI (ne _ _ n1 rfl)).trans n1⟩,λc hc=>(eI (ne _ _ (n2 c hc) rfl)).trans (n2 c hc)⟩⟩,(eI (ne _ _ h.x rfl)).trans h.x,(eI (ne _ _ h.t rfl)).trans h.t,(eI (ne _ _ h.a rfl)).trans h.a⟩
variable [av] {said:Bool->Value->Prop} {r:Nat} {l0 l1 l2:Value} {f:FuncId} {cap:Array Value} {V0:World}
def Qv (said:Bool->Value->Prop) (r:Nat) (z:MZ) (sb ct ce cs:Nat) (z':MZ):Prop:=∃ (b:Bool) (op word:Value) (bx:Nat) (G':Gh) (F':Nat->Prop),z' = z.app (if b then 0 else 1) ⟨sb,ct,ce,cs,bx⟩ G' F' (qR r) [op,word,.bool b] /\ said b (.agg #[op,word,.bool b]) /\ av.St z.al.length (.agg #[op,word,.bool b]) z.G G'
def wP (said:Bool->Value->Prop) (V0:World) (k:Nat) (f:FuncId) (cap:Array Value):Prop:=∀ (s:aC) (zt:TZ) (kp:Nat->Prop) (u:World),av.N0 <= s.sb->zt.1 = zt.2.1->av.R k av.G0 zt.1->bf fq V0 u->At (HT k s zt) u->lN kp (HT k s zt) u ->
 iQ (Kc Tryz.prog (said false) k s) 0 Tryz.prog f (#[.iface 147 (ptr s.sb)] ++ cap) u (qy fq kp u (λz:TZ=>av.St k (.agg #[.int .u8 0,.int .i64 0,.bool true]) z.1 z.2.1) (λ_=>.tuple #[]) (HT k s))
theorem aaR (hn:z.al.length + r + 1 = av.n) (hz:z.l = [0,r,5]) (qd:∀ b v,said b v->∃ op word,v = .agg #[op,word,.bool b] /\ op.oneCell' = true /\ word.oneCell' = true) (QH:said true (.agg #[.int .u8 0,.int .i64 0,.bool true])) (om:dV Tryz.prog f) (hR:av.R z.al.length av.G0 z.G) (hTh:wP said V0 z.al.length f cap)
 (v:World) (hN:av.N0 <= v.heap.size) (hV:bf fq V0 v) (hA:At (Sep (HM Wg z) (Bu sb ct ce cs [l0,l1,l2])) v) (hk:lN keep (Sep (HM Wg z) (Bu sb ct ce cs [l0,l1,l2])) v) (Py:∀ b ∈ [sb,ct,ce,cs],av.N0 <= b) (hne:ct ≠ ce /\ ct ≠ cs /\ ce ≠ cs) :
 iQ (XM Tryz.prog 143 Wg said) 0 Tryz.prog 48 #[ptr sb,.func (.func f) #[] cap,ptr Wg] v (qy fq keep v (Qv said r z sb ct ce cs) (λ_=>.tuple #[]) (HM Wg)):=λmain kind cs0 NL=>by
 cases main with
 | false=>exact mnV rfl
 | true =>
 have hb:(oC 48 kind).kind ≠ .early:=NL;have hT:=YL.closed (P:=Tryz.prog) (pm:=tI v (qy fq keep v (Qv said r z sb ct ce cs) (λ_=>.tuple #[]) (HM Wg)).M) (f:=0) (kind:=kind) (cs:=cs0) (R:=λval v'=>(qy fq keep v (Qv said r z sb ct ce cs) (λ_=>.tuple #[]) (HM Wg)).Q (.returned val) v');have hD:RnD Wg keep z sb ct ce cs [l0,l1,l2] v v:=⟨⟨z.l,.refl _ _,hA.1.1,λb hb hk'=>(hk b hk').2.2 (.inl hb)⟩,hA.1.2.1⟩;have abP:=hA.1.2.2;have hFl:∀ b,z.F b->b < v.heap.size:=λb hb=>(av.iL hA.1.1.sa hb).2
 have hsz:∀ b ∈ [sb,ct,ce,cs],b < v.heap.size:=λb hb=>hA.2 b (.inr hb)
 have hGv:bf fX v v:=.refl _ _;rw [T3];simp only [Tryz.f48,dM]
 repeat (refine .ctl hT rfl (λw=>mC w) ?_)
 refine m38 ?_;simp only [bK,aS,bw,Nat.reduceAdd,a9,List.range,List.range.loop];refine R8 hb rfl rfl rfl λv1 h1 n1=>?_
 replace hGv:=(hGv.trans (.eA h1));replace hD:=yg hD (.eA h1);obtain⟨bx,hbx⟩:∃ bx,v1.heap.size = bx:=⟨_,rfl⟩;have kx:({ v1 with heap:=v1.heap.push (.cells #[ptr sb] 147) }:World).heap[bx]? = some (.cells #[ptr sb] 147):=by simp [<- hbx]
 have hxv:v.heap.size <= bx:=by rw [<- hbx]; exact hGv.size
 replace hGv:=hGv.trans (.alloc _ v1 (.cells #[ptr sb] 147));replace hD:=yg hD (.alloc _ v1 (.cells #[ptr sb] 147));rw [hbx];simp only [Act.eval]
 walk_nrm
 rw [show (ptr sb).cells = #[ptr sb] from rfl]
 generalize ({ v1 with heap:=v1.heap.push (.cells #[ptr sb] 147) }:World) = v2 at *
 clear h1 n1 hbx;refine R8 hb rfl rfl rfl λv1 h1 n1=>?_
 replace hGv:=(hGv.trans (.eA h1));replace hD:=yg hD (.eA h1);replace kx:=(h1.old _ (aG kx)).trans kx;obtain⟨bt,hbt⟩:∃ bt,v1.heap.size = bt:=⟨_,rfl⟩;have hxt:bx < bt:=by rw [<- hbt]; exact aG kx
 replace kx:=((bf.alloc fX v1 (.cells #[.func (.func f) #[] cap] 64)).block _ (aG kx) id).trans kx;have kt:({ v1 with heap:=v1.heap.push (.cells #[.func (.func f) #[] cap] 64) }:World).heap[bt]? = some (.cells #[.func (.func f) #[] cap] 64):=by simp [<- hbt]
 replace hGv:=hGv.trans (.alloc _ v1 (.cells #[.func (.func f) #[] cap] 64));replace hD:=yg hD (.alloc _ v1 (.cells #[.func (.func f) #[] cap] 64));rw [hbt];simp only [Act.eval]
 walk_nrm
 rw [show (Value.func (.func f) #[] cap).cells = #[.func (.func f) #[] cap] from rfl]
 generalize ({ v1 with heap:=v1.heap.push (.cells #[.func (.func f) #[] cap] 64) }:World) = v3 at *
 clear h1 n1 hbt;refine R8 hb rfl rfl rfl λv1 h1 n1=>?_
 replace hGv:=(hGv.trans (.eA h1));replace hD:=yg hD (.eA h1);replace kx:=(h1.old _ (aG kx)).trans kx;replace kt:=(h1.old _ (aG kt)).trans kt;obtain⟨ba,hba⟩:∃ ba,v1.heap.size = ba:=⟨_,rfl⟩;have hta:bt < ba:=by rw [<- hba]; exact aG kt
 replace kx:=((bf.alloc fX v1 (.cells #[ptr Wg] 158)).block _ (aG kx) id).trans kx;replace kt:=((bf.alloc fX v1 (.cells #[ptr Wg] 158)).block _ (aG kt) id).trans kt;have ka:({ v1 with heap:=v1.heap.push (.cells #[ptr Wg] 158) }:World).heap[ba]? = some (.cells #[ptr Wg] 158):=by simp [<- hba]
 have hX:RnX Wg keep z sb ct ce cs [l0,l1,l2] (.func (.func f) #[] cap) bx bt ba v ({ v1 with heap:=v1.heap.push (.cells #[ptr Wg] 158) }:World):=⟨yg hD (.alloc _ v1 (.cells #[ptr Wg] 158)),kx,kt,ka⟩;have hW:({ v1 with heap:=v1.heap.push (.cells #[ptr Wg] 158) }:World).heap[Wg]? = some (gh [0,r,5]):=by
  have hw0:v.heap[Wg]? = some (gh z.l):=hA.1.1.wg;rw [hz] at hw0;exact ((hGv.trans (.alloc _ v1 (.cells #[ptr Wg] 158))).block _ (aG hw0) id).trans hw0
 rw [hba];simp only [Act.eval]
 walk_nrm
 rw [show (ptr Wg).cells = #[ptr Wg] from rfl]
 generalize ({ v1 with heap:=v1.heap.push (.cells #[ptr Wg] 158) }:World) = v4 at *
 clear h1 n1 hba hD kx kt ka hGv;refine m39 ?_
 repeat (refine .ctl hT rfl (λw=>mC w) ?_)
 refine m38 ?_;simp only [bK,aS,bw,Nat.reduceAdd,a9,List.range,List.range.loop];refine rV (x:=ptr Wg) hb rfl rfl rfl (λv1 h1=>?_) λv1 h1 n1=>?_
 ·have c0:v1.cell? ⟨ba,0,none⟩ = some (ptr Wg):=by simp [World.cell?,(uk hX h1).a]
  simp [execOp,Act.eval,go_sem,c0]
 replace hX:=uk hX h1;replace hW:=(h1.old _ (aG hW)).trans hW;clear h1 n1
 walk_nrm
 refine R6 (f:=95) (args:=#[ptr Wg,.int .i64 1]) hb rfl rfl rfl (λv2=>?_) λv5 h5 n5=>?_
 ·have:=kS (P:=Tryz.prog) LW (#[ptr Wg,.int .i64 1]) (pm:=tI v (qy fq keep v (Qv said r z sb ct ce cs) (λ_=>.tuple #[]) (HM Wg)).M) (fr:=0) v2
  simp_all [execOp,resolve,Deferred.ofValue,invoke,Act.eval]
 replace hX:=uk hX h5;replace hW:=(h5.old _ (aG hW)).trans hW;clear h5 n5;rw [PV];refine (aki (b₀:=oC 48 kind) wgH (B:=RnX Wg keep z sb ct ce cs [l0,l1,l2] (.func (.func f) #[] cap) bx bt ba v) (λv v1 h g=>uk h g) (λv l l1 h1 h2 h3=>R3 h1 h2 h3) ⟨rfl,λv6 ZU PE=>?_⟩).2 v5 hW hX;clear hW hX;rw [<- Frame.atR_of_none (b:=oC 48 kind) rfl]
 walk_nrm
 refine m39 ?_
 repeat (refine .ctl hT rfl (λw=>mC w) ?_)
 refine m38 ?_;simp only [bK,aS,bw,Nat.reduceAdd,a9,List.range,List.range.loop];refine R5 (x:=.func (.func 96) #[] #[ptr ba,ptr bt,ptr bx]) hb rfl rfl rfl (.pure _) (λv1 _=>by simp [execOp,Act.eval,Instr.makeFunc,ptr]) λv1 h1 n1=>?_
 replace PE:=uk PE h1;replace ZU:=(h1.old _ (aG ZU)).trans ZU;clear h1 n1
 walk_nrm
 refine .gen rfl false (λe=>by cases e) λv7 w7 m7 _=>.inr ?_
 replace PE:=uk PE m7.grow;replace ZU:=(m7.grow.old _ (aG ZU)).trans ZU;have nv7:=m7.nv;clear m7;have⟨l7,Tw⟩:=PE.Qn;obtain rfl:l7 = [0,r,2]:=sM (show v7.heap[Wg]? = some (gh l7) from Tw.a.wg) ZU;have⟨⟨e7,sc7⟩,ch7⟩:=PE.nw;have vbt:ny v7 bt:=λo ho=>by rw [PE.t] at ho; cases ho; rfl
 have vba:ny v7 ba:=λo ho=>by rw [PE.a] at ho; cases ho; rfl
 have hNb:∀ b,v.heap.size <= b->av.N0 <= b:=λb hb=>az hN hb
 have hkn:∀ b,keep b->b < v.heap.size:=λb hb=>(hk b hb).1
 have hFv:∀ b,(z.F b \/ b = bt \/ b = ba)->ny v7 b /\ b < v7.heap.size:=λb hb=>by
  rcases hb with hb | rfl | rfl
  ·exact av.iL Tw.a.sa hb
  ·exact ⟨vbt,aG PE.t⟩
  ·exact ⟨vba,aG PE.a⟩
 have hFp:∀ b,(z.F b \/ b = bt \/ b = ba)->fq b:=λb hb=>by
  rcases hb with hb | rfl | rfl
  ·exact Tw.a.pm b hb
  ·exact .inl (hNb _ (by omega))
  ·exact .inl (hNb _ (by omega))
 have hFk:∀ b,(z.F b \/ b = bt \/ b = ba)->¬ keep b:=λb hb hk'=>by
  rcases hb with hb | rfl | rfl
  ·exact Tw.f b (.inl hb) hk'
  ·have:=hkn _ hk'; omega
  ·have:=hkn _ hk'; omega
 have M:Made (λb=>z.F b \/ b = bt \/ b = ba) ⟨sb,ct,ce,cs,bx⟩ [l0,l1,l2] v7:=by
  refine ⟨⟨e7,sc7⟩,ch7 _ (by simp),ch7 _ (by simp),ch7 _ (by simp),⟨_,PE.x⟩,λb hb=>?_,hne.1,hne.2.1,hne.2.2,λe=>?_⟩
  ·simp only [aC.bT,aE,aU,dj] at hb
   by_cases h:b = bx
   ·subst h;exact ⟨hNb _ hxv,λhf=>by
     rcases hf with hf | hf | hf
     ·have:=hFl _ hf; omega
     ·omega
     ·omega⟩
   ·have hm:b ∈ [sb,ct,ce,cs]:=by simp; rcases hb with h1 | h1 | h1 | h1 | h1 <;> first | exact absurd h1 h | simp [h1]
    refine ⟨Py b hm,λhf=>?_⟩;have:=hsz b hm
    rcases hf with hf | hf | hf
    ·exact abP b (.inl hf) hm
    ·omega
    ·omega
  ·have:=hsz sb (by simp); simp only at e; omega
 have hEn:∀ (b:Bool) (G':Gh) (F':Nat->Prop) (v':World),av.SA G' F' v'->Sw (λb=>z.F b \/ b = bt \/ b = ba) F' v7 v'->RnE Wg keep (z.app (if b then 0 else 1) ⟨sb,ct,ce,cs,bx⟩ G' F' (qR r) [l0,l1,l2]) ⟨sb,ct,ce,cs,bx⟩ v (qN (dU (vC v' ⟨sb,ct,ce,cs,bx⟩ [l0,l1,l2]) Wg (gh (qR r))) (z.al ++ [(if b then 0 else 1,⟨sb,ct,ce,cs,bx⟩)]) G'):=λb G' F' v' hsa nN=>by
  refine ⟨UI (z:={ z with l:=[0,r,2] }) (λb hb=>⟨(hk b hb).1,(hk b hb).2.1,λhm=>?_⟩) Tw M hFp hFk (λb hb=>(hFv b hb).1) hsa nN,?_⟩
  ·simp only [aC.bT,aE,aU,dj] at hm
   rcases hm with hm | hm | hm | hm | hm
   ·exact (hk b hb).2.2 (.inr (by simp [hm,Bu]))
   ·exact (hk b hb).2.2 (.inr (by simp [hm,Bu]))
   ·exact (hk b hb).2.2 (.inr (by simp [hm,Bu]))
   ·exact (hk b hb).2.2 (.inr (by simp [hm,Bu]))
   ·have:=(hk b hb).1; omega
  ·have⟨H1,_⟩:=Bg.Fg (z:={ z with l:=[0,r,2] }) Tw.a M;exact Tl ⟨λb hb=>aD (H1.lt b hb) nN.size,H1.nd,H1.nW,H1.fW,H1.fs⟩
 refine Oo.of (al:=z.al) (G:=z.G) (s:=⟨sb,ct,ce,cs,bx⟩) (r:=r) (Lv:=[l0,l1,l2]) (F:=λb=>z.F b \/ b = bt \/ b = ba) (child:=born Tryz.prog (JA ba bt bx)) Tw.a.gm hn ZU (av.up Tw.a.sa (λb hb=>.inl hb) hFv) hFp M ?_ rfl (Kw hb rfl rfl rfl ?_ rfl) (λu hu=>?_) ?_
 ·rfl
 ·simp [execOp,Act.eval,go_sem,resolve,Deferred.ofValue,JA]
 ·have hB:ChB Wg z.al.length ⟨sb,ct,ce,cs,bx⟩ z.G (λb=>z.F b \/ b = bt \/ b = ba) ba bt (.func (.func f) #[] cap) u:=by
   refine ⟨⟨hu.oe,av.loc (av.up Tw.a.sa (λb hb=>.inl hb) hFv) λb hb=>hu.old b (.inr hb),hFp⟩,hu.box,?_,?_,?_⟩
   ·simp [World.cell?,hu.old ba (.inr (.inr (.inr rfl))),PE.a]
   ·simp [World.cell?,hu.old bt (.inr (.inr (.inl rfl))),PE.t]
   ·rw [hu.size]; exact az hN Tw.kp.size
  have hVu:bf fq V0 u:=(hV.trans (Tw.kp.mono λb hb=>hb.1)).trans ⟨hu.os,hu.tape,hu.output,eW hu.size.symm,λb _ hn=>hu.old b (.inl hn)⟩;exact acu om QH hB λu1 g1 n1=>hTh _ (z.G,z.G,_) _ u1 (Py sb (by simp)) rfl hR (hVu.trans' (.eA g1) λ_ _ h=>h.elim) ⟨(pW hB g1).h,λb hb=>by
   rcases hb with rfl | hb
   ·exact aG (pW hB g1).h.1
   ·exact (av.iL (pW hB g1).h.2.1 hb).2⟩ (Jw (pW hB g1))
 refine m239 ?_;refine jD.draw (l:=[[0,1,2,3,4,5,6,7,8],[1,0,2,3,4,5,6,7,8],[1,2,0,3,4,5,6,7,8],[1,2,3,0,4,5,6,7,8],[1,2,3,4,0,5,6,7,8],[1,2,3,4,5,0,6,7,8]]) zk zk ?_;intro o ho;simp only [aE,aU,dj] at ho
 rcases ho with rfl | rfl | rfl | rfl | rfl | rfl
 all_goals
  repeat
   (first
    | refine jD.bx hb rfl rfl rfl rfl Tryz.isAgg147 ?_
    | (refine jD.pure (x:=ptr sb) hb rfl rfl rfl ?_ ?_
       focus (intro w; constructor <;> (simp [execOp,Act.eval,go_sem,aC.pt,ptr]; done)))
    | (refine jD.pure (x:=.pointer (some ⟨sb,2,none⟩)) hb rfl rfl rfl ?_ ?_
       focus (intro w; constructor <;> (simp [execOp,Act.eval,go_sem,aC.pt,ptr]; done)))
    | refine jD.ld hb rfl rfl rfl rfl Tryz.isAgg149 rfl ?_)
   walk_nrm
  refine jD.here ⟨_,.agg #[.int .u8 0,.int .i64 0,.bool false],atC hb rfl rfl rfl (λw=>by constructor <;> simp [execOp,Act.eval,go_sem,rcase]),λb x G' F' v' hs C9 hsa nN=>?_⟩;have hE:=hEn b G' F' v' hsa nN;rw [r7 rfl]
  generalize qN _ _ G' = v9 at hE ⊢
  walk_nrm
  obtain⟨op,word,rfl,ZL,IH⟩:=qd b x hs
  try
   (refine Vm hb rfl rfl rfl rfl Tryz.isAgg147 ⟨_,hE.bx,yf.2 ⟨rfl,rfl⟩⟩ λv1 h1 n1=>?_
    replace hE:=yU hE h1;clear h1 n1
    walk_nrm)
  refine Zm hb rfl rfl rfl rfl λv1 h1 n1=>?_
  replace hE:=yU hE h1;clear h1 n1
  walk_nrm
  refine Zn (j:=3) hb rfl rfl rfl rfl zk λv1 h1 n1=>?_
  replace hE:=yU hE h1;clear h1 n1
  walk_nrm
  refine .gen rfl false (λe=>by cases e) λv8 w8 m8 _=>.inr ?_
  replace hE:=yU hE m8.grow;refine JW.store (s:=⟨sb,ct,ce,cs,bx⟩) (p:=op) (q:=word) (r:=.bool b) (l0:=l0) (l1:=l1) (l2:=l2) hb rfl rfl rfl rfl rfl rfl (by kernel_rfl) (λv hv=>by simp only [aE,aU,dj] at hv; exact hv.elim (λe=>e ▸ ZL) λhv=>hv.elim (λe=>e ▸ IH) λe=>e ▸ rfl) ?_ ?_
  ·have:=hE.a.a.oe z.al.length (if b then 0 else 1,⟨sb,ct,ce,cs,bx⟩) (by simp [MZ.app])
   simpa [MZ.app] using this
  have Lz:=Og (k:=z.al.length) (a:=(if b then 0 else 1,⟨sb,ct,ce,cs,bx⟩)) (L:=[op,word,.bool b]) hE.a (by simp [MZ.app]);rw [MZ.Wp] at Lz;clear hE
  generalize dU v8 sb (lr ⟨sb,ct,ce,cs,bx⟩ [op,word,.bool b]) = v9 at Lz ⊢
  refine m39 ?_;refine .ctl hT rfl (λw=>GS (b:=oC 48 kind) w rfl) ?_;exact .stop ⟨_,.tuple #[],_,rfl,rfl,⟨_,⟨b,op,word,bx,G',F',rfl,hs,C9⟩,rfl,Lz.kp,Lz.a,DG Lz⟩,.refl _,rfl,rfl,_,Tryz.func48,λv2 _ _=>HZ rfl _ v2⟩
end Go.Proofs.YtgnmiaonbadbnaaGreat
