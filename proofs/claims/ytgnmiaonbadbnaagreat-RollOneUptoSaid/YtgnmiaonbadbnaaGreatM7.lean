/- Part. -/
import Derived.Test.YtgnmiaonbadbnaaGreatM6
import Derived.Conc.SmallLaws
import Derived.Conc.TokenWalk
import Derived.Test.YtgnmiaonbadbnaaGreatM5
import Derived.Test.YtgnmiaonbadbnaaGreatM1
set_option linter.unusedVariables false
set_option linter.defProp false
set_option linter.unusedSimpArgs false
set_option linter.unusedSectionVars false
set_option maxRecDepth 100000
set_option maxHeartbeats 2000000
namespace Go.Gx
open Go Go.Conc Go.ConcN
variable {K:Ctx} {F:Fr} {a:Act}
theorem kD.ev (fo:kD K F a) {t:Nat} {v:Value} (h:look F t = some (true,v)):a.eval (.tmp t) = v:=by
 have:=fo.fr t true v h
 simp_all [Act.eval]
def kD.qP (h:kD K F a) (d:Nat) (v:Value) (hd:d < K.n):kD K ((d,true,v) :: F) (a.put (some d) v):=h.put d true v v hd rfl
def Good.qP {L:List du} {w w1:World} (h:Good K F L a w) (g:df w w1) (d:Nat) (v:Value) (hd:d < K.n):Good K ((d,true,v) :: F) L (a.put (some d) v) w1:=(h.tJ g).put d true v v hd rfl (h.tJ g).inv
def MZ.told (z:MZ) (k:Nat) (s:aC) (G':Gh) (F':Nat->Prop) (b:Bool) (op word:Value):MZ:=({ z with al:=z.al.set k (if b then 0 else 1,s),G:=G',F:=F' }:MZ).set k [op,word,.bool b]
end Go.Gx
namespace Go.Proofs.YtgnmiaonbadbnaaGreat
open Go Go.Gx Go.Conc Go.ConcN Go.RowKit Go.Conc.Lib Go.ConcR.Gen Go.ConcN.Gen
open Go.ConcR (KK wgBlock WgAt stA smA rd wr mk Payload DC0 Bk g_of_ofEvents)
noncomputable def MU:Code:=match Tryz.f49.body.getD .skip with
 | .seq _ (.seq _ (.seq _ (.seq _ c)))=>c
 | c=>c
noncomputable def Zc:Code:=match MU with
 | .seq _ (.seq _ c)=>c
 | c=>c
variable [av] {said:Bool->Value->Prop} {Wg k:Nat} {kp:Nat->Prop} {z:MZ} {s:aC} {l0 l1 l2:Value} {w0:World} {M:Nat->Prop} {L:List du} {L':MZ->List du} {Q:Exit->Act->World->Prop}
def vx (said:Bool->Value->Prop) (Wg:Nat) (w0:World) (M:Nat->Prop):Ctx:=⟨77,w0,M,⟨XM Tryz.prog 143 Wg said,0,none⟩⟩
theorem OJ (qd:∀ b v,said b v->∃ op word,v = .agg #[op,word,.bool b] /\ op.oneCell' = true /\ word.oneCell' = true) (hS:QR (vx said Wg w0 M) fq kp) [ry L] (hm:HM Wg z ∈ L) (hu:∀ z',mS L (HM Wg z) (HM Wg z') (L' z')) (hk:z.al[k]? = some (1,s)) (hl:jr z.l = 0) (hL:z.L k = [l0,l1,l2])
 (next:∀ (b:Bool) op word G' F',said b (.agg #[op,word,.bool b])->av.St k (.agg #[op,word,.bool b]) z.G G'->Sat (vx said Wg w0 M) (Zc.oV Tryz.prog (vx said Wg w0 M) Q) [dz] (L' (z.told k s G' F' b op word))) :
 Sat (vx said Wg w0 M) (MU.oV Tryz.prog (vx said Wg w0 M) Q) [(5,true,ptr s.sb),dz] L:=λa v hg main T b ks cs hT hb hr hc=>by
 cases main with
 | false=>exact mnV rfl
 | true =>
 have hro:∀ {v:World},bS (vx said Wg w0 M) L v->∀ {j:Nat} {x:Value},(s.c0 ++ [l0,l1,l2])[j]? = some x->∃ c,v.heap[s.sb]? = some c /\ Ro c j x:=λI _ _ hj=>by
  have hA:Bg Wg z _:=(I.own _ hm).1;have h1:=hA.oe k _ hk;rw [hL] at h1;exact ⟨_,h1,sr.2 hj⟩
 have hnext:∀ (b':Bool) op word G' F' a' v',said b' _->av.St k _ z.G G'->Gx.Good _ [dz] _ a' v'->eB (XM Tryz.prog 143 Wg said) Tryz.prog true _ 0 T _ v':=λb' op word G' F' a' v' h1 h2 h3=>next b' op word G' F' h1 h2 a' v' h3 true T b ks cs hT hb hr hc
 have hKE:(vx said Wg w0 M).E = ⟨_,0,none⟩:=rfl;have hKn:(vx said Wg w0 M).n = 77:=rfl;rw [hKE]
 generalize vx said Wg w0 M = K at hS hg hro hnext hKn ⊢
 clear hc next;simp only [Zc,MU,Tryz.f49,dM] at hnext ⊢
 repeat (refine .ctl hT rfl (λw=>mC w) ?_)
 refine m38 ?_;simp only [bK,aS,bw,Nat.reduceAdd,a9,List.range,List.range.loop];refine rV (x:=(ptr s.sb)) hb rfl rfl rfl (λv1 _=>by have e:=hg.fo.ev (t:=5) rfl; simp_all [execOp]) λv1 h1 n1=>?_
 replace hg:=hg.qP h1 64 (ptr s.sb) (by rw [hKn]; decide);simp only [bc,aO,aV,a9,Nat.reduceAdd]
 generalize a.put (some 64) (ptr s.sb) = a at hg ⊢
 clear h1 n1;refine Zm hb rfl rfl rfl (hg.fo.ev rfl) λv1 h1 n1=>?_
 replace hg:=hg.qP h1 65 (Value.pointer (some ⟨s.sb,0,none⟩)) (by rw [hKn]; decide);simp only [bc,aO,aV,a9,Nat.reduceAdd]
 generalize a.put (some 65) (Value.pointer (some ⟨s.sb,0,none⟩)) = a at hg ⊢
 clear h1 n1;refine Zn (j:=0) hb rfl rfl rfl (hg.fo.ev rfl) zk λv1 h1 n1=>?_
 replace hg:=hg.qP h1 66 (Value.pointer (some ⟨s.sb,0,none⟩)) (by rw [hKn]; decide);simp only [bc,aO,aV,a9,Nat.reduceAdd]
 generalize a.put (some 66) (Value.pointer (some ⟨s.sb,0,none⟩)) = a at hg ⊢
 clear h1 n1;refine Vm hb rfl rfl rfl (hg.fo.ev rfl) Tryz.isAgg148 (hro hg.inv rfl) λv1 h1 n1=>?_
 replace hg:=hg.qP h1 67 (Value.chan (some s.ct)) (by rw [hKn]; decide);simp only [bc,aO,aV,a9,Nat.reduceAdd]
 generalize a.put (some 67) (Value.chan (some s.ct)) = a at hg ⊢
 clear h1 n1;refine rV (x:=(.agg #[])) hb rfl rfl rfl (λv1 _=>by simp [execOp,Act.eval,go_sem]) λv1 h1 n1=>?_
 replace hg:=hg.qP h1 68 (.agg #[]) (by rw [hKn]; decide);simp only [bc,aO,aV,a9,Nat.reduceAdd]
 generalize a.put (some 68) (.agg #[]) = a at hg ⊢
 clear h1 n1;refine .gen rfl false (λe=>by cases e) λv1 w m _=>.inr ?_
 have I1:=hg.inv.grow (.eA m.grow);have hA1:Bg Wg z v1:=(I1.own _ hm).1;have ha:FP Wg _ z v1 v1:=⟨.refl _ _,hA1,λb hb hk'=>(pK hS I1 hm b hk').2.2 hb⟩;have e67:=hg.fo.ev (t:=67) rfl;have e68:=hg.fo.ev (t:=68) rfl;refine YM.of (z:=.agg #[]) (z0:=.tuple #[]) hA1.gm hk hA1.wg hl hA1.sa hA1.pm (atC hb rfl rfl rfl (λw=>by simp_all [execOp,scase])) ?_;have fo:=hg.fo;clear hg e67 e68;rw [r7 rfl];simp only [bc,aO,aV];rw [show a.put none undef = a from rfl];refine m239 ?_
 repeat (refine jD.ctl rfl (λw=>mC w) ?_)
 refine m299 ?_;simp only [bK,aS,bw,Nat.reduceAdd,a9,List.range,List.range.loop];refine jD.pure (x:=(ptr s.sb)) hb rfl rfl rfl (λw=>by have e:=fo.ev (t:=5) rfl; simp_all [execOp]) ?_;replace fo:=fo.qP 69 (ptr s.sb) (by rw [hKn]; decide);simp only [bc,aO,aV,a9,Nat.reduceAdd]
 generalize a.put (some 69) (ptr s.sb) = a at fo ⊢
 refine jD.pure (x:=(ptr s.sb)) hb rfl rfl rfl (λw=>by have e:=fo.ev (t:=5) rfl; simp_all [execOp]) ?_;replace fo:=fo.qP 70 (ptr s.sb) (by rw [hKn]; decide);simp only [bc,aO,aV,a9,Nat.reduceAdd]
 generalize a.put (some 70) (ptr s.sb) = a at fo ⊢
 refine jD.pure (x:=(Value.pointer (some ⟨s.sb,0,none⟩))) hb rfl rfl rfl (λw=>by have e:=fo.ev (t:=70) rfl; simp_all [execOp,ptr]) ?_;replace fo:=fo.qP 71 (Value.pointer (some ⟨s.sb,0,none⟩)) (by rw [hKn]; decide);simp only [bc,aO,aV,a9,Nat.reduceAdd]
 generalize a.put (some 71) (Value.pointer (some ⟨s.sb,0,none⟩)) = a at fo ⊢
 refine jD.pure (x:=(Value.pointer (some ⟨s.sb,2,none⟩))) hb rfl rfl rfl (λw=>by have e:=fo.ev (t:=71) rfl; generalize a.eval = ρ at e ⊢; constructor <;> simp [execOp,e,go_sem,ptr]) ?_;replace fo:=fo.qP 72 (Value.pointer (some ⟨s.sb,2,none⟩)) (by rw [hKn]; decide);simp only [bc,aO,aV,a9,Nat.reduceAdd]
 generalize a.put (some 72) (Value.pointer (some ⟨s.sb,2,none⟩)) = a at fo ⊢
 refine jD.ld hb rfl rfl rfl (fo.ev rfl) Tryz.isAgg149 rfl ?_;replace fo:=fo.qP 73 (Value.chan (some s.cs)) (by rw [hKn]; decide);simp only [bc,aO,aV,a9,Nat.reduceAdd]
 generalize a.put (some 73) (Value.chan (some s.cs)) = a at fo ⊢
 have e73:=fo.ev (t:=73) rfl;refine jD.here ⟨_,.agg #[.int .u8 0,.int .i64 0,.bool false],atC hb rfl rfl rfl (λw=>by simp_all [execOp,rcase]),λb' x G' F' v' hs C9 hsa nN=>?_⟩;have hE:=JL (n:=if b' then 0 else 1) ⟨_,hk⟩ (λb hb=>⟨(pK hS I1 hm b hb).1,(pK hS I1 hm b hb).2.1⟩) ha hsa nN;rw [r7 rfl]
 generalize qN _ _ G' = v9 at hE ⊢
 obtain⟨op,word,rfl,ZL,IH⟩:=qd b' x hs;replace fo:=fo.qP 74 (.agg #[op,word,.bool b']) (by rw [hKn]; decide);simp only [bc,aO,aV]
 generalize a.put (some 74) (.agg #[op,word,.bool b']) = a at fo ⊢
 refine Zm hb rfl rfl rfl (fo.ev rfl) λv1 h1 n1=>?_
 replace hE:=zM hE h1;replace fo:=fo.qP 75 (Value.pointer (some ⟨s.sb,0,none⟩)) (by rw [hKn]; decide);simp only [bc,aO,aV,a9,Nat.reduceAdd]
 generalize a.put (some 75) (Value.pointer (some ⟨s.sb,0,none⟩)) = a at fo ⊢
 refine Zn (j:=3) hb rfl rfl rfl (fo.ev rfl) zk λv1 h1 n1=>?_
 replace hE:=zM hE h1;replace fo:=fo.qP 76 (Value.pointer (some ⟨s.sb,3,none⟩)) (by rw [hKn]; decide);simp only [bc,aO,aV,a9,Nat.reduceAdd]
 generalize a.put (some 76) (Value.pointer (some ⟨s.sb,3,none⟩)) = a at fo ⊢
 refine .gen rfl false (λe=>by cases e) λv8 w8 m8 _=>.inr ?_
 replace hE:=zM hE m8.grow;have hk':(z.al.set k (if b' then 0 else 1,s))[k]? = some (if b' then 0 else 1,s):=by
  rw [kG (cY.1 hk).1]
 refine JW.store (l0:=l0) (l1:=l1) (l2:=l2) hb rfl rfl rfl rfl (fo.ev rfl) (fo.ev rfl) (by rfl) (λv hv=>by simp only [aE,aU,dj] at hv; exact hv.elim (λe=>e ▸ ZL) λhv=>hv.elim (λe=>e ▸ IH) λe=>e ▸ rfl) ?_ ?_
 ·have:=hE.a.oe k _ hk'
  grind
 have Lz:=Og (L:=[op,word,.bool b']) hE hk'
 generalize dU v8 s.sb (lr s [op,word,.bool b']) = v9 at Lz ⊢
 refine m39 ?_;refine hnext b' op word G' F' a v9 hs C9 (Good.sub ⟨fo,I1.Q9 hS (hu _) Lz.kp Lz.a (DG Lz)⟩ ?_ (aY _))
 repeat first | exact Sub.nil | refine Sub.cons rfl ?_
end Go.Proofs.YtgnmiaonbadbnaaGreat
namespace Go.Gx
open Go Go.Conc
section
variable {P:Program} {K:Ctx} {F:Fr} {L:List du} {g:Bool} {t ty:TypeId} {x:Operand} {r j:Nat} {z z1:Value} {pm:Nat->Prop} {fr:Nat}
def Ev.toG {op:Op} {v v':Value} (h:Ev P K F L g op ty v) (e:g = true->v = v'):Ev P K F L g op ty v':=λhg=>e hg ▸ h hg
theorem xZ {w:World} {a:Addr} (ha:a = ⟨r,j,none⟩) (h:∃ c,w.heap[r]? = some c /\ Ro c j z):(Go.load a).wpS P pm fr (λy w'=>y = z /\ w' = w) w:=by
 subst ha;have⟨c,hc,hro⟩:=h;exact ⟨.inl rfl,z,.inr (.inr ⟨rfl,_,hc,hro⟩),rfl,rfl⟩
theorem Ev.ZA (ha:∀ w,(isAgg t).run P w = .ok false w) (hx:cV F g x (.pointer (some ⟨r,j,none⟩))) (h:g = true->∀ w,bS K L w->∃ c,w.heap[r]? = some c /\ Ro c j z):Ev P K F L g (.load t x) ty z:=λhg=>⟨rfl,λa fo w I hn dst pos af gd=>by
 show (Instr.loadAt t (a.eval x) >>= λv=>pure (Next.value v)).wpS P _ _ _ w;rw [hx.eval hg fo];refine cR _ _ _ ?_;refine cu ?_ _ _ (show (Instr.loadAt t _).wpS P _ K.E.fr (λy w'=>y = z /\ w' = w) w from ?_)
 ·rintro y w' ⟨rfl,rfl⟩
  trivial
 show (loadVar t ⟨r,j,none⟩).wpS P _ _ (λy w'=>y = z /\ w' = w) w;refine cR _ _ _ (cu ?_ _ _ ((Tm.isAgg t) w hn _ _ (ha w)));rintro y w' ⟨rfl,rfl⟩;exact xZ rfl (h hg _ I)⟩
theorem Ev.abv (ha:∀ w,(isAgg t).run P w = .ok true w) (hs:∀ w,(sizeOf t).run P w = .ok 2 w) (hx:cV F g x (.pointer (some ⟨r,j,none⟩))) (h:g = true->∀ w,bS K L w->∃ c,w.heap[r]? = some c /\ Ro c j z /\ Ro c (j + 1) z1):Ev P K F L g (.load t x) ty (.agg #[z,z1]):=λhg=>⟨rfl,λa fo w I hn dst pos af gd=>by
 have⟨c,hc,h0,h1⟩:=h hg w I;show (Instr.loadAt t (a.eval x) >>= λv=>pure (Next.value v)).wpS P _ _ _ w;rw [hx.eval hg fo];refine cR _ _ _ ?_;refine cu ?_ _ _ (show (Instr.loadAt t _).wpS P _ K.E.fr (λy w'=>y = .agg #[z,z1] /\ w' = w) w from ?_)
 ·rintro y w' ⟨rfl,rfl⟩
  trivial
 show (loadVar t ⟨r,j,none⟩).wpS P _ _ (λy w'=>y = .agg #[z,z1] /\ w' = w) w;refine cR _ _ _ (cu ?_ _ _ ((Tm.isAgg t) w hn _ _ (ha w)));rintro y w' ⟨rfl,rfl⟩;refine cR _ _ _ (cu ?_ _ _ ((Tm.sizeOf t) w' hn _ _ (hs w')));rintro y w' ⟨rfl,rfl⟩;refine cR _ _ _ (cu ?_ _ _ (show (loadCells _ 2).wpS P _ K.E.fr (λy w2=>y = #[z,z1] /\ w2 = w') w' from ?_))
 ·rintro y w' ⟨rfl,rfl⟩
  trivial
 refine cR _ _ _ (cu ?_ _ _ (xZ rfl ⟨c,hc,h0⟩));rintro y w' ⟨rfl,rfl⟩;refine cR _ _ _ (cu ?_ _ _ (xZ rfl ⟨c,hc,h1⟩));rintro y w' ⟨rfl,rfl⟩
 trivial⟩
end
section
variable [av] {K:Ctx} {L:List du} {Wg k:Nat} {z:MZ} {a:Nat × aC} {x x1:Value} {j:Nat}
def Tj (hm:HM Wg z ∈ L) (hk:z.al[k]? = some a) (hj:(a.2.c0 ++ z.L k)[j]? = some x) (w:World) (I:bS K L w):∃ c,w.heap[a.2.sb]? = some c /\ Ro c j x :=
 ⟨_,((I.own _ hm).1:Bg Wg z w).oe k a hk,sr.2 hj⟩
def abJ (hm:HM Wg z ∈ L) (hk:z.al[k]? = some a) (hj:(a.2.c0 ++ z.L k)[j]? = some x) (hj1:(a.2.c0 ++ z.L k)[j + 1]? = some x1) (w:World) (I:bS K L w):∃ c,w.heap[a.2.sb]? = some c /\ Ro c j x /\ Ro c (j + 1) x1 :=
 ⟨_,((I.own _ hm).1:Bg Wg z w).oe k a hk,sr.2 hj,sr.2 hj1⟩
end
end Go.Gx
namespace Go.Proofs.YtgnmiaonbadbnaaGreat
open Go Go.Gx
variable {Wg:Nat} {said:Bool->Value->Prop}
structure fU where
 trace:OV
 cut:OV
def fU.to:(OV × OV)->fU:=λx=>⟨x.1,x.2⟩
def fU.of:fU->(OV × OV):=λx=>(x.trace,x.cut)
def iN:dy fU:=l8 (cW (dJ aM) (dJ aM)) fU.to fU.of
def fU.BM:aB iN (dJ aM) 0:=lI fU.to fU.of l1
def fU.ZC:aB iN (dJ aM) 1:=lI fU.to fU.of (l2 (aB.id _))
@[simp] theorem fU.ahY (x:fU):fU.ZC.get x = x.cut:=rfl
structure cz where
 fV:OV
 ft:fU
variable {x:cz}
def cz.to:(OV × fU)->cz:=λx=>⟨x.1,x.2⟩
def cz.of:cz->(OV × fU):=λx=>(x.fV,x.ft)
def c7:dy cz:=l8 (cW (dJ aM) iN) cz.to cz.of
def cz.tL:aB c7 (dJ aM) 0:=lI cz.to cz.of l1
@[simp] theorem cz.adD (x:cz):cz.tL.get x = x.fV:=rfl
@[simp] theorem cz.adg (x:cz) (y:OV):cz.tL.set x y = { x with fV:=y }:=rfl
def cz.sG:aB c7 iN 1:=lI cz.to cz.of (l2 (aB.id _))
@[simp] theorem cz.ab0 (x:cz):cz.sG.get x = x.ft:=rfl
@[simp] theorem cz.aaM (x:cz) (y:fU):cz.sG.set x y = { x with ft:=y }:=rfl
structure gW where
 op:UInt8
 word:Int
def gW.to:(UInt8 × Int)->gW:=λx=>⟨x.1,x.2⟩
def gW.of:gW->(UInt8 × Int):=λx=>(x.op,x.word)
def Dj:dy gW:=l8 (cW iO iE) gW.to gW.of
def gW.afG:aB Dj iO 0:=lI gW.to gW.of l1
@[simp] theorem gW.aiJ (x:gW) (y:UInt8):gW.afG.set x y = { x with op:=y }:=rfl
def gW.ai2:aB Dj iE 1:=lI gW.to gW.of (l2 (aB.id _))
structure eR where
 Rk:Int
 mark:gW
variable {tl:List eR}
def eR.to:(Int × gW)->eR:=λx=>⟨x.1,x.2⟩
def eR.of:eR->(Int × gW):=λx=>(x.Rk,x.mark)
def fy:dy eR:=l8 (cW iE Dj) eR.to eR.of
def eR.IB:aB fy iE 0:=lI eR.to eR.of l1
@[simp] theorem eR.aaK (x:eR) (y:Int):eR.IB.set x y = { x with Rk:=y }:=rfl
def eR.Ll:aB fy Dj 1:=lI eR.to eR.of (l2 (aB.id _))
@[simp] theorem eR.aeK (x:eR) (y:gW):eR.Ll.set x y = { x with mark:=y }:=rfl
section
variable [av]
def PLR (pb:Nat) (x:cz) (jk:List OV) (tl:List eR) (Wg:Nat) (z:MZ):du:=Sep (HM Wg z) (Sep (Var pb c7 x 146) (Sep (bY x.fV.v (dJ dB) jk 147) (bY x.ft.trace.v fy tl 169)))
end
def pZ (z:MZ) (i:Int):Nat × aC:=z.al.getD i.toNat (0,⟨0,0,0,0,0⟩)
def mJ (m:gW) (b:Bool):Value:=.agg #[U8 m.op,I m.word,.bool b]
structure vj (z:MZ) (jk:List OV) (ms:Nat->gW):Prop where
 len:jk.length = z.al.length
 pt:∀ k,k < z.al.length->(dJ dB).val (jk.getD k (dJ dB).zero) = .pointer (some ⟨(pZ z k).2.sb,0,none⟩)
 L:∀ k,k < z.al.length->z.L k = [U8 (ms k).op,I (ms k).word,.bool (decide ((pZ z k).1 = 0))]
 one:∀ k:Nat,(pZ z k).1 = 0 \/ (pZ z k).1 = 1
section
variable {z:MZ} {jk:List OV} {ms:Nat->gW} {i:Int}
theorem Yz (h0:0 <= i) (h1:i < z.al.length):z.al[i.toNat]? = some (pZ z i):=by
 grind [pZ]
theorem vj.at (h:vj z jk ms) (h0:0 <= i) (h1:i < jk.length):z.al[i.toNat]? = some (pZ z i):=Yz h0 (by rw [<- h.len]; exact h1)
theorem vj.ptr (h:vj z jk ms) (h0:0 <= i) (h1:i < jk.length):(dJ dB).val (jk.getD i.toNat (dJ dB).zero) = .pointer (some ⟨(pZ z i).2.sb,0,none⟩):=by
 have:=h.pt i.toNat (by have:=h.len; omega)
 assumption
theorem vj.Li (h:vj z jk ms) (h0:0 <= i) (h1:i < jk.length):z.L i.toNat = [U8 (ms i.toNat).op,I (ms i.toNat).word,.bool (decide ((pZ z i).1 = 0))]:=by
 have:=h.L i.toNat (by have:=h.len; omega)
 assumption
theorem vj.over (h:vj z jk ms) (h0:0 <= i) (h1:i < jk.length):((pZ z i).2.c0 ++ z.L i.toNat)[5]? = some (.bool (decide ((pZ z i).1 = 0))):=by rw [h.Li h0 h1]; rfl
theorem vj.op (h:vj z jk ms) (h0:0 <= i) (h1:i < jk.length):((pZ z i).2.c0 ++ z.L i.toNat)[3]? = some (U8 (ms i.toNat).op):=by rw [h.Li h0 h1]; rfl
theorem vj.word (h:vj z jk ms) (h0:0 <= i) (h1:i < jk.length):((pZ z i).2.c0 ++ z.L i.toNat)[3 + 1]? = some (I (ms i.toNat).word):=by rw [h.Li h0 h1]; rfl
theorem Sc [av] {K:Ctx} {w:World} {pb:Nat} (I:bS K [bY x.fV.v (dJ dB) jk 147,bY x.ft.trace.v fy tl 169,Var pb c7 x 146,HM Wg z] w):bS K [PLR pb x jk tl Wg z] w:=by
 have h1:=(I.mI.perm (List.Perm.swap _ _ _)).mI;exact (h1.perm (List.Perm.swap _ _ _)).mI
def UW [av] (said:Bool->Value->Prop) (z:MZ) (x:cz) (tl:List eR) (ms:Nat->gW) (i:Int) (r:Bool × MZ × cz × List eR):Prop :=
 (r.1 = false->r.2 = (z,x,tl) /\ ¬ (0 <= i /\ i < z.al.length /\ (pZ z i).1 = 1)) ∧
 (r.1 = true->(0 <= i /\ i < z.al.length /\ (pZ z i).1 = 1) /\ ∃ (b:Bool) (m:gW) (G':Gh) (F':Nat->Prop) (o:OV),said b (mJ m b) /\ av.St i.toNat (mJ m b) z.G G' /\ r.2 = (z.told i.toNat (pZ z i).2 G' F' b (U8 m.op) (I m.word),{ x with ft:={ x.ft with trace:=o } },tl ++ [⟨i,ms i.toNat⟩]))
theorem OL [av] {pb:Nat} {w0:World} {keep:Nat->Prop} {r0:du} (o:OV) (qd:∀ b v,said b v->∃ m,v = mJ m b) (hN:av.N0 <= w0.heap.size) (hk:lN keep r0 w0) (hl:jr z.l = 0) (hO:vj z jk ms) (hi:0 <= i /\ i < jk.length) (hal:(pZ z i).1 = 1) :
 Sat (vx said Wg w0 (λb=>fq b /\ ¬ keep b)) (MU.oV Tryz.prog (vx said Wg w0 (λb=>fq b /\ ¬ keep b)) (Gx.bodyPost Tryz.prog (vx said Wg w0 (λb=>fq b /\ ¬ keep b)) Tryz.f49 (qy fq keep w0 (UW said z x tl ms i) (λr=>.bool r.1) (λr=>PLR pb r.2.2.1 jk r.2.2.2 Wg r.2.1)))) [(5,true,.pointer (some ⟨(pZ z i).2.sb,0,none⟩)),dz]
  [bY x.fV.v (dJ dB) jk 147,bY o.v fy (tl ++ [⟨i,ms i.toNat⟩]) 169,Var pb c7 { x with ft:={ x.ft with trace:=o } } 146,HM Wg z]:=by
 have h2:=hO.at hi.1 hi.2;have h3:z.al[i.toNat]? = some (1,(pZ z i).2):=by rw [h2,<- hal]
 refine OJ (λb v h=>?_) (ZD hk) (by simp) (λz'=>.tail (.tail (.tail .head))) h3 hl (hO.Li hi.1 hi.2) (λb op word G' F' hs C9=>?_)
 ·obtain⟨m,rfl⟩:=qd b v h;exact ⟨U8 m.op,_,rfl,rfl,rfl⟩
 ·have⟨m,hm⟩:=qd b _ hs;obtain⟨rfl,rfl⟩:op = U8 m.op /\ word = I m.word:=by
   grind [mJ,Value.agg.injEq]
  refine m12 ?_;refine ret (done rfl (.tmp rfl .nil) (λw I=>?_));have J:=Sc (x:={ x with ft:={ x.ft with trace:=o } }) I;exact KH (r':=λr:Bool × MZ × cz × List eR=>PLR pb r.2.2.1 jk r.2.2.2 Wg r.2.1) (λb hb=>(hk b hb).1) (true,z.told i.toNat (pZ z i).2 G' F' b (U8 m.op) (Gx.I m.word),{ x with ft:={ x.ft with trace:=o } },tl ++ [⟨i,ms i.toNat⟩]) ⟨λe=>(by cases e),λ_=>⟨⟨hi.1,by grind,hal⟩,b,m,G',F',o,hs,C9,rfl⟩⟩ rfl (cq.2 rfl) (λb hb=>((J.own _ (cq.2 rfl)).2 b hb).1.elim (λh=>.inl (az hN h)) (·.1)) w J
end
def Ey:ot 144 (dJ aM):=oq
def AL:ot 147 (dJ dB):=oq
structure j7 where
 mark:gW
 over:Bool
def j7.to:(gW × Bool)->j7:=λx=>⟨x.1,x.2⟩
def j7.of:j7->(gW × Bool):=λx=>(x.mark,x.over)
def Fu:dy j7:=l8 (cW Dj bE) j7.to j7.of
def j7.Ll:aB Fu Dj 0:=lI j7.to j7.of l1
def j7.ai3:aB Fu bE 2:=lI j7.to j7.of (l2 (aB.id _))
def V5:ot 71 (dJ aM):=oq
def aal:zI 169 fy:=kI
def Re:ot 169 fy:=oq
def aed:DV 169 fy 24:=kB
def ad3:Eo fy:=Hk _
theorem MT [av] (qd:∀ b v,said b v->∃ m,v = mJ m b) (pb:Nat) (x:cz) (jk:List OV) (tl:List eR) (z:MZ) (ms:Nat->gW) (i:Int) (w:World) (keep:Nat->Prop) (h:At (PLR pb x jk tl Wg z) w) (hU:∀ b,(PLR pb x jk tl Wg z).c9 b->fq b) (hk:lN keep (PLR pb x jk tl Wg z) w) (hN:av.N0 <= w.heap.size) (hl:jr z.l = 0) (hO:vj z jk ms) (hlen:tl.length < 16384):iQ (XM Tryz.prog 143 Wg said) 0 Tryz.prog 49 #[.pointer (some ⟨pb,0,none⟩),I i] w (qy fq keep w (UW said z x tl ms i) (λr=>.bool r.1) (λr=>PLR pb r.2.2.1 jk r.2.2.2 Wg r.2.1)):=by
 refine wM 77 _ Tryz.func49 rfl rfl (aT rfl) (bu _) (λ_ _=>bu _) (λok=>zX h hU hk _ ok) ?_;refine m144 ?_;refine m173 ?_;refine m77 ?_;refine m5 ?_;refine m104 ?_;refine m279 ?_;refine cg rfl rfl (Ev.len JS (.g rfl id) (λw I=>io w I)) ?_;refine cg rfl rfl (Ev.Fq (.g rfl id) (.g rfl id)) ?_;refine m25 ?_;refine m5 ?_;refine m279 ?_;refine m104 ?_;refine cg rfl rfl (Ev.indexAddr JS AL (.g rfl id) (.g rfl id) (λw I=>io w I) (λ_=>by grind)) ?_;refine cg rfl rfl (Ev.toG (Ev.eT AL (.g rfl id) (λw I=>io w I) (λ_=>by grind)) (λhg=>hO.ptr (by grind) (by grind))) ?_;refine m100 ?_;refine cg rfl rfl (fA 3 (.g rfl id)) ?_;refine cg rfl rfl (fA 2 (.g rfl id)) ?_;refine cg rfl rfl (Ev.ZA Tryz.isAgg4 (.g rfl id) (λhg=>Tj (by repeat first | exact mH | apply mT | apply mA) (hO.at (by grind) (by grind)) (hO.over (by grind) (by grind)))) ?_;refine m25 ?_;refine m5 ?_;refine m100 ?_;refine m166 ?_;refine m64 ?_;refine cg rfl rfl (Ev.gS V5 (.g rfl id) (aB.comp cz.sG fU.BM)) ?_;refine cg rfl rfl (Ev.len Y71 (.g rfl id) (λw I=>io w I)) ?_;refine m243 ?_;refine m25 ?_;refine nP ?_;refine ig rfl (λh0=>?_) (λh0=>?_)
 ·have hno:¬ (0 <= i /\ i < z.al.length /\ (pZ z i).1 = 1):=by
   have:=hO.len;omega
  refine m12 ?_;refine ret (pR (done rfl (.tmp rfl .nil) (λw I=>?_)));exact KH (λb hb=>(hk b hb).1) (false,z,x,tl) ⟨λ_=>⟨rfl,hno⟩,λe=>(by cases e)⟩ rfl (cq.2 rfl) hU w (Sc I)
 ·obtain⟨hi,hal⟩:(0 <= i /\ i < jk.length) /\ (pZ z i).1 = 1:=by
   exact ⟨⟨by omega,by omega⟩,(hO.one i.toNat).elim (λe=>absurd e (by grind)) (λe=>by assumption)⟩
  refine m8 ?_;refine m253 ?_;refine co (Ev.gS Ey aa cz.tL) ?_;refine mv rfl (co (Ev.indexAddr JS AL aa aa (λw I=>io w I) (λ_=>zo)) ?_);refine co (Ev.to (Ev.eT AL aa (λw I=>io w I) (λ_=>zo)) (hO.ptr hi.1 hi.2)) ?_;refine m177 ?_;refine draw [HM Wg z] zk ?_;refine m11 ?_;refine tk 3 rfl (fA 1 aa) ?_;refine tk 4 rfl (fA 0 aa) ?_;refine m198 ?_;refine tn 8 rfl rfl ?_;refine tk 9 rfl (fA 3 aa) ?_;refine tk 10 rfl (fA 0 aa) ?_;refine tk 11 rfl (Ev.abv Tryz.isAgg152 Tryz.sizeOf152 aa (λ_=>abJ zm (hO.at hi.1 hi.2) (hO.op hi.1 hi.2) (hO.word hi.1 hi.2))) ?_;refine tk 12 rfl (Ev.fe (places:=[(0,1),(1,2)]) aal rfl Tryz.underlying169 zk (.cons aa (.cons aa .nil)) (bB.cons eR.IB rfl (bB.cons eR.Ll rfl bB.nil))) ?_;refine all [5,13] zk (by decide) (.cons rfl ?_ (.cons rfl ?_ .nil))
  ·refine BF (Ev.gS V5 aa (aB.comp cz.sG fU.BM)) ?_;refine m180 ?_;refine fB 13 rfl (buildSlice Y71 Re aal (.cons aa .nil) rfl rfl (λv1=>?_));exact s21
  ·refine (buildSlice Y71 Re aal (.cons aa .nil) rfl rfl (λv3=>?_));refine m295 ?_;refine BF (Ev.gS V5 aa (aB.comp cz.sG fU.BM)) ?_;exact s21
variable {z:MZ} {jk:List OV} {ms:Nat->gW} {i:Int} {G':Gh} {F':Nat->Prop} {b:Bool} {m:gW}
theorem UE (h0:0 <= i) (h1:i < z.al.length) (k:Nat):pZ (z.told i.toNat (pZ z i).2 G' F' b (U8 m.op) (Gx.I m.word)) k = if k = i.toNat then (if b then 0 else 1,(pZ z i).2) else pZ z k:=by
 obtain⟨n,rfl⟩:∃ n:Nat,i = n:=⟨i.toNat,by omega⟩;have h2:n < z.al.length:=by omega
 by_cases e:k = n
 ·grind [pZ,MZ.told,MZ.set]
 simp_all [pZ,MZ.told,MZ.set,cN]
theorem vj.told (h:vj z jk ms) (h0:0 <= i) (h1:i < jk.length):vj (z.told i.toNat (pZ z i).2 G' F' b (U8 m.op) (Gx.I m.word)) jk (λk=>if k = i.toNat then m else ms k):=by
 have hl:=h.len;have h2:i < z.al.length:=by omega
 have e:=λk=>UE (G':=G') (F':=F') (b:=b) (m:=m) h0 h2 k
 have hlen:(z.told i.toNat (pZ z i).2 G' F' b (U8 m.op) (Gx.I m.word)).al.length = z.al.length:=by simp [MZ.told,MZ.set]
 refine ⟨by omega,λk hk=>?_,λk hk=>?_,λk=>?_⟩
 ·rw [hlen] at hk;rw [e k,h.pt k hk]
  grind
 ·rw [hlen] at hk;rw [e k];simp only [MZ.told,MZ.set];split
  ·simp
  ·exact h.L k hk
 ·rw [e k];split
  ·simp
  ·exact h.one k
end Go.Proofs.YtgnmiaonbadbnaaGreat
namespace Go.Gx
open Go Go.Conc
variable {P:Program} {pm:Nat->Prop} {a:Act} {v v1 v0:World} {ops:Array Oper} {t:TypeId} {l:List Nat} {F:Fr}
section
variable {X:Ext} {main:Bool} {fr:Nat} {T:Goroutine->World->Prop} {b:Frame} {k:List Item} {cs:List Frame} {i:Nat} {rest:List Nat} {o:Oper}
theorem O1 {e:TypeId} {dir:ChanDir} {inf:TypeInfo} (ht:P.underlying t = some (.chan dir e)) (hi:P.info? e = some inf) (w:World):(Instr.makeChan t (.int .i64 0)).run P w = .ok (.chan (some w.heap.size)) { w with heap:=w.heap.push (.chan 0 #[] false 0 0 false) }:=by
 have:=run_makeChan (w:=w) ht hi .i64 0 (by decide) (by simp);exact this
theorem R7 {x:Operand} (hk:b.kind ≠ .early) (ho:ops[i]? = some o) (hg:o.guard = none) (g9:o.op = .makeChan t x) (hx:a.eval x = .int .i64 0) (hu:(P.underlying t).map (λd=>match d with | .chan _ e=>(P.info? e).isSome | _=>false) = some true)
 (h:∀ v1,df v v1->cI v1->eB X P main pm fr T (G (b.atR (a.put o.dst (.chan (some v1.heap.size))) (.inRegion ops rest :: k)) cs) { v1 with heap:=v1.heap.push (.chan 0 #[] false 0 0 false) }):eB X P main pm fr T (G (b.atR a (.inRegion ops (i :: rest) :: k)) cs) v:=by
 obtain⟨dir,e,inf,ht,hi⟩:∃ dir e inf,P.underlying t = some (.chan dir e) /\ P.info? e = some inf:=by
  have⟨d,h1,h2⟩:=cd.1 hu;cases d <;> first | (cases h2; done) | skip
  have⟨inf,h3⟩:=Option.isSome_iff_exists.1 h2
  grind
 have e1:Tm P pm fr (execOp a.eval o) /\ ∀ v1,(execOp a.eval o).run P v1 = .ok (.value (.chan (some v1.heap.size))) { v1 with heap:=v1.heap.push (.chan 0 #[] false 0 0 false) }:=by
  generalize a.eval = ρ at hx
  unfold execOp;rw [g9];dsimp only;rw [hx];refine ⟨.bind ?_ λ_=>.pure _,λv1=>by rw [ay,O1 ht hi]; rfl⟩;unfold Instr.makeChan;refine .bind (.asInt _) λn=>.under ht ?_
  dsimp only;refine .bind (.typeInfo _) λ_=>?_
  split
  ·refine .bind (.runtimePanic _) λ_=>?_
   refine .bind (.newObj _ rfl rfl) λ_=>.pure _
  ·refine .bind (.newObj _ rfl rfl) λ_=>.pure _
 exact rOp hk ho hg (by rw [g9]; rfl) λv1 h1 hn=>cu (by grind) _ _ (e1.1 v1 hn _ _ (e1.2 v1))
end
structure DM (v0 v:World) (l:List Nat):Prop where
 kp:bf fX v0 v
 nd:l.Nodup
 ch:∀ c ∈ l,v0.heap.size <= c /\ v.heap[c]? = some (.chan 0 #[] false 0 0 false)
theorem DM.kn (h:DM v0 v l) (g:bf fX v v1):DM v0 v1 l:=⟨h.kp.trans g,h.nd,λc hc=>⟨(h.ch c hc).1,(g.block c (aG (h.ch c hc).2) id).trans (h.ch c hc).2⟩⟩
theorem DM.step (h:DM v0 v l) (g:df v v1):DM v0 { v1 with heap:=v1.heap.push (.chan 0 #[] false 0 0 false) } (v1.heap.size :: l):=by
 have h1:=h.kn (.eA g);have h2:=h1.kn (.alloc fX v1 (.chan 0 #[] false 0 0 false));refine ⟨h2.kp,ki.2 ⟨λhm=>?_,h.nd⟩,λc hc=>?_⟩
 ·have:=aG (h1.ch _ hm).2; omega
 ·rcases aE.1 hc with rfl | hc
  ·exact ⟨h1.kp.size,by simp⟩
  ·exact h2.ch c hc
theorem Sub.put {F0:Fr} (h:Sub F F0) {d:Nat} {e:Bool × Value} (hd:ie F0 d = none):Sub ((d,e) :: F) F0:=λt x hx=>by
 have hne:Nat.beq d t = false:=AB λe=>by subst e; rw [hd] at hx; cases hx
 simp only [ie,hne,mi];exact h t x hx
theorem kD.sub {K:Ctx} {F':Fr} (h:kD K F a) (s:Sub F F'):kD K F' a:=⟨h.size,h.le,λc v h1=>h.defers c v (s _ _ h1),λt c v h1=>by
 have⟨h2,h3⟩:=w9 h1;exact h.fr t c v (by rw [BK h2]; exact s t _ h3)⟩
theorem Ki {E:En} {id:Nat} {Q:Exit->Act->World->Prop} {l:List (List Nat)} (hm:P.follows .mixedOrders = true) (hl:AE .any ops ops.size (Array.replicate ops.size false) = l)
 (h:∀ v1,bf fX v v1->∀ r ∈ l,zR P E pm ops r Q a v1):(Code.region id ops true).vp P E pm Q a v:=Hr λv1 h1 n1 t=>h _ ((bf.eA h1).trans (bf.drew _ _)) _ (by
 rw [<- hl];simp only [Region.schedule,hm,rj,if_true];exact yG _ _ _)
end Go.Gx
namespace Go.Proofs.YtgnmiaonbadbnaaGreat
open Go Go.Gx Go.Conc Go.ConcN Go.RowKit Go.Conc.Lib Go.ConcR.Gen Go.ConcN.Gen
noncomputable def RH:Code:=match Tryz.f15.body.getD .skip with
 | .seq _ (.seq _ (.seq _ (.seq _ (.seq _ (.seq (.seq _ (.block _ (.loop (.seq _ (.seq _ (.seq (.block _ (.seq _ (.seq c _))) _)))))) _)))))=>c
 | c=>c
theorem OZ {K:Ctx} (hKn:K.n = 101) {F F0:Fr} {L:List du} {Q:Exit->Act->World->Prop} (hF:Sub F F0) (n11:ie F0 11 = none) (n34:ie F0 34 = none) (n35:ie F0 35 = none) (n36:ie F0 36 = none) (n37:ie F0 37 = none) (n38:ie F0 38 = none)
 (next:∀ sb ct ce cs,(ct ≠ ce /\ ct ≠ cs /\ ce ≠ cs)->(∀ b ∈ [sb,ct,ce,cs],K.w0.heap.size <= b)->Sat K (Q .normal) ((11,true,ptr sb) :: F0) (Bu sb ct ce cs [.int .u8 0,.int .i64 0,.bool false] :: L)):Sat K (RH.oV Tryz.prog K Q) F L:=λa v hg=>by
 have fo:=(hg.sub hF (aY _)).fo;simp only [RH,Tryz.f15,dM];refine Ki (l:=[[0,1,2,3,4,5],[0,2,1,3,4,5],[1,0,2,3,4,5],[1,2,0,3,4,5],[2,0,1,3,4,5],[2,1,0,3,4,5]]) zk zk λu hu r hr main T b ks cs hT hb hro hc=>?_
 have hM:DM v u []:=⟨hu,px,λc hc=>by cases hc⟩;clear hu;simp only [aE,aU,dj] at hr
 rcases hr with rfl | rfl | rfl | rfl | rfl | rfl
 all_goals
  repeat
   (first
    | (refine R7 (i:=0) hb rfl rfl rfl rfl zk λv1 h1 n1=>?_
       replace fo:=fo.qP 34 (.chan (some v1.heap.size)) (by rw [hKn]; decide);simp only [bc,aO,aV]
       generalize a.put (some 34) (.chan (some v1.heap.size)) = a at fo ⊢)
    | (refine R7 (i:=1) hb rfl rfl rfl rfl zk λv1 h1 n1=>?_
       replace fo:=fo.qP 35 (.chan (some v1.heap.size)) (by rw [hKn]; decide);simp only [bc,aO,aV]
       generalize a.put (some 35) (.chan (some v1.heap.size)) = a at fo ⊢)
    | (refine R7 (i:=2) hb rfl rfl rfl rfl zk λv1 h1 n1=>?_
       replace fo:=fo.qP 36 (.chan (some v1.heap.size)) (by rw [hKn]; decide);simp only [bc,aO,aV]
       generalize a.put (some 36) (.chan (some v1.heap.size)) = a at fo ⊢))
   replace hM:=hM.step h1
   generalize v1.heap.size = c at hM fo
   generalize ({ v1 with heap:=v1.heap.push (.chan 0 #[] false 0 0 false) }:World) = u at hM ⊢
   clear h1 n1
  obtain⟨ct,ce,Jk,e34,e35,e36,hne,hk,hch⟩:∃ ct ce cs,a.eval (.tmp 34) = .chan (some ct) /\ a.eval (.tmp 35) = .chan (some ce) /\ a.eval (.tmp 36) = .chan (some cs) /\ (ct ≠ ce /\ ct ≠ cs /\ ce ≠ cs) /\ bf fX v u /\ ∀ c ∈ [ct,ce,cs],v.heap.size <= c /\ u.heap[c]? = some (.chan 0 #[] false 0 0 false):=by
   refine ⟨_,_,_,fo.ev (t:=34) rfl,fo.ev (t:=35) rfl,fo.ev (t:=36) rfl,?_,hM.kp,λc hc=>hM.ch c ?_⟩
   ·have:=hM.nd;simp at this;omega
   ·simp only [aE,aU,dj] at hc ⊢;omega
  replace fo:kD K F0 a:=fo.sub (by repeat first | exact (λ_ _ h=>h) | refine Sub.put ?_ (by assumption));clear hM;refine rV (x:=.agg #[.chan (some ct),.chan (some ce),.chan (some Jk),.int .u8 0,.int .i64 0,.bool false]) hb rfl rfl rfl (λv1 _=>by
   generalize a.eval = ρ at e34 e35 e36 ⊢
   simp [execOp,e34,e35,e36,go_sem]) λv1 h1 n1=>?_
  replace fo:=fo.qP 37 (.agg #[.chan (some ct),.chan (some ce),.chan (some Jk),.int .u8 0,.int .i64 0,.bool false]) (by rw [hKn]; decide);simp only [bc,aO,aV]
  generalize a.put (some 37) (.agg #[.chan (some ct),.chan (some ce),.chan (some Jk),.int .u8 0,.int .i64 0,.bool false]) = a at fo ⊢
  replace hk:=hk.trans (.eA h1);replace hch:∀ c ∈ [ct,ce,Jk],v.heap.size <= c /\ v1.heap[c]? = some (.chan 0 #[] false 0 0 false):=λc hc=>⟨(hch c hc).1,(h1.old c (aG (hch c hc).2)).trans (hch c hc).2⟩
  clear h1 n1;refine R8 hb rfl rfl rfl λv2 h2 n2=>?_
  have e37:=fo.ev (t:=37) (v:=(.agg #[.chan (some ct),.chan (some ce),.chan (some Jk),.int .u8 0,.int .i64 0,.bool false])) rfl;rw [e37];replace hk:=hk.trans (.eA h2);replace hch:∀ c ∈ [ct,ce,Jk],v.heap.size <= c /\ v2.heap[c]? = some (.chan 0 #[] false 0 0 false):=λc hc=>⟨(hch c hc).1,(h2.old c (aG (hch c hc).2)).trans (hch c hc).2⟩
  obtain⟨sb,hsb⟩:∃ sb,v2.heap.size = sb:=⟨_,rfl⟩;have hN:(Bu sb ct ce Jk [.int .u8 0,.int .i64 0,.bool false]).A { v2 with heap:=v2.heap.push (.cells #[.chan (some ct),.chan (some ce),.chan (some Jk),.int .u8 0,.int .i64 0,.bool false] 156) } :=
   ⟨⟨156,by simp [<- hsb]⟩,λc hc=>((bf.alloc fX v2 _).block c (aG (hch c hc).2) id).trans (hch c hc).2⟩
  have hsz:=hsb ▸ hk.size;replace hk:=hk.trans (.alloc fX v2 (.cells #[.chan (some ct),.chan (some ce),.chan (some Jk),.int .u8 0,.int .i64 0,.bool false] 156));rw [hsb];simp only [Value.cells,bc,aO,aV]
  generalize ({ v2 with heap:=v2.heap.push (.cells #[.chan (some ct),.chan (some ce),.chan (some Jk),.int .u8 0,.int .i64 0,.bool false] 156) }:World) = v3 at hN hk ⊢
  have hlw:=λc hc=>(hch c hc).1
  clear hch h2 n2 hsb e37;replace fo:=fo.qP 38 (.pointer (some ⟨sb,0,none⟩)) (by rw [hKn]; decide)
  generalize a.put (some 38) (.pointer (some ⟨sb,0,none⟩)) = a at fo ⊢
  refine rV (x:=ptr sb) hb rfl rfl rfl (λv1 _=>by have e:=fo.ev (t:=38) rfl; generalize a.eval = ρ at e ⊢; simp [execOp,e,go_sem,ptr]) λv1 h1 n1=>?_
  replace fo:=fo.qP 11 (ptr sb) (by rw [hKn]; decide);simp only [bc,aO,aV]
  generalize a.put (some 11) (ptr sb) = a at fo ⊢
  have hN1:=(Bu sb ct ce Jk _).st v3 v1 (λb hb=>h1.old b (by
   rcases aE.1 hb with rfl | hb
   ·have⟨⟨_,h⟩,_⟩:=hN; exact aG h
   ·exact aG (hN.2 b hb))) hN
  have hlo:∀ b ∈ [sb,ct,ce,Jk],v.heap.size <= b /\ b < v1.heap.size:=λb hb=>by
   rcases aE.1 hb with rfl | hb
   ·have⟨⟨_,h⟩,_⟩:=hN1; exact ⟨hsz,aG h⟩
   ·exact ⟨hlw b hb,aG (hN1.2 b hb)⟩
  replace hk:=hk.trans (.eA h1);refine m39 ?_;refine hc _ a v1 (next sb ct ce Jk hne (λb hb=>az hg.inv.keeps.size (hlo b hb).1) a v1 ⟨fo.sub ?_,hg.inv.add hk hN1 hlo⟩);exact λt e ht=>by
   have:=(Sub.put (Sub.put (λ_ _ h=>h) n37 (e:=(true,(.agg #[.chan (some ct),.chan (some ce),.chan (some Jk),.int .u8 0,.int .i64 0,.bool false])))) n38 (e:=(true,.pointer (some ⟨sb,0,none⟩))));simp only [ie] at ht ⊢;cases hb:Nat.beq 11 t with
   | true=>rw [hb] at ht; simpa using ht
   | false=>rw [hb] at ht; exact this t e ht
end Go.Proofs.YtgnmiaonbadbnaaGreat
namespace Go.Gx
open Go Go.Conc Go.ConcN
open Go.ConcR (KK wgBlock WgAt stA smA rd wr mk Payload DC0 Bk g_of_ofEvents)
variable {s:aC} {w:World}
section
variable {P:Program} {main:Bool} {b:Frame} {a:Act} {k:List Item} {cs:List Frame} {ops:Array Oper} {i:Nat} {rest:List Nat} {o:Oper}
theorem Mf {x:Operand} {qJ:Array TypeId} {m:Nat} (hk:b.kind ≠ .early) (ho:ops[i]? = some o) (hg:o.guard = none) (g9:o.op = .call { callee:=.builtin .close,args:=#[x],argTypes:=qJ }) (IK:o.dst = none) (hx:a.eval x = .chan (some s.ce)) (hc:w.heap[s.ce]? = some (.chan 0 #[] false m m false)) :
 stepG P main (G (b.atR a (.inRegion ops (i :: rest) :: k)) cs) w = .go (G (b.atR a (.inRegion ops rest :: k)) cs) (w.setChan s.ce 0 #[] true m m false) (seen P b.fn (closeEvents s.ce)):=by
 have hk':((b.atR a (.inRegion ops (i :: rest) :: k)).kind == CallKind.early) = false:=by simpa [Frame.atR] using hk
 have hfin:∀ x,(b.atR a _).finish x = b.atR (a.put o.dst x) (.inRegion ops rest :: k):=λx=>by rw [eP,ho]; rfl
 have hw:Region.wanted o (yielded ops a.tmps) = true:=by simp [Region.wanted,hg]
 have e1:(execOp a.eval o).runT P w #[] = (.ok (.value (.tuple #[])) (w.setChan s.ce 0 #[] true m m false),closeEvents s.ce):=by
  have hx':=hx;simp only [Act.eval,eu] at hx';have hr:(execOp a.eval o).run P w = .ok (.value (.tuple #[])) (w.setChan s.ce 0 #[] true m m false):=by
   unfold execOp;simp only [g9];simp [go_sem,hx',run_close_open _ _ hc,World.setChan]
  have he:(execOp a.eval o).events P w #[] = closeEvents s.ce:=by
   unfold execOp;simp only [g9];simp [go_sem,hx',events_close_open _ _ hc,closeEvents]
  rw [pq,hr,he]
 have hp:∀ x,a.put o.dst x = a:=λx=>by rw [IK]; rfl
 rw [mO w ho hw (.inl (by rw [g9]; rfl))];unfold stepG.apply;simp only [if_true,e1,hk',aI,cD,hfin,hp]
 rfl
end
section
variable [av] {Wg k n:Nat} {keep:Nat->Prop} {z:MZ} {v0 v:World}
theorem Sw.same (hn:cI v) {F:Nat->Prop} (hF:∀ b,F b->fq b):Sw F F v v:=⟨rfl,rfl,rfl,aA _,hn,λ_ _ _ _=>rfl,λb hb hnf hl=>hb.elim (λh=>absurd h hnf) λh=>by omega,λb hb=>.inl hb,hF⟩
def MZ.shut (z:MZ) (k:Nat) (s:aC):MZ:={ z with al:=z.al.set k (2,s) }
def UH (hn:cI v) (hk:z.al[k]? = some (n,s)) (hkp:∀ b,keep b->b < v0.heap.size /\ v0.heap[b]? ≠ some dummy) (h:FP Wg keep z v0 v):FP Wg keep (z.shut k s) v0 (qN v (z.al.set k (2,s)) z.G) :=
 JL ⟨_,hk⟩ hkp h h.a.sa (Sw.same hn h.a.pm)
end
section
variable [Payload] [av] {P:Program} {ty:TypeId} {Wg:Nat} {said:Bool->Value->Prop} {g:Goroutine} {v:World} {S:Goroutine->World->Prop} {al:Al} {G:Gh} {k:Nat}
theorem Hi.of {g':Goroutine} {es:Array Event} (h1:DU v al G) (h2:al[k]? = some (0,s)) (h3:g'.status = .running) (h4:∀ e ∈ es,e ∈ closeEvents s.ce) (h5:∀ m,w.heap[s.ce]? = some (.chan 0 #[] false m m false)->stepG P true g w = .go g' (w.setChan s.ce 0 #[] true m m false) es) (h6:S g' (qN v (al.set k (2,s)) G)) :
 (XM P ty Wg said).kind true g v w S:=λ_=>.inr (.inr (.inr (.inl ⟨rfl,al,G,k,s,g',h1,h2,h3,⟨es,h4,h5⟩,h6⟩)))
end
end Go.Gx
namespace Go.Proofs.YtgnmiaonbadbnaaGreat
open Go Go.Gx Go.Conc Go.ConcN Go.RowKit Go.Conc.Lib Go.ConcR.Gen Go.ConcN.Gen
open Go.ConcR (KK wgBlock WgAt stA smA rd wr mk Payload DC0 Bk g_of_ofEvents)
noncomputable def Se:Code:=match Tryz.f15.body.getD .skip with
 | .seq _ (.seq _ (.seq _ (.seq _ (.seq _ (.seq _ (.seq _ (.seq _ (.seq (.seq _ (.block _ (.loop (.seq _ (.seq _ (.seq (.block _ (.seq _ (.seq _ c))) _)))))) _))))))))=>c
 | c=>c
variable [av] {said:Bool->Value->Prop} {Wg k:Nat} {kp:Nat->Prop} {z:MZ} {s:aC} {l0 l1 l2:Value} {w0:World} {M:Nat->Prop} {L:List du} {L':MZ->List du} {Q:Exit->Act->World->Prop} {F F0:Fr}
def jN (said:Bool->Value->Prop) (Wg:Nat) (w0:World) (M:Nat->Prop):Ctx:=⟨101,w0,M,⟨XM Tryz.prog 143 Wg said,0,none⟩⟩
theorem Mg (hS:QR (jN said Wg w0 M) fq kp) [ry L] (hm:HM Wg z ∈ L) (hu:∀ z',mS L (HM Wg z) (HM Wg z') (L' z')) (hk:z.al[k]? = some (0,s)) (hL:z.L k = [l0,l1,l2])
 (hF:Sub F F0) (h17:Gx.look F 17 = some (true,.pointer (some ⟨s.sb,0,none⟩))) (n93:ie F0 93 = none) (n94:ie F0 94 = none) (n95:ie F0 95 = none) (n96:ie F0 96 = none)
 (next:Sat (jN said Wg w0 M) (Q .normal) F0 (L' (z.shut k s))):Sat (jN said Wg w0 M) (Se.oV Tryz.prog (jN said Wg w0 M) Q) F L:=λa v hg main T b ks cs hT hb hr hc=>by
 cases main with
 | false=>exact mnV rfl
 | true =>
 have hro:∀ {v:World},bS (jN said Wg w0 M) L v->∀ {j:Nat} {x:Value},(s.c0 ++ [l0,l1,l2])[j]? = some x->∃ c,v.heap[s.sb]? = some c /\ Ro c j x:=λI _ _ hj=>Tj hm hk (by rw [hL]; exact hj) _ I
 have hKE:(jN said Wg w0 M).E = ⟨_,0,none⟩:=rfl;have hKn:(jN said Wg w0 M).n = 101:=rfl;have hnext:∀ a' v',Gx.Good _ F0 _ a' v'->eB (XM Tryz.prog 143 Wg said) Tryz.prog true _ 0 T _ v':=λa' v' h=>hc _ a' v' (next a' v' h)
 rw [hKE]
 generalize jN said Wg w0 M = K at hS hg hro hnext hKn ⊢
 clear hc next;simp only [Se,Tryz.f15,dM];refine m38 ?_;simp only [bK,aS,bw,Nat.reduceAdd,a9,List.range,List.range.loop];refine rV (x:=.pointer (some ⟨s.sb,0,none⟩)) hb rfl rfl rfl (λv1 _=>by have e:=hg.fo.ev h17; simp_all [execOp]) λv1 h1 n1=>?_
 replace hg:=hg.qP h1 93 (.pointer (some ⟨s.sb,0,none⟩)) (by rw [hKn]; decide);simp only [bc,aO,aV,a9,Nat.reduceAdd]
 generalize a.put (some 93) (.pointer (some ⟨s.sb,0,none⟩)) = a at hg ⊢
 refine Zm hb rfl rfl rfl (hg.fo.ev rfl) λv1 h1 n1=>?_
 replace hg:=hg.qP h1 94 (Value.pointer (some ⟨s.sb,0,none⟩)) (by rw [hKn]; decide);simp only [bc,aO,aV,a9,Nat.reduceAdd]
 generalize a.put (some 94) (Value.pointer (some ⟨s.sb,0,none⟩)) = a at hg ⊢
 refine Zn (j:=1) hb rfl rfl rfl (hg.fo.ev rfl) zk λv1 h1 n1=>?_
 replace hg:=hg.qP h1 95 (Value.pointer (some ⟨s.sb,1,none⟩)) (by rw [hKn]; decide);simp only [bc,aO,aV,a9,Nat.reduceAdd]
 generalize a.put (some 95) (Value.pointer (some ⟨s.sb,1,none⟩)) = a at hg ⊢
 refine Vm hb rfl rfl rfl (hg.fo.ev rfl) Tryz.isAgg148 (hro hg.inv rfl) λv1 h1 n1=>?_
 replace hg:=hg.qP h1 96 (Value.chan (some s.ce)) (by rw [hKn]; decide);simp only [bc,aO,aV,a9,Nat.reduceAdd]
 generalize a.put (some 96) (Value.chan (some s.ce)) = a at hg ⊢
 refine .gen rfl false (λe=>by cases e) λv1 w m _=>.inr ?_
 have I1:=hg.inv.grow (.eA m.grow);have hA1:Bg Wg z v1:=(I1.own _ hm).1;have ha:FP Wg _ z v1 v1:=⟨.refl _ _,hA1,λb hb hk'=>(pK hS I1 hm b hk').2.2 hb⟩;have Lz:=UH m.nv hk (λb hb=>⟨(pK hS I1 hm b hb).1,(pK hS I1 hm b hb).2.1⟩) ha;refine Hi.of hA1.gm hk rfl (λe he=>oU he) (λn hn=>Mf hb rfl rfl rfl rfl (hg.fo.ev rfl) hn) ?_;have fo:=hg.fo
 generalize qN v1 (z.al.set k (2,s)) z.G = v9 at Lz ⊢
 refine m39 ?_;refine hnext a v9 (Good.sub ⟨fo,I1.Q9 hS (hu _) Lz.kp Lz.a (DG Lz)⟩ ?_ (aY _));exact Sub.put (Sub.put (Sub.put (Sub.put hF n93) n94) n95) n96
end Go.Proofs.YtgnmiaonbadbnaaGreat
namespace Go.Gx
def MZ.kH (z:MZ) (k:Nat):MZ:={ z with al:=(z.al.take k).map (λa=>(2,a.2)) ++ z.al.drop k }
end Go.Gx
namespace Go.Proofs.YtgnmiaonbadbnaaGreat
open Go Go.Gx
variable {b k Wg b1 rp:Nat} {z:MZ} {i:Int} {said:Bool->Value->Prop} {jk fs:List OV} {x xp:cz} {tl:List eR} {F:Fr} {L:List du} {cs:List Frame} {K:Ctx} {X:Act->World->Prop} {p:fU} {xs:List Int} {α:Type} {E:En} {V0 v w0 u0 w v1 u:World} {Q:Exit->Act->World->Prop} {ou tu:Value} {a:Act} {M pm:Nat->Prop} {P:Program}
def ptO (b:Nat):OV:=⟨.pointer (some ⟨b,0,none⟩),rfl⟩
abbrev YK:=List Int->Gh->List eR->List Nat->(Nat->gW)->Prop
variable {Iv:YK}
def VA (z:MZ):List Nat:=z.al.map (·.1)
def upM (ms:Nat->gW) (k:Nat) (m:gW):Nat->gW:=λj=>if j = k then m else ms j
def Mr (n:Nat):List Int:=(List.range n).map λk:Nat=>(k:Int)
def HY (n:Nat):Nat->List Int
 | 0=>[]
 | r + 1=>HY n r ++ Mr n
theorem xm (z:MZ):(VA z).length = z.al.length:=by simp [VA]
theorem TG (z:MZ) (k:Nat):(VA z).getD k 0 = (pZ z k).1:=by
 grind [VA,pZ]
theorem NY (z:MZ) (h:0 <= i):(VA z).getD i.toNat 0 = (pZ z i).1:=by
 grind [TG]
section
variable [av] {sv cv:OV} {aq:List Int} {z':MZ} {ms:Nat->gW}
structure Ek (said:Bool->Value->Prop) (Iv:YK):Prop where
 start:∀ ms,Iv [] av.G0 [] [] ms
 hire:∀ {G G' fl ms b m},Iv [] G [] fl ms->fl.length < av.n->said b (mJ m b)->av.St fl.length (mJ m b) G G'->Iv [] G' [] (fl ++ [if b then 0 else 1]) (upM ms fl.length m)
 skip:∀ {aq G tl fl ms} {i:Int},Iv aq G tl fl ms->¬ (0 <= i /\ i < fl.length /\ fl.getD i.toNat 0 = 1)->Iv (aq ++ [i]) G tl fl ms
 uf:∀ {aq G G' tl fl ms b m} {i:Int},Iv aq G tl fl ms->0 <= i->i < fl.length->fl.getD i.toNat 0 = 1->said b (mJ m b)->av.St i.toNat (mJ m b) G G'->Iv (aq ++ [i]) G' (tl ++ [⟨i,ms i.toNat⟩]) (fl.set i.toNat (if b then 0 else 1)) (upM ms i.toNat m)
 xQ:∀ {aq G F tl fl ms v},Iv aq G tl fl ms->av.SA G F v->tl.length < 16384
structure PJ (Iv:YK) (jk:List OV) (sv cv:OV) (aq:List Int) (z:MZ) (x:cz) (tl:List eR) (ms:Nat->gW):Prop where
 ok:vj z jk ms
 iv:Iv aq z.G tl (VA z) ms
 l:z.l = qR 0
 n:z.al.length = av.n
 s:x.fV = sv
 c:x.ft.cut = cv
theorem PJ.take (H:Ek said Iv) (h:PJ Iv jk sv cv aq z x tl ms) {r:Bool × MZ × cz × List eR} (hJ:UW said z x tl ms i r) :
 ∃ Xf,PJ Iv jk sv cv (aq ++ [i]) r.2.1 r.2.2.1 r.2.2.2 Xf /\ (r.1 = false->r.2 = (z,x,tl) /\ ¬ (0 <= i /\ i < z.al.length /\ (pZ z i).1 = 1)) /\ (r.1 = true->r.2.2.2.length = tl.length + 1):=by
 have⟨b,z',x',MR⟩:=r;have⟨h0,h1⟩:=hJ;cases b with
 | false =>
   have⟨e,hno⟩:=h0 rfl;obtain⟨rfl,rfl,rfl⟩:=e;refine ⟨ms,⟨h.ok,H.skip h.iv λ⟨a,b,c⟩=>hno ⟨a,by rwa [xm] at b,by rwa [NY _ a] at c⟩,h.l,h.n,h.s,h.c⟩,λ_=>⟨rfl,hno⟩,λe=>(by cases e)⟩
 | true =>
   have⟨⟨a1,a2,a3⟩,b,m,G',F',o,hs,C9,e⟩:=h1 rfl;obtain⟨rfl,rfl,rfl⟩:=e;have hsl:i < jk.length:=by rw [h.ok.len]; exact a2
   refine ⟨upM ms i.toNat m,⟨h.ok.told a1 hsl,?_,h.l,?_,h.s,h.c⟩,λe=>(by cases e),λ_=>by simp⟩
   ·have:=H.uf h.iv a1 (by rwa [xm]) (by rwa [NY _ a1]) hs C9
    grind [VA,pZ,U8,Gx.I,MZ.told,MZ.set,List.map_set]
   ·rw [<- h.n]; simp [MZ.told,MZ.set]
theorem PJ.none (h:PJ Iv jk sv cv aq z x tl ms) (hk:k < av.n) (hd:(pZ z k).1 ≠ 1):(pZ z k).1 = 0:=(h.ok.one k).elim id λe=>absurd e hd
structure PH (Iv:YK) (cv tv:OV) (jk:List OV) (x:cz) (z:MZ) (ms:Nat->gW):Prop where
 ok:vj z jk ms
 iv:Iv [] z.G [] (VA z) ms
 r:∀ k,z.al.length <= k->av.R k av.G0 z.G
 c:x.ft.cut = cv
 t:x.ft.trace = tv
def Nv [av]:MZ:=⟨[],av.G0,av.F0,[0,av.n - 1,5],λ_=>[]⟩
theorem PH.start (H:Ek said Iv) {ms:Nat->gW}:PH Iv x.ft.cut x.ft.trace [] x Nv ms :=
 ⟨⟨rfl,λk hk=>absurd hk (eC _),λk hk=>absurd hk (eC _),λk=>.inl (by rfl)⟩,H.start ms,λk _=>av.rr _ _,rfl,rfl⟩
theorem Hb {n:Nat} {s:aC} {G:Gh} {F:Nat->Prop} {l:List Nat} {L:List Value} (k:Nat):pZ (z.app n s G F l L) k = if k = z.al.length then (n,s) else pZ z k:=by
 grind [pZ,MZ.app]
theorem PH.hire (qd:∀ b v,said b v->∃ m,v = mJ m b) (H:Ek said Iv) {tv:OV} (h:PH Iv cv tv jk x z ms) (hn:z.al.length < av.n) {r sb ct ce cs:Nat} (hJ:Qv said r z sb ct ce cs z') :
 ∃ Xf,(∀ o:OV,PH Iv cv tv (jk ++ [ptO sb]) { x with fV:=o } z' Xf) /\ z'.al.length = z.al.length + 1 /\ z'.l = qR r:=by
 obtain⟨b,op,word,bx,G',F',rfl,hs,C9⟩:=hJ;have⟨m,hm⟩:=qd _ _ hs;obtain⟨rfl,rfl⟩:op = U8 m.op /\ word = Gx.I m.word:=by
  grind [mJ,Value.agg.injEq]
 refine ⟨upM ms z.al.length m,λo=>⟨⟨by simp [MZ.app,h.ok.len],λk hk=>?_,λk hk=>?_,λk=>?_⟩,?_,λk hk=>?_,h.c,h.t⟩,by simp [MZ.app],rfl⟩
 ·have hk':k < z.al.length + 1:=by simpa [MZ.app] using hk
  rw [Hb];split
  ·rename_i e;subst e;rw [<- h.ok.len,cE,jF (aA _)];simp only [oF,fL,dM]
   rfl
  ·have hk2:k < z.al.length:=by omega
   rw [<- h.ok.pt k hk2,cE,eX (by rw [h.ok.len]; exact hk2),<- cE]
 ·have hk':k < z.al.length + 1:=by simpa [MZ.app] using hk
  rw [Hb];simp only [MZ.app,upM];split
  ·simp
  ·exact h.ok.L k (by omega)
 ·rw [Hb];split
  ·simp
  ·exact h.ok.one k
 ·have:=H.hire h.iv (by rwa [xm]) hs (by rwa [xm])
  grind [xm,VA,qR,U8,Gx.I,MZ.app]
 ·have hk':z.al.length + 1 <= k:=by simpa [MZ.app] using hk
  exact av.rs (h.r k (by omega)) (by omega) C9
theorem M1 (hk:k < z.al.length) (h0:(pZ z k).1 = 0):(z.kH k).al[k]? = some (0,(pZ z k).2):=by
 grind [pZ,MZ.kH]
theorem OS (hk:k < z.al.length):(z.kH k).shut k (pZ z k).2 = z.kH (k + 1):=by
 have h1:z.al[k]? = some (pZ z k):=by simp [pZ,cE,hk]
 simp only [MZ.kH,MZ.shut,MZ.mk.injEq,and_self,mW];have h2:((z.al.take k).map λa:Nat × aC=>(2,a.2)).length = k:=by simp; omega
 apply eZ;intro j;rw [List.getElem?_set]
 rcases Nat.lt_trichotomy k j with e | e | e
 ·grind
 ·grind
 grind
theorem ada:z.kH 0 = z:=by rfl
end
variable {l:List Nat}
theorem S5 {p:Prop} (h:∀ w,bS K L w->p) (next:p->Sat K X F L):Sat K X F L:=λa w G=>next (h w G.inv) a w G
def OH:ot 64 (dJ iG):=oq
def ait:zI 147 (dJ dB):=kI
def aee:DV 147 (dJ dB) 8:=kB
def ad4:Eo (dJ dB):=Hk _
noncomputable def Ab:Code:=match Tryz.f15.body.getD .skip with
 | .seq _ (.seq _ (.seq _ (.seq _ c)))=>c
 | c=>c
theorem Kp (d:Int) {j:Int} (h0:0 <= j) (h1:j < xs.length):xs.take (j + 1).toNat = xs.take j.toNat ++ [xs.getD j.toNat d]:=by
 simp_all; omega
theorem Rr {o:OV} (E:dy α) (T:TypeId) (ho:o = aM) (h:Sat K X F (bY o.v E [] T :: L)):Sat K X F L:=by subst ho; exact jf E T h
theorem Qo {k:Int} (h:0 <= k):Mr (k + 1).toNat = Mr k.toNat ++ [k]:=by
 rw [show (k + 1).toNat = k.toNat + 1 by omega]
 grind [Mr,List.range_succ]
section
variable {tk mo2:Bool} {z' z2:MZ} {xp' VN:cz} {MR QC:List eR} {k:Int}
theorem ahB (hno:mo2 = false->∀ j:Nat,(j:Int) < k->(pZ z2 j).1 ≠ 1) (hnot:tk = false->(z',xp',MR) = (z2,VN,QC) /\ ¬ (0 <= k /\ k < z2.al.length /\ (pZ z2 k).1 = 1)) (hk:0 <= k /\ k < z2.al.length) (e:(tk || mo2) = false):∀ j:Nat,(j:Int) < k + 1->(pZ z' j).1 ≠ 1:=by grind
theorem afw (afP:mo2 = true->tl.length < QC.length) (hle:tl.length <= QC.length) (Xw:tk = true->MR.length = QC.length + 1) (hnot:tk = false->(z',xp',MR) = (z2,VN,QC) /\ ¬ (0 <= k /\ k < z2.al.length /\ (pZ z2 k).1 = 1)) (e:(tk || mo2) = true):tl.length < MR.length:=by
 cases tk with
 | true=>grind
 | false =>
   grind
theorem Xg (hle:tl.length <= QC.length) (Xw:tk = true->MR.length = QC.length + 1) (hnot:tk = false->(z',xp',MR) = (z2,VN,QC) /\ ¬ (0 <= k /\ k < z2.al.length /\ (pZ z2 k).1 = 1)):tl.length <= MR.length:=by
 cases tk with
 | true=>grind
 | false =>
   grind
end
noncomputable def KU:Code:=match Ab with
 | .seq _ (.seq c _)=>c
 | c=>c
noncomputable def Gj:Code:=match Ab with
 | .seq _ (.seq _ (.seq c _))=>c
 | c=>c
noncomputable def Gi:Code:=match Ab with
 | .seq _ (.seq _ (.seq _ (.seq c _)))=>c
 | c=>c
noncomputable def Gg:Code:=match Ab with
 | .seq _ (.seq _ (.seq _ (.seq _ (.seq c _))))=>c
 | c=>c
noncomputable def Ng:Code:=match Ab with
 | .seq _ (.seq _ (.seq _ (.seq _ (.seq _ c))))=>c
 | c=>c
theorem HH {K:Ctx} {F F':Fr} {L L':List du} {X:Act->World->Prop} (hF:Sub F F') (hL:lP L' L) (h:Sat K X F' L'):Sat K X F L:=λa w G=>h a w ⟨(G.sub hF (aY _)).fo,G.inv.HH hL⟩
section
variable [av] {rp:Value} {aq:List Int} {sv:OV} {ms:Nat->gW}
theorem aff (qd:∀ b v,said b v->∃ m,v = mJ m b) (H:Ek said Iv) (hN:av.N0 <= V0.heap.size) (abI:av.n <= 16) (ms0:Nat->gW) (QH:said true (.agg #[.int .u8 0,.int .i64 0,.bool true])) (abF:∀ w,bf fq V0 w->bU (dJ iG) w tu fs) (hn:fs.length = av.n) (QI:0 < av.n) (hfs:∀ k,k < av.n->∃ f cap,(dJ iG).val (fs.getD k (dJ iG).zero) = .func (.func f) #[] cap /\ dV Tryz.prog f /\ wP said V0 k f cap)
 (next:∀ jk sv z xp ms,PJ Iv jk sv aM [] z xp [] ms->Sat (jN said Wg V0 fq) (Q .normal) [dz,(0,true,ou),(4,true,rp),(7,true,ptr Wg),(8,true,.pointer (some ⟨b1,0,none⟩))] [HM Wg z,Var b1 c7 xp 146,bY xp.fV.v (dJ dB) jk 147,bY xp.ft.trace.v fy [] 169]):Sat (jN said Wg V0 fq) (KU.oV Tryz.prog (jN said Wg V0 fq) Q) [dz,(0,true,ou),(1,true,tu),(4,true,rp),(7,true,ptr Wg),(8,true,.pointer (some ⟨b1,0,none⟩))] [Var b1 c7 c7.zero 146,HM Wg Nv]:=by
 have hS:QR (jN said Wg V0 fq) fq _:=⟨λb=>⟨λh=>⟨h,id⟩,λh=>h.1⟩,λ_ h=>h.elim⟩;refine m1 ?_;refine co (Ev.len Z7 aa (λw I=>abF w I.keeps)) ?_;refine m83 ?_;refine jf (dJ dB) 147 ?_;refine lp (X:=Int × MZ × cz × (List OV) × (Nat->gW)) (λx=>(0 <= x.1 /\ x.1 <= fs.length) /\ ((x.2.1.al.length:Int) = x.1) /\ (x.2.1.l = qR (av.n - x.1.toNat)) /\ (PH Iv aM aM x.2.2.2.1 x.2.2.1 x.2.1 x.2.2.2.2)) (λx=>[dz,(0,true,ou),(1,true,tu),(4,true,rp),(7,true,ptr Wg),(8,true,jc b1),(28,true,tu),(29,true,I fs.length),(30,true,I x.1)]) (λx=>[bY x.2.2.1.fV.v _ x.2.2.2.1 147,Var b1 c7 x.2.2.1 146,HM Wg x.2.1]) (λx=>(fs.length - x.1).toNat) (0,Nv,c7.zero,[],ms0) ⟨?_,?_,?_,?_⟩ (λx hx=>?_)
 ·omega
 ·rfl
 ·show _ = qR (av.n - 0);obtain⟨m,hm⟩:∃ m,av.n = m + 1:=⟨av.n - 1,by omega⟩;simp only [Nv,hm]; rfl
 ·exact PH.start (x:=c7.zero) H
 have⟨i,z,xp,jk,ms⟩:=x;dsimp only at hx;have⟨hi,hzn,hl,hPH⟩:=hx;refine m9 ?_
 first | refine Jq rfl (λhlt=>?_) (λhge=>?_) | refine cond rfl (λhlt=>?_) (λhge=>?_)
 ·
  try simp only [Gx.nb] at hlt
  refine m21 ?_;refine seq ?_;have⟨f,cap,hfv,om,hTh⟩:=hfs i.toNat (by omega);replace hTh:wP said V0 z.al.length f cap:=by rwa [show z.al.length = i.toNat by omega]
  have hsl:=hPH.ok.len;refine region (co (Ev.indexAddr Z7 OH aa aa (λw I=>abF w I.keeps) (λ_=>zo)) ?_);refine co (Ev.to (Ev.eT OH aa (λw I=>abF w I.keeps) (λ_=>zo)) (hfv)) ?_;refine vK rfl (nP (seq (OZ (F0:=[(10,true,.func _ #[] cap),dz,(0,true,ou),(1,true,tu),(4,true,rp),(7,true,ptr Wg),(8,true,.pointer _),(28,true,tu),(29,true,I fs.length),(30,true,I i)]) rfl (by repeat first | exact Sub.nil | refine Sub.cons rfl ?_) rfl rfl rfl rfl rfl rfl (λsb ct ce cs hne hlo=>?_))));refine pN ?_;refine m208 ?_;refine mI (r:=HM Wg z) zr zr ?_;refine cons (Bd (r':=HM Wg) (L':=λz'=>[HM Wg z',bY xp.fV.v (dJ dB) jk 147,Var b1 c7 xp 146]) hS (Qv said (av.n - 1 - i.toNat) z sb ct ce cs) _ (λ_=>mS.head) ah eN (o3 rfl rfl rfl) (λw kp I hA hk=>aaR (V0:=V0) (by omega) (hl.trans (by rw [show av.n - i.toNat = (av.n - 1 - i.toNat) + 1 by omega]; rfl)) (λb v h=>by obtain⟨m,rfl⟩:=qd b v h; exact ⟨_,_,rfl,rfl,rfl⟩) QH om (hPH.r _ (aA _)) hTh w (az hN I.keeps.size) I.keeps hA hk (λb hb=>az hN (hlo b hb)) hne) (λz' hJ=>?_));have⟨Xf,aoO,hn',hl'⟩:=hPH.hire qd H (by omega) hJ;refine nP (region (cf 0 rfl ?_));refine co (Ev.gS Ey aa cz.tL) ?_;refine m27 ?_;refine buildSlice JS AL ait (.cons (.t (v:=(ptO sb).v) rfl) .nil) rfl rfl (λv1=>?_);refine cons (vL JS AL aee ad4 aa aa (λv2=>?_));refine m214 ?_;refine j8 Ey cz.tL aa aa ?_;refine m145 ?_;refine mv rfl (nP (Sv (i + 1,z',{ xp with fV:=v2 },jk ++ [ptO sb],Xf) ⟨?_,?_,?_,?_⟩ ?_))
  ·omega
  ·grind
  ·grind
  ·grind
  omega
 ·
  refine m102 ?_;obtain⟨sv,hsv⟩:∃ sv,xp.fV = sv:=⟨_,rfl⟩;have hPJ0:PJ Iv jk sv aM [] z xp [] ms:=⟨hPH.ok,hPH.iv,hl.trans (by rw [show av.n - i.toNat = 0 by omega]),by omega,hsv,hPH.c⟩;refine Rr fy 169 hPH.t ?_;refine HH (by repeat first | exact Sub.nil | refine Sub.cons rfl ?_) zp (next _ _ _ _ _ hPJ0)
theorem aa0 (qd:∀ b v,said b v->∃ m,v = mJ m b) (H:Ek said Iv) (hN:av.N0 <= V0.heap.size) (abI:av.n <= 16) (hxl:xs.length <= 16384) (Th:∀ w,bf fq V0 w->bU iE w ou xs) (hPJ0:PJ Iv jk sv aM [] z xp [] ms)
 (next:∀ z xp tl ms,PJ Iv jk sv aM xs z xp tl ms->Sat (jN said Wg V0 fq) (Q .normal) [dz,(4,true,rp),(7,true,ptr Wg),(8,true,.pointer (some ⟨b1,0,none⟩))] [HM Wg z,Var b1 c7 xp 146,bY xp.fV.v (dJ dB) jk 147,bY xp.ft.trace.v fy tl 169]):Sat (jN said Wg V0 fq) (Gj.oV Tryz.prog (jN said Wg V0 fq) Q) [dz,(0,true,ou),(4,true,rp),(7,true,ptr Wg),(8,true,.pointer (some ⟨b1,0,none⟩))] [HM Wg z,Var b1 c7 xp 146,bY xp.fV.v (dJ dB) jk 147,bY xp.ft.trace.v fy [] 169]:=by
 have hS:QR (jN said Wg V0 fq) fq _:=⟨λb=>⟨λh=>⟨h,id⟩,λh=>h.1⟩,λ_ h=>h.elim⟩;refine m1 ?_;refine co (Ev.len Ei aa (λw I=>Th w I.keeps)) ?_;refine m26 ?_;refine nP (block (lp (X:=Int × MZ × cz × (List eR) × (Nat->gW)) (λx=>(0 <= x.1 /\ x.1 <= xs.length) /\ (PJ Iv jk sv aM (xs.take x.1.toNat) x.2.1 x.2.2.1 x.2.2.2.1 x.2.2.2.2)) (λx=>[dz,(4,true,rp),(7,true,ptr Wg),(8,true,jc b1),(49,true,ou),(50,true,I xs.length),(51,true,I x.1)]) (λx=>[HM Wg x.2.1,Var b1 c7 x.2.2.1 146,bY x.2.2.1.fV.v _ jk 147,bY x.2.2.1.ft.trace.v fy x.2.2.2.1 169]) (λx=>(xs.length - x.1).toNat) (0,z,xp,[],ms) ⟨?_,?_⟩ (λx hx=>?_)))
 ·omega
 ·grind
 have⟨j,z,xp,tl,ms⟩:=x;dsimp only at hx;have⟨hj,tw⟩:=hx;refine m9 ?_
 first | refine Jq rfl (λhlt=>?_) (λhge=>?_) | refine cond rfl (λhlt=>?_) (λhge=>?_)
 ·
  refine m191 ?_;refine co (Ev.indexAddr Ei l9 aa aa (λw I=>Th w I.keeps) (λ_=>zo)) ?_;refine co (Ev.to (v':=I (xs.getD j.toNat iE.zero)) (Ev.eT l9 aa (λw I=>Th w I.keeps) (λ_=>zo)) (rfl)) ?_;refine m231 ?_;refine mI (r:=bY xp.fV.v _ jk 147) (s:=bY xp.ft.trace.v fy tl 169) zr zr ?_;refine mI (r:=Var b1 c7 xp 146) zr .head ?_;refine mI (r:=HM Wg z) zr .head ?_;refine cons (Bd hS _ _ (λ_=>mS.head) ah eN (o2 rfl rfl) (λw kp I hA hk=>MT qd b1 xp jk tl z ms _ w kp hA (λb hb=>((I.own _ ah).2 b hb).1.elim (λh=>.inl (az hN h)) id) hk (az hN I.keeps.size) (by rw [tw.l]; rfl) tw.ok (H.xQ tw.iv hA.1.1.sa)) (λr hJ=>?_));have⟨Xf,abW,hnot,Xw⟩:=tw.take H hJ;have⟨tk,z',xp',MR⟩:=r;refine m144 ?_;refine S5 (p:=MR.length < 16384) (λw I=>H.xQ abW.iv ((I.own (HM Wg z') (by simp)).1:Bg Wg z' w).sa) (λajJ=>?_);refine m145 ?_;refine mv rfl (nP (Sv (j + 1,z',xp',MR,Xf) ⟨?_,?_⟩ ?_))
  ·omega
  ·grind [Kp]
  omega
 ·
  refine m102 ?_;rw [bH (by omega)] at tw;refine Sat.sub (by repeat first | exact Sub.nil | refine Sub.cons rfl ?_) (aY _) (next _ _ _ _ tw)
theorem aaZ (qd:∀ b v,said b v->∃ m,v = mJ m b) (H:Ek said Iv) (hN:av.N0 <= V0.heap.size) (abI:av.n <= 16) (ajS:PJ Iv jk sv aM xs z xp tl ms)
 (next:∀ aq z xp tl ms,PJ Iv jk sv aM aq z xp tl ms->(∀ k:Nat,k < z.al.length->(pZ z k).1 = 0)->(∃ r,aq = xs ++ HY av.n r)->Sat (jN said Wg V0 fq) (Q .normal) [dz,(4,true,rp),(7,true,ptr Wg),(8,true,.pointer (some ⟨b1,0,none⟩))] [HM Wg z,Var b1 c7 xp 146,bY xp.fV.v (dJ dB) jk 147,bY xp.ft.trace.v fy tl 169]):Sat (jN said Wg V0 fq) (Gi.oV Tryz.prog (jN said Wg V0 fq) Q) [dz,(4,true,rp),(7,true,ptr Wg),(8,true,.pointer (some ⟨b1,0,none⟩))] [HM Wg z,Var b1 c7 xp 146,bY xp.fV.v (dJ dB) jk 147,bY xp.ft.trace.v fy tl 169]:=by
 have hS:QR (jN said Wg V0 fq) fq _:=⟨λb=>⟨λh=>⟨h,id⟩,λh=>h.1⟩,λ_ h=>h.elim⟩;refine m12 ?_;refine block (S5 (λw I=>H.xQ ajS.iv ((I.own _ ah).1:Bg Wg z w).sa) (λaol=>?_));refine lp (λx=>(PJ Iv jk sv aM x.2.1 x.2.2.1 x.2.2.2.1 x.2.2.2.2.1 x.2.2.2.2.2) /\ (∃ r,x.2.1 = xs ++ HY av.n r) /\ (x.1 = false->∀ k < av.n,(pZ x.2.2.1 k).1 ≠ 1) /\ (x.2.2.2.2.1.length < 16384)) (λx=>[dz,(4,true,rp),(7,true,ptr Wg),(8,true,jc b1),(14,true,.bool x.1)]) (λx=>[HM Wg x.2.2.1,Var b1 c7 x.2.2.2.1 146,bY x.2.2.2.1.fV.v _ jk 147,bY x.2.2.2.1.ft.trace.v fy x.2.2.2.2.1 169]) (λx=>bif x.1 then 16385 - x.2.2.2.2.1.length else 0) (true,xs,z,xp,tl,ms) ⟨?_,?_,?_,?_⟩ (λx hx=>?_)
 ·omega
 ·exact ⟨0,by simp [HY]⟩
 ·simp
 ·omega
 have⟨mo,aq,z,xp,tl,ms⟩:=x;dsimp only at hx;have⟨tw,has,hmo,hfw⟩:=hx;have hsl:=tw.ok.len;have hsn:=tw.n;refine m16 ?_;refine nP ?_
 first | refine Jq rfl (λhmt=>?_) (λhmf=>?_) | refine cond rfl (λhmt=>?_) (λhmf=>?_)
 ·
  try simp only [Gx.nb] at hmt
  refine m8 ?_;refine block ?_;refine m12 ?_;refine m35 ?_;refine co (Ev.gS Ey aa cz.tL) ?_;refine co (Ev.len JS aa zf) ?_;refine m26 ?_;refine nP (block (lp (X:=Int × Bool × MZ × cz × (List eR) × (Nat->gW)) (λx=>(0 <= x.1 /\ x.1 <= jk.length) /\ (PJ Iv jk sv aM (aq ++ Mr x.1.toNat) x.2.2.1 x.2.2.2.1 x.2.2.2.2.1 x.2.2.2.2.2) /\ (x.2.1 = false->∀ j:Nat,(j:Int) < x.1->(pZ x.2.2.1 j).1 ≠ 1) /\ (x.2.1 = true->tl.length < x.2.2.2.2.1.length) /\ (tl.length <= x.2.2.2.2.1.length) /\ (x.2.2.2.2.1.length < 16384)) (λx=>[dz,(4,true,rp),(7,true,ptr Wg),(8,true,jc b1),(14,true,.bool x.2.1),(61,true,I jk.length),(62,true,I x.1)]) (λx=>[HM Wg x.2.2.1,Var b1 c7 x.2.2.2.1 146,bY x.2.2.2.1.fV.v _ jk 147,bY x.2.2.2.1.ft.trace.v fy x.2.2.2.2.1 169]) (λx=>(jk.length - x.1).toNat) (0,false,z,xp,tl,ms) ⟨?_,?_,?_,?_,?_,?_⟩ (λx hx=>?_)))
  ·omega
  ·simpa [Mr] using tw
  ·omega
  ·simp
  ·simp
  ·omega
  have⟨k,mo2,z2,VN,QC,ms2⟩:=x;dsimp only at hx;have⟨hk,PF,hno,afP,ajB,aok⟩:=hx;have anM:=PF.ok.len;have anL:=PF.n;refine m9 ?_
  first | refine Jq rfl (λhlt=>?_) (λhge=>?_) | refine cond rfl (λhlt=>?_) (λhge=>?_)
  ·
   refine m150 ?_;refine m231 ?_;refine mI (r:=bY VN.fV.v _ jk 147) (s:=bY VN.ft.trace.v fy QC 169) zr zr ?_;refine mI (r:=Var b1 c7 VN 146) zr .head ?_;refine mI (r:=HM Wg z2) zr .head ?_;refine cons (Bd hS _ _ (λ_=>mS.head) ah eN (o2 rfl rfl) (λw kp I hA hk=>MT qd b1 VN jk QC z2 ms2 k w kp hA (λb hb=>((I.own _ ah).2 b hb).1.elim (λh=>.inl (az hN h)) id) hk (az hN I.keeps.size) (by rw [PF.l]; rfl) PF.ok (H.xQ PF.iv hA.1.1.sa)) (λr hJ=>?_));have⟨Xf,abW,hnot,Xw⟩:=PF.take H hJ;have⟨tk,z',xp',MR⟩:=r;refine m144 ?_;refine S5 (p:=MR.length < 16384) (λw I=>H.xQ abW.iv ((I.own (HM Wg z') (by simp)).1:Bg Wg z' w).sa) (λajJ=>?_);refine m5 ?_;refine m25 ?_;refine m283 ?_;refine mv rfl (nP (Sv (k + 1,_,z',xp',MR,Xf) ⟨?_,?_,?_,?_,?_,?_⟩ ?_))
   ·omega
   ·grind [Qo]
   ·grind
   ·grind
   ·exact Xg ajB Xw hnot
   ·omega
   omega
  ·
   refine exit (pX (pX (bX (bN (pN (Sv (mo2,aq ++ Mr av.n,z2,VN,QC,ms2) ⟨?_,?_,?_,?_⟩ ?_))))))
   ·grind
   ·have⟨r,hr⟩:=has; exact ⟨r + 1,by rw [hr]; simp [HY]⟩
   ·grind
   ·omega
   grind
 ·
  refine m102 ?_;have pM:=λk hk=>tw.none (by rw [<- tw.n]; exact hk) (hmo (by simpa using hmf) k (by rw [<- tw.n]; exact hk))
  refine Sat.sub (by repeat first | exact Sub.nil | refine Sub.cons rfl ?_) (aY _) (next _ _ _ _ _ tw pM has)
theorem aaY (qd:∀ b v,said b v->∃ m,v = mJ m b) (H:Ek said Iv) (hN:av.N0 <= V0.heap.size) (abI:av.n <= 16) (tw:PJ Iv jk sv aM aq z xp tl ms) (pM:∀ k:Nat,k < z.al.length->(pZ z k).1 = 0)
 (next:Sat (jN said Wg V0 fq) (Q .normal) [dz,(4,true,rp),(7,true,ptr Wg),(8,true,.pointer (some ⟨b1,0,none⟩))] [HM Wg (z.kH z.al.length),Var b1 c7 xp 146,bY xp.fV.v (dJ dB) jk 147,bY xp.ft.trace.v fy tl 169]):Sat (jN said Wg V0 fq) (Gg.oV Tryz.prog (jN said Wg V0 fq) Q) [dz,(4,true,rp),(7,true,ptr Wg),(8,true,.pointer (some ⟨b1,0,none⟩))] [HM Wg z,Var b1 c7 xp 146,bY xp.fV.v (dJ dB) jk 147,bY xp.ft.trace.v fy tl 169]:=by
 have hS:QR (jN said Wg V0 fq) fq _:=⟨λb=>⟨λh=>⟨h,id⟩,λh=>h.1⟩,λ_ h=>h.elim⟩;refine m35 ?_;refine co (Ev.to (Ev.gS Ey aa cz.tL) (aL OV.v tw.s)) ?_;refine co (Ev.len JS aa (λw I=>by rw [<- tw.s]; exact io w I)) ?_;refine m83 ?_;refine lpo (X:=Int) (λx=>(0 <= x /\ x <= jk.length)) (λx=>[dz,(4,true,rp),(7,true,ptr Wg),(8,true,jc b1),(72,true,sv.v),(73,true,I jk.length),(74,true,I x)]) (λx=>[HM Wg (z.kH x.toNat),Var b1 c7 xp 146,bY xp.fV.v _ jk 147,bY xp.ft.trace.v fy tl 169]) (λx=>(jk.length - x).toNat) (0) (λx hx=>?_);obtain⟨k,rfl⟩:∃ y,y = x:=⟨x,rfl⟩;have hk:=hx;have hsl:=tw.ok.len;have hsn:=tw.n;refine m9 ?_
 first | refine Jq rfl (λhlt=>?_) (λhge=>?_) | refine cond rfl (λhlt=>?_) (λhge=>?_)
 ·
  refine m21 ?_;refine seq ?_;have hkn:k.toNat < z.al.length:=by have:=tw.n; omega
  have hLk:(z.kH k.toNat).L k.toNat = [U8 (ms k.toNat).op,I (ms k.toNat).word,.bool true]:=by rw [show (z.kH k.toNat).L = z.L from rfl,tw.ok.L k.toNat hkn,pM k.toNat hkn]; rfl
  refine region (mv rfl (co (Ev.indexAddr JS AL aa aa (λw I=>by rw [<- tw.s]; exact io w I) (λ_=>by omega)) ?_));refine co (Ev.to (Ev.eT AL aa (λw I=>by rw [<- tw.s]; exact io w I) (λ_=>by omega)) (tw.ok.pt k.toNat hkn)) ?_;refine m269 ?_;refine m248 ?_;refine cf 3 rfl ?_;refine cf 2 rfl ?_;refine co (Ev.ZA Tryz.isAgg4 aa (λ_=>Tj ah (M1 hkn (pM k.toNat hkn)) (by rw [hLk]; rfl))) ?_;refine m278 ?_;refine skip (pN (Mg (F0:=[dz,(4,true,rp),(7,true,ptr Wg),(8,true,.pointer _),(72,true,sv.v),(73,true,I jk.length),(74,true,I k)]) hS ah (λ_=>mS.head) (M1 hkn (pM k.toNat hkn)) hLk (by repeat first | exact Sub.nil | refine Sub.cons rfl ?_) rfl rfl rfl rfl rfl ?_));refine bN (pN ?_);rw [show (z.kH k.toNat).shut k.toNat (pZ z k.toNat).2 = z.kH (k + 1).toNat from (OS hkn).trans (by rw [show k.toNat + 1 = (k + 1).toNat by omega])];refine region ?_;refine m160 ?_;refine mv rfl (nP (aiZ (k + 1)))
 ·
  refine m102 ?_;have ek:k.toNat = z.al.length:=by have:=tw.ok.len; omega
  rw [ek];refine Sat.sub (by repeat first | exact Sub.nil | refine Sub.cons rfl ?_) (aY _) (next )
noncomputable def Ge:Code:=match Ab with
 | .seq c _=>c
 | c=>c
def aiu:zI 146 c7:=kI
theorem WI (next:∀ b1,Sat (jN said Wg V0 fq) (Q .normal) ((8,true,ptr b1) :: F) (Var b1 c7 c7.zero 146 :: L)):Sat (jN said Wg V0 fq) (Ge.oV Tryz.prog (jN said Wg V0 fq) Q) F L:=by
 refine region (cons (alloc aiu (λb1=>?_)));refine nil ?_;exact next b1
noncomputable def KY:Code:=match Tryz.f15.body.getD .skip with
 | .seq c _=>c
 | c=>c
noncomputable def KX:Code:=match Tryz.f15.body.getD .skip with
 | .seq _ (.seq c _)=>c
 | c=>c
noncomputable def KV:Code:=match Tryz.f15.body.getD .skip with
 | .seq _ (.seq _ (.seq c _))=>c
 | c=>c
noncomputable def Gf:Code:=match Ng with
 | .seq _ (.seq c _)=>c
 | c=>c
end
def z73:zI 73 iN:=kI
theorem WM
 (next:∀ rp,Sat (⟨101,w0,M,E⟩:Ctx) (Q .normal) [dz,(0,true,ou),(1,true,tu),(4,true,.pointer (some ⟨rp,0,none⟩))] [Var rp iN iN.zero 73]):Sat ⟨101,w0,M,E⟩ (KY.oV Tryz.prog ⟨101,w0,M,E⟩ Q) [dz,(0,true,ou),(1,true,tu)] []:=by
 refine region (cons (alloc z73 (λb1=>?_)));refine ac (I 0) ?_;refine nil ?_;exact Sat.sub (by repeat first | exact Sub.nil | refine Sub.cons rfl ?_) (aY _) (next b1)
theorem WL {rp:Value} (hw:∀ w,bf M w0 w->aR 47 #[tu] w (dO w (I 0)))
 (next:Sat (⟨101,w0,M,E⟩:Ctx) (Q .normal) [dz,(0,true,ou),(1,true,tu),(4,true,rp)] L):Sat ⟨101,w0,M,E⟩ (KX.oV Tryz.prog ⟨101,w0,M,E⟩ Q) [dz,(0,true,ou),(1,true,tu),(4,true,rp)] L:=by
 refine m1 ?_;refine cons (dg eN (o1 rfl) (λw I=>hw _ I.keeps) ?_);refine m171 ?_;refine nS rfl (rfl) ?_;exact s74
theorem WK {rp:Value} (Th:∀ w,bf M w0 w->bU iE w ou xs) (hxl:xs.length <= 16384)
 (next:Sat (⟨101,w0,M,E⟩:Ctx) (Q .normal) [dz,(0,true,ou),(1,true,tu),(4,true,rp)] L):Sat ⟨101,w0,M,E⟩ (KV.oV Tryz.prog ⟨101,w0,M,E⟩ Q) [dz,(0,true,ou),(1,true,tu),(4,true,rp)] L:=by
 refine m1 ?_;refine co (Ev.len Ei aa (λw I=>Th w I.keeps)) ?_;refine m137 ?_;refine nP (nS rfl (fS (by omega)) ?_);exact s74
def V3:ot 73 iN:=oq
theorem WN {p0:fU}
 (next:Sat (⟨101,w0,M,E⟩:Ctx) (Q .normal) [dz,(4,true,.pointer (some ⟨rp,0,none⟩)),(5,true,I 0)] (Var rp iN xp.ft 73 :: L)):Sat ⟨101,w0,M,E⟩ (Gf.oV Tryz.prog ⟨101,w0,M,E⟩ Q) [dz,(4,true,.pointer (some ⟨rp,0,none⟩)),(8,true,.pointer (some ⟨b1,0,none⟩))] (Var rp iN p0 73 :: Var b1 c7 xp 146 :: L):=by
 refine region ?_;refine m277 ?_;refine co (Ev.gS V3 aa cz.sG) ?_;refine cons (j8 V3 (aB.id _) aa aa ?_);refine ac (I 0) ?_;refine nil ?_;exact HH (by repeat first | exact Sub.nil | refine Sub.cons rfl ?_) (lP.cons lC.head (lP.of (nI _ _))) next
open Go.Conc Go.ConcN Go.RowKit Go.Conc.Lib Go.ConcR.Gen Go.ConcN.Gen
open Go.ConcR (KK wgBlock WgAt stA smA rd wr mk Payload DC0 Bk g_of_ofEvents)
structure xX where
 n:Nat
 F0:Nat->Prop
 G0:Gh
 C:Nat
 tv:Nat->Value
 SA:Gh->(Nat->Prop)->World->Prop
 St:Nat->Value->Gh->Gh->Prop
 R:Nat->Gh->Gh->Prop
 rr:∀ i a,R i a a
 rs:∀ {i k x a b c},R i a b->k ≠ i->St k x b c->R i a c
 loc:∀ {a F v v'},SA a F v->(∀ b,F b->v'.heap[b]? = v.heap[b]?)->SA a F v'
 iL:∀ {a F v b},SA a F v->F b->ny v b /\ b < v.heap.size
 up:∀ {a F F' v},SA a F v->(∀ b,F b->F' b)->(∀ b,F' b->ny v b /\ b < v.heap.size)->SA a F' v
variable {S:xX}
abbrev xX.at (S:xX) (N0:Nat) (Sn:Loc->Prop) (W1:World) (h:∀ k,k < S.n->Has S.C k (S.tv k) W1):av:=⟨S.n,N0,S.F0,S.G0,S.C,S.tv,Sn,W1,h,S.SA,S.St,S.R,S.rr,S.rs,S.loc,S.iL,S.up⟩
def xX.res (S:xX) (G:Gh) (F:Nat->Prop):du:=⟨F,λv=>S.SA G F v,λw w' h ha=>S.loc ha h⟩
structure MD (S:xX) (said:Bool->Value->Prop) (Iv:YK) (ou tu:Value) (xs:List Int) (fs:List OV) (u0:World):Prop where
 pos:0 < S.n
 xQ:S.n <= 16
 len:fs.length = S.n
 xl:xs.length <= 16384
 ord:∀ w,bf S.F0 u0 w->bU iE w ou xs
 EB:∀ w,bf S.F0 u0 w->bU (dJ iG) w tu fs
 wr:∀ w,bf fX u0 w->aR 47 #[tu] w (dO w (I 0))
 sa:S.SA S.G0 S.F0 u0
 hC:∀ k,k < S.n->Has S.C k (S.tv k) u0
 C0:¬ S.F0 S.C
 Cv:ny u0 S.C
 sd:∀ b v,said b v->∃ m,v = mJ m b
 so:said true (.agg #[.int .u8 0,.int .i64 0,.bool true])
 iv:∀ N0 Sn W1 h,@Ek (S.at N0 Sn W1 h) said Iv
 th:∀ N0 Sn W1 h (V0:World),u0.heap.size <= N0->N0 <= V0.heap.size->bf fX u0 V0->∀ k,k < S.n->∃ f cap,(dJ iG).val (fs.getD k (dJ iG).zero) = .func (.func f) #[] cap /\ dV Tryz.prog f /\ @wP (S.at N0 Sn W1 h) said V0 k f cap
def xu (S:xX) (Iv:YK) (xs:List Int) (u0:World) (p:fU) (rp:Nat) (v:World):Prop :=
 ∃ aq G F tl fl ms,Iv aq G tl fl ms /\ fl.length = S.n /\ (∀ k,k < S.n->fl.getD k 0 = 0) /\ (∃ r,aq = xs ++ HY S.n r) /\ p.cut = aM /\ u0.heap.size <= rp /\ bS ⟨101,u0,S.F0,⟨X0,0,none⟩⟩ [Var rp iN p 73,bY p.trace.v fy tl 169,S.res G F] v
def MI {w':World} (h:bS K L w) (g:df w w'):bS K L w':=h.grow (.eA g)
theorem Gd (h:xu S Iv xs u0 p rp v) (g:df v v1):xu S Iv xs u0 p rp v1:=by
 have⟨aq,G,F,tl,fl,ms,h1,h2,h3,h4,h5,h6,h7⟩:=h;exact ⟨aq,G,F,tl,fl,ms,h1,h2,h3,h4,h5,h6,MI h7 g⟩
section
variable (kind:CallKind) (cs:List Frame) (S:xX) (Iv:YK) (xs:List Int) (u0:World)
def ahk (g:Goroutine) (v:World):Prop:=∃ p rp,xu S Iv xs u0 p rp v /\ ∃ T td,T[4]? = some (ptr rp) /\ T[5]? = some (I 0) /\ g = G { (oC 15 kind).atR ⟨T,[]⟩ td with mode:=.returning } cs
def Jf:Gx.Closed (ahk kind cs S Iv xs u0):=λg v v1 ⟨p,rp,h,h2⟩ hg=>⟨p,rp,Gd h hg,h2⟩
def BW [av] (said:Bool->Value->Prop) (Wg:Nat) (V0:World) (z:MZ) (x:cz) (jk:List OV) (tl:List eR) (b1:Nat) (v:World):Prop :=
 ∃ l,l ≠ [] /\ bS (jN said Wg V0 fq) [HM Wg { z.kH z.al.length with l:=l },Var b1 c7 x 146,bY x.fV.v (dJ dB) jk 147,bY x.ft.trace.v fy tl 169] v
def BE (rp b1:Nat) (x:cz) (tl:List eR) (G:Gh) (F:Nat->Prop) (v:World):Prop :=
 bS ⟨101,u0,S.F0,⟨X0,0,none⟩⟩ [Var rp iN iN.zero 73,Var b1 c7 x 146,bY x.ft.trace.v fy tl 169,S.res G F] v
def pmE:Nat->Prop:=q9 ⟨101,u0,S.F0,⟨X0,0,none⟩⟩
def YO [av] (said:Bool->Value->Prop) (Wg:Nat) (V0:World) (g:Goroutine) (v:World):Prop :=
 ∃ jk sv aq z x tl ms b1 rp,PJ Iv jk sv aM aq z x tl ms /\ (∀ k:Nat,k < z.al.length->(pZ z k).1 = 0) /\ (∃ r,aq = xs ++ HY av.n r) /\ V0.heap[rp]? = some (.cells (iN.cells iN.zero).toArray 73 (0,0)) /\ u0.heap.size <= rp /\ rp < Wg ∧
   ac3 Tryz.prog (pmE S u0) 0 (ahk kind cs S Iv xs u0) (BW said Wg V0 z x jk tl b1) (BE S u0 rp b1 x tl z.G z.F) g v
def Vh (said:Bool->Value->Prop) (g:Goroutine) (v:World):Prop :=
 g.status = .running /\ bf fX u0 v /\ ∀ v1,df v v1->cI v1->∃ g',g'.status = .running /\ (∀ w:World,w.heap.size = v1.heap.size->stepG Tryz.prog true g w = .go g' { w with heap:=w.heap.push (wgBlock 143 0 0) } #[]) ∧
  ∀ Sn W1 h,@eB (@XM (S.at v1.heap.size Sn W1 h) _ Tryz.prog 143 v1.heap.size said) Tryz.prog true (@fq (S.at v1.heap.size Sn W1 h)) 0 (sZ Tryz.prog v1.heap.size (@YO kind cs S Iv xs u0 (S.at v1.heap.size Sn W1 h) said v1.heap.size (dU { v1 with heap:=v1.heap.push (wgBlock 143 0 0) } v1.heap.size (gh [0,S.n - 1,5])))) g'
    (dU { v1 with heap:=v1.heap.push (wgBlock 143 0 0) } v1.heap.size (gh [0,S.n - 1,5]))
def Eh (said:Bool->Value->Prop):Gx.Closed (Vh kind cs S Iv xs u0 said):=λg v v1 h hg=>⟨h.1,h.2.1.trans (.eA hg),λv2 h2=>h.2.2 v2 (hg.trans h2)⟩
theorem Oa [av] (h:BW said Wg V0 z x jk tl b1 v) (g:df v v1):BW said Wg V0 z x jk tl b1 v1:=by
 have⟨l,h1,h2⟩:=h;exact ⟨l,h1,MI h2 g⟩
def Ja [av]:Gx.Closed (YO kind cs S Iv xs u0 said Wg V0):=λg v v1 ⟨jk,sv,aq,z,x,tl,ms,b1,rp,h1,h2,h3,h4,h5,h6,h7,h8⟩ hg=>⟨jk,sv,aq,z,x,tl,ms,b1,rp,h1,h2,h3,h4,h5,h6,Oa h7 hg,h8⟩
end
theorem Ys [av] (hW:av.N0 <= Wg) {l1:List Nat} (hv:v.heap[Wg]? = some (gh l)) (hl:l1 = l \/ l1 ≠ []) (h:BW said Wg V0 z x jk tl b1 v):BW said Wg V0 z x jk tl b1 (dU v Wg (gh l1)):=by
 have⟨l0,h1,I⟩:=h;have hA:Bg Wg { z.kH z.al.length with l:=l0 } v:=(I.own _ ah).1;obtain rfl:=sM hA.wg hv;have hne:l1 ≠ []:=by grind
 have h2:=JM (z:={ z.kH z.al.length with l:=l0 }) ⟨.refl _ _,hA,λ_ _=>id⟩ hne;refine ⟨l1,hne,I.upd mS.head (sJ (.inr (.inl rfl))) h2.a λb hb=>⟨.inl hb,?_⟩⟩;rw [fN];exact ((I.own _ ah).2 b hb).2
theorem JP {Fin:Goroutine->World->Prop} (hF:Gx.Closed Fin):Gx.Closed (sZ P Wg Fin):=λg v v1 ⟨h1,h2,g',h3,h4,h5⟩ hg=>⟨h1,by rw [hg.old _ (aG h2)]; exact h2,g',h3,h4,hF _ _ _ h5 hg⟩
section
variable {X:Ext} {main:Bool} {T:Goroutine->World->Prop} {b:Frame} {k:List Item} {c:Code} {J:Act->World->Prop}
theorem nC (h:c.vp P E pm (λe a v=>e = .normal /\ J a v) a v) (hT:Gx.Closed T) (hb:b.kind ≠ .early) (hr:b.roundOf = E.Wv) (hk:∀ a v,J a v->eB E.X P main pm E.fr T (G (b.atR a k) cs) v):eB E.X P main pm E.fr T (G (b.atR a (.code c :: k)) cs) v :=
 h main T b k cs hT hb hr λe a' v' ⟨he,hj⟩=>by subst he; exact hk a' v' hj
def agF {K':Ctx} {F':Fr} (h:kD K F a) (hn:K.n = K'.n) (s:Sub F F'):kD K' F' a:=⟨h.size.trans hn,hn ▸ h.le,(h.sub s).defers,(h.sub s).fr⟩
end
theorem LX (Wg:Nat):Frame.enter Tryz.prog 50 #[ptr Wg] .normal = (base Vi.wait).at ⟨#[ptr Wg,undef,undef,undef,undef,undef,undef,undef,undef,undef,undef,undef,undef,undef,undef,undef,undef,undef,undef,undef,undef,undef,undef,undef,undef,undef,undef,undef,undef,undef,undef,undef,undef,undef,undef,undef,undef,undef,undef,undef,undef,undef,undef,undef,undef,undef,undef,undef,undef,undef,undef,undef,undef,undef,undef,undef,undef,undef,undef,undef,undef,undef,undef,undef,undef,undef,undef,undef,undef,undef,undef,undef,undef,undef,undef,undef,undef,undef,undef,undef,undef,undef,undef,undef],[]⟩ [.code (body_wait Vi)]:=(enter_at (fn:=waitFn Vi) (c:=body_wait Vi) _ wgH.f_wait rfl).trans (by walk_nrmf waitFn)
def Je:dV Tryz.prog 50:=dV.mk' zk
theorem JN {b:Frame} {k:List Item} {ops:Array Oper} {i:Nat} {rest:List Nat} {o:Oper} (hk:b.kind ≠ .early) (ho:ops[i]? = some o) (hg:o.guard = none) (g9:o.op = .alloc 143) (w:World) :
 stepG Tryz.prog true (G (b.atR a (.inRegion ops (i :: rest) :: k)) cs) w = .go (G (b.atR (a.put o.dst (ptr w.heap.size)) (.inRegion ops rest :: k)) cs) { w with heap:=w.heap.push (wgBlock 143 0 0) } #[]:=by
 have hk':((b.atR a (.inRegion ops (i :: rest) :: k)).kind == CallKind.early) = false:=by simpa [Frame.atR] using hk
 have hfin:∀ x,(b.atR a _).finish x = b.atR (a.put o.dst x) (.inRegion ops rest :: k):=λx=>by rw [eP,ho]; rfl
 have hw:Region.wanted o (yielded ops a.tmps) = true:=by simp [Region.wanted,hg]
 have h1:(execOp a.eval o).runT Tryz.prog w #[] = (.ok (.value (ptr w.heap.size)) { w with heap:=w.heap.push (wgBlock 143 0 0) },#[]):=by
  have z:=wgH.zeroValue_tWg;unfold execOp;rw [g9];simp [Instr.alloc,go_sem,ptr,wgBlock]
 rw [mO w ho hw (.inl (by rw [g9]; rfl))];unfold stepG.apply;simp only [if_true,h1,hk',aI,cD];rw [<- hfin]
 rfl
noncomputable def KQ:Code:=match Tryz.f15.body.getD .skip with
 | .seq _ (.seq _ (.seq _ (.seq c _)))=>c
 | c=>c
noncomputable def Gc:Code:=match Ng with
 | .seq c _=>c
 | c=>c
theorem O8:Tryz.f15.body = some (.seq KY (.seq KX (.seq KV (.seq KQ (.seq Ge (.seq KU (.seq Gj (.seq Gi (.seq Gg (.seq Gc (.seq Gf .ret))))))))))):=rfl
def Pa:∃ pos,KQ = .region 6 #[⟨some 7,.alloc 143,0,pos,#[],none⟩] false:=⟨_,rfl⟩
def KS:∃ pos qJ,Gc = .region 35 #[⟨some 98,.call { callee:=.value (.func 50),args:=#[.tmp 7],argTypes:=qJ },0,pos,#[],none⟩] false:=⟨_,_,rfl⟩
theorem afe {kind:CallKind} (hk:kind ≠ .early) (H:MD S said Iv ou tu xs fs u0) :
 eB X0 Tryz.prog true (pmM u0.heap.size) u0.heap.size (Vh kind cs S Iv xs u0 said) (G (Frame.enter Tryz.prog 15 #[ou,tu] kind) cs) u0:=by
 have hb:(oC 15 kind).kind ≠ .early:=hk;have hT:=Eh kind cs S Iv xs u0 said;obtain⟨K0,hK0⟩:∃ K0:Ctx,K0 = ⟨101,u0,fX,⟨X0,u0.heap.size,none⟩⟩:=⟨_,rfl⟩;refine eB.uq (pm:=q9 ⟨101,u0,fX,⟨X0,u0.heap.size,none⟩⟩) ?_ (λb hb=>hb.elim id λh=>h.elim);have hfn:=Tryz.func15;have e:Frame.enter Tryz.prog 15 #[ou,tu] kind = (oC 15 kind).atR { tmps:=#[ou,tu] ++ Array.replicate (Tryz.f15.ntmps - 2) undef,defers:=[] } [.code (.seq KY (.seq KX (.seq KV (.seq KQ (.seq Ge (.seq KU (.seq Gj (.seq Gi (.seq Gg (.seq Gc (.seq Gf .ret)))))))))))]:=by
  simp [Frame.enter,Frame.atR,hfn,O8,oC]
  rfl
 rw [e];have hg:Gx.Good ⟨101,u0,fX,⟨X0,u0.heap.size,none⟩⟩ [dz,(0,true,ou),(1,true,tu)] [] { tmps:=#[ou,tu] ++ Array.replicate (Tryz.f15.ntmps - 2) undef,defers:=[] } u0 :=
  ⟨GZ (args:=#[ou,tu]) rfl (aT rfl) rfl (aT rfl),⟨.refl _ _,(λ_ h=>by cases h),List.Pairwise.nil,⟨aA _,λ_ h=>False.elim h⟩⟩⟩
 generalize ({ tmps:=#[ou,tu] ++ Array.replicate (Tryz.f15.ntmps - 2) undef,defers:=[] }:Act) = a at hg ⊢
 clear e;have hF0:∀ {w},bf fX u0 w->bf S.F0 u0 w:=λh=>h.mono λ_ h=>h.elim
 -- ahead of the group
 refine m91 ?_;refine nC (E:=⟨X0,u0.heap.size,none⟩) (WM (Q:=λe a v=>e = .normal /\ ∃ rp,Gx.Good _ [dz,(0,true,ou),(1,true,tu),(4,true,ptr rp)] [Var rp iN iN.zero 73] a v) (λrp a v hg=>⟨rfl,rp,hg⟩) a u0 hg) hT hb rfl ?_;rintro a v ⟨rp,hg⟩;refine m91 ?_;refine nC (WL H.wr (λa v hg=>⟨rfl,hg⟩) a v hg) hT hb rfl ?_;clear hg;intro a v hg;refine m91 ?_;refine nC (WK (λw h=>H.ord w (hF0 h)) H.xl (λa v hg=>⟨rfl,hg⟩) a v hg) hT hb rfl ?_;clear hg;intro a v hg;refine m91 ?_;have⟨pos,e6⟩:=Pa;rw [e6];refine m38 ?_;simp only [bK,aS,bw,Nat.reduceAdd,a9,List.range,List.range.loop];refine .stop ⟨rfl,hg.inv.keeps,λv1 h1 n1=>⟨_,?_,λw hw=>((JN hb rfl rfl rfl w).trans (by rw [hw])),?_⟩⟩
 ·rfl
 clear e6 hT;replace hg:=hg.tJ h1;clear h1;intro Sn W1 hC
 generalize hWg:v1.heap.size = Wg
 generalize hV0:dU { v1 with heap:=v1.heap.push (wgBlock 143 0 0) } Wg (gh [0,S.n - 1,5]) = V0
 have hks:=hg.inv.keeps;have hvs:u0.heap.size <= Wg:=hWg ▸ hks.size;have Xy:=hg.inv.own _ ah;have hrpc:v1.heap[rp]? = some _:=Xy.1;have hrpu:u0.heap.size <= rp:=(Xy.2 rp rfl).1.elim id λh=>h.elim
 have hrpW:rp < Wg:=by grind
 have hVW:V0.heap[Wg]? = some (gh [0,S.n - 1,5]):=by rw [<- hV0]; exact eJ (by simp [hWg])
 have hVs:V0.heap.size = Wg + 1:=by rw [<- hV0,fN]; simp [hWg]
 have hVk:bf fX v1 V0:=by
  rw [<- hV0];exact ((bf.alloc fX v1 (wgBlock 143 0 0)).trans' (sJ (M:=λb=>b = Wg) rfl) λi hi e=>by omega)
 have hVu:bf fX u0 V0:=hks.trans hVk;have fo:=hg.fo;letI:av:=S.at Wg Sn W1 hC;have hN0:av.N0 = Wg:=rfl;have hNV:av.N0 <= V0.heap.size:=by omega
 have iv:Ek said Iv:=H.iv Wg Sn W1 hC;have hkp:∀ {w},bf fq V0 w->bf S.F0 u0 w:=λ{w} h=>by
  refine ⟨h.os.trans hVu.os,h.tape.trans hVu.tape,h.output.trans hVu.output,az hVu.size h.size,λb hb hM=>(h.block b (by omega) λhp=>?_).trans (hVu.block b hb id)⟩;exact hp.elim (λh2=>by omega) hM
 have hth:=H.th Wg Sn W1 hC V0 hvs (by omega) hVu;have hT:=JP (P:=Tryz.prog) (Wg:=Wg) (Ja kind cs S Iv xs u0 (said:=said) (Wg:=Wg) (V0:=V0));have hM:Bg Wg Nv V0:=by
  refine ⟨rfl,S.loc H.sa λb hb=>hVu.block b (S.iL H.sa hb).2 id,λb hb=>.inr hb,hVW,by simp [Nv],λk a h=>by simp [Nv] at h,λk k' a a' h=>by simp [Nv] at h,aA _,λa h=>by simp [Nv] at h⟩
 have hg:Gx.Good (jN said Wg V0 fq) [dz,(0,true,ou),(1,true,tu),(4,true,ptr rp),(7,true,ptr Wg)] [HM Wg Nv] (a.put (some 7) (ptr Wg)) V0:=by
  refine ⟨agF (fo.qP 7 (ptr Wg) (aT rfl)) rfl (by repeat first | exact Sub.nil | refine Sub.cons rfl ?_),.refl _ _,λq hq=>?_,eD _ _,bu _,λ_ _=>bu _⟩;obtain rfl:=cq.1 hq;refine ⟨hM,λb hb=>?_⟩
  rcases hb with hb | rfl | ⟨a,ha,_⟩ | ⟨a,r,h,_⟩
  ·exact ⟨.inr (.inr hb),aD (S.iL H.sa hb).2 hVu.size⟩
  ·exact ⟨.inr (.inl (aA _)),by omega⟩
  ·simp [Nv] at ha
  ·simp [Nv] at h
 replace hg:Gx.Good (jN said Wg V0 fq) [dz,(0,true,ou),(1,true,tu),(4,true,ptr rp),(7,true,ptr Wg)] [HM Wg Nv] (a.put (some 7) (ptr Wg)) V0:=hg;simp only [bc,aO]
 generalize a.put (some 7) (ptr Wg) = a at hg ⊢
 clear fo hM;refine eB.uq (pm:=q9 (jN said Wg V0 fq)) ?_ (λb hb=>hb.elim (λh=>.inl (az hNV h)) λh=>h);refine m39 ?_;refine m91 ?_;refine nC (WI (Q:=λe a v=>e = .normal /\ ∃ b1,Gx.Good _ [dz,(0,true,ou),(1,true,tu),(4,true,ptr rp),(7,true,ptr Wg),(8,true,ptr b1)] [Var b1 c7 c7.zero 146,HM Wg Nv] a v) (λb1 a v hg=>⟨rfl,b1,hg.sub (by repeat first | exact Sub.nil | refine Sub.cons rfl ?_) (aY _)⟩) a V0 hg) hT hb rfl ?_;clear hg;rintro a v ⟨b1,hg⟩;refine m91 ?_;refine nC (aff (Q:=λe a v=>e = .normal /\ ∃ jk sv z xp ms,PJ Iv jk sv aM [] z xp [] ms /\ Gx.Good _ [dz,(0,true,ou),(4,true,ptr rp),(7,true,ptr Wg),(8,true,ptr b1)] [HM Wg z,Var b1 c7 xp 146,bY xp.fV.v _ jk 147,bY xp.ft.trace.v fy [] 169] a v)
  H.sd iv hNV H.xQ (λ_=>⟨0,0⟩) H.so (λw h=>H.EB w (hkp h)) H.len H.pos hth (λjk sv z xp ms tw a v hg=>⟨rfl,jk,sv,z,xp,ms,tw,hg⟩) a v hg) hT hb rfl ?_
 clear hg;rintro a v ⟨jk,sv,z,xp,ms,tw,hg⟩;refine m91 ?_;refine nC (aa0 (Q:=λe a v=>e = .normal /\ ∃ z xp tl ms,PJ Iv jk sv aM xs z xp tl ms /\ Gx.Good _ [dz,(4,true,ptr rp),(7,true,ptr Wg),(8,true,ptr b1)] [HM Wg z,Var b1 c7 xp 146,bY xp.fV.v _ jk 147,bY xp.ft.trace.v fy tl 169] a v)
  H.sd iv hNV H.xQ H.xl (λw h=>H.ord w (hkp h)) tw (λz xp tl ms tw a v hg=>⟨rfl,z,xp,tl,ms,tw,hg⟩) a v hg) hT hb rfl ?_
 clear hg tw;rintro a v ⟨z,xp,tl,ms,tw,hg⟩;refine m91 ?_;refine nC (aaZ (Q:=λe a v=>e = .normal /\ ∃ aq z xp tl ms,PJ Iv jk sv aM aq z xp tl ms /\ (∀ k:Nat,k < z.al.length->(pZ z k).1 = 0) /\ (∃ r,aq = xs ++ HY av.n r) /\ Gx.Good _ [dz,(4,true,ptr rp),(7,true,ptr Wg),(8,true,ptr b1)] [HM Wg z,Var b1 c7 xp 146,bY xp.fV.v _ jk 147,bY xp.ft.trace.v fy tl 169] a v)
  H.sd iv hNV H.xQ tw (λaq z xp tl ms tw pM has a v hg=>⟨rfl,aq,z,xp,tl,ms,tw,pM,has,hg⟩) a v hg) hT hb rfl ?_
 clear hg tw;rintro a v ⟨aq,z,xp,tl,ms,tw,pM,has,hg⟩;refine m91 ?_;refine nC (aaY (Q:=λe a v=>e = .normal /\ Gx.Good _ [dz,(4,true,ptr rp),(7,true,ptr Wg),(8,true,ptr b1)] _ a v)
  H.sd iv hNV H.xQ tw pM (λa v hg=>⟨rfl,hg⟩) a v hg) hT hb rfl ?_
 clear hg;intro a v hg;refine m91 ?_;have⟨pos,qJ,e35⟩:=KS;rw [e35];refine m38 ?_;simp only [bK,aS,bw,Nat.reduceAdd,a9,List.range,List.range.loop];refine R6 (f:=50) (args:=#[ptr Wg]) hb rfl rfl rfl (λv2=>?_) λv7 h7 n7=>?_
 ·have:=kS Je (#[ptr Wg]) (pm:=q9 (jN said Wg V0 fq)) (fr:=(jN said Wg V0 fq).E.fr) v2;have e:=hg.fo.ev (t:=7) rfl;have e2:a.eval (.func 50) = .func _ #[] #[]:=rfl
  grind [execOp,resolve,Deferred.ofValue,invoke]
 replace hg:=hg.tJ h7;rw [LX];have hHM:Bg Wg _ v7:=(hg.inv.own _ ah).1;have hl:(z.kH z.al.length).l = [1]:=tw.l;have hnl:=tw.n;have XH:=Jf kind cs S Iv xs u0;refine eB.bind ((aek (B:=BW said Wg V0 z xp jk tl b1) (B2:=BE S u0 rp b1 xp tl z.G z.F) wgH (λv v1 h g=>Oa h g) (λv l l1 h1 h2 h3=>Ys (eW hN0) h1 h2 h3) (λv h=>?_) (λv v1 h g=>MI h g) (λv hv=>?_)).2 v7 (by rw [<- hl]; exact hHM.wg) ⟨[1],by simp,by rw [<- hl]; exact hg.inv⟩)
  (λg v ⟨k1,k2,g',k3,k4,k5⟩=>.stop ⟨k1,k2,g',k3,k4,jk,sv,aq,z,xp,tl,ms,b1,rp,tw,pM,has,?_,hrpu,hrpW,k5⟩)
 ·have⟨l,_,I⟩:=h;have hA:Bg Wg { z.kH z.al.length with l:=l } v:=(I.own _ ah).1;have hal:(z.kH z.al.length).al = z.al.map λa=>(2,a.2):=by simp [MZ.kH]
  have h0:0 < z.al.length:=by rw [hnl]; exact H.pos
  obtain⟨a0,r0,hz⟩:∃ a0 r0,z.al = a0 :: r0:=by
   cases hz:z.al with
   | nil=>grind
   | cons a r=>simp
  refine ⟨_,_,0,(2,a0.2),hA.gm,?_,λa ha=>?_⟩
  ·grind
  grind
 ·have fo:kD ⟨101,u0,S.F0,⟨X0,0,none⟩⟩ [dz,(4,true,ptr rp),(8,true,ptr b1)] (a.put (some 98) _):=agF (hg.fo.qP 98 (.tuple #[]) (aT rfl)) rfl (by repeat first | exact Sub.nil | refine Sub.cons rfl ?_);have hg2:Gx.Good _ _ _ _ v:=⟨fo,hv⟩;simp only [dN,fL,cQ]
  generalize a.put (some 98) (.tuple #[]) = a at hg2 ⊢
  refine .ctl XH rfl (λw=>qF w) ?_;refine .ctl XH rfl (λw=>mC w) ?_;refine nC (E:=⟨X0,0,none⟩) (WN (Q:=λe a v=>e = .normal /\ Gx.Good _ [dz,(4,true,ptr rp),(5,true,I 0)] _ a v) (λa v hg=>⟨rfl,hg⟩) a v hg2) XH hb rfl ?_;rintro ⟨T,ds⟩ v QJ;have⟨m,h1,h2⟩:=QJ.fo.defers true _ rfl;obtain rfl:=BI h1;obtain rfl:ds = []:=h2;refine .ctl XH rfl (λw=>LG w rfl) ?_;refine .stop ⟨xp.ft,rp,⟨aq,z.G,z.F,tl,VA z,ms,tw.iv,by rw [xm]; omega,λk hk=>by rw [TG]; exact pM k (by rw [hnl]; exact hk),has,tw.c,hrpu,QJ.inv⟩,T,_,QJ.fo.fr 4 true _ rfl,QJ.fo.fr 5 true _ rfl,rfl⟩
 ·exact (hVk.block rp (by omega) id).trans hrpc
theorem uU {v:Value} {E:dy α} {xs:List α} {T:TypeId} (h:(bY v E xs T).A w) (hb:(bY v E xs T).c9 b):∃ o,w.heap[b]? = some o /\ u9 o = false:=by
 have hb:v.ownBlock = some b:=hb
 rcases h.2 with ⟨h1,_⟩ | ⟨g,cap,cur,hv,_,hh,_⟩
 ·rw [h1] at hb; cases hb
 ·rw [hv] at hb;obtain rfl:g = b:=by grind [Value.ownBlock]
  exact ⟨_,hh,rfl⟩
section
local instance:Duo:=AX
variable [av] {ow:Nat->Nat} {al:Al} {G:Gh}
theorem OY (V:VM Wg ow l al G w u) (hb:al.fV b) {o:Obj} (ho:u.heap[b]? = some o):u9 o = true:=by
 have⟨a,ha,hm⟩:=hb;have fin:∀ {o'},u.heap[b]? = some o'->pL o' = true->u9 o = true:=λh1 h2=>by
  rw [ho] at h1;rw [ak h1];exact jH h2
 simp only [aC.bT,aE,aU,dj] at hm
 rcases hm with rfl | rfl | rfl | rfl | rfl
 ·have⟨L,e,h1,_⟩:=V.oe a ha;exact fin h1 (tD _ _)
 ·have⟨o',h1,h2⟩:=V.ch a ha _ (by simp:a.2.ct ∈ _); grind
 ·have⟨o',h1,h2⟩:=V.ch a ha _ (by simp:a.2.ce ∈ _); grind
 ·have⟨o',h1,h2⟩:=V.ch a ha _ (by simp:a.2.cs ∈ _); grind
 ·exact fin (V.box a ha).1 (Dx _)
theorem O9 (hF0:∀ b,av.F0 b ↔ S.F0 b) (hSA:∀ G F v,av.SA G F v ↔ S.SA G F v) (hN:av.N0 = Wg) (hu:u0.heap.size <= Wg) (hlt:∀ b,S.F0 b->b < u0.heap.size) (hVu:bf fX u0 V0) (hVs:V0.heap.size = Wg + 1) (Xy:V0.heap[rp]? = some (.cells (iN.cells iN.zero).toArray 73 (0,0))) (hrpu:u0.heap.size <= rp) (hrpW:rp < Wg)
 (h:BW said Wg V0 z x jk tl b1 v) (hg:df v u) (V:VM Wg ow l al G w u) (Py:∀ a ∈ al,∀ b ∈ a.2.bT,av.N0 <= b):BE S u0 rp b1 x tl z.G z.F (gQ al.fV u w):=by
 have⟨l,hl,I⟩:=h;replace I:=MI I hg;have hA:Bg Wg { z.kH z.al.length with l:=l } u:=(I.own _ ah).1;have hs:=V.gy.size;have get:∀ b,b < u.heap.size->¬ al.fV b->(gQ al.fV u w).heap[b]? = u.heap[b]?:=λb hb hn=>by
  rw [iA hn (by omega),aX hb]; rfl
 have getV:∀ {b o},u.heap[b]? = some o->u9 o = false->(gQ al.fV u w).heap[b]? = u.heap[b]?:=λ{b o} h1 h2=>get b (aG h1) λhn=>by
  have:=OY V hn h1;rw [h2] at this; cases this
 have kz:=I.keeps.size;have k1:(jN said Wg V0 fq).w0 = V0:=rfl;rw [k1] at kz;have hpm:∀ b,fq b->u0.heap.size <= b \/ S.F0 b:=λb hb=>hb.elim (λh=>.inl (by omega)) λh=>.inr ((hF0 b).1 h)
 have hnp:∀ b,b < Wg->¬ S.F0 b->¬ fq b:=λb hb hf hp=>hp.elim (λh=>by omega) λh=>hf ((hF0 b).1 h)
 have old:∀ b,b < Wg->¬ S.F0 b->(gQ al.fV u w).heap[b]? = V0.heap[b]?:=λb hb hf=>by
  rw [get b (by omega) λ⟨a,ha,hm⟩=>by have:=Py a ha b hm; omega];exact I.keeps.block b (show b < V0.heap.size by omega) (hnp b hb hf)
 have hk:=I.keeps;have hsz:(gQ al.fV u w).heap.size = u.heap.size:=by rw [kO,hs]
 have own:∀ q,q ∈ [Var b1 c7 x 146,bY x.ft.trace.v fy tl 169]->q ∈ [HM Wg { z.kH z.al.length with l:=l },Var b1 c7 x 146,bY x.fV.v (dJ dB) jk 147,bY x.ft.trace.v fy tl 169]:=λq hq=>by
  simp only [aE,aU,dj] at hq ⊢
  rcases hq with h | h <;> simp [h]
 have hfoot:∀ q,q ∈ [HM Wg { z.kH z.al.length with l:=l },Var b1 c7 x 146,bY x.fV.v _ jk 147,bY x.ft.trace.v fy tl 169]->∀ b,q.c9 b->(u0.heap.size <= b \/ S.F0 b) /\ b < u.heap.size /\ b ≠ rp:=λq hq b hb=>by
  have⟨h1,h2⟩:=(I.own q hq).2 b hb;have h3:V0.heap.size <= b \/ fq b:=h1;refine ⟨h3.elim (λh=>.inl (by omega)) (hpm b),h2,λe=>?_⟩;subst e;exact h3.elim (λh=>by omega) (hnp b hrpW λhf=>by have:=hlt b hf; omega)
 have hsa:av.SA z.G z.F u:=hA.sa;refine ⟨⟨hk.os.trans hVu.os,hk.tape.trans hVu.tape,hk.output.trans hVu.output,?_,λb hb hf=>?_⟩,λq hq=>?_,?_,bu _,λ_ _=>bu _⟩
 ·grind
 ·have hb:b < u0.heap.size:=hb;exact (old b (by omega) hf).trans (hVu.block b hb id)
 ·simp only [aE,aU,dj] at hq;rw [hsz]
  rcases hq with rfl | rfl | rfl | rfl
  ·refine ⟨(old rp hrpW λhf=>by grind).trans Xy,λb hb=>?_⟩;obtain rfl:b = rp:=hb
   grind
  ·have hm:=own (Var b1 c7 x 146) (by simp);refine ⟨(getV (I.own _ hm).1 rfl).trans (I.own _ hm).1,λb hb=>?_⟩
   grind
  ·have hm:=own (bY x.ft.trace.v fy tl 169) (by simp);refine ⟨(bY x.ft.trace.v fy tl 169).st u _ (λb hb=>?_) (I.own _ hm).1,λb hb=>?_⟩
   ·have⟨o,h1,h2⟩:=uU (I.own _ hm).1 hb
    grind
   grind
  ·refine ⟨S.loc ((hSA _ _ _).1 hsa) λb hb=>?_,λb hb=>?_⟩
   ·have⟨h1,h2⟩:=av.iL hsa hb;exact getV (aX h2) (h1 _ (aX h2))
   ·have⟨h1,h2,_⟩:=hfoot _ ah b (.inl hb)
    trivial
 ·have⟨d1,d2⟩:=bC.1 I.Jj;have⟨d3,_⟩:=bC.1 d2;refine .cons (λq hq b hb hq'=>?_) (.cons (λq hq=>?_) (.cons (λq hq=>?_) (eD _ _)))
  ·obtain rfl:b = rp:=hb;simp only [aE,aU,dj] at hq
   rcases hq with rfl | rfl | rfl
   ·grind
   ·grind
   ·exact (hfoot _ ah b (.inl hq')).2.2 rfl
  ·simp only [aE,aU,dj] at hq
   rcases hq with rfl | rfl
   ·grind
   ·exact λb hb hb'=>d1 _ (by simp) b (.inl hb') hb
  ·obtain rfl:=cq.1 hq;exact λb hb hb'=>d1 _ (by simp) b (.inl hb') hb
end
def aiW (kind:CallKind) (T:Array Value) (td:List Item):Frame:={ (oC 15 kind).atR ⟨T,[]⟩ td with mode:=.returning }
def KPl (_:Bool) (g:Goroutine) (v _:World) (S':Goroutine->World->Prop):Prop :=
 ∃ (S:xX) (said:Bool->Value->Prop) (Iv:YK) (kind:CallKind) (cs:List Frame) (ou tu:Value) (xs:List Int) (fs:List OV),kind ≠ .early /\ g = G (Frame.enter Tryz.prog 15 #[ou,tu] kind) cs /\ MD S said Iv ou tu xs fs v /\ ∀ p rp v' T td,xu S Iv xs v p rp v'->T[4]? = some (ptr rp)->T[5]? = some (I 0)->S' (G (aiW kind T td) cs) v'
def XPl:Ext:=⟨λ_ _=>True,KPl,λ_=>False,λ_=>True,λ⟨S,said,Iv,kind,cs,ou,tu,xs,fs,h1,h2,h3,h4⟩ hS=>⟨S,said,Iv,kind,cs,ou,tu,xs,fs,h1,h2,h3,λp rp v' T td a b c=>hS _ _ (h4 p rp v' T td a b c)⟩⟩
theorem Gp (h:(Var rp iN p 73).A v) (hn:cI v) (hpm:∀ b,v.heap.size <= b \/ b = rp->pm b):(results Tryz.f15 #[undef,undef,undef,undef,ptr rp,I 0]).wpS Tryz.prog pm 0 (λx v2=>x = .tuple #[iN.val p,I 0] /\ v2 = v) v:=by
 have fo:kD ⟨6,v,λb=>b = rp,⟨X0,0,none⟩⟩ [dz,(4,true,ptr rp),(5,true,I 0)] ⟨#[undef,undef,undef,undef,ptr rp,I 0],[]⟩:=by
  refine ⟨rfl,aT rfl,λc x hx=>?_,λt c x hx=>?_⟩
  ·have e:ie [dz,(4,true,ptr rp),(5,true,I 0)] DS = some (true,Lb []):=rfl;rw [e] at hx;cases hx;exact ⟨[],rfl,rfl⟩
  ·have⟨h1,h2⟩:=w9 hx;have e1:Nat.beq 1000000 t = false:=AB (cN h1);simp only [ie,e1,mi] at h2;cases h4:Nat.beq 4 t with
   | true =>
     obtain rfl:=Nat.eq_of_beq_eq_true h4;simp at h2;obtain⟨rfl,rfl⟩:=h2
     rfl
   | false =>
     rw [h4,mi] at h2;cases h5:Nat.beq 5 t with
     | true =>
       obtain rfl:=Nat.eq_of_beq_eq_true h5;simp at h2;obtain⟨rfl,rfl⟩:=h2
       rfl
     | false=>rw [h5,mi] at h2; cases h2
 have I:bS ⟨6,v,λb=>b = rp,⟨X0,0,none⟩⟩ _ v:=⟨.refl _ _,λq hq=>by
  obtain rfl:=cq.1 hq;exact ⟨h,λb hb=>⟨.inr hb,by obtain rfl:b = rp:=hb; exact aG h⟩⟩,eD _ _,bu _,λ_ _=>bu _⟩
 have:=qC (fn:=Tryz.f15) rfl (.cellP rfl V3 (ed ah (aB.id _)) (.tmp rfl .nil)) ⟨fo,I⟩ hn;exact gG hpm _ _ this
theorem Pe {T:Array Value} (h4:T[4]? = some (ptr rp)) (h5:T[5]? = some (I 0)):results Tryz.f15 T = results Tryz.f15 #[undef,undef,undef,undef,ptr rp,I 0]:=by
 simp_all [results]
theorem WJ {R:ja} (H:∀ v1,df w v1->cI v1->∃ S said Iv xs fs,MD S said Iv ou tu xs fs v1 /\ ∀ p rp v',w.heap.size <= rp->xu S Iv xs v1 p rp v'->R.Q (.returned (.tuple #[iN.val p,I 0])) v'):iQ XPl 0 Tryz.prog 15 #[ou,tu] w R:=λmain kind cs hk =>
 .gen rfl false (λe=>by cases e) λv1 w1 m _=>by
  have⟨S,said,Iv,xs,fs,hG,hQ⟩:=H v1 m.grow m.nv;refine .inr ⟨S,said,Iv,kind,cs,ou,tu,xs,fs,hk,rfl,hG,λp rp v' T td ho h4 h5=>?_⟩;have ho':=ho;have⟨aq,G,F,tl,fl,ms,h1,h2,h3,ZV,h6,Xy,h7⟩:=ho';have hv:=h7.own _ ah;have hw:=az m.grow.size Xy;refine .stop ⟨_,_,v',rfl,rfl,hQ p rp v' hw ho,.refl _,rfl,rfl,_,Tryz.func15,λv2 g2 n2=>?_⟩;show (results Tryz.f15 T).wpS _ _ _ _ _;rw [Pe h4 h5];have hz:=g2.size;have hv1:=h7.keeps.size;exact Gp ((g2.old _ (aG hv.1)).trans hv.1) n2 λb hb=>.inl (hb.elim (λh=>by have:=m.grow.size; grind) λe=>e ▸ hw)
theorem KP [wT] {gs:Array Goroutine} {q:Nat->Nat} {t:Trace} {Shun:Loc->Prop} {d0:Nat} {sl0 sl1:Option (Nat × Nat)} {ga g:Goroutine} {S':Goroutine->World->Prop} (hk:KPl true g u w S') (al:Gx.Alike Tryz.prog ga g) (hB:fC Tryz.prog Shun t gs q ga u w) (hp:yI Tryz.prog gs w d0 sl0 sl1) :
 Gx.Comes Tryz.prog (crowd gs (w.at d0) sl0) t S':=by
 obtain⟨S,said,Iv,kind,cs,ou,tu,xs,fs,NL,rfl,H,hS⟩:=hk;have⟨N1,gs1,w1,aiG,t1,q1,Sh1,ga1,g1,v1,u1,h1,⟨ZJ,hK1,ajh⟩,hg1,fB,Vy⟩:=KD (X:=X0) (λ_ _=>trivial) (λ_ h=>h) (λ_ _ _ _ _ _ _ _ _ _ _ _ h=>h.elim) (afe NL H) (.refl _) al hB hp;have⟨N2,gs2,q2,t2,d2,sl2,RD,d3,h2,hp2,QL⟩:=fC.uf (fB.st.trans ZJ) _ gs1 q1 t1 u1 w1 aiG (aA _) Vy;have hg2:=hg1.trans (df.at u1 d2);have hK2:=hK1.trans (.eA hg2);have⟨g2,hr2,hstep,hrun⟩:=ajh _ hg2 QL.nv;have⟨gs3,am3,h3,hB3,uK⟩:=fC.made (sl:=RD) QL fB rfl rfl hstep;have hsz:=hK2.size;have hone:∀ m ops,runT Tryz.prog (crowd gs2 (w1.at d2) RD) 0 = (.next m,ops)->runNT Tryz.prog 1 (crowd gs2 (w1.at d3) sl2) t2 = (.next m,t2 ++ ops):=λm ops h=>by
  simp only [runNT,hp2,h]
 generalize u1.at d2 = u2 at *
 generalize hWg:u2.heap.size = Wg at *
 have hlt:∀ b,S.F0 b->b < u.heap.size:=λb hb=>(S.iL H.sa hb).2
 have hW3:({ u2 with heap:=u2.heap.push (wgBlock 143 0 0) }:World).heap[Wg]? = some (wgBlock 143 0 0):=by simp [<- hWg]
 have hs3:({ u2 with heap:=u2.heap.push (wgBlock 143 0 0) }:World).heap.size = Wg + 1:=by simp [hWg]
 have keep:∀ {b:Nat},b < u.heap.size->({ u2 with heap:=u2.heap.push _ }:World).heap[b]? = u.heap[b]?:=λ{b} hb=>by
  rw [<- hK2.block b hb id];exact (bf.alloc fX u2 (wgBlock 143 0 0)).block b (by omega) id
 obtain⟨V0,hV0⟩:∃ V0,dU { u2 with heap:=u2.heap.push (wgBlock 143 0 0) } Wg (gh [0,S.n - 1,5]) = V0:=⟨_,rfl⟩;have hVs:V0.heap.size = Wg + 1:=by rw [<- hV0,fN]; exact hs3
 have hVu:bf fX u V0:=by
  rw [<- hV0];exact (hK2.trans (.alloc fX u2 (wgBlock 143 0 0))).trans' (sJ (M:=λb=>b = Wg) rfl) λi hi e=>by omega
 have hCl:S.C < u.heap.size:=zG (H.hC 0 H.pos);obtain⟨w3,hw3⟩:∃ w3,({ (w1.at d2) with heap:=(w1.at d2).heap.push (wgBlock 143 0 0) }:World) = w3:=⟨_,rfl⟩;rw [hw3] at hB3 h3;have hC3:∀ k,k < S.n->Has S.C k _ w3:=λk hk=>by
  have h:=H.hC k hk;simp only [Has,World.cell?] at h ⊢;rw [hB3.gy.iL S.C (λo ho=>H.Cv o (by rw [<- keep hCl]; exact ho)),keep hCl];exact h
 letI:av:=S.at Wg Sh1 w3 hC3;have hr4:=hrun Sh1 w3 hC3;rw [hV0] at hr4;have hr5:eB (XM Tryz.prog 143 Wg said) Tryz.prog true fq 0 (sZ Tryz.prog Wg (YO kind cs S Iv xs u said Wg V0)) g2 (dU { u2 with heap:=u2.heap.push (wgBlock 143 0 0) } Wg (gh [0,av.n - 1,5])):=by
  show eB _ _ _ _ _ _ _ (dU _ Wg (gh [0,S.n - 1,5]));rw [hV0];exact hr4
 obtain⟨N4,m4,t4,h4,gs4,w4,sl4,q4,g4,v4,u4,al4,ow4,G4,rfl,ajW,hg4,V4,hal,hkept,Py,hB4⟩:=aa1 (P:=Tryz.prog) (ty:=143) (Wg:=Wg) (said:=said) (sl:=RD) (Fin:=YO kind cs S Iv xs u said Wg V0) (show S.n < _ by have:=H.xQ; omega) H.pos hB3 hr2 hW3 rfl hs3 rfl rfl
  (λb hb o ho=>(S.iL H.sa hb).1 o (by rw [<- keep (hlt b hb)]; exact ho)) ⟨λo ho=>H.Cv o (by rw [<- keep hCl]; exact ho),show S.C < Wg by omega,H.C0⟩ (λl ⟨a,h5,h6⟩=>by grind) hr5
 have⟨jk,sv,aq,z,x,tl,ms,b1,rp,tw,pM,has,Xy,hrpu,hrpW,hBW,hgo⟩:=ajW;have hBE:=O9 (λ_=>.rfl) (λ_ _ _=>.rfl) rfl (by omega) hlt hVu hVs Xy hrpu hrpW hBW hg4 V4 Py;obtain⟨N5,gs5,w5,sl5,t5,q5,Sh5,ga5,g5,v5,u5,h5,⟨p,rp',Bq,T,td,hT4,hT5,rfl⟩,hg5,al5,hB5⟩:=yd (X:=X0) (λ_ _=>trivial) (λ_ h=>h) (λ_ _ _ _ _ _ _ _ _ _ _ _ h=>h.elim) (hgo _ hBE) gs4 q4 t4 _ sl4 g4 _ w4 (.refl _) (.refl _ _) hB4;exact ⟨_,gs5,w5,sl5,t5,q5,Sh5,ga5,_,v5,u5,Gx.runNT_then h1 (Gx.runNT_then h2 (Gx.runNT_then (hone _ _ h3) (Gx.runNT_then h4 h5))),hS p rp' v5 T td Bq hT4 hT5,hg5,al5,hB5⟩
end Go.Proofs.YtgnmiaonbadbnaaGreat
namespace Go.Gx
open Go Go.Conc Go.RowKit
variable {P:Program} {T ty:TypeId} {u:Value} {name pos:String} {f:FuncId} {K:Ctx} {F:Fr} {L:List du} {Q:Exit->Act->World->Prop} {N:Act->World->Prop} {ops:Array Oper} {af:Array Edge} {d:Nat} {args:List Operand} {qJ:Array TypeId}
theorem rA.ptr {e:TypeId} (hi:((P.info? T).bind λi=>(i.methods.find? (·.name == name)).map λm=>(m.path,m.func)) = some (#[],some (f,true)))
 (ht:P.underlying T = some (.pointer e)) (hs:P.types.size ≠ 0):rA P T u name f u:=by
 refine ⟨λw=>?_,λpm fr=>?_⟩
 all_goals
  obtain⟨k,hk⟩:∃ k,P.types.size + Made.depth = k + 1:=⟨P.types.size + Made.depth - 1,by omega⟩;rw [hk];cases hin:P.info? T with
  | none=>rw [hin] at hi; cases hi
  | some i =>
    rw [hin] at hi;simp only [cQ] at hi;cases hm:i.methods.find? (·.name == name) with
    | none=>rw [hm] at hi; cases hi
    | some m =>
      rw [hm] at hi;simp only [cB,br,eU] at hi;have⟨h1,h2⟩:=hi
      first
       | (have hu:(underlying T).run P w = .ok (.pointer e) w:=by simp [underlying,ht]
          simp [method,typeInfo,hin,hm,h1,h2,follow,receiverAt,hu,Place.get]
          done)
       | (unfold method
          refine .info hin ?_;simp only [hm,h1,h2];refine .known (.pure _) (λv=>rfl) ?_;refine .bind ?_ λ_=>.pure _
          unfold receiverAt;refine .under ht ?_;exact .pure _)
section
variable {g:Bool} {t t':TypeId} {x y:Operand} {U kp:Nat->Prop} {r:du}
theorem Yr {X:Type} {q:Value} {vs:List Value} {r':X->du} {L':X->List du} (h:QR K U kp) (J:X->Prop) (val:X->Value) [ry L] (hu:∀ x,mS L r (r' x) (L' x)) (hm:r ∈ L)
 (hx:cV F true x (IF T u).v) (hme:rA P T u name f q) (om:dV P f) (fQ:lM F true args vs)
 (hC:∀ w keep,bS K L w->At r w->lN keep r w->iQ K.E.X K.E.fr P f (q :: vs).toArray w (qy U keep w J val r')) (next:∀ x,J x->Sat K N ((d,true,val x) :: F) (L' x)) (hd:Nat.blt d K.n = true:=by rfl) :
 Sat K (dw P K ops Q ⟨some d,.call { callee:=.invoke x name,args:=args.toArray,argTypes:=qJ },ty,pos,af,none⟩ N) F L:=λa w G =>
 dI rfl rfl λhn=>yE (R:=qy U (xP kp L r) w J val r') rfl J val L' G (Dd hx hme om fQ rfl G.fo w hn) (hC w _ G.inv (at_mem hm w G.inv) (pK h G.inv hm)) (λb hb=>.inr ((h.m b).2 ⟨hb.1,λhk=>hb.2 (.inl hk)⟩))
  (λu w' ⟨x,hJ,he,hk,ha,hf⟩=>⟨x,hJ,by grind,G.inv.Q9 h (hu x) hk ha hf⟩) next hd
theorem abn {ms:_} (ht:P.underlying t = some (.interface ms)) (hx:cV F g x (IF T u).v):Ev P K F L g (.binOp .neq t x (.const .nilIface) t') ty (.bool true) :=
 Ev.bin hx (.c (v:=.nilIface) rfl) (λw=>by rfl) (λw=>by
  have e:Op.maxDepth = (Op.maxDepth - 1) + 1:=by decide
  simp only [binOp,Op.equal,IF];rw [e];simp [Op.equalIn,pn ht,Result.andThen]) (by unfold eqGuard; exact .pure _) (by
  refine .bind ?_ λ_=>.pure _
  show Tm P _ _ (Op.equalIn (9999 + 1) t (.iface T u) .nilIface);refine .under ht ?_;exact .pure _)
end
section
variable {pm:Nat->Prop} {fr:Nat} {a:Addr} {z x y:Int} {w:World}
theorem Q4 (h:acY pm fr a z w) (hne:z ≠ x) {Q:Value->World->Prop} (hQ:Q (.bool false) w):(Extern.Atomic.casT (.int .u64) #[.pointer (some a),.int .u64 x,.int .u64 y]).wpS P pm fr Q w:=by
 refine cR _ _ _ ?_;show Sem.wpS P pm fr (Extern.Atomic.touchesFrozen a >>= _) Q w;refine cR _ _ _ (cu ?_ _ _ (show (Extern.Atomic.touchesFrozen a).wpS P pm fr (λr w'=>r = false /\ w' = w) w from ?_))
 ·rintro r w' ⟨rfl,rfl⟩;show Sem.wpS P pm fr (Extern.Atomic.read (.int .u64) a >>= _) Q w';refine cR _ _ _ (cu ?_ _ _ (B3 h.cell));rintro r w2 ⟨rfl,rfl⟩;show Sem.wpS P pm fr (if (z == x) = true then (store a (.int .u64 y) .atomic >>= λ_=>pure (.bool (z == x))) else pure (.bool (z == x))) Q w2;have hx:(z == x) = false:=by simpa using hne
  rw [hx,if_neg (by simp)];exact hQ
 ·refine cR _ _ _ (cu ?_ _ _ (B1 h));rintro r w' ⟨rfl,rfl⟩;exact ⟨sQ h.cell,h.fz,rfl⟩
theorem agT {α:Type}
 {E:dy α} {b o:Nat} {xv:α} {n m:UInt64} {fn:Func}
 (hf:P.funcs[f]? = some fn) (C6:(fn.name == "runtime.NumGoroutine") = false) (hb:fn.body.isNone = true) (hn:Extern.findNext fn = none) (he:Extern.find fn = some (Extern.Atomic.casT (.int .u64)))
 (l:aB E lG o) (fQ:lM F true args [.pointer (some ⟨b,o,none⟩),fO n,fO m]) (hx:l.get xv ≠ n)
 (hm:Var b E xv T ∈ L) (next:Sat K N ((d,true,.bool false) :: F) L) (hd:Nat.blt d K.n = true:=by rfl) :
 Sat K (dw P K ops Q ⟨some d,.call { callee:=.value (.func f),args:=args.toArray,argTypes:=qJ },ty,pos,af,none⟩ N) F L:=λa w G=>by
 refine dI rfl rfl λhnv=>?_
 have hbk:w.heap[b]? = some _:=(G.inv.own _ hm).1;have hc:=Go.Proofs.YtgnmiaonbadbnaaGreat.wO (ed hm l w G.inv);have hz:w.frozen? ⟨b,o,none⟩ = false:=by simp [World.frozen?,hbk]
 have h1:=fQ.eval rfl G.fo;have hex:execOp a.eval ⟨some d,.call { callee:=.value (.func f),args:=args.toArray,argTypes:=qJ },ty,pos,af,none⟩ = callFunc f #[.pointer (some ⟨b,o,none⟩),fO n,fO m]:=by
  simp [execOp,resolve,Deferred.ofValue,invoke,Act.eval,h1]
 show Sem.wpS P (q9 K) K.E.fr _ _ w;rw [hex];refine FQ hf C6 hb hn he (Q4 ⟨hc,hz,((G.inv.own _ hm).2 b rfl).1,G.inv.fr hm b rfl⟩ (λe=>hx (cC.1 (Int.ofNat.inj e))) ?_);exact next _ _ (G.put d true _ _ (by simp_all) rfl G.inv)
end
end Go.Gx
namespace Go.Proofs.YtgnmiaonbadbnaaGreat
open Go Go.Gx Go.Conc Go.ConcN Go.RowKit
variable {α σ:Type} {E:dy α} {b fr:Nat} {w:World} {r:du} {L' L:List du} {bs:List UInt8} {ss:List bj} {d1 d2 i:Int} {p gv sv:Value} {X:Ext} {S:σ->du} {U:Nat->Prop} {low:Bool} {K:Ctx}
theorem Mi {o:Nat} (l:aB E lG o) (b:Nat) (xv:α) (n m:UInt64) (hne:l.get xv ≠ n) (Tt:TypeId) (w:World) (h:At (Var b E xv Tt) w):aR 76 #[.pointer (some ⟨b,o,none⟩),fO n,fO m] w (Gx.mE w (Var b E xv Tt) (λ_:Unit=>True) (λ_=>.bool false) (λ_=>Var b E xv Tt)):=by
 refine enter 13 _ Tryz.func76 rfl rfl (aT rfl) (uj h) (λ_ _=>?_);refine m12 ?_;refine m253 ?_;refine m247 ?_;refine agT rfl zk rfl zk zk l (.cons aa (.cons aa (.cons aa .nil))) hne mH ?_;refine m48 ?_;refine done rfl (.tmp rfl .nil) (λw I=>?_);exact Gx.D1 () trivial rfl mH w I
def ais:zI 152 Dj:=kI
theorem aaE (u:Value):rA Tryz.prog 147 u "Step" 264 u:=rA.ptr zk Tryz.underlying147 (by simp)
def LV:dV Tryz.prog 264:=dV.mk' zk
theorem KF [av] {k:Nat} {s:aC} {mk:Value->Prop} (op:UInt8) (ZO:mk (mJ ⟨op,0⟩ false)) (hsb:av.N0 <= s.sb) (z:TZ) (C9:av.St k (mJ ⟨op,0⟩ false) z.1 z.2.1) (w:World) (keep:Nat->Prop) (h:At (HT k s z) w) (hU:∀ b,(HT k s z).c9 b->fq b) (hN:av.N0 <= w.heap.size) (hk:lN keep (HT k s z) w) :
 iQ (Kc Tryz.prog mk k s) 0 Tryz.prog 71 #[(IF 147 (ptr s.sb)).v,U8 op] w (qy fq keep w (λz':TZ=>z'.1 = z'.2.1 /\ av.R k z.2.1 z'.1) (λ_=>.tuple #[]) (HT k s)):=by
 refine wM 10 _ Tryz.func71 rfl rfl (aT rfl) (bu _) (λ_ _=>bu _) (λok=>zX h hU hk _ ok) ?_;refine m1 ?_;refine co (abn Tryz.underlying48 aa) ?_;refine nP (N6 rfl (rfl) ?_);refine m126 ?_;refine co (Ev.to (v':=.agg #[U8 op,I 0]) (Ev.fe (places:=[(0,1),(1,1)]) ais rfl Tryz.underlying152 zk (.cons aa .nil) (bB.cons gW.afG rfl bB.nil)) rfl) ?_;refine cons (Yr (ZD hk) _ _ (λ_=>mS.head) mH aa (aaE _) LV (.cons aa .nil) (λw keep I hA hk=>V8 ZO hsb z C9 w keep hA hk) (λz' hJ=>?_));refine nil (zA rfl .nil (λw I=>?_));exact KH (λb hb=>(hk b hb).1) z' hJ rfl mH (λb hb=>((I.own _ mH).2 b hb).1.elim (λh=>.inl (az hN h)) (·.1)) w I
open Go.Proofs.YtgnmiaonbadbnaaGreat.Tri Go.Proofs.YtgnmiaonbadbnaaGreat.Oc
structure mU where
 now:UInt64
 ta:Int
 Ad:OV
def mU.to:(UInt64 × (Int × OV))->mU:=λx=>⟨x.1,x.2.1,x.2.2⟩
def mU.of:mU->(UInt64 × (Int × OV)):=λx=>(x.now,x.ta,x.Ad)
def Jg:dy mU:=l8 (cW lG (cW iE (dJ aM))) mU.to mU.of
def mU.ald:aB Jg lG 0:=lI mU.to mU.of l1
def mU.rF:aB Jg iE 1:=lI mU.to mU.of (l2 l1)
@[simp] theorem mU.NU (x:mU):mU.rF.get x = x.ta:=rfl
@[simp] theorem mU.Wm (x:mU) (y:Int):mU.rF.set x y = { x with ta:=y }:=rfl
def mU.wz:aB Jg (dJ aM) 2:=lI mU.to mU.of (l2 (l2 (aB.id _)))
@[simp] theorem mU.ab1 (x:mU):mU.wz.get x = x.Ad:=rfl
@[simp] theorem mU.aaN (x:mU) (y:OV):mU.wz.set x y = { x with Ad:=y }:=rfl
def mK (bs:List UInt8):UInt64:=(vz (W3 (xI bs)) 100).1
def pE (bs:List UInt8):Int:=if pD bs ≠ 0 then pD bs else Uc (xI bs) (yV bs).length
def pV (l:CL) (d n:Int) (bs:List UInt8):bA:=Z3 l d n (xI bs) (yV bs).length
def Bo (ss:List bj) (n:UInt64) (bs:List UInt8):Bool:=decide ((bh n).end_ = 2) || decide (UInt64.ofInt (ss.getD (bh n).stage.toNat da.zero).parts <= mK bs)
def mV (ss:List bj) (n:UInt64) (bs:List UInt8):Nat:=if (bh n).end_ = 1 then 0 else if Bo ss n bs = true then 1 else 2
def Nj (l1 l2:CL) (d1 d2 i:Int) (ss:List bj) (n:UInt64) (bs:List UInt8):bA:=if mV ss n bs = 1 then pV l1 d1 i bs else pV l2 d2 i bs
def Nk (ss:List bj) (n:UInt64) (bs:List UInt8):Bool:=decide (mV ss n bs ≠ 1)
def T8 (l2:CL) (d2 i:Int) (bs:List UInt8):Bool:=decide (¬ (pV l2 d2 i bs).action = 3)
def EU (l2:CL) (d2 i:Int) (ss:List bj) (n:UInt64) (bs:List UInt8):UInt64:=if mV ss n bs = 2 then Ie ss n (T8 l2 d2 i bs) else n
theorem KI (b:List UInt8) (he:pD b = 0):(yV b).length <= 2048:=by
 have h1:¬ ((dc b).2.1 < dG _ \/ 2048 < (dc b).2.1):=λh=>by
  unfold pD at he;rw [if_pos h] at he;split at he
  ·exact absurd he (by assumption)
  ·exact absurd he (by decide)
 grind [yV,y2,su]
theorem Fw (p:Pl) (l:CL) (d n:Int) (h:ae) (dt:List UInt8) (V:bA) (e:Int) (w:World) (hp:vi w p l d) (ho:qz p l d) (hd:bU iO w h.data.v dt) (hl:dt.length <= 1152921504606846975) (hV:Z3 l d n h dt.length = V) (he:Uc h dt.length = e):aR 70 #[.pointer (some ⟨p.b,0,none⟩),I n,bm.val h] w (dO w (.tuple #[dK.val V,I e])):=by
 subst hV;subst he;exact PZ p l d n h dt w hp ho hd hl
def Gl (k:gD) (z:UInt64) (w:World) (h:(vz k 100).1 = z):aR 57 #[zy.val k] w (dO w (fO z)):=h ▸ HX k w
def VS (s:aK) (m:UInt64) (w:World) (h:ue s = m):aR 75 #[gN.val s] w (dO w (fO m)):=h ▸ VU s w
structure FO (X:Ext) (fr:Nat) (σ:Type) (S:σ->du) (U:Nat->Prop) (gv:Value) (b:Nat) (p q sv:Value) (ss:List bj) where
 n:σ->UInt64
 μ:σ->Nat
 fu:σ->Nat
 R:σ->σ->Prop
 Kd:σ->Prop
 Sn:σ->Prop
 Hit:σ->Bool->σ->Prop
 r0:∀ s,R s s
 tr:∀ {x y z},R x y->R y z->R x z
 mu:∀ {x y},R x y->μ y <= μ x
 Z0:∀ s w,(S s).A w->Ol w b 0 p /\ Ol w b 1 q /\ Ol w b 2 sv
 QD:∀ s (o:UInt8) w keep,Kd s->0 < fu s->At (S s) w->(∀ b,(S s).c9 b->U b)->(∀ b,w.heap.size <= b->U b)->lN keep (S s) w ->
  iQ X fr Tryz.prog 71 #[gv,U8 o] w (qy U keep w (λt=>Kd t /\ R s t /\ n t = n s /\ μ t = μ s /\ fu s <= fu t + 1) (λ_=>.tuple #[]) S)
 load:∀ s w,Kd s->At (S s) w->iQ X fr Tryz.prog 72 #[.pointer (some ⟨b,3,none⟩)] w (Gx.mE w (S s) (λt=>Kd t /\ R s t /\ xW ss (n t) /\ fu t = fu s /\ Sn t) (λt=>fO (n t)) S)
 cas:∀ s dr w,Kd s->At (S s) w->xW ss (n s)->¬ (bh (n s)).end_ = 1->¬ (bh (n s)).end_ = 2->iQ X fr Tryz.prog 76 #[.pointer (some ⟨b,3,none⟩),fO (n s),fO (Ie ss (n s) dr)] w
  (Gx.mE w (S s) (λr:Bool × σ=>(r.1 = true->Hit s dr r.2 /\ fu r.2 = fu s) /\ (r.1 = false->Kd r.2 /\ R s r.2 /\ μ r.2 < μ s /\ fu r.2 = fu s)) (λr=>.bool r.1) (λr=>S r.2))
variable {n:UInt64}
section
variable {q:Value}
def aad (W:FO X fr σ S U gv b p q sv ss) (s:σ) (dr:Bool) (bs:List UInt8) (r:Nat × σ):Prop:=∃ t,W.R s t /\ xW ss (W.n t) /\ mV ss (W.n t) bs = r.1 /\ (r.1 = 2->W.Hit t dr r.2) /\ (r.1 ≠ 2->r.2 = t /\ W.Kd t /\ W.Sn t) /\ W.fu s <= W.fu r.2 + 2 * W.μ s + 2
end
theorem Y0 (h:(bh n).end_ = 1):mV ss n bs = 0:=by unfold mV; grind
theorem YZ (h:¬ (bh n).end_ = 1) (h2:Bo ss n bs = true):mV ss n bs = 1:=by grind [mV]
theorem YY (h:¬ (bh n).end_ = 1) (h2:Bo ss n bs = false):mV ss n bs = 2:=by grind [mV]
theorem Nn (h:Bo ss n bs = false):¬ (bh n).end_ = 2:=by grind [Bo]
theorem Ni [agp:∀ t,pd (S t)] (x0:RX) (l1 l2:CL) (d1 d2:Int) (ss:List bj) (W:FO X fr σ S U gv x0.b (.pointer (some ⟨x0.p.b,0,none⟩)) (.pointer (some ⟨x0.q.b,0,none⟩)) x0.sv.v ss) (s:σ) (hrs:W.Kd s) (hf0:2 * W.μ s + 2 <= W.fu s) (dr:Bool) (j:mU) (bs:List UInt8) (keep:Nat->Prop) (w:World) (uK:fr <= w.heap.size) (hfu:∀ b,U b->fr <= b) (h:At (S s) w) (hU0:∀ b,(S s).c9 b->U b) (hUf:∀ b,w.heap.size <= b->U b) (Hl:lN keep (S s) w) (hN:∀ w2,bf (λb=>U b /\ ¬ keep b) w w2->Hf w2 x0 l1 l2 d1 d2 ss) (hb:∀ w2,bf (λb=>U b /\ ¬ keep b) w w2->bU iO w2 j.Ad.v bs) (ZL:qz x0.p l1 d1) (IH:qz x0.q l2 d2) (hl:ss.length <= 256) (he0:pE bs = 0) (hdr:T8 l2 d2 j.ta bs = dr):iQ X fr Tryz.prog 26 #[.pointer (some ⟨x0.b,0,none⟩),gv,Jg.val j] w (qy U keep w (aad W s dr bs) (λr=>.tuple #[dK.val (if r.1 = 1 then pV l1 d1 j.ta bs else pV l2 d2 j.ta bs),.bool (decide (r.1 ≠ 1)),I 0]) (λr=>S r.2)):=by
 have hre:pD bs = 0:=by
  unfold pE at he0;split at he0
  ·rename_i e; exact absurd he0 e
  ·rename_i e; exact Decidable.not_not.1 e
 have hde:Uc (xI bs) (yV bs).length = 0:=by
  unfold pE at he0;rw [if_neg (λq=>q hre)] at he0;exact he0
 obtain⟨vn,hvn⟩:∃ z,pV l2 d2 j.ta bs = z:=⟨_,rfl⟩;obtain⟨vo,hvo⟩:∃ z,pV l1 d1 j.ta bs = z:=⟨_,rfl⟩;obtain⟨pk,hpk⟩:∃ z,mK bs = z:=⟨_,rfl⟩;have hdr2:decide (¬ vn.action = 3) = dr:=by rw [<- hdr,<- hvn]; rfl
 refine wM 110 [S s] Tryz.func26 rfl rfl (aT rfl) uK (λb hb=>hfu b hb.1) (λok=>zX h hU0 Hl _ ok) ?_;refine m15 ?_;refine box aa (λb1=>?_);refine cons (alloc vH (λb2=>?_));refine ac _ ?_;refine m149 ?_;refine cons (dg eN (o1 rfl) (λw I=>EL x0.b x0.q.b w ((W.Z0 s w (I.own _ (show S s ∈ _ from zm)).1).2.1)) ?_);refine m278 ?_;refine m153 ?_;refine cf 2 rfl ?_;refine co (Ev.gR j.Ad Bj aa mU.wz) ?_;refine cons (iP _ _ _ eN (o1 rfl) (λw I=>Wx _ bs w (hb w I.keeps)) (λxo hxo=>?_));rw [if_pos hre];have hdl:=KI bs hre;refine m241 ?_;refine alloc QB (λb3=>?_);refine m81 ?_;refine m269 ?_;refine m31 ?_;refine nS rfl (fS (λq=>q hre)) ?_;refine m8 ?_;refine m74 ?_;refine cons (dg eN (o1 rfl) (λw I=>Oc.CM _ w) ?_);refine cons (dg eN (o1 rfl) (λw I=>Gl _ _ w hpk) ?_);refine vK rfl (nP (cut (λx=>True) (λx=>[dz,(0,true,jc x0.b),(1,true,gv),(5,true,jc b1),(6,true,jc b2),(9,true,jc b3),(11,true,I 0),(12,true,fO pk),(13,true,jc x)]) (λx=>[Var x dK vn 102,Var b3 bm (wD (xI bs) xo) 60,bY xo.v iO (yV bs) 5,Var b2 dK dK.zero 102,Var b1 Jg j 100,S s]) ?_ (λx hx=>?_)))
 ·refine m154 ?_;refine tk 2 rfl (fA 1 aa) ?_;refine tk 3 rfl (Ev.to (Ev.E7 Tryz.isAgg115 aa (λw I=>(W.Z0 s w (I.own _ (show S s ∈ _ from zm)).1).2.1)) (rfl)) ?_;refine m168 ?_;refine all [7,11] zk (by decide) (.cons rfl ?_ (.cons rfl ?_ .nil))
  ·refine m82 ?_;exact s93
  ·refine (alloc vH (λb5=>?_));refine m151 ?_;refine m82 ?_;refine m280 ?_;refine j8 p8 (aB.id _) aa aa ?_;exact s46
 obtain⟨x3,rfl⟩:∃ y,y = x:=⟨x,rfl⟩;refine m16 ?_;refine m31 ?_;refine nS rfl (fS (λq=>q rfl)) ?_;refine skip (pN (block (lp (λx=>(W.R s x) /\ (W.Kd x) /\ (W.fu s + 2 * W.μ x <= W.fu x + 2 * W.μ s)) (λx=>[dz,(0,true,jc x0.b),(1,true,gv),(5,true,jc b1),(6,true,jc b2),(9,true,jc b3),(12,true,fO pk),(13,true,jc x3)]) (λx=>[Var x3 dK vn 102,Var b3 bm _ 60,bY xo.v iO _ 5,Var b2 dK dK.zero 102,Var b1 Jg j 100,S x]) (λx=>W.μ x) (s) ⟨?_,?_,?_⟩ (λx hx=>?_))))
 ·exact W.r0 s
 ·omega
 ·omega
 obtain⟨t,rfl⟩:∃ y,y = x:=⟨x,rfl⟩;obtain⟨ht,hrd,hfu⟩:(W.R s t) /\ (W.Kd t) /\ (W.fu s + 2 * W.μ t <= W.fu t + 2 * W.μ s):=hx;have aon:=hfu;refine block ?_;refine m1 ?_;refine cons (Bd (X:=σ) (r':=S) (ZD Hl) _ _ (λ_=>zu) zm eN (.cons aa (.cons (.c rfl) .nil)) (λw kp I hA hk=>W.QD t 1 w kp hrd (by omega) hA (λb hb=>((I.own _ (show S t ∈ _ from zm)).2 b hb).1.elim (hUf b) (·.1)) (λb hb=>hUf b (az I.keeps.size hb)) hk) (λt1 Vv=>?_));refine m235 ?_;refine cons (G9 _ _ (λ_=>zu) zm eN (o1 rfl) (λw I=>W.load t1 w Vv.1 (am w I)) (λt2 GJ=>?_));refine m177 ?_;have hs:=GJ.2.2.1.lt;refine m19 ?_;refine m203 ?_;refine alloc Kf (λb6=>?_);refine m179 ?_;refine m143 ?_;refine m35 ?_;refine co (Ev.gS nh aa aK.tX) ?_;refine co (Ev.qG aa (.c (v:=fO 1) rfl)) ?_;refine nP ?_;refine nG rfl (λh3=>?_) (λh3=>?_)
 ·refine m220 ?_;refine m59 ?_;refine ac _ ?_;refine m3 ?_;refine ret (pR (bR (pR (bR (done rfl (.cellP rfl p8 (ed zm (aB.id _)) (.tmp rfl (.tmp rfl .nil))) (λw I=>?_))))));exact KH (λb hb=>(Hl b hb).1) (0,t2) ⟨t2,W.tr (W.tr ht Vv.2.1) GJ.2.1,GJ.2.2.1,Y0 h3,λe=>(by cases e),λ_=>⟨rfl,GJ.1,GJ.2.2.2.2⟩,by grind⟩ (by simp_all) (by simp) (λb hb=>((I.own _ (show S t2 ∈ _ from (by simp))).2 b hb).1.elim (hUf b) (·.1)) w I
 ·have h3:¬ (bh (W.n t2)).end_ = 1:=by simpa using h3
  refine m196 ?_;refine m125 ?_;refine tk 1 rfl (Ev.gS nh aa aK.tX) ?_;refine tk 2 rfl (Ev.qG aa (.c (v:=fO 2) rfl)) ?_;refine m184 ?_;refine jl 4 rfl rfl rfl (Ev.move aa) ?_;refine m224 ?_;refine jl 6 rfl rfl rfl (Ev.nilCheck (.g rfl id)) ?_;refine jl 7 rfl rfl rfl (fA 2 (.g rfl id)) ?_;refine jl 8 rfl rfl rfl (Ev.to (Ev.E7 Tryz.isAgg29 (.g rfl (by simp)) (λw I=>(W.Z0 t2 w (I.own _ (show S t2 ∈ _ from (by simp))).1).2.2)) (rfl)) ?_;refine jl 9 rfl rfl rfl (fA 1 aa) ?_;refine jl 10 rfl rfl rfl (Ev.gS nh (.g rfl id) aK.rN) ?_;refine jl 11 rfl rfl rfl (C3 BY rI (.g rfl (by simp)) (.g rfl (by simp)) (λw I=>(hN w I.keeps).s) hs) ?_;refine jl 12 rfl rfl rfl (Ev.nm (o:=0) (i:=((bh (W.n t2)).stage.toNat:Int)) (.g rfl id) (λw I=>(hN w I.keeps).s) (λ_=>⟨by omega,by omega⟩) zk) ?_;refine jl 13 rfl rfl rfl (Ev.y5 l9 bj.oI rfl (.g rfl id) (λw I=>(hN w I.keeps).s) (λ_=>⟨by omega,by simp_all⟩)) ?_;refine jl 14 rfl rfl rfl (Ev.Mb Kb Y3 (.g rfl id)) ?_;refine jl 15 rfl rfl rfl (Ev.XU (.g rfl id) (.g rfl id)) ?_;refine tk 16 rfl (Ev.pkO aa rfl) ?_;refine m142 ?_;refine nG rfl (λh4=>?_) (λh4=>?_)
  ·have h4:Bo ss (W.n t2) bs = true:=by unfold Bo; rw [hpk]; exact h4
   refine cut (λx=>True) (λx=>[dz,(6,true,jc b2),(16,true,jc x),(17,true,I 0)]) (λx=>[Var x dK vo 102,Var b2 dK dK.zero 102,S t2]) ?_ (λx hx=>?_)
   ·refine m154 ?_;refine tk 2 rfl (fA 0 aa) ?_;refine tk 3 rfl (Ev.to (Ev.E7 Tryz.isAgg115 aa (λw I=>(W.Z0 t2 w (I.own _ (show S t2 ∈ _ from zm)).1).1)) (rfl)) ?_;refine m168 ?_;refine all [7,11] zk (by decide) (.cons rfl ?_ (.cons rfl ?_ .nil))
    ·refine m61 ?_;exact s93
    ·refine (alloc vH (λb8=>?_));refine m151 ?_;refine m61 ?_;refine m280 ?_;refine j8 p8 (aB.id _) aa aa ?_;exact s46
   obtain⟨x4,rfl⟩:∃ y,y = x:=⟨x,rfl⟩;refine m220 ?_;refine m27 ?_;refine j8 p8 (aB.id _) aa aa ?_;refine ac _ ?_;refine m48 ?_;refine pR (bR (pR (bR (done rfl (.cellP rfl p8 (ed zm (aB.id _)) (.tmp rfl (.tmp rfl .nil))) (λw I=>?_)))));exact KH (λb hb=>(Hl b hb).1) (1,t2) ⟨t2,W.tr (W.tr ht Vv.2.1) GJ.2.1,GJ.2.2.1,YZ h3 h4,λe=>(by cases e),λ_=>⟨rfl,GJ.1,GJ.2.2.2.2⟩,by grind⟩ (by simp_all) (by simp) (λb hb=>((I.own _ (show S t2 ∈ _ from (by simp))).2 b hb).1.elim (hUf b) (·.1)) w I
  ·have h4:Bo ss (W.n t2) bs = false:=by unfold Bo; rw [hpk]; exact h4
   refine m73 ?_;refine co (Ev.gS MP aa (aB.id _)) ?_;refine cf 0 rfl ?_;refine co (Ev.gS l9 aa bA.ku) ?_;refine co (Ev.to (Ev.AY aa (.c rfl)) (aL Value.bool hdr2)) ?_;refine cons (dg eN (o3 rfl rfl rfl) (λw I=>Ma x0.b x0.sv.v ss (bh _) dr w ((W.Z0 t2 w (I.own _ (show S t2 ∈ _ from zm)).1).2.2) (hN w I.keeps).s hs hl) ?_);refine cons (dg eN (o1 rfl) (λw I=>VS _ (Ie ss _ dr) w rfl) ?_);refine m6 ?_;refine cons (Bd (X:=σ) (r':=S) (ZD Hl) _ _ (λ_=>zu) zm eN (.cons aa (.cons (.c rfl) .nil)) (λw kp I hA hk=>W.QD t2 5 w kp GJ.1 (by omega) hA (λb hb=>((I.own _ (show S t2 ∈ _ from zm)).2 b hb).1.elim (hUf b) (·.1)) (λb hb=>hUf b (az I.keeps.size hb)) hk) (λt3 ZH=>?_));refine m235 ?_;refine m247 ?_;refine G9 _ _ (λ_=>zu) zm eN (o3 rfl rfl rfl) (λw I=>ZH.2.2.1 ▸ W.cas t3 dr w ZH.1 (am w I) (ZH.2.2.1.symm ▸ GJ.2.2.1) (ZH.2.2.1.symm ▸ h3) (ZH.2.2.1.symm ▸ Nn h4)) (λr1 ZJ=>?_);refine nP ?_;refine nG rfl (λh5=>?_) (λh5=>?_)
   ·refine m220 ?_;refine m59 ?_;refine ac _ ?_;refine m3 ?_;refine ret (bR (pR (bR (done rfl (.cellP rfl p8 (ed zm (aB.id _)) (.tmp rfl (.tmp rfl .nil))) (λw I=>?_)))));exact KH (λb hb=>(Hl b hb).1) (2,r1.2) ⟨t3,W.tr (W.tr (W.tr ht Vv.2.1) GJ.2.1) ZH.2.1,ZH.2.2.1.symm ▸ GJ.2.2.1,by grind [YY],λ_=>(ZJ.1 h5).1,λe=>absurd rfl e,by grind⟩ (by simp_all) (by simp) (λb hb=>((I.own _ (show S r1.2 ∈ _ from (by simp))).2 b hb).1.elim (hUf b) (·.1)) w I
   ·refine skip (bN (pN (Sv _ ⟨?_,?_,?_⟩ ?_)))
    ·exact W.tr (W.tr (W.tr (W.tr ht Vv.2.1) GJ.2.1) ZH.2.1) (ZJ.2 h5).2.1
    ·grind
    ·have k1:=ZJ.2 h5; have k2:=W.mu GJ.2.1; omega
    ·have k1:=ZJ.2 h5; have k2:=W.mu GJ.2.1; omega
theorem Qq (n:UInt64):(n &&& 255).toNat < 9223372036854775808:=by
 grind [UInt64.toNat_and,Nat.lt_of_le_of_lt,Nat.and_le_right,decide]
theorem HK [agp:∀ t,pd (S t)] {nb:Nat} (W:FO X fr σ S U gv b p (.pointer (some ⟨nb,0,none⟩)) sv ss) (s:σ) (hrs:W.Kd s) (hf0:0 < W.fu s) (keep:Nat->Prop) (w:World) (uK:fr <= w.heap.size) (hfu:∀ b,U b->fr <= b) (h:At (S s) w) (hU0:∀ b,(S s).c9 b->U b) (hUf:∀ b,w.heap.size <= b->U b) (Hl:lN keep (S s) w):iQ X fr Tryz.prog 27 #[.pointer (some ⟨b,0,none⟩),gv] w (qy U keep w (λt=>W.R s t /\ xW ss (W.n t) /\ W.Kd t /\ W.fu s <= W.fu t + 1) (λt=>.tuple #[I ((bh (W.n t)).stage.toNat:Int),fO (bh (W.n t)).seen,fO (bh (W.n t)).dropped,I 0]) S):=by
 refine wM 26 [S s] Tryz.func27 rfl rfl (aT rfl) uK (λb hb=>hfu b hb.1) (λok=>zX h hU0 Hl _ ok) ?_;refine m156 ?_;refine ac (fO 0) ?_;refine ac (fO 0) ?_;refine m99 ?_;refine Bd (X:=σ) (r':=S) (ZD Hl) _ _ (λ_=>zu) zm eN (.cons aa (.cons (.c rfl) .nil)) (λw kp I hA hk=>W.QD s 1 w kp hrs hf0 hA (λb hb=>((I.own _ (show S s ∈ _ from zm)).2 b hb).1.elim (hUf b) (·.1)) (λb hb=>hUf b (az I.keeps.size hb)) hk) (λt1 Vv=>?_);refine m235 ?_;refine cons (G9 _ _ (λ_=>zu) zm eN (o1 rfl) (λw I=>W.load t1 w Vv.1 (am w I)) (λt2 GJ=>?_));refine m203 ?_;refine alloc Kf (λb1=>?_);refine m179 ?_;refine m143 ?_;refine m265 ?_;refine tk 2 rfl (Ev.Dp Y3 Kb aa (λ_=>Qq _)) ?_;refine tk 3 rfl (fA 2 aa) ?_;refine tk 4 rfl (Ev.gS nh aa aK.wy) ?_;refine tk 5 rfl (fA 3 aa) ?_;refine tk 6 rfl (Ev.gS nh aa aK.j5) ?_;refine m285 ?_;refine tk 8 rfl (Ev.assign aa) ?_;refine m254 ?_;refine done rfl (.tmp rfl (.tmp rfl (.tmp rfl (.tmp rfl .nil)))) (λw I=>?_);exact s58
theorem Gn [agp:∀ t,pd (S t)] {nb:Nat} (W:FO X fr σ S U gv b p (.pointer (some ⟨nb,0,none⟩)) sv ss) (s:σ) (hrs:W.Kd s) (hf0:0 < W.fu s) (keep:Nat->Prop) (w:World) (uK:fr <= w.heap.size) (hfu:∀ b,U b->fr <= b) (h:At (S s) w) (hU0:∀ b,(S s).c9 b->U b) (hUf:∀ b,w.heap.size <= b->U b) (Hl:lN keep (S s) w):iQ X fr Tryz.prog 28 #[.pointer (some ⟨b,0,none⟩),gv] w (qy U keep w (λt=>W.R s t /\ xW ss (W.n t) /\ W.Kd t /\ W.fu s <= W.fu t + 1) (λt=>.tuple #[.bool (decide (¬ (bh (W.n t)).end_ = 0)),.bool (decide ((bh (W.n t)).end_ = 1)),I 0]) S):=by
 refine wM 24 [S s] Tryz.func28 rfl rfl (aT rfl) uK (λb hb=>hfu b hb.1) (λok=>zX h hU0 Hl _ ok) ?_;refine m209 ?_;refine ac _ ?_;refine m99 ?_;refine Bd (X:=σ) (r':=S) (ZD Hl) _ _ (λ_=>zu) zm eN (.cons aa (.cons (.c rfl) .nil)) (λw kp I hA hk=>W.QD s 1 w kp hrs hf0 hA (λb hb=>((I.own _ (show S s ∈ _ from zm)).2 b hb).1.elim (hUf b) (·.1)) (λb hb=>hUf b (az I.keeps.size hb)) hk) (λt1 Vv=>?_);refine m235 ?_;refine cons (G9 _ _ (λ_=>zu) zm eN (o1 rfl) (λw I=>W.load t1 w Vv.1 (am w I)) (λt2 GJ=>?_));refine m203 ?_;refine alloc Kf (λb1=>?_);refine m179 ?_;refine nP ?_;refine m125 ?_;refine tk 1 rfl (Ev.gS nh aa aK.tX) ?_;refine tk 2 rfl (Ev.W9 aa (.c (v:=fO 0) rfl)) ?_;refine tk 3 rfl (fA 0 aa) ?_;refine tk 4 rfl (Ev.gS nh aa aK.tX) ?_;refine tk 5 rfl (Ev.qG aa (.c (v:=fO 1) rfl)) ?_;refine tk 6 rfl (Ev.assign aa) ?_;refine m285 ?_;refine tk 8 rfl (Ev.assign (.c rfl)) ?_;refine m142 ?_;refine ret (done rfl (.tmp rfl (.tmp rfl (.tmp rfl .nil))) (λw I=>?_));exact s58
def IL (i:UInt16):ae:={ bm.zero with bz:=17,dD:=i,dE:=9,ED:=5 }
def y0 (low:Bool):Nat:=if low = true then 1 else 0
def y1 (low:Bool):List UInt8:=mL (IL (UInt16.ofNat (y0 low))) []
theorem akc (k:Nat) (h:k <= 1):js (IL (UInt16.ofNat k)) 0 = 0:=by
 have h2:k = 0 \/ k = 1:=by omega
 rcases h2 with rfl | rfl
 ·rfl
 rfl
theorem one_le (low:Bool):y0 low <= 1:=by unfold y0; grind
theorem Sr (h:0 <= i /\ i <= y0 low):i < 4096:=by
 have:=one_le low;omega
theorem aba (h:0 <= i /\ i <= y0 low):i.toNat <= 1:=by
 have:=one_le low;omega
theorem Nm (low:Bool) (k:Nat) (h:k <= y0 low):(decide ((vz (W3 (IL (UInt16.ofNat k))) 100).1 < 50) == low) = decide (k = y0 low):=by
 have h0:decide ((vz (W3 (IL (UInt16.ofNat 0))) 100).1 < 50) = false:=by decide +kernel
 have h1:decide ((vz (W3 (IL (UInt16.ofNat 1))) 100).1 < 50) = true:=by decide +kernel
 cases low with
 | false =>
   simp_all [y0]
 | true =>
   have h2:k = 0 \/ k = 1:=by
    have:k <= 1:=by simpa [y0] using h
    omega
   rcases h2 with rfl | rfl
   ·rfl
   rfl
theorem abe (h:0 <= i /\ i <= y0 low):UInt16.ofInt i = UInt16.ofNat i.toNat:=by
 have:=one_le low;have h2:i = 0 \/ i = 1:=by omega
 rcases h2 with rfl | rfl <;> decide
theorem Xm (h:ae) (w:World) (hd:h.data = aM) (hc:js h 0 = 0):aR 24 #[bm.val h] w (nz w (λ_:OV=>True) (λo=>.tuple #[o.v,I 0]) (λo=>[bY o.v iO (mL h []) 5])):=by
 refine (Nz h [] w (by rw [hd]; exact bU.nil _ w) (by simp)).mono (λ_ h=>h) ?_;rintro e w' ⟨o,_,he,hk,hn⟩;have hc2:js h (([]:List UInt8).length:Int) = 0:=hc;rw [hc2] at he;simp only [hc2,if_true] at hn;exact ⟨o,trivial,he,hk,hn⟩
def acJ:cS:={ iK.zero with name:=⟨#[97,108,108]⟩,action:=3,out:=1 }
def pS:CL:=⟨[1],[],[],[],[]⟩
def oP:CL:=⟨[1],[],[acJ],[],[]⟩
theorem Jh (w:World):aR 31 #[] w (nz w (λ_:OV=>True) (λo=>jI.val ⟨o,aM,aM,aM,aM,2⟩) (λo=>[bY o.v iE [1] 3])):=by
 refine iZ 3 Tryz.func31 (λ_ _=>?_);refine m15 ?_;refine alloc z28 (λb1=>?_);refine nP ?_;refine m15 ?_;refine buildSlice Ei l9 z3 (.cons (.c rfl) .nil) rfl rfl (λv2=>?_);refine co (Ev.fe (places:=[(0,1),(1,1),(2,1),(3,1),(4,1),(5,1)]) z28 rfl Y28 zk (.cons aa (.cons (.c rfl) .nil)) (bB.cons cy.jz rfl (bB.cons cy.nD rfl bB.nil))) ?_;refine cons (j8 DX (aB.id _) aa aa ?_);refine m284 ?_;refine done rfl (.cellP rfl DX (ed zm (aB.id _)) .nil) (λw I=>?_);exact lu v2 trivial rfl zp w I
theorem HR (w:World):aR 32 #[] w (nz w (λ_:OV × OV=>True) (λo=>jI.val ⟨o.1,aM,o.2,aM,aM,2⟩) (λo=>[bY o.1.v iE [1] 3,bY o.2.v iK [acJ] 201])):=by
 refine iZ 5 Tryz.func32 (λ_ _=>?_);refine m15 ?_;refine alloc z28 (λb1=>?_);refine nP ?_;refine m15 ?_;refine buildSlice Ei l9 z3 (.cons (.c rfl) .nil) rfl rfl (λv2=>?_);refine co (Ev.fe (fs:=_) (places:=[(0,1),(1,44),(45,1),(46,1),(47,1),(48,1)]) Oy rfl Tryz.underlying201 zk (.cons (.c rfl) (.cons (.c rfl) (.cons (.c rfl) .nil))) (bB.cons cS.mB rfl (bB.cons cS.ku rfl (bB.cons cS.qS rfl bB.nil)))) ?_;refine cons (buildSlice Z8 AJ Oy (.cons aa .nil) rfl rfl (λv3=>?_));refine co (Ev.fe (places:=[(0,1),(1,1),(2,1),(3,1),(4,1),(5,1)]) z28 rfl Y28 zk (.cons aa (.cons aa (.cons (.c rfl) .nil))) (bB.cons cy.jz rfl (bB.cons cy.kX rfl (bB.cons cy.nD rfl bB.nil)))) ?_;refine cons (j8 DX (aB.id _) aa aa ?_);refine m284 ?_;refine done rfl (.cellP rfl DX (ed zm (aB.id _)) .nil) (λw I=>?_);exact lu (v2,v3) trivial rfl zp w I
theorem Sq (low:Bool) (w:World):aR 30 #[.bool low] w (vM w iO (y1 low) 5):=by
 refine iZ 30 Tryz.func30 (λ_ _=>?_);refine m12 ?_;refine seq ?_;refine m156 ?_;refine nP (block (lp (X:=Int) (λx=>(0 <= x /\ x <= y0 low)) (λx=>[dz,(0,true,.bool low),(3,true,I x)]) (λx=>[]) (λx=>((y0 low:Int) - x).toNat) (0) ?_ (λx hx=>?_)))
 ·omega
 obtain⟨i,rfl⟩:∃ y,y = x:=⟨x,rfl⟩;have hi:=hx;clear hx;refine m16 ?_;refine m77 ?_;refine nP (N6 rfl (ia (Sr hi)) ?_);refine m21 ?_;refine seq ?_;obtain⟨pk,hpk⟩:∃ z,(vz (W3 (IL (UInt16.ofNat i.toNat))) 100).1 = z:=⟨_,rfl⟩;refine m19 ?_;refine co (Ev.yB Hn Y3 aa) ?_;refine co (Ev.to (Ev.fe (fs:=_) (places:=[(0,17),(17,17),(34,1),(35,1),(36,1),(37,1),(38,1),(39,1),(40,1),(41,1),(42,1)]) QB rfl Y60 zk (.cons (.c (v:=U8 17) rfl) (.cons aa (.cons (.c (v:=rX 9) rfl) (.cons (.c (v:=U8 5) rfl) .nil)))) (bB.cons ae.iF rfl (bB.cons ae.gg rfl (bB.cons ae.gk rfl (bB.cons ae.CY rfl bB.nil))))) (aL (λx=>bm.val (IL x)) (abe hi))) ?_;refine cons (alloc QB (λb1=>?_));refine m81 ?_;refine nP ?_;refine m74 ?_;refine cons (iP (X:=OV) _ _ (λo=>[bY o.v iO (mL (IL _) []) 5]) eN (o1 rfl) (λw I=>Xm _ w rfl (akc _ (aba hi))) (λo4 _=>?_));refine m270 ?_;refine m43 ?_;refine mv rfl (cg rfl rfl (Ev.gS rm aa (aB.id _)) ?_);refine cons (sT rfl rfl eN (.cons (.g rfl id) .nil) (λhg w I=>Oc.CM _ w) ?_);refine cons (sT rfl rfl eN (.cons (.g rfl id) .nil) (λhg w I=>Gl _ pk w hpk) ?_);refine cg rfl rfl (Ev.y4 (.g rfl id) (.c (v:=fO 50) rfl)) ?_;refine m104 ?_;refine cg rfl rfl (Ev.Z2 Y4 (.g rfl id) (.g rfl id)) ?_;refine m28 ?_;refine nP ?_;refine nG rfl (λh1=>?_) (λh1=>?_)
 ·have h1:(decide (pk < 50) == low) = true:=by simpa using h1
  rw [<- hpk,Nm low i.toNat (by omega)] at h1;have h1:i.toNat = y0 low:=by simpa using h1
  refine m1 ?_;refine m48 ?_;refine m211 ?_;refine m75 ?_;unfold y1;rw [h1]
 ·have h1:(decide (pk < 50) == low) = false:=by simpa using h1
  rw [<- hpk,Nm low i.toNat (by omega)] at h1;have h1:¬ i.toNat = y0 low:=by simpa using h1
  refine skip (bN (pN (region (mv rfl (co (Ev.lx aa (.c rfl) (λ_=>by have:=Sr hi; omega)) ?_)))));refine vK rfl (nP (nx _ ?_ ?_))
  ·omega
  omega
theorem Ij {c1 c2:cy} {l1 l2:CL} {u:Value} (hc1:kA w c1 l1) (hc2:kA w c2 l2) (hu:bU da w u ss) (GL:l1.Names) (BO:l2.Names) (hz1:l1.n <= 4611686018427387904) (hz2:l2.n <= 4611686018427387904) (hss:ss.length * 24 <= 140737488355328) (hd1:c1.default = d1) (Vx:c2.default = d2) (he:tG l1 l2 d1 d2 ss = 0) :
 aR 10 #[jI.val c1,jI.val c2,u] w (nz w (U7 l1 l2 d1 d2 ss) (λx=>.tuple #[.pointer (some ⟨x.b,0,none⟩),I 0]) (λx=>[Var x.b cH (x.rv 0) 122,x.r,bY x.sv.v da ss 43])):=by
 subst hd1;subst Vx;refine (Gs c1 c2 l1 l2 u ss w hc1 hc2 hu GL BO hz1 hz2 hss).mono (λ_ h=>h) ?_;rintro e w' ⟨x,hJ,hv,hk,hn⟩;simp only [he,if_true] at hn;rw [he] at hv;exact ⟨x,hJ he,hv,hk,hn⟩
def wfb (ss:List bj) (n:UInt64):Bool:=decide ((bh n).stage.toNat < ss.length) && decide ((bh n).dropped.toNat <= (bh n).seen.toNat) && (decide ((bh n).end_.toNat = 0 /\ (bh n).seen.toNat < wt ss (bh n).stage.toNat /\ (bh n).dropped.toNat <= mo ss (bh n).stage.toNat) || decide ((bh n).end_.toNat = 1 /\ (bh n).stage.toNat + 1 = ss.length /\ (bh n).seen.toNat = wt ss (bh n).stage.toNat /\ (bh n).dropped.toNat <= mo ss (bh n).stage.toNat) || decide ((bh n).end_.toNat = 2 /\ (bh n).seen.toNat <= wt ss (bh n).stage.toNat /\ (bh n).dropped.toNat = mo ss (bh n).stage.toNat + 1))
theorem MJ (h:wfb ss n = true):xW ss n:=by
 simp only [wfb,cF,iH,cn,or_assoc] at h;exact ⟨h.1.1,h.1.2,h.2⟩
theorem T5 (h:xW ss n) (h1:¬ (bh n).end_ = 1) (h2:¬ (bh n).end_ = 2):(bh n).end_.toNat = 0:=by
 rcases h.alt with h | h | h
 ·omega
 ·exact absurd (cC.1 h.1) h1
 ·exact absurd (cC.1 h.1) h2
def Ix (x:RX) (ss:List bj) (hg:kJ ss) (uK:fr <= x.b) (N:Nat):FO X fr { n:UInt64 // xW ss n } (λn=>Var x.b cH (x.rv n.1) 122) (λb=>b = x.b \/ N <= b) rC.v x.b (.pointer (some ⟨x.p.b,0,none⟩)) (.pointer (some ⟨x.q.b,0,none⟩)) x.sv.v ss where
 n:=λs=>s.1
 μ:=λ_=>0
 fu:=λ_=>2
 R:=λs t=>s = t
 Kd:=λ_=>True
 Sn:=λ_=>True
 Hit:=λs dr t=>t.1 = Ie ss s.1 dr
 r0:=λ_=>rfl
 tr:=λh h'=>h.trans h'
 mu:=λ_=>aA _
 Z0:=λs w h=>by
  have h0:w.heap[x.b]? = some _:=h;refine ⟨.inl ?_,.inl ?_,.inl ?_⟩ <;> (simp only [World.cell?,h0]; rfl)
 QD:=λs o w keep _ _ h hU _ hk=>by
  have hb:=h.2 _ rfl;refine (Rw o w X fr (by omega) (λ_ h=>h.elim)).mono (λ_ h=>h.elim) λe w' ⟨h1,h2⟩=>⟨s,⟨trivial,rfl,rfl,rfl,by decide⟩,h1,h2.mono (λ_ h=>h.elim),(Var x.b cH _ 122).st w w' (λb hb'=>h2.block b (h.2 b hb') id) h.1,λb hb'=>⟨hU b hb',λhk'=>(hk b hk').2.2 hb',aD (h.2 b hb') h2.size⟩⟩
 load:=λs w _ h=>by
  have hb:=h.2 _ rfl;have hp:eK lG w x.b 3 s.1:=by
   have h0:w.heap[x.b]? = some (.cells (cH.cells (x.rv s.1)).toArray 122 (0,0)):=h.1;intro j u hu
   match j,hu with
   | 0,hu=>simp only [World.cell?,h0]; exact hu
   | j + 1,hu=>simp [lG,Vl] at hu
  refine (E8 x.b 3 s.1 w hp X fr (by omega) (λ_ h=>h.elim)).mono (λ_ h=>h.elim) λe w' ⟨h1,h2⟩=>⟨s,⟨trivial,rfl,s.2,rfl,trivial⟩,h1,h2.mono (λ_ h=>h.elim),(Var x.b cH _ 122).st w w' (λb hb'=>h2.block b (h.2 b hb') id) h.1,λb hb'=>⟨.inl hb',aD (h.2 b hb') h2.size⟩⟩
 cas:=λs dr w _ h _ h1 h2=>by
  have hb:=h.2 _ rfl;have hn:=Nr hg s.2 (T5 s.2 h1 h2) dr;refine (Jz (aB.comp cP.y9 db.Vr) x.b _ _ 122 w h X fr (by omega) (λb hb'=>by rw [show b = x.b from hb']; omega)).mono (λ_ h=>h) λe w' ⟨_,_,g1,g2,g3,g4⟩=>⟨(true,⟨_,hn.1⟩),⟨λ_=>⟨rfl,rfl⟩,λe=>by cases e⟩,g1,g2,g3,g4⟩
theorem Co {P:Program} {f:FuncId} {args:Array Value} {Y:Type} {J:Y->Prop} {val:Y->Value} {r':Y->du} (hU:∀ b,U b->r.c9 b \/ w.heap.size <= b) (h:iQ X fr P f args w (qy U (λ_=>False) w J val r')):iQ X fr P f args w (Gx.mE w r J val r'):=λmain kind cs hk=>by
 have hp:∀ b,tI w (λb=>U b /\ ¬ False) b->tI w r.c9 b:=by grind
 refine ((h main kind cs hk).uq hp).bind ?_;rintro g v1 ⟨fr,val,v0,h1,h2,⟨x,hJ,he,hkp,ha,hf⟩,h4,h5⟩;refine .stop ⟨fr,val,v0,h1,h2,⟨x,hJ,he,⟨hkp.os,hkp.tape,hkp.output,hkp.size,λb hb hn=>hkp.block b hb λhu=>(hU b hu.1).elim hn λh=>by omega⟩,ha,λb hb=>⟨hU b (hf b hb).1,(hf b hb).2.2⟩⟩,h4,h5.mode,h5.defers,?_⟩;have⟨fn,h6,h7⟩:=h5.res;exact ⟨fn,h6,λv2 hg hn=>gG hp _ _ (h7 v2 hg hn)⟩
def CN:lN (λ_=>False) r w:=λ_ h=>h.elim
theorem NI {w2:World} (hr:∀ c,r.c9 c ↔ c = b) (k:bf (λc=>(c = b \/ w.heap.size <= c) /\ ¬ False) w w2):bf r.c9 w w2:=⟨k.os,k.tape,k.output,k.size,λc hc hn=>k.block c hc λhu=>hu.1.elim (λe=>hn ((hr c).2 e)) λh=>by omega⟩
theorem CE (x0:RX) (l1 l2:CL) (d1 d2:Int) (ss:List bj) (n:UInt64) (j:mU) (bs:List UInt8) (V:bA) (q:Bool) (m:UInt64) (w:World) (h:At (Var x0.b cH (x0.rv n) 122) w) (hN:∀ w2,bf (Var x0.b cH (x0.rv n) 122).c9 w w2->Hf w2 x0 l1 l2 d1 d2 ss) (hb:∀ w2,bf (Var x0.b cH (x0.rv n) 122).c9 w w2->bU iO w2 j.Ad.v bs) (ZL:qz x0.p l1 d1) (IH:qz x0.q l2 d2) (hst:iM ss 0 = true) (hw:wfb ss n = true)
 (hV:Nj l1 l2 d1 d2 j.ta ss n bs = V) (hq:Nk ss n bs = q) (hm:EU l2 d2 j.ta ss n bs = m) (he:pE bs = 0) :
 aR 26 #[.pointer (some ⟨x0.b,0,none⟩),rC.v,Jg.val j] w (Gx.mE w (Var x0.b cH (x0.rv n) 122) (λ_:Unit=>True) (λ_=>.tuple #[dK.val V,.bool q,I 0]) (λ_=>Var x0.b cH (x0.rv m) 122)):=λX fr uK hM=>by
 subst hV hq hm;have hg:=vd hst;have hfb:∀ b,(b = x0.b \/ w.heap.size <= b)->fr <= b:=λb hb=>hb.elim (λe=>hM b e) λh=>by omega
 refine (Co (r:=Var x0.b cH (x0.rv n) 122) (λb hb=>hb) (Ni x0 l1 l2 d1 d2 ss (Ix x0 ss hg (hM _ rfl) w.heap.size) ⟨n,MJ hw⟩ trivial (show 2 * 0 + 2 <= 2 by decide) _ j bs (λ_=>False) w uK hfb h (λb hb=>.inl hb) (λb hb=>.inr hb) CN (λw2 k=>hN w2 (NI (λ_=>.rfl) k)) (λw2 k=>hb w2 (NI (λ_=>.rfl) k)) ZL IH (by have:=hg.l; omega) he rfl)).mono (λ_ h=>h) ?_;rintro e w' ⟨⟨k,t⟩,⟨s,rfl,_,hk,h2,h3,_⟩,hv,hkp,ha,hf⟩;have hk':mV ss n bs = k:=hk;subst hk';have ht:t.1 = EU l2 d2 j.ta ss n bs:=by
  unfold EU
  by_cases e:mV ss n bs = 2
  ·rw [if_pos e]; exact h2 e
  ·rw [if_neg e];have:t = ⟨n,MJ hw⟩:=(h3 e).1;rw [this]
 have ha':(Var x0.b cH (x0.rv t.1) 122).A w':=ha;rw [ht] at ha';exact ⟨(),trivial,hv,hkp,ha',hf⟩
def z7 {x:RX} {l1 l2:CL} (I:bS K L w) (hr:lC L r L') (h1:x.r ∈ L') (h2:bY x.sv.v da ss 43 ∈ L') (hx:U7 l1 l2 d1 d2 ss x):∀ w2,bf r.c9 w w2->Hf w2 x l1 l2 d1 d2 ss:=λw2 k =>
 have I2:=I.JE hr k
 ⟨(hx.r w2 (I2.own _ h1).1).1,(hx.r w2 (I2.own _ h1).1).2,bU.lJ (I2.own _ h2).1⟩
def CF {v:Value} {xs:List α} {t:TypeId} (I:bS K L w) (hr:lC L r L') (h:bY v E xs t ∈ L'):∀ w2,bf r.c9 w w2->bU E w2 v xs:=λw2 k=>bU.lJ ((I.JE hr k).own _ h).1
theorem Rx (x:RX) (ss:List bj) (hst:iM ss 0 = true) (m:UInt64) (hw:wfb ss m = true) (a:Int) (b c:UInt64) (w:World) (sf:At (Var x.b cH (x.rv m) 122) w) (h:((bh m).stage.toNat:Int) = a /\ (bh m).seen = b /\ (bh m).dropped = c):aR 27 #[.pointer (some ⟨x.b,0,none⟩),rC.v] w (Gx.mE w (Var x.b cH (x.rv m) 122) (λ_:Unit=>True) (λ_=>.tuple #[I a,fO b,fO c,I 0]) (λ_=>Var x.b cH (x.rv m) 122)):=λX fr uK hM=>by
 obtain⟨h1,rfl,rfl⟩:=h;rw [<- h1];refine (Co (r:=Var x.b cH (x.rv m) 122) (λb hb=>hb) (HK (Ix x ss (vd hst) (hM _ rfl) w.heap.size) ⟨m,MJ hw⟩ trivial (show 0 < 2 by decide) _ w uK (λb hb=>hb.elim (λe=>hM b e) λh=>by omega) sf (λb hb=>.inl hb) (λb hb=>.inr hb) CN)).mono (λ_ h=>h) ?_;exact s49
theorem WU (x:RX) (ss:List bj) (hst:iM ss 0 = true) (m:UInt64) (hw:wfb ss m = true) (a b:Bool) (w:World) (sf:At (Var x.b cH (x.rv m) 122) w) (h:decide (¬ (bh m).end_ = 0) = a /\ decide ((bh m).end_ = 1) = b):aR 28 #[.pointer (some ⟨x.b,0,none⟩),rC.v] w (Gx.mE w (Var x.b cH (x.rv m) 122) (λ_:Unit=>True) (λ_=>.tuple #[.bool a,.bool b,I 0]) (λ_=>Var x.b cH (x.rv m) 122)):=λX fr uK hM=>by
 obtain⟨rfl,rfl⟩:=h;refine (Co (r:=Var x.b cH (x.rv m) 122) (λb hb=>hb) (Gn (Ix x ss (vd hst) (hM _ rfl) w.heap.size) ⟨m,MJ hw⟩ trivial (show 0 < 2 by decide) _ w uK (λb hb=>hb.elim (λe=>hM b e) λh=>by omega) sf (λb hb=>.inl hb) (λb hb=>.inr hb) CN)).mono (λ_ h=>h) ?_;exact s49
def Ju {o:OV} (w:World) (I:bS K L w) (h:bY o.v iE [1] 3 ∈ L):kA w ⟨o,aM,aM,aM,aM,2⟩ pS:=⟨kY h w I,bU.nil _ w,bU.nil _ w,bU.nil _ w,bU.nil _ w⟩
def Jt {o1 o2:OV} (w:World) (I:bS K L w) (h:bY o1.v iE [1] 3 ∈ L) (h2:bY o2.v iK [acJ] 201 ∈ L):kA w ⟨o1,aM,o2,aM,aM,2⟩ oP:=⟨kY h w I,bU.nil _ w,kY h2 w I,bU.nil _ w,bU.nil _ w⟩
theorem Nt {l:CL} (h:l.us.all (λx=>decide (x.name.size <= 16)) && l.ms.all (λx=>decide (x.name.size <= 16)) && l.xs.all (λx=>decide (x.name.size <= 16)) = true):l.Names:=by
 simp only [cF,fI,cn] at h;exact ⟨λx hx=>by grind,λx hx=>by grind,λx hx=>by grind⟩
theorem T7:pS.Names:=Nt (by rfl)
theorem RG:oP.Names:=Nt (by rfl)
theorem T6:pS.n <= 4611686018427387904:=by trivial
theorem RF:oP.n <= 4611686018427387904:=by trivial
def Rz:List bj:=[⟨50,2,0⟩,⟨100,1,0⟩]
def ss2:List bj:=[⟨50,2,0⟩]
theorem e1:tG pS oP 2 2 Rz = 0:=by rfl
theorem e2:tG oP pS 2 2 ss2 = 0:=by rfl
theorem pV1:Nj pS oP 2 2 1 Rz 0 (y1 false) = ⟨2,-1,-1,-1,-1⟩:=by rfl
theorem pV2:Nj pS oP 2 2 1 Rz 0 (y1 true) = ⟨3,1,0,-1,-1⟩:=by rfl
theorem pV3:Nj oP pS 2 2 1 ss2 0 (y1 true) = ⟨2,-1,-1,-1,-1⟩:=by rfl
theorem pB1:Nk Rz 0 (y1 false) = false:=by rfl
theorem pB2:Nk Rz 0 (y1 true) = true:=by rfl
theorem pB3:Nk ss2 0 (y1 true) = true:=by rfl
theorem pW1:EU oP 2 1 Rz 0 (y1 false) = 0:=by rfl
theorem pW2:EU oP 2 1 Rz 0 (y1 true) = 2097152:=by rfl
theorem pW3:EU pS 2 1 ss2 0 (y1 true) = 2251799815782401:=by rfl
theorem pE1 (b:Bool):pE (y1 b) = 0:=by cases b <;> decide +kernel
def aeg:zI 100 Jg:=kI
theorem Q6 (w:World):aR 7 #[] w (dO w (.bool true)):=by
 refine iZ 144 Tryz.func7 (λ_ _=>?_);refine m272 ?_;refine jW eN (.cons (.c rfl) .nil) (λw I=>Sq true w) (λv1=>?_);refine cons (jW eN (.cons (.c rfl) .nil) (λw I=>Sq false w) (λv2=>?_));refine m41 ?_;refine m15 ?_;refine iP _ _ _ eN .nil (λw I=>Jh w) (λdd _=>?_);refine cons (iP _ _ _ eN .nil (λw I=>HR w) (λsd _=>?_));refine m108 ?_;refine co (Ev.fe (places:=[(0,1),(1,1),(2,1)]) MG rfl Y43 zk (.cons (.c rfl) (.cons (.c (v:=fO 1) rfl) .nil)) (bB.cons bj.oI rfl (bB.cons bj.sF rfl bB.nil))) ?_;refine cons (buildSlice BY rI MG (.cons aa (.cons aa .nil)) rfl rfl (λv3=>?_));refine cons (iP (U7 pS oP 2 2 Rz) _ _ eN (o3 rfl rfl rfl) (λw I=>Ij (Ju w I zm) (Jt w I zm zm) (kY zm w I) T7 RG T6 RF (by decide) rfl rfl e1) (λx1 va=>?_));refine m219 ?_;refine uC (X:=Unit) _ _ (λ_=>zu) zm eN (.cons aa (.cons (.c rfl) (.cons (.t rfl) .nil))) (λw I=>CE x1 pS oP 2 2 Rz 0 _ _ _ _ _ w (am w I) (z7 I zr zm zm va) (CF (v:=v2.v) I zr zm) va.p va.q va.st (by rfl) pV1 pB1 pW1 (pE1 _)) (λ_ _=>?_);refine m241 ?_;refine alloc vH (λb4=>?_);refine m59 ?_;refine m60 ?_;refine m45 ?_;refine uC (X:=Unit) _ _ (λ_=>zu) zm eN (.cons aa (.cons (.c rfl) (.cons (.t rfl) .nil))) (λw I=>CE x1 pS oP 2 2 Rz 0 _ (y1 true) _ _ _ w (am w I) (z7 I zr zm zm va) (CF I zr zm) va.p va.q va.st (by rfl) pV2 pB2 pW2 (pE1 _)) (λ_ _=>?_);refine m241 ?_;refine alloc vH (λb5=>?_);refine m59 ?_;refine m60 ?_;refine cons (uC _ _ (λ_=>zu) zm eN (.cons aa (.cons (.c rfl) .nil)) (λw I=>Rx x1 Rz va.st 2097152 (by rfl) 0 1 0 w (am w I) (by trivial)) (λ_ _=>?_));refine m199 ?_;refine m41 ?_;refine m15 ?_;refine iP _ _ _ eN .nil (λw I=>HR w) (λsd _=>?_);refine cons (iP _ _ _ eN .nil (λw I=>Jh w) (λdd _=>?_));refine m108 ?_
 refine cons (buildSlice BY rI MG (.cons aa .nil) rfl rfl (λv6=>?_));refine cons (iP (U7 oP pS 2 2 ss2) _ _ eN (o3 rfl rfl rfl) (λw I=>Ij (Jt w I zm zm) (Ju w I zm) (kY zm w I) RG T7 RF T6 (by decide) rfl rfl e2) (λx2 hx2=>?_));refine m219 ?_;refine uC (X:=Unit) _ _ (λ_=>zu) zm eN (.cons aa (.cons (.c rfl) (.cons (.t rfl) .nil))) (λw I=>CE x2 oP pS 2 2 ss2 0 _ (y1 true) _ _ _ w (am w I) (z7 I zr zm zm hx2) (CF I zr zm) hx2.p hx2.q hx2.st (by rfl) pV3 pB3 pW3 (pE1 _)) (λ_ _=>?_);refine m241 ?_;refine alloc vH (λb7=>?_);refine m59 ?_;refine m60 ?_;refine cons (uC _ _ (λ_=>zu) zm eN (.cons aa (.cons (.c rfl) .nil)) (λw I=>WU x2 ss2 hx2.st _ (by rfl) true false w (am w I) (by trivial)) (λ_ _=>?_));refine m97 ?_;refine vK rfl ?_;refine m60 ?_;refine co (Ev.not aa) ?_;refine m78 ?_;refine m28 ?_;refine m78 ?_;refine m22 ?_;refine cg rfl rfl (Ev.qG (.g rfl id) (.c (v:=fO 1) rfl)) ?_;refine m28 ?_;refine m5 ?_;refine cg rfl rfl (Ev.qG (.g rfl id) (.c (v:=fO 0) rfl)) ?_;refine m28 ?_;refine m5 ?_;refine m22 ?_;refine m28 ?_;refine m78 ?_;refine m28 ?_;refine m162 ?_;refine m5 ?_;refine m243 ?_;exact s31
structure bD where
 part:UInt64
 new:Bool
 dropped:Bool
def bD.to:(UInt64 × (Bool × Bool))->bD:=λx=>⟨x.1,x.2.1,x.2.2⟩
def bD.of:bD->(UInt64 × (Bool × Bool)):=λx=>(x.part,x.new,x.dropped)
def gH:dy bD:=l8 (cW lG (cW bE bE)) bD.to bD.of
def bD.S0:aB gH lG 0:=lI bD.to bD.of l1
@[simp] theorem bD.aeH (x:bD) (y:UInt64):bD.S0.set x y = { x with part:=y }:=rfl
def bD.xO:aB gH bE 1:=lI bD.to bD.of (l2 l1)
@[simp] theorem bD.XR (x:bD):bD.xO.get x = x.new:=rfl
@[simp] theorem bD.Wk (x:bD) (y:Bool):bD.xO.set x y = { x with new:=y }:=rfl
def bD.j5:aB gH bE 2:=lI bD.to bD.of (l2 (l2 (aB.id _)))
@[simp] theorem bD.IQ (x:bD):bD.j5.get x = x.dropped:=rfl
@[simp] theorem bD.HQ (x:bD) (y:Bool):bD.j5.set x y = { x with dropped:=y }:=rfl
def g1 (γs:Nat->List Nat) (i:Nat):Nat:=(γs i).getD 1 0
def g2 (γs:Nat->List Nat) (i:Nat):Nat:=(γs i).getD 2 0
theorem oO {f g:Nat->Nat}:∀ {B:Nat},(∀ k,k < B->f k = g k)->g7 f B = g7 g B
 | 0,_=>rfl
 | B + 1,h=>by simp only [g7]; rw [oO (B:=B) λk hk=>h k (by omega),h B (by omega)]
theorem yP {f g:Nat->Nat} {i a:Nat} (hi:g i = a + f i) (h:∀ k,k ≠ i->g k = f k):∀ {B:Nat},i < B->g7 g B = g7 f B + a
 | 0,hB=>by omega
 | B + 1,hB=>by
   simp only [g7]
   by_cases e:i = B
   ·grind [oO]
   ·rw [yP hi h (by omega),h B (by omega)]; omega
theorem yQ {f:Nat->Nat} {B:Nat} (h:∀ k,B <= k->f k = 0):∀ d:Nat,g7 f (B + d) = g7 f B
 | 0=>rfl
 | d + 1=>by
   show g7 f (B + d) + f (B + d) = _;rw [yQ h d,h _ (by omega)]; rfl
def rJ (ss:List bj) (σ:Nat) (γs:Nat->List Nat):Prop:=∃ n:UInt64,σ = n.toNat /\ xW ss n /\ (∀ i,∃ (m:UInt64) (c d:Nat),γs i = [m.toNat,c,d] /\ xW ss m /\ AG ss m n) ∧
 ∃ B,(∀ i,B <= i->g1 γs i = 0 /\ g2 γs i = 0) /\ g7 (g1 γs) B = rU ss n /\ g7 (g2 γs) B <= Im ss n
def rTr (ss:List bj) (γ:List Nat) (σ:Nat) (γ':List Nat) (σ':Nat):Prop:=∃ lw c d,γ = [lw,c,d] /\ ((σ' = σ /\ γ' = [σ,c,d]) \/ ∃ (n:UInt64) (dr:Bool),σ = n.toNat /\ (bh n).end_.toNat = 0 /\ σ' = (Ie ss n dr).toNat /\ γ' = [σ',c + 1,d + dr.toNat])
theorem aeX (hg:kJ ss) {σ:Nat} {γs:Nat->List Nat} {i:Nat} {γ':List Nat} {σ':Nat} (hJ:rJ ss σ γs) (hT:rTr ss (γs i) σ γ' σ'):rJ ss σ' (upd γs i γ'):=by
 obtain⟨n,rfl,hw,ha,B,hB,h1,h2⟩:=hJ;have⟨lw,c,d,hi,hT⟩:=hT;have pad:∀ {f:Nat->Nat},(∀ k,B <= k->f k = 0)->g7 f (B + (i + 1)) = g7 f B:=λhf=>yQ hf _
 have u1:∀ k,k ≠ i->g1 (upd γs i γ') k = g1 γs k:=λk hk=>by unfold g1; rw [upd_ne γs _ hk]
 have u2:∀ k,k ≠ i->g2 (upd γs i γ') k = g2 γs k:=λk hk=>by unfold g2; rw [upd_ne γs _ hk]
 have c1:g1 γs i = c:=by unfold g1; rw [hi]; rfl
 have c2:g2 γs i = d:=by unfold g2; rw [hi]; rfl
 rcases hT with ⟨rfl,rfl⟩ | ⟨n',dr,hn,h0,rfl,rfl⟩
 ·have v1:∀ k,g1 (upd γs i [n.toNat,c,d]) k = g1 γs k:=λk=>by
   by_cases e:k = i
   ·subst e; rw [c1]; unfold g1; rw [upd_same]; rfl
   ·exact u1 k e
  have v2:∀ k,g2 (upd γs i [n.toNat,c,d]) k = g2 γs k:=λk=>by
   by_cases e:k = i
   ·subst e; rw [c2]; unfold g2; rw [upd_same]; rfl
   ·exact u2 k e
  refine ⟨n,rfl,hw,λk=>?_,B,λk hk=>by grind,by grind [oO],by grind [oO]⟩
  by_cases e:k = i
  ·subst e; rw [upd_same]; exact ⟨n,c,d,rfl,hw,.inl rfl⟩
  simp_all [upd_ne]
 ·obtain rfl:n = n':=cC.1 hn;have⟨k1,k2,k3,k4⟩:=Nr hg hw h0 dr;have hl:=AG.next hg hw h0 dr;have w1:g1 (upd γs i [(Ie ss n dr).toNat,c + 1,d + dr.toNat]) i = 1 + g1 γs i:=by rw [c1]; unfold g1; rw [upd_same]; exact kK c 1
  have w2:g2 (upd γs i [(Ie ss n dr).toNat,c + 1,d + dr.toNat]) i = dr.toNat + g2 γs i:=by rw [c2]; unfold g2; rw [upd_same]; exact kK d _
  refine ⟨_,rfl,k1,λk=>?_,B + (i + 1),λk hk=>?_,?_,?_⟩
  ·by_cases e:k = i
   ·subst e; rw [upd_same]; exact ⟨_,_,_,rfl,k1,.inl rfl⟩
   ·rw [upd_ne γs _ e];have⟨m,c',d',q1,q2,q3⟩:=ha k;exact ⟨m,c',d',q1,q2,q3.trans hl⟩
  ·grind
  ·rw [yP w1 u1 (by omega),pad λk hk=>(hB k hk).1,h1,k2]
  ·rw [yP w2 u2 (by omega),pad λk hk=>(hB k hk).2]; omega
theorem rJ0 (hg:kJ ss) (hp:0 < ss.length):rJ ss 0 (λ_=>[0,0,0]):=by
 have⟨h1,h2⟩:=xW.zero hg hp;exact ⟨0,rfl,h1,λ_=>⟨0,0,0,rfl,h1,.inl rfl⟩,0,λ_ _=>⟨rfl,rfl⟩,h2.symm,bu _⟩
abbrev WS:=UInt64 × Nat × Nat
def IT (s:WS):List Nat:=[s.1.toNat,s.2.1,s.2.2]
end Go.Proofs.YtgnmiaonbadbnaaGreat
namespace Go.Proofs.YtgnmiaonbadbnaaGreat.Oc
open Go Go.Gx Go.Proofs.YtgnmiaonbadbnaaGreat.Tri
theorem Zy (l:Int) (x:UInt8) (h:8 <= l):D5 l x = x:=by grind [D5]
theorem Zz (l:Int) (x:UInt8) (h:l <= 0):D5 l x = 0:=by unfold D5; grind
theorem yD (a:bJ):fT a = 0 ↔ (a.v6 = false->∀ i:Nat,4 <= i->∀ hi:i < 16,a.b[i] = 0):=by
 have e1:fT a = 0 ↔ mf (wd a) a.b = a.b:=by unfold fT; split <;> simp_all
 rw [e1];constructor
 ·intro h hv i h4 hi;have h2:=aL (λv:Vector UInt8 16=>v[i]) h;simp only [mf,iU] at h2;have hw:wd a = 32:=by unfold wd; rw [hv]; rfl
  grind [Zz]
 ·intro h;apply ju;intro i hi;simp only [mf,iU,oN];cases hv:a.v6 with
  | true =>
    have hw:wd a = 128:=by unfold wd; rw [hv]; rfl
    grind [Zy]
  | false =>
    have hw:wd a = 32:=by unfold wd; rw [hv]; rfl
    grind [Zz,Zy]
theorem Dv (v:Vector UInt8 16):fT ⟨true,v⟩ = 0:=by
 simp [yD]
def zeroV (v:Vector UInt8 16) (k:Int):Vector UInt8 16:=Vector.ofFn λi=>if 4 <= (i.val:Int) /\ (i.val:Int) < k then 0 else v[i]
theorem BZ (v:Vector UInt8 16):zeroV v 4 = v:=by
 simp [ju,zeroV,iU,if_neg,oN]
theorem Ke (v:Vector UInt8 16) (k:Int) (h0:4 <= k) (h1:k < 16) (hk:k.toNat < 16):(zeroV v k).set k.toNat 0 hk = zeroV v (k + 1):=by
 apply ju
 grind [e2,zeroV]
def uA (h:ae):ae:={ h with dst:=⟨h.src.v6,h.dst.b⟩ }
def yt (h:ae):ae:={ h with src:=⟨h.src.v6,bif h.src.v6 then h.src.b else zeroV h.src.b 16⟩,dst:=⟨h.dst.v6,bif h.src.v6 then h.dst.b else zeroV h.dst.b 16⟩,id:=bif h.src.v6 then h.id else h.id % 65536 }
def Bs (h:ae):ae:={ h with id:=h.id % 1048576 }
def Ee (h:ae):ae:={ h with flags:=if h.bz = 6 then h.flags else 0,seq:=if h.bz = 6 then h.seq else 0 }
def TH (h:ae):ae:={ h with dD:=if gf h.bz = 0 then 0 else h.dD,dE:=if gf h.bz = 0 then 0 else h.dE }
def mD (h:ae):ae:=TH (Ee (Bs (yt (uA h))))
def Br (h:ae) (d:List UInt8):List UInt8:=d.take (2048 - dG h - gf h.bz).toNat
theorem TI (h:ae) (hv:h.src.v6 = true):yt (uA h) = uA h:=by
 obtain⟨⟨v,b⟩,⟨v2,b2⟩⟩:=h;subst hv
 rfl
theorem PL (h:ae) (hv:h.src.v6 = false):yt (uA h) = { (uA h) with src:=⟨h.src.v6,zeroV h.src.b 16⟩,dst:=⟨h.src.v6,zeroV h.dst.b 16⟩,id:=h.id % 65536 }:=by
 obtain⟨⟨v,b⟩,⟨v2,b2⟩⟩:=h;subst hv
 rfl
theorem qX (v:Vector UInt8 16):fT ⟨false,zeroV v 16⟩ = 0:=by
 grind [yD,zeroV]
theorem Ap (h:ae) (d:List UInt8):js (mD h) (Br h d).length = 0:=by
 have hfc:=ve h;have hmc:=lY h.bz;have hf:dG (mD h) = dG h:=rfl;have hp:(mD h).bz = h.bz:=rfl;have hA:¬ (fT (mD h).src ≠ 0 \/ fT (mD h).dst ≠ 0 \/ (mD h).src.v6 ≠ (mD h).dst.v6 \/ (bif (mD h).src.v6 then 1048575 else 65535) < (mD h).id):=by
  have e1:(mD h).src = ⟨h.src.v6,bif h.src.v6 then h.src.b else zeroV h.src.b 16⟩:=rfl;have e2:(mD h).dst = ⟨h.src.v6,bif h.src.v6 then h.dst.b else zeroV h.dst.b 16⟩:=rfl;have e3:(mD h).id = (bif h.src.v6 then h.id else h.id % 65536) % 1048576:=rfl;rw [e1,e2,e3];cases h.src.v6 with
  | true =>
    rintro (k | k | k | k)
    ·exact k (Dv _)
    ·exact k (Dv _)
    ·exact k rfl
    ·have k2:(1048575:UInt32) < h.id % 1048576:=k;rw [kE,nU] at k2;have e:(1048575:UInt32).toNat = 1048575:=rfl;have e2:(1048576:UInt32).toNat = 1048576:=rfl;rw [e,e2] at k2;omega
  | false =>
    rintro (k | k | k | k)
    ·exact k (qX _)
    ·exact k (qX _)
    ·exact k rfl
    ·have k2:(65535:UInt32) < h.id % 65536 % 1048576:=k;rw [kE,nU,nU] at k2;have e:(65535:UInt32).toNat = 65535:=rfl;have e2:(1048576:UInt32).toNat = 1048576:=rfl;have e3:(65536:UInt32).toNat = 65536:=rfl;rw [e,e2,e3] at k2;omega
 have hB:¬ (gf (mD h).bz = 0 /\ ((mD h).dD ≠ 0 \/ (mD h).dE ≠ 0) \/ (mD h).bz ≠ 6 /\ ((mD h).flags ≠ 0 \/ (mD h).seq ≠ 0)):=by
  have e1:(mD h).dD = if gf h.bz = 0 then 0 else h.dD:=rfl
  have e2:(mD h).dE = if gf h.bz = 0 then 0 else h.dE:=rfl
  have e3:(mD h).flags = if h.bz = 6 then h.flags else 0:=rfl
  have e4:(mD h).seq = if h.bz = 6 then h.seq else 0:=rfl
  rw [e1,e2,e3,e4,hp];rintro (⟨k1,k2⟩ | ⟨k1,k2⟩)
  ·rw [if_pos k1,if_pos k1] at k2;exact k2.elim (λk=>k rfl) (λk=>k rfl)
  ·rw [if_neg k1,if_neg k1] at k2;exact k2.elim (λk=>k rfl) (λk=>k rfl)
 unfold js
 grind [Br,List.length_take]
theorem Ww (h:ae) (d:List UInt8) (w:World) (hd:bU iO w h.data.v d):aR 25 #[bm.val h] w (nz w (λ_:OV=>True) (λo=>bm.val (wD (mD h) o)) (λo=>[bY o.v iO (Br h d) 5])):=by
 have hfc:=ve h;have hmc:=lY h.bz;have hdl:=hd.le;have hq1:dG ((aB.id bm).get (mD h)) = dG h:=rfl;have hq2:gf (ae.iF.get (mD h)) = gf h.bz:=rfl;refine iZ 75 Tryz.func25 (λ_ _=>?_);refine m15 ?_;refine box aa (λb1=>?_);refine cons (alloc QB (λb2=>?_));refine nP ?_;refine m35 ?_;refine cf 0 rfl ?_;refine co (Ev.gS x6 aa (aB.comp ae.mM bJ.wv)) ?_;refine cf 17 rfl ?_;refine m214 ?_;refine j8 x6 (aB.comp ae.nM bJ.wv) aa aa ?_;refine nP (cut (λx=>(x = yt (uA h))) (λx=>[dz,(1,true,jc b1),(2,true,jc b2)]) (λx=>[Var b2 bm bm.zero 60,Var b1 bm x 60]) ?_ (λx hx=>?_))
 ·refine sg ?_;show Sat _ _ _ [Var b2 bm bm.zero 60,Var b1 bm (uA h) 60];refine cf 0 rfl ?_;refine cf 0 rfl ?_;refine co (Ev.gS x6 aa (aB.comp ae.mM bJ.wv)) ?_;refine m57 ?_;refine ig rfl (λh0=>?_) (λh0=>?_)
  ·have hv:h.src.v6 = false:=by assumption
   refine seq (sg (ac (I 4) ?_));refine nP (block (lp (λx=>(4 <= x.1 /\ x.1 <= 16) /\ (x.2 = { (uA h) with src:=⟨h.src.v6,zeroV h.src.b x.1⟩,dst:=⟨h.src.v6,zeroV h.dst.b x.1⟩ })) (λx=>[dz,(1,true,jc b1),(2,true,jc b2),(3,true,I x.1)]) (λx=>[Var b2 bm bm.zero 60,Var b1 bm x.2 60]) (λx=>(16 - x.1).toNat) (4,_) ⟨?_,?_⟩ (λx hx=>?_)))
   ·omega
   ·rw [BZ,BZ]; rfl
   have⟨k,y⟩:=x;dsimp only at hx;have⟨hk,hx⟩:=hx;subst hx;refine m16 ?_;refine m77 ?_;refine nP ?_;refine ig rfl (λhlt=>?_) (λhge=>?_)
   ·refine m191 ?_;have hk16:k.toNat < 16:=by omega
    refine mv rfl (cf 0 rfl ?_);refine m121 ?_;refine cons (j8 jQ (aB.comp (aB.comp ae.mM bJ.D9) (rP iO _ (by omega))) aa (.c (v:=U8 0) rfl) ?_);refine nP ?_;refine m19 ?_;refine cf 17 rfl ?_;refine m121 ?_;refine cons (j8 jQ (aB.comp (aB.comp ae.nM bJ.D9) (rP iO _ (by omega))) aa (.c (v:=U8 0) rfl) ?_);refine nil (bN (pN ?_));refine m34 ?_;refine vK rfl (nP (nx (k + 1,_) ⟨?_,?_⟩ ?_))
    ·omega
    ·simp_all [Ke]
    omega
   ·have hk2:k = 16:=by omega
    subst hk2;refine m13 ?_;refine region (cf 39 rfl ?_);refine co (Ev.gS FU aa ae.GI) ?_;refine co (Ev.Nc aa (.c (v:=qZ 65536) rfl) (λ_=>by decide)) ?_;refine cf 39 rfl ?_;refine cons (j8 FU ae.GI aa aa ?_);refine nP (mt (_) ?_)
    ·exact s59
  ·refine m86 ?_
   ·exact s59
 obtain⟨x,rfl⟩:∃ y,y = x:=⟨x,rfl⟩;have hx:=hx;clear hx;subst hx;refine sg (cf 39 rfl ?_);refine co (Ev.gS FU aa ae.GI) ?_;refine co (Ev.Nc aa (.c (v:=qZ 1048576) rfl) (λ_=>by decide)) ?_;refine cf 39 rfl ?_;refine cons (j8 FU ae.GI aa aa ?_);refine nP (cut (λx=>(x = Ee (Bs (yt (uA h))))) (λx=>[dz,(1,true,jc b1),(2,true,jc b2)]) (λx=>[Var b2 bm bm.zero 60,Var b1 bm x 60]) ?_ (λx hx=>?_))
 ·refine sg ?_;show Sat _ _ _ [Var b2 bm bm.zero 60,Var b1 bm (Bs (yt (uA h))) 60];refine m90 ?_;refine co (Ev.we aa (.c (v:=U8 6) rfl)) ?_;refine nP ?_;refine ig rfl (λh2=>?_) (λh2=>?_)
  ·refine sg (cf 40 rfl ?_);refine cons (j8 jQ ae.xb aa (.c (v:=U8 0) rfl) ?_);refine nP (region (cf 41 rfl ?_));refine cons (j8 FU ae.Fc aa (.c (v:=qZ 0) rfl) ?_);refine nP (mt (_) ?_)
   ·exact s20
  ·refine m86 ?_
   ·exact s20
 obtain⟨x,rfl⟩:∃ y,y = x:=⟨x,rfl⟩;have hx:=hx;clear hx;subst hx;refine cut (λx=>(x = mD h)) (λx=>[dz,(1,true,jc b1),(2,true,jc b2)]) (λx=>[Var b2 bm bm.zero 60,Var b1 bm x 60]) ?_ (λx hx=>?_)
 ·refine sg ?_;refine m90 ?_;refine cons (dg eN (o1 rfl) (λw I=>Cn _ w) ?_);refine m195 ?_;refine ig rfl (λh3=>?_) (λh3=>?_)
  ·refine sg (cf 35 rfl ?_);refine cons (j8 qh ae.gg aa (.c (v:=rX 0) rfl) ?_);refine nP (region (cf 36 rfl ?_));refine cons (j8 qh ae.gk aa (.c (v:=rX 0) rfl) ?_);refine nP (mt (_) ?_)
   ·exact s19
  ·refine m86 ?_
   ·exact s19
 obtain⟨x,rfl⟩:∃ y,y = x:=⟨x,rfl⟩;have hx:=hx;clear hx;subst hx;refine m287 ?_;refine m156 ?_;refine nP (block (lp (X:=Int × OV × (List UInt8)) (λx=>(0 <= x.1 /\ x.1 <= d.length /\ x.1 <= 2048 - dG h - gf h.bz) /\ (x.2.2 = d.take x.1.toNat)) (λx=>[dz,(1,true,jc b1),(2,true,jc b2),(4,true,x.2.1.v),(5,true,I x.1)]) (λx=>[bY x.2.1.v iO x.2.2 5,Var b2 bm bm.zero 60,Var b1 bm _ 60]) (λx=>(d.length - x.1).toNat) (0,aM,[]) ⟨?_,?_⟩ (λx hx=>?_)))
 ·omega
 ·rfl
 have⟨i,o,xs⟩:=x;dsimp only at hx;have⟨hi,hxs⟩:=hx;refine seq (seq ?_);refine m47 ?_;refine tk 1 rfl (fA 42 aa) ?_;refine tk 2 rfl (Ev.gS Bj aa ae.wB) ?_;refine tk 3 rfl (Ev.len pg aa zf) ?_;refine tk 4 rfl (Ev.rE aa aa) ?_;refine m221 ?_;refine jl 6 rfl rfl rfl (Ev.gS rm aa (aB.id _)) ?_;refine jl 8 rfl rfl rfl (fA 34 aa) ?_;refine jl 9 rfl rfl rfl (Ev.gS jQ (.g rfl id) ae.iF) ?_;refine jl 12 rfl rfl rfl (Ev.move aa) ?_;refine fB 7 rfl (sT rfl rfl eN (.cons (.g rfl id) .nil) (λhg w I=>O4 _ w) ?_);refine m266 ?_;refine sT rfl rfl eN (.cons (.g rfl id) .nil) (λhg w I=>Cn _ w) ?_;refine xi (jl 11 rfl rfl rfl (Ev.lx (.g rfl id) (.g rfl id) (λ_=>by first | omega | (rename_i hg; simp at hg; omega))) ?_);refine jl 13 rfl rfl rfl (Ev.lx (.g rfl id) (.g rfl id) (λ_=>by first | omega | (rename_i hg; simp at hg; omega))) ?_;refine jl 14 rfl rfl rfl (Ev.rE (.g rfl id) (.c rfl)) ?_;refine tk 15 rfl (Ev.D2 aa rfl) ?_;refine m142 ?_;refine ig rfl (λh4=>?_) (λh4=>?_)
 ·have hxl:xs.length = i.toNat:=by rw [hxs]; simp; omega
  have hgo:i < d.length /\ dG h + gf h.bz + i < 2048:=h4;refine m21 ?_;refine m19 ?_;refine cf 42 rfl ?_;refine co (Ev.gS Bj aa ae.wB) ?_;refine mv rfl ?_;refine m263 ?_;refine cons (buildSlice pg jQ z5 (.cons aa .nil) rfl rfl (λv3=>?_));refine cons (vL pg jQ Er Ho aa aa (λv4=>?_));refine m76 ?_;refine m34 ?_;refine vK rfl (nP (nx (i + 1,_,_) ⟨?_,?_⟩ ?_))
  ·try dsimp only
   omega
  ·try dsimp only
   rw [hxs,qj d i hi.1 (by omega) 0]; rfl
  ·try dsimp only
   omega
 ·have sL:¬ (i < d.length /\ dG h + gf h.bz + i < 2048):=λhc=>by
   rcases h4 with k | k
   ·exact k hc.1
   ·exact k hc.2
  refine m85 ?_;refine cf 42 rfl ?_;refine cons (j8 Bj ae.wB aa aa ?_);refine nP ?_;refine m17 ?_;refine m284 ?_;refine done rfl (.cellP rfl rm (ed zm (aB.id _)) .nil) (λw I=>?_);have e:xs = Br h d:=by
   rw [hxs];unfold Br
   by_cases hq:i < d.length
   ·congr 1
    omega
   ·rw [bH (by omega),bH (by omega)]
  rw [e] at I;exact tU o trivial rfl (nK.2 (jT _)) w I
theorem Ih (x y:UInt8):tp [x,y] = x.toUInt64 * 256 + y.toUInt64:=by simp [tp]
theorem zV (b:List UInt8) (p:Nat) (h:p + 2 <= b.length):(b.take (p + 2)).drop p = [b.getD p 0,b.getD (p + 1) 0]:=by
 apply lB
 ·grind
 ·intro i h1 h2;have:i = 0 \/ i = 1:=by simp at h2; omega
  rcases this with rfl | rfl
  ·grind
  grind
theorem Rq (b:List UInt8) (p:Nat) (h:p + 2 <= b.length):b.take (p + 2) = b.take p ++ [b.getD p 0,b.getD (p + 1) 0]:=by
 grind [zV]
theorem zW (b:List UInt8) (p:Int) (n:Nat) (h:0 <= p /\ p + n <= b.length):(gU b p n).1 = tp ((b.take (p + n).toNat).drop p.toNat):=by unfold gU; grind
theorem HE (b:List UInt8) (p:Nat) (h:p + 2 <= b.length):(gU b p 2).1 = tp [b.getD p 0,b.getD (p + 1) 0]:=by
 rw [zW b p 2 (by omega)];have e:(b.take ((p:Int) + (2:Nat)).toNat).drop (p:Int).toNat = (b.take (p + 2)).drop p:=by
  have e1:((p:Int) + (2:Nat)).toNat = p + 2:=by omega
  rw [e1,eg]
 rw [e,zV b p h]
theorem Si (x y:UInt8):(tp [x,y]).toUInt16 = 16384 ↔ x = 64 /\ y = 0:=by
 rw [Ih];have hx:=x.toNat_lt;have hy:=y.toNat_lt;constructor
 ·intro h;have h2:=aL UInt16.toNat h;simp at h2;constructor
  ·apply cG.1
   grind
  ·apply cG.1
   grind
 simp_all
theorem Pk (s:UInt16):tp (g8 2 s.toUInt64) = s.toUInt64:=by
 have hs:=s.toNat_lt;rw [H6,Ih];apply cC.1;simp; omega
theorem Aa (v:UInt64):g8 2 v.toUInt16.toUInt64 = g8 2 v:=by
 simp only [g8,ko,mW];constructor
 ·apply cG.1;simp [fc];omega
 ·apply cG.1;simp [fc]
theorem ER (n:Int):g8 2 (UInt16.ofInt n).toUInt64 = g8 2 (UInt64.ofInt n):=by
 rw [<- Aa (UInt64.ofInt n)]
 congr 2
 apply lz.1;simp [UInt16.ofInt,UInt64.ofInt];omega
def o8 (h:ae) (n:Int) (s:UInt16):List UInt8:=[69,h.nq] ++ (g8 2 (UInt64.ofInt n) ++ (g8 2 h.id.toUInt64 ++ ([64,0,h.ED,h.bz] ++ (g8 2 s.toUInt64 ++ (gO h.src ++ gO h.dst)))))
theorem WQ (b:List UInt8) (h:20 <= b.length):(gU b 6 2).1.toUInt16 = 16384 ↔ b.getD 6 0 = 64 /\ b.getD 7 0 = 0:=by
 grind [zW,Int.toNat,zV,Si]
theorem TK (c:UInt8) (i:UInt32) (hi:i <= 1048575):(1610612736:UInt64) + tC c.toUInt64 20 + i.toUInt64 = (1610612736 ||| xG c.toUInt32 20 ||| i).toUInt64:=by
 have h1:=c.toNat_lt;have h2:i.toNat <= 1048575:=by simpa [kF] using hi
 apply cC.1;rw [jv,UInt32.toNat_or,UInt32.toNat_or,AM,jb,jb,qL];rw [lE,UInt8.toNat_toUInt32,jv];have e1:c.toNat * 2 ^ 20 % 4294967296 = c.toNat * 2 ^ 20:=by omega
 have e2:(1610612736:UInt32).toNat = 2 ^ 28 * 6:=by decide
 have e5:(1610612736:UInt64).toNat = 2 ^ 28 * 6:=by decide
 rw [e1,e2,e5,<- jm (by omega:c.toNat * 2 ^ 20 < 2 ^ 28)];have e3:2 ^ 28 * 6 + c.toNat * 2 ^ 20 = 2 ^ 20 * (2 ^ 8 * 6 + c.toNat):=by omega
 have e4:c.toNat * 2 ^ 20 % 18446744073709551616 = c.toNat * 2 ^ 20:=by omega
 rw [e4,e3,<- jm (by omega:i.toNat < 2 ^ 20)];omega
theorem K8 (s:UInt32):tp (g8 4 s.toUInt64) = s.toUInt64:=by
 have hs:=s.toNat_lt;have e:g8 4 s.toUInt64 = [(jV s.toUInt64 24).toUInt8,(jV s.toUInt64 16).toUInt8,(jV s.toUInt64 8).toUInt8,(jV s.toUInt64 0).toUInt8]:=rfl;rw [e];simp only [tp,List.foldl];apply cC.1;simp [fc];omega
theorem uM (b:List UInt8) (p:Nat) (x:UInt16) (h:p + 2 <= b.length) (h0:b.getD p 0 = (jV x.toUInt64 8).toUInt8) (h1:b.getD (p + 1) 0 = (jV x.toUInt64 0).toUInt8):(gU b p 2).1 = x.toUInt64:=by
 rw [HE b p h,h0,h1];exact Pk x
theorem LK (b:List UInt8) (p:Nat) (h:p + 4 <= b.length):(b.take (p + 4)).drop p = [b.getD p 0,b.getD (p + 1) 0,b.getD (p + 2) 0,b.getD (p + 3) 0]:=by
 grind [Rq,List.append_assoc]
theorem Rt (b:List UInt8) (p:Nat) (x:UInt32) (h:p + 4 <= b.length) (h0:b.getD p 0 = (jV x.toUInt64 24).toUInt8) (h1:b.getD (p + 1) 0 = (jV x.toUInt64 16).toUInt8) (h2:b.getD (p + 2) 0 = (jV x.toUInt64 8).toUInt8) (h3:b.getD (p + 3) 0 = (jV x.toUInt64 0).toUInt8):(gU b p 4).1 = x.toUInt64:=by
 rw [zW b p 4 (by omega)];have e:(b.take ((p:Int) + (4:Nat)).toNat).drop (p:Int).toNat = (b.take (p + 4)).drop p:=by
  have e1:((p:Int) + (4:Nat)).toNat = p + 4:=by omega
  rw [e1,eg]
 rw [e,LK b p h,h0,h1,h2,h3];exact K8 x
theorem zB (P X R:List UInt8) (p q:Nat) (hp:P.length = p) (hq:P.length + X.length = q):Dn (P ++ (X ++ R)) p q = X:=by
 grind [Dn,List.append_assoc]
theorem FM (a:bJ) (hv:a.v6 = false) (hc:fT a = 0):(⟨false,Aw (Vector.replicate 16 0) (gO a) 0⟩:bJ) = a:=by
 have h:=(yD a).1 hc hv;have hl:(gO a).length = 4:=by rw [jC,hv]; rfl
 have⟨v,b⟩:=a;subst hv
 congr 1
 apply ju;intro i hi
 by_cases h4:i < 4
 ·simp_all [Aw,iU,if_true,gO,List.getD]
 grind [Aw]
theorem JO (a:bJ) (hv:a.v6 = true):(⟨true,xB 16 (gO a) 0⟩:bJ) = a:=by
 have⟨v,b⟩:=a
 simp_all [xB,gO,List.getD]
def jh (h:ae):ae:={ bm.zero with src:=h.src,dst:=h.dst,bz:=h.bz,ED:=h.ED,nq:=h.nq,id:=h.id }
theorem zh (h:ae) (n:Int) (s:UInt16) (hv:h.src.v6 = false) (QF:h.dst.v6 = false):(o8 h n s).length = 20:=by
 have h1:(gO h.src).length = 4:=by rw [jC,hv]; rfl
 have h2:(gO h.dst).length = 4:=by rw [jC,QF]; rfl
 unfold o8
 simp_all
theorem IZ (h:ae) (n:Int) (s:UInt16) (r:List UInt8) (hv:h.src.v6 = false) (QF:h.dst.v6 = false) (ha:fT h.src = 0) (hb:fT h.dst = 0) (nE:h.id <= 65535) (hn:0 <= n /\ n <= 65535) :
 dc (o8 h n s ++ r) = (jh h,n,0):=by
 have h1:(gO h.src).length = 4:=by rw [jC,hv]; rfl
 have h2:(gO h.dst).length = 4:=by rw [jC,QF]; rfl
 have hl:=zh h n s hv QF;have hL:20 <= (o8 h n s ++ r).length:=by simp [hl]
 have hp:=(WQ _ hL).2 ⟨rfl,rfl⟩;have hid2:h.id.toNat <= 65535:=by simpa [kF] using nE
 have e0:(o8 h n s ++ r).getD 0 0 = 69:=rfl;have t4:(gU (o8 h n s ++ r) 4 2).1 = h.id.toUInt16.toUInt64:=by
  have e:h.id.toUInt16 = h.id.toUInt64.toUInt16:=by apply lz.1; simp
  have k:=Aa h.id.toUInt64;rw [<- e] at k;refine uM _ 4 _ (by omega) ?_ ?_
  ·exact (aL (λl:List UInt8=>l.getD 0 0) k).symm
  ·exact (aL (λl:List UInt8=>l.getD 1 0) k).symm
 have t2:(gU (o8 h n s ++ r) 2 2).1 = (UInt16.ofInt n).toUInt64:=by
  have k:=ER n;refine uM _ 2 _ (by omega) ?_ ?_
  ·exact (aL (λl:List UInt8=>l.getD 0 0) k).symm
  ·exact (aL (λl:List UInt8=>l.getD 1 0) k).symm
 have a1:Dn (o8 h n s ++ r) 12 16 = gO h.src:=by
  have k:=zB ([69,h.nq] ++ (g8 2 (UInt64.ofInt n) ++ (g8 2 h.id.toUInt64 ++ ([64,0,h.ED,h.bz] ++ g8 2 s.toUInt64)))) (gO h.src) (gO h.dst ++ r) 12 16 rfl (by rw [h1]; rfl);rw [<- k];unfold o8;simp only [bM]
 have a2:Dn (o8 h n s ++ r) 16 20 = gO h.dst:=by
  have k:=zB ([69,h.nq] ++ (g8 2 (UInt64.ofInt n) ++ (g8 2 h.id.toUInt64 ++ ([64,0,h.ED,h.bz] ++ (g8 2 s.toUInt64 ++ gO h.src))))) (gO h.dst) r 16 20 (by simp [h1]) (by simp [h1,h2]);rw [<- k];unfold o8;simp only [bM]
 unfold dc;rw [if_neg (by omega),e0,if_pos (by decide),if_neg (by omega),if_neg (by rintro (k | k); exact k rfl; exact k hp)];have hh:hd4 (o8 h n s ++ r) = jh h:=by
  unfold hd4 jh;rw [t4,a1,a2,FM h.src hv ha,FM h.dst QF hb];have e:h.id.toUInt16.toUInt64.toUInt16.toUInt32 = h.id:=by
   apply nV.1;simp;omega
  rw [e]
  rfl
 have hnn:((gU (o8 h n s ++ r) 2 2).1.toUInt16.toNat:Int) = n:=by
  rw [t2];simp [UInt16.ofInt];omega
 grind
theorem OR (c:UInt8) (i:UInt32) (hi:i <= 1048575):vI (jV (1610612736 ||| xG c.toUInt32 20 ||| i).toUInt64 24).toUInt8 4 = 6 /\ (EG (1610612736 ||| xG c.toUInt32 20 ||| i) 20).toUInt8 = c /\ (1610612736 ||| xG c.toUInt32 20 ||| i) &&& 1048575 = i:=by
 have hX:=aL UInt64.toNat (TK c i hi);have h1:=c.toNat_lt;have h2:i.toNat <= 1048575:=by simpa [kF] using hi
 generalize (1610612736 ||| xG c.toUInt32 20 ||| i) = X at hX ⊢
 rw [jb,jb,qL,lE,jv,jv] at hX;have e5:(1610612736:UInt64).toNat = 1610612736:=by decide
 refine ⟨?_,?_,?_⟩
 ·apply cG.1;simp [vI,fc];omega
 ·apply cG.1;simp [EG];omega
 ·apply nV.1;rw [UInt32.toNat_and];have e:(1048575:UInt32).toNat = 2 ^ 20 - 1:=by decide
  rw [e,eQ];omega
theorem Fh (h:ae) (n:Int) (hv:h.src.v6 = true):o7 h n = g8 4 (1610612736 ||| xG h.nq.toUInt32 20 ||| h.id).toUInt64 ++ (g8 2 (UInt16.ofInt n).toUInt64 ++ ([h.bz,h.ED] ++ (gO h.src ++ gO h.dst))):=by
 grind [o7]
theorem IY (h:ae) (n:Int) (r:List UInt8) (hv:h.src.v6 = true) (QF:h.dst.v6 = true) (nE:h.id <= 1048575) (hn:0 <= n /\ n <= 65535) :
 dc (o7 h n ++ r) = (jh h,40 + n,0):=by
 have h1:(gO h.src).length = 16:=by rw [jC,hv]; rfl
 have h2:(gO h.dst).length = 16:=by rw [jC,QF]; rfl
 have⟨f1,f2,f3⟩:=OR h.nq h.id nE;rw [Fh h n hv]
 generalize hX:(1610612736 ||| xG h.nq.toUInt32 20 ||| h.id) = X at f1 f2 f3
 generalize hb:(g8 4 X.toUInt64 ++ (g8 2 (UInt16.ofInt n).toUInt64 ++ ([h.bz,h.ED] ++ (gO h.src ++ gO h.dst)))) ++ r = b
 have hL:40 <= b.length:=by rw [<- hb]; simp [h1,h2]; omega
 have e0:b.getD 0 0 = (jV X.toUInt64 24).toUInt8:=by rw [<- hb]; rfl
 have e6:b.getD 6 0 = h.bz:=by rw [<- hb]; rfl
 have e7:b.getD 7 0 = h.ED:=by rw [<- hb]; rfl
 have t0:(gU b 0 4).1 = X.toUInt64:=by
  refine Rt _ 0 _ (by omega) ?_ ?_ ?_ ?_ <;> rw [<- hb] <;> rfl
 have t4:(gU b 4 2).1 = (UInt16.ofInt n).toUInt64:=by
  refine uM _ 4 _ (by omega) ?_ ?_ <;> rw [<- hb] <;> rfl
 have a1:Dn b 8 24 = gO h.src:=by
  have k:=zB (g8 4 X.toUInt64 ++ (g8 2 (UInt16.ofInt n).toUInt64 ++ [h.bz,h.ED])) (gO h.src) (gO h.dst ++ r) 8 24 rfl (by rw [h1]; rfl);rw [<- k,<- hb];simp only [bM]
 have a2:Dn b 24 40 = gO h.dst:=by
  have k:=zB (g8 4 X.toUInt64 ++ (g8 2 (UInt16.ofInt n).toUInt64 ++ ([h.bz,h.ED] ++ gO h.src))) (gO h.dst) r 24 40 (by simp [h1]) (by simp [h1,h2]);rw [<- k,<- hb];simp only [bM]
 unfold dc;rw [if_neg (by omega),e0,if_neg (by rw [f1]; decide),if_pos f1,if_neg (by omega)];have hh:hd6 b = jh h:=by
  unfold hd6 jh;rw [t0,a1,a2,JO h.src hv,JO h.dst QF,e6,e7];have e:X.toUInt64.toUInt32 = X:=by simp
  rw [e,f2,f3]
 have hnn:((gU b 4 2).1.toUInt16.toNat:Int) = n:=by
  rw [t4];simp [UInt16.ofInt];omega
 grind
end Go.Proofs.YtgnmiaonbadbnaaGreat.Oc
