/- Part. -/
import Derived.Test.YtgnmiaonbadbnaaGreatM7
import Derived.Test.YtgnmiaonbadbnaaGreatM1
set_option linter.unusedVariables false
set_option linter.defProp false
set_option linter.unusedSimpArgs false
set_option linter.unusedSectionVars false
set_option maxRecDepth 100000
set_option maxHeartbeats 2000000
namespace Go.Proofs.YtgnmiaonbadbnaaGreat.Oc
open Go Go.Gx Go.Proofs.YtgnmiaonbadbnaaGreat.Tri
theorem GF (s:UInt16):g8 2 s.toUInt64 = [(EH s 8).toUInt8,s.toUInt8]:=by
 rw [H6];simp only [ko,mW];constructor
 ·apply cG.1;simp [fc,EH]
 ·apply cG.1;simp
theorem Pw (h:ae) (n:Int) (s s2:UInt16):y8 (o8 h n s) 10 s2 = o8 h n s2:=by
 unfold y8 o8;simp [GF]
theorem Lu (h:ae) (n:Int):zd h n = o8 h (20 + n) 0:=by
 unfold zd o8;have e:h.id.toUInt16 = h.id.toUInt64.toUInt16:=by
  apply lz.1;simp
 rw [ER,e,Aa]
 rfl
theorem C8 (h:ae) (n:Int) (hv:h.src.v6 = false):o7 h n = o8 h (20 + n) (Ks (o8 h (20 + n) 0)):=by
 simp_all [o7,if_neg,decide,Lu,Pw]
theorem Fb (h:ae) (d:List UInt8) (s s2:UInt16) (hm:gf h.bz ≠ 0):y8 (gI h d s) (UG h.bz) s2 = gI h d s2:=by
 rcases lY h.bz with e | ⟨e,_⟩ | ⟨e,_⟩
 ·omega
 ·unfold y8 gI UG
  simp_all [if_pos,GF]
 simp_all [decide,y8,gI,UG,if_neg,if_pos,GF]
theorem Mo (h:ae) (d:List UInt8) (s:UInt16) (h0:gf h.bz = 0):gI h d s = d:=by
 unfold gI
 grind [lY,e2,gf]
def AV (h:ae) (d:List UInt8):UInt16:=if gf h.bz = 0 then 0 else FX h (gI h d 0)
theorem Cs (h:ae) (d:List UInt8):lH h d = gI h d (AV h d):=by
 unfold lH AV
 by_cases hm:gf h.bz = 0
 ·grind
 grind [Fb]
theorem tS (h:ae) (n:Int) (hc:js h n = 0):fT h.src = 0 /\ fT h.dst = 0 /\ h.src.v6 = h.dst.v6 /\ h.id <= (bif h.src.v6 then 1048575 else 65535) /\ (gf h.bz = 0->h.dD = 0 /\ h.dE = 0) /\ (h.bz ≠ 6->h.flags = 0 /\ h.seq = 0) /\ dG h + gf h.bz + n <= 2048:=by
 unfold js at hc;split at hc
 ·omega
 grind
theorem zg (h:ae) (n:Int) (hv:h.src.v6 = h.dst.v6):((o7 h n).length:Int) = dG h:=by
 cases h6:h.src.v6 with
 | true =>
   have h1:(gO h.src).length = 16:=by rw [jC,h6]; rfl
   have h2:(gO h.dst).length = 16:=by rw [jC,<- hv,h6]; rfl
   simp_all [Fh,dG]
 | false =>
   rw [C8 h n h6,zh _ _ _ h6 (by rw [<- hv]; exact h6)]
   grind [dG]
theorem LJ (h:ae) (n m:Int) (r:List UInt8) (hc:js h m = 0) (hn:0 <= n /\ n <= 4096):dc (o7 h n ++ r) = (jh h,dG h + n,0):=by
 obtain⟨h1,h2,h3,h4,_⟩:=tS h m hc;cases h6:h.src.v6 with
 | true =>
   rw [h6] at h4;rw [IY h n r h6 (by rw [<- h3]; exact h6) h4 (by omega)]
   grind [dG]
 | false =>
   rw [h6] at h4;rw [C8 h n h6,IZ h (20 + n) _ r h6 (by rw [<- h3]; exact h6) h1 h2 h4 (by omega)]
   grind [dG]
theorem Ip (h:ae) (d:List UInt8) (s:UInt16) (m:Int) (hc:js h m = 0):sD (jh h) (gI h d s) = wD h aM /\ y2 (jh h) (gI h d s) = d /\ (gf h.bz ≠ 0->Gy (jh h) (gI h d s) = s):=by
 obtain⟨_,_,_,_,h5,h6,_⟩:=tS h m hc;obtain⟨a1,a2,p,sp,dp,t,c,i,f,q,o⟩:=h;have hp:(jh ⟨a1,a2,p,sp,dp,t,c,i,f,q,o⟩).bz = p:=rfl
 by_cases e6:p = 6
 ·subst e6;have hm:¬ gf 6 = 0:=by decide
  have e:gI ⟨a1,a2,6,sp,dp,t,c,i,f,q,o⟩ d s = g8 2 sp.toUInt64 ++ (g8 2 dp.toUInt64 ++ (g8 4 q.toUInt64 ++ ([0,0,0,0,80,f,255,255] ++ (g8 2 s.toUInt64 ++ ([0,0] ++ d))))):=by
   unfold gI;rw [if_pos rfl];simp only [bM]
  have hl:20 <= (gI ⟨a1,a2,6,sp,dp,t,c,i,f,q,o⟩ d s).length:=by rw [e]; simp; omega
  have k0:(gU (gI ⟨a1,a2,6,sp,dp,t,c,i,f,q,o⟩ d s) 0 2).1 = sp.toUInt64:=by refine uM _ 0 _ (by omega) ?_ ?_ <;> rw [e] <;> rfl
  have k2:(gU (gI ⟨a1,a2,6,sp,dp,t,c,i,f,q,o⟩ d s) 2 2).1 = dp.toUInt64:=by refine uM _ 2 _ (by omega) ?_ ?_ <;> rw [e] <;> rfl
  have k4:(gU (gI ⟨a1,a2,6,sp,dp,t,c,i,f,q,o⟩ d s) 4 4).1 = q.toUInt64:=by refine Rt _ 4 _ (by omega) ?_ ?_ ?_ ?_ <;> rw [e] <;> rfl
  have k16:(gU (gI ⟨a1,a2,6,sp,dp,t,c,i,f,q,o⟩ d s) 16 2).1 = s.toUInt64:=by refine uM _ 16 _ (by omega) ?_ ?_ <;> rw [e] <;> rfl
  have k13:(gI ⟨a1,a2,6,sp,dp,t,c,i,f,q,o⟩ d s).getD 13 0 = f:=by rw [e]; rfl
  refine ⟨?_,?_,λ_=>?_⟩
  ·unfold sD;rw [hp,if_neg hm,if_pos rfl,k0,k2,k4,k13];have x1:sp.toUInt64.toUInt16 = sp:=by simp
   have x2:dp.toUInt64.toUInt16 = dp:=by simp
   have x3:q.toUInt64.toUInt32 = q:=by simp
   rw [x1,x2,x3]
   rfl
  ·unfold y2;rw [hp,jR,e]
   rfl
  ·unfold Gy;show (gU (gI ⟨a1,a2,6,sp,dp,t,c,i,f,q,o⟩ d s) 16 2).1.toUInt16 = s
   simp_all
 ·have hz:f = 0 /\ q = 0:=h6 e6;obtain⟨rfl,rfl⟩:=hz
  by_cases e17:p = 17
  ·subst e17;have hm:¬ gf 17 = 0:=by decide
   have e:gI ⟨a1,a2,17,sp,dp,t,c,i,0,0,o⟩ d s = g8 2 sp.toUInt64 ++ (g8 2 dp.toUInt64 ++ (g8 2 (UInt16.ofInt (8 + (d.length:Int))).toUInt64 ++ (g8 2 s.toUInt64 ++ d))):=by
    unfold gI;rw [if_neg e6,if_pos rfl];simp only [bM]
   have hl:8 <= (gI ⟨a1,a2,17,sp,dp,t,c,i,0,0,o⟩ d s).length:=by rw [e]; simp; omega
   have k0:(gU (gI ⟨a1,a2,17,sp,dp,t,c,i,0,0,o⟩ d s) 0 2).1 = sp.toUInt64:=by refine uM _ 0 _ (by omega) ?_ ?_ <;> rw [e] <;> rfl
   have k2:(gU (gI ⟨a1,a2,17,sp,dp,t,c,i,0,0,o⟩ d s) 2 2).1 = dp.toUInt64:=by refine uM _ 2 _ (by omega) ?_ ?_ <;> rw [e] <;> rfl
   have k6:(gU (gI ⟨a1,a2,17,sp,dp,t,c,i,0,0,o⟩ d s) 6 2).1 = s.toUInt64:=by refine uM _ 6 _ (by omega) ?_ ?_ <;> rw [e] <;> rfl
   refine ⟨?_,?_,λ_=>?_⟩
   ·unfold sD;rw [hp,if_neg hm,if_neg e6,k0,k2];have x1:sp.toUInt64.toUInt16 = sp:=by simp
    have x2:dp.toUInt64.toUInt16 = dp:=by simp
    rw [x1,x2]
    rfl
   ·unfold y2;rw [hp,jR,e]
    rfl
   ·unfold Gy;show (gU (gI ⟨a1,a2,17,sp,dp,t,c,i,0,0,o⟩ d s) 6 2).1.toUInt16 = s
    simp_all
  ·have hm:gf p = 0:=by unfold gf; rw [if_neg e6,if_neg e17]
   have hz:sp = 0 /\ dp = 0:=h5 hm;obtain⟨rfl,rfl⟩:=hz;have e:gI ⟨a1,a2,p,0,0,t,c,i,0,0,o⟩ d s = d:=Mo _ d s hm;refine ⟨?_,?_,λk=>absurd hm k⟩
   ·unfold sD;rw [hp,if_pos hm]
    rfl
   simp_all [y2]
theorem abp (h:ae) (d:List UInt8) (m:Int) (hc:js h m = 0):xx (jh h) (lH h d) = 0:=by
 rw [Cs];obtain⟨e1,e2,e3⟩:=Ip h d (AV h d) m hc;have hl:((gI h d (AV h d)).length:Int) = gf h.bz + d.length:=rW h d _;have hp:(jh h).bz = h.bz:=rfl;unfold xx;rw [hp,e1,e2];rw [if_neg (by omega)]
 by_cases hm:gf h.bz = 0
 ·omega
 ·rw [if_neg hm,e3 hm];have k:y8 (gI (wD h aM) d 0) _ (AV h d) = gI h d _:=Fb h d 0 _ hm;rw [k,if_neg (λk=>k rfl)];have k2:AV h d = FX (wD h aM) (gI (wD h aM) d 0):=by unfold AV; rw [if_neg hm]; rfl
  grind
theorem Gz (h:ae) (d:List UInt8) (m:Int) (hc:js h m = 0):((mL h d).length:Int) = dG h + gf h.bz + d.length:=by
 have h1:=zg h (lH h d).length (tS h m hc).2.2.1
 grind [uS,mL,List.length_append]
theorem EO (h:ae) (d t:List UInt8) (hc:js h d.length = 0):pD (mL h d ++ t) = 0 /\ H4 (mL h d ++ t) = (mL h d).length /\ yV (mL h d ++ t) = d /\ xI (mL h d ++ t) = wD h aM:=by
 have hp:=tS h _ hc;have hlen:=Gz h d _ hc;have hrl:=uS h d;have hhl:=zg h (lH h d).length hp.2.2.1;have hb:mL h d ++ t = o7 h (lH h d).length ++ (lH h d ++ t):=by unfold mL; rw [bM]
 have hF:dc (mL h d ++ t) = (jh h,dG h + (lH h d).length,0):=by rw [hb]; exact LJ h _ _ _ hc (by omega)
 have hfn:dG (jh h) = dG h:=rfl;have hfN:(dG h).toNat = (o7 h (lH h d).length).length:=by omega
 have hR:su (mL h d ++ t) = lH h d:=by
  unfold su;rw [hF];show ((mL h d ++ t).take (dG h + (lH h d).length).toNat).drop (dG (jh h)).toNat = _;have e1:(dG h + (lH h d).length).toNat = (o7 h (lH h d).length).length + (lH h d).length:=by omega
  rw [e1,hfn,hfN,hb,<- bM,gA (by simp),bH (by simp),List.drop_left]
 have hE:pD (mL h d ++ t) = 0:=by
  unfold pD;rw [hF,hR];show (if (0:Int) ≠ 0 then (0:Int) else if dG h + ((lH h d).length:Int) < dG (jh h) \/ 2048 < dG h + ((lH h d).length:Int) then 161
   else if ((mL h d ++ t).length:Int) < dG h + ((lH h d).length:Int) then 160
   else if (jh h).src.v6 = false /\ o7 (jh h) (dG h + ((lH h d).length:Int) - dG (jh h)) ≠ (mL h d ++ t).take (dG (jh h)).toNat then 162
   else xx (jh h) (lH h d)) = 0
  rw [if_neg (λk=>k rfl),hfn,if_neg (by omega),if_neg (by rw [cK]; omega),if_neg,abp h d _ hc];rintro ⟨_,k⟩;apply k;have e1:dG h + ((lH h d).length:Int) - dG h = (lH h d).length:=by omega
  rw [e1,hfN,hb,gA (aA _),bH (aA _)]
  rfl
 obtain⟨e1,e2,_⟩:=Ip h d (AV h d) _ hc;refine ⟨hE,?_,?_,?_⟩
 ·unfold H4
  grind
 ·grind [yV,Cs,e2]
 simp_all [xI,if_pos,Cs,e1]
end Go.Proofs.YtgnmiaonbadbnaaGreat.Oc
namespace Go.Proofs.YtgnmiaonbadbnaaGreat
open Go Go.Gx Go.Proofs.YtgnmiaonbadbnaaGreat.Tri Go.Proofs.YtgnmiaonbadbnaaGreat.Oc
open Go.Conc Go.ConcN
variable {ls:List bD} {gV m a:UInt64} {t ty T:TypeId} {bs:List UInt8} {dr:Bool} {k i b C:Nat} {H H':Gh} {w w0 u0:World} {xs us:List OV} {v:Value} {X N:Act->World->Prop} {f:FuncId} {α Y:Type} {z:α} {r':Y->du} {E:dy α} {K:Ctx} {F:Fr} {L L1 L' L2 L3:List du} {P:Program} {Q:Exit->Act->World->Prop} {ops:Array Oper} {af:Array Edge} {y:Operand} {kp F0:Nat->Prop} {qJ:Array TypeId} {tv:Nat->Value}
def rD (ls:List bD):Nat:=ls.countP λx=>x.new
def tR (ls:List bD):Nat:=ls.countP λx=>x.new && x.dropped
theorem r9 (ls:List bD) (x:bD):rD (ls ++ [x]) = rD ls + x.new.toNat:=by
 grind [rD]
theorem Av (ls:List bD) (x:bD):tR (ls ++ [x]) = tR ls + (x.new && x.dropped).toNat:=by
 grind [tR]
structure wQ (ss:List bj) (s:WS) (ls:List bD) (gV:UInt64):Prop where
 wf:xW ss s.1
 ge:s.2.1 <= rD ls
 eq:(bh s.1).end_ ≠ 1->rD ls = s.2.1 /\ tR ls = s.2.2
 fl:(bh s.1).end_ = 1 \/ (gV.toNat:Int) <= pa ss (bh s.1).stage.toNat
theorem wQ.start {ss:List bj} (hg:kJ ss) (hp:0 < ss.length):wQ ss (0,0,0) [] 0 :=
 ⟨(xW.zero hg hp).1,bu _,λ_=>⟨rfl,rfl⟩,.inr (by have:=hg.p 0 hp; show (0:Int) <= pa ss 0; omega)⟩
theorem BT {ss:List bj} {n:UInt64} (h:AG ss n m) (e:(bh n).end_ = 1):(bh m).end_ = 1:=by
 rw [h.done (by rw [e]; decide)]; exact e
theorem HU {ss:List bj} {s t u:WS} (hg:kJ ss) (H:wQ ss s ls gV) (h1:t.2 = s.2) (h2:AG ss s.1 t.1) (h3:xW ss t.1) (h4:mV ss t.1 bs = k) (h5:k = 2->u = (Ie ss t.1 dr,t.2.1 + 1,t.2.2 + dr.toNat)) (h6:k ≠ 2->u = t) :
 (k = 1->(∀ b,wQ ss u (ls ++ [⟨mK bs,false,b⟩]) gV) /\ (mK bs < gV->(bh u.1).end_ = 2)) /\ (k ≠ 1->wQ ss u (ls ++ [⟨mK bs,true,dr⟩]) (max gV (mK bs + 1))):=by
 have hp:=hg.p _ h3.lt;have hof:(UInt64.ofInt (ss.getD (bh t.1).stage.toNat da.zero).parts).toNat = (pa ss _).toNat:=Pg ⟨by show 0 <= pa ss _; omega,by show pa ss _ <= _; omega⟩;have hst:=hg.s _ _ h2.st h3.lt
 by_cases e1:(bh t.1).end_ = 1
 ·have hk:k = 0:=by rw [<- h4]; exact Y0 e1
  subst hk;obtain rfl:=h6 (by decide);refine ⟨λe=>(by cases e),λ_=>⟨h3,?_,λe=>absurd e1 e,.inl e1⟩⟩;rw [r9,h1];have:=H.ge;omega
 ·have s1:(bh s.1).end_ ≠ 1:=λe=>e1 (BT h2 e)
  obtain⟨q1,q2⟩:=H.eq s1;have q3:=H.fl.resolve_left s1;cases ho:Bo ss t.1 bs with
  | true =>
    have hk:k = 1:=by rw [<- h4]; exact YZ e1 ho
    subst hk;obtain rfl:=h6 (by decide);refine ⟨λ_=>⟨λb=>⟨h3,?_,λ_=>?_,.inr (by omega)⟩,λhm=>?_⟩,λe=>absurd rfl e⟩
    ·grind [r9]
    ·grind [r9,Av]
    ·simp only [Bo,iH,cn] at ho
     grind [UInt64.le_iff_toNat_le,UInt64.lt_iff_toNat_lt]
  | false =>
    have hk:k = 2:=by rw [<- h4]; exact YY e1 ho
    subst hk;obtain rfl:=h5 rfl;have e2:=Nn ho;obtain⟨k1,k2,k3,k4⟩:=Nr hg h3 (T5 h3 e1 e2) dr;have hm:=hg.s _ _ k4 k1.lt;have hlt:(mK bs).toNat < (pa ss (bh t.1).stage.toNat).toNat:=by
     simp only [Bo,iJ,iS] at ho;have h:=ho.2;rw [fR,hof] at h;omega
    have e9:(mK bs + 1).toNat = (mK bs).toNat + 1:=add1 _ (by omega);refine ⟨λe=>(by cases e),λ_=>⟨k1,?_,λ_=>?_,.inr ?_⟩⟩
    ·grind [r9]
    ·grind [r9,Av]
    ·have e:(max gV (mK bs + 1)).toNat = max gV.toNat (mK bs + 1).toNat:=by
      show (if gV <= mK bs + 1 then mK bs + 1 else gV).toNat = _;split <;> rename_i h <;> rw [fR] at h <;> omega
     grind
theorem aa2 (h:ae) (d:List UInt8):pE (mL (mD h) (Br h d)) = 0:=by
 have hc:=Ap h d;obtain⟨h1,h2,h3,h4⟩:=EO (mD h) (Br h d) [] hc;rw [dS] at h1 h2 h3 h4;unfold pE;rw [h1,h3,h4,if_neg (by decide)];have e:js (wD (mD h) aM) _ = 0:=hc;unfold Uc;omega
theorem Sj (h:ae) (d:List UInt8) (o:OV):(vz (W3 (wD (mD h) o)) 100).1 = mK (mL (mD h) (Br h d)):=by
 obtain⟨h1,h2,h3,h4⟩:=EO (mD h) (Br h d) [] (Ap h d);rw [dS] at h1 h2 h3 h4;unfold mK;rw [h4]
 rfl
structure cZ where
 kind:Int
 ta:Int
 h:ae
 any:Bool
 bytes:OV
def cZ.to:(Int × (Int × (ae × (Bool × OV))))->cZ:=λx=>⟨x.1,x.2.1,x.2.2.1,x.2.2.2.1,x.2.2.2.2⟩
def cZ.of:cZ->(Int × (Int × (ae × (Bool × OV)))):=λx=>(x.kind,x.ta,x.h,x.any,x.bytes)
def gC:dy cZ:=l8 (cW iE (cW iE (cW bm (cW bE (dJ aM))))) cZ.to cZ.of
def cZ.ai4:aB gC iE 0:=lI cZ.to cZ.of l1
def cZ.rF:aB gC iE 1:=lI cZ.to cZ.of (l2 l1)
@[simp] theorem cZ.NU (x:cZ):cZ.rF.get x = x.ta:=rfl
def cZ.l_h:aB gC bm 2:=lI cZ.to cZ.of (l2 (l2 l1))
@[simp] theorem cZ.alY (x:cZ):cZ.l_h.get x = x.h:=rfl
def cZ.alf:aB gC bE 45:=lI cZ.to cZ.of (l2 (l2 (l2 l1)))
def cZ.ahF:aB gC (dJ aM) 46:=lI cZ.to cZ.of (l2 (l2 (l2 (l2 (aB.id _)))))
structure Gt where
 x:RX
 l1:CL
 l2:CL
 d1:Int
 d2:Int
 ss:List bj
 gd:OV
 sn:OV
 dv:OV
 VC:List OV
 row:Nat->List cZ
 J8:Nat->Nat->List UInt8
 cnt:Nat
variable {x:OV × List bD} {ss:List bj}
structure ME (w:World) (G:Gt) (i b1 b2 b3 b4 b5:Nat):Prop where
 aeW:Hf w G.x G.l1 G.l2 G.d1 G.d2 G.ss
 rows:bU (dJ aM) w G.dv.v G.VC
 row:∀ k,k < G.VC.length->bU gC w (G.VC.getD k aM).v (G.row k)
 J8:∀ k j,k < G.VC.length->j < (G.row k).length->bU iO w ((G.row k).getD j gC.zero).h.data.v (G.J8 k j)
 len:G.VC.length = G.cnt
 lt:i < G.cnt
 xQ:G.cnt <= 6
 g1:eK (dJ aM) w b1 0 G.gd
 g2:eK iE w b2 0 i
 g3:eK (dJ aM) w b3 0 G.dv
 g4:eK (dJ dB) w b4 0 ⟨.pointer (some ⟨G.x.b,0,none⟩),rfl⟩
 g5:eK (dJ aM) w b5 0 G.sn
variable {rows:Nat->List cZ}
structure DO (G:Gt):Prop where
 p:qz G.x.p G.l1 G.d1
 q:qz G.x.q G.l2 G.d2
 g:kJ G.ss
 pos:0 < G.ss.length
 xQ:∀ k,(G.row k).length <= 12
 Wu:xH G.ss <= 60
theorem SM (h:ae) (d:List UInt8) (o:OV) (bs:List UInt8) (w:World) (hd:bU iO w o.v (Br h d)) (hb:mL (mD h) (Br h d) = bs):aR 24 #[bm.val (wD (mD h) o)] w (nz w (λ_:OV=>True) (λo=>.tuple #[o.v,I 0]) (λo=>[bY o.v iO bs 5])):=by
 subst hb;have hc:=Ap h d;have hl:=Dt _ _ hc;have hc2:js (wD (mD h) o) _ = 0:=hc;refine (Nz _ _ w hd (by omega)).mono (λ_ h=>h) ?_;rintro e w' ⟨z,hz,he,hk,hN⟩;have hN':Qx w w' (if js _ _ = 0 then [bY z.v iO (mL (mD h) _) 5] else []):=hN;rw [if_pos hc2] at hN';have he':e = .returned (.tuple _):=he;rw [hc2] at he';exact ⟨z,trivial,he',hk,hN'⟩
def YN (xs:List OV):Prop:=∀ i,i < xs.length->∃ c,xs.getD i iG = Bb 56 c
theorem Pm (x:OV) (c:List Value) (w:World) (hx:x = Bb 56 c):aR 94 #[x.v] w (dO w (.bool false)):=by
 subst hx;refine iZ 5 Tryz.func94 (λ_ _=>?_);refine m283 ?_;refine co (Ev.agH Tryz.underlying64 aa (.c rfl)) ?_;refine m22 ?_
 rfl
theorem Lp (u:Value) (xs:List OV) (w:World) (hx:bU (dJ iG) w u xs) (hf:YN xs):aR 152 #[u,(Bb 94 []).v] w (dO w (I (-1))):=by
 have hle:=hx.le;refine iZ 19 Tryz.func152 (λ_ _=>?_);refine m79 ?_;refine m18 ?_;refine co (Ev.len Z7 aa zf) ?_;refine m85 ?_;refine lpo (X:=Int) (λx=>(0 <= x /\ x <= xs.length)) (λx=>[dz,(0,true,u),(1,true,(Bb 94 []).v),(7,true,I xs.length),(8,true,I x)]) (λx=>[]) (λx=>((xs.length:Int) - x).toNat) (0) (λx hx=>?_);obtain⟨i,rfl⟩:∃ y,y = x:=⟨x,rfl⟩;have hi:=hx;refine m9 ?_;refine ig rfl (λh0=>?_) (λh0=>?_)
 ·refine m158 ?_;refine m6 ?_;refine mv rfl (mv rfl (co (Ev.indexAddr Z7 OH aa aa zf (λ_=>zo)) ?_));refine co (Ev.eT OH aa zf (λ_=>zo)) ?_;refine cons (Az aa (Gx.dV.mk' zk) (.cons aa .nil) (λw I=>Pm _ _ w (hf i.toNat (by omega)).choose_spec) ?_);refine nP (nS rfl (rfl) ?_);refine m239 ?_;refine mv rfl (nP (nxo (i + 1)))
 ·refine m13 ?_;refine sg (ac (I (-1)) ?_);refine nP ?_;refine m133 ?_
  rfl
theorem Eg (u:Value) (xs:List OV) (w:World) (hx:bU (dJ iG) w u xs) (hf:YN xs):aR 93 #[u,(Bb 94 []).v] w (dO w (.bool false)):=by
 refine iZ 9 Tryz.func93 (λ_ _=>?_);refine m283 ?_;refine m26 ?_;refine dg eN (o2 rfl rfl) (λw I=>Lp u xs w (hx.cO I.keeps) hf) ?_;refine co (Ev.Fq aa (.c rfl)) ?_;refine m22 ?_
 rfl
theorem QW (u:Value) (xs:List OV) (w:World) (hx:bU (dJ iG) w u xs) (hf:YN xs) (hn:0 < xs.length /\ xs.length <= 16):aR 47 #[u] w (dO w (I 0)):=by
 refine iZ 14 Tryz.func47 (λ_ _=>?_);refine m79 ?_;refine seq (block ?_);refine m214 ?_;refine dg eN (.cons aa (.cons .f .nil)) (λw I=>Eg u xs w (hx.cO I.keeps) hf) ?_;refine m0 ?_;refine nS rfl (rfl) ?_;refine m1 ?_;refine co (Ev.len Z7 aa zf) ?_;refine m40 ?_;refine m0 ?_;refine nS rfl (fS (by omega)) ?_;refine m1 ?_;refine co (Ev.len Z7 aa zf) ?_;refine m146 ?_;refine m0 ?_;refine nS rfl (fS (by omega)) ?_;refine m21 ?_
 rfl
structure Oq (ss:List bj) (n:UInt64) (cnt:Nat) (lss:Nat->List bD):Prop where
 wf:xW ss n
 ge:rU ss n <= g7 (λk=>rD (lss k)) cnt
 eq:(bh n).end_ ≠ 1->g7 (λk=>rD (lss k)) cnt = rU ss n /\ g7 (λk=>tR (lss k)) cnt <= Im ss n
theorem tB {f g:Nat->Nat}:∀ {B:Nat},(∀ k,k < B->f k <= g k)->g7 f B <= g7 g B
 | 0,_=>aA _
 | B + 1,h=>by
   have h1:=tB (B:=B) λk hk=>h k (by omega)
   grind [g7]
theorem ni {c:Nat}:∀ {B:Nat},g7 (λ_=>c) B = B * c
 | 0=>by simp [g7]
 | B + 1=>by simp only [g7,ni (B:=B)]; grind
def Ii (l:List bD):rD l <= l.length:=List.countP_le_length
def Ji (l:List bD):tR l <= l.length:=List.countP_le_length
theorem EC {l:List α} {j:Nat} (z:α) (h:j < l.length):l.take (j + 1) = l.take j ++ [l.getD j z]:=by
 simp_all
theorem CO {l:List bD} {j:Nat} (h:j < l.length):rD (l.take (j + 1)) = rD (l.take j) + (l.getD j gH.zero).new.toNat:=by grind [EC,r9]
theorem yx {l:List bD} {j:Nat} (h:j < l.length):tR (l.take (j + 1)) = tR (l.take j) + ((l.getD j gH.zero).new && (l.getD j gH.zero).dropped).toNat:=by grind [EC,Av]
theorem aeo {m:Nat} (h:a.toNat = k) (hm:k + 1 = m) (hs:k < 1000000):(a + 1).toNat = m:=by simp; omega
theorem Hv {b:UInt64} {m l:Nat} (h:a.toNat = k) (h':b.toNat = m) (hm:k + m = l) (hs:l < 1000000000):(a + b).toNat = l:=by
 simp; omega
theorem Ls {n:UInt64} {cnt:Nat} {lss:Nat->List bD} {news drop counted:UInt64} {x:bj} (hg:kJ ss) (H:Oq ss n cnt lss) (hn:news.toNat = g7 (λk=>rD (lss k)) cnt) (hd:drop.toNat = g7 (λk=>tR (lss k)) cnt)
 (hc:counted.toNat = (bh n).seen.toNat + g7 (wt ss) (bh n).stage.toNat) (hm:gV.toNat = (bh n).dropped.toNat + g7 (mo ss) (bh n).stage.toNat) (hx:ss.getD (bh n).stage.toNat da.zero = x) :
 (¬ x.wait < (bh n).seen /\ ¬ (bh n).seen < (bh n).dropped /\ ¬ x.gV + 1 < (bh n).dropped /\ ¬ news < counted) /\ ((bh n).end_ = 0->news = counted /\ drop <= gV /\ (bh n).seen < x.wait /\ (bh n).dropped <= x.gV) ∧
 ((bh n).end_ = 1->(bh n).stage.toNat + 1 = ss.length /\ (bh n).seen = x.wait /\ (bh n).dropped <= x.gV) /\ ((bh n).end_ ≠ 0->(bh n).end_ ≠ 1->news = counted /\ drop <= gV /\ (bh n).dropped = x.gV + 1):=by
 have hw:=hg.w _ H.wf.lt;have e1:x.wait.toNat = wt ss (bh n).stage.toNat:=by rw [<- hx]; rfl
 have e2:x.gV.toNat = mo ss (bh n).stage.toNat:=by rw [<- hx]; rfl
 have e3:(x.gV + 1).toNat = x.gV.toNat + 1:=add1 _ (by omega);have h1:=H.ge;have h2:=H.eq;have h3:=H.wf.ds;have hcn:counted.toNat = rU ss n:=hc;have hmn:gV.toNat = Im ss n:=hm;simp only [bZ,fR,<- cC,e3];have z0:(0:UInt64).toNat = 0:=rfl;have z1:(1:UInt64).toNat = 1:=rfl;have h2':(bh n).end_.toNat ≠ 1->g7 _ cnt = rU ss n /\ g7 _ cnt <= Im ss n:=λe=>h2 λe'=>e (by rw [e']; rfl)
 refine ⟨⟨?_,?_,?_,?_⟩,λe=>?_,λe=>?_,λe e'=>?_⟩
 ·rcases H.wf.alt with h | h | h <;> omega
 ·omega
 ·rcases H.wf.alt with h | h | h <;> omega
 ·omega
 ·rcases H.wf.alt with h | h | h <;> omega
 ·rcases H.wf.alt with h | h | h <;> omega
 ·have z2:(bh n).end_.toNat ≠ 1:=λh=>e' (cC.1 h)
  have z3:(bh n).end_.toNat ≠ 0:=λh=>e (cC.1 h)
  rcases H.wf.alt with h | h | h <;> omega
theorem Kt (x:RX) (ss:List bj) (hst:iM ss 0 = true) (m:UInt64) (hw:xW ss m) (w:World) (sf:At (Var x.b cH (x.rv m) 122) w):aR 27 #[.pointer (some ⟨x.b,0,none⟩),rC.v] w (Gx.mE w (Var x.b cH (x.rv m) 122) (λ_:Unit=>True) (λ_=>.tuple #[I ((bh m).stage.toNat:Int),fO (bh m).seen,fO (bh m).dropped,I 0]) (λ_=>Var x.b cH (x.rv m) 122)):=λX fr uK hM=>by
 refine (Co (r:=Var x.b cH (x.rv m) 122) (λb hb=>hb) (HK (Ix x ss (vd hst) (hM _ rfl) w.heap.size) ⟨m,hw⟩ trivial (show 0 < 2 by decide) _ w uK (λb hb=>hb.elim (λe=>hM b e) λh=>by omega) sf (λb hb=>.inl hb) (λb hb=>.inr hb) CN)).mono (λ_ h=>h) ?_;exact s51
theorem Pd (x:RX) (ss:List bj) (hst:iM ss 0 = true) (m:UInt64) (hw:xW ss m) (w:World) (sf:At (Var x.b cH (x.rv m) 122) w):aR 28 #[.pointer (some ⟨x.b,0,none⟩),rC.v] w (Gx.mE w (Var x.b cH (x.rv m) 122) (λ_:Unit=>True) (λ_=>.tuple #[.bool (decide (¬ (bh m).end_ = 0)),.bool (decide ((bh m).end_ = 1)),I 0]) (λ_=>Var x.b cH (x.rv m) 122)):=λX fr uK hM=>by
 refine (Co (r:=Var x.b cH (x.rv m) 122) (λb hb=>hb) (Gn (Ix x ss (vd hst) (hM _ rfl) w.heap.size) ⟨m,hw⟩ trivial (show 0 < 2 by decide) _ w uK (λb hb=>hb.elim (λe=>hM b e) λh=>by omega) sf (λb hb=>.inl hb) (λb hb=>.inr hb) CN)).mono (λ_ h=>h) ?_;exact s51
theorem aiQ {n:Nat} (h:k < n):(List.replicate n true).getD k bE.zero = true:=by grind
structure U9 (w:World) (u1 u2 u3:Value) (ss:List bj) (cnt:Nat) (os:List OV) (lss:Nat->List bD):Prop where
 s:bU da w u1 ss
 o:bU (dJ aM) w u2 os
 r:∀ k,k < os.length->bU gH w (os.getD k aM).v (lss k)
 g:bU bE w u3 (List.replicate cnt true)
variable {o:OV}
def AK:ot 173 (dJ aM):=oq
def MQ:ot 175 gH:=oq
theorem Ti (rx:RX) (ss:List bj) (n:UInt64) (cnt:Nat) (u1 u2 u3:Value) (os:List OV) (lss:Nat->List bD) (w:World) (h:At (Var rx.b cH (rx.rv n) 122) w) (hst:iM ss 0 = true) (hF:Oq ss n cnt lss) (hol:os.length = cnt) (hc:cnt <= 16) (hl:∀ k,k < cnt->(lss k).length <= 12) (hA:∀ w2,bf (Var rx.b cH (rx.rv n) 122).c9 w w2->U9 w2 u1 u2 u3 ss cnt os lss):aR 22 #[.pointer (some ⟨rx.b,0,none⟩),u1,u2,u3] w (Gx.mE w (Var rx.b cH (rx.rv n) 122) (λ_:Unit=>True) (λ_=>.bool true) (λ_=>Var rx.b cH (rx.rv n) 122)):=by
 have hg:=vd hst;have hsl:=hF.wf.lt;have ZQ:=hg.l;have hrl:(List.replicate cnt true).length = cnt:=by simp
 have hsm:=hF.wf.small hg;have hsn:=hsm.n;have QH:=hsm.d;refine enter 198 _ Tryz.func22 rfl rfl (aT rfl) (uj h) (λ_ _=>?_);refine m12 ?_;refine sg (ac (fO 0) ?_);refine ac (fO 0) ?_;refine m154 ?_;refine m136 ?_;refine nP (block (lp (X:=Int × UInt64 × UInt64) (λx=>(0 <= x.1 /\ x.1 <= cnt) /\ (x.2.1.toNat = g7 (λk=>rD (lss k)) x.1.toNat) /\ (x.2.2.toNat = g7 (λk=>tR (lss k)) x.1.toNat)) (λx=>[dz,(0,true,jc rx.b),(1,true,u1),(2,true,u2),(3,true,u3),(9,true,fO x.2.1),(10,true,fO x.2.2),(11,true,I x.1)]) (λx=>[Var rx.b cH _ 122]) (λx=>((cnt:Int) - x.1).toNat) (0,0,0) ⟨?_,?_,?_⟩ (λx hx=>?_)))
 ·omega
 ·rfl
 ·rfl
 obtain⟨i,a,d⟩:=x;dsimp only at hx;obtain⟨hi,ha,hd⟩:=hx;refine m155 ?_;refine co (Ev.len Y90 aa (λw I=>(hA w I.keeps).o)) ?_;refine m311 ?_;refine ig rfl (λhlt=>?_) (λhge=>?_)
 ·refine m58 ?_;refine m155 ?_;refine co (Ev.indexAddr Y91 x6 aa aa (λw I=>(hA w I.keeps).g) (λ_=>zo)) ?_;refine co (Ev.eT x6 aa (λw I=>(hA w I.keeps).g) (λ_=>zo)) ?_;refine m47 ?_;refine nS rfl (by grind) ?_;refine m7 ?_;have hb1:g7 (λk=>rD (lss k)) i.toNat <= i.toNat * 12:=by rw [<- ni]; exact tB λk hk=>az (Ii _) (hl k (by omega))
  have hb2:g7 (λk=>tR (lss k)) i.toNat <= i.toNat * 12:=by rw [<- ni]; exact tB λk hk=>az (Ji _) (hl k (by omega))
  have hli:=hl i.toNat (by omega);refine region (ac (I 0) ?_);refine nP (block (lp (X:=Int × UInt64 × UInt64) (λx=>(0 <= x.1 /\ x.1 <= (lss i.toNat).length) /\ (x.2.1.toNat = g7 (λk=>rD (lss k)) i.toNat + rD ((lss i.toNat).take x.1.toNat)) /\ (x.2.2.toNat = g7 (λk=>tR (lss k)) i.toNat + tR ((lss i.toNat).take x.1.toNat))) (λx=>[dz,(0,true,jc rx.b),(1,true,u1),(2,true,u2),(3,true,u3),(9,true,fO x.2.1),(10,true,fO x.2.2),(11,true,I i),(12,true,I x.1)]) (λx=>[Var rx.b cH _ 122]) (λx=>(((lss i.toNat).length:Int) - x.1).toNat) (0,a,d) ⟨?_,?_,?_⟩ (λx hx=>?_)))
  ·omega
  ·trivial
  ·trivial
  obtain⟨j,a2,d2⟩:=x;dsimp only at hx;obtain⟨hj,ha2,Vx⟩:=hx;refine m155 ?_;refine m68 ?_;refine co (Ev.len UT aa (λw I=>(hA w I.keeps).r i.toNat (by omega))) ?_;refine m311 ?_;refine ig rfl (λaf4=>?_) (λaf9=>?_)
  ·refine m58 ?_;refine seq ?_;have hb3:rD ((lss i.toNat).take j.toNat) <= 12:=az (Ii _) (by rw [dC]; omega);have hb4:tR ((lss i.toNat).take j.toNat) <= 12:=az (Ji _) (by rw [dC]; omega);refine m17 ?_;refine m206 ?_;refine co (Ev.nm (o:=1) (i:=j) aa (λw I=>(hA w I.keeps).r i.toNat (by omega)) (λ_=>zo) zk) ?_;refine co (Ev.y5 x6 bD.xO rfl aa (λw I=>(hA w I.keeps).r i.toNat (by omega)) (λ_=>zo)) ?_;refine nP ?_;refine ig rfl (λh3=>?_) (λh3=>?_)
   ·have h3:((lss i.toNat).getD j.toNat gH.zero).new = true:=h3;refine m1 ?_;refine m132 ?_;refine m6 ?_;refine m206 ?_;refine co (Ev.nm (o:=2) (i:=j) aa (λw I=>(hA w I.keeps).r i.toNat (by omega)) (λ_=>zo) zk) ?_;refine co (Ev.y5 x6 bD.j5 rfl aa (λw I=>(hA w I.keeps).r i.toNat (by omega)) (λ_=>zo)) ?_;refine nP ?_;refine ig rfl (λh4=>?_) (λh4=>?_)
    ·have h4:((lss i.toNat).getD j.toNat gH.zero).dropped = true:=h4;refine m17 ?_;refine m132 ?_;refine m57 ?_;refine m25 ?_;refine vK rfl (nP (nx (j + 1,_,_) ⟨?_,?_,?_⟩ ?_))
     ·omega
     ·exact s80
     ·rw [show (j + 1).toNat = j.toNat + 1 by omega,yx (by omega),h3]
      simp_all; omega
     omega
    ·have h4:((lss i.toNat).getD j.toNat gH.zero).dropped = false:=by simpa using h4
     refine m203 ?_;refine m25 ?_;refine vK rfl (nP (nx (j + 1,_,_) ⟨?_,?_,?_⟩ ?_))
     ·omega
     ·exact s80
     ·rw [show (j + 1).toNat = j.toNat + 1 by omega,yx (by omega),h3]
      grind
     omega
   ·have h3:((lss i.toNat).getD j.toNat gH.zero).new = false:=by simpa using h3
    refine m203 ?_;refine m25 ?_;refine vK rfl (nP (nx (j + 1,_,_) ⟨?_,?_,?_⟩ ?_))
    ·omega
    ·rw [show (j + 1).toNat = j.toNat + 1 by omega,CO (by omega),h3]
     assumption
    ·rw [show (j + 1).toNat = j.toNat + 1 by omega,yx (by omega),h3]
     assumption
    omega
  ·refine m97 ?_;refine bN (pN ?_);refine m25 ?_;refine vK rfl (nP (nx (i + 1,a2,d2) ⟨?_,?_,?_⟩ ?_))
   ·omega
   ·rw [show (i + 1).toNat = i.toNat + 1 by omega,ha2,bH (by omega)]; rfl
   ·rw [show (i + 1).toNat = i.toNat + 1 by omega,Vx,bH (by omega)]; rfl
   omega
 ·refine m88 ?_;refine cons (uC _ _ (λ_=>zu) zm eN (.cons aa (.cons (.c rfl) .nil)) (λw I=>Kt rx ss hst n hF.wf w (am w I)) (λ_ _=>?_));refine m112 ?_;refine cx rfl rfl ?_;refine m242 ?_;refine m242 ?_;refine m60 ?_;refine cons (uC _ _ (λ_=>zu) zm eN (.cons aa (.cons (.c rfl) .nil)) (λw I=>Pd rx ss hst n hF.wf w (am w I)) (λ_ _=>?_));refine m112 ?_;refine m242 ?_;refine m41 ?_;refine m18 ?_;refine co (Ev.AY aa (.c rfl)) ?_;refine m2 ?_;refine m78 ?_;refine m20 ?_;refine m2 ?_;refine cg rfl rfl (Ev.rE (.g rfl id) (.c rfl)) ?_;refine m20 ?_;refine m236 ?_;refine cg rfl rfl (Ev.len BY (.g rfl id) (λw I=>(hA w I.keeps).s)) ?_;refine cg rfl rfl (Ev.Fq (.g rfl id) (.g rfl id)) ?_;refine m255 ?_;refine nS rfl (by grind) ?_;refine m66 ?_;refine mv rfl ?_;refine m41 ?_;refine seq ?_;refine m136 ?_;refine nP (block (lp (λx=>(0 <= x.1 /\ x.1 <= ((bh n).stage.toNat:Int)) /\ (x.2.1.toNat = (bh n).seen.toNat + g7 (wt ss) x.1.toNat) /\ (x.2.2.toNat = (bh n).dropped.toNat + g7 (mo ss) x.1.toNat)) (λx=>[dz,(0,true,jc rx.b),(1,true,u1),(2,true,u2),(3,true,u3),(9,true,fO a),(10,true,fO d),(13,true,I _),(14,true,fO _),(15,true,fO _),(17,true,.bool _),(18,true,.bool _),(20,true,fO x.2.1),(21,true,fO x.2.2),(22,true,I x.1)]) (λx=>[Var rx.b cH _ 122]) (λx=>(((bh n).stage.toNat:Int) - x.1).toNat) (0,(bh n).seen,(bh n).dropped) ⟨?_,?_,?_⟩ (λx hx=>?_)))
  ·omega
  ·rfl
  ·rfl
  obtain⟨p,c,m⟩:=x;dsimp only at hx;obtain⟨hp,hcc,hmm⟩:=hx;refine m18 ?_;refine m125 ?_;refine nP ?_;refine ig rfl (λan0=>?_) (λaoi=>?_)
  ·refine m58 ?_;refine seq ?_;have hb5:g7 (wt ss) p.toNat <= p.toNat * 1048576:=by rw [<- ni]; exact tB λk hk=>(hg.w k (by omega)).2.1
   have hb6:g7 (mo ss) p.toNat <= p.toNat * 1048576:=by rw [<- ni]; exact tB λk hk=>(hg.w k (by omega)).2.2
   have hb7:=hg.w p.toNat (by omega);have hb10:g7 _ (p.toNat + 1) = g7 _ p.toNat + wt ss p.toNat:=rfl;have hb11:g7 _ (p.toNat + 1) = g7 _ p.toNat + mo ss p.toNat:=rfl;refine m95 ?_;refine mv rfl ?_;refine m207 ?_;refine co (Ev.nm (o:=1) (i:=p) aa (λw I=>(hA w I.keeps).s) (λ_=>zo) zk) ?_;refine co (Ev.y5 nh bj.sF rfl aa (λw I=>(hA w I.keeps).s) (λ_=>zo)) ?_;refine co (Ev.vh aa aa) ?_;refine m0 ?_;refine m95 ?_;refine mv rfl ?_;refine m207 ?_;refine co (Ev.nm (o:=2) (i:=p) aa (λw I=>(hA w I.keeps).s) (λ_=>zo) zk) ?_;refine co (Ev.y5 nh bj.wA rfl aa (λw I=>(hA w I.keeps).s) (λ_=>zo)) ?_;refine co (Ev.vh aa aa) ?_;refine m57 ?_;refine m25 ?_;refine vK rfl (nP (nx (p + 1,_,_) ⟨?_,?_,?_⟩ ?_))
   ·omega
   ·rw [show (p + 1).toNat = p.toNat + 1 by omega]; exact Hv hcc rfl (by exact j4 _ _ _) (by omega)
   ·rw [show (p + 1).toNat = p.toNat + 1 by omega]; exact Hv hmm rfl (by exact j4 _ _ _) (by omega)
   omega
  ·refine m13 ?_;refine seq ?_;obtain⟨xs,hx⟩:∃ z,ss.getD (bh n).stage.toNat da.zero = z:=⟨_,rfl⟩;have hp2:p.toNat = (bh n).stage.toNat:=by omega
   have hi2:i.toNat = cnt:=by omega
   rw [hp2] at hcc hmm;rw [hi2] at ha hd;obtain⟨⟨q1,q2,q3,q4⟩,q5,q6,q7⟩:=Ls hg hF ha hd hcc hmm hx;refine m95 ?_;refine m207 ?_;refine co (Ev.to (v':=da.val xs) (Ev.eT rI aa (λw I=>(hA w I.keeps).s) (λ_=>by omega)) (by grind)) ?_;refine cons (alloc MG (λb1=>?_));refine cons (j8 rI (aB.id _) aa aa ?_);refine m220 ?_;refine m289 ?_;refine co (Ev.gS nh aa bj.sF) ?_;refine co (Ev.vc aa aa) ?_;refine m236 ?_;refine cg rfl rfl (Ev.vc (.g rfl id) (.g rfl id)) ?_;refine m20 ?_;refine m252 ?_;refine cg rfl rfl (Ev.vc (.g rfl id) (.g rfl id)) ?_;refine m20 ?_;refine m236 ?_;refine m228 ?_;refine m255 ?_;refine nS rfl (by simp [q1,q2,q3,q4]) ?_;refine m7 ?_;refine m1 ?_;refine m47 ?_;refine ig rfl (λh8=>?_) (λh8=>?_)
   ·refine m204 ?_;refine co (Ev.qG aa aa) ?_;refine m236 ?_;refine m111 ?_;refine m2 ?_;refine m87 ?_;refine m228 ?_;refine m16 ?_;refine m2 ?_;refine m55 ?_;refine m111 ?_;refine m109 ?_;refine m262 ?_;refine done rfl (.tmp rfl .nil) (λw I=>?_);exact Gx.D1 () trivial (aL Value.bool (by simp_all)) (by simp) w I
   ·refine m7 ?_;refine m1 ?_;refine nP ?_;refine ig rfl (λh9=>?_) (λh9=>?_)
    ·refine m204 ?_;refine co (Ev.len BY aa (λw I=>(hA w I.keeps).s)) ?_;refine co (Ev.uh aa (.c rfl) (λ_=>zo)) ?_;refine co (Ev.xS aa aa) ?_;refine m2 ?_;refine m87 ?_;refine cg rfl rfl (Ev.qG (.g rfl id) (.g rfl id)) ?_;refine m16 ?_;refine m2 ?_;refine m55 ?_;refine m111 ?_;refine m262 ?_;refine done rfl (.tmp rfl .nil) (λw I=>?_);exact Gx.D1 () trivial (aL Value.bool (by simp_all; omega)) (by simp) w I
    ·refine m66 ?_;refine mv rfl (co (Ev.qG aa aa) ?_);refine m236 ?_;refine m111 ?_;refine m252 ?_;refine cg rfl rfl (Ev.qG (.g rfl id) (.g rfl id)) ?_;refine m16 ?_;refine m64 ?_;refine done rfl (.tmp rfl .nil) (λw I=>?_);exact Gx.D1 () trivial (aL Value.bool (by simp_all)) (by simp) w I
def Bxs:List Nat->du
 | []=>YQ
 | b :: r=>Sep (Var b iE (r.length:Int) 3) (Bxs r)
theorem Ut {w:World}:∀ (bs:List Nat) (i:Nat),i < bs.length->(Bxs bs).A w->eK iE w (bs.getD (bs.length - 1 - i) 0) 0 (i:Int)
 | b :: r,i,hi,⟨h1,h2,_⟩=>by
   simp only [aS] at hi
   by_cases e:i = r.length
   ·subst e;rw [aS,Nat.add_sub_cancel,oF];exact nB h1
   ·have:=Ut r i (by omega) h2
    grind
def agW {bs:List Nat} (h1:lC L (Var b iE (bs.length:Int) 3) L1) (h2:lC L1 (Bxs bs) L') (next:Sat K X F (Bxs (b :: bs) :: L')):Sat K X F L:=mI h1 h2 next
def zi (cap:Nat->List Value):List Nat->List OV
 | []=>[]
 | b :: r=>zi cap r ++ [Bb 56 (cap b)]
theorem BS (cap:Nat->List Value):∀ bs:List Nat,zi cap bs = (List.range bs.length).map λi=>Bb 56 (cap (bs.getD (bs.length - 1 - i) 0))
 | []=>rfl
 | b :: r=>by
   rw [zi,BS cap r,aS,List.range_succ,eF]
   congr 1
   ·grind [List.map_congr_left]
   ·simp
theorem LM (cap:Nat->List Value) (n:Nat):YN ((List.range n).map λi=>Bb 56 (cap i)):=λi hi=>⟨cap i,by
 grind⟩
def acw (g d r s k:Nat):List Value:=[.pointer (some ⟨g,0,none⟩),.pointer (some ⟨k,0,none⟩),.pointer (some ⟨d,0,none⟩),.pointer (some ⟨r,0,none⟩),.pointer (some ⟨s,0,none⟩)]
theorem I3 (cap:Nat->List Value) (bs:List Nat):(zi cap bs).length = bs.length:=by rw [BS]; simp
theorem Ty {l:List α} (l2:List α) (h:k < l.length):(l ++ l2).getD k z = l.getD k z:=by grind
theorem Tz {l:List α} {v:α}:(l ++ [v]).getD l.length z = v:=by simp
def aey (o:OV) (k:Nat):OV:=⟨uN gC.size o.v 0 k,HG _ _ _ _ o.one⟩
def rz (w:World) (us:List OV) (rows:Nat->List cZ):Prop:=∀ k,k < us.length->bU gC w (us.getD k aM).v (rows k)
def GW (us:List OV) (rows:Nat->List cZ) (k:Nat):List cZ:=if us.length = 0 then [] else (rows k).take 12
theorem RU {n:Nat} (h:rz w us rows) (hx:rz w xs λk=>(rows k).take 12) (hi:i < us.length) (hl:xs.length = i) (hn:n = min (rows i).length 12):rz w (xs ++ [aey (us.getD i aM) n]) λk=>(rows k).take 12:=λk hk=>by
 rw [cK,List.length_singleton] at hk
 by_cases e:k < xs.length
 ·rw [Ty _ e]; exact hx k e
 ·obtain rfl:k = xs.length:=by omega
  rw [Tz];have h1:=(h i hi).sub (bu n) (by rw [hn]; exact Nat.min_le_left _ _);subst hl;have e2:(rows xs.length).take 12 = (rows xs.length).take n:=by
   rw [hn]
   by_cases h12:(rows xs.length).length <= 12
   ·rw [kg h12,bH h12,jR]
   ·rw [fH (by omega)]
  show bU _ w _ ((rows xs.length).take 12);rw [e2];exact h1
theorem TU (us:List OV) (rows:Nat->List cZ) (k:Nat):(GW us rows k).length <= 12:=by
 grind [GW]
structure YP (us:List OV) (rows:Nat->List cZ) (xs:List OV):Prop where
 pos:1 <= xs.length
 xQ:xs.length <= 6
 le:us.length ≠ 0->xs.length <= us.length
 at_:∀ w,rz w us rows->rz w xs (GW us rows)
theorem TR (h1:1 <= xs.length) (h2:xs.length <= 6) (h3:xs.length <= us.length) (h:∀ w,rz w us rows->rz w xs λk=>(rows k).take 12):YP us rows xs:=⟨h1,h2,λ_=>h3,λw hw k hk=>by
 unfold GW;rw [if_neg (by omega)];exact h w hw k hk⟩
theorem TS (h:us.length = 0):YP us rows [aM]:=⟨aA _,by decide,λe=>absurd h e,λw hw k hk=>by
 obtain rfl:k = 0:=by grind
 unfold GW;rw [if_pos h];exact bU.nil _ w⟩
def wU (a n:Int):Int:=if a.tmod n < 0 then a.tmod n + n else a.tmod n
theorem OD {a n:Int} (h:0 < n):0 <= wU a n /\ wU a n < n:=by
 have h1:=Int.lt_tmod_of_pos a h;have h2:=Int.tmod_lt_of_pos a h
 grind [wU]
structure PX where
 run:OV
 gd:OV
 sn:OV
 g:Nat
 s:Nat
 d:Nat
 r:Nat
 ks:List Nat
def WG (b:Nat):OV:=⟨.pointer (some ⟨b,0,none⟩),rfl⟩
def PX.cap (x:PX):Nat->List Value:=acw x.g x.d x.r x.s
def PX.R (x:PX) (b:Nat) (u:OV) (cnt:Nat):List du:=[bY x.run.v (dJ iG) (zi x.cap x.ks) 64,bY x.gd.v bE (List.replicate cnt bE.zero) 4,bY x.sn.v (dJ aM) (List.replicate cnt aM) 173,Var x.g (dJ aM) x.gd 91,Var x.s (dJ aM) x.sn 90,Var x.d (dJ aM) u 32,Var x.r (dJ dB) (WG b) 37,Bxs x.ks]
def Bl:ot 49 (dJ aM):=oq
def V6:ot 62 gC:=oq
def z49:zI 49 (dJ aM):=kI
def ad5:DV 49 (dJ aM) 24:=kB
def adW:Eo (dJ aM):=Hk _
theorem ab8 (u:Value) (us:List OV) (rows:Nat->List cZ) (w:World) (hu:bU (dJ aM) w u us) (hr:rz w us rows):aR 9 #[u] w (nz w (λo:OV × List OV=>YP us rows o.2) (λo=>o.1.v) (λo=>[bY o.1.v (dJ aM) o.2 49])):=by
 have hle:=hu.le;refine iZ 36 Tryz.func9 (λ_ _=>?_);refine m12 ?_;refine m229 ?_;refine jf (dJ aM) 49 ?_;refine m154 ?_;refine m136 ?_;refine nP (block (lp (X:=Int × OV × (List OV)) (λx=>(0 <= x.1 /\ x.1 <= us.length /\ x.1 <= 6) /\ ((x.2.2.length:Int) = x.1) /\ (∀ w,rz w us rows->rz w x.2.2 λk=>(rows k).take 12)) (λx=>[dz,(0,true,u),(3,true,x.2.1.v),(4,true,I x.1)]) (λx=>[bY x.2.1.v _ x.2.2 49]) (λx=>(6 - x.1).toNat) (0,aM,[]) ⟨?_,?_,?_⟩ (λx hx=>?_)))
 ·omega
 ·rfl
 ·intro w _ k hk; grind
 obtain⟨i,o,xs⟩:=x;dsimp only at hx;obtain⟨hi,hxl,hx⟩:=hx;refine m155 ?_;refine co (Ev.len UR aa zf) ?_;refine m91 ?_;refine ig rfl (λh0=>?_) (λh0=>?_)
 ·refine m58 ?_;refine T9 lC.head zk ?_;refine m191 ?_;refine m301 ?_;refine m268 ?_;refine tk 3 rfl (Ev.indexAddr UR Bl aa aa zf (λ_=>zo)) ?_;refine tk 4 rfl (Ev.eT Bl aa zf (λ_=>zo)) ?_;refine m227 ?_;refine m312 ?_;refine tk 7 rfl (Ev.indexAddr UR Bl aa aa zf (λ_=>zo)) ?_;refine tk 8 rfl (Ev.eT Bl aa zf (λ_=>zo)) ?_;refine tk 9 rfl (Ev.len Y49 aa (λw I=>(hr i.toNat (by omega)).cO I.keeps)) ?_;refine tk 10 rfl (Ev.to (v':=I (min (rows i.toNat).length 12:Nat)) (Ev.Nx aa (.c rfl)) (aL I (by omega))) ?_;refine tk 11 rfl (Ev.to (v':=(aey _ (min _ 12)).v) (Ev.zY Y49 V6 aa aa (λw I=>(hr i.toNat (by omega)).cO I.keeps) (λ_=>by omega)) (by rfl)) ?_;refine fB 12 rfl (buildSlice UR Bl z49 (.cons aa .nil) rfl rfl (λv1=>?_));refine m263 ?_;refine vL UR Bl ad5 adW aa aa (λv2=>?_);refine m156 ?_;refine tk 14 rfl (Ev.assign aa) ?_;refine D3 (bN (pN ?_));refine m25 ?_;refine vK rfl (nP (Sv (i + 1,v2,_) ⟨?_,?_,?_⟩ ?_))
  ·omega
  ·grind
  ·grind [RU]
  omega
 ·refine m13 ?_;refine m18 ?_;refine co (Ev.len UR aa zf) ?_;refine m208 ?_;refine ig rfl (λh1=>?_) (λh1=>?_)
  ·refine m17 ?_;refine cons (buildSlice UR Bl z49 (.cons (.c (v:=(dJ aM).val (dJ aM).zero) rfl) .nil) rfl rfl (λv3=>?_));refine cons (vL UR Bl ad5 adW aa aa (λv4=>?_));refine m6 ?_;refine m64 ?_;refine done rfl (.tmp rfl .nil) (λw I=>?_);obtain rfl:xs = []:=dQ (by omega);exact lu (v4,_) (TS (by omega)) rfl zp w I
  ·refine m66 ?_;refine m64 ?_;refine done rfl (.tmp rfl .nil) (λw I=>?_);exact tU (o,xs) (TR (by omega) (by omega) (by omega) hx) rfl (nK.2 (jT _)) w I
theorem yW (a n:Int) (w:World) (hn:0 < n /\ n <= 1000):aR 33 #[I a,I n] w (dO w (I (wU a n))):=by
 have h1:=Int.lt_tmod_of_pos a hn.1;refine iZ 14 Tryz.func33 (λ_ _=>?_);refine m79 ?_;refine m204 ?_;refine co (Ev.Zl aa aa (λ_=>zo)) ?_;refine m182 ?_;refine m81 ?_;refine nP ?_;refine ig rfl (λh0=>?_) (λh0=>?_)
 ·refine m95 ?_;refine co (Ev.lx aa aa (λ_=>zo)) ?_;refine m6 ?_;refine m22 ?_
  simp_all [wU,if_pos]
 ·refine m66 ?_;refine m22 ?_;unfold wU; first | (rw [if_pos h0]; rfl) | (rw [if_neg h0]; rfl)
theorem aej (n:UInt64):(1 + n % 6).toNat <= 6:=by
 simp; omega
theorem ab6 (u:Value) (us:List bj) (w:World) (hu:bU da w u us):aR 8 #[u] w (nz w (λo:OV × List bj=>o.2.length <= 10 /\ ∀ q ∈ o.2,q.wait.toNat <= 6) (λo=>o.1.v) (λo=>[bY o.1.v da o.2 43])):=by
 have hle:=hu.le;refine iZ 61 Tryz.func8 (λ_ _=>?_);refine m12 ?_;refine m229 ?_;refine jf da 43 ?_;refine nP ?_;refine m79 ?_;refine seq ?_;refine m136 ?_;refine nP (block (lp (X:=Int × Int × OV × (List bj)) (λx=>(0 <= x.1 /\ x.1 <= us.length /\ x.1 <= 10) /\ (0 <= x.2.1 /\ x.2.1 <= 100) /\ ((x.2.2.2.length:Int) <= x.1) /\ (∀ q ∈ x.2.2.2,q.wait.toNat <= 6)) (λx=>[dz,(0,true,u),(3,true,x.2.2.1.v),(4,true,I x.2.1),(5,true,I x.1)]) (λx=>[bY x.2.2.1.v da x.2.2.2 43]) (λx=>(10 - x.1).toNat) (0,0,aM,[]) ⟨?_,?_,?_,?_⟩ (λx hx=>?_)))
 ·omega
 ·simp
 ·simp
 ·simp
 obtain⟨i,last,o,xs⟩:=x;dsimp only at hx;obtain⟨hi,hla,hxl,hxw⟩:=hx;refine m155 ?_;refine co (Ev.len BY aa zf) ?_;refine m91 ?_;refine ig rfl (λh0=>?_) (λh0=>?_)
 ·refine m202 ?_;refine ac (I 40) ?_;refine nP (cut (λx=>(1 <= x /\ x <= 100)) (λx=>[dz,(0,true,u),(3,true,o.v),(4,true,I last),(5,true,I i),(6,true,I x)]) (λx=>[bY o.v da xs 43]) ?_ (λx hx=>?_))
  ·refine m1 ?_;refine m208 ?_;refine ig rfl (λh1=>?_) (λh1=>?_)
   ·refine region (ac (I 100) ?_);refine nP (mt (_) ?_);omega
   ·refine m90 ?_;omega
  obtain⟨st,rfl⟩:∃ y,y = x:=⟨x,rfl⟩;have hst:=hx;clear hx;refine cut (X:=Nat × bj) (λx=>(0 <= x.2.parts /\ x.2.parts <= 1000) /\ (x.2.wait.toNat <= 6)) (λx=>[dz,(0,true,u),(3,true,o.v),(4,true,I last),(5,true,I i),(7,true,jc x.1)]) (λx=>[Var x.1 da x.2 43,bY o.v da xs 43]) ?_ (λx hx=>?_)
  ·obtain⟨pv,hpv⟩:∃ z,(us.getD i.toNat da.zero).parts = z:=⟨_,rfl⟩;have hwi:=OD (a:=pv) (show 0 < st by omega);refine m51 ?_;refine tk 1 rfl (Ev.lx aa (.c rfl) (λ_=>zo)) ?_;refine m268 ?_;refine m190 ?_;refine tk 4 rfl (Ev.indexAddr BY rI aa aa zf (λ_=>zo)) ?_;refine tk 5 rfl (Ev.nm (o:=0) (i:=i) aa zf (λ_=>zo) zk) ?_;refine tk 6 rfl (Ev.to (Ev.y5 l9 bj.oI rfl aa zf (λ_=>zo)) (aL I hpv)) ?_;refine tm 7 rfl rfl ?_;refine tm 10 rfl rfl ?_;refine tm 11 rfl rfl ?_;refine tk 12 rfl (Ev.indexAddr BY rI aa aa zf (λ_=>zo)) ?_;refine tk 13 rfl (Ev.nm (o:=1) (i:=i) aa zf (λ_=>zo) zk) ?_;refine tk 14 rfl (Ev.y5 nh bj.sF rfl aa zf (λ_=>zo)) ?_;refine tk 15 rfl (Ev.F8 aa (.c (v:=fO 6) rfl) (λ_=>by decide)) ?_;refine tk 16 rfl (Ev.vh (.c (v:=fO 1) rfl) aa) ?_;refine tm 17 rfl rfl ?_;refine tm 18 rfl rfl ?_;refine tk 19 rfl (Ev.indexAddr BY rI aa aa zf (λ_=>zo)) ?_;refine tk 20 rfl (Ev.nm (o:=2) (i:=i) aa zf (λ_=>zo) zk) ?_;refine tk 21 rfl (Ev.y5 nh bj.wA rfl aa zf (λ_=>zo)) ?_;refine tk 22 rfl (Ev.F8 aa (.c (v:=fO 4) rfl) (λ_=>by decide)) ?_;refine all [8,24] zk (by decide) (.cons rfl ?_ (.cons rfl ?_ .nil))
   ·refine m54 ?_;refine fB 24 rfl (alloc MG (λb1=>?_));refine m156 ?_;refine fB 25 rfl (j8 rI (aB.id _) aa aa ?_);exact s90
   ·refine (alloc MG (λb2=>?_));refine m201 ?_;refine m54 ?_;refine fB 25 rfl (j8 rI (aB.id _) aa aa ?_);exact s90
  obtain⟨b7,y⟩:=x;dsimp only at hx;obtain⟨hy,hyw⟩:=hx;refine seq ?_;refine m280 ?_;refine m146 ?_;refine nP ?_;refine ig rfl (λh2=>?_) (λh2=>?_)
  ·refine exit (pX (bO rfl (pX (pX (bX (pN (seq (sg (mv rfl (co (Ev.len BY aa zf) ?_))))))))));refine m208 ?_;refine ig rfl (λh3=>?_) (λh3=>?_)
   ·exact s15
   ·refine m66 ?_;refine m64 ?_;refine done rfl (.tmp rfl .nil) (λw I=>?_);exact lu (o,xs) ⟨by grind,hxw⟩ rfl zp w I
  ·refine m23 ?_;refine m280 ?_;refine m238 ?_;refine co (Ev.gS rI aa (aB.id _)) ?_;refine cons (buildSlice BY rI MG (.cons aa .nil) rfl rfl (λv5=>?_));refine cons (vL BY rI aah aag aa aa (λv6=>?_));refine m57 ?_;refine m25 ?_;refine vK rfl (nP (Sv (i + 1,y.parts,v6,_) ⟨?_,?_,?_,?_⟩ ?_))
   ·omega
   ·grind
   ·grind
   ·intro q hq; rcases bG.1 hq with hq | hq
    ·grind
    simp_all
   omega
 ·refine m13 ?_;refine m18 ?_;refine co (Ev.len BY aa zf) ?_;refine m208 ?_;refine ig rfl (λh3=>?_) (λh3=>?_)
  ·exact s15
  ·refine m66 ?_;refine m64 ?_;refine done rfl (.tmp rfl .nil) (λw I=>?_);exact lu _ ⟨by grind,hxw⟩ rfl zp w I
def aec:DV 173 (dJ aM) 24:=kB
def zb4:DV 4 bE 1:=kB
def z90:zI 90 (dJ aM):=kI
def z91:zI 91 (dJ aM):=kI
def aes:ot 32 (dJ aM):=oq
def OG:ot 90 (dJ aM):=oq
def Kl:ot 91 (dJ aM):=oq
def z64:zI 64 (dJ iG):=kI
def aii:DV 64 (dJ iG) 8:=kB
def aih:Eo (dJ iG):=Hk _
theorem Pb (b:Nat) (u:OV) (VC:List OV) (cnt:Nat) (w:World) (hu:bU (dJ aM) w u.v VC) (hc:VC.length = cnt) (h6:cnt <= 6):aR 21 #[.pointer (some ⟨b,0,none⟩),u.v] w (nz w (λz:PX=>z.ks.length = cnt) (λz=>.tuple #[z.run.v,z.sn.v,z.gd.v]) (λz=>z.R b u cnt)):=by
 have hle:=hu.le;refine iZ 28 Tryz.func21 (λ_ _=>?_);refine m15 ?_;refine box (E:=(dJ dB)) (.t (v:=(WG b).v) rfl) (λb1=>?_);refine cons (box (E:=(dJ aM)) (.t rfl) (λb2=>?_));refine ac _ ?_;refine jf (dJ iG) 64 ?_;refine cons (alloc z90 (λb3=>?_));refine cons (alloc z91 (λb4=>?_));refine m306 ?_;refine m89 ?_;refine cons (CU Y90 AK zk aec aa aa ⟨by omega,by omega⟩ ⟨by omega,by omega⟩ (λsn=>?_));refine cons (j8 OG (aB.id _) aa aa ?_);refine m306 ?_;refine m89 ?_;refine cons (CU Y91 x6 zk zb4 aa aa ⟨by omega,by omega⟩ ⟨by omega,by omega⟩ (λgd=>?_));refine cons (j8 Kl (aB.id _) aa aa ?_);refine m154 ?_;refine seq (acg ?_);refine region (cons (alloc z3 (λb5=>?_)));refine cons (j8 l9 (aB.id _) aa (.c rfl) ?_);refine nP (block (lp (λx=>(x.1.length <= cnt)) (λx=>[dz,(2,true,jc b1),(3,true,jc b2),(5,true,jc b3),(6,true,jc b4),(4,true,x.2.2.v),(7,true,jc x.2.1)]) (λx=>[Var x.2.1 iE (x.1.length:Int) 3,Bxs x.1,bY gd.v bE (List.replicate cnt bE.zero) 4,bY sn.v _ (List.replicate cnt aM) 173,Var b4 _ gd 91,Var b3 (dJ aM) sn 90,bY x.2.2.v (dJ iG) (zi (acw b4 b2 b1 b3) x.1) 64,Var b2 (dJ aM) u 32,Var b1 _ (WG b) 37]) (λx=>cnt - x.1.length) ([],b5,aM) ?_ (λx hx=>?_)))
 ·simp
 obtain⟨ks,kb,aiX⟩:=x;dsimp only at hx;have hks:=hx;have hfl:(zi (acw b4 b2 b1 b3) ks).length = ks.length:=I3 _ ks;refine seq (sg ?_);refine m185 ?_;refine m89 ?_;refine m311 ?_;refine ig rfl (λh0=>?_) (λh0=>?_)
 ·refine m58 ?_;refine m17 ?_;refine co (Ev.makeFunc (f:=56) (.cons aa (.cons aa (.cons aa (.cons aa (.cons aa .nil)))))) ?_;refine cons (buildSlice Z7 OH z64 (.cons aa .nil) rfl rfl (λv6=>?_));refine cons (vL Z7 OH aii aih aa aa (λv7=>?_));refine m57 ?_;refine seq (sg ?_);refine m185 ?_;refine nP (agW (bs:=ks) zr zr ?_);refine region (cons (alloc z3 (λb8=>?_)));refine cons (j8 l9 (aB.id _) aa aa ?_);refine nP (region ?_);refine m185 ?_;refine co (Ev.to (v':=I ((kb :: ks).length:Nat)) (Ev.lx aa (.c rfl) (λ_=>by omega)) (aL I (by simp))) ?_;refine cons (j8 l9 (aB.id _) aa aa ?_);refine nP (Sv (kb :: ks,b8,v7) ?_ ?_)
  ·grind
  grind
 ·refine m13 ?_;refine seq (draw [Var b4 (dJ aM) gd 91,Var b3 (dJ aM) sn 90] zk ?_);refine m191 ?_;refine tk 1 rfl (Ev.gS OG aa (aB.id _)) ?_;refine tk 2 rfl (Ev.gS Kl aa (aB.id _)) ?_;refine tk 3 rfl (Ev.assign aa) ?_;refine fB 4 rfl (j8 OG (aB.id _) aa aa ?_);refine m254 ?_;refine j8 Kl (aB.id _) aa aa ?_;refine m44 ?_;refine ret (done rfl (.tmp rfl (.cellP rfl OG (ed zm (aB.id _)) (.cellP rfl Kl (ed zm (aB.id _)) .nil))) (λw I=>?_));exact lu (⟨aiX,gd,sn,b4,b3,b2,b1,ks⟩:PX) (by grind) rfl (by exact zp) w I
structure Hc where
 s:WS
 tn:Nat
 ln:Nat
 mo:UInt64
variable {s:aC}
def Hc.l (e:Hc):List Nat:=[e.s.1.toNat,e.s.2.1,e.s.2.2,e.tn,e.ln,e.mo.toNat]
variable {l:List bD}
def TB (H:Gh):UInt64:=.ofNat ((H.getD 0 []).getD 0 0)
def lEn (l:List Nat):Hc:=⟨(.ofNat (l.getD 0 0),l.getD 1 0,l.getD 2 0),l.getD 3 0,l.getD 4 0,.ofNat (l.getD 5 0)⟩
def qe (H:Gh) (k:Nat):Hc:=lEn (H.getD (k + 1) [])
def J6 (H:Gh) (k:Nat) (n:UInt64) (e:Hc):Gh:=(H.set 0 [n.toNat]).set (k + 1) e.l
theorem afI (e:Hc):lEn e.l = e:=by
 simp [lEn,Hc.l]
section
variable {j:Nat} {n:UInt64} {e:Hc}
theorem SY:(J6 H k n e).length = H.length:=by simp [J6]
theorem LF (h:0 < H.length):TB (J6 H k n e) = n:=by simp_all [TB,J6]
theorem LH (h:k + 1 < H.length):qe (J6 H k n e) k = e:=by
 grind [J6,qe,afI]
theorem GV (h:j ≠ k):qe (J6 H k n e) j = qe H j:=by
 grind [J6,qe]
end
structure SD where
 n:UInt64
 gs:List Bool
 rw:Nat->OV × List bD
variable {n:UInt64}
def BD (cnt:Nat) (r:Nat->OV × List bD):List OV:=(List.range cnt).map λk=>(r k).1
theorem Sk {cnt:Nat} {r:Nat->OV × List bD} (h:k < cnt):(BD cnt r).getD k aM = (r k).1:=by grind [BD]
theorem aa3 {cnt:Nat} {r:Nat->OV × List bD} (h:k < cnt):(BD cnt r).set k o = BD cnt (upd r k (o,l)):=by
 apply eZ;intro j;simp only [BD];rw [List.getElem?_set]
 by_cases e:k = j
 ·subst e; simp [h,upd_same]
 ·rw [if_neg e]
  rcases fZ j cnt with hj | hj
  ·grind [upd_ne]
  grind
def tx (r:Nat->OV × List bD) (k:Nat):du:=bY (r k).1.v gH (r k).2 175
def pY (cnt:Nat) (r:Nat->du) (p:Nat->Prop):du where
 c9:=λb=>∃ k,k < cnt /\ p k /\ (r k).c9 b
 A:=λw=>(∀ k,k < cnt->p k->(r k).A w) /\ ∀ j k,j < cnt->k < cnt->p j->p k->j ≠ k->(r j).zT (r k)
 st:=λw w' h ⟨h1,h2⟩=>⟨λk hk hp=>(r k).st w w' (λb hb=>h b ⟨k,hk,hp,hb⟩) (h1 k hk hp),h2⟩
instance {cnt:Nat} {r:Nat->du} {p:Nat->Prop} [h:∀ k,pd (r k)]:pd (pY cnt r p):=⟨λw ha b ⟨k,hk,hp,hb⟩=>(h k).s w (ha.1 k hk hp) b hb⟩
instance {r:Nat->OV × List bD} {k:Nat}:pd (tx r k):=by unfold tx; infer_instance
section
variable {cnt:Nat} {r:Nat->du}
theorem RS (hk:k < cnt) (h:(pY cnt r λ_=>True).A w):(Sep (r k) (pY cnt r (· ≠ k))).A w :=
 ⟨h.1 k hk trivial,⟨λj hj _=>h.1 j hj trivial,λi j hi hj _ _=>h.2 i j hi hj trivial trivial⟩,λb hb ⟨j,hj,hjk,hb'⟩=>h.2 j k hj hk trivial trivial hjk b hb' hb⟩
theorem Wt (h:(Sep (r k) (pY cnt r (· ≠ k))).A w):(pY cnt r λ_=>True).A w:=by
 obtain⟨h1,⟨h2,h3⟩,h4⟩:=h;refine ⟨λj hj _=>?_,λi j hi hj _ _ XA b hb hb'=>?_⟩
 ·grind
 ·by_cases e:i = k
  ·subst e; exact h4 b hb ⟨j,hj,λe=>XA e.symm,hb'⟩
  ·by_cases e2:j = k
   ·subst e2; exact h4 b hb' ⟨i,hi,e,hb⟩
   ·exact h3 i j hi hj e e2 XA b hb hb'
theorem EM (hk:k < cnt) (b:Nat):(pY cnt r λ_=>True).c9 b ↔ (Sep (r k) (pY cnt r (· ≠ k))).c9 b:=by
 refine ⟨λ⟨j,hj,_,hb⟩=>?_,λh=>h.elim (λh=>⟨k,hk,trivial,h⟩) λ⟨j,hj,_,hb⟩=>⟨j,hj,trivial,hb⟩⟩
 by_cases e:j = k
 ·subst e; exact .inl hb
 ·exact .inr ⟨j,hj,e,hb⟩
end
theorem RR {cnt:Nat} {r:Nat->OV × List bD} (h:(pY cnt (tx r) (· ≠ k)).A w):(pY cnt (tx (upd r k x)) (· ≠ k)).A w:=by
 have e:∀ j,j ≠ k->tx (upd r k x) j = tx r j:=λj hj=>by unfold tx; rw [upd_ne r _ hj]
 exact ⟨λj hj hjk=>by rw [e j hjk]; exact h.1 j hj hjk,λi j hi hj h1 h2 XA=>by rw [e i h1,e j h2]; exact h.2 i j hi hj h1 h2 XA⟩
theorem O2 {cnt:Nat} {r:Nat->OV × List bD} (h:(pY cnt (tx (upd r k x)) (· ≠ k)).c9 b):(pY cnt (tx r) (· ≠ k)).c9 b:=by
 obtain⟨j,hj,hjk,hb⟩:=h;refine ⟨j,hj,hjk,?_⟩
 grind [tx,upd,upd_ne]
def VRt (G:Gt) (n:UInt64):du:=Var G.x.b cH (G.x.rv n) 122
def RsG (G:Gt) (gs:List Bool) (r:Nat->OV × List bD):du:=Sep (bY G.gd.v bE gs 4) (Sep (bY G.sn.v (dJ aM) (BD G.cnt r) 173) (pY G.cnt (tx r) λ_=>True))
def ShR (G:Gt) (d:SD):du:=Sep (VRt G d.n) (RsG G d.gs d.rw)
instance {G:Gt} {n:UInt64}:pd (VRt G n):=by unfold VRt; infer_instance
instance {G:Gt} {gs:List Bool} {r:Nat->OV × List bD}:pd (RsG G gs r):=by unfold RsG; infer_instance
theorem M4 {G:Gt} {d:SD} (h:(ShR G d).A w) (hb:(ShR G d).c9 b):∃ o,w.heap[b]? = some o /\ u9 o = false:=by
 obtain⟨h1,⟨h2,⟨h3,h4,_⟩,_⟩,_⟩:=h
 rcases hb with hb | hb | hb | ⟨k,hk,_,hb⟩
 ·obtain rfl:b = G.x.b:=hb;exact ⟨_,h1,rfl⟩
 ·exact uU h2 hb
 ·exact uU h3 hb
 ·exact uU (h4.1 k hk trivial) hb
structure FA (G:Gt) (H:Gh) (d:SD):Prop where
 len:H.length = G.cnt + 1
 wd:TB H = d.n
 gl:d.gs.length = G.cnt
 j:rJ G.ss d.n.toNat λk=>IT (qe H k).s
 e:∀ k,k < G.cnt->wQ G.ss (qe H k).s (d.rw k).2 (qe H k).mo /\ (d.rw k).2.length = (qe H k).ln /\ (qe H k).ln <= 12 /\ (qe H k).tn <= 2000 /\ (0 < (qe H k).tn->d.gs.getD k false = true)
def SAT (G:Gt) (H:Gh) (F:Nat->Prop) (v:World):Prop:=(∀ b,F b->ny v b /\ b < v.heap.size) /\ ∃ d,FA G H d /\ (ShR G d).A v /\ ∀ b,(ShR G d).c9 b->F b
theorem Wr {G:Gt} {F:Nat->Prop} {v v':World} (h:SAT G H F v) (k:∀ b,F b->v'.heap[b]? = v.heap[b]?):SAT G H F v':=by
 obtain⟨h1,d,h2,h3,h4⟩:=h;refine ⟨λb hb=>⟨λo ho=>(h1 b hb).1 o ((k b hb).symm.trans ho),?_⟩,d,h2,(ShR G d).st v v' (λb hb=>k b (h4 b hb)) h3,h4⟩
 grind
def StT (ss:List bj) (k:Nat) (_:Value) (b c:Gh):Prop:=(∀ j,j ≠ k->qe c j = qe b j) /\ AG ss (TB b) (TB c) /\ (qe c k).tn = (qe b k).tn + 1
def RT (ss:List bj) (i:Nat) (a b:Gh):Prop:=qe b i = qe a i /\ AG ss (TB a) (TB b)
def ZY (cnt:Nat):Gh:=List.replicate (cnt + 1) []
theorem X2 (cnt k:Nat):qe (ZY cnt) k = ⟨(0,0,0),0,0,0⟩:=by
 have h:(ZY cnt).getD (k + 1) [] = []:=by
  simp only [ZY,cE,na];split <;> rfl
 unfold qe;rw [h]
 rfl
theorem FA.start {G:Gt} (hg:kJ G.ss) (hp:0 < G.ss.length) {o:Nat->OV}:FA G (ZY G.cnt) ⟨0,List.replicate G.cnt false,λk=>(o k,[])⟩ where
 len:=by simp [ZY]
 wd:=rfl
 gl:=lf
 j:=by
  have e:(λk=>IT (qe (ZY G.cnt) k).s) = λ_=>[0,0,0]:=funext λk=>by rw [X2]; rfl
  rw [e];exact rJ0 hg hp
 e:=λk hk=>by
  grind [X2,wQ.start]
theorem FA.le {G:Gt} {d:SD} (h:FA G H d) (k:Nat):xW G.ss d.n /\ xW G.ss (qe H k).s.1 /\ AG G.ss (qe H k).s.1 d.n:=by
 obtain⟨n,h1,h2,h3,_⟩:=h.j;obtain rfl:d.n = n:=cC.1 h1;obtain⟨m,a,b,e,h4,h5⟩:=h3 k;simp only [IT,ko,mW] at e;have e1:=cC.1 e.1
 grind
def wQ.see (hg:kJ ss) {s:WS} (h:wQ ss s ls gV) (hl:AG ss s.1 n) (hw:xW ss n):wQ ss (n,s.2) ls gV :=
 ⟨hw,h.ge,λe=>h.eq λe'=>e (BT hl e'),h.fl.imp (BT hl) λk=>Int.le_trans k (hg.s _ _ hl.st hw.lt)⟩
theorem FA.hold {G:Gt} (hg:kJ G.ss) {H:Gh} {d:SD} (h:FA G H d):Oq G.ss d.n G.cnt λk=>(d.rw k).2:=by
 have hz:∀ k,G.cnt <= k->qe H k = ⟨(0,0,0),0,0,0⟩:=λk hk=>by
  have e:H.getD (k + 1) [] = []:=by rw [cE,fg (by have:=h.len; omega)]; rfl
  unfold qe;rw [e]
  rfl
 obtain⟨n,h1,h2,h3,B,hB,q1,q2⟩:=h.j;obtain rfl:d.n = n:=cC.1 h1;have pad:∀ {f:Nat->Nat},(∀ k,B <= k->f k = 0)->(∀ k,G.cnt <= k->f k = 0)->g7 f B = g7 f G.cnt:=λh1 h2=>by rw [<- yQ h1 G.cnt,<- yQ h2 B,kK]
 have c1:g7 (g1 λk=>IT (qe H k).s) G.cnt = rU G.ss d.n:=by rw [<- pad (λk hk=>(hB k hk).1) λk hk=>by show (IT (qe H k).s).getD 1 0 = 0; rw [hz k hk]; rfl]; exact q1
 have c2:g7 (g2 λk=>IT (qe H k).s) G.cnt <= Im G.ss d.n:=by rw [<- pad (λk hk=>(hB k hk).2) λk hk=>by show (IT (qe H k).s).getD 2 0 = 0; rw [hz k hk]; rfl]; exact q2
 refine ⟨h2,?_,λe=>?_⟩
 ·rw [<- c1]; exact tB λk hk=>(h.e k hk).1.ge
 ·have a:=λk hk=>(h.e k hk).1.eq λe'=>e (BT (h.le k).2.2 e')
  exact ⟨(oO λk hk=>(a k hk).1).trans c1,az (eW (oO λk hk=>(a k hk).2)) c2⟩
theorem TD {X:Ext} {fr:Nat} {args:Array Value} {r q:du} {J:Y->Prop} {val:Y->Value} (hA:At (Sep r q) w) (h:iQ X fr P f args w (Gx.mE w r J val r')):iQ X fr P f args w (Gx.mE w (Sep r q) J val λy=>Sep (r' y) q):=by
 refine h.mono (λ_ h=>.inl h) ?_;rintro e w' ⟨y,hJ,he,hk,ha,hf⟩;refine ⟨y,hJ,he,hk.mono λ_ h=>.inl h,⟨ha,q.st w w' (λb hb=>hk.block b (hA.2 b (.inr hb)) λhr=>hA.1.2.2 b hr hb) hA.1.2.1,λb hb hq=>(hf b hb).1.elim (λhr=>hA.1.2.2 b hr hq) λh=>?_⟩,λb hb=>hb.elim (λhb=>⟨(hf b hb).1.imp .inl id,(hf b hb).2⟩) λhb=>⟨.inl (.inr hb),aD (hA.2 b (.inr hb)) hk.size⟩⟩;have:=hA.2 b (.inr hq);omega
structure TT where
 G:Gh
 d:SD
 e:Hc
variable {e:Hc} {u:TT}
def Hc.up (e:Hc):Hc:=⟨e.s,e.tn + 1,e.ln,e.mo⟩
def TT.nx (k:Nat) (t:TT):Gh:=J6 t.G k t.d.n t.e.up
def TT.see (t:TT):TT:=⟨t.G,t.d,⟨(t.d.n,t.e.s.2),t.e.tn,t.e.ln,t.e.mo⟩⟩
def TT.Xz (t:TT) (m:UInt64) (dr:Bool):TT:=⟨t.G,⟨m,t.d.gs,t.d.rw⟩,⟨(m,t.e.s.2.1 + 1,t.e.s.2.2 + dr.toNat),t.e.tn,t.e.ln,t.e.mo⟩⟩
def Ok (s:aC) (H:Gh):du:=⟨λb=>b = s.sb,λv=>GhT s v H,λw w' h h1=>(h _ rfl).trans h1⟩
instance {s:aC} {H:Gh}:pd (Ok s H):=⟨λw h b hb e=>by
 obtain rfl:b = s.sb:=hb;have h':w.heap[s.sb]? = _:=h;rw [e] at h';exact absurd (bF (ak h')).2 (by decide)⟩
def vG (G:Gt) (s:aC) (t:TT):du:=Sep (VRt G t.d.n) (Sep (Ok s t.G) (RsG G t.d.gs t.d.rw))
instance {G:Gt} {s:aC} {t:TT}:pd (vG G s t):=by unfold vG; infer_instance
theorem afy (H:Gh) (k:Nat) (n n':UInt64) (e e':Hc):J6 (J6 H k n e) k n' e' = J6 H k n' e':=by
 simp [J6,List.set_comm,List.set_set]
theorem XX (h:k + 1 < H.length):(λj=>IT (qe (J6 H k n e) j).s) = upd (λj=>IT (qe H j).s) k (IT e.s):=funext λj=>by
 by_cases hj:j = k
 ·subst hj; rw [upd_same,LH h]
 ·rw [upd_ne _ _ hj,GV hj]
theorem FA.put {G:Gt} (hg:kJ G.ss) {d d':SD} (h:FA G H d) (hk:k < G.cnt) (hj:(e.s = (qe H k).s /\ d'.n = d.n) \/ rTr G.ss (IT (qe H k).s) d.n.toNat (IT e.s) d'.n.toNat) (hrw:∀ j,j ≠ k->(d'.rw j).2 = (d.rw j).2) (ZQ:d'.gs.length = G.cnt) (hgs:∀ j,j ≠ k->d.gs.getD j false = true->d'.gs.getD j false = true)
 (he:wQ G.ss e.s (d'.rw k).2 e.mo /\ (d'.rw k).2.length = e.ln /\ e.ln <= 12 /\ e.tn <= 2000 /\ (0 < e.tn->d'.gs.getD k false = true)):FA G (J6 H k d'.n e) d':=by
 have hl:=h.len;refine ⟨SY.trans hl,LF (by omega),ZQ,?_,λj hj'=>?_⟩
 ·rw [XX (by omega)]
  rcases hj with ⟨h1,h2⟩ | hj
  ·have e1:upd (λj=>IT (qe H j).s) k (IT e.s) = λj=>IT (qe H j).s:=funext λj=>by
    by_cases hj:j = k
    ·subst hj; rw [upd_same,h1]
    ·rw [upd_ne _ _ hj]
   rw [e1,h2];exact h.j
  ·exact aeX hg h.j hj
 ·by_cases hjk:j = k
  ·grind [LH]
  ·rw [GV hjk,hrw j hjk];obtain⟨a,b,c,f,g⟩:=h.e j hj'
   grind
structure rq (G:Gt) (k:Nat) (t:TT):Prop where
 fa:FA G (t.nx k) t.d
 tn:(qe t.G k).tn = t.e.tn
 le:AG G.ss (TB t.G) t.d.n
structure JX [av] (G:Gt):Prop where
 sa:∀ H F v,av.SA H F v ↔ SAT G H F v
 st:∀ k x b c,av.St k x b c ↔ StT G.ss k x b c
 r:∀ i a b,av.R i a b ↔ RT G.ss i a b
section
variable {G:Gt} {t:TT}
theorem rq.len (h:rq G k t):t.G.length = G.cnt + 1:=by have:=h.fa.len; rwa [TT.nx,SY] at this
theorem rq.en (h:rq G k t) (hk:k < G.cnt):qe (t.nx k) k = t.e.up:=LH (by have:=h.len; omega)
theorem rq.own (h:rq G k t) (hk:k < G.cnt):wQ G.ss t.e.s (t.d.rw k).2 t.e.mo /\ (t.d.rw k).2.length = t.e.ln /\ t.e.ln <= 12 /\ t.e.tn + 1 <= 2000 /\ t.d.gs.getD k false = true:=by
 have h1:=h.fa.e k hk;rw [h.en hk] at h1;exact ⟨h1.1,h1.2.1,h1.2.2.1,h1.2.2.2.1,h1.2.2.2.2 (ra _)⟩
theorem rq.wf (h:rq G k t) (hk:k < G.cnt):xW G.ss t.d.n /\ AG G.ss t.e.s.1 t.d.n:=by
 have h1:=h.fa.le k;rw [h.en hk] at h1;exact ⟨h1.1,h1.2.2⟩
theorem rq.put (hg:kJ G.ss) (h:rq G k t) (hk:k < G.cnt) {d':SD} {e:Hc} (Ta:e.tn = t.e.tn) (hj:(e.s = t.e.s /\ d'.n = t.d.n) \/ rTr G.ss (IT t.e.s) t.d.n.toNat (IT e.s) d'.n.toNat) (hle:AG G.ss t.d.n d'.n) (hrw:∀ j,j ≠ k->(d'.rw j).2 = (t.d.rw j).2) (ZQ:d'.gs.length = G.cnt) (hgs:∀ j,t.d.gs.getD j false = true->d'.gs.getD j false = true)
 (he:wQ G.ss e.s (d'.rw k).2 e.mo) (hl:(d'.rw k).2.length = e.ln) (h12:e.ln <= 12):rq G k ⟨t.G,d',e⟩:=by
 obtain⟨a1,a2,a3,a4,a5⟩:=h.own hk;refine ⟨?_,h.tn.trans Ta.symm,h.le.trans hle⟩;show FA G (J6 t.G k d'.n _) d';rw [<- afy t.G k t.d.n d'.n t.e.up];refine FA.put hg h.fa hk ?_ hrw ZQ (λj _=>hgs j) ⟨he,hl,h12,by show e.tn + 1 <= 2000; omega,λ_=>hgs k a5⟩;have h1:=h.en hk;unfold TT.nx at h1;rw [h1];exact hj
theorem Ze (t:TT) (w:World):(vG G s t).A w ↔ GhT s w t.G /\ (ShR G t.d).A w /\ ¬ (ShR G t.d).c9 s.sb:=by
 refine ⟨λ⟨h1,⟨h2,h3,h4⟩,h5⟩=>⟨h2,⟨h1,h3,λb hb hb'=>h5 b hb (.inr hb')⟩,λhb=>hb.elim (λhb=>h5 _ hb (.inl rfl)) λhb=>h4 _ rfl hb⟩,λ⟨h1,⟨h2,h3,h4⟩,h5⟩=>⟨h2,⟨h1,h3,λb hb hb'=>?_⟩,λb hb hb'=>hb'.elim (λhb'=>?_) (h4 b hb)⟩⟩
 ·obtain rfl:b = s.sb:=hb;exact h5 (.inr hb')
 ·obtain rfl:b = s.sb:=hb';exact h5 (.inl hb)
theorem uO (t:TT) (b:Nat):(vG G s t).c9 b ↔ b = s.sb \/ (ShR G t.d).c9 b:=by
 show (_ \/ _ \/ _) ↔ (_ \/ _ \/ _);exact ⟨λh=>h.elim (λh=>.inr (.inl h)) λh=>h.elim .inl λh=>.inr (.inr h),λh=>h.elim (λh=>.inr (.inl h)) λh=>h.elim .inl λh=>.inr (.inr h)⟩
theorem Yo (hA:At (vG G s t) w) (m:UInt64) (dr:Bool) (X:Ext):iQ X 0 Tryz.prog 76 #[.pointer (some ⟨G.x.b,3,none⟩),fO t.d.n,fO m] w (Gx.mE w (vG G s t) (λ_:Unit=>True) (λ_=>.bool true) λ_=>vG G s (t.Xz m dr)) :=
 TD hA (Jz (aB.comp cP.y9 db.Vr) G.x.b (G.x.rv t.d.n) m 122 w ⟨hA.1.1,λb hb=>hA.2 b (.inl hb)⟩ X 0 (bu _) (λ_ _=>bu _))
theorem acv (hA:At (vG G s t) w) (n m:UInt64) (hx:¬ t.d.n = n) (X:Ext):iQ X 0 Tryz.prog 76 #[.pointer (some ⟨G.x.b,3,none⟩),fO n,fO m] w (Gx.mE w (vG G s t) (λ_:Unit=>True) (λ_=>.bool false) λ_=>vG G s t) :=
 TD hA (Mi (aB.comp cP.y9 db.Vr) G.x.b (G.x.rv t.d.n) n m hx 122 w ⟨hA.1.1,λb hb=>hA.2 b (.inl hb)⟩ X 0 (bu _) (λ_ _=>bu _))
variable [av]
theorem ZG (hP:JX G) (GM:FA G H' t.d) (h:At (vG G s t) w) (hpm:∀ b,(vG G s t).c9 b->fq b):At (HT k s (t.G,H',(ShR G t.d).c9)) w:=by
 obtain⟨h1,h2,h3⟩:=(Ze t w).1 h.1;refine ⟨⟨h1,(hP.sa _ _ _).2 ⟨λb hb=>?_,t.d,GM,h2,λb hb=>hb⟩,λb hb=>hpm b ((uO t b).2 (.inr hb))⟩,λb hb=>h.2 b ((uO t b).2 hb)⟩;obtain⟨o,e,hp⟩:=M4 h2 hb;exact ⟨λo' ho=>by grind,aG e⟩
theorem Zu (hP:JX G) {z:TZ} (h:(HT k s z).A w):∃ d,FA G z.2.1 d /\ ∀ e,(vG G s ⟨z.1,d,e⟩).A w /\ ∀ b,(vG G s ⟨z.1,d,e⟩).c9 b->(HT k s z).c9 b:=by
 obtain⟨h1,h2,h3⟩:=h;obtain⟨h4,d,h5,h6,h7⟩:=(hP.sa _ _ _).1 h2;refine ⟨d,h5,λe=>⟨(Ze _ w).2 ⟨h1,h6,λhb=>?_⟩,λb hb=>((uO _ b).1 hb).imp id (h7 b)⟩⟩;have:=(h4 _ (h7 _ hb)).1 _ h1
 trivial
def M8 (hP:JX G) (hO:DO G) (hk:k < G.cnt) (hsb:av.N0 <= s.sb):FO (Kc Tryz.prog (λv=>∃ m,v = mJ m false) k s) 0 TT (vG G s) fq (IF 147 (ptr s.sb)).v G.x.b (.pointer (some ⟨G.x.p.b,0,none⟩)) (.pointer (some ⟨G.x.q.b,0,none⟩)) G.x.sv.v G.ss where
 n:=λt=>t.e.s.1
 μ:=λt=>xH G.ss - rU G.ss t.e.s.1
 fu:=λt=>1999 - t.e.tn
 R:=λt u=>u.e.s.2 = t.e.s.2 /\ AG G.ss t.e.s.1 u.e.s.1 /\ u.e.ln = t.e.ln /\ u.e.mo = t.e.mo
 Kd:=rq G k
 Hit:=λt dr u=>rq G k t /\ t.d.n = t.e.s.1 /\ (bh t.e.s.1).end_.toNat = 0 /\ ∃ m,Ie G.ss t.e.s.1 dr = m /\ u = t.Xz m dr
 r0:=λ_=>⟨rfl,.inl rfl,rfl,rfl⟩
 tr:=λh h'=>⟨h'.1.trans h.1,h.2.1.trans h'.2.1,h'.2.2.1.trans h.2.2.1,h'.2.2.2.trans h.2.2.2⟩
 mu:=λh=>by have:=h.2.1.cnt; omega
 Z0:=λt w h=>by
  have h0:w.heap[G.x.b]? = some _:=h.1;refine ⟨.inl ?_,.inl ?_,.inl ?_⟩ <;> (simp only [World.cell?,h0]; rfl)
 QD:=λt o w keep hr hf hA hU hUf hkp=>by
  have hlt:=hA.2 _ (.inr (.inl rfl));have hln:=hr.len;have om:=hr.en hk;have hw:=LF (H:=t.G) (k:=k) (n:=t.d.n) (e:=t.e.up) (by omega);refine (KF o ⟨_,rfl⟩ hsb (t.G,t.nx k,(ShR G t.d).c9) ((hP.st _ _ _ _).2 ⟨λj hj=>GV hj,?_,?_⟩) w keep (ZG hP hr.fa hA hU) (λb hb=>hU b ((uO t b).2 hb)) (by omega) λb hb=>⟨(hkp b hb).1,(hkp b hb).2.1,λh=>(hkp b hb).2.2 ((uO t b).2 h)⟩).mono (λ_ h=>h) ?_
  ·show AG G.ss (TB t.G) (TB (t.nx k));rw [TT.nx,hw]; exact hr.le
  ·show (qe (t.nx k) k).tn = (qe t.G k).tn + 1;rw [om,hr.tn]; rfl
  rintro e w' ⟨⟨H,H',F⟩,⟨h1,h2⟩,he,hk',ha,hfoot⟩;obtain rfl:H = H':=h1;obtain⟨d,GM,hd⟩:=Zu hP ha;obtain⟨r1,r2⟩:=(hP.r _ _ _).1 h2;replace r1:qe H k = _:=r1.trans om;obtain⟨a1,a2,a3,a4,a5⟩:=GM.e k hk;rw [r1] at a1 a2 a3 a4 a5;refine ⟨⟨H,d,t.e.up⟩,⟨⟨?_,aL Hc.tn r1,?_⟩,⟨rfl,.inl rfl,rfl,rfl⟩,rfl,rfl,by show 1999 - t.e.tn <= 1999 - (t.e.tn + 1) + 1; omega⟩,he,hk',(hd _).1,λb hb=>hfoot b ((hd _).2 b hb)⟩
  ·refine FA.put hO.g GM hk (.inl ⟨(aL Hc.s r1).symm,rfl⟩) (λ_ _=>rfl) GM.gl (λ_ _=>id) ⟨a1,a2,a3,?_,λ_=>a5 (ra _)⟩;show t.e.tn + 1 + 1 <= 2000;omega
  ·show AG G.ss (TB H) d.n;rw [GM.wd]; exact .inl rfl
 load:=λt w hr hA=>by
  have hp:eK lG w G.x.b 3 t.d.n:=by
   have h0:w.heap[G.x.b]? = some (.cells (cH.cells (G.x.rv t.d.n)).toArray 122 (0,0)):=hA.1.1;intro j u hu
   match j,hu with
   | 0,hu=>simp only [World.cell?,h0]; exact hu
   | j + 1,hu=>simp [lG,Vl] at hu
  obtain⟨hw,hl⟩:=hr.wf hk;obtain⟨a1,a2,a3,a4,a5⟩:=hr.own hk;have hr':rq G k t.see:=hr.put hO.g hk rfl (.inr ⟨_,_,_,rfl,.inl ⟨rfl,rfl⟩⟩) (.inl rfl) (λ_ _=>rfl) hr.fa.gl (λ_=>id) (a1.see hO.g hl hw) a2 a3;exact (E8 G.x.b 3 t.d.n w hp _ 0 (bu _) (λ_ h=>h.elim)).mono (λ_ h=>h.elim) λe w' ⟨h1,h2⟩=>⟨_,⟨hr',⟨rfl,hl,rfl,rfl⟩,hw,rfl⟩,h1,h2.mono (λ_ h=>h.elim),(vG G s t).st w w' (λb hb'=>h2.block b (hA.2 b hb') id) hA.1,λb hb'=>⟨.inl hb',aD (hA.2 b hb') h2.size⟩⟩
 cas:=λt dr w hr hA hwf h1 h2=>by
  by_cases hx:t.d.n = t.e.s.1
  ·obtain⟨m,hm⟩:∃ m,Ie G.ss t.e.s.1 dr = m:=⟨_,rfl⟩;have hc:=Yo hA m dr (Kc Tryz.prog (λv=>∃ m,v = mJ m false) k s);rw [hx] at hc;rw [hm];refine hc.mono (λ_ h=>h) ?_;rintro e w' ⟨_,_,g1,g2,g3,g4⟩;exact ⟨(true,t.Xz m dr),⟨λ_=>⟨⟨hr,hx,T5 hwf h1 h2,m,rfl,rfl⟩,rfl⟩,λe=>by cases e⟩,g1,g2,g3,g4⟩
  ·obtain⟨hw,hl⟩:=hr.wf hk;obtain⟨a1,a2,a3,a4,a5⟩:=hr.own hk;have hr':rq G k t.see:=hr.put hO.g hk rfl (.inr ⟨_,_,_,rfl,.inl ⟨rfl,rfl⟩⟩) (.inl rfl) (λ_ _=>rfl) hr.fa.gl (λ_=>id) (a1.see hO.g hl hw) a2 a3;refine (acv hA _ _ hx _).mono (λ_ h=>h) ?_;rintro e w' ⟨_,_,g1,g2,g3,g4⟩;refine ⟨(false,t.see),⟨λe=>(by cases e),λ_=>⟨hr',⟨rfl,hl,rfl,rfl⟩,?_,rfl⟩⟩,g1,g2,g3,g4⟩;have k5:rU G.ss t.e.s.1 < rU G.ss t.d.n:=by
    rcases hl with hl | ⟨_,hl,_⟩
    ·exact absurd hl.symm hx
    ·exact hl
   have k6:=hw.Wu;show xH G.ss - rU G.ss t.d.n < xH G.ss - rU G.ss t.e.s.1;omega
end
instance {L M:List du} [h:ry L] [k:ry M]:ry (L ++ M):=⟨λq hq=>(bG.1 hq).elim (h.s q) (k.s q)⟩
section
variable {L4 L5 L6:List du} {g:Bool} {op:Op} {t':TypeId} {pos:String} {d:Nat} {x:Operand} {U:Nat->Prop} {r:du}
theorem Ev.xf {n:Nat} {e:TypeId} {i:Int} (ht:P.underlying t = some (.slice e)) (T:jK P e E) (hx:cV F g x v) (hy:cV F g y (I i)) (hs:∃ c cap,v = .slice (some ⟨c,0,none⟩) n cap) (hi:g = true->0 <= i /\ i < n) :
 Ev P K F L g (.indexAddr t x y) ty (kC v (i.toNat * E.size)):=.of rfl (λ_ _ _ _ _ _ _ _ _=>.bind (.indexAt _ _ _) λ_=>.pure _) λhg a G w hw dst pos af gd=>by
 obtain⟨c,cap,rfl⟩:=hs;have hi':=hi hg;have hu:(underlying t).run P w = .ok (.slice e) w:=by simp [underlying,ht]
 simp [execOp,Instr.indexAt,asIntOf,hx.eval hg G,hy.eval hg G,I,hu,hi',Gx.run_sizeOf T,kC,lL]
theorem acy {args:List Operand} {vs:List Value} {L':Y->List du} (h:QR K U kp) (J:Y->Prop) (val:Y->Value) [ry L] (hu:∀ x,mS L r (r' x) (L' x)) (hm:r ∈ L) (om:dV P f) (fQ:lM F true args vs)
 (hC:∀ w,bS K L w->At r w->lN (xP kp L r) r w->iQ K.E.X K.E.fr P f vs.toArray w (qy U (xP kp L r) w J val r')) (next:∀ x,J x->Sat K N ((d,true,val x) :: F) (L' x)) (hd:Nat.blt d K.n = true:=by rfl) :
 Sat K (dw P K ops Q ⟨some d,.call { callee:=.value (.func f),args:=args.toArray,argTypes:=qJ },ty,pos,af,none⟩ N) F L :=
 zH (λw=>qy U (xP kp L r) w J val r') J val L' om fQ (λw I=>hC w I (at_mem hm w I) (pK h I hm)) (λw I b hb=>.inr ((h.m b).2 ⟨hb.1,λhk=>hb.2 (.inl hk)⟩))
  (λw I u w' ⟨x,hJ,he,hk,ha,hf⟩=>⟨x,hJ,by grind,I.Q9 h (hu x) hk ha hf⟩) next hd
theorem Pc {xs:List α} (I:bS K L w) (hr:lC L r L') (h:bY v E xs T ∈ L'):∀ w2,bf (λb=>U b /\ ¬ xP kp L r b) w w2->bU E w2 v xs:=λw2 k=>by
 have h1:=I.perm hr.perm;have h2:=(bC.1 h1.Jj).1 _ h;have h3:=h1.own _ (aF _ h);exact bU.lJ ((bY v E xs T).st w w2 (λb hb=>k.block b (h3.2 b hb).2 λhn=>hn.2 (.inr ⟨_,hr.perm.mem_iff.1 (aF _ h),hb,λhb'=>h2 b hb' hb⟩)) h3.1)
def kpB {w2:World} (k1:bf (λb=>U b /\ ¬ kp b) w0 w) (k2:bf (λb=>U b /\ ¬ xP kp L r b) w w2):bf (λb=>U b /\ ¬ kp b) w0 w2:=k1.trans (k2.mono λb hb=>⟨hb.1,λh=>hb.2 (.inl h)⟩)
theorem MW {r r':du} (hA:∀ w,r.A w->r'.A w) (hf:∀ b,r'.c9 b->r.c9 b) (h:lC L r L') (next:Sat K X F (r' :: L')):Sat K X F L:=λa w G =>
 next a w ⟨G.fo,by
  obtain⟨h1,h2,h3,h4⟩:=G.inv.perm h.perm;rw [bC] at h3;refine ⟨h1,λq hq=>?_,bC.2 ⟨λq hq b hb hb'=>h3.1 q hq b (hf b hb) hb',h3.2⟩,h4⟩
  grind⟩
variable {G:Gt}
theorem Zs (hi:i < G.cnt) (e:u.d.rw i = (o,ls)) (h:lC L (vG G s u) L') (next:Sat K X F (bY o.v gH ls 175 :: pY G.cnt (tx u.d.rw) (· ≠ i) :: bY G.sn.v (dJ aM) (BD G.cnt u.d.rw) 173 :: bY G.gd.v bE u.d.gs 4 :: Ok s u.G :: VRt G u.d.n :: L')):Sat K X F L:=by
 refine oc h (oc (.tail .head) (oc (.tail .head) (oc (.tail .head) (MW (λw=>RS hi) (λb=>(EM hi b).2) (.tail .head) (oc .head ?_)))));have e1:tx u.d.rw i = bY o.v gH ls 175:=by unfold tx; rw [e]
 rw [e1];exact next
theorem Uh {gs:List Bool} {rw rw':Nat->OV × List bD} {os:List OV} (en:Hc) (hi:i < G.cnt) (e1:os = BD G.cnt rw') (e2:rw' i = (o,ls)) (e3:∀ w,(pY G.cnt (tx rw) (· ≠ i)).A w->(pY G.cnt (tx rw') (· ≠ i)).A w) (e4:∀ b,(pY G.cnt (tx rw') (· ≠ i)).c9 b->(pY G.cnt (tx rw) (· ≠ i)).c9 b)
 (h1:lC L (pY G.cnt (tx rw) (· ≠ i)) L1) (h2:lC L1 (bY o.v gH ls 175) L2) (h3:lC L2 (bY G.sn.v (dJ aM) os 173) L3) (h4:lC L3 (bY G.gd.v bE gs 4) L4) (h5:lC L4 (Ok s H) L5) (h6:lC L5 (VRt G n) L6) (next:Sat K X F (vG G s ⟨H,⟨n,gs,rw'⟩,en⟩ :: L6)):Sat K X F L:=by
 subst e1;have e5:bY o.v gH ls 175 = tx rw' i:=by unfold tx; rw [e2]
 rw [e5] at h2;refine MW e3 e4 h1 (mI (.tail h2) .head (MW (λw=>Wt) (λb=>(EM hi b).1) .head (mI (.tail h3) .head (mI (.tail h4) .head (mI (.tail h5) .head (mI (.tail h6) .head next))))))
theorem Zf (h:vG G s u ∈ L) (w:World) (I:bS K L w):bU bE w G.gd.v u.d.gs:=bU.lJ (I.own _ h).1.2.1.2.1.1
theorem Zd (h:bY G.sn.v (dJ aM) (BD G.cnt u.d.rw) 173 ∈ L) (w:World) (I:bS K L w):bU (dJ aM) w G.sn.v (BD G.cnt u.d.rw):=kY h w I
theorem MY (T:jK P t bE) (hi:i < G.cnt) (ZQ:u.d.gs.length = G.cnt) (h:lC L (vG G s u) L') (hx:cV F true x (kC G.gd.v ((i:Int).toNat * bE.size))) (hy:cV F true y (.bool true)) (next:Sat K N F (vG G s ⟨u.G,⟨u.d.n,u.d.gs.set i true,u.d.rw⟩,u.e⟩ :: L')) :
 Sat K (dw P K ops Q ⟨none,.store t x y,ty,pos,af,none⟩ N) F L:=by
 refine Zs hi rfl h (Bx T hx hy (mS.tail (mS.tail (mS.tail mS.head))) ⟨by omega,by omega⟩ ?_);exact Uh u.e hi rfl rfl (λ_=>id) (λ_=>id) (.tail .head) .head .head .head .head .head next
end
theorem RE {l:List Bool} (h:l.getD i false = true):l.set i true = l:=by
 apply eZ
 grind
theorem WV {cnt:Nat} {r:Nat->OV × List bD} (h:k < cnt):(BD cnt r).set (k:Int).toNat o = BD cnt (upd r k (o,l)):=aa3 h
structure Mid (G:Gt) (i:Nat) (bs:List UInt8) (dr:Bool) (k:Nat) (ln:Nat) (mo:UInt64) (u:TT):Prop where
 gl:u.d.gs.length = G.cnt
 gi:u.d.gs.getD i false = true
 le:(u.d.rw i).2.length = ln
 old:k = 1->(∀ b,wQ G.ss u.e.s ((u.d.rw i).2 ++ [⟨mK bs,false,b⟩]) mo) /\ (mK bs < mo->(bh u.e.s.1).end_ = 2)
 new:k ≠ 1->wQ G.ss u.e.s ((u.d.rw i).2 ++ [⟨mK bs,true,dr⟩]) (max mo (mK bs + 1))
 rdy:k = 1->rq G i u /\ mV G.ss u.e.s.1 bs = 1 /\ u.e.ln = ln /\ u.e.mo = mo
 fin:∀ o x mo',wQ G.ss u.e.s ((u.d.rw i).2 ++ [x]) mo'->ln + 1 <= 12->rq G i ⟨u.G,⟨u.d.n,u.d.gs,upd u.d.rw i (o,(u.d.rw i).2 ++ [x])⟩,⟨u.e.s,u.e.tn,ln + 1,mo'⟩⟩
section
variable {G:Gt} {ln:Nat} {mo:UInt64} {t:TT}
theorem Ny (hg:kJ G.ss) (hi:i < G.cnt) (h:rq G i u) (h1:u.e.ln = ln) (h2:u.e.mo = mo) (hw:xW G.ss u.e.s.1) (h3:mV G.ss u.e.s.1 bs = k) (h4:k ≠ 2):Mid G i bs dr k ln mo u:=by
 subst h1 h2;obtain⟨a1,a2,a3,a4,a5⟩:=h.own hi;have hs:=HU (dr:=dr) hg a1 rfl (.inl rfl) hw h3 (λe=>absurd e h4) λ_=>rfl
 exact ⟨h.fa.gl,a5,a2,hs.1,hs.2,λe=>⟨h,h3.trans e,rfl,rfl⟩,λo x mo' Bp hl=>h.put hg hi rfl (.inl ⟨rfl,rfl⟩) (.inl rfl) (λj hj=>by simp only [upd_ne _ _ hj]) h.fa.gl (λ_=>id) (by grind [upd_same]) (by grind [upd_same]) hl⟩
theorem Xj (hg:kJ G.ss) (hi:i < G.cnt) (h:rq G i t) (h1:t.e.ln = ln) (h2:t.e.mo = mo) (hn:t.d.n = t.e.s.1) (h0:(bh t.e.s.1).end_.toNat = 0) (hm:Ie G.ss t.e.s.1 dr = m) (hw:xW G.ss t.e.s.1) (h3:mV G.ss t.e.s.1 bs = 2):Mid G i bs dr 2 ln mo (t.Xz m dr):=by
 subst h1 h2;obtain⟨a1,a2,a3,a4,a5⟩:=h.own hi;have hs:=HU hg a1 rfl (.inl rfl) hw h3 (λ_=>by rw [hm]) λe=>absurd rfl e
 have hle:=AG.next hg hw h0 dr;rw [hm] at hle;refine ⟨h.fa.gl,a5,a2,λe=>(by cases e),hs.2,λe=>(by cases e),λo x mo' Bp hl=>?_⟩;refine h.put (d':=⟨m,t.d.gs,upd t.d.rw i (o,(t.d.rw i).2 ++ [x])⟩) hg hi rfl (.inr ⟨_,_,_,rfl,.inr ⟨t.e.s.1,dr,by rw [hn],h0,by rw [hm],rfl⟩⟩) (hn ▸ hle) (λj hj=>by simp only [upd_ne _ _ hj]) h.fa.gl (λ_=>id) (by simp only [upd_same]; exact Bp) (by grind [upd_same]) hl
variable [av] {hP:JX G} {hO:DO G} {hsb:av.N0 <= s.sb} {hi:i < G.cnt}
theorem SF {r:Nat × TT} (hR:xH G.ss <= 60) (h:aad (M8 hP hO hi hsb) t dr bs r) (ht:t.e.tn <= 1800):Mid G i bs dr r.1 t.e.ln t.e.mo r.2 /\ r.2.e.tn <= t.e.tn + 122:=by
 obtain⟨k,u⟩:=r;obtain⟨t1,⟨h1,h2,h3,h4⟩,h5,h6,h7,h8,h9⟩:=h;have hb:u.e.tn <= t.e.tn + 122:=by
  have h9:1999 - t.e.tn <= 1999 - u.e.tn + 2 * (xH G.ss - rU G.ss t.e.s.1) + 2:=h9;omega
 refine ⟨?_,hb⟩
 by_cases hk:k = 2
 ·subst hk;obtain⟨q1,q2,q3,m,q4,rfl⟩:=h7 rfl;exact Xj hO.g hi q1 h3 h4 q2 q3 q4 h5 h6
 ·obtain⟨rfl,q1⟩:=h8 hk;exact Ny hO.g hi q1 h3 h4 h5 h6 hk
theorem SG {v:TT} (hM:Mid G i bs dr 1 ln mo u) (hlt:mK bs < mo) (hR:(M8 hP hO hi hsb).R u v) (hw:xW G.ss v.e.s.1) (hr:rq G i v) (hf:1999 - u.e.tn <= 1999 - v.e.tn + 1) (hb:u.e.tn <= 1990):Mid G i bs dr 1 ln mo v /\ (bh v.e.s.1).end_ = 2 /\ v.e.tn <= u.e.tn + 1:=by
 obtain⟨h1,h2,h3,h4⟩:=hR;have he:=(hM.old rfl).2 hlt;obtain⟨q1,q2,q3,q4⟩:=hM.rdy rfl;have e:=h2.done (by rw [he]; decide);exact ⟨Ny hO.g hi hr (h3.trans q3) (h4.trans q4) hw (by rw [e]; exact q2) (by decide),by rw [e]; exact he,by omega⟩
theorem rq.st (hP:JX G) (hr:rq G i u) (hi:i < G.cnt) (x:Value):av.St i x u.G (u.nx i):=by
 have hln:=hr.len;refine (hP.st _ _ _ _).2 ⟨λj hj=>GV hj,?_,?_⟩
 ·rw [TT.nx,LF (by omega)]; exact hr.le
 ·rw [hr.en hi,hr.tn]; rfl
theorem aaU {n:Nat} {e0:En} {x:Value} (hP:JX G) (hi:i < G.cnt) (hr:rq G i u) (hm:vG G s u ∈ L) (hN:av.N0 <= w0.heap.size) (hkp:∀ b,kp b->b < w0.heap.size) (w:World) (I:bS ⟨n,w0,λb=>fq b /\ ¬ kp b,e0⟩ L w):qy fq kp w0 (λz:TZ=>av.St i x z.1 z.2.1) (λ_=>.tuple #[]) (HT i s) (.returned (.tuple #[])) w:=by
 have hpm:∀ b,(vG G s u).c9 b->fq b /\ ¬ kp b:=λb hb=>((I.own _ hm).2 b hb).1.elim (λh=>⟨.inl (az hN h),λhk=>by have:=hkp b hk; have h:w0.heap.size <= b:=h; omega⟩) id
 have hA:=ZG (k:=i) hP hr.fa (at_mem hm w I) λb hb=>(hpm b hb).1
 exact ⟨_,hr.st hP hi x,rfl,I.keeps,hA.1,λb hb=>⟨(hpm b ((uO u b).2 hb)).1,(hpm b ((uO u b).2 hb)).2,hA.2 b hb⟩⟩
end
theorem HI {pos:String} {x:Operand} {G:Gt} (T:jK P t bE) (hi:i < G.cnt) (ZQ:u.d.gs.length = G.cnt) (hgi:u.d.gs.getD i false = true) (h:lC L (vG G s u) L') (hx:cV F true x (kC G.gd.v ((i:Int).toNat * bE.size))) (hy:cV F true y (.bool true)) (next:Sat K N F (vG G s u :: L')) :
 Sat K (dw P K ops Q ⟨none,.store t x y,ty,pos,af,none⟩ N) F L:=MY T hi ZQ h hx hy (by rw [RE hgi]; exact next)
theorem EV {xs:List α} {n:Nat} (h:(bY v E xs T).A w) (hn:xs.length = n) (hp:0 < n):∃ c cap,v = .slice (some ⟨c,0,none⟩) n cap:=by
 subst hn
 rcases h.2 with ⟨_,h2⟩ | ⟨g,cap,cur,hv,_⟩
 ·omega
 grind
theorem O5 {G:Gt} (hg:kJ G.ss) {d:SD} (hi:i < G.cnt) (h:FA G H d) (hz:qe H i = ⟨(0,0,0),0,0,0⟩):rq G i ⟨H,⟨d.n,d.gs.set i true,d.rw⟩,⟨(0,0,0),0,0,0⟩⟩:=by
 obtain⟨a1,a2,a3,a4,a5⟩:=h.e i hi;rw [hz] at a1 a2;have ZQ:=h.gl;refine ⟨FA.put (d':=⟨d.n,_,d.rw⟩) (e:=Hc.up ⟨_,0,0,0⟩) hg h hi (.inl ⟨by rw [hz]; rfl,rfl⟩) (λ_ _=>rfl) (by grind) (λj hj hb=>?_) ⟨a1,a2,by decide,by decide,λ_=>?_⟩,by rw [hz],.inl h.wd⟩
 ·grind
 grind
def z62:zI 62 gC:=kI
def aiC:ot 37 (dJ dB):=oq
def aak:zI 175 gH:=kI
def aeb:DV 175 gH 16:=kB
def ad2:Eo gH:=Hk _
theorem XV [av] (G:Gt) (hP:JX G) (hO:DO G) (i:Nat) (s:aC) (hi:i < G.cnt) (hsb:av.N0 <= s.sb) (p1 p2 p3 p4 p5:Nat) (H0:Gh) (d:SD) (GM:FA G H0 d) (hz:qe H0 i = ⟨(0,0,0),0,0,0⟩) (kp:Nat->Prop) (w:World) (hA:At (vG G s ⟨H0,d,⟨(0,0,0),0,0,0⟩⟩) w) (Hl:lN kp (vG G s ⟨H0,d,⟨(0,0,0),0,0,0⟩⟩) w) (hpm:∀ b,(vG G s ⟨H0,d,⟨(0,0,0),0,0,0⟩⟩).c9 b->fq b) (H:∀ w',bf (λb=>fq b /\ ¬ kp b) w w'->ME w' G i p1 p2 p3 p4 p5) (xo:Value):iQ (Kc Tryz.prog (λv=>∃ m,v = mJ m false) i s) 0 Tryz.prog 56 #[(IF 147 (ptr s.sb)).v,.pointer (some ⟨p1,0,none⟩),.pointer (some ⟨p2,0,none⟩),.pointer (some ⟨p3,0,none⟩),.pointer (some ⟨p4,0,none⟩),.pointer (some ⟨p5,0,none⟩)] w (qy fq kp w (λz:TZ=>av.St i xo z.1 z.2.1) (λ_=>.tuple #[]) (HT i s)):=by
 have hG:=H w (.refl _ _);have hrl:=(hG.row i (by have:=hG.lt; have:=hG.len; omega)).le;have hN:=Nat.le_of_lt (Nat.lt_of_le_of_lt hsb (hA.2 _ (.inr (.inl rfl))));have hUf:∀ b,w.heap.size <= b->fq b:=λb h=>.inl (az hN h)
 have hgs:=EV hA.1.2.1.2.1.1 GM.gl (by omega);have hss:=EV hA.1.2.1.2.1.2.1.1 (show (BD G.cnt d.rw).length = G.cnt by simp [BD]) (by omega);refine wM 120 _ Tryz.func56 rfl rfl (aT rfl) (bu _) (λ_ _=>bu _) (λok=>zX hA hpm Hl _ ok) ?_;refine sg (co (Ev.to (v':=G.gd.v) (Ev.load Kl aa (jJ (λw I=>(H w I.keeps).g1) (aB.id _))) (rfl)) ?_);refine m230 ?_;refine co (Ev.xf Y91 x6 aa aa hgs (λ_=>zo)) ?_;refine cons (MY x6 hi GM.gl zr aa (.c rfl) ?_);refine m306 ?_;refine m200 ?_;refine m136 ?_;refine nP (block (lp (X:=Int × TT) (λx=>(0 <= x.1 /\ x.1 <= (G.row i).length) /\ (rq G i x.2) /\ ((x.2.e.ln:Int) = x.1) /\ ((x.2.e.tn:Int) <= 123 * x.1)) (λx=>[dz,(0,true,(IF 147 _).v),(1,true,jc p1),(2,true,jc p2),(3,true,jc p3),(4,true,jc p4),(5,true,jc p5),(7,true,fO x.2.e.mo),(8,true,I x.1)]) (λx=>[vG G s x.2]) (λx=>((G.row i).length - x.1).toNat) (0,(⟨H0,⟨d.n,d.gs.set i true,d.rw⟩,⟨_,0,0,0⟩⟩:TT)) ⟨?_,?_,?_,?_⟩ (λx hx=>?_)))
 ·omega
 ·exact O5 hO.g hi GM hz
 ·rfl
 ·simp
 obtain⟨k,t⟩:=x;dsimp only at hx;obtain⟨hk,ht,htl,hft⟩:=hx;refine m18 ?_;refine m106 ?_;refine co (Ev.indexAddr UR Bl aa aa (λw I=>(H w I.keeps).rows) (λ_=>by have:=hG.len; omega)) ?_;refine co (Ev.to (v':=(G.VC.getD i aM).v) (Ev.eT Bl aa (λw I=>(H w I.keeps).rows) (λ_=>by have:=hG.len; omega)) (by rfl)) ?_;refine co (Ev.len Y49 aa (λw I=>(H w I.keeps).row i (by have:=hG.len; omega))) ?_;refine m311 ?_;refine ig rfl (λhlt=>?_) (λhge=>?_)
 ·refine m58 ?_;refine seq ?_;obtain⟨xh,hxh⟩:∃ z,(G.row i).getD k.toNat gC.zero = z:=⟨_,rfl⟩;obtain⟨dt,hdt⟩:∃ z,G.J8 i k.toNat = z:=⟨_,rfl⟩;obtain⟨bs,hbs⟩:∃ z,mL (mD xh.h) (Br xh.h dt) = z:=⟨_,rfl⟩;have h12:=hO.xQ i;refine region ?_;refine m106 ?_;refine co (Ev.indexAddr UR Bl aa aa (λw I=>(H w I.keeps).rows) (λ_=>by have:=hG.len; omega)) ?_;refine co (Ev.to (v':=(G.VC.getD i aM).v) (Ev.eT Bl aa (λw I=>(H w I.keeps).rows) (λ_=>by have:=hG.len; omega)) (by rfl)) ?_;refine mv rfl (co (Ev.indexAddr Y49 V6 aa aa (λw I=>(H w I.keeps).row i (by have:=hG.len; omega)) (λ_=>zo)) ?_);refine co (Ev.to (Ev.eT V6 aa (λw I=>(H w I.keeps).row i (by have:=hG.len; omega)) (λ_=>zo)) (aL gC.val hxh)) ?_;refine cons (alloc z62 (λb1=>?_));refine cons (j8 V6 (aB.id _) aa aa ?_);refine m306 ?_;refine cf 2 rfl ?_;refine co (Ev.gS rm aa cZ.l_h) ?_;refine cons (iP _ _ _ eN (o1 rfl) (λw I=>Ww xh.h dt w (hxh ▸ hdt ▸ (H w I.keeps).J8 i k.toNat (by have:=hG.len; omega) (by omega))) (λx1 _=>?_));refine cons (alloc QB (λb2=>?_));refine m74 ?_;refine nP ?_;refine m69 ?_;refine cons (iP _ _ _ eN (o1 rfl) (λw I=>SM xh.h dt x1 bs w (io w I) hbs) (λx2 _=>?_));refine m5 ?_;refine m41 ?_;refine seq ?_;obtain⟨dr,hdr⟩:∃ z,T8 G.l2 G.d2 xh.ta bs = z:=⟨_,rfl⟩;refine m213 ?_;refine mv rfl ?_;refine m289 ?_;refine co (Ev.gS l9 aa cZ.rF) ?_;refine mv rfl (co (Ev.fe (places:=[(0,1),(1,1),(2,1)]) aeg rfl ag2 zk (.cons aa (.cons aa .nil)) (bB.cons mU.rF rfl (bB.cons mU.wz rfl bB.nil))) ?_)
  refine cons (acy (Y:=Nat × TT) (r:=vG G s t) (ZD Hl) _ (λr=>.tuple #[dK.val (if r.1 = 1 then pV G.l1 G.d1 xh.ta bs else pV G.l2 G.d2 xh.ta bs),.bool (decide (r.1 ≠ 1)),I 0]) (λ_=>zu) zm eN (o3 rfl rfl rfl) (λw I hA hk=>Ni G.x G.l1 G.l2 G.d1 G.d2 G.ss (M8 hP hO hi hsb) t ht (show 2 * (xH G.ss - rU G.ss t.e.s.1) + 2 <= 1999 - t.e.tn from by have:=hO.Wu; omega) dr ⟨0,xh.ta,x2⟩ bs _ w (bu _) (λ_ _=>bu _) hA (λb hb=>((I.own _ (show vG G s t ∈ _ from zm)).2 b hb).1.elim (hUf b) (·.1)) (λb hb=>hUf b (az I.keeps.size hb)) hk (λw2 k2=>(H w2 (kpB I.keeps k2)).aeW) (Pc (v:=x2.v) I zr zm) hO.p hO.q (by have:=hO.g.l; omega) (hbs ▸ aa2 _ _) hdr) (λr hr=>?_));refine m293 ?_;refine alloc vH (λb3=>?_);refine m75 ?_;refine m41 ?_;refine seq ?_;obtain⟨hm,hmt⟩:=SF hO.Wu hr (by omega);refine region (co (Ev.gS rm aa (aB.id _)) ?_);refine cons (dg eN (o1 rfl) (λw I=>Oc.CM _ w) ?_);refine cons (dg eN (o1 rfl) (λw I=>Gl _ _ w (hbs ▸ Sj xh.h dt x1)) ?_);refine vK rfl (nP (cut (λx=>(Mid G i bs dr r.1 t.e.ln t.e.mo x) /\ (x.e.tn <= t.e.tn + 123)) (λx=>[dz,(0,true,(IF 147 (ptr s.sb)).v),(1,true,jc p1),(2,true,jc p2),(3,true,jc p3),(4,true,jc p4),(5,true,jc p5),(7,true,fO t.e.mo),(8,true,I k),(13,true,jc b3),(14,true,.bool (decide (r.1 ≠ 1))),(15,true,I 0),(16,true,fO (mK bs))]) (λx=>[Var b3 dK (if r.1 = 1 then pV G.l1 G.d1 xh.ta bs else pV G.l2 G.d2 xh.ta bs) 102,vG G s x]) ?_ (λx hx=>?_)))
  ·refine m1 ?_;refine co (Ev.not aa) ?_;refine mv rfl (cg rfl rfl (Ev.to (Ev.move aa) (rfl)) ?_);refine m65 ?_;refine m228 ?_;refine m16 ?_;refine nP ?_;refine ig rfl (λh1=>?_) (λh1=>?_)
   ·refine seq ?_;have e1:r.1 = 1:=by simpa using h1.1
    have ajz:=h1.2;have hm1:=e1 ▸ hm;refine m213 ?_;refine m26 ?_;refine Bd (X:=TT) (r:=vG G s r.2) (r':=λv=>vG G s v) (ZD Hl) _ (λv=>.tuple #[.bool (decide (¬ (bh v.e.s.1).end_ = 0)),.bool (decide ((bh v.e.s.1).end_ = 1)),I 0]) (λ_=>zu) zm eN (o2 rfl rfl) (λw kp2 I hA hk=>Gn (M8 hP hO hi hsb) r.2 (hm1.rdy rfl).1 (show 0 < 1999 - r.2.e.tn from by omega) _ w (bu _) (λ_ _=>bu _) hA (λb hb=>((I.own _ (show vG G s r.2 ∈ _ from zm)).2 b hb).1.elim (hUf b) (·.1)) (λb hb=>hUf b (az I.keeps.size hb)) hk) (λv hv=>?_);refine m112 ?_;refine m242 ?_;refine m41 ?_;obtain⟨hv1,QF,hv3⟩:=SG hm1 ajz hv.1 hv.2.1 hv.2.2.1 hv.2.2.2 (by omega);refine draw [vG G s v] zk ?_;refine m29 ?_;refine tk 5 rfl (Ev.to (Ev.eT x6 aa (Zf zm) (λ_=>by have:=hv1.gl; omega)) (aL Value.bool hv1.gi)) ?_;refine m312 ?_;refine jl 7 rfl rfl rfl (Ev.move aa) ?_;refine tk 8 rfl (Ev.D2 aa rfl) ?_;refine tm 9 rfl rfl ?_;refine jl 10 rfl rfl rfl (Ev.move aa) ?_;refine jl 11 rfl rfl rfl (Ev.not (.g rfl id)) ?_;refine tk 12 rfl (Ev.to (v':=.bool true) (Ev.D2 aa rfl) (aL Value.bool (by simp [QF]))) ?_;refine tk 13 rfl (Ev.xf Y91 x6 aa aa hgs (λ_=>zo)) ?_;refine fB 14 rfl (HI x6 hi hv1.gl hv1.gi zr aa aa ?_);refine xi (D3 (pN (Xd (_) ⟨?_,?_⟩)))
    ·try dsimp only
     first | exact hm | exact e1.symm ▸ hv1
    ·try dsimp only
     omega
   ·refine skip (pN (Xd (_) ⟨?_,?_⟩))
    ·try dsimp only
     first | exact hm | exact e1.symm ▸ hv1
    ·try dsimp only
     omega
  obtain⟨u,rfl⟩:∃ y,y = x:=⟨x,rfl⟩;obtain⟨hM,hut⟩:(Mid G i bs dr r.1 t.e.ln t.e.mo u) /\ (u.e.tn <= t.e.tn + 123):=hx;refine cut (λx=>(wQ G.ss u.e.s ((u.d.rw i).2 ++ [⟨mK bs,decide (r.1 ≠ 1),decide (¬ (if r.1 = 1 then pV G.l1 G.d1 xh.ta bs else pV G.l2 G.d2 xh.ta bs).action = 3)⟩]) x)) (λx=>[dz,(0,true,(IF 147 (ptr s.sb)).v),(1,true,jc p1),(2,true,jc p2),(3,true,jc p3),(4,true,jc p4),(5,true,jc p5),(7,true,fO x),(8,true,I k),(13,true,jc b3),(14,true,.bool (decide (r.1 ≠ 1))),(15,true,I 0),(16,true,fO (mK bs))]) (λx=>[Var b3 dK (if r.1 = 1 then pV G.l1 G.d1 xh.ta bs else pV G.l2 G.d2 xh.ta bs) 102,vG G s u]) ?_ (λx hx=>?_)
  ·refine m1 ?_;refine nP ?_;refine ig rfl (λh2=>?_) (λh2=>?_)
   ·refine m95 ?_;refine m132 ?_;refine co (Ev.Xl aa aa) ?_;refine m0 ?_;refine Xd (_) ?_
    ·exact s25
   ·refine m23 ?_;refine Xd (_) ?_
    ·exact s25
  obtain⟨m2,rfl⟩:∃ y,y = x:=⟨x,rfl⟩;have hm2:=hx;clear hx;refine seq (draw [vG G s u] zk ?_);refine m29 ?_;refine tk 5 rfl (Ev.to (Ev.eT x6 aa (Zf zm) (λ_=>by have:=hM.gl; omega)) (aL Value.bool hM.gi)) ?_;refine m312 ?_;refine jl 7 rfl rfl rfl (Ev.move aa) ?_;refine jl 8 rfl rfl rfl (Ev.xS (.g rfl id) (.c rfl)) ?_;refine tk 9 rfl (Ev.to (v':=.bool true) (Ev.D2 aa rfl) (rfl)) ?_;refine tk 10 rfl (Ev.xf Y91 x6 aa aa hgs (λ_=>zo)) ?_;refine fB 11 rfl (HI x6 hi hM.gl hM.gi zr aa aa ?_);refine m44 ?_;obtain⟨⟨o,ls⟩,hro⟩:∃ z,u.d.rw i = z:=⟨_,rfl⟩;have hll:ls.length = t.e.ln:=by have:=hM.le; rwa [hro] at this
  have hol:(BD G.cnt u.d.rw).length = G.cnt:=by simp [BD]
  refine Zs hi hro zr ?_;refine draw [Var b3 dK (if r.1 = 1 then pV G.l1 G.d1 xh.ta bs else pV G.l2 G.d2 xh.ta bs) 102] zk ?_;refine tk 0 rfl (Ev.to (v':=G.sn.v) (Ev.load OG aa (jJ (λw I=>(H w I.keeps).g5) (aB.id _))) (rfl)) ?_;refine m218 ?_;refine tk 2 rfl (Ev.to (v':=G.sn.v) (Ev.load OG aa (jJ (λw I=>(H w I.keeps).g5) (aB.id _))) (rfl)) ?_;refine m217 ?_;refine tk 4 rfl (Ev.xf Y90 AK aa aa hss (λ_=>zo)) ?_;refine m150 ?_;refine tk 8 rfl (fA 0 aa) ?_;refine tk 9 rfl (Ev.gS l9 aa bA.ku) ?_;refine tk 10 rfl (Ev.AY aa (.c rfl)) ?_;refine tk 11 rfl (Ev.fe (places:=[(0,1),(1,1),(2,1)]) aak rfl Tryz.underlying175 zk (.cons aa (.cons aa (.cons aa .nil))) (bB.cons bD.S0 rfl (bB.cons bD.xO rfl (bB.cons bD.j5 rfl bB.nil)))) ?_;refine all [5,12] zk (by decide) (.cons rfl ?_ (.cons rfl ?_ .nil))
  ·refine (BF (Ev.to (v':=o.v) (Ev.eT AK aa (Zd (by repeat first | exact mH | apply mT | apply mA)) (λ_=>by omega)) (by rw [eg]; show ((BD G.cnt u.d.rw).getD i aM).v = o.v; rw [Sk hi,hro])) ?_);refine m264 ?_;refine buildSlice UT MQ aak (.cons aa .nil) rfl rfl (λv4=>?_);exact s12
  ·refine (buildSlice UT MQ aak (.cons aa .nil) rfl rfl (λv6=>?_));refine xi (fB 5 rfl ((BF (Ev.to (v':=o.v) (Ev.eT AK aa (Zd (by repeat first | exact mH | apply mT | apply mA)) (λ_=>by omega)) (by rw [eg]; show ((BD G.cnt u.d.rw).getD i aM).v = o.v; rw [Sk hi,hro])) ?_)));exact s12
 ·refine m97 ?_;refine zA rfl .nil (λw I=>?_);exact aaU hP hi ht zm hN (λb hb=>(Hl b hb).1) w I
theorem RY:∀ l:List OV,(dJ iG).row l = l.map OV.v
 | []=>rfl
 | x :: l=>by rw [dq,<- RY l]; rfl
def RJ:Bool->Value->Prop:=λb v=>∃ m,v = mJ m b
def Cc (G:Gt) (F0:Nat->Prop) (C:Nat) (tv:Nat->Value):xX where
 n:=G.cnt
 F0:=F0
 G0:=ZY G.cnt
 C:=C
 tv:=tv
 SA:=SAT G
 St:=StT G.ss
 R:=RT G.ss
 rr:=λ_ _=>⟨rfl,.inl rfl⟩
 rs:=λh hk hs=>⟨(hs.1 _ (cN hk)).trans h.1,h.2.trans hs.2.1⟩
 loc:=Wr
 iL:=λh hb=>h.1 _ hb
 up:=λ⟨_,d,h2,h3,h4⟩ hF h=>⟨h,d,h2,h3,λb hb=>hF b (h4 b hb)⟩
def IvT (cnt:Nat):YK:=λ_ H tl fl _=>tl.length + fl.length = g7 (λk=>(qe H k).tn) cnt /\ (∀ k,k < fl.length->0 < (qe H k).tn) /\ fl.length <= cnt
theorem IE {x:Value} (h:StT ss k x H H') {B:Nat} (hk:k < B):g7 (λk=>(qe H' k).tn) B = g7 (λk=>(qe H k).tn) B + 1 :=
 yP (f:=λk=>(qe H k).tn) (g:=λk=>(qe H' k).tn) (i:=k) (a:=1) (by show (qe H' k).tn = 1 + (qe H k).tn; rw [h.2.2,kK]) (λj hj=>by show (qe H' j).tn = (qe H j).tn; rw [h.1 j hj]) hk
theorem StT.pos {j:Nat} {x:Value} (h:StT ss k x H H') (hj:j ≠ k->0 < (qe H j).tn):0 < (qe H' j).tn:=by
 by_cases e:j = k
 ·subst e; rw [h.2.2]; omega
 ·rw [h.1 j e]; omega
theorem abz {G:Gt} (h6:G.cnt <= 6) (N0:Nat) (Sn:Loc->Prop) (W1:World) (h:∀ k,k < G.cnt->Has C k (tv k) W1):@Ek ((Cc G F0 C tv).at N0 Sn W1 h) RJ (IvT G.cnt) :=
 letI:av:=(Cc G F0 C tv).at N0 Sn W1 h
 { start:=λms=>⟨by
  have e:∀ B,g7 (λk=>(qe (ZY G.cnt) k).tn) B = 0:=λB=>by
   rw [oO (g:=λ_=>0) λk _=>by rw [X2],ni,Nat.mul_zero]
  exact (e _).symm,λk hk=>absurd hk (eC _),bu _⟩
   hire:=λ{H H' fl ms b m} ⟨h1,h2,h3⟩ hl _ hs=>by
    have hl:fl.length < G.cnt:=hl;have hs:StT G.ss fl.length (mJ m b) H H':=hs;refine ⟨?_,λk hk=>hs.pos λe=>h2 k ?_,by grind⟩
    ·grind [IE]
    grind
   skip:=λh _=>h
   uf:=λ{aq H H' tl fl ms b m i} ⟨h1,h2,h3⟩ hi hl _ _ hs=>by
    have hs:StT G.ss i.toNat (mJ m b) H H':=hs;have e:(fl.set i.toNat (if b then 0 else 1)).length = fl.length:=by simp
    refine ⟨?_,λk hk=>hs.pos λ_=>h2 k (by omega),by rwa [e]⟩
    grind [IE]
   xQ:=λ{aq H F tl fl ms v} ⟨h1,_,_⟩ hsa=>by
    obtain⟨_,d,GM,_⟩:SAT G H F v:=hsa;have:=tB λk hk=>(GM.e k hk).2.2.2.1
    rw [ni] at this;omega }
theorem OI {G:Gt} (hO:DO G) {N0:Nat} {Sn:Loc->Prop} {W1:World} (h:∀ k,k < G.cnt->Has C k (tv k) W1) {V0:World} (hu:u0.heap.size <= N0) (hV:bf fX u0 V0) (hi:i < G.cnt) {p1 p2 p3 p4 p5:Nat} (H:∀ w',bf F0 u0 w'->ME w' G i p1 p2 p3 p4 p5) :
 @wP ((Cc G F0 C tv).at N0 Sn W1 h) RJ V0 i 56 #[.pointer (some ⟨p1,0,none⟩),.pointer (some ⟨p2,0,none⟩),.pointer (some ⟨p3,0,none⟩),.pointer (some ⟨p4,0,none⟩),.pointer (some ⟨p5,0,none⟩)]:=by
 letI:av:=(Cc G F0 C tv).at N0 Sn W1 h;have hP:JX G:=⟨λ_ _ _=>.rfl,λ_ _ _ _=>.rfl,λ_ _ _=>.rfl⟩;intro s zt kp u hsb h1 h2 hV2 hA hk;obtain⟨H0,H1,F⟩:=zt;obtain rfl:H0 = H1:=h1;obtain⟨d,GM,hd⟩:=Zu hP hA.1;have hz:qe H0 i = ⟨_,0,0,0⟩:=(((hP.r _ _ _).1 h2).1).trans (X2 _ _);exact XV G hP hO i s hi hsb p1 p2 p3 p4 p5 H0 d GM hz kp u ⟨(hd _).1,λb hb=>hA.2 b ((hd _).2 b hb)⟩ (λb hb=>⟨(hk b hb).1,(hk b hb).2.1,λh=>(hk b hb).2.2 ((hd _).2 b h)⟩) (λb hb=>((hd _).2 b hb).elim (λe=>.inl (e ▸ hsb)) (hA.1.2.2 b))
  (λw' k=>H w' ((((hV.mono λ_ h=>h.elim).trans' hV2 λb hb hp=>hp.elim (λh=>by have h:N0 <= b:=h; omega) id).trans' k λb hb hp=>hp.1.elim (λh=>by have h:N0 <= b:=h; omega) id))) _
structure TY where
 d:SD
 p:fU
structure TY.J (G:Gt) (y:TY):Prop where
 h:Oq G.ss y.d.n G.cnt λk=>(y.d.rw k).2
 g:y.d.gs = List.replicate G.cnt true
 le:∀ k,k < G.cnt->(y.d.rw k).2.length <= 12
 c:y.p.cut = aM
theorem Sd {G:Gt} (hg:kJ G.ss) {xs:List Int} {v:World} {p:fU} {rp:Nat} (h:xu (Cc G F0 C tv) (IvT G.cnt) xs u0 p rp v) :
 ∃ d,TY.J G ⟨d,p⟩ /\ bf F0 u0 v /\ (ShR G d).A v /\ ∀ b,(ShR G d).c9 b->(F0 b \/ u0.heap.size <= b) /\ b < v.heap.size:=by
 obtain⟨aq,H,F,tl,fl,ms,⟨_,h2,_⟩,hl,_,_,hc,_,I⟩:=h;obtain⟨hsa,hf⟩:=I.own ((Cc G F0 C tv).res H F) (by simp);obtain⟨_,d,GM,hA,hF⟩:SAT G H F v:=hsa;refine ⟨d,⟨GM.hold hg,?_,λk hk=>by obtain⟨_,a,b,_⟩:=GM.e k hk; grind,hc⟩,I.keeps,hA,λb hb=>?_⟩
 ·apply lB
  ·rw [lf]; exact GM.gl
  ·intro k hk hk';have hk2:k < G.cnt:=by simpa using hk'
   have:=(GM.e k hk2).2.2.2.2 (h2 k (by rw [hl]; exact hk2))
   grind
 ·obtain⟨a,b'⟩:=hf b (hF b hb);exact ⟨a.elim .inr .inl,b'⟩
def RI (cnt:Nat):SD:=⟨0,List.replicate cnt false,λ_=>(aM,[])⟩
def Yp (z:PX) (i:Nat):List Value:=z.cap (z.ks.getD (z.ks.length - 1 - i) 0)
section
variable {pos:String} {d:Nat} {op op2:Operand}
theorem aiH {G:Gt} (h1:lC L (bY G.sn.v (dJ aM) (List.replicate G.cnt aM) 173) L1) (h2:lC L1 (bY G.gd.v bE (List.replicate G.cnt bE.zero) 4) L2) (h3:lC L2 (Var G.x.b cH (G.x.rv 0) 122) L3) (next:Sat K X F (ShR G (RI G.cnt) :: L3)):Sat K X F L:=by
 have e:List.replicate G.cnt aM = BD G.cnt (RI G.cnt).rw:=by
  apply eZ;intro j;simp only [BD,RI,na,nc,List.getElem?_range];split <;> rename_i h <;> simp [h]
 rw [e] at h1;refine MW (r':=Sep _ (pY G.cnt (tx (RI G.cnt).rw) λ_=>True)) (λw h=>⟨h,⟨λk _ _=>⟨rfl,.inl ⟨rfl,rfl⟩⟩,λj k _ _ _ _ _ b hb=>by cases hb⟩,λb _ ⟨k,_,_,hb⟩=>by cases hb⟩) (λb hb=>hb.elim id λ⟨k,_,_,hb⟩=>by cases hb) h1 (mI (.tail h2) .head (mI (.tail h3) .head next))
theorem Uq (hX:K.E.X = XPl) (uK:K.E.fr = 0) {z:PX} {G:Gt} {xs:List Int} {ou:Value} {L':TY->List du} (h0:0 < G.cnt) (h6:G.cnt <= 6) (va:cV F true op ou) (hx2:cV F true op2 z.run.v) (hO:DO G) (hk:z.ks.length = G.cnt) (hxl:xs.length <= 16384)
 (hr:lC L (ShR G (RI G.cnt)) L1) (hm:bY z.run.v (dJ iG) (zi z.cap z.ks) 64 ∈ L1) (hu:∀ y,mS L (ShR G (RI G.cnt)) (ShR G y.d) (L' y))
 (ho:∀ w,bS K L1 w->bU iE w ou xs) (hA:∀ w,bS K L1 w->∀ i,i < G.cnt->ME w G i z.g (z.ks.getD (z.ks.length - 1 - i) 0) z.d z.r z.s)
 (next:∀ y:TY,y.J G->Sat K N ((d,true,.tuple #[iN.val y.p,I 0]) :: F) (L' y)) (hd:Nat.blt d K.n = true:=by rfl) :
 Sat K (dw Tryz.prog K ops Q ⟨some d,.call { callee:=.value (.func 15),args:=#[op,op2],argTypes:=qJ },ty,pos,af,none⟩ N) F L:=by
 refine zH (X:=TY) (λw=>Gx.mE w (ShR G (RI G.cnt)) (TY.J G) (λy=>.tuple #[iN.val y.p,I 0]) λy=>ShR G y.d) (TY.J G) _ L' (dV.mk' zk) (.cons va (.cons hx2 .nil)) (λw I=>?_) (λw I b hb=>((I.own _ (hu ⟨RI G.cnt,fU.mk aM aM⟩).mem).2 b hb).1)
  (λw I u w' ⟨y,hJ,he,hkp,ha,hf⟩=>⟨y,hJ,by grind,I.upd (hu y) hkp ha hf⟩) next hd
 rw [hX,uK];show iQ XPl 0 Tryz.prog 15 #[ou,z.run.v] w _;refine WJ λv1 BP nv=>?_
 have hgv:=I.grow (bf.eA BP);have hp:=hgv.perm hr.perm;have hml:bY z.run.v (dJ iG) (zi z.cap z.ks) 64 ∈ ShR G (RI G.cnt) :: L1:=by grind
 obtain⟨ZL,IH⟩:=(hp.own _ hml).1;have hlen:(zi z.cap z.ks).length = G.cnt:=(I3 _ _).trans hk;rw [hlen] at IH
 rcases IH with ⟨_,h⟩ | ⟨gb,cp,cur,hv,_,hh,h1,h2,h3,h4⟩
 ·omega
 have abP:=(bC.1 hp.Jj).1 _ hm;have hrun:∀ i,i < G.cnt->(zi z.cap z.ks).getD i iG = Bb 56 (Yp z i):=λi hi=>by
  rw [BS]; simp [cE,hk,hi,Yp]
 have hrow:∀ i,i < G.cnt->(dJ iG).row _ = (zi z.cap z.ks).map OV.v:=λi _=>RY _
 have hcell:∀ i,i < G.cnt->v1.cell? ⟨gb,i,none⟩ = some _:=λi hi=>by
  have h5:(cur.toList.take (G.cnt * (dJ iG).size))[i]? = some (Bb 56 (Yp z i)).v:=by
   rw [h4,hrow i hi,nc];have:=hrun i hi;rw [cE] at this;cases e:(zi z.cap z.ks)[i]? with
   | none=>rw [List.getElem?_eq_none_iff] at e; omega
   | some o=>rw [e] at this; exact aL (λo:OV=>some o.v) this
  rw [fD] at h5;split at h5
  ·simp only [World.cell?,hh]
   simpa using h5
  ·cases h5
 obtain⟨hsh,hsf⟩:=hp.own _ ah;have hkv:∀ w',bf _ v1 w'->bS K L1 w':=λw' k=>hgv.JE hr k
 have hnope:∀ {w'},bf fX v1 w'->bf (ShR G (RI G.cnt)).c9 v1 w':=λk=>k.mono λ_ h=>h.elim
 refine ⟨Cc G (ShR G (RI G.cnt)).c9 gb (λi=>(Bb 56 (Yp z i)).v),RJ,IvT G.cnt,xs,zi z.cap z.ks,⟨h0,by show G.cnt <= 16; omega,hlen,hxl,λw' k=>ho w' (hkv w' k),λw' k=>kY hm w' (hkv w' k),λw' k=>QW _ _ w' (kY hm w' (hkv w' (hnope k))) (by simp [BS,LM]) (by omega),?_,hcell,λhb=>abP gb hb (show z.run.v.ownBlock = some gb by rw [hv]; rfl),λo ho=>by have ho:v1.heap[gb]? = some o:=ho; rw [hh] at ho; cases ho; rfl,λb v h=>h,⟨⟨0,0⟩,rfl⟩,λN0 Sn W1 h=>abz h6 N0 Sn W1 h,λN0 Sn W1 h V0 hu hN hV i hi=>?_⟩,λp rp v' Xy Bq=>?_⟩
 ·exact ⟨λb hb=>by
   obtain⟨o,e,hp'⟩:=M4 hsh hb;exact ⟨λo' ho=>by grind,aG e⟩,_,FA.start hO.g hO.pos,hsh,λb hb=>hb⟩
 ·refine ⟨56,_,by rw [show (dJ iG).zero = iG from rfl,hrun i hi]; rfl,dV.mk' (by rfl),OI hO h hu hV hi λw' k=>hA w' (hkv w' k) i hi⟩
 ·obtain⟨y,hJ,hk2,ha,hf⟩:=Sd hO.g Bq;have hsz:=BP.size;refine ⟨_,hJ,rfl,((bf.eA BP).mono λ_ h=>h.elim).trans' hk2 λb _ h=>h,ha,λb hb=>⟨(hf b hb).1.imp id λh=>by omega,(hf b hb).2⟩⟩
end
theorem X7 {J8:Nat->Nat->List UInt8} (h:∀ k j,k < us.length->j < (rows k).length->bU iO w ((rows k).getD j gC.zero).h.data.v (J8 k j)) (hJ:YP us rows xs):∀ k j,k < xs.length->j < (GW us rows k).length->bU iO w ((GW us rows k).getD j gC.zero).h.data.v (J8 k j):=λk j hk hj=>by
 unfold GW at hj ⊢
 by_cases h0:us.length = 0
 ·grind
 ·rw [if_neg h0] at hj ⊢;rw [dC] at hj;have e:((rows k).take 12).getD j gC.zero = (rows k).getD j gC.zero:=by
   rw [cE,fD,if_pos (by omega),<- cE]
  rw [e];exact h k j (aD hk (hJ.le h0)) (by omega)
theorem R2 (h1:ss.length <= 10) (h2:∀ q ∈ ss,q.wait.toNat <= 6):xH ss <= 60:=by
 have h:g7 (wt ss) ss.length <= g7 _ ss.length:=tB λk hk=>by
  show (ss.getD k da.zero).wait.toNat <= 6;rw [cE,bW hk];exact h2 _ (oa hk)
 rw [ni] at h;show g7 (wt ss) ss.length <= 60;omega
theorem RQ {G:Gt} {y:TY} (hJ:y.J G) (h:(RsG G y.d.gs y.d.rw).A w) {u:Value} (hu:bU da w u G.ss):U9 w u G.sn.v G.gd.v G.ss G.cnt (BD G.cnt y.d.rw) λk=>(y.d.rw k).2 :=
 ⟨hu,bU.lJ h.2.1.1,λk hk=>by
  have hk:k < G.cnt:=by simpa [BD] using hk
  rw [Sk hk];exact bU.lJ (h.2.1.2.1.1 k hk trivial),hJ.g ▸ bU.lJ h.1⟩
theorem Sl (u:Value) (l:List Int) (n:Int) (w:World) (hu:bU iE w u l) (hn:0 <= n /\ n <= 100):aR 14 #[u,I n] w (nz w (λo:OV × List Int=>o.2.length <= 2000) (λo=>o.1.v) (λo=>[bY o.1.v iE o.2 3])):=by
 refine iZ 28 Tryz.func14 (λ_ _=>?_);refine m12 ?_;refine m229 ?_;refine jf iE 3 ?_;refine m154 ?_;refine m136 ?_;refine nP (block (lp (X:=Int × OV × (List Int)) (λx=>(0 <= x.1 /\ x.1 <= l.length /\ x.1 <= 2000) /\ ((x.2.2.length:Int) = x.1)) (λx=>[dz,(0,true,u),(1,true,I n),(5,true,x.2.1.v),(6,true,I x.1)]) (λx=>[bY x.2.1.v iE x.2.2 3]) (λx=>(2000 - x.1).toNat) (0,aM,[]) ⟨?_,?_⟩ (λx hx=>?_)))
 ·omega
 ·rfl
 obtain⟨i,o,xs⟩:=x;dsimp only at hx;obtain⟨hi,hxl⟩:=hx;refine m155 ?_;refine co (Ev.len Ei aa zf) ?_;refine m91 ?_;refine ig rfl (λh0=>?_) (λh0=>?_)
 ·refine m58 ?_;refine m95 ?_;refine mv rfl ?_;refine m275 ?_;refine mv rfl ?_;refine m169 ?_;refine cons (dg eN (o2 rfl rfl) (λw I=>yW _ _ w (by omega)) ?_);refine cons (buildSlice Ei l9 z3 (.cons aa .nil) rfl rfl (λv1=>?_));refine cons (vL Ei l9 zb3 zs3 aa aa (λv2=>?_));refine m57 ?_;refine m25 ?_;refine vK rfl (nP (Sv (i + 1,v2,_) ⟨?_,?_⟩ ?_))
  ·omega
  ·grind
  omega
 ·refine m88 ?_;refine m64 ?_;refine done rfl (.tmp rfl .nil) (λw I=>?_);exact lu _ (by grind) rfl zp w I
structure cX where
 old:cy
 new:cy
 vV:OV
def cX.to:(cy × (cy × OV))->cX:=λx=>⟨x.1,x.2.1,x.2.2⟩
def cX.of:cX->(cy × (cy × OV)):=λx=>(x.old,x.new,x.vV)
def np:dy cX:=l8 (cW jI (cW jI (dJ aM))) cX.to cX.of
def cX.IC:aB np jI 0:=lI cX.to cX.of l1
@[simp] theorem cX.ahU (x:cX):cX.IC.get x = x.old:=rfl
def cX.xO:aB np jI 6:=lI cX.to cX.of (l2 l1)
@[simp] theorem cX.XR (x:cX):cX.xO.get x = x.new:=rfl
def cX.wx:aB np (dJ aM) 12:=lI cX.to cX.of (l2 (l2 (aB.id _)))
@[simp] theorem cX.abZ (x:cX):cX.wx.get x = x.vV:=rfl
def aiD:ot 29 (dJ aM):=oq
theorem DK (p:cX) (l1 l2:CL) (jk:List bj) (u:OV) (us:List OV) (rows:Nat->List cZ) (J8:Nat->Nat->List UInt8) (o2:OV) (ol:List Int) (w:World) (hc1:kA w p.old l1) (hc2:kA w p.new l2) (GL:l1.Names) (BO:l2.Names) (hz1:l1.n <= 4611686018427387904) (hz2:l2.n <= 4611686018427387904) (hst:bU da w p.vV.v jk) (hu:bU (dJ aM) w u.v us) (hr:rz w us rows) (Tq:∀ k j,k < us.length->j < (rows k).length->bU iO w ((rows k).getD j gC.zero).h.data.v (J8 k j)) (IH:bU iE w o2.v ol):JZ XPl 0 Tryz.prog 4 #[np.val p,u.v,o2.v] w (dO w (.bool true)):=by
 refine acf 64 [] Tryz.func4 rfl rfl (aT rfl) (bu _) (λ_ h=>h.elim) (λok=>bS.start ok) ?_;refine m15 ?_;refine box aa (λb1=>?_);refine m103 ?_;refine seq ?_;refine m15 ?_;refine dg eN .nil (λw I=>Q6 w) ?_;refine m287 ?_;refine m161 ?_;refine cf 12 rfl ?_;refine co (Ev.gR p.vV aiD aa cX.wx) ?_;refine cons (iP (X:=OV × List bj) _ _ _ eN (o1 rfl) (λw I=>ab6 _ jk w (hst.cO I.keeps)) (λst hs2=>?_));refine m0 ?_;refine m35 ?_;refine co (Ev.gR p.old DX aa cX.IC) ?_;refine cf 6 rfl ?_;refine co (Ev.gR p.new DX aa cX.xO) ?_;refine m26 ?_;refine iP _ _ _ eN (o3 rfl rfl rfl) (λw I=>Gs p.old p.new l1 l2 _ st.2 w (hc1.cO I.keeps) (hc2.cO I.keeps) (io w I) GL BO hz1 hz2 (by omega)) (λx1 hx=>?_);refine m5 ?_;refine m180 ?_;refine nG rfl (λh1=>?_) (λh1=>?_)
 ·refine m12 ?_;refine ret (pR (dn rfl rfl ?_))
  rfl
 ·have hre:tG l1 l2 p.old.default p.new.default st.2 = 0:=by simpa using h1
  refine m7 ?_;rw [if_pos hre];have va:=hx hre;show Sat _ _ _ [Var x1.b cH (x1.rv 0) 122,x1.r,bY x1.sv.v da st.2 43,bY st.1.v da st.2 43,Var b1 np p 31];refine m17 ?_;refine cons (iP (X:=OV × List OV) _ _ _ eN (o1 rfl) (λw I=>ab8 u.v us rows w (hu.cO I.keeps) (λk hk=>(hr k hk).cO I.keeps)) (λfw hfw=>?_));refine m0 ?_;refine sg (co (Ev.to (Ev.move aa) (aL Value.pointer (if_pos hre))) ?_);refine mv rfl ?_;obtain⟨cnt,hcnt⟩:∃ n,fw.2.length = n:=⟨_,rfl⟩;have hfp:=hfw.pos;have hff:=hfw.xQ;refine cons (iP _ _ _ eN (.cons aa (o1 rfl)) (λw I=>Pb x1.b fw.1 fw.2 cnt w (io w I) hcnt (by omega)) (λz hz=>?_));refine m112 ?_;refine m242 ?_;refine m60 ?_;refine mv rfl ?_;refine m296 ?_;refine cons (iP (X:=OV × List Int) _ _ _ eN (.cons aa (o1 rfl)) (λw I=>Sl o2.v ol cnt w (IH.cO I.keeps) (by omega)) (λod hod=>?_));refine mv rfl (aiH (G:=(⟨x1,l1,l2,p.old.default,p.new.default,st.2,z.gd,z.sn,fw.1,fw.2,GW us rows,J8,cnt⟩:Gt)) zr zr zr ?_);refine cons (Uq rfl rfl (z:=z) (xs:=od.2) (by grind) (by grind) aa aa ⟨va.p,va.q,vd va.st,va.pos,TU us rows,R2 hs2.1 hs2.2⟩ hz (by omega) .head zm (λ_=>zu) (λw I=>io w I) (λw I i hi=>⟨⟨(va.r w (I.own _ (show x1.r ∈ _ from zm)).1).1,(va.r w (I.own _ (show x1.r ∈ _ from zm)).1).2,io w I⟩,io w I,λk hk=>hfw.at_ w (λk hk=>(hr k hk).cO I.keeps) k hk,X7 (λk j hk hj=>(Tq k j hk hj).cO I.keeps) hfw,hcnt,hi,by grind,ed (E':=(dJ aM)) (show Var z.g (dJ aM) z.gd 91 ∈ _ from zm) (aB.id _) w I,Ut z.ks i (by grind) (I.own _ (show Bxs z.ks ∈ _ from zm)).1,ed (E':=(dJ aM)) (show Var z.d (dJ aM) fw.1 32 ∈ _ from zm) (aB.id _) w I,ed (E':=(dJ dB)) (show Var z.r (dJ dB) (WG x1.b) 37 ∈ _ from zm) (aB.id _) w I,ed (E':=(dJ aM)) (show Var z.s (dJ aM) z.sn 90 ∈ _ from zm) (aB.id _) w I⟩) (λy hy=>?_));refine m5 ?_
  refine cons (alloc z73 (λb2=>?_));refine cons (j8 V3 (aB.id _) aa aa ?_);refine m183 ?_;refine oc zr ?_;refine m17 ?_;refine m40 ?_;refine co (Ev.to (v':=.bool true) (Ev.move aa) (rfl)) ?_;refine m310 ?_;refine cg rfl rfl (Ev.gS Rb (.g rfl id) fU.ZC) ?_;refine cg rfl rfl (Ev.to (v':=I 0) (Ev.len Ei (.g rfl id) (λw I=>show bU iE w y.p.cut.v [] from by rw [hy.c]; exact bU.nil iE w)) (rfl)) ?_;refine cg rfl rfl (Ev.to (v':=.bool true) (Ev.xS (.g rfl id) (.c rfl)) (rfl)) ?_;refine co (Ev.to (v':=.bool true) (Ev.D2 aa rfl) (rfl)) ?_;refine co (Ev.to (Ev.move aa) (rfl)) ?_;refine cg rfl rfl (Ev.to (Ev.move aa) (aL Value.pointer (if_pos hre))) ?_;refine m65 ?_;refine m65 ?_;refine m65 ?_;refine cons (aiY rfl rfl rfl ?_);refine (uC (X:=Unit) (λ_=>True) (λ_=>.bool true) (λ_=>zu) (by exact zm) eN (.cons (.g rfl id) (.cons (.g rfl id) (.cons (.g rfl id) (.cons (.g rfl id) .nil)))) (λw I=>Ti x1 st.2 y.d.n cnt st.1.v z.sn.v z.gd.v (BD cnt y.d.rw) _ w (am w I) va.st hy.h (by simp [BD]) (by omega) hy.le (λw2 k2=>have I2:=I.JE zr k2; RQ hy (I2.own _ (show RsG _ y.d.gs y.d.rw ∈ _ from (by simp))).1 (kY (show bY st.1.v da st.2 43 ∈ _ from (by simp)) w2 I2))) (λ_ _=>?_));exact s30
end Go.Proofs.YtgnmiaonbadbnaaGreat
