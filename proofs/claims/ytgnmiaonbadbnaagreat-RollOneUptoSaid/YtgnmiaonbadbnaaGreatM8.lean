
/- Part. -/
import Derived.Test.YtgnmiaonbadbnaaGreatM7
import Derived.Test.YtgnmiaonbadbnaaGreatM1
set_option linter.unusedVariables false
set_option linter.defProp false
set_option linter.unusedSimpArgs false
set_option linter.unusedSectionVars false
set_option maxRecDepth 100000
set_option maxHeartbeats 2000000
namespace Go.Proofs.YtgnmiaonbadbnaaGreat.Oc
open Go Go.Gx Go.Proofs.YtgnmiaonbadbnaaGreat.Tri
theorem GF (s:UInt16):g8 2 s.toUInt64 = [(EH s 8).toUInt8,s.toUInt8]:=by
 rw [H6];simp only [ko,mW];constructor
 ·apply cG.1;simp [fc,EH]
 ·apply cG.1;simp
theorem Pw (h:ae) (n:Int) (s s2:UInt16):y8 (o8 h n s) 10 s2 = o8 h n s2:=by
 unfold y8 o8;simp [GF]
theorem Lu (h:ae) (n:Int):zd h n = o8 h (20 + n) 0:=by
 unfold zd o8;have e:h.id.toUInt16 = h.id.toUInt64.toUInt16:=by
  apply lz.1;simp
 rw [ER,e,Aa]
 rfl
theorem C8 (h:ae) (n:Int) (hv:h.src.v6 = false):o7 h n = o8 h (20 + n) (Ks (o8 h (20 + n) 0)):=by
 simp_all [o7,if_neg,decide,Lu,Pw]
theorem Fb (h:ae) (d:List UInt8) (s s2:UInt16) (hm:gf h.bz ≠ 0):y8 (gI h d s) (UG h.bz) s2 = gI h d s2:=by
 rcases lY h.bz with e | ⟨e,_⟩ | ⟨e,_⟩
 ·omega
 ·unfold y8 gI UG
  simp_all [if_pos,GF]
 simp_all [decide,y8,gI,UG,if_neg,if_pos,GF]
theorem Mo (h:ae) (d:List UInt8) (s:UInt16) (h0:gf h.bz = 0):gI h d s = d:=by
 unfold gI
 grind [lY,e2,gf]
def AV (h:ae) (d:List UInt8):UInt16:=if gf h.bz = 0 then 0 else FX h (gI h d 0)
theorem Cs (h:ae) (d:List UInt8):lH h d = gI h d (AV h d):=by
 unfold lH AV
 by_cases hm:gf h.bz = 0
 ·grind
 grind [Fb]
theorem tS (h:ae) (n:Int) (hc:js h n = 0):fT h.src = 0 /\ fT h.dst = 0 /\ h.src.v6 = h.dst.v6 /\ h.id <= (bif h.src.v6 then 1048575 else 65535) /\ (gf h.bz = 0->h.dD = 0 /\ h.dE = 0) /\ (h.bz ≠ 6->h.flags = 0 /\ h.seq = 0) /\ dG h + gf h.bz + n <= 2048:=by
 unfold js at hc;split at hc
 ·omega
 grind
theorem zg (h:ae) (n:Int) (hv:h.src.v6 = h.dst.v6):((o7 h n).length:Int) = dG h:=by
 cases h6:h.src.v6 with
 | true =>
   have h1:(gO h.src).length = 16:=by rw [jC,h6]; rfl
   have h2:(gO h.dst).length = 16:=by rw [jC,<- hv,h6]; rfl
   simp_all [Fh,dG]
 | false =>
   rw [C8 h n h6,zh _ _ _ h6 (by rw [<- hv]; exact h6)]
   grind [dG]
theorem LJ (h:ae) (n m:Int) (r:List UInt8) (hc:js h m = 0) (hn:0 <= n /\ n <= 4096):dc (o7 h n ++ r) = (jh h,dG h + n,0):=by
 obtain⟨h1,h2,h3,h4,_⟩:=tS h m hc;cases h6:h.src.v6 with
 | true =>
   rw [h6] at h4;rw [IY h n r h6 (by rw [<- h3]; exact h6) h4 (by omega)]
   grind [dG]
 | false =>
   rw [h6] at h4;rw [C8 h n h6,IZ h (20 + n) _ r h6 (by rw [<- h3]; exact h6) h1 h2 h4 (by omega)]
   grind [dG]
theorem Ip (h:ae) (d:List UInt8) (s:UInt16) (m:Int) (hc:js h m = 0):sD (jh h) (gI h d s) = wD h aM /\ y2 (jh h) (gI h d s) = d /\ (gf h.bz ≠ 0->Gy (jh h) (gI h d s) = s):=by
 obtain⟨_,_,_,_,h5,h6,_⟩:=tS h m hc;obtain⟨a1,a2,p,sp,dp,t,c,i,f,q,o⟩:=h;have hp:(jh ⟨a1,a2,p,sp,dp,t,c,i,f,q,o⟩).bz = p:=rfl
 by_cases e6:p = 6
 ·subst e6;have hm:¬ gf 6 = 0:=by decide
  have e:gI ⟨a1,a2,6,sp,dp,t,c,i,f,q,o⟩ d s = g8 2 sp.toUInt64 ++ (g8 2 dp.toUInt64 ++ (g8 4 q.toUInt64 ++ ([0,0,0,0,80,f,255,255] ++ (g8 2 s.toUInt64 ++ ([0,0] ++ d))))):=by
   unfold gI;rw [if_pos rfl];simp only [bM]
  have hl:20 <= (gI ⟨a1,a2,6,sp,dp,t,c,i,f,q,o⟩ d s).length:=by rw [e]; simp; omega
  have k0:(gU (gI ⟨a1,a2,6,sp,dp,t,c,i,f,q,o⟩ d s) 0 2).1 = sp.toUInt64:=by refine uM _ 0 _ (by omega) ?_ ?_ <;> rw [e] <;> rfl
  have k2:(gU (gI ⟨a1,a2,6,sp,dp,t,c,i,f,q,o⟩ d s) 2 2).1 = dp.toUInt64:=by refine uM _ 2 _ (by omega) ?_ ?_ <;> rw [e] <;> rfl
  have k4:(gU (gI ⟨a1,a2,6,sp,dp,t,c,i,f,q,o⟩ d s) 4 4).1 = q.toUInt64:=by refine Rt _ 4 _ (by omega) ?_ ?_ ?_ ?_ <;> rw [e] <;> rfl
  have k16:(gU (gI ⟨a1,a2,6,sp,dp,t,c,i,f,q,o⟩ d s) 16 2).1 = s.toUInt64:=by refine uM _ 16 _ (by omega) ?_ ?_ <;> rw [e] <;> rfl
  have k13:(gI ⟨a1,a2,6,sp,dp,t,c,i,f,q,o⟩ d s).getD 13 0 = f:=by rw [e]; rfl
  refine ⟨?_,?_,λ_=>?_⟩
  ·unfold sD;rw [hp,if_neg hm,if_pos rfl,k0,k2,k4,k13];have x1:sp.toUInt64.toUInt16 = sp:=by simp
   have x2:dp.toUInt64.toUInt16 = dp:=by simp
   have x3:q.toUInt64.toUInt32 = q:=by simp
   rw [x1,x2,x3]
   rfl
  ·unfold y2;rw [hp,jR,e]
   rfl
  ·unfold Gy;show (gU (gI ⟨a1,a2,6,sp,dp,t,c,i,f,q,o⟩ d s) 16 2).1.toUInt16 = s
   simp_all
 ·have hz:f = 0 /\ q = 0:=h6 e6;obtain⟨rfl,rfl⟩:=hz
  by_cases e17:p = 17
  ·subst e17;have hm:¬ gf 17 = 0:=by decide
   have e:gI ⟨a1,a2,17,sp,dp,t,c,i,0,0,o⟩ d s = g8 2 sp.toUInt64 ++ (g8 2 dp.toUInt64 ++ (g8 2 (UInt16.ofInt (8 + (d.length:Int))).toUInt64 ++ (g8 2 s.toUInt64 ++ d))):=by
    unfold gI;rw [if_neg e6,if_pos rfl];simp only [bM]
   have hl:8 <= (gI ⟨a1,a2,17,sp,dp,t,c,i,0,0,o⟩ d s).length:=by rw [e]; simp; omega
   have k0:(gU (gI ⟨a1,a2,17,sp,dp,t,c,i,0,0,o⟩ d s) 0 2).1 = sp.toUInt64:=by refine uM _ 0 _ (by omega) ?_ ?_ <;> rw [e] <;> rfl
   have k2:(gU (gI ⟨a1,a2,17,sp,dp,t,c,i,0,0,o⟩ d s) 2 2).1 = dp.toUInt64:=by refine uM _ 2 _ (by omega) ?_ ?_ <;> rw [e] <;> rfl
   have k6:(gU (gI ⟨a1,a2,17,sp,dp,t,c,i,0,0,o⟩ d s) 6 2).1 = s.toUInt64:=by refine uM _ 6 _ (by omega) ?_ ?_ <;> rw [e] <;> rfl
   refine ⟨?_,?_,λ_=>?_⟩
   ·unfold sD;rw [hp,if_neg hm,if_neg e6,k0,k2];have x1:sp.toUInt64.toUInt16 = sp:=by simp
    have x2:dp.toUInt64.toUInt16 = dp:=by simp
    rw [x1,x2]
    rfl
   ·unfold y2;rw [hp,jR,e]
    rfl
   ·unfold Gy;show (gU (gI ⟨a1,a2,17,sp,dp,t,c,i,0,0,o⟩ d s) 6 2).1.toUInt16 = s
    simp_all
  ·have hm:gf p = 0:=by unfold gf; rw [if_neg e6,if_neg e17]
   have hz:sp = 0 /\ dp = 0:=h5 hm;obtain⟨rfl,rfl⟩:=hz;have e:gI ⟨a1,a2,p,0,0,t,c,i,0,0,o⟩ d s = d:=Mo _ d s hm;refine ⟨?_,?_,λk=>absurd hm k⟩
   ·unfold sD;rw [hp,if_pos hm]
    rfl
   simp_all [y2]
theorem abp (h:ae) (d:List UInt8) (m:Int) (hc:js h m = 0):xx (jh h) (lH h d) = 0:=by
 rw [Cs];obtain⟨e1,e2,e3⟩:=Ip h d (AV h d) m hc;have hl:((gI h d (AV h d)).length:Int) = gf h.bz + d.length:=rW h d _;have hp:(jh h).bz = h.bz:=rfl;unfold xx;rw [hp,e1,e2];rw [if_neg (by omega)]
 by_cases hm:gf h.bz = 0
 ·omega
 ·rw [if_neg hm,e3 hm];have k:y8 (gI (wD h aM) d 0) _ (AV h d) = gI h d _:=Fb h d 0 _ hm;rw [k,if_neg (λk=>k rfl)];have k2:AV h d = FX (wD h aM) (gI (wD h aM) d 0):=by unfold AV; rw [if_neg hm]; rfl
  grind
theorem Gz (h:ae) (d:List UInt8) (m:Int) (hc:js h m = 0):((mL h d).length:Int) = dG h + gf h.bz + d.length:=by
 have h1:=zg h (lH h d).length (tS h m hc).2.2.1
 grind [uS,mL,List.length_append]
theorem EO (h:ae) (d t:List UInt8) (hc:js h d.length = 0):pD (mL h d ++ t) = 0 /\ H4 (mL h d ++ t) = (mL h d).length /\ yV (mL h d ++ t) = d /\ xI (mL h d ++ t) = wD h aM:=by
 have hp:=tS h _ hc;have hlen:=Gz h d _ hc;have hrl:=uS h d;have hhl:=zg h (lH h d).length hp.2.2.1;have hb:mL h d ++ t = o7 h (lH h d).length ++ (lH h d ++ t):=by unfold mL; rw [bM]
 have hF:dc (mL h d ++ t) = (jh h,dG h + (lH h d).length,0):=by rw [hb]; exact LJ h _ _ _ hc (by omega)
 have hfn:dG (jh h) = dG h:=rfl;have hfN:(dG h).toNat = (o7 h (lH h d).length).length:=by omega
 have hR:su (mL h d ++ t) = lH h d:=by
  unfold su;rw [hF];show ((mL h d ++ t).take (dG h + (lH h d).length).toNat).drop (dG (jh h)).toNat = _;have e1:(dG h + (lH h d).length).toNat = (o7 h (lH h d).length).length + (lH h d).length:=by omega
  rw [e1,hfn,hfN,hb,<- bM,gA (by simp),bH (by simp),List.drop_left]
 have hE:pD (mL h d ++ t) = 0:=by
  unfold pD;rw [hF,hR];show (if (0:Int) ≠ 0 then (0:Int) else if dG h + ((lH h d).length:Int) < dG (jh h) \/ 2048 < dG h + ((lH h d).length:Int) then 161
   else if ((mL h d ++ t).length:Int) < dG h + ((lH h d).length:Int) then 160
   else if (jh h).src.v6 = false /\ o7 (jh h) (dG h + ((lH h d).length:Int) - dG (jh h)) ≠ (mL h d ++ t).take (dG (jh h)).toNat then 162
   else xx (jh h) (lH h d)) = 0
  rw [if_neg (λk=>k rfl),hfn,if_neg (by omega),if_neg (by rw [cK]; omega),if_neg,abp h d _ hc];rintro ⟨_,k⟩;apply k;have e1:dG h + ((lH h d).length:Int) - dG h = (lH h d).length:=by omega
  rw [e1,hfN,hb,gA (aA _),bH (aA _)]
  rfl
 obtain⟨e1,e2,_⟩:=Ip h d (AV h d) _ hc;refine ⟨hE,?_,?_,?_⟩
 ·unfold H4
  grind
 ·grind [yV,Cs,e2]
 simp_all [xI,if_pos,Cs,e1]
end Go.Proofs.YtgnmiaonbadbnaaGreat.Oc
namespace Go.Proofs.YtgnmiaonbadbnaaGreat
open Go Go.Gx Go.Proofs.YtgnmiaonbadbnaaGreat.Tri Go.Proofs.YtgnmiaonbadbnaaGreat.Oc
open Go.Conc Go.ConcN
variable {ls:List bD} {gV m a:UInt64} {t ty T:TypeId} {bs:List UInt8} {dr:Bool} {k i b C:Nat} {H H':Gh} {w w0 u0:World} {xs us:List OV} {v:Value} {X N:Act->World->Prop} {f:FuncId} {α Y:Type} {z:α} {r':Y->du} {E:dy α} {K:Ctx} {F:Fr} {L L1 L' L2 L3:List du} {P:Program} {Q:Exit->Act->World->Prop} {ops:Array Oper} {af:Array Edge} {y:Operand} {kp F0:Nat->Prop} {qJ:Array TypeId} {tv:Nat->Value}
theorem BT {ss:List bj} {n:UInt64} (h:AG ss n m) (e:(bh n).end_ = 1):(bh m).end_ = 1:=by
 rw [h.done (by rw [e]; decide)]; exact e
theorem aa2 (h:ae) (d:List UInt8):pE (mL (mD h) (Br h d)) = 0:=by
 have hc:=Ap h d;obtain⟨h1,h2,h3,h4⟩:=EO (mD h) (Br h d) [] hc;rw [dS] at h1 h2 h3 h4;unfold pE;rw [h1,h3,h4,if_neg (by decide)];have e:js (wD (mD h) aM) _ = 0:=hc;unfold Uc;omega
structure cZ where
 kind:Int
 ta:Int
 h:ae
 any:Bool
 bytes:OV
def cZ.to:(Int × (Int × (ae × (Bool × OV))))->cZ:=λx=>⟨x.1,x.2.1,x.2.2.1,x.2.2.2.1,x.2.2.2.2⟩
def cZ.of:cZ->(Int × (Int × (ae × (Bool × OV)))):=λx=>(x.kind,x.ta,x.h,x.any,x.bytes)
def gC:dy cZ:=l8 (cW iE (cW iE (cW bm (cW bE (dJ aM))))) cZ.to cZ.of
def cZ.ai4:aB gC iE 0:=lI cZ.to cZ.of l1
def cZ.rF:aB gC iE 1:=lI cZ.to cZ.of (l2 l1)
@[simp] theorem cZ.NU (x:cZ):cZ.rF.get x = x.ta:=rfl
def cZ.l_h:aB gC bm 2:=lI cZ.to cZ.of (l2 (l2 l1))
@[simp] theorem cZ.alY (x:cZ):cZ.l_h.get x = x.h:=rfl
def cZ.alf:aB gC bE 45:=lI cZ.to cZ.of (l2 (l2 (l2 l1)))
def cZ.ahF:aB gC (dJ aM) 46:=lI cZ.to cZ.of (l2 (l2 (l2 (l2 (aB.id _)))))
structure q7 where
 job:mU
 v:bA
 new:Bool
def q7.to:(mU × (bA × Bool))->q7:=λx=>⟨x.1,x.2.1,x.2.2⟩
def q7.of:q7->(mU × (bA × Bool)):=λx=>(x.job,x.v,x.new)
def aab:dy q7:=l8 (cW Jg (cW dK bE)) q7.to q7.of
def q7.ac7:aB aab Jg 0:=lI q7.to q7.of l1
def q7.Vr:aB aab dK 3:=lI q7.to q7.of (l2 l1)
def q7.xO:aB aab bE 8:=lI q7.to q7.of (l2 (l2 (aB.id _)))
structure Gt where
 x:RX
 l1:CL
 l2:CL
 d1:Int
 d2:Int
 ss:List bj
 lb:Nat
 dv:OV
 VC:List OV
 row:Nat->List cZ
 J8:Nat->Nat->List UInt8
 cnt:Nat
structure ME (w:World) (G:Gt) (i b1 b2 b3:Nat):Prop where
 aeW:Hf w G.x G.l1 G.l2 G.d1 G.d2 G.ss
 rows:bU (dJ aM) w G.dv.v G.VC
 row:∀ k,k < G.VC.length->bU gC w (G.VC.getD k aM).v (G.row k)
 J8:∀ k j,k < G.VC.length->j < (G.row k).length->bU iO w ((G.row k).getD j gC.zero).h.data.v (G.J8 k j)
 len:G.VC.length = G.cnt
 lt:i < G.cnt
 xQ:G.cnt <= 6
 g1:eK (dJ aM) w b1 0 G.dv
 g2:eK iE w b2 0 i
 g3:eK (dJ dB) w b3 0 ⟨.pointer (some ⟨G.x.b,0,none⟩),rfl⟩
structure DO (G:Gt):Prop where
 p:qz G.x.p G.l1 G.d1
 q:qz G.x.q G.l2 G.d2
 g:kJ G.ss
 pos:0 < G.ss.length
 xQ:∀ k,(G.row k).length <= 12
 Wu:xH G.ss <= 60
variable {x:OV × List bD} {ss:List bj}
variable {rows:Nat->List cZ}
theorem SM (h:ae) (d:List UInt8) (o:OV) (bs:List UInt8) (w:World) (hd:bU iO w o.v (Br h d)) (hb:mL (mD h) (Br h d) = bs):aR 24 #[bm.val (wD (mD h) o)] w (nz w (λ_:OV=>True) (λo=>.tuple #[o.v,I 0]) (λo=>[bY o.v iO bs 5])):=by
 subst hb;have hc:=Ap h d;have hl:=Dt _ _ hc;have hc2:js (wD (mD h) o) _ = 0:=hc;refine (Nz _ _ w hd (by omega)).mono (λ_ h=>h) ?_;rintro e w' ⟨z,hz,he,hk,hN⟩;have hN':Qx w w' (if js _ _ = 0 then [bY z.v iO (mL (mD h) _) 5] else []):=hN;rw [if_pos hc2] at hN';have he':e = .returned (.tuple _):=he;rw [hc2] at he';exact ⟨z,trivial,he',hk,hN'⟩
def YN (xs:List OV):Prop:=∀ i,i < xs.length->∃ c,xs.getD i iG = Bb 23 c
theorem Pm (x:OV) (c:List Value) (w:World) (hx:x = Bb 23 c):aR 94 #[x.v] w (dO w (.bool false)):=by
 subst hx;refine iZ 5 Tryz.func94 (λ_ _=>?_);refine m273 ?_;refine co (Ev.agH Tryz.underlying64 aa (.c rfl)) ?_;refine m20 ?_
 rfl
theorem Lp (u:Value) (xs:List OV) (w:World) (hx:bU (dJ iG) w u xs) (hf:YN xs):aR 152 #[u,(Bb 94 []).v] w (dO w (I (-1))):=by
 have hle:=hx.le;refine iZ 19 Tryz.func152 (λ_ _=>?_);refine m268 ?_;refine co (Ev.len Z7 aa zf) ?_;refine m83 ?_;refine lpo (X:=Int) (λx=>(0 <= x /\ x <= xs.length)) (λx=>[dz,(0,true,u),(1,true,(Bb 94 []).v),(7,true,I xs.length),(8,true,I x)]) (λx=>[]) (λx=>((xs.length:Int) - x).toNat) (0) (λx hx=>?_);obtain⟨i,rfl⟩:∃ y,y = x:=⟨x,rfl⟩;have hi:=hx;refine m9 ?_;refine ig rfl (λh0=>?_) (λh0=>?_)
 ·refine m150 ?_;refine m6 ?_;refine mv rfl (mv rfl (co (Ev.indexAddr Z7 OH aa aa zf (λ_=>zo)) ?_));refine co (Ev.eT OH aa zf (λ_=>zo)) ?_;refine cons (Az aa (Gx.dV.mk' zk) (.cons aa .nil) (λw I=>Pm _ _ w (hf i.toNat (by omega)).choose_spec) ?_);refine nP (nS rfl (rfl) ?_);refine m232 ?_;refine mv rfl (nP (nxo (i + 1)))
 ·refine m13 ?_;refine sg (ac (I (-1)) ?_);refine nP ?_;refine m123 ?_
  rfl
theorem Eg (u:Value) (xs:List OV) (w:World) (hx:bU (dJ iG) w u xs) (hf:YN xs):aR 93 #[u,(Bb 94 []).v] w (dO w (.bool false)):=by
 refine iZ 9 Tryz.func93 (λ_ _=>?_);refine m273 ?_;refine m27 ?_;refine dg eN (o2 rfl rfl) (λw I=>Lp u xs w (hx.cO I.keeps) hf) ?_;refine co (Ev.Fq aa (.c rfl)) ?_;refine m20 ?_
 rfl
theorem QW (u:Value) (xs:List OV) (w:World) (hx:bU (dJ iG) w u xs) (hf:YN xs) (hn:0 < xs.length /\ xs.length <= 16):aR 47 #[u] w (dO w (I 0)):=by
 refine iZ 14 Tryz.func47 (λ_ _=>?_);refine m71 ?_;refine seq (block ?_);refine m1 ?_;refine cons (dg eN (.cons aa (.cons .f .nil)) (λw I=>Eg u xs w (hx.cO I.keeps) hf) ?_);refine m0 ?_;refine nS rfl (rfl) ?_;refine m1 ?_;refine co (Ev.len Z7 aa zf) ?_;refine m43 ?_;refine m0 ?_;refine nS rfl (fS (by omega)) ?_;refine m1 ?_;refine co (Ev.len Z7 aa zf) ?_;refine m137 ?_;refine m0 ?_;refine nS rfl (fS (by omega)) ?_;refine m23 ?_
 rfl
theorem tB {f g:Nat->Nat}:∀ {B:Nat},(∀ k,k < B->f k <= g k)->g7 f B <= g7 g B
 | 0,_=>aA _
 | B + 1,h=>by
   have h1:=tB (B:=B) λk hk=>h k (by omega)
   grind [g7]
theorem ni {c:Nat}:∀ {B:Nat},g7 (λ_=>c) B = B * c
 | 0=>by simp [g7]
 | B + 1=>by simp only [g7,ni (B:=B)]; grind
theorem EC {l:List α} {j:Nat} (z:α) (h:j < l.length):l.take (j + 1) = l.take j ++ [l.getD j z]:=by
 simp_all
theorem Kt (x:RX) (ss:List bj) (hst:iM ss 0 = true) (m:UInt64) (hw:xW ss m) (w:World) (sf:At (Var x.b cH (x.rv m) 122) w):aR 27 #[.pointer (some ⟨x.b,0,none⟩),rC.v] w (Gx.mE w (Var x.b cH (x.rv m) 122) (λ_:Unit=>True) (λ_=>.tuple #[I ((bh m).stage.toNat:Int),fO (bh m).seen,fO (bh m).dropped,I 0]) (λ_=>Var x.b cH (x.rv m) 122)):=λX fr uK hM=>by
 refine (Co (r:=Var x.b cH (x.rv m) 122) (λb hb=>hb) (HK (Ix x ss (vd hst) (hM _ rfl) w.heap.size) ⟨m,hw⟩ trivial (show 0 < 2 by decide) _ w uK (λb hb=>hb.elim (λe=>hM b e) λh=>by omega) sf (λb hb=>.inl hb) (λb hb=>.inr hb) CN)).mono (λ_ h=>h) ?_;exact s49
theorem Pd (x:RX) (ss:List bj) (hst:iM ss 0 = true) (m:UInt64) (hw:xW ss m) (w:World) (sf:At (Var x.b cH (x.rv m) 122) w):aR 28 #[.pointer (some ⟨x.b,0,none⟩),rC.v] w (Gx.mE w (Var x.b cH (x.rv m) 122) (λ_:Unit=>True) (λ_=>.tuple #[.bool (decide (¬ (bh m).end_ = 0)),.bool (decide ((bh m).end_ = 1)),I 0]) (λ_=>Var x.b cH (x.rv m) 122)):=λX fr uK hM=>by
 refine (Co (r:=Var x.b cH (x.rv m) 122) (λb hb=>hb) (Gn (Ix x ss (vd hst) (hM _ rfl) w.heap.size) ⟨m,hw⟩ trivial (show 0 < 2 by decide) _ w uK (λb hb=>hb.elim (λe=>hM b e) λh=>by omega) sf (λb hb=>.inl hb) (λb hb=>.inr hb) CN)).mono (λ_ h=>h) ?_;exact s49
variable {o:OV}
def Bxs:List Nat->du
 | []=>YQ
 | b :: r=>Sep (Var b iE (r.length:Int) 3) (Bxs r)
theorem Ut {w:World}:∀ (bs:List Nat) (i:Nat),i < bs.length->(Bxs bs).A w->eK iE w (bs.getD (bs.length - 1 - i) 0) 0 (i:Int)
 | b :: r,i,hi,⟨h1,h2,_⟩=>by
   simp only [aS] at hi
   by_cases e:i = r.length
   ·subst e;rw [aS,Nat.add_sub_cancel,oF];exact nB h1
   ·have:=Ut r i (by omega) h2
    grind
def agW {bs:List Nat} (h1:lC L (Var b iE (bs.length:Int) 3) L1) (h2:lC L1 (Bxs bs) L') (next:Sat K X F (Bxs (b :: bs) :: L')):Sat K X F L:=mI h1 h2 next
def zi (cap:Nat->List Value):List Nat->List OV
 | []=>[]
 | b :: r=>zi cap r ++ [Bb 23 (cap b)]
theorem BS (cap:Nat->List Value):∀ bs:List Nat,zi cap bs = (List.range bs.length).map λi=>Bb 23 (cap (bs.getD (bs.length - 1 - i) 0))
 | []=>rfl
 | b :: r=>by
   rw [zi,BS cap r,aS,List.range_succ,eF]
   congr 1
   ·grind [List.map_congr_left]
   ·simp
theorem LM (cap:Nat->List Value) (n:Nat):YN ((List.range n).map λi=>Bb 23 (cap i)):=λi hi=>⟨cap i,by
 grind⟩
theorem I3 (cap:Nat->List Value) (bs:List Nat):(zi cap bs).length = bs.length:=by rw [BS]; simp
theorem Ty {l:List α} (l2:List α) (h:k < l.length):(l ++ l2).getD k z = l.getD k z:=by grind
theorem Tz {l:List α} {v:α}:(l ++ [v]).getD l.length z = v:=by simp
def aey (o:OV) (k:Nat):OV:=⟨uN gC.size o.v 0 k,HG _ _ _ _ o.one⟩
def rz (w:World) (us:List OV) (rows:Nat->List cZ):Prop:=∀ k,k < us.length->bU gC w (us.getD k aM).v (rows k)
def GW (us:List OV) (rows:Nat->List cZ) (k:Nat):List cZ:=if us.length = 0 then [] else (rows k).take 12
theorem RU {n:Nat} (h:rz w us rows) (hx:rz w xs λk=>(rows k).take 12) (hi:i < us.length) (hl:xs.length = i) (hn:n = min (rows i).length 12):rz w (xs ++ [aey (us.getD i aM) n]) λk=>(rows k).take 12:=λk hk=>by
 rw [cK,List.length_singleton] at hk
 by_cases e:k < xs.length
 ·rw [Ty _ e]; exact hx k e
 ·obtain rfl:k = xs.length:=by omega
  rw [Tz];have h1:=(h i hi).sub (bu n) (by rw [hn]; exact Nat.min_le_left _ _);subst hl;have e2:(rows xs.length).take 12 = (rows xs.length).take n:=by
   rw [hn]
   by_cases h12:(rows xs.length).length <= 12
   ·rw [kg h12,bH h12,jR]
   ·rw [fH (by omega)]
  show bU _ w _ ((rows xs.length).take 12);rw [e2];exact h1
theorem TU (us:List OV) (rows:Nat->List cZ) (k:Nat):(GW us rows k).length <= 12:=by
 grind [GW]
structure YP (us:List OV) (rows:Nat->List cZ) (xs:List OV):Prop where
 pos:1 <= xs.length
 xQ:xs.length <= 6
 le:us.length ≠ 0->xs.length <= us.length
 at_:∀ w,rz w us rows->rz w xs (GW us rows)
theorem TR (h1:1 <= xs.length) (h2:xs.length <= 6) (h3:xs.length <= us.length) (h:∀ w,rz w us rows->rz w xs λk=>(rows k).take 12):YP us rows xs:=⟨h1,h2,λ_=>h3,λw hw k hk=>by
 unfold GW;rw [if_neg (by omega)];exact h w hw k hk⟩
theorem TS (h:us.length = 0):YP us rows [aM]:=⟨aA _,by decide,λe=>absurd h e,λw hw k hk=>by
 obtain rfl:k = 0:=by grind
 unfold GW;rw [if_pos h];exact bU.nil _ w⟩
def wU (a n:Int):Int:=if a.tmod n < 0 then a.tmod n + n else a.tmod n
theorem OD {a n:Int} (h:0 < n):0 <= wU a n /\ wU a n < n:=by
 have h1:=Int.lt_tmod_of_pos a h;have h2:=Int.tmod_lt_of_pos a h
 grind [wU]
def WG (b:Nat):OV:=⟨.pointer (some ⟨b,0,none⟩),rfl⟩
def Bl:ot 49 (dJ aM):=oq
def V6:ot 62 gC:=oq
def z49:zI 49 (dJ aM):=kI
def ad5:DV 49 (dJ aM) 24:=kB
def adW:Eo (dJ aM):=Hk _
theorem ab8 (u:Value) (us:List OV) (rows:Nat->List cZ) (w:World) (hu:bU (dJ aM) w u us) (hr:rz w us rows):aR 9 #[u] w (nz w (λo:OV × List OV=>YP us rows o.2) (λo=>o.1.v) (λo=>[bY o.1.v (dJ aM) o.2 49])):=by
 have hle:=hu.le;refine iZ 36 Tryz.func9 (λ_ _=>?_);refine m12 ?_;refine m209 ?_;refine jf (dJ aM) 49 ?_;refine m143 ?_;refine m156 ?_;refine nP (block (lp (X:=Int × OV × (List OV)) (λx=>(0 <= x.1 /\ x.1 <= us.length /\ x.1 <= 6) /\ ((x.2.2.length:Int) = x.1) /\ (∀ w,rz w us rows->rz w x.2.2 λk=>(rows k).take 12)) (λx=>[dz,(0,true,u),(3,true,x.2.1.v),(4,true,I x.1)]) (λx=>[bY x.2.1.v _ x.2.2 49]) (λx=>(6 - x.1).toNat) (0,aM,[]) ⟨?_,?_,?_⟩ (λx hx=>?_)))
 ·omega
 ·rfl
 ·intro w _ k hk; grind
 obtain⟨i,o,xs⟩:=x;dsimp only at hx;obtain⟨hi,hxl,hx⟩:=hx;refine m16 ?_;refine mv rfl (co (Ev.len UR aa zf) ?_);refine m88 ?_;refine ig rfl (λh0=>?_) (λh0=>?_)
 ·refine m21 ?_;refine T9 lC.head zk ?_;refine m202 ?_;refine m292 ?_;refine m222 ?_;refine tk 3 rfl (Ev.indexAddr UR Bl aa aa zf (λ_=>zo)) ?_;refine tk 4 rfl (Ev.eT Bl aa zf (λ_=>zo)) ?_;refine m221 ?_;refine tm 6 rfl rfl ?_;refine tk 7 rfl (Ev.indexAddr UR Bl aa aa zf (λ_=>zo)) ?_;refine tk 8 rfl (Ev.eT Bl aa zf (λ_=>zo)) ?_;refine tk 9 rfl (Ev.len Y49 aa (λw I=>(hr i.toNat (by omega)).cO I.keeps)) ?_;refine tk 10 rfl (Ev.to (v':=I (min (rows i.toNat).length 12:Nat)) (Ev.Nx aa (.c rfl)) (aL I (by omega))) ?_;refine tk 11 rfl (Ev.to (v':=(aey _ (min _ 12)).v) (Ev.zY Y49 V6 aa aa (λw I=>(hr i.toNat (by omega)).cO I.keeps) (λ_=>by omega)) (by rfl)) ?_;refine m280 ?_;refine buildSlice UR Bl z49 (.cons aa .nil) rfl rfl (λv1=>?_);refine m180 ?_;refine fB 13 rfl (vL UR Bl ad5 adW aa aa (λv2=>?_));refine m180 ?_;refine tk 14 rfl (Ev.assign aa) ?_;refine D3 (bN (pN ?_));refine m34 ?_;refine vK rfl (nP (Sv (i + 1,v2,_) ⟨?_,?_,?_⟩ ?_))
  ·omega
  ·grind
  ·grind [RU]
  omega
 ·refine m13 ?_;refine m16 ?_;refine co (Ev.len UR aa zf) ?_;refine m195 ?_;refine ig rfl (λh1=>?_) (λh1=>?_)
  ·refine m19 ?_;refine cons (buildSlice UR Bl z49 (.cons (.c (v:=(dJ aM).val (dJ aM).zero) rfl) .nil) rfl rfl (λv3=>?_));refine cons (vL UR Bl ad5 adW aa aa (λv4=>?_));refine m6 ?_;refine m48 ?_;refine done rfl (.tmp rfl .nil) (λw I=>?_);obtain rfl:xs = []:=dQ (by omega);exact lu (v4,_) (TS (by omega)) rfl zp w I
  ·refine m73 ?_;refine m48 ?_;refine done rfl (.tmp rfl .nil) (λw I=>?_);exact tU (o,xs) (TR (by omega) (by omega) (by omega) hx) rfl (nK.2 (jT _)) w I
theorem yW (a n:Int) (w:World) (hn:0 < n /\ n <= 1000):aR 33 #[I a,I n] w (dO w (I (wU a n))):=by
 have h1:=Int.lt_tmod_of_pos a hn.1;refine iZ 14 Tryz.func33 (λ_ _=>?_);refine m71 ?_;refine m208 ?_;refine co (Ev.Zl aa aa (λ_=>zo)) ?_;refine m174 ?_;refine m77 ?_;refine nP ?_;refine ig rfl (λh0=>?_) (λh0=>?_)
 ·refine m126 ?_;refine co (Ev.lx aa aa (λ_=>zo)) ?_;refine m6 ?_;refine m20 ?_
  simp_all [wU,if_pos]
 ·refine m73 ?_;refine m20 ?_;unfold wU; first | (rw [if_pos h0]; rfl) | (rw [if_neg h0]; rfl)
theorem aej (n:UInt64):(1 + n % 6).toNat <= 6:=by
 simp; omega
theorem ab6 (u:Value) (us:List bj) (w:World) (hu:bU da w u us):aR 8 #[u] w (nz w (λo:OV × List bj=>o.2.length <= 10 /\ ∀ q ∈ o.2,q.wait.toNat <= 6) (λo=>o.1.v) (λo=>[bY o.1.v da o.2 43])):=by
 have hle:=hu.le;refine iZ 61 Tryz.func8 (λ_ _=>?_);refine m12 ?_;refine m209 ?_;refine jf da 43 ?_;refine nP ?_;refine m71 ?_;refine seq ?_;refine m156 ?_;refine nP (block (lp (X:=Int × Int × OV × (List bj)) (λx=>(0 <= x.1 /\ x.1 <= us.length /\ x.1 <= 10) /\ (0 <= x.2.1 /\ x.2.1 <= 100) /\ ((x.2.2.2.length:Int) <= x.1) /\ (∀ q ∈ x.2.2.2,q.wait.toNat <= 6)) (λx=>[dz,(0,true,u),(3,true,x.2.2.1.v),(4,true,I x.2.1),(5,true,I x.1)]) (λx=>[bY x.2.2.1.v da x.2.2.2 43]) (λx=>(10 - x.1).toNat) (0,0,aM,[]) ⟨?_,?_,?_,?_⟩ (λx hx=>?_)))
 ·omega
 ·simp
 ·simp
 ·simp
 obtain⟨i,last,o,xs⟩:=x;dsimp only at hx;obtain⟨hi,hla,hxl,hxw⟩:=hx;refine m16 ?_;refine mv rfl (co (Ev.len BY aa zf) ?_);refine m88 ?_;refine ig rfl (λh0=>?_) (λh0=>?_)
 ·refine m191 ?_;refine ac (I 40) ?_;refine nP (cut (λx=>(1 <= x /\ x <= 100)) (λx=>[dz,(0,true,u),(3,true,o.v),(4,true,I last),(5,true,I i),(6,true,I x)]) (λx=>[bY o.v da xs 43]) ?_ (λx hx=>?_))
  ·refine m1 ?_;refine m195 ?_;refine ig rfl (λh1=>?_) (λh1=>?_)
   ·refine region (ac (I 100) ?_);refine nP (mt (_) ?_);omega
   ·refine m86 ?_;omega
  obtain⟨st,rfl⟩:∃ y,y = x:=⟨x,rfl⟩;have hst:=hx;clear hx;refine cut (X:=Nat × bj) (λx=>(0 <= x.2.parts /\ x.2.parts <= 1000) /\ (x.2.wait.toNat <= 6)) (λx=>[dz,(0,true,u),(3,true,o.v),(4,true,I last),(5,true,I i),(7,true,jc x.1)]) (λx=>[Var x.1 da x.2 43,bY o.v da xs 43]) ?_ (λx hx=>?_)
  ·obtain⟨pv,hpv⟩:∃ z,(us.getD i.toNat da.zero).parts = z:=⟨_,rfl⟩;have hwi:=OD (a:=pv) (show 0 < st by omega);refine m47 ?_;refine tk 1 rfl (Ev.lx aa (.c rfl) (λ_=>zo)) ?_;refine m222 ?_;refine m184 ?_;refine tk 4 rfl (Ev.indexAddr BY rI aa aa zf (λ_=>zo)) ?_;refine tk 5 rfl (Ev.nm (o:=0) (i:=i) aa zf (λ_=>zo) zk) ?_;refine tk 6 rfl (Ev.to (Ev.y5 l9 bj.oI rfl aa zf (λ_=>zo)) (aL I hpv)) ?_;refine tm 7 rfl rfl ?_;refine tm 10 rfl rfl ?_;refine tm 11 rfl rfl ?_;refine tk 12 rfl (Ev.indexAddr BY rI aa aa zf (λ_=>zo)) ?_;refine tk 13 rfl (Ev.nm (o:=1) (i:=i) aa zf (λ_=>zo) zk) ?_;refine tk 14 rfl (Ev.y5 nh bj.sF rfl aa zf (λ_=>zo)) ?_;refine tk 15 rfl (Ev.F8 aa (.c (v:=fO 6) rfl) (λ_=>by decide)) ?_;refine tk 16 rfl (Ev.vh (.c (v:=fO 1) rfl) aa) ?_;refine tm 17 rfl rfl ?_;refine tm 18 rfl rfl ?_;refine tk 19 rfl (Ev.indexAddr BY rI aa aa zf (λ_=>zo)) ?_;refine tk 20 rfl (Ev.nm (o:=2) (i:=i) aa zf (λ_=>zo) zk) ?_;refine tk 21 rfl (Ev.y5 nh bj.wA rfl aa zf (λ_=>zo)) ?_;refine tk 22 rfl (Ev.F8 aa (.c (v:=fO 4) rfl) (λ_=>by decide)) ?_;refine all [8,24] zk (by decide) (.cons rfl ?_ (.cons rfl ?_ .nil))
   ·refine m54 ?_;refine fB 24 rfl (alloc MG (λb1=>?_));refine m180 ?_;refine fB 25 rfl (j8 rI (aB.id _) aa aa ?_);exact s87
   ·refine (alloc MG (λb2=>?_));refine m169 ?_;refine m54 ?_;refine fB 25 rfl (j8 rI (aB.id _) aa aa ?_);exact s87
  obtain⟨b7,y⟩:=x;dsimp only at hx;obtain⟨hy,hyw⟩:=hx;refine seq ?_;refine m271 ?_;refine m137 ?_;refine nP ?_;refine ig rfl (λh2=>?_) (λh2=>?_)
  ·refine exit (pX (bO rfl (pX (pX (bX (pN (seq (sg (mv rfl (co (Ev.len BY aa zf) ?_))))))))));refine m195 ?_;refine ig rfl (λh3=>?_) (λh3=>?_)
   ·exact s14
   ·refine m73 ?_;refine m48 ?_;refine done rfl (.tmp rfl .nil) (λw I=>?_);exact lu (o,xs) ⟨by grind,hxw⟩ rfl zp w I
  ·refine m8 ?_;refine m271 ?_;refine m231 ?_;refine co (Ev.gS rI aa (aB.id _)) ?_;refine cons (buildSlice BY rI MG (.cons aa .nil) rfl rfl (λv5=>?_));refine cons (vL BY rI aah aag aa aa (λv6=>?_));refine m76 ?_;refine m34 ?_;refine vK rfl (nP (Sv (i + 1,y.parts,v6,_) ⟨?_,?_,?_,?_⟩ ?_))
   ·omega
   ·grind
   ·grind
   ·intro q hq; rcases bG.1 hq with hq | hq
    ·grind
    simp_all
   omega
 ·refine m13 ?_;refine m16 ?_;refine co (Ev.len BY aa zf) ?_;refine m195 ?_;refine ig rfl (λh3=>?_) (λh3=>?_)
  ·exact s14
  ·refine m73 ?_;refine m48 ?_;refine done rfl (.tmp rfl .nil) (λw I=>?_);exact lu _ ⟨by grind,hxw⟩ rfl zp w I
def aes:ot 32 (dJ aM):=oq
def z64:zI 64 (dJ iG):=kI
def aii:DV 64 (dJ iG) 8:=kB
def aih:Eo (dJ iG):=Hk _
structure Hc where
 s:WS
 tn:Nat
 ln:Nat
 mo:UInt64
variable {s:aC}
def Hc.l (e:Hc):List Nat:=[e.s.1.toNat,e.s.2.1,e.s.2.2,e.tn,e.ln,e.mo.toNat]
variable {l:List bD}
def TB (H:Gh):UInt64:=.ofNat ((H.getD 0 []).getD 0 0)
def lEn (l:List Nat):Hc:=⟨(.ofNat (l.getD 0 0),l.getD 1 0,l.getD 2 0),l.getD 3 0,l.getD 4 0,.ofNat (l.getD 5 0)⟩
def qe (H:Gh) (k:Nat):Hc:=lEn (H.getD (k + 1) [])
def J6 (H:Gh) (k:Nat) (n:UInt64) (e:Hc):Gh:=(H.set 0 [n.toNat]).set (k + 1) e.l
theorem afI (e:Hc):lEn e.l = e:=by
 simp [lEn,Hc.l]
section
variable {j:Nat} {n:UInt64} {e:Hc}
theorem SY:(J6 H k n e).length = H.length:=by simp [J6]
theorem LF (h:0 < H.length):TB (J6 H k n e) = n:=by simp_all [TB,J6]
theorem LH (h:k + 1 < H.length):qe (J6 H k n e) k = e:=by
 grind [J6,qe,afI]
theorem GV (h:j ≠ k):qe (J6 H k n e) j = qe H j:=by
 grind [J6,qe]
end
/-- Of what is written down: what was asked and told; the packet's bytes. -/
structure EN where
 x:q7
 bs:List UInt8
def EN.R (e:EN):du:=bY e.x.job.Ad.v iO e.bs 5
def PKs:List EN->du
 | []=>YQ
 | e :: r=>Sep e.R (PKs r)
theorem abT {w:World} {b:Nat}:∀ {es:List EN},(PKs es).A w->(PKs es).c9 b->∃ o,w.heap[b]? = some o /\ u9 o = false
 | [],_,hb=>by cases hb
 | _ :: _,⟨h1,h2,_⟩,hb=>hb.elim (λhb=>uU h1 hb) λhb=>abT h2 hb
theorem abt:∀ es:List EN,pd (PKs es)
 | []=>⟨λw h c hc=>by cases hc⟩
 | e :: es=>by
   have:=abt es;unfold PKs EN.R
   infer_instance
instance {es:List EN}:pd (PKs es):=abt es
theorem aar (e:EN) (b:Nat):∀ es:List EN,(PKs (es ++ [e])).c9 b ↔ e.R.c9 b \/ (PKs es).c9 b
 | []=>.rfl
 | a :: es=>by
   have h:=aar e b es;show (a.R.c9 b \/ (PKs (es ++ [e])).c9 b) ↔ (e.R.c9 b \/ a.R.c9 b \/ (PKs es).c9 b);rw [h]
   grind
theorem abV {w:World} {e:EN}:∀ {es:List EN},(Sep e.R (PKs es)).A w->(PKs (es ++ [e])).A w
 | [],h=>h
 | a :: es,⟨h1,⟨h2,h3,h4⟩,h5⟩=>⟨h2,abV ⟨h1,h3,λb hb hb'=>h5 b hb (.inr hb')⟩,λb hb hb'=>((aar e b es).1 hb').elim (λh=>h5 b h (.inl hb)) (h4 b hb)⟩
theorem acV {w:World}:∀ {es:List EN} {e:EN},(PKs es).A w->e ∈ es->bU iO w e.x.job.Ad.v e.bs
 | a :: es,e,⟨h1,h2,_⟩,he=>by
   rcases aE.1 he with rfl | he
   ·exact bU.lJ h1
   ·exact acV h2 he
def okE (G:Gt) (n:UInt64) (e:EN):Prop:=pE e.bs = 0 /\ e.x.v = Nj G.l1 G.l2 G.d1 G.d2 e.x.job.ta G.ss n e.bs /\ e.x.new = Nk G.ss n e.bs
def nxE (G:Gt) (n:UInt64) (e:EN):UInt64:=EU G.l2 G.d2 e.x.job.ta G.ss n e.bs
def aan (G:Gt) (n:UInt64) (es:List EN):UInt64:=es.foldl (nxE G) n
theorem abN (G:Gt) (n:UInt64) (es:List EN) (e:EN):aan G n (es ++ [e]) = nxE G (aan G n es) e:=by simp [aan]
/-- What has been told is what one behind the other tells. -/
structure aae (G:Gt) (n:UInt64) (es:List EN):Prop where
 run:aan G 0 es = n
 ok:∀ q e,es[q]? = some e->okE G (aan G 0 (es.take q)) e
 wf:∀ q,q <= es.length->xW G.ss (aan G 0 (es.take q))
theorem aae.add {G:Gt} {n m:UInt64} {es:List EN} {e:EN} (h:aae G n es) (h1:okE G n e) (h2:nxE G n e = m) (h3:xW G.ss m):aae G m (es ++ [e]):=by
 have hr:aan G 0 (es ++ [e]) = m:=by rw [abN,h.run,h2]
 refine ⟨hr,λq z hz=>?_,λq hq=>?_⟩
 ·by_cases hl:q < es.length
  ·rw [gA (by omega)];rw [eX hl] at hz;exact h.ok q z hz
  ·have hq:q = es.length:=by
    have:=(cY.1 hz).1;simp at this;omega
   subst hq;rw [gA (aA _),jR,h.run];simp at hz;subst hz;exact h1
 ·by_cases hl:q <= es.length
  ·rw [gA hl];exact h.wf q hl
  ·have hq:q = es.length + 1:=by simp at hq; omega
   rw [bH (by simp [hq]),hr];exact h3
/-- The word; the list,and what is in it. -/
structure SD where
 n:UInt64
 o:OV
 es:List EN
def VRt (G:Gt) (n:UInt64):du:=Var G.x.b cH (G.x.rv n) 122
def RsG (G:Gt) (o:OV) (es:List EN):du:=Sep (Var G.lb (dJ aM) o 95) (Sep (bY o.v aab (es.map EN.x) 106) (PKs es))
def ShR (G:Gt) (d:SD):du:=Sep (VRt G d.n) (RsG G d.o d.es)
instance {G:Gt} {n:UInt64}:pd (VRt G n):=by unfold VRt; infer_instance
instance {G:Gt} {o:OV} {es:List EN}:pd (RsG G o es):=by unfold RsG; infer_instance
theorem M4 {G:Gt} {d:SD} {w:World} {b:Nat} (h:(ShR G d).A w) (hb:(ShR G d).c9 b):∃ o,w.heap[b]? = some o /\ u9 o = false:=by
 obtain⟨h1,⟨h2,⟨h3,h4,_⟩,_⟩,_⟩:=h
 rcases hb with hb | hb | hb | hb
 ·obtain rfl:b = G.x.b:=hb;exact ⟨_,h1,rfl⟩
 ·obtain rfl:b = G.lb:=hb;exact ⟨_,h2,rfl⟩
 ·exact uU h3 hb
 ·exact abT h4 hb
structure FA (G:Gt) (H:Gh) (d:SD):Prop where
 len:H.length = G.cnt + 1
 wd:TB H = d.n
 j:rJ G.ss d.n.toNat λk=>IT (qe H k).s
 e:∀ k,k < G.cnt->(qe H k).ln <= 12 /\ (qe H k).tn <= 2000
 el:d.es.length = g7 (λk=>(qe H k).ln) G.cnt
 run:aae G d.n d.es
theorem FA.adw {G:Gt} {H:Gh} {d:SD} (h:FA G H d):d.es.length <= G.cnt * 12:=by
 rw [h.el,<- ni];exact tB λk hk=>(h.e k hk).1
def SAT (G:Gt) (H:Gh) (F:Nat->Prop) (v:World):Prop:=(∀ b,F b->ny v b /\ b < v.heap.size) /\ ∃ d,FA G H d /\ (ShR G d).A v /\ ∀ b,(ShR G d).c9 b->F b
theorem Wr {G:Gt} {F:Nat->Prop} {v v':World} (h:SAT G H F v) (k:∀ b,F b->v'.heap[b]? = v.heap[b]?):SAT G H F v':=by
 obtain⟨h1,d,h2,h3,h4⟩:=h;refine ⟨λb hb=>⟨λo ho=>(h1 b hb).1 o ((k b hb).symm.trans ho),?_⟩,d,h2,(ShR G d).st v v' (λb hb=>k b (h4 b hb)) h3,h4⟩
 grind
def StT (ss:List bj) (k:Nat) (_:Value) (b c:Gh):Prop:=(∀ j,j ≠ k->qe c j = qe b j) /\ AG ss (TB b) (TB c) /\ (qe c k).tn = (qe b k).tn + 1
def RT (ss:List bj) (i:Nat) (a b:Gh):Prop:=qe b i = qe a i /\ AG ss (TB a) (TB b)
def ZY (cnt:Nat):Gh:=List.replicate (cnt + 1) []
theorem X2 (cnt k:Nat):qe (ZY cnt) k = ⟨(0,0,0),0,0,0⟩:=by
 have h:(ZY cnt).getD (k + 1) [] = []:=by
  simp only [ZY,cE,List.getElem?_replicate];split <;> rfl
 unfold qe;rw [h]
 rfl
theorem aae.start {G:Gt} (hg:kJ G.ss) (hp:0 < G.ss.length):aae G 0 []:=⟨rfl,λq e h=>by simp at h,λq _=>by
 obtain⟨n,h1,h2,_⟩:=rJ0 hg hp;obtain rfl:(0:UInt64) = n:=cC.1 h1
 simpa [aan] using h2⟩
theorem FA.start {G:Gt} (hg:kJ G.ss) (hp:0 < G.ss.length):FA G (ZY G.cnt) ⟨0,aM,[]⟩ where
 len:=by simp [ZY]
 wd:=rfl
 j:=by
  have e:(λk=>IT (qe (ZY G.cnt) k).s) = λ_=>[0,0,0]:=funext λk=>by rw [X2]; rfl
  rw [e];exact rJ0 hg hp
 e:=λk hk=>by rw [X2]; exact ⟨by decide,by decide⟩
 el:=by
  rw [oO (g:=λ_=>0) λk _=>by rw [X2],ni,Nat.mul_zero]
  rfl
 run:=aae.start hg hp
theorem FA.le {G:Gt} {d:SD} (h:FA G H d) (k:Nat):xW G.ss d.n /\ xW G.ss (qe H k).s.1 /\ AG G.ss (qe H k).s.1 d.n:=by
 obtain⟨n,h1,h2,h3,_⟩:=h.j;obtain rfl:d.n = n:=cC.1 h1;obtain⟨m,a,b,e,h4,h5⟩:=h3 k;simp only [IT,ko,mW] at e;have e1:=cC.1 e.1
 grind
theorem TD {X:Ext} {fr:Nat} {args:Array Value} {r q:du} {J:Y->Prop} {val:Y->Value} (hA:At (Sep r q) w) (h:iQ X fr P f args w (Gx.mE w r J val r')):iQ X fr P f args w (Gx.mE w (Sep r q) J val λy=>Sep (r' y) q):=by
 refine h.mono (λ_ h=>.inl h) ?_;rintro e w' ⟨y,hJ,he,hk,ha,hf⟩;refine ⟨y,hJ,he,hk.mono λ_ h=>.inl h,⟨ha,q.st w w' (λb hb=>hk.block b (hA.2 b (.inr hb)) λhr=>hA.1.2.2 b hr hb) hA.1.2.1,λb hb hq=>(hf b hb).1.elim (λhr=>hA.1.2.2 b hr hq) λh=>?_⟩,λb hb=>hb.elim (λhb=>⟨(hf b hb).1.imp .inl id,(hf b hb).2⟩) λhb=>⟨.inl (.inr hb),aD (hA.2 b (.inr hb)) hk.size⟩⟩;have:=hA.2 b (.inr hq);omega
structure TT where
 G:Gh
 d:SD
 e:Hc
def Hc.up (e:Hc):Hc:=⟨e.s,e.tn + 1,e.ln,e.mo⟩
def TT.nx (k:Nat) (t:TT):Gh:=J6 t.G k t.d.n t.e.up
def TT.see (t:TT):TT:=⟨t.G,t.d,⟨(t.d.n,t.e.s.2),t.e.tn,t.e.ln,t.e.mo⟩⟩
def TT.Xz (t:TT) (m:UInt64) (dr:Bool):TT:=⟨t.G,⟨m,t.d.o,t.d.es⟩,⟨(m,t.e.s.2.1 + 1,t.e.s.2.2 + dr.toNat),t.e.tn,t.e.ln,t.e.mo⟩⟩
def Ok (s:aC) (H:Gh):du:=⟨λb=>b = s.sb,λv=>GhT s v H,λw w' h h1=>(h _ rfl).trans h1⟩
instance {s:aC} {H:Gh}:pd (Ok s H):=⟨λw h b hb e=>by
 obtain rfl:b = s.sb:=hb;have h':w.heap[s.sb]? = _:=h;rw [e] at h';exact absurd (bF (ak h')).2 (by decide)⟩
def vG (G:Gt) (s:aC) (t:TT):du:=Sep (VRt G t.d.n) (Sep (Ok s t.G) (RsG G t.d.o t.d.es))
instance {G:Gt} {s:aC} {t:TT}:pd (vG G s t):=by unfold vG; infer_instance
variable {n:UInt64} {e:Hc}
theorem afy (H:Gh) (k:Nat) (n n':UInt64) (e e':Hc):J6 (J6 H k n e) k n' e' = J6 H k n' e':=by
 simp [J6,List.set_comm,List.set_set]
theorem XX (h:k + 1 < H.length):(λj=>IT (qe (J6 H k n e) j).s) = upd (λj=>IT (qe H j).s) k (IT e.s):=funext λj=>by
 by_cases hj:j = k
 ·subst hj; rw [upd_same,LH h]
 ·rw [upd_ne _ _ hj,GV hj]
theorem FA.put {G:Gt} (hg:kJ G.ss) {H:Gh} {d d':SD} {e:Hc} {k a:Nat} (h:FA G H d) (hk:k < G.cnt) (hj:(e.s = (qe H k).s /\ d'.n = d.n) \/ rTr G.ss (IT (qe H k).s) d.n.toNat (IT e.s) d'.n.toNat)
 (hln:e.ln = a + (qe H k).ln) (hel:d'.es.length = d.es.length + a) (hr:aae G d'.n d'.es) (h12:e.ln <= 12) (Ta:e.tn <= 2000):FA G (J6 H k d'.n e) d':=by
 have hl:=h.len;refine ⟨SY.trans hl,LF (by omega),?_,λj hj'=>?_,?_,hr⟩
 ·rw [XX (by omega)]
  rcases hj with ⟨h1,h2⟩ | hj
  ·have e1:upd (λj=>IT (qe H j).s) k (IT e.s) = λj=>IT (qe H j).s:=funext λj=>by
    by_cases hj:j = k
    ·subst hj; rw [upd_same,h1]
    ·rw [upd_ne _ _ hj]
   rw [e1,h2];exact h.j
  ·exact aeX hg h.j hj
 ·by_cases hjk:j = k
  ·subst hjk; rw [LH (by omega)]; exact ⟨h12,Ta⟩
  ·rw [GV hjk];exact h.e j hj'
 ·rw [hel,h.el];refine (yP (f:=λk=>(qe H k).ln) (g:=λj=>(qe (J6 H k d'.n e) j).ln) (i:=k) (a:=a) ?_ (λj hj=>?_) hk).symm
  ·show (qe (J6 H k d'.n e) k).ln = _;rw [LH (by omega),hln]
  ·show (qe (J6 H k d'.n e) j).ln = _;rw [GV hj]
/-- A Rk that may have a uf. -/
structure rq (G:Gt) (k:Nat) (t:TT):Prop where
 fa:FA G (t.nx k) t.d
 tn:(qe t.G k).tn = t.e.tn
 le:AG G.ss (TB t.G) t.d.n
structure JX [av] (G:Gt):Prop where
 sa:∀ H F v,av.SA H F v ↔ SAT G H F v
 st:∀ k x b c,av.St k x b c ↔ StT G.ss k x b c
 r:∀ i a b,av.R i a b ↔ RT G.ss i a b
section
variable {G:Gt} {k:Nat} {s:aC} {t:TT} {w:World}
theorem rq.len (h:rq G k t):t.G.length = G.cnt + 1:=by have:=h.fa.len; rwa [TT.nx,SY] at this
theorem rq.en (h:rq G k t) (hk:k < G.cnt):qe (t.nx k) k = t.e.up:=LH (by have:=h.len; omega)
theorem rq.own (h:rq G k t) (hk:k < G.cnt):t.e.ln <= 12 /\ t.e.tn + 1 <= 2000:=by
 have h1:=h.fa.e k hk;rw [h.en hk] at h1;exact h1
theorem rq.wf (h:rq G k t) (hk:k < G.cnt):xW G.ss t.d.n /\ AG G.ss t.e.s.1 t.d.n:=by
 have h1:=h.fa.le k;rw [h.en hk] at h1;exact ⟨h1.1,h1.2.2⟩
/-- .. and goes on. -/
theorem rq.put (hg:kJ G.ss) (h:rq G k t) (hk:k < G.cnt) {d':SD} {e:Hc} {a:Nat} (Ta:e.tn = t.e.tn) (hj:(e.s = t.e.s /\ d'.n = t.d.n) \/ rTr G.ss (IT t.e.s) t.d.n.toNat (IT e.s) d'.n.toNat) (hle:AG G.ss t.d.n d'.n)
 (hln:e.ln = a + t.e.ln) (hel:d'.es.length = t.d.es.length + a) (hr:aae G d'.n d'.es) (h12:e.ln <= 12):rq G k ⟨t.G,d',e⟩:=by
 obtain⟨a1,a2⟩:=h.own hk;refine ⟨?_,h.tn.trans Ta.symm,h.le.trans hle⟩;show FA G (J6 t.G k d'.n _) d';rw [<- afy t.G k t.d.n d'.n t.e.up];have h1:=h.en hk;unfold TT.nx at h1;refine FA.put (a:=a) hg h.fa hk ?_ ?_ hel hr h12 (by show e.tn + 1 <= 2000; omega)
 ·rw [h1]; exact hj
 ·rw [h1]; exact hln
theorem Ze (t:TT) (w:World):(vG G s t).A w ↔ GhT s w t.G /\ (ShR G t.d).A w /\ ¬ (ShR G t.d).c9 s.sb:=by
 refine ⟨λ⟨h1,⟨h2,h3,h4⟩,h5⟩=>⟨h2,⟨h1,h3,λb hb hb'=>h5 b hb (.inr hb')⟩,λhb=>hb.elim (λhb=>h5 _ hb (.inl rfl)) λhb=>h4 _ rfl hb⟩,λ⟨h1,⟨h2,h3,h4⟩,h5⟩=>⟨h2,⟨h1,h3,λb hb hb'=>?_⟩,λb hb hb'=>hb'.elim (λhb'=>?_) (h4 b hb)⟩⟩
 ·obtain rfl:b = s.sb:=hb;exact h5 (.inr hb')
 ·obtain rfl:b = s.sb:=hb';exact h5 (.inl hb)
theorem uO (t:TT) (b:Nat):(vG G s t).c9 b ↔ b = s.sb \/ (ShR G t.d).c9 b:=by
 show (_ \/ _ \/ _) ↔ (_ \/ _ \/ _);exact ⟨λh=>h.elim (λh=>.inr (.inl h)) λh=>h.elim .inl λh=>.inr (.inr h),λh=>h.elim (λh=>.inr (.inl h)) λh=>h.elim .inl λh=>.inr (.inr h)⟩
theorem Yo (hA:At (vG G s t) w) (m:UInt64) (dr:Bool) (X:Ext):iQ X 0 Tryz.prog 76 #[.pointer (some ⟨G.x.b,3,none⟩),fO t.d.n,fO m] w (Gx.mE w (vG G s t) (λ_:Unit=>True) (λ_=>.bool true) λ_=>vG G s (t.Xz m dr)) :=
 TD hA (Jz (aB.comp cP.y9 db.Vr) G.x.b (G.x.rv t.d.n) m 122 w ⟨hA.1.1,λb hb=>hA.2 b (.inl hb)⟩ X 0 (bu _) (λ_ _=>bu _))
theorem acv (hA:At (vG G s t) w) (n m:UInt64) (hx:¬ t.d.n = n) (X:Ext):iQ X 0 Tryz.prog 76 #[.pointer (some ⟨G.x.b,3,none⟩),fO n,fO m] w (Gx.mE w (vG G s t) (λ_:Unit=>True) (λ_=>.bool false) λ_=>vG G s t) :=
 TD hA (Mi (aB.comp cP.y9 db.Vr) G.x.b (G.x.rv t.d.n) n m hx 122 w ⟨hA.1.1,λb hb=>hA.2 b (.inl hb)⟩ X 0 (bu _) (λ_ _=>bu _))
variable [av]
theorem ZG (hP:JX G) {H':Gh} (GM:FA G H' t.d) (h:At (vG G s t) w) (hpm:∀ b,(vG G s t).c9 b->fq b):At (HT k s (t.G,H',(ShR G t.d).c9)) w:=by
 obtain⟨h1,h2,h3⟩:=(Ze t w).1 h.1;refine ⟨⟨h1,(hP.sa _ _ _).2 ⟨λb hb=>?_,t.d,GM,h2,λb hb=>hb⟩,λb hb=>hpm b ((uO t b).2 (.inr hb))⟩,λb hb=>h.2 b ((uO t b).2 hb)⟩;obtain⟨o,e,hp⟩:=M4 h2 hb;exact ⟨λo' ho=>by rw [e] at ho; rw [<- ak ho]; exact hp,aG e⟩
theorem Zu (hP:JX G) {z:TZ} (h:(HT k s z).A w):∃ d,FA G z.2.1 d /\ ∀ e,(vG G s ⟨z.1,d,e⟩).A w /\ ∀ b,(vG G s ⟨z.1,d,e⟩).c9 b->(HT k s z).c9 b:=by
 obtain⟨h1,h2,h3⟩:=h;obtain⟨h4,d,h5,h6,h7⟩:=(hP.sa _ _ _).1 h2;refine ⟨d,h5,λe=>⟨(Ze _ w).2 ⟨h1,h6,λhb=>?_⟩,λb hb=>((uO _ b).1 hb).imp id (h7 b)⟩⟩;have:=(h4 _ (h7 _ hb)).1 _ h1;simp [u9,nL] at this
theorem rq.ahn (hg:kJ G.ss) (hr:rq G k t) (hk:k < G.cnt):rq G k t.see :=
 hr.put (a:=0) hg hk rfl (.inr ⟨_,_,_,rfl,.inl ⟨rfl,rfl⟩⟩) (.inl rfl) (a9 _).symm rfl hr.fa.run (hr.own hk).1
/-- The aeW,with a oe for a gate. -/
def M8 (hP:JX G) (hO:DO G) (hk:k < G.cnt) (hsb:av.N0 <= s.sb):FO (Kc Tryz.prog (λv=>∃ m,v = mJ m false) k s) 0 TT (vG G s) fq (IF 147 (ptr s.sb)).v G.x.b (.pointer (some ⟨G.x.p.b,0,none⟩)) (.pointer (some ⟨G.x.q.b,0,none⟩)) G.x.sv.v G.ss where
 n:=λt=>t.e.s.1
 μ:=λt=>xH G.ss - rU G.ss t.e.s.1
 fu:=λt=>1999 - t.e.tn
 R:=λt u=>u.e.s.2 = t.e.s.2 /\ AG G.ss t.e.s.1 u.e.s.1 /\ u.e.ln = t.e.ln
 Kd:=rq G k
 Sn:=λt=>t.d.n = t.e.s.1
 Hit:=λt dr u=>rq G k t /\ t.d.n = t.e.s.1 /\ (bh t.e.s.1).end_.toNat = 0 /\ ∃ m,Ie G.ss t.e.s.1 dr = m /\ u = t.Xz m dr
 r0:=λ_=>⟨rfl,.inl rfl,rfl⟩
 tr:=λh h'=>⟨h'.1.trans h.1,h.2.1.trans h'.2.1,h'.2.2.trans h.2.2⟩
 mu:=λh=>by have:=h.2.1.cnt; omega
 Z0:=λt w h=>by
  have h0:w.heap[G.x.b]? = some (.cells (cH.cells (G.x.rv t.d.n)).toArray 122 (0,0)):=h.1;refine ⟨.inl ?_,.inl ?_,.inl ?_⟩ <;> (simp only [World.cell?,h0]; rfl)
 QD:=λt o w keep hr hf hA hU hUf hkp=>by
  have hlt:s.sb < w.heap.size:=hA.2 _ (.inr (.inl rfl));have hln:=hr.len;have om:=hr.en hk;have hw:=LF (H:=t.G) (k:=k) (n:=t.d.n) (e:=t.e.up) (by omega);refine (KF o ⟨⟨o,0⟩,rfl⟩ hsb (t.G,t.nx k,(ShR G t.d).c9) ((hP.st _ _ _ _).2 ⟨λj hj=>GV hj,?_,?_⟩) w keep (ZG hP hr.fa hA hU) (λb hb=>hU b ((uO t b).2 hb)) (by omega) λb hb=>⟨(hkp b hb).1,(hkp b hb).2.1,λh=>(hkp b hb).2.2 ((uO t b).2 h)⟩).mono (λ_ h=>h) ?_
  ·show AG G.ss (TB t.G) (TB (t.nx k));rw [TT.nx,hw]; exact hr.le
  ·show (qe (t.nx k) k).tn = (qe t.G k).tn + 1;rw [om,hr.tn]; rfl
  rintro e w' ⟨⟨H,H',F⟩,⟨h1,h2⟩,he,hk',ha,hfoot⟩;obtain rfl:H = H':=h1;obtain⟨d,GM,hd⟩:=Zu hP ha;obtain⟨r1,r2⟩:=(hP.r _ _ _).1 h2;replace r1:qe H k = _:=r1.trans om;obtain⟨a1,a2⟩:=GM.e k hk;rw [r1] at a1 a2;refine ⟨⟨H,d,t.e.up⟩,⟨⟨?_,aL Hc.tn r1,?_⟩,⟨rfl,.inl rfl,rfl⟩,rfl,rfl,by show 1999 - t.e.tn <= 1999 - (t.e.tn + 1) + 1; omega⟩,he,hk',(hd _).1,λb hb=>hfoot b ((hd _).2 b hb)⟩
  ·refine FA.put (a:=0) hO.g GM hk (.inl ⟨(aL Hc.s r1).symm,rfl⟩) ((aL Hc.ln r1).symm.trans (a9 _).symm) rfl GM.run a1 ?_;show t.e.tn + 1 + 1 <= 2000;have hf:0 < 1999 - t.e.tn:=hf;omega
  ·show AG G.ss (TB H) d.n;rw [GM.wd]; exact .inl rfl
 load:=λt w hr hA=>by
  have hb:G.x.b < w.heap.size:=hA.2 _ (.inl rfl);have hp:eK lG w G.x.b 3 t.d.n:=by
   have h0:w.heap[G.x.b]? = some (.cells (cH.cells (G.x.rv t.d.n)).toArray 122 (0,0)):=hA.1.1;intro j u hu
   match j,hu with
   | 0,hu=>simp only [World.cell?,h0]; exact hu
   | j + 1,hu=>simp [lG,Vl] at hu
  obtain⟨hw,hl⟩:=hr.wf hk;have hr':=hr.ahn hO.g hk;exact (E8 G.x.b 3 t.d.n w hp _ 0 (bu _) (λ_ h=>h.elim)).mono (λ_ h=>h.elim) λe w' ⟨h1,h2⟩=>⟨_,⟨hr',⟨rfl,hl,rfl⟩,hw,rfl,rfl⟩,h1,h2.mono (λ_ h=>h.elim),(vG G s t).st w w' (λb hb'=>h2.block b (hA.2 b hb') id) hA.1,λb hb'=>⟨.inl hb',aD (hA.2 b hb') h2.size⟩⟩
 cas:=λt dr w hr hA hwf h1 h2=>by
  by_cases hx:t.d.n = t.e.s.1
  ·obtain⟨m,hm⟩:∃ m,Ie G.ss t.e.s.1 dr = m:=⟨_,rfl⟩;have hc:=Yo hA m dr (Kc Tryz.prog (λv=>∃ m,v = mJ m false) k s);rw [hx] at hc;rw [hm];refine hc.mono (λ_ h=>h) ?_;rintro e w' ⟨_,_,g1,g2,g3,g4⟩;exact ⟨(true,t.Xz m dr),⟨λ_=>⟨⟨hr,hx,T5 hwf h1 h2,m,rfl,rfl⟩,rfl⟩,λe=>by cases e⟩,g1,g2,g3,g4⟩
  ·obtain⟨hw,hl⟩:=hr.wf hk;refine (acv hA _ _ hx _).mono (λ_ h=>h) ?_;rintro e w' ⟨_,_,g1,g2,g3,g4⟩;refine ⟨(false,t.see),⟨λe=>(by cases e),λ_=>⟨hr.ahn hO.g hk,⟨rfl,hl,rfl⟩,?_,rfl⟩⟩,g1,g2,g3,g4⟩;have k5:rU G.ss t.e.s.1 < rU G.ss t.d.n:=by
    rcases hl with hl | ⟨_,hl,_⟩
    ·exact absurd hl.symm hx
    ·exact hl
   have k6:=hw.Wu;show xH G.ss - rU G.ss t.d.n < xH G.ss - rU G.ss t.e.s.1;omega
end
instance {L M:List du} [h:ry L] [k:ry M]:ry (L ++ M):=⟨λq hq=>(bG.1 hq).elim (h.s q) (k.s q)⟩
section
variable {P:Program} {K:Ctx} {F:Fr} {L L' L1 L2 L3 L4 L5 L6:List du} {X:Act->World->Prop} {U kp:Nat->Prop} {r:du} {G:Gt} {s:aC} {u:TT} {w w0:World}
theorem acy {Y:Type} {Q:Exit->Act->World->Prop} {N:Act->World->Prop} {ops:Array Oper} {ty:TypeId} {pos:String} {af:Array Edge} {d:Nat} {f:FuncId} {args:List Operand} {qJ:Array TypeId} {vs:List Value} {r':Y->du} {L':Y->List du} (h:QR K U kp) (J:Y->Prop) (val:Y->Value) [ry L] (hu:∀ x,mS L r (r' x) (L' x)) (hm:r ∈ L) (om:dV P f) (fQ:lM F true args vs)
 (hC:∀ w,bS K L w->At r w->lN (xP kp L r) r w->iQ K.E.X K.E.fr P f vs.toArray w (qy U (xP kp L r) w J val r')) (next:∀ x,J x->Sat K N ((d,true,val x) :: F) (L' x)) (hd:Nat.blt d K.n = true:=by rfl) :
 Sat K (dw P K ops Q ⟨some d,.call { callee:=.value (.func f),args:=args.toArray,argTypes:=qJ },ty,pos,af,none⟩ N) F L :=
 zH (λw=>qy U (xP kp L r) w J val r') J val L' om fQ (λw I=>hC w I (at_mem hm w I) (pK h I hm)) (λw I b hb=>.inr ((h.m b).2 ⟨hb.1,λhk=>hb.2 (.inl hk)⟩))
  (λw I u w' ⟨x,hJ,he,hk,ha,hf⟩=>⟨x,hJ,by cases he; rfl,I.Q9 h (hu x) hk ha hf⟩) next hd
theorem Pc {α:Type} {v:Value} {E:dy α} {xs:List α} {T:TypeId} (I:bS K L w) (hr:lC L r L') (h:bY v E xs T ∈ L'):∀ w2,bf (λb=>U b /\ ¬ xP kp L r b) w w2->bU E w2 v xs:=λw2 k=>by
 have h1:=I.perm hr.perm;have h2:=(bC.1 h1.Jj).1 _ h;have h3:=h1.own _ (aF _ h);exact bU.lJ ((bY v E xs T).st w w2 (λb hb=>k.block b (h3.2 b hb).2 λhn=>hn.2 (.inr ⟨_,hr.perm.mem_iff.1 (aF _ h),hb,λhb'=>h2 b hb' hb⟩)) h3.1)
def kpB {w2:World} (k1:bf (λb=>U b /\ ¬ kp b) w0 w) (k2:bf (λb=>U b /\ ¬ xP kp L r b) w w2):bf (λb=>U b /\ ¬ kp b) w0 w2:=k1.trans (k2.mono λb hb=>⟨hb.1,λh=>hb.2 (.inl h)⟩)
/-- One thing is taken for another. -/
theorem MW {r r':du} (hA:∀ w,r.A w->r'.A w) (hf:∀ b,r'.c9 b->r.c9 b) (h:lC L r L') (next:Sat K X F (r' :: L')):Sat K X F L:=λa w G =>
 next a w ⟨G.fo,by
  obtain⟨h1,h2,h3,h4⟩:=G.inv.perm h.perm;rw [bC] at h3;refine ⟨h1,λq hq=>?_,bC.2 ⟨λq hq b hb hb'=>h3.1 q hq b (hf b hb) hb',h3.2⟩,h4⟩
  rcases aE.1 hq with rfl | hq
  ·exact ⟨hA _ (h2 r ah).1,λb hb=>(h2 r ah).2 b (hf b hb)⟩
  ·exact h2 q (aF _ hq)⟩
theorem Zs (h:lC L (vG G s u) L') (next:Sat K X F (bY u.d.o.v aab (u.d.es.map EN.x) 106 :: PKs u.d.es :: Var G.lb (dJ aM) u.d.o 95 :: Ok s u.G :: VRt G u.d.n :: L')):Sat K X F L :=
 oc h (oc (r:=Ok s u.G) (.tail .head) (oc (.tail .head) (oc (.tail .head) next)))
theorem Uh {H:Gh} {n:UInt64} {es:List EN} {o:OV} {xs:List q7} (en:Hc) (e:EN) (e1:xs = es.map EN.x ++ [e.x]) (h1:lC L (bY e.x.job.Ad.v iO e.bs 5) L1) (h2:lC L1 (PKs es) L2) (h3:lC L2 (bY o.v aab xs 106) L3) (h4:lC L3 (Var G.lb (dJ aM) o 95) L4) (h5:lC L4 (Ok s H) L5) (h6:lC L5 (VRt G n) L6) (next:Sat K X F (vG G s ⟨H,⟨n,o,es ++ [e]⟩,en⟩ :: L6)):Sat K X F L:=by
 have e2:xs = (es ++ [e]).map EN.x:=by rw [e1]; simp
 subst e2;exact mI (r:=e.R) h1 h2 (MW (λw=>abV) (λb=>(aar e b es).1) .head (mI (.tail h3) .head (mI (.tail h4) .head (mI (.tail h5) .head (mI (.tail h6) .head next)))))
end
/-- A Ad has passed,and is not written down yet. -/
structure Mid (G:Gt) (i:Nat) (bs:List UInt8) (a:Int) (k ln:Nat) (u:TT):Prop where
 le:u.d.es.length <= G.cnt * 12
 fin:∀ (o:OV) (x:q7),x.job.ta = a->x.v = (if k = 1 then pV G.l1 G.d1 a bs else pV G.l2 G.d2 a bs)->x.new = decide (k ≠ 1)->ln + 1 <= 12->rq G i ⟨u.G,⟨u.d.n,o,u.d.es ++ [⟨x,bs⟩]⟩,⟨u.e.s,u.e.tn,ln + 1,u.e.mo⟩⟩
section
variable {G:Gt} {i k ln:Nat} {bs:List UInt8} {a:Int} {t u:TT}
theorem acX {n:UInt64} {x:q7} (he:pE bs = 0) (hk:mV G.ss n bs = k) (h1:x.job.ta = a) (h2:x.v = (if k = 1 then pV G.l1 G.d1 a bs else pV G.l2 G.d2 a bs)) (h3:x.new = decide (k ≠ 1)):okE G n ⟨x,bs⟩:=by
 subst hk h1;exact ⟨he,h2,h3⟩
theorem Ny (hg:kJ G.ss) (hi:i < G.cnt) (h:rq G i u) (h1:u.e.ln = ln) (hn:u.d.n = u.e.s.1) (he:pE bs = 0) (h3:mV G.ss u.e.s.1 bs = k) (h4:k ≠ 2):Mid G i bs a k ln u:=by
 subst h1;refine ⟨h.fa.adw,λo x x1 x2 x3 hl=>h.put (a:=1) hg hi rfl (.inl ⟨rfl,rfl⟩) (.inl rfl) (kK _ _) (by simp) (h.fa.run.add (acX he (hn ▸ h3) x1 x2 x3) ?_ (h.wf hi).1) hl⟩;show EU _ _ _ _ u.d.n bs = u.d.n;unfold EU;rw [hn,h3,if_neg h4]
theorem Xj {dr:Bool} (hg:kJ G.ss) (hi:i < G.cnt) (h:rq G i t) (h1:t.e.ln = ln) (hn:t.d.n = t.e.s.1) (h0:(bh t.e.s.1).end_.toNat = 0) {m:UInt64} (hm:Ie G.ss t.e.s.1 dr = m) (hd:T8 G.l2 G.d2 a bs = dr) (he:pE bs = 0) (hw:xW G.ss t.e.s.1) (h3:mV G.ss t.e.s.1 bs = 2):Mid G i bs a 2 ln (t.Xz m dr):=by
 subst h1;have hle:=AG.next hg hw h0 dr;have hwm:=(Nr hg hw h0 dr).1;rw [hm] at hle hwm;refine ⟨h.fa.adw,λo x x1 x2 x3 hl=>?_⟩;refine h.put (a:=1) (d':=⟨m,o,t.d.es ++ [⟨x,bs⟩]⟩) (e:=⟨(m,t.e.s.2.1 + 1,t.e.s.2.2 + dr.toNat),t.e.tn,t.e.ln + 1,t.e.mo⟩) hg hi rfl (.inr ⟨_,_,_,rfl,.inr ⟨t.e.s.1,dr,by rw [hn],h0,by rw [hm],rfl⟩⟩) (hn ▸ hle) (kK _ _) (by simp) (h.fa.run.add (acX he (hn ▸ h3) x1 x2 x3) ?_ hwm) hl;show EU _ _ _ _ t.d.n bs = m;unfold EU;subst x1;rw [hn,h3,if_pos rfl,hd,hm]
variable [av] {s:aC} {hP:JX G} {hO:DO G} {hsb:av.N0 <= s.sb} {hi:i < G.cnt} {dr:Bool}
theorem SF {r:Nat × TT} (hR:xH G.ss <= 60) (h:aad (M8 hP hO hi hsb) t dr bs r) (ht:t.e.tn <= 1800) (he:pE bs = 0) (hd:T8 G.l2 G.d2 a bs = dr):Mid G i bs a r.1 t.e.ln r.2 /\ r.2.e.tn <= t.e.tn + 122:=by
 obtain⟨k,u⟩:=r;obtain⟨t1,⟨h1,h2,h3⟩,h5,h6,h7,h8,h9⟩:=h;have hb:u.e.tn <= t.e.tn + 122:=by
  have h9:1999 - t.e.tn <= 1999 - u.e.tn + 2 * (xH G.ss - rU G.ss t.e.s.1) + 2:=h9;omega
 refine ⟨?_,hb⟩
 by_cases hk:k = 2
 ·subst hk;obtain⟨q1,q2,q3,m,q4,rfl⟩:=h7 rfl;exact Xj hO.g hi q1 h3 q2 q3 q4 hd he h5 h6
 ·obtain⟨rfl,q1,q2⟩:=h8 hk;exact Ny hO.g hi q1 h3 q2 he h6 hk
theorem rq.st (hP:JX G) (hr:rq G i u) (hi:i < G.cnt) (x:Value):av.St i x u.G (u.nx i):=by
 have hln:=hr.len;refine (hP.st _ _ _ _).2 ⟨λj hj=>GV hj,?_,?_⟩
 ·rw [TT.nx,LF (by omega)]; exact hr.le
 ·rw [hr.en hi,hr.tn]; rfl
/-- It is over. -/
theorem aaU {n:Nat} {e0:En} {w0:World} {L:List du} {kp:Nat->Prop} {x:Value} (hP:JX G) (hi:i < G.cnt) (hr:rq G i u) (hm:vG G s u ∈ L) (hN:av.N0 <= w0.heap.size) (hkp:∀ b,kp b->b < w0.heap.size) (w:World) (I:bS ⟨n,w0,λb=>fq b /\ ¬ kp b,e0⟩ L w):qy fq kp w0 (λz:TZ=>av.St i x z.1 z.2.1) (λ_=>.tuple #[]) (HT i s) (.returned (.tuple #[])) w:=by
 have hpm:∀ b,(vG G s u).c9 b->fq b /\ ¬ kp b:=λb hb=>((I.own _ hm).2 b hb).1.elim (λh=>⟨.inl (az hN h),λhk=>by have:=hkp b hk; have h:w0.heap.size <= b:=h; omega⟩) id
 have hA:=ZG (k:=i) hP hr.fa (at_mem hm w I) λb hb=>(hpm b hb).1
 exact ⟨_,hr.st hP hi x,rfl,I.keeps,hA.1,λb hb=>⟨(hpm b ((uO u b).2 hb)).1,(hpm b ((uO u b).2 hb)).2,hA.2 b hb⟩⟩
end
/-- It begins. -/
theorem O5 {G:Gt} (hg:kJ G.ss) {H:Gh} {d:SD} {i:Nat} (hi:i < G.cnt) (h:FA G H d) (hz:qe H i = ⟨(0,0,0),0,0,0⟩):rq G i ⟨H,d,⟨(0,0,0),0,0,0⟩⟩:=by
 refine ⟨FA.put (d':=d) (a:=0) (e:=Hc.up ⟨(0,0,0),0,0,0⟩) hg h hi (.inl ⟨by rw [hz]; rfl,rfl⟩) (by rw [hz]; rfl) rfl h.run (by decide) (by decide),by rw [hz],.inl h.wd⟩
def Y95:=@Tryz.underlying95
def alh:=@Tryz.underlying106
def abY:ot 95 (dJ aM):=oq
def z95:zI 95 (dJ aM):=kI
def abH:ot 106 aab:=oq
def ahh:zI 106 aab:=kI
def ahg:DV 106 aab 88:=kB
def ahc:Eo aab:=Hk _
def z62:zI 62 gC:=kI
def aiC:ot 37 (dJ dB):=oq
def acT:ot 100 Jg:=oq
theorem XV [av] (G:Gt) (hP:JX G) (hO:DO G) (i:Nat) (s:aC) (hi:i < G.cnt) (hsb:av.N0 <= s.sb) (p1 p2 p3:Nat) (H0:Gh) (d:SD) (GM:FA G H0 d) (hz:qe H0 i = ⟨(0,0,0),0,0,0⟩) (kp:Nat->Prop) (w:World) (hA:At (vG G s ⟨H0,d,⟨(0,0,0),0,0,0⟩⟩) w) (Hl:lN kp (vG G s ⟨H0,d,⟨(0,0,0),0,0,0⟩⟩) w) (hpm:∀ b,(vG G s ⟨H0,d,⟨(0,0,0),0,0,0⟩⟩).c9 b->fq b) (H:∀ w',bf (λb=>fq b /\ ¬ kp b) w w'->ME w' G i p1 p2 p3) (xo:Value):iQ (Kc Tryz.prog (λv=>∃ m,v = mJ m false) i s) 0 Tryz.prog 23 #[(IF 147 (ptr s.sb)).v,.pointer (some ⟨p1,0,none⟩),.pointer (some ⟨p2,0,none⟩),.pointer (some ⟨p3,0,none⟩),.pointer (some ⟨G.lb,0,none⟩)] w (qy fq kp w (λz:TZ=>av.St i xo z.1 z.2.1) (λ_=>.tuple #[]) (HT i s)):=by
 have hG:=H w (.refl _ _);have hrl:=(hG.row i (by have:=hG.lt; have:=hG.len; omega)).le;have hN:=Nat.le_of_lt (Nat.lt_of_le_of_lt hsb (hA.2 _ (.inr (.inl rfl))));have hUf:∀ b,w.heap.size <= b->fq b:=λb h=>.inl (az hN h)
 refine wM 60 _ Tryz.func23 rfl rfl (aT rfl) (bu _) (λ_ _=>bu _) (λok=>zX hA hpm Hl _ ok) ?_;refine m156 ?_;refine nP (block (lp (X:=Int × TT) (λx=>(0 <= x.1 /\ x.1 <= (G.row i).length) /\ (rq G i x.2) /\ ((x.2.e.ln:Int) = x.1) /\ ((x.2.e.tn:Int) <= 123 * x.1)) (λx=>[dz,(0,true,(IF 147 (ptr s.sb)).v),(1,true,jc p1),(2,true,jc p2),(3,true,jc p3),(4,true,jc G.lb),(6,true,I x.1)]) (λx=>[vG G s x.2]) (λx=>((G.row i).length - x.1).toNat) (0,(⟨H0,d,⟨(0,0,0),0,0,0⟩⟩:TT)) ⟨?_,?_,?_,?_⟩ (λx hx=>?_)))
 ·omega
 ·exact O5 hO.g hi GM hz
 ·rfl
 ·simp
 obtain⟨k,t⟩:=x;dsimp only at hx;obtain⟨hk,ht,htl,hft⟩:=hx;refine m16 ?_;refine m40 ?_;refine co (Ev.indexAddr UR Bl aa aa (λw I=>(H w I.keeps).rows) (λ_=>by have:=hG.len; omega)) ?_;refine co (Ev.to (v':=(G.VC.getD i aM).v) (Ev.eT Bl aa (λw I=>(H w I.keeps).rows) (λ_=>by have:=hG.len; omega)) (by rfl)) ?_;refine co (Ev.len Y49 aa (λw I=>(H w I.keeps).row i (by have:=hG.len; omega))) ?_;refine m300 ?_;refine nP ?_;refine ig rfl (λhlt=>?_) (λhge=>?_)
 ·refine m21 ?_;refine seq ?_;obtain⟨xh,hxh⟩:∃ z,(G.row i).getD k.toNat gC.zero = z:=⟨_,rfl⟩;obtain⟨dt,hdt⟩:∃ z,G.J8 i k.toNat = z:=⟨_,rfl⟩;obtain⟨bs,hbs⟩:∃ z,mL (mD xh.h) (Br xh.h dt) = z:=⟨_,rfl⟩;have h12:=hO.xQ i;have h6:=hG.xQ;have hpe:pE bs = 0:=hbs ▸ aa2 _ _;refine region ?_;refine m40 ?_;refine co (Ev.indexAddr UR Bl aa aa (λw I=>(H w I.keeps).rows) (λ_=>by have:=hG.len; omega)) ?_;refine co (Ev.to (v':=(G.VC.getD i aM).v) (Ev.eT Bl aa (λw I=>(H w I.keeps).rows) (λ_=>by have:=hG.len; omega)) (by rfl)) ?_;refine mv rfl (co (Ev.indexAddr Y49 V6 aa aa (λw I=>(H w I.keeps).row i (by have:=hG.len; omega)) (λ_=>zo)) ?_);refine co (Ev.nm (o:=2) (i:=k) aa (λw I=>(H w I.keeps).row i (by have:=hG.len; omega)) (λ_=>⟨by omega,by omega⟩) zk) ?_;refine co (Ev.to (v':=bm.val xh.h) (Ev.y5 rm cZ.l_h rfl aa (λw I=>(H w I.keeps).row i (by have:=hG.len; omega)) (λ_=>⟨by omega,by omega⟩)) (by rw [hxh]; rfl)) ?_;refine cons (iP _ _ _ eN (o1 rfl) (λw I=>Ww xh.h dt w (hxh ▸ hdt ▸ (H w I.keeps).J8 i k.toNat (by have:=hG.len; omega) (by omega))) (λx1 _=>?_));refine cons (iP _ _ _ eN (o1 rfl) (λw I=>SM xh.h dt x1 bs w (io w I) hbs) (λx2 _=>?_));refine m4 ?_;refine m41 ?_;refine seq ?_;obtain⟨dr,hdr⟩:∃ z,T8 G.l2 G.d2 xh.ta bs = z:=⟨_,rfl⟩;refine region ?_;refine m40 ?_;refine co (Ev.indexAddr UR Bl aa aa (λw I=>(H w I.keeps).rows) (λ_=>by have:=hG.len; omega)) ?_;refine co (Ev.to (v':=(G.VC.getD i aM).v) (Ev.eT Bl aa (λw I=>(H w I.keeps).rows) (λ_=>by have:=hG.len; omega)) (by rfl)) ?_;refine mv rfl (co (Ev.indexAddr Y49 V6 aa aa (λw I=>(H w I.keeps).row i (by have:=hG.len; omega)) (λ_=>zo)) ?_);refine co (Ev.nm (o:=1) (i:=k) aa (λw I=>(H w I.keeps).row i (by have:=hG.len; omega)) (λ_=>⟨by omega,by omega⟩) zk) ?_
  refine co (Ev.to (v':=I xh.ta) (Ev.y5 l9 cZ.rF rfl aa (λw I=>(H w I.keeps).row i (by have:=hG.len; omega)) (λ_=>⟨by omega,by omega⟩)) (by rw [hxh]; rfl)) ?_;refine mv rfl (co (Ev.fe (places:=[(0,1),(1,1),(2,1)]) aeg rfl ag2 zk (.cons aa (.cons aa .nil)) (bB.cons mU.rF rfl (bB.cons mU.wz rfl bB.nil))) ?_);refine cons (alloc aeg (λb1=>?_));refine cons (j8 acT (aB.id _) aa aa ?_);refine m143 ?_;refine region ?_;refine co (Ev.to (v':=.pointer _) (Ev.load aiC aa (jJ (λw I=>(H w I.keeps).g3) (aB.id _))) (rfl)) ?_;refine mv rfl ?_;refine m282 ?_;refine cons (acy (Y:=Nat × TT) (r:=vG G s t) (ZD Hl) _ (λr=>.tuple #[dK.val (if r.1 = 1 then pV G.l1 G.d1 xh.ta bs else pV G.l2 G.d2 xh.ta bs),.bool (decide (r.1 ≠ 1)),I 0]) (λ_=>zu) zm eN (o3 rfl rfl rfl) (λw I hA hk=>Ni G.x G.l1 G.l2 G.d1 G.d2 G.ss (M8 hP hO hi hsb) t ht (show 2 * (xH G.ss - rU G.ss t.e.s.1) + 2 <= 1999 - t.e.tn from by have:=hO.Wu; omega) dr ⟨0,xh.ta,x2⟩ bs _ w (bu _) (λ_ _=>bu _) hA (λb hb=>((I.own _ (show vG G s t ∈ _ from zm)).2 b hb).1.elim (hUf b) (·.1)) (λb hb=>hUf b (az I.keeps.size hb)) hk (λw2 k2=>(H w2 (kpB I.keeps k2)).aeW) (Pc (v:=x2.v) I zr zm) hO.p hO.q (by have:=hO.g.l; omega) hpe hdr) (λr hr=>?_));refine m241 ?_;refine alloc vH (λb2=>?_);refine m59 ?_;refine m41 ?_;obtain⟨hm,hmt⟩:=SF hO.Wu hr (by omega) hpe hdr;have hle:=hm.le;obtain⟨V,hV⟩:∃ z,(if r.1 = 1 then pV G.l1 G.d1 xh.ta bs else pV G.l2 G.d2 xh.ta bs) = z:=⟨_,rfl⟩;rw [hV];refine Zs zr ?_;refine region (co (Ev.gS abY aa (aB.id _)) ?_);refine m282 ?_;refine co (Ev.to (v':=dK.val V) (Ev.gS p8 aa (aB.id _)) rfl) ?_;refine mv rfl (co (Ev.fe (places:=[(0,3),(3,5),(8,1)]) ahh rfl alh zk (.cons aa (.cons aa (.cons aa .nil))) (bB.cons q7.ac7 rfl (bB.cons q7.Vr rfl (bB.cons q7.xO rfl bB.nil)))) ?_)
  refine cons (buildSlice Y95 abH ahh (.cons aa .nil) rfl rfl (λv3=>?_));refine cons (vL Y95 abH ahg ahc aa aa (λv4=>?_));refine cons (j8 abY (aB.id _) aa aa ?_);refine nil (bN (pN (Uh ⟨r.2.e.s,r.2.e.tn,t.e.ln + 1,r.2.e.mo⟩ ⟨⟨⟨0,xh.ta,x2⟩,V,decide (r.1 ≠ 1)⟩,bs⟩ rfl zr zr zr zr zr zr ?_)));refine m34 ?_;refine vK rfl (nP (Sv (k + 1,(⟨r.2.G,⟨r.2.d.n,v4,r.2.d.es ++ [⟨⟨⟨0,xh.ta,x2⟩,V,decide (r.1 ≠ 1)⟩,bs⟩]⟩,⟨r.2.e.s,r.2.e.tn,t.e.ln + 1,r.2.e.mo⟩⟩:TT)) ⟨?_,?_,?_,?_⟩ ?_))
  ·try dsimp only
   omega
  ·exact hm.fin v4 ⟨⟨0,xh.ta,x2⟩,V,decide (r.1 ≠ 1)⟩ rfl hV.symm rfl (by omega)
  ·show ((t.e.ln + 1:Nat):Int) = k + 1;omega
  ·show (r.2.e.tn:Int) <= 123 * (k + 1);omega
  ·try dsimp only
   omega
 ·refine m102 ?_;refine zA rfl .nil (λw I=>?_);exact aaU hP hi ht zm hN (λb hb=>(Hl b hb).1) w I
theorem RY:∀ l:List OV,(dJ iG).row l = l.map OV.v
 | []=>rfl
 | x :: l=>by rw [dq,<- RY l]; rfl
def RJ:Bool->Value->Prop:=λb v=>∃ m,v = mJ m b
def Cc (G:Gt) (F0:Nat->Prop) (C:Nat) (tv:Nat->Value):xX where
 n:=G.cnt
 F0:=F0
 G0:=ZY G.cnt
 C:=C
 tv:=tv
 SA:=SAT G
 St:=StT G.ss
 R:=RT G.ss
 rr:=λ_ _=>⟨rfl,.inl rfl⟩
 rs:=λh hk hs=>⟨(hs.1 _ (cN hk)).trans h.1,h.2.trans hs.2.1⟩
 loc:=Wr
 iL:=λh hb=>h.1 _ hb
 up:=λ⟨_,d,h2,h3,h4⟩ hF h=>⟨h,d,h2,h3,λb hb=>hF b (h4 b hb)⟩
/-- How many turns each has had. -/
def IvT (cnt:Nat):YK:=λ_ H tl fl _=>tl.length + fl.length = g7 (λk=>(qe H k).tn) cnt /\ fl.length <= cnt
theorem IE {ss:List bj} {H H':Gh} {k:Nat} {x:Value} (h:StT ss k x H H') {B:Nat} (hk:k < B):g7 (λk=>(qe H' k).tn) B = g7 (λk=>(qe H k).tn) B + 1 :=
 yP (f:=λk=>(qe H k).tn) (g:=λk=>(qe H' k).tn) (i:=k) (a:=1) (by show (qe H' k).tn = 1 + (qe H k).tn; rw [h.2.2,kK]) (λj hj=>by show (qe H' j).tn = (qe H j).tn; rw [h.1 j hj]) hk
theorem abz {G:Gt} (h6:G.cnt <= 6) {F0:Nat->Prop} {C:Nat} {tv:Nat->Value} (N0:Nat) (Sn:Loc->Prop) (W1:World) (h:∀ k,k < G.cnt->Has C k (tv k) W1):@Ek ((Cc G F0 C tv).at N0 Sn W1 h) RJ (IvT G.cnt) :=
 letI:av:=(Cc G F0 C tv).at N0 Sn W1 h
 { start:=λms=>⟨by
  have e:∀ B,g7 (λk=>(qe (ZY G.cnt) k).tn) B = 0:=λB=>by
   rw [oO (g:=λ_=>0) λk _=>by rw [X2],ni,Nat.mul_zero]
  exact (e _).symm,bu _⟩
   hire:=λ{H H' fl ms b m} ⟨h1,h3⟩ hl _ hs=>by
    have hl:fl.length < G.cnt:=hl;have hs:StT G.ss fl.length (mJ m b) H H':=hs;refine ⟨?_,by grind⟩
    grind [IE]
   skip:=λh _=>h
   uf:=λ{aq H H' tl fl ms b m i} ⟨h1,h3⟩ hi hl _ _ hs=>by
    have hs:StT G.ss i.toNat (mJ m b) H H':=hs;have e:(fl.set i.toNat (if b then 0 else 1)).length = fl.length:=by simp
    refine ⟨?_,by rwa [e]⟩
    grind [IE]
   xQ:=λ{aq H F tl fl ms v} ⟨h1,_⟩ hsa=>by
    obtain⟨_,d,GM,_⟩:SAT G H F v:=hsa;have:=tB λk hk=>(GM.e k hk).2
    rw [ni] at this;omega }
theorem OI {G:Gt} (hO:DO G) {F0:Nat->Prop} {C:Nat} {tv:Nat->Value} {N0:Nat} {Sn:Loc->Prop} {W1:World} (h:∀ k,k < G.cnt->Has C k (tv k) W1) {u0 V0:World} (hu:u0.heap.size <= N0) (hV:bf fX u0 V0) {i:Nat} (hi:i < G.cnt) {p1 p2 p3:Nat} (H:∀ w',bf F0 u0 w'->ME w' G i p1 p2 p3) :
 @wP ((Cc G F0 C tv).at N0 Sn W1 h) RJ V0 i 23 #[.pointer (some ⟨p1,0,none⟩),.pointer (some ⟨p2,0,none⟩),.pointer (some ⟨p3,0,none⟩),.pointer (some ⟨G.lb,0,none⟩)]:=by
 letI:av:=(Cc G F0 C tv).at N0 Sn W1 h;have hP:JX G:=⟨λ_ _ _=>.rfl,λ_ _ _ _=>.rfl,λ_ _ _=>.rfl⟩;intro s zt kp u hsb h1 h2 hV2 hA hk;obtain⟨H0,H1,F⟩:=zt;obtain rfl:H0 = H1:=h1;obtain⟨d,GM,hd⟩:=Zu hP hA.1;have hz:qe H0 i = ⟨(0,0,0),0,0,0⟩:=(((hP.r _ _ _).1 h2).1).trans (X2 _ _);exact XV G hP hO i s hi hsb p1 p2 p3 H0 d GM hz kp u ⟨(hd _).1,λb hb=>hA.2 b ((hd _).2 b hb)⟩ (λb hb=>⟨(hk b hb).1,(hk b hb).2.1,λh=>(hk b hb).2.2 ((hd _).2 b h)⟩) (λb hb=>((hd _).2 b hb).elim (λe=>.inl (e ▸ hsb)) (hA.1.2.2 b))
  (λw' k=>H w' ((((hV.mono λ_ h=>h.elim).trans' hV2 λb hb hp=>hp.elim (λh=>by have h:N0 <= b:=h; omega) id).trans' k λb hb hp=>hp.1.elim (λh=>by have h:N0 <= b:=h; omega) id))) _
structure TY where
 d:SD
 p:fU
structure TY.J (G:Gt) (y:TY):Prop where
 h:aae G y.d.n y.d.es
 le:y.d.es.length <= G.cnt * 12
 c:y.p.cut = aM
theorem Sd {G:Gt} {F0:Nat->Prop} {C:Nat} {tv:Nat->Value} {u0:World} {xs:List Int} {v:World} {p:fU} {rp:Nat} (h:xu (Cc G F0 C tv) (IvT G.cnt) xs u0 p rp v) :
 ∃ d,TY.J G ⟨d,p⟩ /\ bf F0 u0 v /\ (ShR G d).A v /\ ∀ b,(ShR G d).c9 b->(F0 b \/ u0.heap.size <= b) /\ b < v.heap.size:=by
 obtain⟨aq,H,F,tl,fl,ms,_,hl,_,_,hc,_,I⟩:=h;obtain⟨hsa,hf⟩:=I.own ((Cc G F0 C tv).res H F) (by simp);obtain⟨_,d,GM,hA,hF⟩:SAT G H F v:=hsa;refine ⟨d,⟨GM.run,GM.adw,hc⟩,I.keeps,hA,λb hb=>?_⟩;obtain⟨a,b'⟩:=hf b (hF b hb);exact ⟨a.elim .inr .inl,b'⟩
def RI:SD:=⟨0,aM,[]⟩
def acw (d r l k:Nat):List Value:=[.pointer (some ⟨d,0,none⟩),.pointer (some ⟨k,0,none⟩),.pointer (some ⟨r,0,none⟩),.pointer (some ⟨l,0,none⟩)]
/-- What there is of the threads' functions. -/
structure PX where
 run:OV
 d:Nat
 r:Nat
 l:Nat
 ks:List Nat
def PX.cap (x:PX):Nat->List Value:=acw x.d x.r x.l
def Yp (z:PX) (i:Nat):List Value:=z.cap (z.ks.getD (z.ks.length - 1 - i) 0)
section
variable {K:Ctx} {F:Fr} {L L1 L3:List du} {X:Act->World->Prop} {Q:Exit->Act->World->Prop} {N:Act->World->Prop} {ops:Array Oper} {ty:TypeId} {pos:String} {af:Array Edge} {d:Nat} {op op2:Operand} {qJ:Array TypeId}
/-- What is to be shared is put together. -/
theorem aiH {G:Gt} (h1:lC L (Var G.lb (dJ aM) aM 95) L1) (h3:lC L1 (Var G.x.b cH (G.x.rv 0) 122) L3) (next:Sat K X F (ShR G RI :: L3)):Sat K X F L :=
 jf aab 106 (acg (mI (r:=bY aM.v aab [] 106) (s:=PKs []) (.tail .head) .head (mI (.tail h1) .head (mI (.tail h3) .head next))))
theorem Uq (hX:K.E.X = XPl) (uK:K.E.fr = 0) {z:PX} {G:Gt} {xs:List Int} {ou:Value} {L':TY->List du} (h0:0 < G.cnt) (h6:G.cnt <= 6) (va:cV F true op ou) (hx2:cV F true op2 z.run.v) (hO:DO G) (hk:z.ks.length = G.cnt) (hl:z.l = G.lb) (hxl:xs.length <= 16384)
 (hr:lC L (ShR G RI) L1) (hm:bY z.run.v (dJ iG) (zi z.cap z.ks) 64 ∈ L1) (hu:∀ y,mS L (ShR G RI) (ShR G y.d) (L' y))
 (ho:∀ w,bS K L1 w->bU iE w ou xs) (hA:∀ w,bS K L1 w->∀ i,i < G.cnt->ME w G i z.d (z.ks.getD (z.ks.length - 1 - i) 0) z.r)
 (next:∀ y:TY,y.J G->Sat K N ((d,true,.tuple #[iN.val y.p,I 0]) :: F) (L' y)) (hd:Nat.blt d K.n = true:=by rfl) :
 Sat K (dw Tryz.prog K ops Q ⟨some d,.call { callee:=.value (.func 15),args:=#[op,op2],argTypes:=qJ },ty,pos,af,none⟩ N) F L:=by
 refine zH (X:=TY) (λw=>Gx.mE w (ShR G RI) (TY.J G) (λy=>.tuple #[iN.val y.p,I 0]) λy=>ShR G y.d) (TY.J G) _ L' (dV.mk' zk) (.cons va (.cons hx2 .nil)) (λw I=>?_) (λw I b hb=>((I.own _ (hu ⟨RI,fU.mk aM aM⟩).mem).2 b hb).1)
  (λw I u w' ⟨y,hJ,he,hkp,ha,hf⟩=>⟨y,hJ,by grind,I.upd (hu y) hkp ha hf⟩) next hd
 rw [hX,uK];show iQ XPl 0 Tryz.prog 15 #[ou,z.run.v] w _;refine WJ λv1 BP nv=>?_
 have hgv:=I.grow (bf.eA BP);have hp:=hgv.perm hr.perm;have hml:bY z.run.v (dJ iG) (zi z.cap z.ks) 64 ∈ ShR G RI :: L1:=by grind
 obtain⟨ZL,IH⟩:=(hp.own _ hml).1;have hlen:(zi z.cap z.ks).length = G.cnt:=(I3 _ _).trans hk;rw [hlen] at IH
 rcases IH with ⟨_,h⟩ | ⟨gb,cp,cur,hv,_,hh,h1,h2,h3,h4⟩
 ·omega
 have abP:=(bC.1 hp.Jj).1 _ hm;have hrun:∀ i,i < G.cnt->(zi z.cap z.ks).getD i iG = Bb 23 (Yp z i):=λi hi=>by
  rw [BS]; simp [cE,hk,hi,Yp]
 have hrow:∀ i,i < G.cnt->(dJ iG).row _ = (zi z.cap z.ks).map OV.v:=λi _=>RY _
 have hcell:∀ i,i < G.cnt->v1.cell? ⟨gb,i,none⟩ = some _:=λi hi=>by
  have h5:(cur.toList.take (G.cnt * (dJ iG).size))[i]? = some (Bb 23 (Yp z i)).v:=by
   rw [h4,hrow i hi,List.getElem?_map];have:=hrun i hi;rw [cE] at this;cases e:(zi z.cap z.ks)[i]? with
   | none=>rw [List.getElem?_eq_none_iff] at e; omega
   | some o=>rw [e] at this; exact aL (λo:OV=>some o.v) this
  rw [fD] at h5;split at h5
  ·simp only [World.cell?,hh]
   simpa using h5
  ·cases h5
 obtain⟨hsh,hsf⟩:=hp.own _ ah;have hkv:∀ w',bf _ v1 w'->bS K L1 w':=λw' k=>hgv.JE hr k
 have hnope:∀ {w'},bf fX v1 w'->bf (ShR G RI).c9 v1 w':=λk=>k.mono λ_ h=>h.elim
 refine ⟨Cc G (ShR G RI).c9 gb (λi=>(Bb 23 (Yp z i)).v),RJ,IvT G.cnt,xs,zi z.cap z.ks,⟨h0,by show G.cnt <= 16; omega,hlen,hxl,λw' k=>ho w' (hkv w' k),λw' k=>kY hm w' (hkv w' k),λw' k=>QW _ _ w' (kY hm w' (hkv w' (hnope k))) (by simp [BS,LM]) (by omega),?_,hcell,λhb=>abP gb hb (show z.run.v.ownBlock = some gb by rw [hv]; rfl),λo ho=>by have ho:v1.heap[gb]? = some o:=ho; rw [hh] at ho; cases ho; rfl,λb v h=>h,⟨⟨0,0⟩,rfl⟩,λN0 Sn W1 h=>abz h6 N0 Sn W1 h,λN0 Sn W1 h V0 hu hN hV i hi=>?_⟩,λp rp v' Xy Bq=>?_⟩
 ·exact ⟨λb hb=>by
   obtain⟨o,e,hp'⟩:=M4 hsh hb;exact ⟨λo' ho=>by grind,aG e⟩,_,FA.start hO.g hO.pos,hsh,λb hb=>hb⟩
 ·have hth:=OI (Sn:=Sn) hO h hu hV hi λw' k=>hA w' (hkv w' k) i hi
  rw [<- hl] at hth;exact ⟨23,_,by rw [show (dJ iG).zero = iG from rfl,hrun i hi]; rfl,dV.mk' (by rfl),hth⟩
 ·obtain⟨y,hJ,hk2,ha,hf⟩:=Sd Bq;have hsz:=BP.size;refine ⟨_,hJ,rfl,((bf.eA BP).mono λ_ h=>h.elim).trans' hk2 λb _ h=>h,ha,λb hb=>⟨(hf b hb).1.imp id λh=>by omega,(hf b hb).2⟩⟩
end
theorem X7 {J8:Nat->Nat->List UInt8} (h:∀ k j,k < us.length->j < (rows k).length->bU iO w ((rows k).getD j gC.zero).h.data.v (J8 k j)) (hJ:YP us rows xs):∀ k j,k < xs.length->j < (GW us rows k).length->bU iO w ((GW us rows k).getD j gC.zero).h.data.v (J8 k j):=λk j hk hj=>by
 unfold GW at hj ⊢
 by_cases h0:us.length = 0
 ·grind
 ·rw [if_neg h0] at hj ⊢;rw [dC] at hj;have e:((rows k).take 12).getD j gC.zero = (rows k).getD j gC.zero:=by
   rw [cE,fD,if_pos (by omega),<- cE]
  rw [e];exact h k j (aD hk (hJ.le h0)) (by omega)
theorem R2 (h1:ss.length <= 10) (h2:∀ q ∈ ss,q.wait.toNat <= 6):xH ss <= 60:=by
 have h:g7 (wt ss) ss.length <= g7 _ ss.length:=tB λk hk=>by
  show (ss.getD k da.zero).wait.toNat <= 6;rw [cE,bW hk];exact h2 _ (oa hk)
 rw [ni] at h;show g7 (wt ss) ss.length <= 60;omega
theorem Sl (u:Value) (l:List Int) (n:Int) (w:World) (hu:bU iE w u l) (hn:0 <= n /\ n <= 100):aR 14 #[u,I n] w (nz w (λo:OV × List Int=>o.2.length <= 2000) (λo=>o.1.v) (λo=>[bY o.1.v iE o.2 3])):=by
 refine iZ 28 Tryz.func14 (λ_ _=>?_);refine m12 ?_;refine m209 ?_;refine jf iE 3 ?_;refine m143 ?_;refine m156 ?_;refine nP (block (lp (X:=Int × OV × (List Int)) (λx=>(0 <= x.1 /\ x.1 <= l.length /\ x.1 <= 2000) /\ ((x.2.2.length:Int) = x.1)) (λx=>[dz,(0,true,u),(1,true,I n),(5,true,x.2.1.v),(6,true,I x.1)]) (λx=>[bY x.2.1.v iE x.2.2 3]) (λx=>(2000 - x.1).toNat) (0,aM,[]) ⟨?_,?_⟩ (λx hx=>?_)))
 ·omega
 ·rfl
 obtain⟨i,o,xs⟩:=x;dsimp only at hx;obtain⟨hi,hxl⟩:=hx;refine m16 ?_;refine mv rfl (co (Ev.len Ei aa zf) ?_);refine m88 ?_;refine ig rfl (λh0=>?_) (λh0=>?_)
 ·refine m21 ?_;refine m126 ?_;refine mv rfl ?_;refine m264 ?_;refine mv rfl ?_;refine m160 ?_;refine cons (dg eN (o2 rfl rfl) (λw I=>yW _ _ w (by omega)) ?_);refine cons (buildSlice Ei l9 z3 (.cons aa .nil) rfl rfl (λv1=>?_));refine cons (vL Ei l9 zb3 zs3 aa aa (λv2=>?_));refine m76 ?_;refine m34 ?_;refine vK rfl (nP (Sv (i + 1,v2,_) ⟨?_,?_⟩ ?_))
  ·omega
  ·grind
  omega
 ·refine m85 ?_;refine m48 ?_;refine done rfl (.tmp rfl .nil) (λw I=>?_);exact lu _ (by grind) rfl zp w I
structure cX where
 old:cy
 new:cy
 vV:OV
def cX.to:(cy × (cy × OV))->cX:=λx=>⟨x.1,x.2.1,x.2.2⟩
def cX.of:cX->(cy × (cy × OV)):=λx=>(x.old,x.new,x.vV)
def np:dy cX:=l8 (cW jI (cW jI (dJ aM))) cX.to cX.of
def cX.IC:aB np jI 0:=lI cX.to cX.of l1
@[simp] theorem cX.ahU (x:cX):cX.IC.get x = x.old:=rfl
def cX.xO:aB np jI 6:=lI cX.to cX.of (l2 l1)
@[simp] theorem cX.XR (x:cX):cX.xO.get x = x.new:=rfl
def cX.wx:aB np (dJ aM) 12:=lI cX.to cX.of (l2 (l2 (aB.id _)))
@[simp] theorem cX.abZ (x:cX):cX.wx.get x = x.vV:=rfl
def aiD:ot 29 (dJ aM):=oq
theorem adn {ss:List bj} {n:UInt64} (h:xW ss n):wfb ss n = true:=by
 obtain⟨a,b,c⟩:=h;simp only [wfb,cF,iH,cn,or_assoc];exact ⟨⟨a,b⟩,c⟩
def acZ {K:Ctx} {L L':List du} {w:World} {r:du} {es:List EN} {e:EN} (I:bS K L w) (hr:lC L r L') (h:PKs es ∈ L') (he:e ∈ es):∀ w2,bf r.c9 w w2->bU iO w2 e.x.job.Ad.v e.bs:=λw2 k=>acV ((I.JE hr k).own _ h).1 he
theorem ads {G:Gt} {n:UInt64} {e:EN} {l1 l2:CL} {d1 d2:Int} {ss:List bj} (h:okE G n e) (e1:G.l1 = l1) (e2:G.l2 = l2) (e3:G.d1 = d1) (e4:G.d2 = d2) (e5:G.ss = ss):Nj l1 l2 d1 d2 e.x.job.ta ss n e.bs = e.x.v /\ Nk ss n e.bs = e.x.new /\ EU l2 d2 e.x.job.ta ss n e.bs = nxE G n e /\ pE e.bs = 0:=by
 subst e1 e2 e3 e4 e5;exact ⟨h.2.1.symm,h.2.2.symm,rfl,h.1⟩
theorem acQ {G:Gt} {es:List EN} {i:Nat} {e:EN} (h:es[i]? = some e):nxE G (aan G 0 (es.take i)) e = aan G 0 (es.take (i + 1)):=by
 rw [List.take_add_one,h];simp [abN]
theorem ac4:rZ Tryz.prog 102 dK bA.nQ 2:=wK (fs:=_) Tryz.underlying102 zk rfl (MF.cons (by decide) rfl bA.ku l9 (TV Y3) (MF.cons (by decide) rfl bA.qS l9 (TV Y3) (MF.cons (by decide) rfl bA.GG l9 (TV Y3) (MF.cons (by decide) rfl bA.rO l9 (TV Y3) (MF.cons (by decide) rfl bA.pJ l9 (TV Y3) MF.nil))))) (λ_ _=>rfl)
def z32:zI 32 (dJ aM):=kI
def z37:zI 37 (dJ dB):=kI
theorem abu (p:cX) (l1 l2:CL) (jk:List bj) (u:OV) (us:List OV) (rows:Nat->List cZ) (J8:Nat->Nat->List UInt8) (o2:OV) (ol:List Int) (w:World) (hc1:kA w p.old l1) (hc2:kA w p.new l2) (GL:l1.Names) (BO:l2.Names) (hz1:l1.n <= 4611686018427387904) (hz2:l2.n <= 4611686018427387904) (hst:bU da w p.vV.v jk) (hu:bU (dJ aM) w u.v us) (hr:rz w us rows) (Tq:∀ k j,k < us.length->j < (rows k).length->bU iO w ((rows k).getD j gC.zero).h.data.v (J8 k j)) (IH:bU iE w o2.v ol):JZ XPl 0 Tryz.prog 5 #[np.val p,u.v,o2.v] w (dO w (.bool true)):=by
 refine acf 182 [] Tryz.func5 rfl rfl (aT rfl) (bu _) (λ_ h=>h.elim) (λok=>bS.start ok) ?_;refine m15 ?_;refine box aa (λb1=>?_);refine m98 ?_;refine seq ?_;refine m15 ?_;refine dg eN .nil (λw I=>Q6 w) ?_;refine m278 ?_;refine m153 ?_;refine cf 12 rfl ?_;refine co (Ev.gR p.vV aiD aa cX.wx) ?_;refine cons (iP (X:=OV × List bj) _ _ _ eN (o1 rfl) (λw I=>ab6 _ jk w (hst.cO I.keeps)) (λst hs2=>?_));refine m136 ?_;refine iP _ _ _ eN (o3 rfl rfl rfl) (λw I=>Gs p.old p.new l1 l2 _ st.2 w (hc1.cO I.keeps) (hc2.cO I.keeps) (io w I) GL BO hz1 hz2 (by omega)) (λx1 hx=>?_)
 generalize hq1:Zj (tG l1 l2 p.old.default p.new.default st.2) x1.b = q1
 refine m4 ?_;refine cons (alloc z37 (λb2=>?_));refine cons (j8 (yv:=(⟨.pointer q1,rfl⟩:OV)) aiC (aB.id _) aa aa ?_);refine m136 ?_;refine iP _ _ _ eN (o3 rfl rfl rfl) (λw I=>Gs p.old p.new l1 l2 _ st.2 w (hc1.cO I.keeps) (hc2.cO I.keeps) (io w I) GL BO hz1 hz2 (by omega)) (λx2 hy=>?_)
 generalize hq2:Zj (tG l1 l2 p.old.default p.new.default st.2) x2.b = q2
 refine m4 ?_;refine m269 ?_;refine co (Ev.AY aa (.c rfl)) ?_;refine m5 ?_;refine m72 ?_;refine m25 ?_;refine nP ?_;refine ig rfl (λh1=>?_) (λh1=>?_)
 ·refine m12 ?_;refine ret (pR (dn rfl rfl ?_))
  rfl
 ·have hre:tG l1 l2 p.old.default p.new.default st.2 = 0:=by grind
  refine m196 ?_;rw [if_pos hre,if_pos hre];have va:=hx hre;have hx2:=hy hre;obtain rfl:some ⟨x1.b,0,none⟩ = q1:=by rw [<- hq1]; exact (if_pos hre).symm
  obtain rfl:some ⟨x2.b,0,none⟩ = q2:=by rw [<- hq2]; exact (if_pos hre).symm
  show Sat _ _ _ [Var x2.b cH (x2.rv 0) 122,x2.r,bY x2.sv.v da st.2 43,Var b2 (dJ dB) (WG x1.b) 37,Var x1.b cH (x1.rv 0) 122,x1.r,bY x1.sv.v da st.2 43,bY st.1.v da st.2 43,Var b1 np p 31];refine m19 ?_;refine cons (iP (X:=OV × List OV) _ _ _ eN (o1 rfl) (λw I=>ab8 u.v us rows w (hu.cO I.keeps) (λk hk=>(hr k hk).cO I.keeps)) (λfw hfw=>?_));refine cons (alloc z32 (λb3=>?_));refine cons (j8 aes (aB.id _) aa aa ?_);refine nP ?_;refine m15 ?_;refine alloc z95 (λlb=>?_);refine nP ?_;refine m209 ?_;refine jf (dJ iG) 64 ?_;obtain⟨cnt,hcnt⟩:∃ n,fw.2.length = n:=⟨_,rfl⟩;have hfp:=hfw.pos;have hff:=hfw.xQ;refine m143 ?_;refine seq (acg ?_);refine region (cons (alloc z3 (λb5=>?_)));refine cons (j8 l9 (aB.id _) aa (.c rfl) ?_);refine nP (block (lp (X:=List Nat × Nat × OV) (λx=>(x.1.length <= cnt)) (λx=>[dz,(2,true,o2.v),(8,true,jc b2),(10,true,jc x2.b),(12,true,jc b3),(13,true,jc lb),(14,true,x.2.2.v),(15,true,jc x.2.1)]) (λx=>[Var x.2.1 iE (x.1.length:Int) 3,Bxs x.1,bY x.2.2.v (dJ iG) (zi (acw b3 b2 lb) x.1) 64,Var lb (dJ aM) aM 95,Var b3 (dJ aM) fw.1 32,bY fw.1.v (dJ aM) fw.2 49,Var x2.b cH (x2.rv 0) 122,x2.r,bY x2.sv.v da st.2 43,Var b2 (dJ dB) (WG x1.b) 37,Var x1.b cH (x1.rv 0) 122,x1.r,bY x1.sv.v da st.2 43]) (λx=>cnt - x.1.length) ([],b5,aM) ?_ (λx hx0=>?_)))
  ·simp
  obtain⟨ks,kb,aiX⟩:=x;dsimp only at hx0;have hks:=hx0;have hfl:(zi (acw b3 b2 lb) ks).length = ks.length:=I3 _ ks;refine seq (sg ?_);refine m178 ?_;refine m175 ?_;refine m300 ?_;refine nP ?_;refine ig rfl (λh0=>?_) (λh0=>?_)
  ·refine m21 ?_;refine m19 ?_;refine co (Ev.makeFunc (f:=23) (.cons aa (.cons aa (.cons aa (.cons aa .nil))))) ?_;refine cons (buildSlice Z7 OH z64 (.cons aa .nil) rfl rfl (λv6=>?_));refine cons (vL Z7 OH aii aih aa aa (λv7=>?_));refine m76 ?_;refine seq (sg ?_);refine m178 ?_;refine nP (agW (bs:=ks) zr zr ?_);refine region (cons (alloc z3 (λb8=>?_)));refine cons (j8 l9 (aB.id _) aa aa ?_);refine nP (region ?_);refine m178 ?_;refine co (Ev.to (v':=I ((kb :: ks).length:Nat)) (Ev.lx aa (.c rfl) (λ_=>by omega)) (aL I (by simp))) ?_;refine cons (j8 l9 (aB.id _) aa aa ?_);refine nP (Sv (kb :: ks,b8,v7) ?_ ?_)
   ·grind
   grind
  have hkc:ks.length = cnt:=by omega
  refine m85 ?_;refine m175 ?_;refine cons (iP (X:=OV × List Int) _ _ _ eN (.cons aa (o1 rfl)) (λw I=>Sl o2.v ol cnt w (IH.cO I.keeps) (by omega)) (λod hod=>?_));refine mv rfl (aiH (G:=(⟨x1,l1,l2,p.old.default,p.new.default,st.2,lb,fw.1,fw.2,GW us rows,J8,cnt⟩:Gt)) zr zr ?_);refine cons (Uq rfl rfl (z:=⟨aiX,b3,b2,lb,ks⟩) (xs:=od.2) (by grind) (by grind) aa aa ⟨va.p,va.q,vd va.st,va.pos,TU us rows,R2 hs2.1 hs2.2⟩ hkc rfl (by omega) .head (by exact zm) (λ_=>zu) (λw I=>io w I) (λw I i hi=>⟨⟨(va.r w (I.own _ (show x1.r ∈ _ from zm)).1).1,(va.r w (I.own _ (show x1.r ∈ _ from zm)).1).2,io w I⟩,io w I,λk hk=>hfw.at_ w (λk hk=>(hr k hk).cO I.keeps) k hk,X7 (λk j hk hj=>(Tq k j hk hj).cO I.keeps) hfw,hcnt,hi,by grind,ed (E':=(dJ aM)) (show Var b3 (dJ aM) fw.1 32 ∈ _ from zm) (aB.id _) w I,Ut ks i (by grind) (I.own _ (show Bxs ks ∈ _ from zm)).1,ed (E':=(dJ dB)) (show Var b2 (dJ dB) (WG x1.b) 37 ∈ _ from zm) (aB.id _) w I⟩) (λy hy=>?_));refine m4 ?_;refine cons (alloc z73 (λb4=>?_));refine cons (j8 V3 (aB.id _) aa aa ?_);refine m177 ?_;refine m71 ?_;refine oc zr (oc (.tail .head) (oc (.tail .head) ?_));obtain⟨G,hrun,e1,e2,e3,e4,e5⟩:∃ G:Gt,aae G y.d.n y.d.es /\ G.l1 = l1 /\ G.l2 = l2 /\ G.d1 = p.old.default /\ G.d2 = p.new.default /\ G.ss = st.2:=⟨_,hy.h,rfl,rfl,rfl,rfl,rfl⟩;have hle:y.d.es.length <= cnt * 12:=hy.le;have hc:=hy.c;clear hy;have hwf:∀ q,q <= y.d.es.length->xW st.2 (aan G 0 (y.d.es.take q)):=λq hq=>e5 ▸ hrun.wf q hq
  refine block (lp (X:=Int) (λx=>0 <= x /\ x <= (y.d.es.length:Int)) (λx=>[dz,(8,true,jc b2),(9,true,I 0),(10,true,jc x2.b),(13,true,jc lb),(16,true,jc b4),(17,true,I x)]) (λx=>[bY y.d.o.v aab (y.d.es.map EN.x) 106,PKs y.d.es,Var lb (dJ aM) y.d.o 95,Var x1.b cH (x1.rv y.d.n) 122,Var b4 iN y.p 73,Var x2.b cH (x2.rv (aan G 0 (y.d.es.take x.toNat))) 122,x2.r,bY x2.sv.v da st.2 43,Var b2 (dJ dB) (WG x1.b) 37,x1.r,bY x1.sv.v da st.2 43]) (λx=>((y.d.es.length:Int) - x).toNat) (0) ?_ (λx hx0=>?_))
  ·omega
  obtain⟨i,rfl⟩:∃ y,y = x:=⟨x,rfl⟩;have hi:=hx0;refine m16 ?_;refine co (Ev.gS abY aa (aB.id _)) ?_;refine co (Ev.to (v':=I y.d.es.length) (Ev.len Y95 aa zf) (aL I (by simp))) ?_;refine m300 ?_;refine nP ?_;refine ig rfl (λh2=>?_) (λh2=>?_)
  ·refine m21 ?_;refine seq ?_;refine m19 ?_;refine co (Ev.gS abY aa (aB.id _)) ?_;obtain⟨z,hz⟩:∃ z,y.d.es[i.toNat]? = some z:=⟨_,bW (by omega)⟩;have hzx:(y.d.es.map EN.x).getD i.toNat aab.zero = z.x:=by simp [cE,hz]
   obtain⟨k1,k2,k3,k4⟩:=ads (hrun.ok _ z hz) e1 e2 e3 e4 e5;have k5:=adn (hwf i.toNat (by omega));have k6:=ai hz;refine mv rfl (co (Ev.indexAddr Y95 abH aa aa zf (λ_=>by simp; omega)) ?_);refine co (Ev.nm (o:=0) (i:=i) aa (kY zm) (λ_=>by simp; omega) zk) ?_;refine co (Ev.to (v':=Jg.val z.x.job) (Ev.y5 acT q7.ac7 rfl aa (kY zm) (λ_=>by simp; omega)) (by rw [hzx]; rfl)) ?_;refine cons (uC (X:=Unit) _ _ (λ_=>zu) zm eN (.cons aa (.cons (.c rfl) (.cons aa .nil))) (λw I=>CE x2 l1 l2 _ _ st.2 _ z.x.job z.bs _ _ _ w (am w I) (z7 I zr zm zm hx2) (acZ I zr zm k6) hx2.p hx2.q hx2.st k5 k1 k2 k3 k4) (λ_ _=>?_));refine m241 ?_;refine alloc vH (λb6=>?_);refine m59 ?_;refine m41 ?_;refine seq ?_;refine m47 ?_;refine tk 1 rfl (Ev.to (v':=.bool false) (Ev.AY aa (.c rfl)) (rfl)) ?_;refine m222 ?_;refine jl 3 rfl rfl rfl (Ev.to (v':=dK.val z.x.v) (Ev.gS p8 aa (aB.id _)) rfl) ?_;refine jl 4 rfl rfl rfl (Ev.gS abY aa (aB.id _)) ?_;refine m224 ?_;refine jl 6 rfl rfl rfl (Ev.indexAddr Y95 abH (.g rfl id) (.g rfl id) (kY zm) (λ_=>by simp; omega)) ?_;refine jl 7 rfl rfl rfl (Ev.nm (o:=3) (i:=i) (.g rfl id) (kY zm) (λ_=>by simp; omega) zk) ?_;refine jl 8 rfl rfl rfl (Ev.to (v':=dK.val z.x.v) (Ev.y5 p8 q7.Vr rfl (.g rfl id) (kY zm) (λ_=>by simp; omega)) (by rw [hzx]; rfl)) ?_;refine jl 9 rfl rfl rfl (Ev.to (v':=.bool false) (Ev.SC rfl ac4 rfl zk (.g rfl id) (.g rfl id)) (by simp)) ?_;refine tk 10 rfl (Ev.to (v':=.bool false) (Ev.pkO aa rfl) (rfl)) ?_;refine tm 11 rfl rfl ?_;refine jl 12 rfl rfl rfl (Ev.move aa) ?_;refine jl 13 rfl rfl rfl (Ev.gS abY aa (aB.id _)) ?_;refine jl 14 rfl rfl rfl (Ev.move aa) ?_;refine jl 15 rfl rfl rfl (Ev.indexAddr Y95 abH (.g rfl id) (.g rfl id) (kY zm) (λ_=>by simp; omega)) ?_
   refine jl 16 rfl rfl rfl (Ev.nm (o:=8) (i:=i) (.g rfl id) (kY zm) (λ_=>by simp; omega) zk) ?_;refine jl 17 rfl rfl rfl (Ev.to (v':=.bool z.x.new) (Ev.y5 x6 q7.xO rfl (.g rfl id) (kY zm) (λ_=>by simp; omega)) (by rw [hzx]; rfl)) ?_;refine jl 18 rfl rfl rfl (Ev.to (v':=.bool false) (Ev.Zx Y4 (.g rfl id) (.g rfl id)) (by simp)) ?_;refine tk 19 rfl (Ev.to (v':=.bool false) (Ev.pkO aa rfl) (rfl)) ?_;refine m142 ?_;refine nS rfl (rfl) ?_;have k7:nxE G (aan G 0 (y.d.es.take i.toNat)) z = aan G 0 (y.d.es.take (i + 1).toNat):=by
    rw [acQ hz]
    congr 2
    omega
   rw [k7];refine m210 ?_;refine m34 ?_;refine vK rfl (nP (Sv (i + 1) ?_ ?_))
   ·omega
   ·omega
  have k8:aan G 0 (y.d.es.take i.toNat) = y.d.n:=by rw [bH (by omega),hrun.run]
  rw [k8];have k9:xW st.2 y.d.n:=by
   have h:=hwf y.d.es.length (aA _)
   rwa [jR,hrun.run] at h
  refine m13 ?_;refine m252 ?_;refine uC (X:=Unit) _ _ (λ_=>zu) zm eN (.cons aa (.cons (.c rfl) .nil)) (λw I=>Kt x1 st.2 va.st y.d.n k9 w (am w I)) (λ_ _=>?_);refine m199 ?_;refine m60 ?_;refine cons (uC (X:=Unit) _ _ (λ_=>zu) zm eN (.cons aa (.cons (.c rfl) .nil)) (λw I=>Kt x2 st.2 hx2.st y.d.n k9 w (am w I)) (λ_ _=>?_));refine m199 ?_;refine m41 ?_;refine m252 ?_;refine uC (X:=Unit) _ _ (λ_=>zu) zm eN (.cons aa (.cons (.c rfl) .nil)) (λw I=>Pd x1 st.2 va.st y.d.n k9 w (am w I)) (λ_ _=>?_);refine m97 ?_;refine vK rfl ?_;refine m60 ?_;refine cons (uC (X:=Unit) _ _ (λ_=>zu) zm eN (.cons aa (.cons (.c rfl) .nil)) (λw I=>Pd x2 st.2 hx2.st y.d.n k9 w (am w I)) (λ_ _=>?_));refine m97 ?_;refine vK rfl ?_;refine m41 ?_;refine seq ?_;refine m19 ?_;refine co (Ev.to (v':=.bool true) (Ev.xS aa (.c rfl)) (rfl)) ?_;refine co (Ev.to (v':=.bool true) (Ev.move aa) (rfl)) ?_;refine m227 ?_;refine cg rfl rfl (Ev.gS Rb (.g rfl id) fU.ZC) ?_;refine cg rfl rfl (Ev.to (v':=I 0) (Ev.len Ei (.g rfl id) (λw I=>show bU iE w y.p.cut.v [] from by rw [hc]; exact bU.nil iE w)) (rfl)) ?_;refine cg rfl rfl (Ev.to (v':=.bool true) (Ev.xS (.g rfl id) (.c rfl)) (rfl)) ?_;refine m18 ?_;refine cg rfl rfl (Ev.to (v':=.bool true) (Ev.xS (.g rfl id) (.g rfl id)) (by simp)) ?_;refine m204 ?_;refine m204 ?_;refine m197 ?_;refine m197 ?_;refine co (Ev.to (v':=.bool true) (Ev.D2 aa rfl) (rfl)) ?_;refine m20 ?_
  rfl
end Go.Proofs.YtgnmiaonbadbnaaGreat
