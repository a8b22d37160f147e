/- A roll that goes flow by flow: up to six goroutines let packets pass by turns, in any order; another roll, asked one behind the other in the order in which they ended, answers the same, and nobody is cut off. What is read is of bulk 1048576 at most. -/
import Derived.Test.YtgnmiaonbadbnaaGreatLeaving
import Derived.Test.YtgnmiaonbadbnaaGreatM8
import Derived.Test.YtgnmiaonbadbnaaGreatM1
set_option linter.unusedVariables false
set_option linter.unusedSimpArgs false
namespace Go.Proofs.YtgnmiaonbadbnaaGreat
open Go.ChangeShapes Go.WideShapes Go.ChangeAt Go.RowKit
open Go Go.Gx Go.Proofs.YtgnmiaonbadbnaaGreat.Tri Go.Proofs.YtgnmiaonbadbnaaGreat.Oc
theorem own:ownKnob Tryz.prog.godebug = none:=by kernel_rfl
theorem laidOut:laidOutB Tryz.prog = true:=by kernel_rfl
def bJ.ok:Kn bJ:=λw x H d=>∃ ds,d = .agg ds /\ (λw x H ds=>∃ d r,ds = d :: r /\ (λ_ _ _ _=>True) w x.1 H d /\ (λw a H ds=>∃ d,ds = [d] /\ (λw v H d=>∃ ds,d = .agg ds /\ ∀ i (hi:i < 16) (h2:i < ds.length),(λ_ _ _ _=>True) w v[i] H ds[i]) w a H d) w x.2 H r) w (bJ.of x) H ds
theorem So:xy Tryz.prog 55 iz bJ.ok:=iY Tryz.underlying55 (by kernel_rfl) (iI.cons rfl (Zp Tryz.underlying4 (by kernel_rfl)) (iI.one rfl (WY (uV Tryz.underlying5 (by kernel_rfl)) Tryz.underlying53 (by kernel_rfl)))) (λ_=>rfl)
def aw.ok:Kn aw:=λw x H d=>∃ ds,d = .agg ds /\ (λw x H ds=>∃ d r,ds = d :: r /\ bJ.ok w x.1 H d /\ (λw a H ds=>∃ d,ds = [d] /\ (λ_ n _ _=>Fit n) w a H d) w x.2 H r) w (aw.of x) H ds
theorem K3:xy Tryz.prog 197 cJ aw.ok:=iY Tryz.underlying197 (by kernel_rfl) (iI.cons rfl So (iI.one rfl (vA Tryz.underlying3 (by kernel_rfl)))) (λ_=>rfl)
def dk.ok:Kn dk:=λw x H d=>∃ ds,d = .agg ds /\ (λw x H ds=>∃ d r,ds = d :: r /\ aw.ok w x.1 H d /\ (λw a H ds=>∃ d,ds = [d] /\ (λ_ n _ _=>Fit n) w a H d) w x.2 H r) w (dk.of x) H ds
theorem aa4:xy Tryz.prog 280 ez dk.ok:=iY Tryz.underlying280 (by kernel_rfl) (iI.cons rfl K3 (iI.one rfl (vA Tryz.underlying3 (by kernel_rfl)))) (λ_=>rfl)
def dX.ok:Kn dX:=λw x H d=>∃ ds,d = .agg ds /\ (λw x H ds=>∃ d r,ds = d :: r /\ (λ_ _ _ _=>True) w x.1 H d /\ (λw a H ds=>∃ d,ds = [d] /\ (λ_ _ _ _=>True) w a H d) w x.2 H r) w (dX.of x) H ds
theorem K4:xy Tryz.prog 195 nR dX.ok:=iY Tryz.underlying195 (by kernel_rfl) (iI.cons rfl (BG Tryz.underlying56 (by kernel_rfl)) (iI.one rfl (BG Tryz.underlying56 (by kernel_rfl)))) (λ_=>rfl)
def aN.ok:Kn aN:=λw x H d=>∃ ds,d = .agg ds /\ (λw x H ds=>∃ d r,ds = d :: r /\ (λ_ _ _ _=>True) w x.1 H d /\ (λw x H ds=>∃ d r,ds = d :: r /\ dX.ok w x.1 H d /\ (λw x H ds=>∃ d r,ds = d :: r /\ aw.ok w x.1 H d /\ (λw x H ds=>∃ d r,ds = d :: r /\ aw.ok w x.1 H d /\ (λw x H ds=>∃ d r,ds = d :: r /\ (λ_ _ _ _=>True) w x.1 H d /\ (λw x H ds=>∃ d r,ds = d :: r /\ dX.ok w x.1 H d /\ (λw a H ds=>∃ d,ds = [d] /\ dX.ok w a H d) w x.2 H r) w x.2 H r) w x.2 H r) w x.2 H r) w x.2 H r) w x.2 H r) w (aN.of x) H ds
theorem aa9:xy Tryz.prog 199 cU aN.ok:=iY Tryz.underlying199 (by kernel_rfl) (iI.cons rfl (uV Tryz.underlying5 (by kernel_rfl)) (iI.cons rfl K4 (iI.cons rfl K3 (iI.cons rfl K3 (iI.cons rfl (uV Tryz.underlying5 (by kernel_rfl)) (iI.cons rfl K4 (iI.one rfl K4))))))) (λ_=>rfl)
def cS.ok:Kn cS:=λw x H d=>∃ ds,d = .agg ds /\ (λw x H ds=>∃ d r,ds = d :: r /\ (λ_ s _ d=>s.size <= maxLen /\ d = .lit (.string s.data.toList)) w x.1 H d /\ (λw x H ds=>∃ d r,ds = d :: r /\ aN.ok w x.1 H d /\ (λw x H ds=>∃ d r,ds = d :: r /\ (λ_ n _ _=>Fit n) w x.1 H d /\ (λw x H ds=>∃ d r,ds = d :: r /\ (λ_ n _ _=>Fit n) w x.1 H d /\ (λw x H ds=>∃ d r,ds = d :: r /\ (λ_ s _ d=>s.size <= maxLen /\ d = .lit (.string s.data.toList)) w x.1 H d /\ (λw a H ds=>∃ d,ds = [d] /\ (λ_ s _ d=>s.size <= maxLen /\ d = .lit (.string s.data.toList)) w a H d) w x.2 H r) w x.2 H r) w x.2 H r) w x.2 H r) w x.2 H r) w (cS.of x) H ds
theorem aa8:xy Tryz.prog 201 iK cS.ok:=iY Tryz.underlying201 (by kernel_rfl) (iI.cons rfl (Ib Tryz.underlying9 (by kernel_rfl)) (iI.cons rfl aa9 (iI.cons rfl (vA Tryz.underlying3 (by kernel_rfl)) (iI.cons rfl (vA Tryz.underlying3 (by kernel_rfl)) (iI.cons rfl (Ib Tryz.underlying9 (by kernel_rfl)) (iI.one rfl (Ib Tryz.underlying9 (by kernel_rfl)))))))) (λ_=>rfl)
def dh.ok:Kn dh:=λw x H d=>∃ ds,d = .agg ds /\ (λw x H ds=>∃ d r,ds = d :: r /\ (λ_ _ _ _=>True) w x.1 H d /\ (λw x H ds=>∃ d r,ds = d :: r /\ (λ_ _ _ _=>True) w x.1 H d /\ (λw a H ds=>∃ d,ds = [d] /\ (λ_ _ _ _=>True) w a H d) w x.2 H r) w x.2 H r) w (dh.of x) H ds
theorem aa7:xy Tryz.prog 214 tQ dh.ok:=iY Tryz.underlying214 (by kernel_rfl) (iI.cons rfl (yZ Tryz.underlying41 (by kernel_rfl)) (iI.cons rfl (yZ Tryz.underlying41 (by kernel_rfl)) (iI.one rfl (yZ Tryz.underlying41 (by kernel_rfl))))) (λ_=>rfl)
def bQ.ok:Kn bQ:=λw x H d=>∃ ds,d = .agg ds /\ (λw x H ds=>∃ d r,ds = d :: r /\ (λ_ s _ d=>s.size <= maxLen /\ d = .lit (.string s.data.toList)) w x.1 H d /\ (λw a H ds=>∃ d,ds = [d] /\ dh.ok w a H d) w x.2 H r) w (bQ.of x) H ds
theorem aa6:xy Tryz.prog 216 eH bQ.ok:=iY Tryz.underlying216 (by kernel_rfl) (iI.cons rfl (Ib Tryz.underlying9 (by kernel_rfl)) (iI.one rfl aa7)) (λ_=>rfl)
def aZ.ok:Kn aZ:=λw x H d=>∃ ds,d = .agg ds /\ (λw x H ds=>∃ d r,ds = d :: r /\ (λ_ s _ d=>s.size <= maxLen /\ d = .lit (.string s.data.toList)) w x.1 H d /\ (λw x H ds=>∃ d r,ds = d :: r /\ (λ_ n _ _=>Fit n) w x.1 H d /\ (λw a H ds=>∃ d,ds = [d] /\ (λ_ n _ _=>Fit n) w a H d) w x.2 H r) w x.2 H r) w (aZ.of x) H ds
theorem aa5:xy Tryz.prog 218 dL aZ.ok:=iY Tryz.underlying218 (by kernel_rfl) (iI.cons rfl (Ib Tryz.underlying9 (by kernel_rfl)) (iI.cons rfl (vA Tryz.underlying3 (by kernel_rfl)) (iI.one rfl (vA Tryz.underlying3 (by kernel_rfl))))) (λ_=>rfl)
def cy.ok:Kn cy:=λw x H d=>∃ ds,d = .agg ds /\ (λw x H ds=>∃ d r,ds = d :: r /\ (UY iE (λ_ n _ _=>Fit n)) w x.1 H d /\ (λw x H ds=>∃ d r,ds = d :: r /\ (UY ez dk.ok) w x.1 H d /\ (λw x H ds=>∃ d r,ds = d :: r /\ (UY iK cS.ok) w x.1 H d /\ (λw x H ds=>∃ d r,ds = d :: r /\ (UY eH bQ.ok) w x.1 H d /\ (λw x H ds=>∃ d r,ds = d :: r /\ (UY dL aZ.ok) w x.1 H d /\ (λw a H ds=>∃ d,ds = [d] /\ (λ_ n _ _=>Fit n) w a H d) w x.2 H r) w x.2 H r) w x.2 H r) w x.2 H r) w x.2 H r) w (cy.of x) H ds
theorem Zq:xy Tryz.prog 28 jI cy.ok:=iY Tryz.underlying28 (by kernel_rfl) (iI.cons rfl (sw (vA Tryz.underlying3 (by kernel_rfl)) Tryz.underlying22 (by kernel_rfl) rfl) (iI.cons rfl (sw aa4 Tryz.underlying23 (by kernel_rfl) rfl) (iI.cons rfl (sw aa8 Tryz.underlying24 (by kernel_rfl) rfl) (iI.cons rfl (sw aa6 Tryz.underlying25 (by kernel_rfl) rfl) (iI.cons rfl (sw aa5 Tryz.underlying26 (by kernel_rfl) rfl) (iI.one rfl (vA Tryz.underlying3 (by kernel_rfl)))))))) (λ_=>rfl)
theorem Gv {w:World} {H:Type} {α:Type} {xs:List α} {ds:List (DataW H)} {Q:World->α->DataW H->Prop} {f:α->ByteArray} (hl:xs.length = ds.length) (hq:∀ i (h1:i < xs.length) (h2:i < ds.length),Q w xs[i] ds[i]) (hf:∀ w x d,Q w x d->(f x).size <= 9223372036854775807):∀ x ∈ xs,(f x).size <= 9223372036854775807:=λx hx=>by
 obtain⟨i,hi,rfl⟩:=dP.1 hx;exact hf _ _ _ (hq i hi (by omega))
theorem adN {H:Type} {w:World} {c:cy} {d:DataW H} (hq:cy.ok w c H d):∃ l:CL,kA w c l /\ l.Names:=by
 obtain⟨ds0,rfl,d1,r1,rfl,q1,d2,r2,rfl,q2,d3,r3,rfl,q3,d4,r4,rfl,q4,d5,r5,rfl,q5,_⟩:=hq;obtain⟨ps,e1,h1,_⟩:=q1;obtain⟨rs,e2,h2,_⟩:=q2;obtain⟨us,e3,h3,_,l3,n3⟩:=q3;obtain⟨ms,e4,h4,_,l4,n4⟩:=q4;obtain⟨xs,e5,h5,_,l5,n5⟩:=q5;refine ⟨⟨ps,rs,us,ms,xs⟩,⟨h1,h2,h3,h4,h5⟩,⟨?_,?_,?_⟩⟩
 ·exact s86
 ·exact s83
 ·exact s81
theorem vW {H:Type} {d:DataW H} {es:List (DataW H)} {ts:List TypeId} {ds:List (DataW H)} (h2:SlD d es) (hz:(DataW.weightsEach Tryz.prog ts ds).all (· <= reachBytes) = true) {j n:Nat} {t e:TypeId} (ht:ts[j]? = some t) (hd:ds[j]? = some d) (hu:Tryz.prog.underlying t = some (.slice e)) (hb:Tryz.prog.bytesOf e = n):es.length * n <= 140737488351232:=by
 rcases h2 with rfl | ⟨sp,rfl⟩
 ·simp
 ·have h5:=sized_slice hz ht hd hu;rw [hb] at h5;have h6:reachBytes = 140737488351232:=by decide
  rw [h6] at h5;have h7:es.length * n <= (es.length + sp.length) * n:=dH _ (by omega);omega
theorem Dr {H:Type} {w:World} {c:cy} {d:DataW H} {ts:List TypeId} {ds:List (DataW H)} (hq:cy.ok w c H d) (hz:(DataW.weightsEach Tryz.prog ts ds).all (· <= reachBytes) = true) {j:Nat} (ht:ts[j]? = some 28) (hd:ds[j]? = some d):∃ l:CL,kA w c l /\ l.Names /\ l.n <= 4611686018427387904:=by
 obtain⟨ds0,rfl,d1,r1,rfl,q1,d2,r2,rfl,q2,d3,r3,rfl,q3,d4,r4,rfl,q4,d5,r5,rfl,q5,_⟩:=hq;have hz2:=EF hz ht hd Tryz.underlying28;obtain⟨ps,e1,h1,g1,l1,_⟩:=q1;obtain⟨rs,e2,h2,g2,l2,_⟩:=q2;obtain⟨us,e3,h3,g3,l3,n3⟩:=q3;obtain⟨ms,e4,h4,g4,l4,n4⟩:=q4;obtain⟨xs,e5,h5,g5,l5,n5⟩:=q5;have z1:=vW g1 hz2 (j:=0) (by kernel_rfl) rfl Tryz.underlying22 (by kernel_rfl:Tryz.prog.bytesOf 3 = 8);have z2:=vW g2 hz2 (j:=1) (by kernel_rfl) rfl Tryz.underlying23 (by kernel_rfl:Tryz.prog.bytesOf 280 = 40);have z3:=vW g3 hz2 (j:=2) (by kernel_rfl) rfl Tryz.underlying24 (by kernel_rfl:Tryz.prog.bytesOf 201 = 152);have z4:=vW g4 hz2 (j:=3) (by kernel_rfl) rfl Tryz.underlying25 (by kernel_rfl:Tryz.prog.bytesOf 216 = 40);have z5:=vW g5 hz2 (j:=4) (by kernel_rfl) rfl Tryz.underlying26 (by kernel_rfl:Tryz.prog.bytesOf 218 = 32);refine ⟨⟨ps,rs,us,ms,xs⟩,⟨h1,h2,h3,h4,h5⟩,⟨?_,?_,?_⟩,?_⟩
 ·exact s86
 ·exact s83
 ·exact s81
 ·show ps.length + rs.length + us.length + ms.length + xs.length <= _;omega
def bj.ok:Kn bj:=λw x H d=>∃ ds,d = .agg ds /\ (λw x H ds=>∃ d r,ds = d :: r /\ (λ_ n _ _=>Fit n) w x.1 H d /\ (λw x H ds=>∃ d r,ds = d :: r /\ (λ_ _ _ _=>True) w x.1 H d /\ (λw a H ds=>∃ d,ds = [d] /\ (λ_ _ _ _=>True) w a H d) w x.2 H r) w x.2 H r) w (bj.of x) H ds
theorem afp:xy Tryz.prog 43 da bj.ok:=iY Tryz.underlying43 (by kernel_rfl) (iI.cons rfl (vA Tryz.underlying3 (by kernel_rfl)) (iI.cons rfl (yZ Tryz.underlying41 (by kernel_rfl)) (iI.one rfl (yZ Tryz.underlying41 (by kernel_rfl))))) (λ_=>rfl)
def cX.ok:Kn cX:=λw x H d=>∃ ds,d = .agg ds /\ (λw x H ds=>∃ d r,ds = d :: r /\ cy.ok w x.1 H d /\ (λw x H ds=>∃ d r,ds = d :: r /\ cy.ok w x.1 H d /\ (λw a H ds=>∃ d,ds = [d] /\ (UY da bj.ok) w a H d) w x.2 H r) w x.2 H r) w (cX.of x) H ds
theorem afq:xy Tryz.prog 31 np cX.ok:=iY Tryz.underlying31 (by kernel_rfl) (iI.cons rfl Zq (iI.cons rfl Zq (iI.one rfl (sw afp Tryz.underlying29 (by kernel_rfl) rfl)))) (λ_=>rfl)
theorem KZ {H:Type} {w:World} {p:cX} {d:DataW H} {ts:List TypeId} {ds:List (DataW H)} (hq:cX.ok w p H d) (hz:(DataW.weightsEach Tryz.prog ts ds).all (· <= reachBytes) = true) {j:Nat} (ht:ts[j]? = some 31) (hd:ds[j]? = some d):∃ (l1 l2:CL) (ss:List bj),kA w p.old l1 /\ l1.Names /\ l1.n <= 4611686018427387904 /\ kA w p.new l2 /\ l2.Names /\ l2.n <= 4611686018427387904 /\ bU da w p.vV.v ss:=by
 obtain⟨ds0,rfl,d1,r1,rfl,q1,d2,r2,rfl,q2,d3,rfl,q3⟩:=hq;have hz2:=EF hz ht hd Tryz.underlying31;obtain⟨l1,a1,a2,a3⟩:=Dr q1 hz2 (j:=0) rfl rfl;obtain⟨l2,b1,b2,b3⟩:=Dr q2 hz2 (j:=1) rfl rfl;obtain⟨ss,es,h1,_⟩:=q3;exact ⟨l1,l2,ss,a1,a2,a3,b1,b2,b3,h1⟩
def ae.ok:Kn ae:=λw x H d=>∃ ds,d = .agg ds /\ (λw x H ds=>∃ d r,ds = d :: r /\ bJ.ok w x.1 H d /\ (λw x H ds=>∃ d r,ds = d :: r /\ bJ.ok w x.1 H d /\ (λw x H ds=>∃ d r,ds = d :: r /\ (λ_ _ _ _=>True) w x.1 H d /\ (λw x H ds=>∃ d r,ds = d :: r /\ (λ_ _ _ _=>True) w x.1 H d /\ (λw x H ds=>∃ d r,ds = d :: r /\ (λ_ _ _ _=>True) w x.1 H d /\ (λw x H ds=>∃ d r,ds = d :: r /\ (λ_ _ _ _=>True) w x.1 H d /\ (λw x H ds=>∃ d r,ds = d :: r /\ (λ_ _ _ _=>True) w x.1 H d /\ (λw x H ds=>∃ d r,ds = d :: r /\ (λ_ _ _ _=>True) w x.1 H d /\ (λw x H ds=>∃ d r,ds = d :: r /\ (λ_ _ _ _=>True) w x.1 H d /\ (λw x H ds=>∃ d r,ds = d :: r /\ (λ_ _ _ _=>True) w x.1 H d /\ (λw a H ds=>∃ d,ds = [d] /\ (UY iO (λ_ _ _ _=>True)) w a H d) w x.2 H r) w x.2 H r) w x.2 H r) w x.2 H r) w x.2 H r) w x.2 H r) w x.2 H r) w x.2 H r) w x.2 H r) w x.2 H r) w (ae.of x) H ds
theorem afo:xy Tryz.prog 60 bm ae.ok:=iY Tryz.underlying60 (by kernel_rfl) (iI.cons rfl So (iI.cons rfl So (iI.cons rfl (uV Tryz.underlying5 (by kernel_rfl)) (iI.cons rfl (BG Tryz.underlying56 (by kernel_rfl)) (iI.cons rfl (BG Tryz.underlying56 (by kernel_rfl)) (iI.cons rfl (uV Tryz.underlying5 (by kernel_rfl)) (iI.cons rfl (uV Tryz.underlying5 (by kernel_rfl)) (iI.cons rfl (Nl Tryz.underlying57 (by kernel_rfl)) (iI.cons rfl (uV Tryz.underlying5 (by kernel_rfl)) (iI.cons rfl (Nl Tryz.underlying57 (by kernel_rfl)) (iI.one rfl (sw (uV Tryz.underlying5 (by kernel_rfl)) Tryz.underlying58 (by kernel_rfl) rfl)))))))))))) (λ_=>rfl)
def cZ.ok:Kn cZ:=λw x H d=>∃ ds,d = .agg ds /\ (λw x H ds=>∃ d r,ds = d :: r /\ (λ_ n _ _=>Fit n) w x.1 H d /\ (λw x H ds=>∃ d r,ds = d :: r /\ (λ_ n _ _=>Fit n) w x.1 H d /\ (λw x H ds=>∃ d r,ds = d :: r /\ ae.ok w x.1 H d /\ (λw x H ds=>∃ d r,ds = d :: r /\ (λ_ _ _ _=>True) w x.1 H d /\ (λw a H ds=>∃ d,ds = [d] /\ (UY iO (λ_ _ _ _=>True)) w a H d) w x.2 H r) w x.2 H r) w x.2 H r) w x.2 H r) w (cZ.of x) H ds
theorem afn:xy Tryz.prog 62 gC cZ.ok:=iY Tryz.underlying62 (by kernel_rfl) (iI.cons rfl (vA Tryz.underlying3 (by kernel_rfl)) (iI.cons rfl (vA Tryz.underlying3 (by kernel_rfl)) (iI.cons rfl afo (iI.cons rfl (Zp Tryz.underlying4 (by kernel_rfl)) (iI.one rfl (sw (uV Tryz.underlying5 (by kernel_rfl)) Tryz.underlying58 (by kernel_rfl) rfl)))))) (λ_=>rfl)
theorem O3 {H:Type} {w:World} {o:OV} {d:DataW H} (hq:UY (dJ aM) (UY gC cZ.ok) w o H d):∃ (us:List OV) (rows:Nat->List cZ) (J8:Nat->Nat->List UInt8),bU (dJ aM) w o.v us /\ rz w us rows /\ ∀ k j,k < us.length->j < (rows k).length->bU iO w ((rows k).getD j gC.zero).h.data.v (J8 k j):=by
 obtain⟨cs,es,h1,h2,h3,h4⟩:=hq;have el:∀ {α:Type} {l:List α} {i:Nat} (z:α) (h:i < l.length),l.getD i z = l[i]:=λz h=>by simp [List.getD,h]
 have key:∀ k,∃ xs:List cZ,k < cs.length->bU gC w (cs.getD k aM).v xs /\ ∀ j,∃ dt:List UInt8,j < xs.length->bU iO w (xs.getD j gC.zero).h.data.v dt:=λk=>by
  by_cases hk:k < cs.length
  ·have hk2:k < es.length:=by
    rcases h2 with rfl | ⟨sp,rfl⟩
    ·simp only [bw] at h3; omega
    ·omega
   obtain⟨xs,fs,g1,g2,g3,g4⟩:=h4 k hk hk2;refine ⟨xs,λ_=>⟨by rw [el _ hk]; exact g1,λj=>?_⟩⟩
   by_cases hj:j < xs.length
   ·have hj2:j < fs.length:=by
     rcases g2 with e | ⟨sp,e⟩
     ·simp only [*,bw] at g3; omega
     ·omega
    obtain⟨ds0,_,d1,r1,_,_,d2,r2,_,_,d3,r3,_,q3,_⟩:=g4 j hj hj2;obtain⟨ds1,_,e1,s1,_,_,e2,s2,_,_,e3,s3,_,_,e4,s4,_,_,e5,s5,_,_,e6,s6,_,_,e7,s7,_,_,e8,s8,_,_,e9,s9,_,_,e10,s10,_,_,e11,_,dt,_,hd,_⟩:=q3;exact ⟨dt,λ_=>by rw [el _ hj]; exact hd⟩
   ·exact ⟨[],λh=>absurd h hj⟩
  ·exact ⟨[],λh=>absurd h hk⟩
 obtain⟨rows,ZI⟩:=kq key;have key2:∀ k,∃ f:Nat->List UInt8,k < cs.length->∀ j,j < (rows k).length->bU iO w ((rows k).getD j gC.zero).h.data.v (f j):=λk=>by
  by_cases hk:k < cs.length
  ·obtain⟨f,hf⟩:=kq (ZI k hk).2;exact ⟨f,λ_=>hf⟩
  ·exact ⟨λ_=>[],λh=>absurd h hk⟩
 obtain⟨J8,Tq⟩:=kq key2;exact ⟨cs,rows,J8,h1,λk hk=>(ZI k hk).1,λk j hk hj=>Tq k hk j hj⟩
theorem qB {α:Type} {E:dy α} {W:World} {v:Value} {xs:List α} (h:bU E W v xs):bU E (mask W) v xs:=by
 obtain⟨a,cap,h1,h2,h3,h4,h5⟩:=h;exact ⟨a,cap,h1,h2,h3,h4,λp hp=>⟨(h5 p hp).1,λj u hu=>(Ps W _).trans ((h5 p hp).2 j u hu)⟩⟩
theorem Fz {W:World} {c:cy} {l:CL} (h:kA W c l):kA (mask W) c l:=⟨qB h.ps,qB h.rs,qB h.us,qB h.ms,qB h.xs⟩
set_option maxRecDepth 100000 in
theorem aaq (os:Os) (started:os.Started) (H:Type) (enc:TypeId × Value->H) (F:Stop.Interp) :
 ReturnsInLeavingWide {} Tryz.checked os 5 .any ((Rows.OpenSpec.upto Rows.rollOneSpec).pre6 enc Tryz.prog Tryz.f5 Rows.rollOneUptoRow.domain false) (((Rows.OpenSpec.upto Rows.rollOneSpec).at F).post enc Tryz.prog Tryz.f5 false true false false):=by
 refine leaving.oQ (C:=Tryz.checked) (s:=Rows.OpenSpec.upto Rows.rollOneSpec) (k:=Rows.uptoSmall) rfl own started Tryz.func5
  (OpenSpec.witness (enc:=enc) (C:=Tryz.checked) (s:=Rows.OpenSpec.upto Rows.rollOneSpec) (k:=Rows.uptoSmall) rfl false ⟨#[],#[np.val np.zero,(dJ aM).val (dJ aM).zero,(dJ aM).val (dJ aM).zero],[]⟩ 8 (by kernel_rfl) (by kernel_rfl) (by kernel_rfl)
   (x:=([.agg [.agg [.nil,.nil,.nil,.nil,.nil,.lit (.int .i64 0)],.agg [.nil,.nil,.nil,.nil,.nil,.lit (.int .i64 0)],.nil],.nil,.nil],[],[])) (by kernel_rfl) rfl (by kernel_rfl)) ?_
 intro W base args ds gs before ZF hW _ _ afT _;have hsz:(DataW.weightsEach Tryz.prog (Tryz.f5.params.toList ++ Rows.rollOneSpec.plain.varTypes Tryz.prog) (ds ++ gs)).all (· <= reachBytes) = true:=afT;clear afT;have hval:∀ (j:Nat) t v,Tryz.f5.params[j]? = some t->args[j]? = some v->Value.okWide Tryz.prog W .any base t v:=ZF;have hW':=hW;obtain⟨p,q,hA0,hV,rfl,hfz,hnd⟩:=hW';have hA:DataW.TrodAll enc Tryz.prog W 0 (λ_=>true) true Tryz.f5.params.toList args.toList ds p:=hA0;rw [Tryz.params5] at hA hval;obtain⟨v0,vs0,d0,ds0,p0,r0,fQ,rfl,rfl,h0,t0⟩:=trodAll_cons hA;obtain⟨v1,vs1,d1,ds1,p1,r1,rfl,rfl,rfl,h1,t1⟩:=trodAll_cons t0;obtain⟨v2,vs2,d2,ds2,p2,r2,rfl,rfl,rfl,h2,t2⟩:=trodAll_cons t1;obtain⟨rfl,rfl,rfl⟩:=trodAll_nil t2;obtain rfl:args = #[v0,v1,v2]:=by cases args; simp_all
 obtain⟨rfl,rfl⟩:=trodVars_none hV;have k0:=h0;have lt0:∀ x ∈ p0,x.block < W.heap.size:=by obtain⟨m,hm⟩:=k0; exact qg m _ _ _ hm
 obtain⟨a0,rfl,q0⟩:=xy.open afq (hval 0 31 v0 rfl rfl) h0;have k1:=h1;have lt1:∀ x ∈ p1,x.block < W.heap.size:=by obtain⟨m,hm⟩:=k1; exact qg m _ _ _ hm
 obtain⟨a1,rfl,q1⟩:=xy.open (sw (sw afn Tryz.underlying49 (by kernel_rfl) rfl) Tryz.underlying32 (by kernel_rfl) rfl) (hval 1 32 v1 rfl rfl) h1;have k2:=h2;have lt2:∀ x ∈ p2,x.block < W.heap.size:=by obtain⟨m,hm⟩:=k2; exact qg m _ _ _ hm
 obtain⟨a2,rfl,q2⟩:=xy.open (sw (vA Tryz.underlying3 (by kernel_rfl)) Tryz.underlying22 (by kernel_rfl) rfl) (hval 2 22 v2 rfl rfl) h2;clear hA0 ZF;obtain⟨l1,l2,ss,hc1,GL,hz1,hc2,BO,hz2,hst⟩:=KZ q0 hsz (j:=0) rfl rfl;obtain⟨us,rows,J8,hu,hr,Tq⟩:=O3 q1;obtain⟨ol,es2,hol,_⟩:=q2;obtain⟨M,last,o,w',t',e1,e2,e3,e4⟩:=Ye (X:=XPl) (f:=5) (by kernel_rfl) (λ_ _=>trivial) (λ_ h=>h) (λ_ _ _ _ _ _ _ _ _ _ _ _ hk al hB hp=>KP hk al hB hp) (abu a0 l1 l2 ss a1 us rows J8 a2 ol (mask W) (Fz hc1) (Fz hc2) GL BO hz1 hz2 (qB hst) (qB hu) (λk hk=>qB (hr k hk)) (λk j hk hj=>qB (Tq k j hk hj)) (qB hol));refine ⟨M,last,o,w',t',e1,e2,e3,e4.mono λv he=>?_⟩;obtain⟨rfl,bel⟩:=he;exact ⟨_,_,_,[],_,[],hW,trodAll_mk1 (shut_bool Tryz.underlying4 _),(trodAll_cons_mk (Below.trod laidOut (by kernel_rfl) (dF (by kernel_rfl)) k0 bel lt0) (trodAll_cons_mk (Below.trod laidOut (by kernel_rfl) (dF (by kernel_rfl)) k1 bel lt1) (trodAll_cons_mk (Below.trod laidOut (by kernel_rfl) (dF (by kernel_rfl)) k2 bel lt2) trodAll_mk0))),rfl,bel.frame _,λh=>by cases h⟩
set_option maxRecDepth 100000 in
theorem claim_closed:joinedFacts Tryz.pinned.checked.prog 5 Tryz.f5 (Rows.OpenSpec.upto Rows.rollOneSpec).bare Rows.rollOneUptoRow = true:=by kernel_rfl
theorem claimRollOne:Rows.RollOneUptoSaid :=
 leaving.vJ 5 Tryz.f5 rfl rfl rfl rfl rfl rfl rfl ⟨rfl,rfl,rfl,rfl,rfl⟩ rfl rfl rfl rfl rfl (by kernel_rfl) Tryz.func5 claim_closed
  (dF (by kernel_rfl)) (by unfold Func.isWrapper; first | (rw [if_pos (by decide +kernel)]; kernel_rfl) | (rw [if_neg (by decide +kernel)]; exact ⟨rfl,rfl⟩))
  (λos started H enc _ F=>aaq os started H enc F)
end Go.Proofs.YtgnmiaonbadbnaaGreat
