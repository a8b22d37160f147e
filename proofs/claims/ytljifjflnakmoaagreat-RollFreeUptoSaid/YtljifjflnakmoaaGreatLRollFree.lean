/- A roll that goes flow by flow: up to six goroutines let packets pass, free: what they counted adds up. What is read is of bulk 1048576 at most. -/
import Derived.Test.YtljifjflnakmoaaGreatLeaving
import Derived.Test.YtljifjflnakmoaaGreatM7
import Derived.Test.YtljifjflnakmoaaGreatM2
set_option linter.unusedVariables false
set_option linter.unusedSimpArgs false
namespace Go.Proofs.YtljifjflnakmoaaGreat
open Go.ChangeShapes Go.WideShapes Go.ChangeAt Go.RowKit
open Go Go.Gx Go.Proofs.YtljifjflnakmoaaGreat.Tri Go.Proofs.YtljifjflnakmoaaGreat.Oc
theorem own:ownKnob Tryz.prog.godebug = none:=by kernel_rfl
theorem laidOut:laidOutB Tryz.prog = true:=by kernel_rfl
def aG.ok:Kn aG:=fun w x H d=>∃ ds,d = .agg ds ∧ (fun w x H ds=>∃ d r,ds = d :: r ∧ (fun _ _ _ _=>True) w x.1 H d ∧ (fun w a H ds=>∃ d,ds = [d] ∧ (fun w v H d=>∃ ds,d = .agg ds ∧ ∀ i (hi:i < 16) (h2:i < ds.length),(fun _ _ _ _=>True) w v[i] H ds[i]) w a H d) w x.2 H r) w (aG.of x) H ds
theorem opn81:Opn Tryz.prog 81 cz aG.ok:=dx Tryz.underlying81 (by kernel_rfl) (dh.cons rfl (opn_b Tryz.underlying4 (by kernel_rfl)) (dh.one rfl (opn_arr (l7 Tryz.underlying5 (by kernel_rfl)) Tryz.underlying79 (by kernel_rfl)))) (fun _=>rfl)
def ae.ok:Kn ae:=fun w x H d=>∃ ds,d = .agg ds ∧ (fun w x H ds=>∃ d r,ds = d :: r ∧ aG.ok w x.1 H d ∧ (fun w a H ds=>∃ d,ds = [d] ∧ (fun _ n _ _=>Fit n) w a H d) w x.2 H r) w (ae.of x) H ds
theorem opn107:Opn Tryz.prog 107 aM ae.ok:=dx Tryz.underlying107 (by kernel_rfl) (dh.cons rfl opn81 (dh.one rfl (m9 Tryz.underlying3 (by kernel_rfl)))) (fun _=>rfl)
def bm.ok:Kn bm:=fun w x H d=>∃ ds,d = .agg ds ∧ (fun w x H ds=>∃ d r,ds = d :: r ∧ ae.ok w x.1 H d ∧ (fun w a H ds=>∃ d,ds = [d] ∧ (fun _ n _ _=>Fit n) w a H d) w x.2 H r) w (bm.of x) H ds
theorem opn194:Opn Tryz.prog 194 aX bm.ok:=dx Tryz.underlying194 (by kernel_rfl) (dh.cons rfl opn107 (dh.one rfl (m9 Tryz.underlying3 (by kernel_rfl)))) (fun _=>rfl)
def bM.ok:Kn bM:=fun w x H d=>∃ ds,d = .agg ds ∧ (fun w x H ds=>∃ d r,ds = d :: r ∧ (fun _ _ _ _=>True) w x.1 H d ∧ (fun w a H ds=>∃ d,ds = [d] ∧ (fun _ _ _ _=>True) w a H d) w x.2 H r) w (bM.of x) H ds
theorem opn105:Opn Tryz.prog 105 fy bM.ok:=dx Tryz.underlying105 (by kernel_rfl) (dh.cons rfl (r9 Tryz.underlying82 (by kernel_rfl)) (dh.one rfl (r9 Tryz.underlying82 (by kernel_rfl)))) (fun _=>rfl)
def aq.ok:Kn aq:=fun w x H d=>∃ ds,d = .agg ds ∧ (fun w x H ds=>∃ d r,ds = d :: r ∧ (fun _ _ _ _=>True) w x.1 H d ∧ (fun w x H ds=>∃ d r,ds = d :: r ∧ bM.ok w x.1 H d ∧ (fun w x H ds=>∃ d r,ds = d :: r ∧ ae.ok w x.1 H d ∧ (fun w x H ds=>∃ d r,ds = d :: r ∧ ae.ok w x.1 H d ∧ (fun w x H ds=>∃ d r,ds = d :: r ∧ (fun _ _ _ _=>True) w x.1 H d ∧ (fun w x H ds=>∃ d r,ds = d :: r ∧ bM.ok w x.1 H d ∧ (fun w a H ds=>∃ d,ds = [d] ∧ bM.ok w a H d) w x.2 H r) w x.2 H r) w x.2 H r) w x.2 H r) w x.2 H r) w x.2 H r) w (aq.of x) H ds
theorem opn109:Opn Tryz.prog 109 aR aq.ok:=dx Tryz.underlying109 (by kernel_rfl) (dh.cons rfl (l7 Tryz.underlying5 (by kernel_rfl)) (dh.cons rfl opn105 (dh.cons rfl opn107 (dh.cons rfl opn107 (dh.cons rfl (l7 Tryz.underlying5 (by kernel_rfl)) (dh.cons rfl opn105 (dh.one rfl opn105))))))) (fun _=>rfl)
def aY.ok:Kn aY:=fun w x H d=>∃ ds,d = .agg ds ∧ (fun w x H ds=>∃ d r,ds = d :: r ∧ (fun _ s _ d=>s.size ≤ maxLen ∧ d = .lit (.string s.data.toList)) w x.1 H d ∧ (fun w x H ds=>∃ d r,ds = d :: r ∧ aq.ok w x.1 H d ∧ (fun w x H ds=>∃ d r,ds = d :: r ∧ (fun _ n _ _=>Fit n) w x.1 H d ∧ (fun w x H ds=>∃ d r,ds = d :: r ∧ (fun _ n _ _=>Fit n) w x.1 H d ∧ (fun w x H ds=>∃ d r,ds = d :: r ∧ (fun _ s _ d=>s.size ≤ maxLen ∧ d = .lit (.string s.data.toList)) w x.1 H d ∧ (fun w a H ds=>∃ d,ds = [d] ∧ (fun _ s _ d=>s.size ≤ maxLen ∧ d = .lit (.string s.data.toList)) w a H d) w x.2 H r) w x.2 H r) w x.2 H r) w x.2 H r) w x.2 H r) w (aY.of x) H ds
theorem opn111:Opn Tryz.prog 111 cy aY.ok:=dx Tryz.underlying111 (by kernel_rfl) (dh.cons rfl (opn_s Tryz.underlying9 (by kernel_rfl)) (dh.cons rfl opn109 (dh.cons rfl (m9 Tryz.underlying3 (by kernel_rfl)) (dh.cons rfl (m9 Tryz.underlying3 (by kernel_rfl)) (dh.cons rfl (opn_s Tryz.underlying9 (by kernel_rfl)) (dh.one rfl (opn_s Tryz.underlying9 (by kernel_rfl)))))))) (fun _=>rfl)
def bc.ok:Kn bc:=fun w x H d=>∃ ds,d = .agg ds ∧ (fun w x H ds=>∃ d r,ds = d :: r ∧ (fun _ _ _ _=>True) w x.1 H d ∧ (fun w x H ds=>∃ d r,ds = d :: r ∧ (fun _ _ _ _=>True) w x.1 H d ∧ (fun w a H ds=>∃ d,ds = [d] ∧ (fun _ _ _ _=>True) w a H d) w x.2 H r) w x.2 H r) w (bc.of x) H ds
theorem opn137:Opn Tryz.prog 137 j6 bc.ok:=dx Tryz.underlying137 (by kernel_rfl) (dh.cons rfl (pH Tryz.underlying51 (by kernel_rfl)) (dh.cons rfl (pH Tryz.underlying51 (by kernel_rfl)) (dh.one rfl (pH Tryz.underlying51 (by kernel_rfl))))) (fun _=>rfl)
def aI.ok:Kn aI:=fun w x H d=>∃ ds,d = .agg ds ∧ (fun w x H ds=>∃ d r,ds = d :: r ∧ (fun _ s _ d=>s.size ≤ maxLen ∧ d = .lit (.string s.data.toList)) w x.1 H d ∧ (fun w a H ds=>∃ d,ds = [d] ∧ bc.ok w a H d) w x.2 H r) w (aI.of x) H ds
theorem opn139:Opn Tryz.prog 139 bj aI.ok:=dx Tryz.underlying139 (by kernel_rfl) (dh.cons rfl (opn_s Tryz.underlying9 (by kernel_rfl)) (dh.one rfl opn137)) (fun _=>rfl)
def az.ok:Kn az:=fun w x H d=>∃ ds,d = .agg ds ∧ (fun w x H ds=>∃ d r,ds = d :: r ∧ (fun _ s _ d=>s.size ≤ maxLen ∧ d = .lit (.string s.data.toList)) w x.1 H d ∧ (fun w x H ds=>∃ d r,ds = d :: r ∧ (fun _ n _ _=>Fit n) w x.1 H d ∧ (fun w a H ds=>∃ d,ds = [d] ∧ (fun _ n _ _=>Fit n) w a H d) w x.2 H r) w x.2 H r) w (az.of x) H ds
theorem opn141:Opn Tryz.prog 141 bg az.ok:=dx Tryz.underlying141 (by kernel_rfl) (dh.cons rfl (opn_s Tryz.underlying9 (by kernel_rfl)) (dh.cons rfl (m9 Tryz.underlying3 (by kernel_rfl)) (dh.one rfl (m9 Tryz.underlying3 (by kernel_rfl))))) (fun _=>rfl)
def aN.ok:Kn aN:=fun w x H d=>∃ ds,d = .agg ds ∧ (fun w x H ds=>∃ d r,ds = d :: r ∧ (SlQ iE (fun _ n _ _=>Fit n)) w x.1 H d ∧ (fun w x H ds=>∃ d r,ds = d :: r ∧ (SlQ aX bm.ok) w x.1 H d ∧ (fun w x H ds=>∃ d r,ds = d :: r ∧ (SlQ cy aY.ok) w x.1 H d ∧ (fun w x H ds=>∃ d r,ds = d :: r ∧ (SlQ bj aI.ok) w x.1 H d ∧ (fun w x H ds=>∃ d r,ds = d :: r ∧ (SlQ bg az.ok) w x.1 H d ∧ (fun w a H ds=>∃ d,ds = [d] ∧ (fun _ n _ _=>Fit n) w a H d) w x.2 H r) w x.2 H r) w x.2 H r) w x.2 H r) w x.2 H r) w (aN.of x) H ds
theorem opn28:Opn Tryz.prog 28 cZ aN.ok:=dx Tryz.underlying28 (by kernel_rfl) (dh.cons rfl (lr (m9 Tryz.underlying3 (by kernel_rfl)) Tryz.underlying22 (by kernel_rfl) rfl) (dh.cons rfl (lr opn194 Tryz.underlying23 (by kernel_rfl) rfl) (dh.cons rfl (lr opn111 Tryz.underlying24 (by kernel_rfl) rfl) (dh.cons rfl (lr opn139 Tryz.underlying25 (by kernel_rfl) rfl) (dh.cons rfl (lr opn141 Tryz.underlying26 (by kernel_rfl) rfl) (dh.one rfl (m9 Tryz.underlying3 (by kernel_rfl)))))))) (fun _=>rfl)
theorem nQ {w:World} {H:Type} {α:Type} {xs:List α} {ds:List (DataW H)} {Q:World→α→DataW H→Prop} {f:α→ByteArray} (hl:xs.length = ds.length) (hq:∀ i (h1:i < xs.length) (h2:i < ds.length),Q w xs[i] ds[i]) (hf:∀ w x d,Q w x d→(f x).size ≤ 9223372036854775807):∀ x ∈ xs,(f x).size ≤ 9223372036854775807:=fun x hx=>by
 obtain ⟨i,hi,rfl⟩:=List.mem_iff_getElem.1 hx;exact hf _ _ _ (hq i hi (by omega))
theorem conf_open {H:Type} {w:World} {c:aN} {d:DataW H} (hq:aN.ok w c H d):∃ l:CL,eI w c l ∧ l.Names:=by
 obtain ⟨ds0,rfl,d1,r1,rfl,q1,d2,r2,rfl,q2,d3,r3,rfl,q3,d4,r4,rfl,q4,d5,r5,rfl,q5,_⟩:=hq;obtain ⟨ps,e1,h1,_⟩:=q1;obtain ⟨rs,e2,h2,_⟩:=q2;obtain ⟨us,e3,h3,_,l3,n3⟩:=q3;obtain ⟨ms,e4,h4,_,l4,n4⟩:=q4;obtain ⟨xs,e5,h5,_,l5,n5⟩:=q5;refine ⟨⟨ps,rs,us,ms,xs⟩,⟨h1,h2,h3,h4,h5⟩,⟨?_,?_,?_⟩⟩
 ·exact nQ (Q:=fun w x d=>aY.ok w x H d) l3 n3 (fun w x d ⟨_,_,_,_,_,h,_⟩=>h.1)
 ·exact nQ (Q:=fun w x d=>aI.ok w x H d) l4 n4 (fun w x d ⟨_,_,_,_,_,h,_⟩=>h.1)
 ·exact nQ (Q:=fun w x d=>az.ok w x H d) l5 n5 (fun w x d ⟨_,_,_,_,_,h,_⟩=>h.1)
theorem mR {H:Type} {d:DataW H} {es:List (DataW H)} {ts:List TypeId} {ds:List (DataW H)} (h2:SlD d es) (hz:(DataW.weightsEach Tryz.prog ts ds).all (· ≤ reachBytes) = true) {j n:Nat} {t e:TypeId} (ht:ts[j]? = some t) (hd:ds[j]? = some d) (hu:Tryz.prog.underlying t = some (.slice e)) (hb:Tryz.prog.bytesOf e = n):es.length * n ≤ 140737488351232:=by
 rcases h2 with rfl | ⟨sp,rfl⟩
 ·simp
 ·have h5:=sized_slice hz ht hd hu;rw [hb] at h5;have h6:reachBytes = 140737488351232:=by decide
  rw [h6] at h5;have h7:es.length * n ≤ (es.length + sp.length) * n:=Nat.mul_le_mul_right _ (by omega);omega
theorem uk {H:Type} {w:World} {c:aN} {d:DataW H} {ts:List TypeId} {ds:List (DataW H)} (hq:aN.ok w c H d) (hz:(DataW.weightsEach Tryz.prog ts ds).all (· ≤ reachBytes) = true) {j:Nat} (ht:ts[j]? = some 28) (hd:ds[j]? = some d):∃ l:CL,eI w c l ∧ l.Names ∧ l.n ≤ 4611686018427387904:=by
 obtain ⟨ds0,rfl,d1,r1,rfl,q1,d2,r2,rfl,q2,d3,r3,rfl,q3,d4,r4,rfl,q4,d5,r5,rfl,q5,_⟩:=hq;have hz2:=vh hz ht hd Tryz.underlying28;obtain ⟨ps,e1,h1,g1,l1,_⟩:=q1;obtain ⟨rs,e2,h2,g2,l2,_⟩:=q2;obtain ⟨us,e3,h3,g3,l3,n3⟩:=q3;obtain ⟨ms,e4,h4,g4,l4,n4⟩:=q4;obtain ⟨xs,e5,h5,g5,l5,n5⟩:=q5;have z1:=mR g1 hz2 (j:=0) (by kernel_rfl) rfl Tryz.underlying22 (by kernel_rfl:Tryz.prog.bytesOf 3 = 8);have z2:=mR g2 hz2 (j:=1) (by kernel_rfl) rfl Tryz.underlying23 (by kernel_rfl:Tryz.prog.bytesOf 194 = 40);have z3:=mR g3 hz2 (j:=2) (by kernel_rfl) rfl Tryz.underlying24 (by kernel_rfl:Tryz.prog.bytesOf 111 = 152);have z4:=mR g4 hz2 (j:=3) (by kernel_rfl) rfl Tryz.underlying25 (by kernel_rfl:Tryz.prog.bytesOf 139 = 40);have z5:=mR g5 hz2 (j:=4) (by kernel_rfl) rfl Tryz.underlying26 (by kernel_rfl:Tryz.prog.bytesOf 141 = 32);refine ⟨⟨ps,rs,us,ms,xs⟩,⟨h1,h2,h3,h4,h5⟩,⟨?_,?_,?_⟩,?_⟩
 ·exact nQ (Q:=fun w x d=>aY.ok w x H d) l3 n3 (fun w x d ⟨_,_,_,_,_,h,_⟩=>h.1)
 ·exact nQ (Q:=fun w x d=>aI.ok w x H d) l4 n4 (fun w x d ⟨_,_,_,_,_,h,_⟩=>h.1)
 ·exact nQ (Q:=fun w x d=>az.ok w x H d) l5 n5 (fun w x d ⟨_,_,_,_,_,h,_⟩=>h.1)
 ·show ps.length + rs.length + us.length + ms.length + xs.length ≤ _;omega
def au.ok:Kn au:=fun w x H d=>∃ ds,d = .agg ds ∧ (fun w x H ds=>∃ d r,ds = d :: r ∧ (fun _ n _ _=>Fit n) w x.1 H d ∧ (fun w x H ds=>∃ d r,ds = d :: r ∧ (fun _ _ _ _=>True) w x.1 H d ∧ (fun w a H ds=>∃ d,ds = [d] ∧ (fun _ _ _ _=>True) w a H d) w x.2 H r) w x.2 H r) w (au.of x) H ds
theorem opn53:Opn Tryz.prog 53 aS au.ok:=dx Tryz.underlying53 (by kernel_rfl) (dh.cons rfl (m9 Tryz.underlying3 (by kernel_rfl)) (dh.cons rfl (pH Tryz.underlying51 (by kernel_rfl)) (dh.one rfl (pH Tryz.underlying51 (by kernel_rfl))))) (fun _=>rfl)
def bf.ok:Kn bf:=fun w x H d=>∃ ds,d = .agg ds ∧ (fun w x H ds=>∃ d r,ds = d :: r ∧ aN.ok w x.1 H d ∧ (fun w x H ds=>∃ d r,ds = d :: r ∧ aN.ok w x.1 H d ∧ (fun w a H ds=>∃ d,ds = [d] ∧ (SlQ aS au.ok) w a H d) w x.2 H r) w x.2 H r) w (bf.of x) H ds
theorem opn31:Opn Tryz.prog 31 dV bf.ok:=dx Tryz.underlying31 (by kernel_rfl) (dh.cons rfl opn28 (dh.cons rfl opn28 (dh.one rfl (lr opn53 Tryz.underlying29 (by kernel_rfl) rfl)))) (fun _=>rfl)
theorem plan_sized {H:Type} {w:World} {p:bf} {d:DataW H} {ts:List TypeId} {ds:List (DataW H)} (hq:bf.ok w p H d) (hz:(DataW.weightsEach Tryz.prog ts ds).all (· ≤ reachBytes) = true) {j:Nat} (ht:ts[j]? = some 31) (hd:ds[j]? = some d):∃ (l1 l2:CL) (ss:List au),eI w p.old l1 ∧ l1.Names ∧ l1.n ≤ 4611686018427387904 ∧ eI w p.new l2 ∧ l2.Names ∧ l2.n ≤ 4611686018427387904 ∧ aO aS w p.mQ.v ss:=by
 obtain ⟨ds0,rfl,d1,r1,rfl,q1,d2,r2,rfl,q2,d3,rfl,q3⟩:=hq;have hz2:=vh hz ht hd Tryz.underlying31;obtain ⟨l1,a1,a2,a3⟩:=uk q1 hz2 (j:=0) rfl rfl;obtain ⟨l2,b1,b2,b3⟩:=uk q2 hz2 (j:=1) rfl rfl;obtain ⟨ss,es,h1,_⟩:=q3;exact ⟨l1,l2,ss,a1,a2,a3,b1,b2,b3,h1⟩
def aa.ok:Kn aa:=fun w x H d=>∃ ds,d = .agg ds ∧ (fun w x H ds=>∃ d r,ds = d :: r ∧ aG.ok w x.1 H d ∧ (fun w x H ds=>∃ d r,ds = d :: r ∧ aG.ok w x.1 H d ∧ (fun w x H ds=>∃ d r,ds = d :: r ∧ (fun _ _ _ _=>True) w x.1 H d ∧ (fun w x H ds=>∃ d r,ds = d :: r ∧ (fun _ _ _ _=>True) w x.1 H d ∧ (fun w x H ds=>∃ d r,ds = d :: r ∧ (fun _ _ _ _=>True) w x.1 H d ∧ (fun w x H ds=>∃ d r,ds = d :: r ∧ (fun _ _ _ _=>True) w x.1 H d ∧ (fun w x H ds=>∃ d r,ds = d :: r ∧ (fun _ _ _ _=>True) w x.1 H d ∧ (fun w x H ds=>∃ d r,ds = d :: r ∧ (fun _ _ _ _=>True) w x.1 H d ∧ (fun w x H ds=>∃ d r,ds = d :: r ∧ (fun _ _ _ _=>True) w x.1 H d ∧ (fun w x H ds=>∃ d r,ds = d :: r ∧ (fun _ _ _ _=>True) w x.1 H d ∧ (fun w a H ds=>∃ d,ds = [d] ∧ (SlQ u8E (fun _ _ _ _=>True)) w a H d) w x.2 H r) w x.2 H r) w x.2 H r) w x.2 H r) w x.2 H r) w x.2 H r) w x.2 H r) w x.2 H r) w x.2 H r) w x.2 H r) w (aa.of x) H ds
theorem opn85:Opn Tryz.prog 85 aA aa.ok:=dx Tryz.underlying85 (by kernel_rfl) (dh.cons rfl opn81 (dh.cons rfl opn81 (dh.cons rfl (l7 Tryz.underlying5 (by kernel_rfl)) (dh.cons rfl (r9 Tryz.underlying82 (by kernel_rfl)) (dh.cons rfl (r9 Tryz.underlying82 (by kernel_rfl)) (dh.cons rfl (l7 Tryz.underlying5 (by kernel_rfl)) (dh.cons rfl (l7 Tryz.underlying5 (by kernel_rfl)) (dh.cons rfl (opn_u32 Tryz.underlying83 (by kernel_rfl)) (dh.cons rfl (l7 Tryz.underlying5 (by kernel_rfl)) (dh.cons rfl (opn_u32 Tryz.underlying83 (by kernel_rfl)) (dh.one rfl (lr (l7 Tryz.underlying5 (by kernel_rfl)) Tryz.underlying48 (by kernel_rfl) rfl)))))))))))) (fun _=>rfl)
def a8.ok:Kn a8:=fun w x H d=>∃ ds,d = .agg ds ∧ (fun w x H ds=>∃ d r,ds = d :: r ∧ (fun _ n _ _=>Fit n) w x.1 H d ∧ (fun w x H ds=>∃ d r,ds = d :: r ∧ (fun _ n _ _=>Fit n) w x.1 H d ∧ (fun w x H ds=>∃ d r,ds = d :: r ∧ aa.ok w x.1 H d ∧ (fun w x H ds=>∃ d r,ds = d :: r ∧ (fun _ _ _ _=>True) w x.1 H d ∧ (fun w a H ds=>∃ d,ds = [d] ∧ (SlQ u8E (fun _ _ _ _=>True)) w a H d) w x.2 H r) w x.2 H r) w x.2 H r) w x.2 H r) w (a8.of x) H ds
theorem opn87:Opn Tryz.prog 87 cP a8.ok:=dx Tryz.underlying87 (by kernel_rfl) (dh.cons rfl (m9 Tryz.underlying3 (by kernel_rfl)) (dh.cons rfl (m9 Tryz.underlying3 (by kernel_rfl)) (dh.cons rfl opn85 (dh.cons rfl (opn_b Tryz.underlying4 (by kernel_rfl)) (dh.one rfl (lr (l7 Tryz.underlying5 (by kernel_rfl)) Tryz.underlying48 (by kernel_rfl) rfl)))))) (fun _=>rfl)
theorem rows_open {H:Type} {w:World} {o:OV} {d:DataW H} (hq:SlQ (ovE ai) (SlQ cP a8.ok) w o H d):∃ (us:List OV) (rows:Nat→List a8) (dat:Nat→Nat→List UInt8),aO (ovE ai) w o.v us ∧ jT w us rows ∧ ∀ k j,k < us.length→j < (rows k).length→aO u8E w ((rows k).getD j cP.zero).h.data.v (dat k j):=by
 obtain ⟨cs,es,h1,h2,h3,h4⟩:=hq;have el:∀ {α:Type} {l:List α} {i:Nat} (z:α) (h:i < l.length),l.getD i z = l[i]:=fun z h=>by simp [List.getD,h]
 have key:∀ k,∃ xs:List a8,k < cs.length→aO cP w (cs.getD k ai).v xs ∧ ∀ j,∃ dt:List UInt8,j < xs.length→aO u8E w (xs.getD j cP.zero).h.data.v dt:=fun k=>by
  by_cases hk:k < cs.length
  ·have hk2:k < es.length:=by
    rcases h2 with rfl | ⟨sp,rfl⟩
    ·simp only [List.length_nil] at h3; omega
    ·omega
   obtain ⟨xs,fs,g1,g2,g3,g4⟩:=h4 k hk hk2;refine ⟨xs,fun _=>⟨by rw [el _ hk]; exact g1,fun j=>?_⟩⟩
   by_cases hj:j < xs.length
   ·have hj2:j < fs.length:=by
     rcases g2 with e | ⟨sp,e⟩
     ·simp only [*,List.length_nil] at g3; omega
     ·omega
    obtain ⟨ds0,_,d1,r1,_,_,d2,r2,_,_,d3,r3,_,q3,_⟩:=g4 j hj hj2;obtain ⟨ds1,_,e1,s1,_,_,e2,s2,_,_,e3,s3,_,_,e4,s4,_,_,e5,s5,_,_,e6,s6,_,_,e7,s7,_,_,e8,s8,_,_,e9,s9,_,_,e10,s10,_,_,e11,_,dt,_,hd,_⟩:=q3;exact ⟨dt,fun _=>by rw [el _ hj]; exact hd⟩
   ·exact ⟨[],fun h=>absurd h hj⟩
  ·exact ⟨[],fun h=>absurd h hk⟩
 obtain ⟨rows,hrows⟩:=Classical.axiomOfChoice key;have key2:∀ k,∃ f:Nat→List UInt8,k < cs.length→∀ j,j < (rows k).length→aO u8E w ((rows k).getD j cP.zero).h.data.v (f j):=fun k=>by
  by_cases hk:k < cs.length
  ·obtain ⟨f,hf⟩:=Classical.axiomOfChoice (hrows k hk).2;exact ⟨f,fun _=>hf⟩
  ·exact ⟨fun _=>[],fun h=>absurd h hk⟩
 obtain ⟨dat,hdat⟩:=Classical.axiomOfChoice key2;exact ⟨cs,rows,dat,h1,fun k hk=>(hrows k hk).1,fun k j hk hj=>hdat k hk j hj⟩
theorem jZ {α:Type} {E:Enc α} {W:World} {v:Value} {xs:List α} (h:aO E W v xs):aO E (mask W) v xs:=by
 obtain ⟨a,cap,h1,h2,h3,h4,h5⟩:=h;exact ⟨a,cap,h1,h2,h3,h4,fun p hp=>⟨(h5 p hp).1,fun j u hu=>(mask_cell W _).trans ((h5 p hp).2 j u hu)⟩⟩
theorem vY {W:World} {c:aN} {l:CL} (h:eI W c l):eI (mask W) c l:=⟨jZ h.ps,jZ h.rs,jZ h.us,jZ h.ms,jZ h.xs⟩
set_option maxRecDepth 100000 in
theorem rS (os:Os) (started:os.Started) (H:Type) (enc:TypeId × Value→H) (F:Stop.Interp) :
 ReturnsInLeavingWide {} Tryz.checked os 3 .any ((Rows.OpenSpec.upto Rows.rollFreeSpec).pre6 enc Tryz.prog Tryz.f3 Rows.rollFreeUptoRow.domain false) (((Rows.OpenSpec.upto Rows.rollFreeSpec).at F).post enc Tryz.prog Tryz.f3 false true false false):=by
 refine leaving.ie (C:=Tryz.checked) (s:=Rows.OpenSpec.upto Rows.rollFreeSpec) (k:=Rows.uptoSmall) rfl own started Tryz.func3
  (OpenSpec.witness (enc:=enc) (C:=Tryz.checked) (s:=Rows.OpenSpec.upto Rows.rollFreeSpec) (k:=Rows.uptoSmall) rfl false ⟨#[],#[dV.val dV.zero,(ovE ai).val (ovE ai).zero],[]⟩ 8 (by kernel_rfl) (by kernel_rfl) (by kernel_rfl)
   (x:=([.agg [.agg [.nil,.nil,.nil,.nil,.nil,.lit (.int .i64 0)],.agg [.nil,.nil,.nil,.nil,.nil,.lit (.int .i64 0)],.nil],.nil],[],[])) (by kernel_rfl) rfl (by kernel_rfl)) ?_
 intro W base args ds gs before hval0 hW _ _ hsz0 _;have hsz:(DataW.weightsEach Tryz.prog (Tryz.f3.params.toList ++ Rows.rollFreeSpec.plain.varTypes Tryz.prog) (ds ++ gs)).all (· ≤ reachBytes) = true:=hsz0;clear hsz0;have hval:∀ (j:Nat) t v,Tryz.f3.params[j]? = some t→args[j]? = some v→Value.okWide Tryz.prog W .any base t v:=hval0;have hW':=hW;obtain ⟨p,q,hA0,hV,rfl,hfz,hnd⟩:=hW';have hA:DataW.TrodAll enc Tryz.prog W 0 (fun _=>true) true Tryz.f3.params.toList args.toList ds p:=hA0;rw [Tryz.params3] at hA hval;obtain ⟨v0,vs0,d0,ds0,p0,r0,hargs,rfl,rfl,h0,t0⟩:=trodAll_cons hA;obtain ⟨v1,vs1,d1,ds1,p1,r1,rfl,rfl,rfl,h1,t1⟩:=trodAll_cons t0;obtain ⟨rfl,rfl,rfl⟩:=trodAll_nil t1;obtain rfl:args = #[v0,v1]:=by cases args; simp_all
 obtain ⟨rfl,rfl⟩:=trodVars_none hV;have k0:=h0;have lt0:∀ x ∈ p0,x.block < W.heap.size:=by obtain ⟨m,hm⟩:=k0; exact DataW.trod_lt m _ _ _ hm
 obtain ⟨a0,rfl,q0⟩:=Opn.open opn31 (hval 0 31 v0 rfl rfl) h0;have k1:=h1;have lt1:∀ x ∈ p1,x.block < W.heap.size:=by obtain ⟨m,hm⟩:=k1; exact DataW.trod_lt m _ _ _ hm
 obtain ⟨a1,rfl,q1⟩:=Opn.open (lr (lr opn87 Tryz.underlying78 (by kernel_rfl) rfl) Tryz.underlying32 (by kernel_rfl) rfl) (hval 1 32 v1 rfl rfl) h1;clear hA0 hval0;obtain ⟨l1,l2,ss,hc1,hn1,hz1,hc2,hn2,hz2,hst⟩:=plan_sized q0 hsz (j:=0) rfl rfl;obtain ⟨us,rows,dat,hu,hr,hdat⟩:=rows_open q1;obtain ⟨M,last,o,w',t',e1,e2,e3,e4⟩:=ends_ok (X:=XP) (f:=3) (by kernel_rfl) (fun _ _=>trivial) (fun _ h=>h) (fun _ _ _ _ _ _ _ _ _ _ _ _ hk al hB hp=>free_comes hk al hB hp) (uZ a0 l1 l2 ss a1 us rows dat (mask W) 0 (Nat.zero_le _) (vY hc1) (vY hc2) hn1 hn2 hz1 hz2 (jZ hst) (jZ hu) (fun k hk=>jZ (hr k hk)) (fun k j hk hj=>jZ (hdat k j hk hj)));refine ⟨M,last,o,w',t',e1,e2,e3,e4.mono fun v he=>?_⟩;obtain ⟨rfl,bel⟩:=he;exact ⟨_,_,_,[],_,[],hW,trodAll_mk1 (shut_bool Tryz.underlying4 _),(trodAll_cons_mk (Below.trod laidOut (by kernel_rfl) (of_decide_eq_true (by kernel_rfl)) k0 bel lt0) (trodAll_cons_mk (Below.trod laidOut (by kernel_rfl) (of_decide_eq_true (by kernel_rfl)) k1 bel lt1) trodAll_mk0)),rfl,bel.frame _,fun h=>by cases h⟩
set_option maxRecDepth 100000 in
theorem claimRollFree:Rows.RollFreeUptoSaid :=
 leaving.mC 3 Tryz.f3 rfl rfl rfl rfl rfl rfl rfl ⟨rfl,rfl,rfl,rfl,rfl⟩ rfl rfl rfl rfl rfl (by kernel_rfl) Tryz.func3 (by kernel_rfl)
  (of_decide_eq_true (by kernel_rfl)) (by unfold Func.isWrapper; first | (rw [if_pos (by decide +kernel)]; kernel_rfl) | (rw [if_neg (by decide +kernel)]; exact ⟨rfl,rfl⟩))
  (fun os started H enc _ F=>rS os started H enc F)
end Go.Proofs.YtljifjflnakmoaaGreat
