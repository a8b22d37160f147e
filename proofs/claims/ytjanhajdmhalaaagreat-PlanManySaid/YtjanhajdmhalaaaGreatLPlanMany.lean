/- One plan, asked by up to four goroutines at a time, answers as ever. No conditions. -/
import Derived.Test.YtjanhajdmhalaaaGreatM16
import Derived.Test.YtjanhajdmhalaaaGreatM17
set_option linter.unusedVariables false
set_option linter.unusedSimpArgs false
namespace Go.Proofs.YtjanhajdmhalaaaGreat
open Go.ChangeShapes Go.WideShapes Go.ChangeAt Go.RowKit
open Go Go.Gx Go.Proofs.YtjanhajdmhalaaaGreat.Tri
theorem own:ownKnob Tryz.prog.godebug = none:=by kernel_rfl
theorem laidOut:laidOutB Tryz.prog = true:=by kernel_rfl
def a7.ok:Kn a7:=fun w x H d=>∃ ds,d = .agg ds ∧ (fun w x H ds=>∃ d r,ds = d :: r ∧ (fun _ _ _ _=>True) w x.1 H d ∧ (fun w a H ds=>∃ d,ds = [d] ∧ (fun w v H d=>∃ ds,d = .agg ds ∧ ∀ i (hi:i < 16) (h2:i < ds.length),(fun _ _ _ _=>True) w v[i] H ds[i]) w a H d) w x.2 H r) w (a7.of x) H ds
theorem opn42:Opn Tryz.prog 42 bP a7.ok:=dX Tryz.underlying42 (by kernel_rfl) (dP.cons rfl (opn_b Tryz.underlying4 (by kernel_rfl)) (dP.one rfl (opn_arr (kz Tryz.underlying5 (by kernel_rfl)) Tryz.underlying40 (by kernel_rfl)))) (fun _=>rfl)
def aq.ok:Kn aq:=fun w x H d=>∃ ds,d = .agg ds ∧ (fun w x H ds=>∃ d r,ds = d :: r ∧ a7.ok w x.1 H d ∧ (fun w a H ds=>∃ d,ds = [d] ∧ (fun _ n _ _=>Fit n) w a H d) w x.2 H r) w (aq.of x) H ds
theorem opn84:Opn Tryz.prog 84 aH aq.ok:=dX Tryz.underlying84 (by kernel_rfl) (dP.cons rfl opn42 (dP.one rfl (lD Tryz.underlying3 (by kernel_rfl)))) (fun _=>rfl)
def aU.ok:Kn aU:=fun w x H d=>∃ ds,d = .agg ds ∧ (fun w x H ds=>∃ d r,ds = d :: r ∧ aq.ok w x.1 H d ∧ (fun w a H ds=>∃ d,ds = [d] ∧ (fun _ n _ _=>Fit n) w a H d) w x.2 H r) w (aU.of x) H ds
theorem opn111:Opn Tryz.prog 111 aA aU.ok:=dX Tryz.underlying111 (by kernel_rfl) (dP.cons rfl opn84 (dP.one rfl (lD Tryz.underlying3 (by kernel_rfl)))) (fun _=>rfl)
def bK.ok:Kn bK:=fun w x H d=>∃ ds,d = .agg ds ∧ (fun w x H ds=>∃ d r,ds = d :: r ∧ (fun _ _ _ _=>True) w x.1 H d ∧ (fun w a H ds=>∃ d,ds = [d] ∧ (fun _ _ _ _=>True) w a H d) w x.2 H r) w (bK.of x) H ds
theorem opn82:Opn Tryz.prog 82 bB bK.ok:=dX Tryz.underlying82 (by kernel_rfl) (dP.cons rfl (oc Tryz.underlying43 (by kernel_rfl)) (dP.one rfl (oc Tryz.underlying43 (by kernel_rfl)))) (fun _=>rfl)
def aB.ok:Kn aB:=fun w x H d=>∃ ds,d = .agg ds ∧ (fun w x H ds=>∃ d r,ds = d :: r ∧ (fun _ _ _ _=>True) w x.1 H d ∧ (fun w x H ds=>∃ d r,ds = d :: r ∧ bK.ok w x.1 H d ∧ (fun w x H ds=>∃ d r,ds = d :: r ∧ aq.ok w x.1 H d ∧ (fun w x H ds=>∃ d r,ds = d :: r ∧ aq.ok w x.1 H d ∧ (fun w x H ds=>∃ d r,ds = d :: r ∧ (fun _ _ _ _=>True) w x.1 H d ∧ (fun w x H ds=>∃ d r,ds = d :: r ∧ bK.ok w x.1 H d ∧ (fun w a H ds=>∃ d,ds = [d] ∧ bK.ok w a H d) w x.2 H r) w x.2 H r) w x.2 H r) w x.2 H r) w x.2 H r) w x.2 H r) w (aB.of x) H ds
theorem opn86:Opn Tryz.prog 86 ay aB.ok:=dX Tryz.underlying86 (by kernel_rfl) (dP.cons rfl (kz Tryz.underlying5 (by kernel_rfl)) (dP.cons rfl opn82 (dP.cons rfl opn84 (dP.cons rfl opn84 (dP.cons rfl (kz Tryz.underlying5 (by kernel_rfl)) (dP.cons rfl opn82 (dP.one rfl opn82))))))) (fun _=>rfl)
def aO.ok:Kn aO:=fun w x H d=>∃ ds,d = .agg ds ∧ (fun w x H ds=>∃ d r,ds = d :: r ∧ (fun _ s _ d=>s.size ≤ maxLen ∧ d = .lit (.string s.data.toList)) w x.1 H d ∧ (fun w x H ds=>∃ d r,ds = d :: r ∧ aB.ok w x.1 H d ∧ (fun w x H ds=>∃ d r,ds = d :: r ∧ (fun _ n _ _=>Fit n) w x.1 H d ∧ (fun w x H ds=>∃ d r,ds = d :: r ∧ (fun _ n _ _=>Fit n) w x.1 H d ∧ (fun w x H ds=>∃ d r,ds = d :: r ∧ (fun _ s _ d=>s.size ≤ maxLen ∧ d = .lit (.string s.data.toList)) w x.1 H d ∧ (fun w a H ds=>∃ d,ds = [d] ∧ (fun _ s _ d=>s.size ≤ maxLen ∧ d = .lit (.string s.data.toList)) w a H d) w x.2 H r) w x.2 H r) w x.2 H r) w x.2 H r) w x.2 H r) w (aO.of x) H ds
theorem opn88:Opn Tryz.prog 88 aG aO.ok:=dX Tryz.underlying88 (by kernel_rfl) (dP.cons rfl (opn_s Tryz.underlying9 (by kernel_rfl)) (dP.cons rfl opn86 (dP.cons rfl (lD Tryz.underlying3 (by kernel_rfl)) (dP.cons rfl (lD Tryz.underlying3 (by kernel_rfl)) (dP.cons rfl (opn_s Tryz.underlying9 (by kernel_rfl)) (dP.one rfl (opn_s Tryz.underlying9 (by kernel_rfl)))))))) (fun _=>rfl)
def a9.ok:Kn a9:=fun w x H d=>∃ ds,d = .agg ds ∧ (fun w x H ds=>∃ d r,ds = d :: r ∧ (fun _ _ _ _=>True) w x.1 H d ∧ (fun w x H ds=>∃ d r,ds = d :: r ∧ (fun _ _ _ _=>True) w x.1 H d ∧ (fun w a H ds=>∃ d,ds = [d] ∧ (fun _ _ _ _=>True) w a H d) w x.2 H r) w x.2 H r) w (a9.of x) H ds
theorem opn73:Opn Tryz.prog 73 fE a9.ok:=dX Tryz.underlying73 (by kernel_rfl) (dP.cons rfl (opn_u64 Tryz.underlying71 (by kernel_rfl)) (dP.cons rfl (opn_u64 Tryz.underlying71 (by kernel_rfl)) (dP.one rfl (opn_u64 Tryz.underlying71 (by kernel_rfl))))) (fun _=>rfl)
def aJ.ok:Kn aJ:=fun w x H d=>∃ ds,d = .agg ds ∧ (fun w x H ds=>∃ d r,ds = d :: r ∧ (fun _ s _ d=>s.size ≤ maxLen ∧ d = .lit (.string s.data.toList)) w x.1 H d ∧ (fun w a H ds=>∃ d,ds = [d] ∧ a9.ok w a H d) w x.2 H r) w (aJ.of x) H ds
theorem opn75:Opn Tryz.prog 75 ai aJ.ok:=dX Tryz.underlying75 (by kernel_rfl) (dP.cons rfl (opn_s Tryz.underlying9 (by kernel_rfl)) (dP.one rfl opn73)) (fun _=>rfl)
def aD.ok:Kn aD:=fun w x H d=>∃ ds,d = .agg ds ∧ (fun w x H ds=>∃ d r,ds = d :: r ∧ (fun _ s _ d=>s.size ≤ maxLen ∧ d = .lit (.string s.data.toList)) w x.1 H d ∧ (fun w x H ds=>∃ d r,ds = d :: r ∧ (fun _ n _ _=>Fit n) w x.1 H d ∧ (fun w a H ds=>∃ d,ds = [d] ∧ (fun _ n _ _=>Fit n) w a H d) w x.2 H r) w x.2 H r) w (aD.of x) H ds
theorem opn77:Opn Tryz.prog 77 ae aD.ok:=dX Tryz.underlying77 (by kernel_rfl) (dP.cons rfl (opn_s Tryz.underlying9 (by kernel_rfl)) (dP.cons rfl (lD Tryz.underlying3 (by kernel_rfl)) (dP.one rfl (lD Tryz.underlying3 (by kernel_rfl))))) (fun _=>rfl)
def aV.ok:Kn aV:=fun w x H d=>∃ ds,d = .agg ds ∧ (fun w x H ds=>∃ d r,ds = d :: r ∧ (SlQ iE (fun _ n _ _=>Fit n)) w x.1 H d ∧ (fun w x H ds=>∃ d r,ds = d :: r ∧ (SlQ aA aU.ok) w x.1 H d ∧ (fun w x H ds=>∃ d r,ds = d :: r ∧ (SlQ aG aO.ok) w x.1 H d ∧ (fun w x H ds=>∃ d r,ds = d :: r ∧ (SlQ ai aJ.ok) w x.1 H d ∧ (fun w x H ds=>∃ d r,ds = d :: r ∧ (SlQ ae aD.ok) w x.1 H d ∧ (fun w a H ds=>∃ d,ds = [d] ∧ (fun _ n _ _=>Fit n) w a H d) w x.2 H r) w x.2 H r) w x.2 H r) w x.2 H r) w x.2 H r) w (aV.of x) H ds
theorem opn28:Opn Tryz.prog 28 aK aV.ok:=dX Tryz.underlying28 (by kernel_rfl) (dP.cons rfl (l7 (lD Tryz.underlying3 (by kernel_rfl)) Tryz.underlying22 (by kernel_rfl) rfl) (dP.cons rfl (l7 opn111 Tryz.underlying23 (by kernel_rfl) rfl) (dP.cons rfl (l7 opn88 Tryz.underlying24 (by kernel_rfl) rfl) (dP.cons rfl (l7 opn75 Tryz.underlying25 (by kernel_rfl) rfl) (dP.cons rfl (l7 opn77 Tryz.underlying26 (by kernel_rfl) rfl) (dP.one rfl (lD Tryz.underlying3 (by kernel_rfl)))))))) (fun _=>rfl)
theorem kX {w:World} {H:Type} {α:Type} {xs:List α} {ds:List (DataW H)} {Q:World→α→DataW H→Prop} {f:α→ByteArray} (hl:xs.length = ds.length) (hq:∀ i (h1:i < xs.length) (h2:i < ds.length),Q w xs[i] ds[i]) (hf:∀ w x d,Q w x d→(f x).size ≤ 9223372036854775807):∀ x ∈ xs,(f x).size ≤ 9223372036854775807:=fun x hx=>by
  obtain ⟨i,hi,rfl⟩:=List.mem_iff_getElem.1 hx
  exact hf _ _ _ (hq i hi (by omega))
theorem conf_open {H:Type} {w:World} {c:aV} {d:DataW H} (hq:aV.ok w c H d):∃ l:CL,gw w c l ∧ l.Names:=by
  obtain ⟨ds0,rfl,d1,r1,rfl,q1,d2,r2,rfl,q2,d3,r3,rfl,q3,d4,r4,rfl,q4,d5,r5,rfl,q5,_⟩:=hq
  obtain ⟨ps,e1,h1,_⟩:=q1
  obtain ⟨rs,e2,h2,_⟩:=q2
  obtain ⟨us,e3,h3,_,l3,n3⟩:=q3
  obtain ⟨ms,e4,h4,_,l4,n4⟩:=q4
  obtain ⟨xs,e5,h5,_,l5,n5⟩:=q5
  refine ⟨⟨ps,rs,us,ms,xs⟩,⟨h1,h2,h3,h4,h5⟩,⟨?_,?_,?_⟩⟩
  · exact kX (Q:=fun w x d=>aO.ok w x H d) l3 n3 (fun w x d ⟨_,_,_,_,_,h,_⟩=>h.1)
  · exact kX (Q:=fun w x d=>aJ.ok w x H d) l4 n4 (fun w x d ⟨_,_,_,_,_,h,_⟩=>h.1)
  · exact kX (Q:=fun w x d=>aD.ok w x H d) l5 n5 (fun w x d ⟨_,_,_,_,_,h,_⟩=>h.1)
theorem kp {H:Type} {d:DataW H} {es:List (DataW H)} {ts:List TypeId} {ds:List (DataW H)} (h2:SlD d es) (hz:(DataW.weightsEach Tryz.prog ts ds).all (· ≤ reachBytes) = true) {j n:Nat} {t e:TypeId} (ht:ts[j]? = some t) (hd:ds[j]? = some d) (hu:Tryz.prog.underlying t = some (.slice e)) (hb:Tryz.prog.bytesOf e = n):es.length * n ≤ 140737488351232:=by
  rcases h2 with rfl | ⟨sp,rfl⟩
  · simp
  · have h5:=sized_slice hz ht hd hu
    rw [hb] at h5
    have h6:reachBytes = 140737488351232:=by decide
    rw [h6] at h5
    have h7:es.length * n ≤ (es.length + sp.length) * n:=Nat.mul_le_mul_right _ (by omega)
    omega
theorem conf_sized {H:Type} {w:World} {c:aV} {d:DataW H} {ts:List TypeId} {ds:List (DataW H)} (hq:aV.ok w c H d) (hz:(DataW.weightsEach Tryz.prog ts ds).all (· ≤ reachBytes) = true) {j:Nat} (ht:ts[j]? = some 28) (hd:ds[j]? = some d):∃ l:CL,gw w c l ∧ l.Names ∧ l.n ≤ 4611686018427387904:=by
  obtain ⟨ds0,rfl,d1,r1,rfl,q1,d2,r2,rfl,q2,d3,r3,rfl,q3,d4,r4,rfl,q4,d5,r5,rfl,q5,_⟩:=hq
  have hz2:=nc hz ht hd Tryz.underlying28
  obtain ⟨ps,e1,h1,g1,l1,_⟩:=q1
  obtain ⟨rs,e2,h2,g2,l2,_⟩:=q2
  obtain ⟨us,e3,h3,g3,l3,n3⟩:=q3
  obtain ⟨ms,e4,h4,g4,l4,n4⟩:=q4
  obtain ⟨xs,e5,h5,g5,l5,n5⟩:=q5
  have z1:=kp g1 hz2 (j:=0) (by kernel_rfl) rfl Tryz.underlying22 (by kernel_rfl:Tryz.prog.bytesOf 3 = 8)
  have z2:=kp g2 hz2 (j:=1) (by kernel_rfl) rfl Tryz.underlying23 (by kernel_rfl:Tryz.prog.bytesOf 111 = 40)
  have z3:=kp g3 hz2 (j:=2) (by kernel_rfl) rfl Tryz.underlying24 (by kernel_rfl:Tryz.prog.bytesOf 88 = 152)
  have z4:=kp g4 hz2 (j:=3) (by kernel_rfl) rfl Tryz.underlying25 (by kernel_rfl:Tryz.prog.bytesOf 75 = 40)
  have z5:=kp g5 hz2 (j:=4) (by kernel_rfl) rfl Tryz.underlying26 (by kernel_rfl:Tryz.prog.bytesOf 77 = 32)
  refine ⟨⟨ps,rs,us,ms,xs⟩,⟨h1,h2,h3,h4,h5⟩,⟨?_,?_,?_⟩,?_⟩
  · exact kX (Q:=fun w x d=>aO.ok w x H d) l3 n3 (fun w x d ⟨_,_,_,_,_,h,_⟩=>h.1)
  · exact kX (Q:=fun w x d=>aJ.ok w x H d) l4 n4 (fun w x d ⟨_,_,_,_,_,h,_⟩=>h.1)
  · exact kX (Q:=fun w x d=>aD.ok w x H d) l5 n5 (fun w x d ⟨_,_,_,_,_,h,_⟩=>h.1)
  · show ps.length + rs.length + us.length + ms.length + xs.length ≤ _
    omega
def au.ok:Kn au:=fun w x H d=>∃ ds,d = .agg ds ∧ (fun w x H ds=>∃ d r,ds = d :: r ∧ a7.ok w x.1 H d ∧ (fun w x H ds=>∃ d r,ds = d :: r ∧ a7.ok w x.1 H d ∧ (fun w x H ds=>∃ d r,ds = d :: r ∧ (fun _ _ _ _=>True) w x.1 H d ∧ (fun w x H ds=>∃ d r,ds = d :: r ∧ (fun _ _ _ _=>True) w x.1 H d ∧ (fun w x H ds=>∃ d r,ds = d :: r ∧ (fun _ _ _ _=>True) w x.1 H d ∧ (fun w x H ds=>∃ d r,ds = d :: r ∧ (fun _ _ _ _=>True) w x.1 H d ∧ (fun w x H ds=>∃ d r,ds = d :: r ∧ (fun _ _ _ _=>True) w x.1 H d ∧ (fun w x H ds=>∃ d r,ds = d :: r ∧ (fun _ _ _ _=>True) w x.1 H d ∧ (fun w x H ds=>∃ d r,ds = d :: r ∧ (fun _ _ _ _=>True) w x.1 H d ∧ (fun w x H ds=>∃ d r,ds = d :: r ∧ (fun _ _ _ _=>True) w x.1 H d ∧ (fun w a H ds=>∃ d,ds = [d] ∧ (SlQ u8E (fun _ _ _ _=>True)) w a H d) w x.2 H r) w x.2 H r) w x.2 H r) w x.2 H r) w x.2 H r) w x.2 H r) w x.2 H r) w x.2 H r) w x.2 H r) w x.2 H r) w (au.of x) H ds
theorem opn47:Opn Tryz.prog 47 bS au.ok:=dX Tryz.underlying47 (by kernel_rfl) (dP.cons rfl opn42 (dP.cons rfl opn42 (dP.cons rfl (kz Tryz.underlying5 (by kernel_rfl)) (dP.cons rfl (oc Tryz.underlying43 (by kernel_rfl)) (dP.cons rfl (oc Tryz.underlying43 (by kernel_rfl)) (dP.cons rfl (kz Tryz.underlying5 (by kernel_rfl)) (dP.cons rfl (kz Tryz.underlying5 (by kernel_rfl)) (dP.cons rfl (opn_u32 Tryz.underlying44 (by kernel_rfl)) (dP.cons rfl (kz Tryz.underlying5 (by kernel_rfl)) (dP.cons rfl (opn_u32 Tryz.underlying44 (by kernel_rfl)) (dP.one rfl (l7 (kz Tryz.underlying5 (by kernel_rfl)) Tryz.underlying45 (by kernel_rfl) rfl)))))))))))) (fun _=>rfl)
def bo.ok:Kn bo:=fun w x H d=>∃ ds,d = .agg ds ∧ (fun w x H ds=>∃ d r,ds = d :: r ∧ (fun _ n _ _=>Fit n) w x.1 H d ∧ (fun w a H ds=>∃ d,ds = [d] ∧ au.ok w a H d) w x.2 H r) w (bo.of x) H ds
theorem opn49:Opn Tryz.prog 49 cn bo.ok:=dX Tryz.underlying49 (by kernel_rfl) (dP.cons rfl (lD Tryz.underlying3 (by kernel_rfl)) (dP.one rfl opn47)) (fun _=>rfl)
theorem header_sized {w:World} {h:au} {H:Type} {d:DataW H} {ts:List TypeId} {ds:List (DataW H)} (hq:au.ok w h H d) (hz:(DataW.weightsEach Tryz.prog ts ds).all (· ≤ reachBytes) = true) {j:Nat} (ht:ts[j]? = some 47) (hd:ds[j]? = some d) :
    ∃ xs,bH u8E w h.data.v xs ∧ xs.length * 1 ≤ 140737488351232:=by
  obtain ⟨ds0,rfl,d1,r1,rfl,_,d2,r2,rfl,_,d3,r3,rfl,_,d4,r4,rfl,_,d5,r5,rfl,_,d6,r6,rfl,_,d7,r7,rfl,_,d8,r8,rfl,_,d9,r9,rfl,_,d10,r10,rfl,_,d11,rfl,hq⟩:=hq
  have hz2:=nc hz ht hd Tryz.underlying47
  exact SlQ.sized hq hz2 (j:=10) (by kernel_rfl) rfl Tryz.underlying45 (by kernel_rfl:Tryz.prog.bytesOf 5 = 1)
theorem kC {H:Type} {P:Program} {e:TypeId}:∀ (es:List (DataW H)) {i:Nat} (hi:i < es.length) {n:Nat},n ∈ DataW.weights P e es[i]→n ∈ DataW.weightsAll P e es
  | d :: r,0,_,n,h=>by
    rw [DataW.weightsAll]
    exact List.mem_append_left _ h
  | d :: r,i + 1,hi,n,h=>by
    rw [DataW.weightsAll]
    exact List.mem_append_right _ (kC r (i:=i) (by simpa using hi) (by simpa using h))
theorem sized_el {H:Type} {P:Program} {ts:List TypeId} {ds es sp:List (DataW H)} {t e:TypeId} (hz:(DataW.weightsEach P ts ds).all (· ≤ reachBytes) = true) {j:Nat} (ht:ts[j]? = some t) (hd:ds[j]? = some (.slice es sp)) (hu:P.underlying t = some (.slice e)) {i:Nat} (hi:i < es.length):(DataW.weightsEach P [e] [es[i]]).all (· ≤ reachBytes) = true :=
  List.all_eq_true.2 fun n hn=>List.all_eq_true.1 hz n (DataW.weights_mem_each ht hd n (by
    have h1:n ∈ DataW.weights P e es[i]:=by simpa [DataW.weightsEach] using hn
    have h2:=kC es hi h1
    simp only [DataW.weights,hu]
    exact List.mem_cons_of_mem _ (List.mem_append_left _ h2)))
theorem pks_sized {H:Type} {w:World} {o:OV} {d:DataW H} {ts:List TypeId} {ds:List (DataW H)} (hq:SlQ cn bo.ok w o H d) (hz:(DataW.weightsEach Tryz.prog ts ds).all (· ≤ reachBytes) = true) {j:Nat} (ht:ts[j]? = some 29) (hd:ds[j]? = some d):∃ (xs:List bo) (dts:List (List UInt8)),bH cn w o.v xs ∧ PksAt w xs dts:=by
  obtain ⟨cs,es,h1,h2,h3,h4⟩:=hq
  have key:∀ i,i < cs.length→∃ dt:List UInt8,bH u8E w (cs.getD i cn.zero).h.data.v dt ∧ dt.length ≤ 1152921504606846975:=fun i hi=>by
    rcases h2 with rfl | ⟨sp,rfl⟩
    · simp only [List.length_nil] at h3
      omega
    · have e:cs.getD i cn.zero = cs[i]:=by simp [List.getD,hi]
      rw [e]
      have hz1:=sized_el hz ht hd Tryz.underlying29 (i:=i) (by omega)
      obtain ⟨ds0,e0,d1,r1,e1,q1,d2,e2,q2⟩:=h4 i hi (by omega)
      have hz2:=nc hz1 (j:=0) rfl (congrArg some e0) Tryz.underlying49
      subst e1 e2
      obtain ⟨dt,g1,g2⟩:=header_sized q2 hz2 (j:=1) (by kernel_rfl) rfl
      exact ⟨dt,g1,by omega⟩
  obtain ⟨f,hf⟩:∃ f:Nat→List UInt8,∀ i,i < cs.length→bH u8E w (cs.getD i cn.zero).h.data.v (f i) ∧ (f i).length ≤ 1152921504606846975 :=
    ⟨fun i=>if h:i < cs.length then (key i h).choose else [],fun i hi=>by
      simp only [dif_pos hi]
      exact (key i hi).choose_spec⟩
  have hg:∀ i,i < cs.length→((List.range cs.length).map f).getD i [] = f i:=fun i hi=>by simp [List.getD,hi]
  exact ⟨cs,(List.range cs.length).map f,h1,⟨fun i hi=>by rw [hg i hi]; exact (hf i hi).1,fun i hi=>by rw [hg i hi]; exact (hf i hi).2⟩⟩
theorem jQ {α:Type} {E:Enc α} {W:World} {v:Value} {xs:List α} (h:bH E W v xs):bH E (mask W) v xs:=by
  obtain ⟨a,cap,h1,h2,h3,h4,h5⟩:=h
  exact ⟨a,cap,h1,h2,h3,h4,fun p hp=>⟨(h5 p hp).1,fun j u hu=>(mask_cell W _).trans ((h5 p hp).2 j u hu)⟩⟩
theorem conf_mask {W:World} {c:aV} {l:CL} (h:gw W c l):gw (mask W) c l:=⟨jQ h.ps,jQ h.rs,jQ h.us,jQ h.ms,jQ h.xs⟩
theorem pks_mask {W:World} {xs:List bo} {dts:List (List UInt8)} (h:PksAt W xs dts):PksAt (mask W) xs dts:=⟨fun i hi=>jQ (h.sl i hi),h.ln⟩
set_option maxRecDepth 100000 in
theorem nR (os:Os) (started:os.Started) (H:Type) (enc:TypeId × Value→H) :
    ReturnsInLeavingWide {} Tryz.checked os 3 .any (Rows.planManySpec.pre6 enc Tryz.prog Tryz.f3 Rows.planManyRow.domain false) (Rows.planManySpec.post enc Tryz.prog Tryz.f3 false true false false):=by
  refine returnsInLeavingWide_of_change_sized (C:=Tryz.checked) own started Tryz.func3
    (ChangeSpec.witness6 (enc:=enc) (C:=Tryz.checked) false ⟨#[],#[aK.val aK.zero,(ovE aw).val (ovE aw).zero,iE.val iE.zero],[]⟩ 8 (by kernel_rfl) (by kernel_rfl) (by kernel_rfl) (by kernel_rfl)) ?_
  intro W base args ds gs before hval0 hW _ hsz0 _
  have hsz:(DataW.weightsEach Tryz.prog (Tryz.f3.params.toList ++ Rows.planManySpec.plain.varTypes Tryz.prog) (ds ++ gs)).all (· ≤ reachBytes) = true:=hsz0
  clear hsz0
  have hval:∀ (j:Nat) t v,Tryz.f3.params[j]? = some t→args[j]? = some v→Value.okWide Tryz.prog W .any base t v:=hval0
  have hW':=hW
  obtain ⟨p,q,hA0,hV,rfl,hfz,hnd⟩:=hW'
  have hA:DataW.TrodAll enc Tryz.prog W 0 (fun _=>true) true Tryz.f3.params.toList args.toList ds p:=hA0
  rw [Tryz.params3] at hA hval
  obtain ⟨v0,vs0,d0,ds0,p0,r0,hargs,rfl,rfl,h0,t0⟩:=trodAll_cons hA
  obtain ⟨v1,vs1,d1,ds1,p1,r1,rfl,rfl,rfl,h1,t1⟩:=trodAll_cons t0
  obtain ⟨v2,vs2,d2,ds2,p2,r2,rfl,rfl,rfl,h2,t2⟩:=trodAll_cons t1
  obtain ⟨rfl,rfl,rfl⟩:=trodAll_nil t2
  obtain rfl:args = #[v0,v1,v2]:=by cases args; simp_all
  obtain ⟨rfl,rfl⟩:=trodVars_none hV
  have k0:=h0
  have lt0:∀ x ∈ p0,x.block < W.heap.size:=by obtain ⟨m,hm⟩:=k0; exact DataW.trod_lt m _ _ _ hm
  obtain ⟨a0,rfl,q0⟩:=Opn.open opn28 (hval 0 28 v0 rfl rfl) h0
  have k1:=h1
  have lt1:∀ x ∈ p1,x.block < W.heap.size:=by obtain ⟨m,hm⟩:=k1; exact DataW.trod_lt m _ _ _ hm
  obtain ⟨a1,rfl,q1⟩:=Opn.open (l7 opn49 Tryz.underlying29 (by kernel_rfl) rfl) (hval 1 29 v1 rfl rfl) h1
  have k2:=h2
  have lt2:∀ x ∈ p2,x.block < W.heap.size:=by obtain ⟨m,hm⟩:=k2; exact DataW.trod_lt m _ _ _ hm
  obtain ⟨a2,rfl,q2⟩:=Opn.open (lD Tryz.underlying3 (by kernel_rfl)) (hval 2 3 v2 rfl rfl) h2
  clear hA0 hval0
  obtain ⟨l0,hc0,hn0,hz0⟩:=conf_sized q0 hsz (j:=0) rfl rfl
  obtain ⟨xs1,dts1,hx1,hpk1⟩:=pks_sized q1 hsz (j:=1) rfl rfl
  obtain ⟨M,last,o,w',t',e1,e2,e3,e4⟩:=ends_ok (X:=XP) (f:=3) (by kernel_rfl) (fun _ _=>trivial) (fun _ h=>h) (fun _ _ _ _ _ _ _ _ _ _ _ _ _ hk al hB hp=>free_comes hk al hB hp) (PlanMany_walk a0 l0 a1 xs1 dts1 a2 (mask W) 0 (Nat.zero_le _) (conf_mask hc0) hn0 hz0 (jQ hx1) (pks_mask hpk1))
  refine ⟨M,last,o,w',t',e1,e2,e3,e4.mono fun v he=>?_⟩
  obtain ⟨rfl,bel⟩:=he
  exact ⟨_,_,_,[],_,[],hW,trodAll_mk1 (shut_bool Tryz.underlying4 _),(trodAll_cons_mk (Below.trod laidOut (by kernel_rfl) (of_decide_eq_true (by kernel_rfl)) k0 bel lt0) (trodAll_cons_mk (Below.trod laidOut (by kernel_rfl) (of_decide_eq_true (by kernel_rfl)) k1 bel lt1) (trodAll_cons_mk (Below.trod laidOut (by kernel_rfl) (of_decide_eq_true (by kernel_rfl)) k2 bel lt2) trodAll_mk0))),rfl,bel.frame _,fun h=>by cases h⟩
set_option maxRecDepth 100000 in
theorem claimPlanMany:Rows.PlanManySaid :=
  OpenClaim.holds_of_wide_leaving 3 Tryz.f3 rfl rfl rfl rfl rfl rfl rfl ⟨rfl,rfl,rfl,rfl,rfl⟩ rfl rfl rfl rfl rfl (by kernel_rfl) Tryz.func3 (by kernel_rfl)
    (of_decide_eq_true (by kernel_rfl)) (by unfold Func.isWrapper; first | (rw [if_pos (by decide +kernel)]; kernel_rfl) | (rw [if_neg (by decide +kernel)]; exact ⟨rfl,rfl⟩))
    (fun os started H enc _=>nR os started H enc)
end Go.Proofs.YtjanhajdmhalaaaGreat
