/- Part. -/
import Derived.Test.YtjanhajdmhalaaaGreatM12
import Derived.Test.YtjanhajdmhalaaaGreatM13
import Derived.Test.YtjanhajdmhalaaaGreatM6
set_option linter.unusedVariables false
set_option linter.unusedSimpArgs false
set_option linter.unusedSectionVars false
namespace Go.Proofs.YtjanhajdmhalaaaGreat
open Go Go.Gx Go.Conc Go.ConcN Go.RowKit
open Go.ConcR (KK wgBlock WgAt stA smA rd wr mk Payload DC0 Bk g_of_ofEvents)
def outF (kind:CallKind):Frame:={ (gj 8 kind).atR ⟨#[undef,undef,.int .i64 0],[]⟩ [] with mode:=.returning }
def ml (n:Nat):Obj:=.cells (Array.replicate n (.bool true)) 4
def KP (_:Bool) (g:Goroutine) (v _:World) (g':Goroutine) (v':World):Prop :=
  ∃ (kind:CallKind) (cs:List Frame) (C gb n cp:Nat) (cap:Nat→Array Value),kind ≠ .early ∧ g = G (Frame.enter Tryz.prog 8 #[.slice (some ⟨gb,0,none⟩) n cp] kind) cs ∧ Gates v C gb n cp cap ∧ g' = G (outF kind) cs ∧ v' = dr v C (ml n)
def XP:Ext:=⟨fun _ _=>True,KP,fun _=>False,fun _=>True⟩
theorem Gates.grow {u0 u1:World} {C gb n cp:Nat} {cap:Nat→Array Value} (H:Gates u0 C gb n cp cap) (g:bT u0 u1):Gates u1 C gb n cp cap :=
  ⟨H.pos,H.few,fun i hi=>by rw [← H.cell i hi]; simp only [World.cell?]; rw [g.old _ (jY (H.cell i hi))],H.ne,(g.old _ (aS H.here)).trans H.here,fun v s hg nv h1 h2=>H.wr v s (g.trans hg) nv (Nat.le_trans g.size h1) h2,
   fun i hi v s nv h1 h2 h3 h4=>H.gate i hi v s nv h1 (Nat.le_trans g.size h2) h3 (((aX.ew g).mono fun _ h=>h.elim).trans h4)⟩
theorem out_results {pm:Nat→Prop} {fr:Nat} (v:World):(results Tryz.f8 #[undef,undef,.int .i64 0]).wpS Tryz.prog pm fr (fun x v2=>x = .int .i64 0 ∧ v2 = v) v:=by
  have h:results Tryz.f8 #[undef,undef,.int .i64 0] = pure (.int .i64 0):=by simp [results,Tryz.f8]
  rw [h]
  exact ⟨rfl,rfl⟩
theorem free_ok {fr:Nat} {w:World} {C gb n cp:Nat} {cap:Nat→Array Value} (H:Gates w C gb n cp cap):gC XP fr Tryz.prog 8 #[.slice (some ⟨gb,0,none⟩) n cp] w ⟨(· = C),fun e w'=>e = .returned (.int .i64 0) ∧ aX (· = C) w w' ∧ w'.heap[C]? = some (ml n)⟩:=fun main kind cs hk =>
  .gen rfl false (fun e=>by cases e) fun v1 w1 m _=>⟨G (outF kind) cs,dr v1 C (ml n),.inr ⟨kind,cs,C,gb,n,cp,cap,hk,rfl,H.grow m.grow,rfl,rfl⟩,
    .stop ⟨outF kind,.int .i64 0,_,rfl,rfl,⟨rfl,((aX.ew m.grow).mono fun _ h=>h.elim).trans (gY rfl),cr (aS (H.grow m.grow).here)⟩,.refl _,rfl,rfl,_,Tryz.func8,fun v2 _ _=>out_results v2⟩⟩
theorem out_alike {kind:CallKind} {cs:List Frame} {T:Array Value} {td:List Item} (hT:T[2]? = some (.int .i64 0)):Gx.Alike Tryz.prog (G { (gj 8 kind).atR ⟨T,[]⟩ td with mode:=.returning } cs) (G (outF kind) cs):=by
  refine ⟨rfl,fun w=>?_⟩
  simp [G,stepG,unwind,Frame.atR,outF,gj,Tryz.func8,results,Tryz.f8,hT]
  cases cs <;> first | rfl | (cases kind <;> rfl)
set_option maxHeartbeats 1000000 in
theorem free_comes [Bad] {gs:Array Goroutine} {q:Nat→Nat} {t:Trace} {Shun:Loc→Prop} {d0:Nat} {sl0 sl1:Option (Nat × Nat)} {ga g g':Goroutine} {u w v':World} (hk:KP true g u w g' v') (al:Gx.Alike Tryz.prog ga g) (hB:cx Tryz.prog Shun t gs q ga u w) (hp:mh Tryz.prog gs w d0 sl0 sl1) :
    Gx.Comes Tryz.prog (crowd gs (w.at d0) sl0) t (fun g2 v2=>g2 = g' ∧ v2 = v'):=by
  obtain ⟨kind,cs,C,gb,n,cp,cap,hkd,rfl,H,rfl,rfl⟩:=hk
  have hCl:=aS H.here
  obtain ⟨N1,gs1,w1,sl1',t1,q1,Sh1,ga1,g1,v1,u1,h1,⟨hr1,hK1,hst1⟩,hg1,al1,hB1⟩:=run_picked (X:=X0) (fun _ _=>trivial) (fun _ h=>h) (fun _ _ _ _ _ _ _ _ _ _ _ _ _ h=>h.elim) (freeX hkd H) (.refl _) al hB hp
  obtain ⟨N2,gs2,q2,t2,d2,sl2,sl3,d3,h2,hp2,hB2⟩:=cx.lO (al1.st.trans hr1) _ gs1 q1 t1 u1 w1 sl1' (Nat.le_refl _) hB1
  have hg2:=hg1.trans (bT.at u1 d2)
  have hK2:aX bO u (u1.at d2):=hK1.trans (.ew hg2)
  obtain ⟨g2,hr2,hstep,hrun⟩:=hst1 (u1.at d2) hg2 hB2.nv
  obtain ⟨gs3,ops3,h3,hB3,hfr⟩:=cx.made (sl:=sl3) (o:=wgBlock 107 0 0) hB2 al1 rfl rfl hstep
  have hsz:=hK2.size
  have hC2:(u1.at d2).heap[C]? = some (.cells (Array.replicate n (.bool false)) Payload.ety):=(hK2.block C hCl id).trans H.here
  generalize u1.at d2 = u2 at *
  have es:({ u2 with heap:=u2.heap.push (wgBlock 107 0 0) }:World).heap.size = u2.heap.size + 1:=by simp
  have hW3:({ u2 with heap:=u2.heap.push (wgBlock 107 0 0) }:World).heap[u2.heap.size]? = some (wgBlock 107 0 0):=by simp
  have hC3:({ u2 with heap:=u2.heap.push (wgBlock 107 0 0) }:World).heap[C]? = some (.cells (Array.replicate n (.bool false)) Payload.ety):=by
    rw [← hC2]
    exact ((aX.alloc bO u2 (wgBlock 107 0 0)).block C (by omega) id)
  obtain ⟨N4,m4,t4,h4,gs4,w4,sl4,q4,Sh4,g4,v4,u4,rfl,⟨hb4,hc4⟩,hg4,hC4,hB4⟩:=phaseB (P:=Tryz.prog) (ty:=107) (fv:=.bool false) (tv:=.bool true) (Fin:=FinF kind cs u C n) (C:=C) (n:=n) (Wg:=u2.heap.size) (sl:=sl3) (by have:=H.few; omega) H.pos hB3 hr2 hW3 hC3 (by omega)
    (fun l ⟨a,h5,h6⟩=>by subst h5; exact hfr a h6) (fun gm' v' hf=>Nat.lt_of_lt_of_le hCl hf.1.size) (by rw [es]; exact hrun)
  have hB24:B2 u C n (dr u4 C (ml n)):=⟨(kg hb4 hg4).trans (gY rfl),cr (Nat.lt_of_lt_of_le hC4 hg4.size)⟩
  obtain ⟨N5,gs5,w5,sl5,t5,q5,Sh5,ga5,g5,v5,u5,h5,⟨⟨hk5,hc5⟩,T,td,hT,rfl⟩,hg5,al5,hB5⟩:=lW (X:=X0) (fun _ _=>trivial) (fun _ h=>h) (fun _ _ _ _ _ _ _ _ _ _ _ _ _ h=>h.elim) (hc4 _ hB24) gs4 q4 t4 Sh4 sl4 g4 _ w4 (.refl _) (.refl _ _) hB4
  have hk6:aX (· = C) u u5:=kg hk5 hg5
  have hc6:u5.heap[C]? = some (ml n):=(hg5.old _ (aS hc5)).trans hc5
  have hk7:aX bO (dr u C (ml n)) u5:=by
    refine ⟨hk6.os,hk6.tape,hk6.output,by rw [di]; exact hk6.size,fun i hi _=>?_⟩
    rw [di] at hi
    by_cases e:C = i
    · subst e; rw [cr hCl]; exact hc6
    · rw [dU e]; exact hk6.block i hi fun h=>e h.symm
  have gK:∀ (b k:Nat) z,(dr u C (ml n)).heap[b]? ≠ some (slot k z):=fun b k z hz=>by
    by_cases e:C = b
    · subst e; rw [cr hCl] at hz; cases hz
    · rw [dU e] at hz; exact hB.gK b k z hz
  have hone:∀ m ops,runT Tryz.prog (crowd gs2 (w1.at d2) sl3) 0 = (.next m,ops)→runNT Tryz.prog 1 (crowd gs2 (w1.at d3) sl2) t2 = (.next m,t2 ++ ops):=fun m ops h=>by
    simp only [runNT,hp2,h]
  exact ⟨_,gs5,w5,sl5,t5,q5,Sh5,ga5,_,_,gZ (dr u C (ml n)) w5,gq h1 (gq h2 (gq (hone _ _ h3) (gq h4 h5))),⟨rfl,rfl⟩,eA _ _,⟨al5.st.trans rfl,fun x=>(al5.step x).trans ((out_alike hT).step x)⟩,
    hB5.mask hk7 (kU hB.nv rfl) gK⟩
end Go.Proofs.YtjanhajdmhalaaaGreat
