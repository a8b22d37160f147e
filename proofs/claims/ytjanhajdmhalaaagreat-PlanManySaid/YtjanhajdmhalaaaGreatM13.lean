/- Part. -/
import Derived.Test.YtjanhajdmhalaaaGreatM10
import Derived.Test.YtjanhajdmhalaaaGreatHxR
set_option linter.unusedVariables false
set_option linter.unusedSimpArgs false
set_option linter.unusedSectionVars false
namespace Go.Gx
open Go Go.Conc Go.RowKit
def kQ (pm:Nat→Prop) (s:Nat) (v:World):Prop:=s ≤ v.heap.size ∧ ∀ b,b < v.heap.size→pm b→Vis v b→s ≤ b
theorem kQ.lO {pm:Nat→Prop} {s:Nat} {v v':World} (h:kQ pm s v) (t:gD pm v v'):kQ pm s v':=⟨Nat.le_trans h.1 t.size,fun b hb hp hv=>by
  by_cases hi:b < v.heap.size
  · refine h.2 b hi hp ?_
    rcases tri v b with h1 | ⟨o,h1,h2⟩ | ⟨k,x,h1⟩
    · exact h1
    · have:=hv o (t.hid _ _ h1 h2)
      rw [lJ h2] at this; cases this
    · obtain ⟨y,hy⟩:=t.sl _ _ _ h1
      have:=hv _ hy
      simp [isP,slot] at this
  · exact Nat.le_trans h.1 (by omega)⟩
theorem kQ.grow {pm:Nat→Prop} {s:Nat} {v v':World} (h:kQ pm s v) (g:bT v v'):kQ pm s v':=⟨Nat.le_trans h.1 g.size,fun b hb hp hv=>by
  obtain ⟨h1,h2⟩:=(g.vis hb).1 hv
  exact h.2 b h1 hp h2⟩
theorem EvS.front {pm:Nat→Prop} {s:Nat} {v:World} {e:Event} (h:EvS pm 0 v e) (hA:kQ pm s v):EvS pm s v e:=by
  rcases h with ⟨a,h1,h2,h3,h4⟩ | ⟨r,h1,h2,h3,h4,h5⟩ | h
  · exact .inl ⟨a,h1,h2,h3,h4.imp (fun ⟨g1,g2⟩=>⟨g1,fun hw=>⟨(g2 hw).1,hA.2 _ h2 (g2 hw).1 g1⟩⟩) id⟩
  · exact .inr (.inl ⟨r,h1,h2,h3,h4,fun hw=>⟨(h5 hw).1,hA.2 _ h2 (h5 hw).1 h3⟩⟩)
  · exact .inr (.inr h)
theorem dT {α:Type} {p:Program} {pm:Nat→Prop} {s:Nat} {Q:α→World→Prop}:∀ (e:Sem α) (v:World),kQ pm s v→e.wpS p pm 0 Q v→e.wpS p pm s Q v
  | .pure _,_,_,h=>h
  | .load _ _ k,v,hA,⟨h1,x,h2,h3⟩=>⟨h1,x,h2,dT (k x) v hA h3⟩
  | .store _ a x k,v,hA,⟨h1,h2,h3,h4⟩=>⟨h1,h2,h3,h4.imp (fun ⟨g0,⟨y,hy⟩,g2,g3⟩ =>
      have t1:=(ib (v:=v) (w:=v) (f:=fun | .cells c elem frozen=>.cells (if a.spot.isSome then c else c.setIfInBounds a.off x) elem frozen | o=>o) (kM hy) h3 (by intro o ho; cases o <;> first | exact ho | rfl) (by intro o ho; cases o <;> first | exact ho | rfl)).1
      ⟨hA.2 _ (jY hy) h3 (kM hy),⟨y,hy⟩,g2,dT k _ (hA.lO t1) g3⟩) (fun ⟨g1,⟨y,hy⟩,g3⟩=>⟨g1,⟨y,hy⟩,dT k _ (hA.lO (m8 (x:=x) (w:=v) g1 hy h3).1) g3⟩)⟩
  | .new _ k,v,hA,⟨h1,h1',h2⟩=>⟨h1,h1',dT (k _) _ (hA.lO (m9 (pm:=pm) (v:=v) (w:=v) h1 h1').1) h2⟩
  | .shape _ k,v,hA,⟨h1,h2⟩=>⟨h1,dT (k _) _ hA h2⟩
  | .freeze a n k,v,hA,⟨h1,h2,h2',h3⟩=>by
    have hf:s ≤ a.block:=by
      by_cases hb:a.block < v.heap.size
      · exact hA.2 _ hb h2 h1
      · exact Nat.le_trans hA.1 (by omega)
    refine ⟨h1,h2,hf,dT k _ ?_ h3⟩
    by_cases hn:n = 0
    · have e1:v.freeze a n = v:=by simp [World.freeze,hn]
      rw [e1]; exact hA
    · have e1:v.freeze a n = _:=if_neg hn
      rw [e1]
      exact hA.lO (ib (v:=v) (w:=v) (f:=fun | .cells c elem (lo,hi)=>.cells c elem (if lo == hi then (a.off,a.off + n) else (min lo a.off,max hi (a.off + n))) | o=>o) h1 h2 (by intro o ho; cases o <;> first | exact ho | rfl) (by intro o ho; cases o <;> first | exact ho | rfl)).1
  | .frozen _ k,v,hA,⟨h1,h2⟩=>⟨h1,dT (k _) _ hA h2⟩
  | .getObj _ k,v,hA,⟨h1,o,h2,h3,h4,h5⟩=>⟨h1,o,h2,h3,h4,dT (k o) _ hA h5⟩
  | .setObj r o k,v,hA,⟨h1,h2,h2',h3,h3',h4,⟨o',ho',h5⟩,h6⟩ =>
    ⟨h1,h2,hA.2 _ (aS ho') h2 h1,h3,h3',h4,⟨o',ho',h5⟩,dT k _ (hA.lO (turn_set (w:=v) h1 h2 h3 h3').1) h6⟩
  | .choose q k,v,hA,h=>by
    simp only [Sem.wpS] at h ⊢
    split at h
    · rename_i hq; rw [if_pos hq]; exact dT (k 0) _ hA h
    · rename_i hq; rw [if_neg hq]; exact dT (k _) _ ⟨hA.1,hA.2⟩ h
  | .sys _ _,_,_,h=>h.elim
  | .program k,v,hA,h=>dT (k p) v hA h
  | .mark _ k,v,hA,⟨h1,h2⟩=>⟨h1,dT k v hA h2⟩
  | .halt _,_,_,h=>h.elim
theorem cQ.front {X:Ext} (hk:∀ m g v w g' v',¬ X.kind m g v w g' v') {P:Program} {main:Bool} {pm:Nat→Prop} {s:Nat} {T:Goroutine→World→Prop} {g:Goroutine} {v:World} (h:cQ X P main pm 0 T g v) (hA:kQ pm s v):cQ X P main pm s (fun g' v'=>T g' v' ∧ kQ pm s v') g v:=by
  induction h with
  | stop h=>exact .stop ⟨h,hA⟩
  | step hr bl hb f h _ ih =>
    refine .step hr bl hb f (fun v1 w m u=>?_) fun v1 w m u=>ih v1 w m u ?_
    · rcases h v1 w m u with ⟨w',es,h1,h2,h3,h4⟩ | h5
      · exact .inl ⟨w',es,h1,h2,h3,fun e he=>(h4 e he).front ((hA.grow m.grow).lO h2)⟩
      · exact absurd h5 (hk _ _ _ _ _ _)
    · rcases h v1 w m u with ⟨w',es,h1,h2,h3,h4⟩ | h5
      · exact (hA.grow m.grow).lO h2
      · exact absurd h5 (hk _ _ _ _ _ _)
theorem Calls.front {X:Ext} (hk:∀ m g v w g' v',¬ X.kind m g v w g' v') {P:Program} {f:FuncId} {args:Array Value} {v:World} {R:dg} {s:Nat} (h:Calls P f args v R) (hA:kQ (pmC v R.M) s v):gC X s P f args v R:=fun main kind cs hkd=>by
  refine ((h X 0 (Nat.zero_le _) (fun _ _=>Nat.zero_le _) main kind cs hkd).front hk hA).bind ?_
  rintro g v1 ⟨⟨fr,val,v0,h1,h2,h3,h4,h5⟩,hA1⟩
  refine .stop ⟨fr,val,v0,h1,h2,h3,h4,h5.mode,h5.defers,?_⟩
  obtain ⟨fn,h6,h7⟩:=h5.res
  exact ⟨fn,h6,fun v2 hg hn=>dT _ _ (hA1.grow hg) (h7 v2 hg hn)⟩
section
variable {P:Program}
variable {K:Ctx} {F:Fr} {L:List Res} {g:Bool} {Q:Exit→Act→World→Prop} {N:Act→World→Prop} {ops:Array Oper}
  {op:Op} {ty t t':TypeId} {pos:String} {af:Array Edge} {d:Nat} {x y:Operand}
def jr (C k:Nat) (z:Value):Res:=⟨fun b=>b = C,fun w=>w.heap[C]? = some (slot k z),fun w w' h ha=>(h C rfl).trans ha⟩
theorem Ev.jG {C n cap:Nat} {e:TypeId} {i:Int} (ht:P.underlying t = some (.slice e)) (hz:∀ w,(sizeOf e).run P w = .ok 1 w) (hx:Opd F g x (.slice (some ⟨C,0,none⟩) n cap)) (hy:Opd F g y (I i)) (hi:g = true→0 ≤ i ∧ i < n) :
    Ev P K F L g (.indexAddr t x y) ty (.pointer (some ⟨C,i.toNat,none⟩)):=.of rfl (fun _ _ _ _ _ _ _ _ _=>.bind (.indexAt _ _ _) fun _=>.pure _) fun hg a G w hw dst pos af gd=>by
  have hi':=hi hg
  have hu:(underlying t).run P w = .ok (.slice e) w:=by simp [underlying,ht]
  simp [execOp,Instr.indexAt,asIntOf,hx.eval hg G,hy.eval hg G,I,hu,hi',hz,Addr.add]
  omega
theorem Ev.loadSlot {C k:Nat} {z:Value} {d:TypeDesc} (hu:P.underlying t = some d) (ha:∀ w,(isAgg t).run P w = .ok false w) (hx:Opd F g x (.pointer (some ⟨C,k,none⟩))) (hm:jr C k z ∈ L):Ev P K F L g (.load t x) ty z:=fun hg=>⟨rfl,fun a fo w I hn dst pos af gd=>by
  have hs:w.heap[C]? = some (slot k z):=(I.own _ hm).1
  show (Instr.loadAt t (a.eval x) >>= fun r=>pure (Next.value r)).wpS P (pmK K) K.E.fr _ w
  rw [hx.eval hg fo]
  refine cy _ _ _ ?_
  refine bA ?_ _ _ (show (loadVar t ⟨C,k,none⟩).wpS P (pmK K) K.E.fr (fun r w'=>r = z ∧ w' = w) w from ?_)
  · rintro r w' ⟨rfl,rfl⟩
    exact ⟨rfl,rfl⟩
  · refine cy _ _ _ (bA ?_ _ _ ((Tm.isAgg (P:=P) t) w hn _ _ (ha w)))
    rintro b w' ⟨rfl,rfl⟩
    exact ⟨rfl,z,.inr ⟨rfl,hs⟩,rfl,rfl⟩⟩
theorem na {C k:Nat} {z u:Value} {L':List Res} (hi:∀ w,(sizeOf t).run P w = .ok 1 w) (hx:Opd F true x (.pointer (some ⟨C,k,none⟩))) (hy:Opd F true y u) (h1:u.oneCell' = true)
    (hu:Upd L (jr C k z) (jr C k u) L') (next:Sat K N F L'):Sat K (cF P K ops Q ⟨none,.store t x y,ty,pos,af,none⟩ N) F L:=fun a w G=>by
  refine cz rfl rfl fun hn=>?_
  have hs:w.heap[C]? = some (slot k z):=(G.inv.own _ hu.mem).1
  have hp:pmK K C:=((G.inv.own _ hu.mem).2 C rfl).1
  have hlt:=aS hs
  show (Instr.storeAt t (a.eval x) (a.eval y) >>= fun _=>pure Next.skip).wpS P (pmK K) K.E.fr _ w
  rw [hx.eval rfl G.fo,hy.eval rfl G.fo]
  refine cy _ _ _ ?_
  refine bA ?_ _ _ (show (storeVar t ⟨C,k,none⟩ u).wpS P (pmK K) K.E.fr (fun _ w'=>w' = setSlot w C k u) w from ?_)
  · rintro r w' rfl
    refine next _ _ ⟨G.fo,G.inv.upd hu ⟨rfl,rfl,rfl,by simp [setSlot],fun j hj hne=>?_⟩ ?_ fun b hb=>?_⟩
    · have:C ≠ j:=fun e=>hne e.symm
      simp [setSlot,Array.getElem?_setIfInBounds_ne this]
    · show (w.heap.setIfInBounds C (slot k u))[C]? = _
      simp [hlt]
    · exact ⟨.inl hb,by rw [show b = C from hb]; simpa [setSlot] using hlt⟩
  · have hc:u.cells = #[u]:=by cases u <;> first | rfl | cases h1
    refine cy _ _ _ (bA ?_ _ _ ((Tm.sizeOf (P:=P) t) w hn _ _ (hi w)))
    rintro b w' ⟨rfl,rfl⟩
    rw [hc]
    exact ⟨rfl,h1,hp,.inr ⟨rfl,⟨z,hs⟩,rfl⟩⟩
end
end Go.Gx
