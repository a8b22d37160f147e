/- In company, part A: worlds in which what the others have made is hidden, and of a shared row one cell alone is seen; what an operation does in such a world it does in the real one. -/
import Derived.StepT
import Derived.Laws.Sem
import Derived.Conc.Events
import Derived.Conc.Own
import Derived.Conc.Listed
import Derived.AtR
import Derived.Conc.CompanyCalls
import Derived.OrdersHeld
import Derived.RowKit
set_option linter.unusedVariables false
set_option linter.defProp false
set_option linter.unusedSimpArgs false
set_option linter.defProp false
namespace Go.Gx
def rk:=@Go.Act.put_comm
def di:=@Array.empty_append
def ik:=@Array.ext_getElem?
def mr:=@Array.forIn_toList
def eu:=@Array.getD_eq_getD_getElem?
def aX:=@Array.getElem?_eq_getElem
def c8:=@Array.getElem?_eq_none
def bP:=@Array.getElem?_eq_some_iff
def fE:=@Array.getElem?_map
def fb:=@Array.getElem?_push
def ll:=@Array.getElem?_setIfInBounds
def bL:=@Array.getElem?_setIfInBounds_ne
def ea:=@Array.getElem?_setIfInBounds_self_of_lt
def iW:=@Array.length_toList
def gZ:=@Array.mem_append
def jy:=@Array.mem_of_getElem?
def mq:=@BitVec.allOnes_xor
def ij:=@BitVec.toNat_ofNat
def cF:=@Bool.and_eq_true
def dT:=@Bool.eq_iff_iff
def aI:=@Bool.false_eq_true
def cL:=@Bool.false_ne_true
def pz:=@Bool.not_false
def iJ:=@Bool.or_eq_false_iff
def iH:=@Bool.or_eq_true
def rj:=@Bool.true_or
def kq:=@Classical.axiomOfChoice
def kR:=@Go.DataW.trod_int
def qg:=@Go.DataW.trod_lt
def oN:=@Fin.getElem_fin
def py:=@Go.Frame.eval_atR
def eP:=@Go.Frame.finish_atR
def rH:=@Go.Conc.Goes.mono
def dA:=@Go.Conc.Goes.stop
def dW:=@Int.ediv_eq_zero_of_lt
def gK:=@Int.eq_ofNat_of_zero_le
def fP:=@Int.fdiv_eq_ediv_of_nonneg
def mb:=@Int.le_of_lt
def ri:=@Int.lt_or_le
def nf:=@Int.pow_pos
def eg:=@Int.toNat_natCast
def aY:=@List.Sublist.refl
def fI:=@List.all_eq_true
def bM:=@List.append_assoc
def jG:=@List.append_cancel_left_eq
def cM:=@List.append_eq_nil_iff
def dS:=@List.append_nil
def ko:=@List.cons.injEq
def iw:=@List.cons_prefix_cons
def nK:=@List.cons_sublist_cons
def ib:=@List.drop_drop
def dR:=@List.drop_eq_getElem_cons
def gT:=@List.drop_eq_nil_of_le
def lF:=@List.drop_length_add_append
def mG:=@List.drop_take
def dQ:=@List.eq_nil_of_length_eq_zero
def lB:=@List.ext_getElem
def eZ:=@List.ext_getElem?
def jU:=@List.findIdx?_eq_some_iff_getElem
def km:=@List.forIn_cons
def cE:=@List.getD_eq_getElem?_getD
def jM:=@List.getElem?_append
def eX:=@List.getElem?_append_left
def jF:=@List.getElem?_append_right
def kl:=@List.getElem?_cons_succ
def fL:=@List.getElem?_cons_zero
def jj:=@List.getElem?_drop
def bW:=@List.getElem?_eq_getElem
def fg:=@List.getElem?_eq_none
def cY:=@List.getElem?_eq_some_iff
def aP:=@List.getElem?_of_mem
def kG:=@List.getElem?_set_self
def fD:=@List.getElem?_take
def dN:=@List.getElem?_toArray
def mF:=@List.getElem_append_left
def ma:=@List.getElem_append_right
def aV:=@List.getElem_cons_succ
def aO:=@List.getElem_cons_zero
def oa:=@List.getElem_mem
def bc:=@List.getElem_toArray
def cK:=@List.length_append
def aS:=@List.length_cons
def n8:=@List.length_drop
def bw:=@List.length_nil
def lV:=@List.length_pos_iff
def dC:=@List.length_take
def kQ:=@List.mapM_cons
def mZ:=@List.mapM_toArray
def eF:=@List.map_append
def dq:=@List.map_cons
def iD:=@List.map_nil
def gY:=@List.map_toArray
def bG:=@List.mem_append
def jw:=@List.mem_append_right
def aE:=@List.mem_cons
def aF:=@List.mem_cons_of_mem
def ah:=@List.mem_cons_self
def nZ:=@List.mem_flatMap
def dP:=@List.mem_iff_getElem
def iC:=@List.mem_map
def ai:=@List.mem_of_getElem?
def cq:=@List.mem_singleton
def kj:=@List.mem_singleton_self
def dZ:=@List.mem_toArray
def lU:=@List.nil_append
def lT:=@List.nil_prefix
def jT:=@List.nil_sublist
def ki:=@List.nodup_cons
def px:=@List.nodup_nil
def aU:=@List.not_mem_nil
def gF:=@List.pairwise_append
def bC:=@List.pairwise_cons
def iB:=@List.pairwise_iff_getElem
def eD:=@List.pairwise_singleton
def lQ:=@List.perm_ext_iff_of_nodup
def lA:=@List.perm_middle
def jS:=@List.prefix_refl
def nY:=@List.range'_succ
def nJ:=@List.reverse_singleton
def gX:=@List.set_eq_take_append_cons_drop
def bK:=@List.size_toArray
def jX:=@List.sublist_append_left
def nI:=@List.sublist_cons_self
def qf:=@List.take_add
def gA:=@List.take_append_of_le_length
def pw:=@List.take_left
def jR:=@List.take_length
def bH:=@List.take_of_length_le
def iu:=@List.take_succ_eq_append_getElem
def pr:=@List.take_take
def nH:=@Go.MapKept.run_getObj_map
def j4:=@Nat.add_assoc
def kK:=@Nat.add_comm
def dY:=@Nat.add_mul
def jP:=@Nat.add_zero
def eQ:=@Nat.and_two_pow_sub_one_eq_mod
def qA:=@Nat.ble_eq
def ir:=@Nat.blt_eq
def kh:=@Nat.div_le_self
def ji:=@Nat.eq_zero_or_pos
def bV:=@Nat.exists_eq_add_of_le'
def jo:=@Nat.le_add_left
def aT:=@Nat.le_of_ble_eq_true
def eW:=@Nat.le_of_eq
def aA:=@Nat.le_refl
def jd:=@Nat.le_total
def az:=@Nat.le_trans
def aD:=@Nat.lt_of_lt_of_le
def nX:=@Nat.lt_of_not_le
def fZ:=@Nat.lt_or_ge
def kg:=@Nat.min_eq_left
def fH:=@Nat.min_eq_right
def jY:=@Nat.mod_lt
def oG:=@Nat.mul_comm
def dH:=@Nat.mul_le_mul_right
def je:=@Nat.ne_of_beq_eq_false
def rh:=@Nat.ne_of_lt
def eC:=@Nat.not_lt_zero
def iV:=@Nat.one_mul
def jL:=@Nat.pow_le_pow_right
def rf:=@Nat.pow_succ
def oF:=@Nat.sub_self
def jm:=@Nat.two_pow_add_eq_or_of_lt
def a9:=@Nat.zero_add
def bu:=@Nat.zero_le
def oM:=@Nat.zero_ne_one
def cN:=@Ne.symm
def bF:=@Go.Obj.pending.inj
def mY:=@Option.bind_eq_some_iff
def cQ:=@Option.bind_some
def dM:=@Option.getD_some
def cd:=@Option.map_eq_some_iff
def j9:=@Option.map_none
def cB:=@Option.map_some
def ak:=@Option.some.inj
def br:=@Option.some.injEq
def eU:=@Prod.mk.injEq
def aj:=@Go.Result.andThen_ok
def oL:=@Go.Sem.events_bind
def pq:=@Go.Sem.runT_eq
def ay:=@Go.Sem.run_bind
def aJ:=@Go.Sem.run_pure
def fY:=@Std.Legacy.Range.forIn_eq_forIn_range'
def lz:=@UInt16.toNat_inj
def kF:=@UInt32.le_iff_toNat_le
def kE:=@UInt32.lt_iff_toNat_lt
def nV:=@UInt32.toNat_inj
def nU:=@UInt32.toNat_mod
def jv:=@UInt32.toNat_toUInt64
def fR:=@UInt64.le_iff_toNat_le
def bZ:=@UInt64.lt_iff_toNat_lt
def jb:=@UInt64.toNat_add
def nT:=@UInt64.toNat_and
def cC:=@UInt64.toNat_inj
def mX:=@UInt8.ofNat_toNat
def oK:=@UInt8.toNat_and
def cG:=@UInt8.toNat_inj
def lE:=@UInt8.toNat_toUInt64
def lS:=@UInt8.toNat_xor
def ju:=@Vector.ext
def iU:=@Vector.getElem_ofFn
def fK:=@Vector.length_toList
def lD:=@Go.Conc.again_running
def mW:=@and_true
def mi:=@cond_false
def iT:=@cond_true
def aL:=@congrArg
def fS:=@decide_eq_false
def iS:=@decide_eq_false_iff_not
def ia:=@decide_eq_true
def kP:=@decide_eq_true_eq
def cn:=@decide_eq_true_iff
def dx:=@Go.Conc.getElem?_append_cases
def cD:=@if_false
def oU:=@Go.Conc.mem_seen
def jE:=@not_false_eq_true
def dF:=@of_decide_eq_true
def dj:=@or_false
def pn:=@Go.run_underlying
def au:=@Go.Conc.stepG_region_end
def iq:=@Go.Conc.stepG_ret'
def aH:=@Go.Conc.stepG_seq
def eO:=@Go.Conc.stepG_skip
def oT:=@Go.Conc.touch_of
end Go.Gx
namespace Go.Gx
open Go
def u9:Obj->Bool
 | .pending _ _=>true
 | _=>false
def Eb:Obj->Bool
 | .view _ _=>true
 | _=>false
def dummy:Obj:=.pending #[] 0
def slot (k:Nat) (x:Value):Obj:=.pending #[x] (k + 1)
def pL:Obj->Bool
 | .pending c n=>n == 0 || c.size != 1
 | _=>false
def Ro (o:Obj) (k:Nat) (x:Value):Prop:=∃ c n,o = .pending c (n + 1) /\ c.size ≠ 1 /\ k < n /\ c[k]? = some x
theorem Ro.pL {o:Obj} {k:Nat} {x:Value} (h:Ro o k x):pL o = true:=by
 obtain⟨c,n,rfl,h1,_⟩:=h;simp [Gx.pL,h1]
theorem kW {c:Array Value} {k:Nat} {x:Value}:¬ Ro (.pending c 0) k x:=λ⟨_,_,h,_⟩=>by cases h
theorem jH {o:Obj} (h:pL o = true):u9 o = true:=by
 cases o <;> first | rfl | cases h
def ny (v:World) (i:Nat):Prop:=∀ o,v.heap[i]? = some o->u9 o = false
def cI (v:World):Prop:=∀ (i:Nat) o,v.heap[i]? = some o->Eb o = false
structure vk (v w:World):Prop where
 size:w.heap.size = v.heap.size
 tape:w.tape = v.tape
 drawn:w.drawn = v.drawn
 os:w.os = v.os
 output:w.output = v.output
 iL:∀ i:Nat,ny v i->w.heap[i]? = v.heap[i]?
 slot:∀ (i k:Nat) x,v.heap[i]? = some (Gx.slot k x)->∃ (c:Array Value) (e:TypeId),w.heap[i]? = some (.cells c e (0,0)) /\ c[k]? = some x
 ro:∀ (i k:Nat) o x,v.heap[i]? = some o->Ro o k x->∃ (c:Array Value) (e:TypeId),w.heap[i]? = some (.cells c e (0,0)) /\ c[k]? = some x
def setSlot (v:World) (b k:Nat) (x:Value):World:={ v with heap:=v.heap.setIfInBounds b (slot k x) }
end Go.Gx
namespace Go
open Gx in
def Sem.wpS {α:Type} (p:Program) (pm:Nat->Prop) (fr:Nat):Sem α->(α->World->Prop)->World->Prop
 | .pure a,Q,v=>Q a v
 | .load m a k,Q,v=>(m = .plain \/ ∃ y,v.cell? a = some y) /\ ∃ x,(v.cell? a = some x \/ (a.spot = none /\ v.heap[a.block]? = some (slot a.off x)) \/ (a.spot = none /\ ∃ o,v.heap[a.block]? = some o /\ Ro o a.off x)) /\ (k x).wpS p pm fr Q v
 | .store m a x k,Q,v=>x.oneCell' = true /\ pm a.block ∧
  ((fr <= a.block /\ (∃ y,v.cell? a = some y) /\ v.frozen? a = false /\ k.wpS p pm fr Q (v.setCell a x)) ∨
   (m = .plain /\ a.spot = none /\ (∃ y,v.heap[a.block]? = some (slot a.off y)) /\ k.wpS p pm fr Q (setSlot v a.block a.off x)))
 | .new o k,Q,v=>u9 o = false /\ Eb o = false /\ (k v.heap.size).wpS p pm fr Q { v with heap:=v.heap.push o }
 | .shape r k,Q,v=>ny v r /\ (k (v.shape? r)).wpS p pm fr Q v
 | .freeze a n k,Q,v=>ny v a.block /\ pm a.block /\ fr <= a.block /\ k.wpS p pm fr Q (v.freeze a n)
 | .frozen a k,Q,v=>ny v a.block /\ (k (v.frozen? a)).wpS p pm fr Q v
 | .getObj r k,Q,v=>ny v r /\ ∃ o,v.heap[r]? = some o /\ (∀ c e z,o ≠ .cells c e z) /\ o.isChan = false /\ (k o).wpS p pm fr Q v
 | .setObj r o k,Q,v=>ny v r /\ pm r /\ fr <= r /\ u9 o = false /\ Eb o = false /\ o.isChan = false /\ (∃ o',v.heap[r]? = some o' /\ ∀ c e z,o' ≠ .cells c e z) /\ k.wpS p pm fr Q { v with heap:=v.heap.setIfInBounds r o }
 | .choose q k,Q,v=>if q.forced then (k 0).wpS p pm fr Q v else (k (q.cut (v.tape v.drawn q))).wpS p pm fr Q { v with drawn:=v.drawn + 1 }
 | .sys _ _,_,_=>False
 | .program k,Q,v=>(k p).wpS p pm fr Q v
 | .mark m k,Q,v=>(m = .noRoom \/ ∃ f,m = .extern f) /\ k.wpS p pm fr Q v
 | .halt _,_,_=>False
end Go
namespace Go.Gx
open Go
variable {pm pm':Nat->Prop} {v w v' v1:World} {e:Event} {i k b id:Nat} {o:Obj} {a:Addr} {x:Value} {c y:Code} {f:Obj->Obj} {main:Bool} {ops:Array Oper}
def EvS (pm:Nat->Prop) (fr:Nat) (v:World) (e:Event):Prop :=
 (∃ a,e.loc = .cell a /\ a.block < v.heap.size /\ (e.sync = false \/ ny v a.block) /\ ((ny v a.block /\ (e.write = true->pm a.block /\ fr <= a.block)) \/ (a.spot = none /\ (∃ x,v.heap[a.block]? = some (slot a.off x)) /\ (e.write = true->pm a.block)) \/ (a.spot = none /\ e.write = false /\ ∃ o x,v.heap[a.block]? = some o /\ Ro o a.off x))) ∨
 (∃ r,e.loc = .obj r /\ r < v.heap.size /\ ny v r /\ e.sync = false /\ (e.write = true->pm r /\ fr <= r)) \/ (∃ m,(m = .noRoom \/ ∃ f,m = .extern f) /\ e = ⟨.mark m,false,true⟩)
theorem aG (h:v.heap[i]? = some o):i < v.heap.size:=(bP.1 h).1
theorem sQ (h:v.cell? a = some x):ny v a.block:=by
 intro o ho;cases o with
 | pending c n=>simp only [World.cell?,ho] at h; cases h
 | _=>rfl
theorem zG (h:v.cell? a = some x):a.block < v.heap.size:=by
 unfold World.cell? at h
 grind
theorem vk.cell (h:vk v w) {a:Addr} (hv:ny v a.block):w.cell? a = v.cell? a:=by
 simp only [World.cell?,h.iL a.block hv]
theorem vk.frozen (h:vk v w) {a:Addr} (hv:ny v a.block):w.frozen? a = v.frozen? a:=by
 simp only [World.frozen?,h.iL a.block hv]
theorem vk.shape (h:vk v w) {r:Nat} (hv:ny v r):w.shape? r = v.shape? r:=by
 simp only [World.shape?,h.iL r hv]
theorem vk.HN (h:vk v w) (hs:a.spot = none) (hv:v.heap[a.block]? = some (Gx.slot a.off x)):w.cell? a = some x:=by
 have⟨c,e,h1,h2⟩:=h.slot _ _ _ hv;simp [World.cell?,h1,hs,h2]
theorem vk.Kx (h:vk v w) (hs:a.spot = none) (hv:v.heap[a.block]? = some (Gx.slot a.off x)):w.frozen? a = false:=by
 have⟨c,e,h1,h2⟩:=h.slot _ _ _ hv;simp [World.frozen?,h1,hs]
theorem vk.aaS (h:vk v w) (hs:a.spot = none) (hv:v.heap[a.block]? = some o) (hr:Ro o a.off x):w.cell? a = some x:=by
 have⟨c,e,h1,h2⟩:=h.ro _ _ _ _ hv hr;simp [World.cell?,h1,hs,h2]
structure oS (pm:Nat->Prop) (v v':World):Prop where
 size:v.heap.size <= v'.heap.size
 tape:v'.tape = v.tape
 os:v'.os = v.os
 output:v'.output = v.output
 drawn:v.drawn <= v'.drawn
 old:∀ i:Nat,i < v.heap.size->¬ pm i->v'.heap[i]? = v.heap[i]?
 nE:∀ (i:Nat) o,v.heap[i]? = some o->pL o = true->v'.heap[i]? = some o
 sl:∀ (i k:Nat) x,v.heap[i]? = some (slot k x)->∃ y,v'.heap[i]? = some (slot k y)
 iL:∀ i,ny v i->ny v' i
 nv:cI v->cI v'
 fresh:∀ (i:Nat) o,v.heap.size <= i->v'.heap[i]? = some o->u9 o = false
theorem ur {p:Prop} (h:v.heap.size <= i) (h':v.heap[i]? = some o):p:=absurd (aG h') (by omega)
theorem oS.refl (pm:Nat->Prop) (v:World):oS pm v v:=⟨aA _,rfl,rfl,rfl,aA _,λ_ _ _=>rfl,λ_ _ h _=>h,λ_ _ x h=>⟨x,h⟩,λ_ h=>h,id,λ_ _ h h'=>ur h h'⟩
theorem oS.trans {pm:Nat->Prop} {a b c:World} (h:oS pm a b) (k:oS pm b c):oS pm a c :=
 ⟨az h.size k.size,k.tape.trans h.tape,k.os.trans h.os,k.output.trans h.output,az h.drawn k.drawn,
  λi hi hp=>(k.old i (aD hi h.size) hp).trans (h.old i hi hp),λi o ho hh=>k.nE i o (h.nE i o ho hh) hh,
  λi n x hx=>let ⟨y,h1⟩:=h.sl i n x hx; k.sl i n y h1,λi hv=>k.iL i (h.iL i hv),λhn=>k.nv (h.nv hn),λi o h1 h2=>by
   by_cases hb:b.heap.size <= i
   ·exact k.fresh i o hb h2
   ·by_cases hb2:∃ x,b.heap[i]? = some x
    ·have⟨x,hx⟩:=hb2;exact k.iL i (λy hy=>h.fresh i y h1 hy) o h2
    grind⟩
def oD (k:Nat) (a b:Option Obj):Prop:=∀ c e z,a = some (.cells c e z)->∃ c',b = some (.cells c' e z) /\ c'.size = c.size /\ ∀ j:Nat,j ≠ k->c'[j]? = c[j]?
theorem oD.refl (k:Nat) (a:Option Obj):oD k a a:=λc e z h=>⟨c,h,rfl,λ_ _=>rfl⟩
theorem oD.trans {a b c:Option Obj} (h:oD k a b) (g:oD k b c):oD k a c:=λx e z hx=>by
 have⟨y,h1,h2,h3⟩:=h x e z hx;have⟨y',g1,g2,g3⟩:=g y e z h1
 grind
structure Beside (v w v' w':World):Prop where
 gy:vk v' w'
 nE:∀ (i:Nat) o,v.heap[i]? = some o->pL o = true->w'.heap[i]? = w.heap[i]?
 sl:∀ (i k:Nat) x,v.heap[i]? = some (slot k x)->oD k w.heap[i]? w'.heap[i]?
 tape:w'.tape = w.tape
 os:w'.os = w.os
 output:w'.output = w.output
theorem Beside.refl {v w:World} (m:vk v w):Beside v w v w:=⟨m,λ_ _ _ _=>rfl,λ_ k _ _=>.refl k _,rfl,rfl,rfl⟩
theorem Beside.trans {v w v1 w1 v2 w2:World} {pm:Nat->Prop} (h:Beside v w v1 w1) (t:oS pm v v1) (k:Beside v1 w1 v2 w2):Beside v w v2 w2 :=
 ⟨k.gy,λi o ho hh=>(k.nE i o (t.nE i o ho hh) hh).trans (h.nE i o ho hh),λi n x hx=>let ⟨y,h1⟩:=t.sl i n x hx; (h.sl i n x hx).trans (k.sl i n y h1),
  k.tape.trans h.tape,k.os.trans h.os,k.output.trans h.output⟩
theorem jq {h:Array Obj} (i:Nat):(h.modify b f)[i]? = if b = i then (h[i]?).map f else h[i]?:=by
 grind
theorem vQ (hv:ny v b) (hp:pm b) (hf:∀ o,u9 o = false->u9 (f o) = false) (hf2:∀ o,Eb o = false->Eb (f o) = false) :
 oS pm v { v with heap:=v.heap.modify b f } /\ (vk v w->Beside v w { v with heap:=v.heap.modify b f } { w with heap:=w.heap.modify b f }):=by
 have hne:∀ i o,v.heap[i]? = some o->u9 o = true->b ≠ i:=λi o ho hh e=>by
  subst e;have:=hv o ho;rw [hh] at this; cases this
 have keep:∀ i o,v.heap[i]? = some o->u9 o = true->(v.heap.modify b f)[i]? = some o:=λi o ho hh=>by
  rw [jq,if_neg (hne i o ho hh)]; exact ho
 have keepw:∀ i o,v.heap[i]? = some o->u9 o = true->(w.heap.modify b f)[i]? = w.heap[i]?:=λi o ho hh=>by
  rw [jq,if_neg (hne i o ho hh)]
 refine ⟨⟨by simp,rfl,rfl,rfl,aA _,λi _ hi=>?_,λi o ho hh=>keep i o ho (jH hh),λi k x hx=>⟨x,keep i _ hx rfl⟩,λi hi o ho=>?_,λhn i o ho=>?_,λi o h1 h2=>ur (v:={ v with heap:=v.heap.modify b f }) (by grind) h2⟩,
  λm=>⟨⟨by simp [m.size],m.tape,m.drawn,m.os,m.output,λi hi=>?_,λi k x hx=>?_,λi k o x hx hr=>?_⟩,λi o ho hh=>keepw i o ho (jH hh),λi k x hx=>?_,rfl,rfl,rfl⟩⟩
 ·grind
 ·have ho':(v.heap.modify b f)[i]? = some o:=ho;rw [jq] at ho';split at ho'
  ·grind
  ·exact hi o ho'
 ·have ho':(v.heap.modify b f)[i]? = some o:=ho;rw [jq] at ho';split at ho'
  ·cases hx:v.heap[i]? with
   | none=>grind
   | some x=>rw [hx] at ho'; obtain rfl:=ak ho'; exact hf2 x (hn i x hx)
  ·exact hn i o ho'
 ·have hi':ny v i:=λo ho=>by
   cases hP:u9 o with
   | false=>rfl
   | true=>have:=hi o (keep i o ho hP); rw [hP] at this; cases this
  show (w.heap.modify b f)[i]? = (v.heap.modify b f)[i]?;rw [jq,jq,m.iL i hi']
 ·have hx':(v.heap.modify b f)[i]? = some (slot k x):=hx;have hb:b ≠ i:=λe=>by
   subst e;rw [jq,if_pos rfl] at hx';cases hy:v.heap[b]? with
   | none=>rw [hy] at hx'; cases hx'
   | some y =>
     rw [hy] at hx';have:=hf y (hv y hy);rw [ak hx'] at this;cases this
  rw [jq,if_neg hb] at hx';show ∃ c e,(w.heap.modify b f)[i]? = _ /\ _;rw [jq,if_neg hb];exact m.slot i k x hx'
 ·have hx':(v.heap.modify b f)[i]? = some o:=hx;have hb:b ≠ i:=λe=>by
   subst e;rw [jq,if_pos rfl] at hx';cases hy:v.heap[b]? with
   | none=>rw [hy] at hx'; cases hx'
   | some y =>
     rw [hy] at hx';have:=hf y (hv y hy);rw [ak hx',jH hr.pL] at this;cases this
  rw [jq,if_neg hb] at hx';show ∃ c e,(w.heap.modify b f)[i]? = _ /\ _;rw [jq,if_neg hb];exact m.ro i k o x hx' hr
 ·show oD k w.heap[i]? (w.heap.modify b f)[i]?;rw [keepw i _ hx rfl];exact .refl k _
theorem EA (ho:u9 o = false) (IH:Eb o = false) :
 oS pm v { v with heap:=v.heap.push o } /\ (vk v w->Beside v w { v with heap:=v.heap.push o } { w with heap:=w.heap.push o }):=by
 have keep:∀ i x,v.heap[i]? = some x->(v.heap.push o)[i]? = some x:=λi x hx=>by
  rw [fb,if_neg (rh (aG hx))]; exact hx
 refine ⟨⟨by simp,rfl,rfl,rfl,aA _,λi hi _=>?_,λi x hx _=>keep i x hx,λi k x hx=>⟨x,keep i _ hx⟩,λi hi x hx=>?_,λhn i x hx=>?_,λi x h1 hx=>?_⟩,
  λm=>?_⟩
 ·grind
 ·have hx':(v.heap.push o)[i]? = some x:=hx;rw [fb] at hx';split at hx'
  ·grind
  ·exact hi x hx'
 ·have hx':(v.heap.push o)[i]? = some x:=hx;rw [fb] at hx';split at hx'
  ·grind
  ·exact hn i x hx'
 ·grind
 ·have keepw:∀ i x,v.heap[i]? = some x->(w.heap.push o)[i]? = w.heap[i]?:=λi x hx=>by
   rw [fb,if_neg (by rw [m.size]; exact rh (aG hx))]
  refine ⟨⟨by simp [m.size],m.tape,m.drawn,m.os,m.output,λi hi=>?_,λi k x hx=>?_,λi k o' x hx hr=>?_⟩,λi x hx _=>keepw i x hx,λi k x hx=>?_,rfl,rfl,rfl⟩
  ·have hi':ny v i:=λx hx=>hi x (keep i x hx)
   show (w.heap.push o)[i]? = (v.heap.push o)[i]?;rw [fb,fb,m.size,m.iL i hi']
  ·have hx':(v.heap.push o)[i]? = some (slot k x):=hx;rw [fb] at hx';split at hx'
   ·rw [ak hx'] at ho; cases ho
   ·show ∃ c e,(w.heap.push o)[i]? = _ /\ _;rw [keepw i _ hx'];exact m.slot i k x hx'
  ·have hx':(v.heap.push o)[i]? = some o':=hx;rw [fb] at hx';split at hx'
   ·rw [ak hx',jH hr.pL] at ho; cases ho
   ·show ∃ c e,(w.heap.push o)[i]? = _ /\ _;rw [keepw i _ hx'];exact m.ro i k o' x hx' hr
  ·show oD k w.heap[i]? (w.heap.push o)[i]?;rw [keepw i _ hx];exact .refl k _
theorem Vk (h:Array Obj) (b:Nat) (o:Obj):h.setIfInBounds b o = h.modify b (λ_=>o):=by
 rfl
theorem Rf (hv:ny v b) (hp:pm b) (ho:u9 o = false) (IH:Eb o = false) :
 oS pm v { v with heap:=v.heap.setIfInBounds b o } /\ (vk v w->Beside v w { v with heap:=v.heap.setIfInBounds b o } { w with heap:=w.heap.setIfInBounds b o }):=by
 exact vQ hv hp (λ_ _=>ho) (λ_ _=>IH)
theorem yR {k':Nat} {x':Value} (h:slot k x = slot k' x'):k = k' /\ x = x':=by
 simp only [slot,Obj.pending.injEq] at h
 grind
theorem Ez {y:Value} (hs:a.spot = none) (hv:v.heap[a.block]? = some (slot a.off y)) (hp:pm a.block) :
 oS pm v (setSlot v a.block a.off x) /\ (vk v w->Beside v w (setSlot v a.block a.off x) (w.setCell a x)):=by
 have hlt:=aG hv;have get:∀ i,(setSlot v a.block a.off x).heap[i]? = if a.block = i then some (slot a.off x) else v.heap[i]?:=λi=>by
  show (v.heap.setIfInBounds a.block (slot a.off x))[i]? = _;rw [ll];split
  ·rename_i e; simp [<- e,hlt]
  ·rfl
 refine ⟨⟨by simp [setSlot],rfl,rfl,rfl,aA _,λi _ hi=>?_,λi o ho hh=>?_,λi k z ho=>?_,λi hi o ho=>?_,λhn i o ho=>?_,λi o h1 h2=>ur (v:=setSlot v a.block a.off x) (by grind) h2⟩,λm=>?_⟩
 ·grind
 ·rw [get,if_neg (λe=>by subst e; rw [hv] at ho; obtain rfl:=ak ho; cases hh)]; exact ho
 ·rw [get]
  by_cases e:a.block = i
  ·subst e;rw [hv] at ho;obtain⟨rfl,rfl⟩:=yR (ak ho)
   grind
  grind
 ·rw [get] at ho;split at ho
  ·rename_i e;subst e;have:=hi _ hv;cases this
  ·exact hi o ho
 ·rw [get] at ho;split at ho
  ·rw [<- ak ho]; rfl
  ·exact hn i o ho
 ·have⟨c,e,h1,h2⟩:=m.slot _ _ _ hv;have getw:∀ i,(w.setCell a x).heap[i]? = if a.block = i then some (.cells (c.setIfInBounds a.off x) e (0,0)) else w.heap[i]?:=λi=>by
   show (w.heap.modify a.block _)[i]? = _;rw [jq];split
   ·rename_i e';rw [<- e',h1];simp [hs]
   ·rfl
  refine ⟨⟨by simp [setSlot,World.setCell,m.size],m.tape,m.drawn,m.os,m.output,λi hi=>?_,λi k z hz=>?_,λi k o z hz hr=>?_⟩,λi o ho hh=>?_,λi k z ho=>?_,rfl,rfl,rfl⟩
  ·rw [getw,get]
   by_cases e':a.block = i
   ·subst e';have:=hi (slot a.off x) (by rw [get,if_pos rfl]);cases this
   ·rw [if_neg e',if_neg e'];exact m.iL i λo ho=>hi o (by grind)
  ·rw [get] at hz;rw [getw]
   by_cases e':a.block = i
   ·rw [if_pos e'] at hz ⊢;obtain⟨rfl,rfl⟩:=yR (ak hz)
    grind
   ·rw [if_neg e'] at hz ⊢;exact m.slot i k z hz
  ·rw [get] at hz;rw [getw]
   by_cases e':a.block = i
   ·rw [if_pos e'] at hz;have:=hr.pL;rw [<- ak hz] at this;cases this
   ·rw [if_neg e'] at hz ⊢;exact m.ro i k o z hz hr
  ·rw [getw,if_neg (λe'=>by subst e'; rw [hv] at ho; obtain rfl:=ak ho; cases hh)]
  ·rw [getw]
   by_cases e':a.block = i
   ·rw [if_pos e'];subst e';rw [hv] at ho;obtain⟨rfl,rfl⟩:=yR (ak ho);intro c1 e1 z1 hc
    grind
   ·rw [if_neg e']; exact .refl k _
theorem EvS.mono {fr:Nat} (h:EvS pm fr v e) (t:oS pm v v'):EvS pm fr v' e:=by
 rcases h with ⟨a,h1,h2,h3,h4⟩ | ⟨r,h1,h2,h3,h4⟩ | h
 ·refine .inl ⟨a,h1,aD h2 t.size,h3.imp id (t.iL _),h4.imp (λ⟨g1,g2⟩=>⟨t.iL _ g1,g2⟩) (.imp (λ⟨g0,⟨x,g1⟩,g2⟩=>⟨g0,t.sl _ _ _ g1,g2⟩) (λ⟨g0,g1,o,x,g2,g3⟩=>⟨g0,g1,o,x,t.nE _ _ g2 g3.pL,g3⟩))⟩
 ·exact .inr (.inl ⟨r,h1,aD h2 t.size,t.iL _ h3,h4⟩)
 ·exact .inr (.inr h)
theorem eG {α:Type} {p:Program} {pm:Nat->Prop} {fr:Nat} {Q:α->World->Prop}:∀ (e:Sem α) (v:World),e.wpS p pm fr Q v ->
 ∃ (a:α) (v':World) (new:Array Event),Q a v' /\ oS pm v v' /\ (∀ x ∈ new,EvS pm fr v' x) /\ ∀ (w:World) (es:Array Event),vk v w->∃ w',e.runT p w es = (.ok a w',es ++ new) /\ Beside v w v' w'
 | .pure a,v,h=>⟨a,v,#[],h,.refl _ _,by simp,λw es m=>⟨w,by rfl,.refl m⟩⟩
 | .load md a k,v,h=>by
   have⟨hmd,x,hx,h⟩:=h;have⟨r,v',new,h1,h2,h3,h4⟩:=eG (k x) v h;have hsy:(md == Mode.atomic) = false \/ ny v' a.block:=hmd.imp (λe=>by rw [e]; rfl) (λ⟨y,g3⟩=>h2.iL _ (sQ g3));refine ⟨r,v',#[⟨.cell a,false,md == Mode.atomic⟩] ++ new,h1,h2,λy hy=>?_,λw es m=>?_⟩
   ·rcases gZ.1 hy with hy | hy
    ·obtain rfl:y = ⟨.cell a,false,md == Mode.atomic⟩:=by grind
     rcases hx with hx | ⟨hs,hx⟩ | ⟨hs,o,hx,hr⟩
     ·exact .inl ⟨a,rfl,aD (zG hx) h2.size,hsy,.inl ⟨h2.iL _ (sQ hx),λh=>by cases h⟩⟩
     ·exact .inl ⟨a,rfl,aD (aG hx) h2.size,hsy,.inr (.inl ⟨hs,h2.sl _ _ _ hx,λh=>by cases h⟩)⟩
     ·exact .inl ⟨a,rfl,aD (aG hx) h2.size,hsy,.inr (.inr ⟨hs,rfl,o,x,h2.nE _ _ hx hr.pL,hr⟩)⟩
    grind
   ·have hw:w.cell? a = some x:=by
     rcases hx with hx | ⟨hs,hx⟩ | ⟨hs,o,hx,hr⟩
     ·rw [m.cell (sQ hx)]; exact hx
     ·exact m.HN hs hx
     ·exact m.aaS hs hx hr
    have⟨w',g1,g2⟩:=h4 w (es.push ⟨.cell a,false,md == Mode.atomic⟩) m;refine ⟨w',?_,g2⟩;simp only [Sem.runT,hw]
    simp_all
 | .store md a x k,v,h=>by
   have⟨ho,hp,h⟩:=h;have st:∀ w es y,w.cell? a = some y->w.frozen? a = false->(Sem.store md a x k).runT p w es = k.runT p (w.setCell a x) (es.push ⟨.cell a,true,md == Mode.atomic⟩):=λw es y h1 h2=>by
    cases x <;> first
     | (simp [Value.oneCell'] at ho; done)
     | (simp only [Sem.runT,h1,h2]
        simp only [aI,cD])
   rcases h with ⟨uK,⟨y,hy⟩,hf,h⟩ | ⟨rfl,hs,⟨y,hy⟩,h⟩
   ·have hv:=sQ hy;have tm:=λw=>vQ (v:=v) (w:=w) (f:=fun | .cells c elem frozen=>.cells (if a.spot.isSome then c else c.setIfInBounds a.off x) elem frozen | o=>o) hv hp (by intro o ho; cases o <;> first | exact ho | rfl) (by intro o ho; cases o <;> first | exact ho | rfl)
    have t1:=(tm v).1;have⟨r,v',new,h1,h2,h3,h4⟩:=eG k (v.setCell a x) h;refine ⟨r,v',#[⟨.cell a,true,md == Mode.atomic⟩] ++ new,h1,t1.trans h2,λz hz=>?_,λw es m=>?_⟩
    ·rcases gZ.1 hz with hz | hz
     ·obtain rfl:z = ⟨.cell a,true,md == Mode.atomic⟩:=by grind
      exact .inl ⟨a,rfl,aD (zG hy) (t1.trans h2).size,.inr ((t1.trans h2).iL _ hv),.inl ⟨(t1.trans h2).iL _ hv,λ_=>⟨hp,uK⟩⟩⟩
     grind
    ·have b1:=(tm w).2 m;have⟨w',g1,g2⟩:=h4 (w.setCell a x) (es.push ⟨.cell a,true,md == Mode.atomic⟩) b1.gy;refine ⟨w',?_,b1.trans t1 g2⟩;rw [st w es y (by rw [m.cell hv]; exact hy) (by rw [m.frozen hv]; exact hf),g1];simp
   ·have t1:=(Ez (x:=x) (w:=v) hs hy hp).1;have⟨r,v',new,h1,h2,h3,h4⟩:=eG k (setSlot v a.block a.off x) h;refine ⟨r,v',#[⟨.cell a,true,false⟩] ++ new,h1,t1.trans h2,λz hz=>?_,λw es m=>?_⟩
    ·rcases gZ.1 hz with hz | hz
     ·obtain rfl:z = ⟨.cell a,true,false⟩:=by grind
      exact .inl ⟨a,rfl,aD (aG hy) (t1.trans h2).size,.inl rfl,.inr (.inl ⟨hs,(t1.trans h2).sl _ _ _ hy,λ_=>hp⟩)⟩
     grind
    ·have b1:=(Ez (x:=x) (w:=w) hs hy hp).2 m;have⟨w',g1,g2⟩:=h4 (w.setCell a x) (es.push ⟨.cell a,true,false⟩) b1.gy;refine ⟨w',?_,b1.trans t1 g2⟩;rw [st w es y (m.HN hs hy) (m.Kx hs hy),show (Mode.plain == Mode.atomic) = false from rfl,g1];simp
 | .new o k,v,h=>by
   have⟨ho,IH,h⟩:=h;have tm:=λw=>EA (pm:=pm) (v:=v) (w:=w) ho IH
   have⟨r,v',new,h1,h2,h3,h4⟩:=eG (k v.heap.size) _ h;refine ⟨r,v',new,h1,(tm v).1.trans h2,h3,λw es m=>?_⟩;have b1:=(tm w).2 m;have⟨w',g1,g2⟩:=h4 _ es b1.gy;exact ⟨w',by simp only [Sem.runT,m.size]; exact g1,b1.trans (tm v).1 g2⟩
 | .shape r k,v,h=>by
   have⟨hv,h⟩:=h;have⟨r',v',new,h1,h2,h3,h4⟩:=eG (k (v.shape? r)) v h;refine ⟨r',v',new,h1,h2,h3,λw es m=>?_⟩;have⟨w',g1,g2⟩:=h4 w es m;exact ⟨w',by simp only [Sem.runT,m.shape hv]; exact g1,g2⟩
 | .freeze a n k,v,h=>by
   have⟨hv,hp,uK,h⟩:=h
   by_cases hn:n = 0
   ·have e1:∀ w:World,w.freeze a n = w:=λw=>by simp [World.freeze,hn]
    rw [e1] at h;have⟨r',v',new,h1,h2,h3,h4⟩:=eG k v h;refine ⟨r',v',new,h1,h2,h3,λw es m=>?_⟩;have⟨w',g1,g2⟩:=h4 w es m;exact ⟨w',by simp only [Sem.runT,e1]; exact g1,g2⟩
   ·have tm:=λw=>vQ (v:=v) (w:=w) (f:=fun | .cells c elem (lo,hi)=>.cells c elem (if lo == hi then (a.off,a.off + n) else (min lo a.off,max hi (a.off + n))) | o=>o) hv hp (by intro o ho; cases o <;> first | exact ho | rfl) (by intro o ho; cases o <;> first | exact ho | rfl)
    have e1:∀ w:World,w.freeze a n = _:=λw=>if_neg hn
    rw [e1] at h;have⟨r',v',new,h1,h2,h3,h4⟩:=eG k _ h;refine ⟨r',v',new,h1,(tm v).1.trans h2,h3,λw es m=>?_⟩;have b1:=(tm w).2 m;have⟨w',g1,g2⟩:=h4 _ es b1.gy;exact ⟨w',by simp only [Sem.runT,e1]; exact g1,b1.trans (tm v).1 g2⟩
 | .frozen a k,v,h=>by
   have⟨hv,h⟩:=h;have⟨r',v',new,h1,h2,h3,h4⟩:=eG (k (v.frozen? a)) v h;refine ⟨r',v',new,h1,h2,h3,λw es m=>?_⟩;have⟨w',g1,g2⟩:=h4 w es m;exact ⟨w',by simp only [Sem.runT,m.frozen hv]; exact g1,g2⟩
 | .getObj r k,v,h=>by
   have⟨hv,o,ho,hc,hch,h⟩:=h;have⟨x,v',new,h1,h2,h3,h4⟩:=eG (k o) v h;refine ⟨x,v',#[⟨.obj r,false,false⟩] ++ new,h1,h2,λy hy=>?_,λw es m=>?_⟩
   ·rcases gZ.1 hy with hy | hy
    ·obtain rfl:y = ⟨.obj r,false,false⟩:=by grind
     exact .inr (.inl ⟨r,rfl,aD (aG ho) h2.size,h2.iL _ hv,rfl,λh=>by cases h⟩)
    grind
   ·have⟨w',g1,g2⟩:=h4 w (es.push ⟨.obj r,false,false⟩) m;refine ⟨w',?_,g2⟩;cases o <;> first
     | exact absurd rfl (hc _ _ _)
     | (simp only [Sem.runT,m.iL r hv,ho,hch]; rw [g1]; simp)
 | .setObj r o k,v,h=>by
   have⟨hv,hp,uK,hd,Vx,hch,⟨o',ho,hc⟩,h⟩:=h;have tm:=λw=>Rf (v:=v) (w:=w) hv hp hd Vx
   have⟨x,v',new,h1,h2,h3,h4⟩:=eG k _ h;refine ⟨x,v',#[⟨.obj r,true,false⟩] ++ new,h1,(tm v).1.trans h2,λy hy=>?_,λw es m=>?_⟩
   ·rcases gZ.1 hy with hy | hy
    ·obtain rfl:y = ⟨.obj r,true,false⟩:=by grind
     exact .inr (.inl ⟨r,rfl,aD (aG ho) ((tm v).1.trans h2).size,((tm v).1.trans h2).iL _ hv,rfl,λ_=>⟨hp,uK⟩⟩)
    grind
   ·have b1:=(tm w).2 m;have⟨w',g1,g2⟩:=h4 _ (es.push ⟨.obj r,true,false⟩) b1.gy;refine ⟨w',?_,b1.trans (tm v).1 g2⟩;cases o' <;> first
     | exact absurd rfl (hc _ _ _)
     | (simp only [Sem.runT,m.iL r hv,ho,hch]; rw [g1]; simp)
 | .choose q k,v,h=>by
   simp only [Sem.wpS] at h
   by_cases hq:q.forced = true
   ·rw [if_pos hq] at h;have⟨r',v',new,h1,h2,h3,h4⟩:=eG (k 0) v h;refine ⟨r',v',new,h1,h2,h3,λw es m=>?_⟩;have⟨w',g1,g2⟩:=h4 w es m;exact ⟨w',by simp only [Sem.runT,hq,if_true]; exact g1,g2⟩
   ·rw [if_neg hq] at h;have hq':q.forced = false:=by simpa using hq
    have⟨r',v',new,h1,h2,h3,h4⟩:=eG (k (q.cut (v.tape v.drawn q))) _ h;have t1:oS pm v { v with drawn:=v.drawn + 1 }:=⟨aA _,rfl,rfl,rfl,Nat.le_succ _,λ_ _ _=>rfl,λ_ _ h _=>h,λ_ _ x h=>⟨x,h⟩,λ_ h=>h,λh=>h,λ_ _ h h'=>ur h h'⟩;refine ⟨r',v',new,h1,t1.trans h2,h3,λw es m=>?_⟩;have b1:Beside v w { v with drawn:=v.drawn + 1 } { w with drawn:=w.drawn + 1 } :=
     ⟨⟨m.size,m.tape,by simp [m.drawn],m.os,m.output,m.iL,m.slot,m.ro⟩,λ_ _ _ _=>rfl,λ_ k _ _=>.refl k _,rfl,rfl,rfl⟩
    have⟨w',g1,g2⟩:=h4 _ es b1.gy;refine ⟨w',?_,b1.trans t1 g2⟩;have e:q.cut (w.tape w.drawn q) = q.cut (v.tape v.drawn q):=by rw [m.tape,m.drawn]
    simp only [Sem.runT,hq',aI,cD]
    grind
 | .sys _ _,_,h=>h.elim
 | .program k,v,h=>by
   have⟨r',v',new,h1,h2,h3,h4⟩:=eG (k p) v h;refine ⟨r',v',new,h1,h2,h3,λw es m=>?_⟩;have⟨w',g1,g2⟩:=h4 w es m;exact ⟨w',by assumption,g2⟩
 | .mark mk k,v,h=>by
   have⟨hm,h⟩:=h;have⟨x,v',new,h1,h2,h3,h4⟩:=eG k v h;refine ⟨x,v',#[⟨.mark mk,false,true⟩] ++ new,h1,h2,λy hy=>?_,λw es m=>?_⟩
   ·rcases gZ.1 hy with hy | hy
    ·exact .inr (.inr ⟨mk,hm,by grind⟩)
    grind
   ·have⟨w',g1,g2⟩:=h4 w (es.push ⟨.mark mk,false,true⟩) m;exact ⟨w',by simp only [Sem.runT]; simp_all,g2⟩
 | .halt _,_,h=>h.elim
theorem gG {α:Type} {p:Program} {pm pm':Nat->Prop} {fr:Nat} (hp:∀ b,pm b->pm' b) {Q:α->World->Prop}:∀ (e:Sem α) (v:World),e.wpS p pm fr Q v->e.wpS p pm' fr Q v
 | .pure _,_,h=>h
 | .load _ _ k,v,⟨h1,x,h2,h3⟩=>⟨h1,x,h2,gG hp (k x) v h3⟩
 | .store _ _ _ k,v,⟨h2,h3,h4⟩=>⟨h2,hp _ h3,h4.imp (λ⟨g0,g1,g2,g3⟩=>⟨g0,g1,g2,gG hp k _ g3⟩) (λ⟨g0,g1,g2,g3⟩=>⟨g0,g1,g2,gG hp k _ g3⟩)⟩
 | .new _ k,v,⟨h1,h1',h2⟩=>⟨h1,h1',gG hp (k _) _ h2⟩
 | .shape _ k,v,⟨h1,h2⟩=>⟨h1,gG hp (k _) _ h2⟩
 | .freeze _ _ k,v,⟨h1,h2,h2',h3⟩=>⟨h1,hp _ h2,h2',gG hp k _ h3⟩
 | .frozen _ k,v,⟨h1,h2⟩=>⟨h1,gG hp (k _) _ h2⟩
 | .getObj _ k,v,⟨h1,o,h2,h3,h4,h5⟩=>⟨h1,o,h2,h3,h4,gG hp (k o) _ h5⟩
 | .setObj _ _ k,v,⟨h1,h2,h2',h3,ZV,h4,h5,h6⟩=>⟨h1,hp _ h2,h2',h3,ZV,h4,h5,gG hp k _ h6⟩
 | .choose q k,v,h=>by
   simp only [Sem.wpS] at h ⊢;split at h
   ·rename_i hq; rw [if_pos hq]; exact gG hp (k 0) _ h
   ·rename_i hq; rw [if_neg hq]; exact gG hp (k _) _ h
 | .sys _ _,_,h=>h.elim
 | .program k,v,h=>gG hp (k p) v h
 | .mark _ k,v,⟨h1,h2⟩=>⟨h1,gG hp k v h2⟩
 | .halt _,_,h=>h.elim
theorem cu {α:Type} {p:Program} {pm:Nat->Prop} {fr:Nat} {Q Q':α->World->Prop} (hq:∀ a v,Q a v->Q' a v):∀ (e:Sem α) (v:World),e.wpS p pm fr Q v->e.wpS p pm fr Q' v
 | .pure _,_,h=>hq _ _ h
 | .load _ _ k,v,⟨h1,x,h2,h3⟩=>⟨h1,x,h2,cu hq (k x) v h3⟩
 | .store _ _ _ k,v,⟨h2,h3,h4⟩=>⟨h2,h3,h4.imp (λ⟨g0,g1,g2,g3⟩=>⟨g0,g1,g2,cu hq k _ g3⟩) (λ⟨g0,g1,g2,g3⟩=>⟨g0,g1,g2,cu hq k _ g3⟩)⟩
 | .new _ k,v,⟨h1,h1',h2⟩=>⟨h1,h1',cu hq (k _) _ h2⟩
 | .shape _ k,v,⟨h1,h2⟩=>⟨h1,cu hq (k _) _ h2⟩
 | .freeze _ _ k,v,⟨h1,h2,h2',h3⟩=>⟨h1,h2,h2',cu hq k _ h3⟩
 | .frozen _ k,v,⟨h1,h2⟩=>⟨h1,cu hq (k _) _ h2⟩
 | .getObj _ k,v,⟨h1,o,h2,h3,h4,h5⟩=>⟨h1,o,h2,h3,h4,cu hq (k o) _ h5⟩
 | .setObj _ _ k,v,⟨h1,h2,h2',h3,ZV,h4,h5,h6⟩=>⟨h1,h2,h2',h3,ZV,h4,h5,cu hq k _ h6⟩
 | .choose q k,v,h=>by
   simp only [Sem.wpS] at h ⊢;split at h
   ·rename_i hq'; rw [if_pos hq']; exact cu hq (k 0) _ h
   ·rename_i hq'; rw [if_neg hq']; exact cu hq (k _) _ h
 | .sys _ _,_,h=>h.elim
 | .program k,v,h=>cu hq (k p) v h
 | .mark _ k,v,⟨h1,h2⟩=>⟨h1,cu hq k v h2⟩
 | .halt _,_,h=>h.elim
theorem cR {α β:Type} {p:Program} {pm:Nat->Prop} {fr:Nat} {Q:β->World->Prop} (f:α->Sem β):∀ (e:Sem α) (v:World),e.wpS p pm fr (λa v'=>(f a).wpS p pm fr Q v') v->(e.bind f).wpS p pm fr Q v
 | .pure _,_,h=>h
 | .load _ _ k,v,⟨h1,x,h2,h3⟩=>⟨h1,x,h2,cR f (k x) v h3⟩
 | .store _ _ _ k,v,⟨h2,h3,h4⟩=>⟨h2,h3,h4.imp (λ⟨g0,g1,g2,g3⟩=>⟨g0,g1,g2,cR f k _ g3⟩) (λ⟨g0,g1,g2,g3⟩=>⟨g0,g1,g2,cR f k _ g3⟩)⟩
 | .new _ k,v,⟨h1,h1',h2⟩=>⟨h1,h1',cR f (k _) _ h2⟩
 | .shape _ k,v,⟨h1,h2⟩=>⟨h1,cR f (k _) _ h2⟩
 | .freeze _ _ k,v,⟨h1,h2,h2',h3⟩=>⟨h1,h2,h2',cR f k _ h3⟩
 | .frozen _ k,v,⟨h1,h2⟩=>⟨h1,cR f (k _) _ h2⟩
 | .getObj _ k,v,⟨h1,o,h2,h3,h4,h5⟩=>⟨h1,o,h2,h3,h4,cR f (k o) _ h5⟩
 | .setObj _ _ k,v,⟨h1,h2,h2',h3,ZV,h4,h5,h6⟩=>⟨h1,h2,h2',h3,ZV,h4,h5,cR f k _ h6⟩
 | .choose q k,v,h=>by
   simp only [Sem.wpS] at h;simp only [Sem.bind,Sem.wpS];split at h
   ·rename_i hq'; rw [if_pos hq']; exact cR f (k 0) _ h
   ·rename_i hq'; rw [if_neg hq']; exact cR f (k _) _ h
 | .sys _ _,_,h=>h.elim
 | .program k,v,h=>cR f (k p) v h
 | .mark _ k,v,⟨h1,h2⟩=>⟨h1,cR f k v h2⟩
 | .halt _,_,h=>h.elim
open Go.Conc
structure df (v v1:World):Prop where
 tape:v1.tape = v.tape
 os:v1.os = v.os
 output:v1.output = v.output
 size:v.heap.size <= v1.heap.size
 old:∀ i:Nat,i < v.heap.size->v1.heap[i]? = v.heap[i]?
 new:∀ i:Nat,v.heap.size <= i->i < v1.heap.size->v1.heap[i]? = some dummy
theorem df.refl (v:World):df v v:=⟨rfl,rfl,rfl,aA _,λ_ _=>rfl,λi h1 h2=>by omega⟩
theorem df.trans {a b c:World} (h:df a b) (k:df b c):df a c :=
 ⟨k.tape.trans h.tape,k.os.trans h.os,k.output.trans h.output,az h.size k.size,λi hi=>(k.old i (aD hi h.size)).trans (h.old i hi),
  λi h1 h2=>by
   by_cases hb:i < b.heap.size
   ·exact (k.old i hb).trans (h.new i h1 hb)
   ·exact k.new i (by omega) h2⟩
def oS.uq (h:oS pm v v') (hp:∀ b,pm b->pm' b):oS pm' v v' :=
 ⟨h.size,h.tape,h.os,h.output,h.drawn,λi hi hn=>h.old i hi (λh=>hn (hp i h)),h.nE,h.sl,h.iL,h.nv,h.fresh⟩
theorem EvS.uq {fr:Nat} (h:EvS pm fr v e) (hp:∀ b,pm b->pm' b):EvS pm' fr v e:=by
 rcases h with ⟨a,h1,h2,h3,h4⟩ | ⟨r,h1,h2,h3,h4,h5⟩ | h
 ·exact .inl ⟨a,h1,h2,h3,h4.imp (λ⟨g1,g2⟩=>⟨g1,λh=>⟨hp _ (g2 h).1,(g2 h).2⟩⟩) (.imp (λ⟨g0,g1,g2⟩=>⟨g0,g1,λh=>hp _ (g2 h)⟩) id)⟩
 ·exact .inr (.inl ⟨r,h1,h2,h3,h4,λh=>⟨hp _ (h5 h).1,(h5 h).2⟩⟩)
 ·exact .inr (.inr h)
structure Ext where
 fits:World->World->Prop
 kind:Bool->Goroutine->World->World->(Goroutine->World->Prop)->Prop
 blk:Goroutine->Prop
 up:World->Prop
 mono:∀ {m g v w} {S S':Goroutine->World->Prop},kind m g v w S->(∀ g' v',S g' v'->S' g' v')->kind m g v w S'
structure En where
 X:Ext
 fr:Nat
 Wv:Option Nat
def Bt (P:Program) (main:Bool) (pm:Nat->Prop) (fr:Nat) (g:Goroutine) (v w:World) (g':Goroutine) (v':World):Prop :=
 ∃ w' es,stepG P main g w = .go g' w' es /\ oS pm v v' /\ Beside v w v' w' /\ ∀ e ∈ es,EvS pm fr v' e
structure On (X:Ext) (v v1 w:World):Prop where
 grow:df v v1
 nv:cI v1
 gy:vk v1 w
 fits:X.fits v1 w
inductive eB (X:Ext) (P:Program) (main:Bool) (pm:Nat->Prop) (fr:Nat) (T:Goroutine->World->Prop):Goroutine->World->Prop
 | stop {g:Goroutine} {v:World} (h:T g v):eB X P main pm fr T g v
 | step {g:Goroutine} {v:World} (hr:g.status = .running) (bl:Bool) (hb:bl = true->X.blk g) (f:World->World->Goroutine->World->Prop)
  (h:∀ v1 w,On X v v1 w->(bl = true->X.up w)->(∃ g' v',Bt P main pm fr g v1 w g' v' /\ f v1 w g' v') \/ X.kind main g v1 w (f v1 w))
  (ih:∀ v1 w,On X v v1 w->(bl = true->X.up w)->∀ g' v',f v1 w g' v'->eB X P main pm fr T g' v'):eB X P main pm fr T g v
section
variable {X:Ext} {P:Program} {fr:Nat} {T T':Goroutine->World->Prop} {g:Goroutine}
def eB.gen (hr:g.status = .running) (bl:Bool) (hb:bl = true->X.blk g)
    (h:∀ v1 w,On X v v1 w->(bl = true->X.up w)->(∃ g' v',Bt P main pm fr g v1 w g' v' /\ eB X P main pm fr T g' v') \/ X.kind main g v1 w (λg' v'=>eB X P main pm fr T g' v')):eB X P main pm fr T g v :=
 .step hr bl hb (λ_ _ g' v'=>eB X P main pm fr T g' v') h λ_ _ _ _ _ _ h=>h
theorem eB.go (hr:g.status = .running) (h:∀ v1 w,On X v v1 w->∃ g' v',Bt P main pm fr g v1 w g' v' /\ eB X P main pm fr T g' v'):eB X P main pm fr T g v :=
 .gen hr false (λh=>by cases h) λv1 w m _=>.inl (h v1 w m)
theorem eB.bind (h:eB X P main pm fr T g v) (k:∀ g v,T g v->eB X P main pm fr T' g v):eB X P main pm fr T' g v:=by
 induction h with
 | stop h=>grind
 | step hr bl hb f h _ ih=>exact .step hr bl hb f h ih
theorem eB.uq {pm':Nat->Prop} (h:eB X P main pm fr T g v) (hp:∀ b,pm b->pm' b):eB X P main pm' fr T g v:=by
 induction h with
 | stop h=>exact .stop h
 | step hr bl hb f h _ ih =>
   refine .step hr bl hb f (λv1 w m u=>(h v1 w m u).imp ?_ id) ih;rintro ⟨g',v',⟨w',es,h1,h2,h3,h5⟩,h6⟩;exact ⟨g',v',⟨w',es,h1,h2.uq hp,h3,λe he=>(h5 e he).uq hp⟩,h6⟩
def Closed (T:Goroutine->World->Prop):Prop:=∀ g v v1,T g v->df v v1->T g v1
def On.ZW {v2:World} (hg:df v v1) (m:On X v1 v2 w):On X v v2 w:=⟨hg.trans m.grow,m.nv,m.gy,m.fits⟩
theorem eB.grow (hT:Closed T) (h:eB X P main pm fr T g v) (hg:df v v1):eB X P main pm fr T g v1:=by
 cases h with
 | stop h=>exact .stop (hT _ _ _ h hg)
 | step hr bl hb f h ih=>exact .step hr bl hb f (λv2 w m u=>h v2 w (m.ZW hg) u) (λv2 w m u=>ih v2 w (m.ZW hg) u)
theorem Bt.ctl {g':Goroutine} (h:stepG P main g w = .go g' w #[]) (m:vk v w):Bt P main pm fr g v w g' v :=
 ⟨w,#[],h,.refl _ _,.refl m,by simp⟩
def eB.ctl (hT:Closed T) {g':Goroutine} (hr:g.status = .running) (h:∀ w,stepG P main g w = .go g' w #[]) (k:eB X P main pm fr T g' v):eB X P main pm fr T g v :=
 .go hr λv1 w m=>⟨g',v1,.ctl (h w) m.gy,k.grow hT m.grow⟩
end
section moves
variable {P:Program} {b:Frame} {a:Act} {k:List Item} {cs:List Frame} (w:World)
theorem GQ:stepG P main (G (b.atR a (.code .skip :: k)) cs) w = .go (G (b.atR a k) cs) w #[]:=by rfl
theorem yr:stepG P main (G (b.atR a (.inBlock id :: k)) cs) w = .go (G (b.atR a k) cs) w #[]:=by rfl
theorem mC {x:Code}:stepG P main (G (b.atR a (.code (.seq x y) :: k)) cs) w = .go (G (b.atR a (.code x :: .code y :: k)) cs) w #[]:=by rfl
theorem GU {c:Operand} {x:Code} {t:Bool} (h:a.eval c = .bool t):stepG P main (G (b.atR a (.code (.cond c x y) :: k)) cs) w = .go (G (b.atR a (.code (if t then x else y) :: k)) cs) w #[]:=by
 have h':=congrFun (py b a (.code (.cond c x y) :: k)) c;rw [h] at h';simp only [Frame.atR] at h';simp [G,stepG,stepG.exec,Frame.atR,h']
theorem Da:stepG P main (G (b.atR a (.code (.block id c) :: k)) cs) w = .go (G (b.atR a (.code c :: .inBlock id :: k)) cs) w #[]:=by rfl
theorem XY:stepG P main (G (b.atR a (.code (.loop c) :: k)) cs) w = .go (G (b.atR a (.code c :: .inLoop c :: k)) cs) w #[]:=by rfl
theorem PK:stepG P main (G (b.atR a (.inLoop c :: k)) cs) w = .go (G (b.atR a (.code c :: .inLoop c :: k)) cs) w #[]:=by rfl
theorem XZ {k':List Item} (h:exitTo id k = some k'):stepG P main (G (b.atR a (.code (.exit id) :: k)) cs) w = .go (G (b.atR a k') cs) w #[]:=by simp [G,stepG,stepG.exec,Frame.atR,h]
theorem An:stepG P main (G (b.atR a (.code (.region id ops false) :: k)) cs) w = .go (G (b.atR a (.inRegion ops (List.range ops.size) :: k)) cs) w #[]:=by rfl
theorem qF:stepG P main (G (b.atR a (.inRegion ops [] :: k)) cs) w = .go (G (b.atR a k) cs) w #[]:=by rfl
theorem IU {rest:List Nat} {o:Oper} (ho:ops[i]? = some o) (hw:Region.wanted o (yielded ops a.tmps) = false) :
 stepG P main (G (b.atR a (.inRegion ops (i :: rest) :: k)) cs) w = .go (G (b.atR (a.put o.dst undef) (.inRegion ops rest :: k)) cs) w #[]:=by
 have hfin:(b.atR a (.inRegion ops (i :: rest) :: k)).finish undef = b.atR (a.put o.dst undef) (.inRegion ops rest :: k):=by rw [eP,ho]; rfl
 rw [<- hfin];simp [G,stepG,stepG.exec,Frame.atR,ho,hw]
theorem X1:stepG P main (G (b.atR a (.code (.region id ops true) :: k)) cs) w =
 .go (G (b.atR a (.inRegion ops (Region.schedule (P.follows .mixedOrders) ops (w.tape w.drawn (.order b.fn id))) :: k)) cs) { w with drawn:=w.drawn + 1 } #[]:=by
 rfl
theorem LG (hb:b.roundOf = none):stepG P main (G (b.atR a (.code .ret :: k)) cs) w = .go (G { b.atR a (.code .ret :: k) with mode:=.returning } cs) w #[]:=by
 simp [G,stepG,stepG.exec,Frame.atR,hb]
theorem GS (hb:b.roundOf = none):stepG P main (G (b.atR a []) cs) w = .go (G { b.atR a [] with mode:=.returning } cs) w #[]:=by
 simp [G,stepG,stepG.exec,Frame.atR,hb]
end moves
def Vg (P:Program) (E:En) (main:Bool) (pm:Nat->Prop) (T:Goroutine->World->Prop) (b:Frame) (k:List Item) (cs:List Frame):Exit->Act->World->Prop
 | .normal,a,v=>eB E.X P main pm E.fr T (G (b.atR a k) cs) v
 | .exit id,a,v=>(∀ k',exitTo id k = some k'->eB E.X P main pm E.fr T (G (b.atR a k') cs) v) /\ (exitTo id k = none->∀ k',exitTo id k' = none->eB E.X P main pm E.fr T (G (b.atR a (.code (.exit id) :: k')) cs) v)
 | .ret,a,v=>∀ k',eB E.X P main pm E.fr T (G (b.atR a (.code .ret :: k')) cs) v
 | _,_,_=>False
end Go.Gx
namespace Go
open Gx Conc in
def Code.vp (P:Program) (E:En) (pm:Nat->Prop) (c:Code) (Q:Exit->Act->World->Prop) (a:Act) (v:World):Prop :=
 ∀ (main:Bool) (T:Goroutine->World->Prop) (b:Frame) (k:List Item) (cs:List Frame),Closed T->b.kind ≠ .early->b.roundOf = E.Wv ->
   (∀ e a' v',Q e a' v'->Vg P E main pm T b k cs e a' v')->eB E.X P main pm E.fr T (G (b.atR a (.code c :: k)) cs) v
end Go
namespace Go.Gx
open Go Go.Conc
variable {P:Program} {E:En} {pm:Nat->Prop} {ops:Array Oper} {a:Act} {v w w':World} {main:Bool} {b:Frame} {k:List Item} {cs:List Frame} {x:Value} {α β:Type} {e:Sem α} {c y bd ac:Code} {id i fr l fuel:Nat} {t:TypeId} {rest:List Nat} {o oi:Oper} {f:α->Sem β} {R:Value->World->Prop} {X:Ext} {args:Array Value} {K K':Act->World->Prop} {es:Array Event} {listed:Array Bool} {ps:Array Tmp}
def zR (P:Program) (E:En) (pm:Nat->Prop) (ops:Array Oper) (todo:List Nat) (Q:Exit->Act->World->Prop) (a:Act) (v:World):Prop :=
 ∀ (main:Bool) (T:Goroutine->World->Prop) (b:Frame) (k:List Item) (cs:List Frame),Closed T->b.kind ≠ .early->b.roundOf = E.Wv ->
   (∀ e a' v',Q e a' v'->Vg P E main pm T b k cs e a' v')->eB E.X P main pm E.fr T (G (b.atR a (.inRegion ops todo :: k)) cs) v
section
variable {T:Goroutine->World->Prop} {Q:Exit->Act->World->Prop}
theorem Vg.push {x:Item} {e:Exit} (hx:x.plain = true) (he:e ≠ .normal) (h:Vg P E main pm T b k cs e a v):Vg P E main pm T b (x :: k) cs e a v:=by
 cases e with
 | normal=>trivial
 | exit id =>
   have e1:exitTo id (x :: k) = exitTo id k:=by cases x <;> simp_all [exitTo,Item.plain]
   exact ⟨λk' hk=>h.1 k' (by grind),λhn k' hk=>h.2 (by grind) k' hk⟩
 | ret=>exact h
 | _=>exact h
def vO {Q':Exit->Act->World->Prop} (h:c.vp P E pm Q a v) (hq:∀ e a v,Q e a v->Q' e a v):c.vp P E pm Q' a v :=
 λmain T b k cs hT hk hr hc=>h main T b k cs hT hk hr λe a' v' q=>hc e a' v' (hq _ _ _ q)
theorem Et {pm':Nat->Prop} (hp:∀ b,pm b->pm' b) (h:c.vp P E pm Q a v):c.vp P E pm' Q a v:=λmain T b k cs hT hk hr hc=>by
 have hT':Closed (λg v=>eB E.X P main pm' E.fr T g v):=λg v v1 h hg=>h.grow hT hg
 have h1:=h main (λg v=>eB E.X P main pm' E.fr T g v) b k cs hT' hk hr λe a' v' q=>by
  have h2:=hc e a' v' q;cases e with
  | normal=>exact .stop h2
  | exit id=>exact ⟨λk' hk'=>.stop (h2.1 k' hk'),λhn k' hk'=>.stop (h2.2 hn k' hk')⟩
  | ret=>exact λk'=>.stop (h2 k')
  | _=>exact h2
 exact (h1.uq hp).bind λg v h=>h
def QX (h:Q .normal a v):Code.skip.vp P E pm Q a v:=λmain T b k cs hT hk hr hc=>.ctl hT rfl (λw=>GQ w) (hc _ _ _ h)
def VP (h:Q .ret a v):Code.ret.vp P E pm Q a v:=λmain T b k cs hT hk hr hc=>hc _ _ _ h k
theorem QZ (h:Q (.exit id) a v):(Code.exit id).vp P E pm Q a v:=λmain T b k cs hT hk hr hc=>by
 have h1:=hc _ _ _ h;cases hk':exitTo id k with
 | none=>exact h1.2 hk' k hk'
 | some k'=>exact .ctl hT rfl (λw=>XZ w hk') (h1.1 k' hk')
theorem MH {x:Code} (h:x.vp P E pm (Exit.then (y.vp P E pm Q) Q) a v):(Code.seq x y).vp P E pm Q a v:=λmain T b k cs hT hk hr hc=>by
 refine .ctl hT rfl (λw=>mC w) (h main T b (.code y :: k) cs hT hk hr λe a' v' q=>?_);cases e with
 | normal=>exact q main T b k cs hT hk hr hc
 | _=>exact (hc _ _ _ q).push (x:=.code y) rfl (by simp)
theorem B0 {c:Operand} {x:Code} {t:Bool} (hc:a.eval c = .bool t) (h1:t = true->x.vp P E pm Q a v) (h2:t = false->y.vp P E pm Q a v):(Code.cond c x y).vp P E pm Q a v :=
 λmain T b k cs hT hk hr hq=>by
  refine .ctl hT rfl (λw=>GU w hc) ?_;cases t with
  | true=>exact h1 rfl main T b k cs hT hk hr hq
  | false=>exact h2 rfl main T b k cs hT hk hr hq
theorem Oz (h:c.vp P E pm (Exit.inBlock id Q) a v):(Code.block id c).vp P E pm Q a v:=λmain T b k cs hT hk hr hc=>by
 refine .ctl hT rfl (λw=>Da w) (h main T b (.inBlock id :: k) cs hT hk hr λe a' v' q=>?_);cases e with
 | normal=>exact .ctl hT rfl (λw=>yr w) (hc _ _ _ q)
 | exit Vs =>
   by_cases nE:Vs = id
   ·simp only [Exit.inBlock,nE,if_true] at q;subst nE;exact ⟨λk' hk'=>by
     have:k' = k:=by simpa [exitTo] using hk'.symm
     subst this;exact hc _ _ _ q,λhn=>by simp [exitTo] at hn⟩
   ·simp only [Exit.inBlock,nE,cD] at q;have h1:=hc _ _ _ q;have e1:exitTo Vs (.inBlock id :: k) = exitTo Vs k:=by
     have:(id == Vs) = false:=by simp; exact λh=>nE h.symm
     simp [exitTo,this]
    exact ⟨λk' hk'=>h1.1 k' (by grind),λhn k' hk'=>h1.2 (by grind) k' hk'⟩
 | ret=>exact hc _ _ _ q
 | goto l=>exact hc _ _ _ q
 | panic ch=>exact hc _ _ _ q
 | outgrown=>exact hc _ _ _ q
theorem QY (I:Nat->Act->World->Prop) (m0:Nat) (h0:I m0 a v)
 (round:∀ m a v,I m a v->c.vp P E pm (Exit.then (λa' v'=>∃ m',m' < m /\ I m' a' v') Q) a v):(Code.loop c).vp P E pm Q a v:=λmain T b k cs hT hk hr hc=>by
 have key:∀ m a v,I m a v->eB E.X P main pm E.fr T (G (b.atR a (.code c :: .inLoop c :: k)) cs) v:=by
  intro m
  induction m using Nat.strongRecOn with
  | _ m ih =>
    intro a v hI;refine round m a v hI main T b (.inLoop c :: k) cs hT hk hr λe a' v' q=>?_
    cases e with
    | normal =>
      obtain⟨m',hlt,hI'⟩:=q;exact .ctl hT rfl (λw=>PK w) (ih m' hlt a' v' hI')
    | _=>exact (hc _ _ _ q).push (x:=.inLoop c) rfl (by simp)
 exact .ctl hT rfl (λw=>XY w) (key m0 a v h0)
theorem Kh (h:zR P E pm ops (List.range ops.size) Q a v):(Code.region id ops false).vp P E pm Q a v:=λmain T b k cs hT hk hr hc =>
 .ctl hT rfl (λw=>An w) (h main T b k cs hT hk hr hc)
def CI (h:Q .normal a v):zR P E pm ops [] Q a v:=λmain T b k cs hT hk hr hc=>.ctl hT rfl (λw=>qF w) (hc _ _ _ h)
def xK (ho:ops[i]? = some o) (hw:Region.wanted o (yielded ops a.tmps) = false) (h:zR P E pm ops rest Q (a.put o.dst undef) v) :
    zR P E pm ops (i :: rest) Q a v:=λmain T b k cs hT hk hr hc=>.ctl hT rfl (λw=>IU w ho hw) (h main T b k cs hT hk hr hc)
theorem Hr (h:∀ v1,df v v1->cI v1->∀ t,zR P E pm ops (Region.schedule (P.follows .mixedOrders) ops t) Q a { v1 with drawn:=v1.drawn + 1 }):(Code.region id ops true).vp P E pm Q a v :=
 λmain T b k cs hT hk hr hc=>.go rfl λv1 w m=>by
  refine ⟨_,_,⟨{ w with drawn:=w.drawn + 1 },#[],?_,?_,⟨?_,λ_ _ _ _=>rfl,λ_ k _ _=>.refl k _,rfl,rfl,rfl⟩,by simp⟩,h v1 m.grow m.nv (v1.tape v1.drawn (.order b.fn id)) main T b k cs hT hk hr hc⟩
  ·rw [X1,m.gy.tape,m.gy.drawn]
  ·exact ⟨aA _,rfl,rfl,rfl,Nat.le_succ _,λ_ _ _=>rfl,λ_ _ h _=>h,λ_ _ x h=>⟨x,h⟩,λ_ h=>h,λh=>h,λ_ _ h h'=>ur h h'⟩
  ·exact ⟨m.gy.size,m.gy.tape,by simp [m.gy.drawn],m.gy.os,m.gy.output,m.gy.iL,m.gy.slot,m.gy.ro⟩
end
structure ja where
 M:Nat->Prop
 Q:Ending->World->Prop
variable {Q:Exit->Act->World->Prop}
instance:CoeFun ja (λ_=>Ending->World->Prop):=⟨ja.Q⟩
structure Leaves (P:Program) (pm:Nat->Prop) (f:Nat) (fr:Frame) (val:Value) (v:World):Prop where
 mode:fr.mode = .returning
 defers:fr.defers = []
 res:∃ fn,P.funcs[fr.fn]? = some fn /\ ∀ v1,df v v1->cI v1->(results fn fr.tmps).wpS P pm f (λx v2=>x = val /\ v2 = v1) v1
theorem Leaves.grow {f:Nat} {fr:Frame} {val:Value} {v1:World} (h:Leaves P pm f fr val v) (hg:df v v1):Leaves P pm f fr val v1 :=
 ⟨h.mode,h.defers,let ⟨fn,h1,h2⟩:=h.res; ⟨fn,h1,λv2 hg2=>h2 v2 (hg.trans hg2)⟩⟩
def YL (P:Program) (pm:Nat->Prop) (f:Nat) (kind:CallKind) (cs:List Frame) (R:Value->World->Prop) (g:Goroutine) (v:World):Prop :=
 ∃ fr val v0,g = G fr cs /\ fr.kind = kind /\ R val v0 /\ df v0 v /\ Leaves P pm f fr val v
theorem YL.closed {f:Nat} {kind:CallKind}:Closed (YL P pm f kind cs R):=by
 rintro g v v1 ⟨fr,val,v0,h1,h2,h3,h4,h5⟩ hg;exact ⟨fr,val,v0,h1,h2,h3,h4.trans hg,h5.grow hg⟩
abbrev tI (v:World) (M:Nat->Prop):Nat->Prop:=λb=>v.heap.size <= b \/ M b
def iQ (X:Ext) (fr:Nat) (P:Program) (f:FuncId) (args:Array Value) (v:World) (R:ja):Prop :=
 ∀ (main:Bool) (kind:CallKind) (cs:List Frame),kind ≠ .early->eB X P main (tI v R.M) fr (YL P (tI v R.M) fr kind cs (λval v'=>R.Q (.returned val) v')) (G (Frame.enter P f args kind) cs) v
def Calls (P:Program) (f:FuncId) (args:Array Value) (v:World) (R:ja):Prop:=∀ X fr,fr <= v.heap.size->(∀ b,R.M b->fr <= b)->iQ X fr P f args v R
theorem iQ.mono {f:FuncId} {R R':ja} (h:iQ X fr P f args v R) (hM:∀ b,R.M b->R'.M b) (hQ:∀ e v',R.Q e v'->R'.Q e v'):iQ X fr P f args v R':=λmain kind cs hk=>by
 have hp:∀ b,tI v R.M b->tI v R'.M b:=λb hb=>hb.imp id (hM b)
 refine ((h main kind cs hk).uq hp).bind ?_;rintro g v1 ⟨fr,val,v0,h1,h2,h3,h4,h5⟩;refine .stop ⟨fr,val,v0,h1,h2,hQ _ _ h3,h4,h5.mode,h5.defers,?_⟩;obtain⟨fn,h6,h7⟩:=h5.res;exact ⟨fn,h6,λv2 hg hn=>gG hp _ _ (h7 v2 hg hn)⟩
def Calls.mono {P:Program} {f:FuncId} {args:Array Value} {v:World} {R R':ja} (h:Calls P f args v R) (hM:∀ b,R.M b->R'.M b) (hQ:∀ e v',R.Q e v'->R'.Q e v'):Calls P f args v R' :=
 λX fr h1 h2=>(h X fr h1 λb hb=>h2 b (hM b hb)).mono hM hQ
def LvR (P:Program) (pm:Nat->Prop) (f:Nat) (l:Nat) (cs:List Frame) (R:Value->World->Prop) (g:Goroutine) (v:World):Prop :=
 ∃ DT jump,g = G DT cs /\ DT.kind = .normal ∧
   (∀ main w x w' es,(Instr.endRound l jump).runT P w #[] = (.ok x w',es)->stepG P main (G DT cs) w = GStep.after (seen P DT.fn es) (doReturn P main DT cs none x w')) ∧
   ∀ v1,df v v1->cI v1->(Instr.endRound l jump).wpS P pm f R v1
theorem LvR.closed {f:Nat}:Closed (LvR P pm f l cs R):=by
 rintro g v v1 ⟨DT,jump,h1,h2,h3,h4⟩ hg;exact ⟨DT,jump,h1,h2,h3,λv2 hg2=>h4 v2 (hg.trans hg2)⟩
def He (X:Ext) (fr:Nat) (P:Program) (l:Nat) (f:FuncId) (tm:Array Value) (asg bd:Code) (v:World) (R:ja):Prop :=
 ∀ (main:Bool) (cs:List Frame),eB X P main (tI v R.M) fr (LvR P (tI v R.M) fr l cs (λval v'=>R.Q (.returned val) v')) (G (Frame.round l f tm asg bd .normal) cs) v
def Q8 (P:Program) (E:En) (pm:Nat->Prop) (o:Oper) (a:Act) (K:Act->World->Prop):Next->World->Prop
 | .value x,v=>K (a.put o.dst x) v
 | .skip,v=>K (a.put o.dst undef) v
 | .enter f args,v=>∃ R:ja,iQ E.X E.fr P f args v R /\ (∀ b,tI v R.M b->pm b) /\ ∀ val v',R.Q (.returned val) v'->K (a.put o.dst val) v'
 | .round l f tm asg bd,v=>∃ R:ja,He E.X E.fr P l f tm asg bd v R /\ (∀ b,tI v R.M b->pm b) /\ ∀ val v',R.Q (.returned val) v'->K (a.put o.dst val) v'
 | _,_=>False
def Om (P:Program) (E:En) (pm:Nat->Prop) (o:Oper) (a:Act) (K:Act->World->Prop) (v:World):Prop:=(execOp a.eval o).wpS P pm E.fr (λn v'=>Q8 P E pm o a K n v') v
def jA:Op->Bool
 | .defer _=>true
 | _=>false
section
variable {T:Goroutine->World->Prop}
theorem zR.grow {ops:Array Oper} {todo:List Nat} (h:zR P E pm ops todo Q a v) {v1:World} (hg:df v v1):zR P E pm ops todo Q a v1 :=
 λmain T b k cs hT hk hr hc=>(h main T b k cs hT hk hr hc).grow hT hg
theorem kT {fn:FuncId} {f:Nat} (h:∀ e ∈ es,EvS pm f v e):∀ e ∈ seen P fn es,EvS pm f v e:=λe he=>h e (oU he)
theorem mO (w:World) (ho:ops[i]? = some o) (hw:Region.wanted o (yielded ops a.tmps) = true) (hd:jA o.op = false \/ b.roundOf = none) :
 stepG P main (G (b.atR a (.inRegion ops (i :: rest) :: k)) cs) w = stepG.apply P true (b.atR a (.inRegion ops (i :: rest) :: k)) cs none (execOp a.eval o) w:=by
 have he:=py b a (.inRegion ops (i :: rest) :: k);have e1:stepG P main (G (b.atR a (.inRegion ops (i :: rest) :: k)) cs) w = stepG.oper P true (b.atR a (.inRegion ops (i :: rest) :: k)) cs none w:=by
  simp [G,stepG,stepG.exec,Frame.atR,ho,hw]
 rw [e1];unfold stepG.oper;have e2:(b.atR a (.inRegion ops (i :: rest) :: k)).oper? = some o:=by simp [Frame.oper?,Frame.atR,ho]
 rw [e2];simp only [he]
 rcases hd with hd | hd
 ·cases g9:o.op <;> first
   | (rw [g9] at hd; cases hd; done)
   | (cases b.roundOf <;> simp [Frame.atR])
 ·have e3:(b.atR a (.inRegion ops (i :: rest) :: k)).roundOf = none:=hd;rw [e3]
theorem EX (ho:ops[i]? = some o) (hw:Region.wanted o (yielded ops a.tmps) = true) (hd:jA o.op = false \/ E.Wv = none)
 (h:∀ v1,df v v1->cI v1->Om P E pm o a (λa' v'=>zR P E pm ops rest Q a' v') v1):zR P E pm ops (i :: rest) Q a v:=λmain T b k cs hT hk hr hc=>.go rfl λv1 w m=>by
 have hd':jA o.op = false \/ b.roundOf = none:=hd.imp id (λh=>by rw [hr,h]);have hk':((b.atR a (.inRegion ops (i :: rest) :: k)).kind == CallKind.early) = false:=by simpa [Frame.atR] using hk
 have hfin:∀ x,(b.atR a (.inRegion ops (i :: rest) :: k)).finish x = b.atR (a.put o.dst x) (.inRegion ops rest :: k):=λx=>by rw [eP,ho]; rfl
 obtain⟨n,v',es,h3,h4,h6,real⟩:=eG _ v1 (h v1 m.grow m.nv);obtain⟨w',g1,g2⟩:=real w #[] m.gy;rw [di] at g1;cases n <;> try exact h3.elim
 case value x =>
  refine ⟨G (b.atR (a.put o.dst x) (.inRegion ops rest :: k)) cs,v',⟨w',seen P b.fn es,?_,h4,g2,kT h6⟩,h3 main T b k cs hT hk hr hc⟩;rw [mO w ho hw hd',<- hfin x];unfold stepG.apply;simp only [if_true,g1,hk',aI,cD];simp [GStep.after,G,Frame.atR]
 case skip =>
  refine ⟨G (b.atR (a.put o.dst undef) (.inRegion ops rest :: k)) cs,v',⟨w',seen P b.fn es,?_,h4,g2,kT h6⟩,h3 main T b k cs hT hk hr hc⟩;rw [mO w ho hw hd',<- hfin undef];unfold stepG.apply;simp only [if_true,g1,hk',aI,cD];simp [GStep.after,G,Frame.atR]
 case enter f args =>
  obtain⟨R,hC,hp,hK⟩:=h3;refine ⟨G (Frame.enter P f args .normal) (b.atR a (.inRegion ops (i :: rest) :: k) :: cs),v',⟨w',seen P b.fn es,?_,h4,g2,kT h6⟩,?_⟩
  ·rw [mO w ho hw hd'];unfold stepG.apply;simp only [if_true,g1,hk',aI,cD];simp [GStep.after,G,Frame.atR]
  ·refine ((hC main .normal _ (by decide)).uq hp).bind ?_;rintro g v2 ⟨fr,val,v0,rfl,NL,hR,PD,hL⟩;refine .go rfl λv3 w3 m3=>⟨G (b.atR (a.put o.dst val) (.inRegion ops rest :: k)) cs,v3,?_,((hK val v0 hR).grow (PD.trans m3.grow)) main T b k cs hT hk hr hc⟩
   obtain⟨fn,hfn,Lr⟩:=hL.res;obtain⟨x,v',new,⟨rfl,rfl⟩,q4,q6,qr⟩:=eG _ v3 (gG hp _ _ (Lr v3 m3.grow m3.nv));obtain⟨w',q2,q5⟩:=qr w3 #[] m3.gy;rw [di] at q2;refine ⟨w',seen P fr.fn new,?_,.refl _ _,q5,kT q6⟩;rw [<- hfin x];simp only [G,stepG,hL.mode,unwind,hL.defers,hfn];rw [q2];simp [GStep.after,doReturn,NL,seen]
 case round l f tm asg bd =>
  obtain⟨R,hC,hp,hK⟩:=h3;refine ⟨G (Frame.round l f tm asg bd .normal) (b.atR a (.inRegion ops (i :: rest) :: k) :: cs),v',⟨w',seen P b.fn es,?_,h4,g2,kT h6⟩,?_⟩
  ·rw [mO w ho hw hd'];unfold stepG.apply;simp only [if_true,g1,hk',aI,cD];simp [GStep.after,G,Frame.atR]
  ·refine ((hC main _).uq hp).bind ?_;rintro g v2 ⟨DT,jump,rfl,NL,hst,hL⟩;refine .go rfl λv3 w3 m3=>?_
   obtain⟨x,v',new,hR,q4,q6,qr⟩:=eG _ v3 (gG hp _ _ (hL v3 m3.grow m3.nv));obtain⟨w',q2,q5⟩:=qr w3 #[] m3.gy;rw [di] at q2;refine ⟨G (b.atR (a.put o.dst x) (.inRegion ops rest :: k)) cs,v',⟨w',seen P DT.fn new,?_,q4,q5,kT q6⟩,(hK x v' hR) main T b k cs hT hk hr hc⟩;rw [hst main w3 x w' new q2,<- hfin x];simp [GStep.after,doReturn,NL,G]
end
def wR (P:Program) (fr:Nat) (fn:Func) (pm:Nat->Prop) (R:ja) (tm:Array Value):List Deferred->World->Prop
 | [],v=>∃ val,(∀ v1,df v v1->cI v1->(results fn tm).wpS P pm fr (λx v2=>x = val /\ v2 = v1) v1) /\ R.Q (.returned val) v
 | d :: ds,v=>∃ D,d = { target:=.collected D,args:=#[] } /\ ∀ v1,df v v1->cI v1->(Instr.takeDeferred D).wpS P pm fr (λcalls v2=>calls = [] /\ wR P fr fn pm R tm ds v2) v1
def AA (P:Program) (fr:Nat) (fn:Func) (pm:Nat->Prop) (R:ja):Exit->Act->World->Prop
 | .normal,a,v | .ret,a,v=>wR P fr fn pm R a.tmps a.defers v
 | _,_,_=>False
theorem NX {D:Nat} {ds calls:List Deferred} (h:(Instr.takeDeferred D).runT P w #[] = (.ok calls w',es)) :
 stepG P main (G { b.atR ⟨a.tmps,{ target:=.collected D,args:=#[] } :: ds⟩ k with mode:=.returning } cs) w = .go (G { b.atR ⟨a.tmps,calls ++ ds⟩ k with mode:=.returning } cs) w' (seen P b.fn es):=by
 simp [G,stepG,Frame.atR,unwind,h,GStep.after,-Sem.runT_eq]
def oC (f:FuncId) (kind:CallKind):Frame:={ (default:Frame) with fn:=f,kind:=kind }
theorem JC {f:FuncId} {fn:Func} {R:ja} (hf:P.funcs[f]? = some fn) (hb:fn.body = some c)
 (h:c.vp P ⟨X,fr,none⟩ (tI v R.M) (AA P fr fn (tI v R.M) R) { tmps:=args ++ Array.replicate (fn.ntmps - args.size) undef,defers:=[] } v):iQ X fr P f args v R:=λmain kind cs hk=>by
 have e:Frame.enter P f args kind = (oC f kind).atR { tmps:=args ++ Array.replicate (fn.ntmps - args.size) undef,defers:=[] } [.code c]:=by
  simp [Frame.enter,Frame.atR,hf,hb,oC]
  rfl
 rw [e];have lv:∀ (ds:List Deferred) (tm:Array Value) (v':World) (todo:List Item),wR P fr fn (tI v R.M) R tm ds v' ->
     eB X P main (tI v R.M) fr (YL P (tI v R.M) fr kind cs (λval v'=>R.Q (.returned val) v')) (G { (oC f kind).atR ⟨tm,ds⟩ todo with mode:=.returning } cs) v':=by
  intro ds
  induction ds with
  | nil =>
    rintro tm v' todo ⟨val,hr,hR⟩;exact .stop ⟨_,val,v',rfl,rfl,hR,.refl _,⟨rfl,rfl,fn,hf,hr⟩⟩
  | cons d ds ih =>
    rintro tm v' todo ⟨D,rfl,hD⟩;refine .go rfl λv3 w3 m3=>?_
    obtain⟨calls,v4,new,⟨rfl,hL⟩,q4,q6,qr⟩:=eG _ v3 (hD v3 m3.grow m3.nv);obtain⟨w',q2,q5⟩:=qr w3 #[] m3.gy;rw [di] at q2;exact ⟨_,v4,⟨w',_,NX (a:=⟨tm,[]⟩) q2,q4,q5,kT q6⟩,ih tm v4 todo hL⟩
 refine h main _ (oC f kind) [] cs YL.closed hk rfl λe a v' q=>?_
 cases e with
 | normal=>exact .ctl YL.closed rfl (λw=>GS w rfl) (lv a.defers a.tmps v' _ q)
 | ret=>exact λk'=>.ctl YL.closed rfl (λw=>LG w rfl) (lv a.defers a.tmps v' _ q)
 | exit id=>trivial
 | goto l=>trivial
 | panic ch=>trivial
 | outgrown=>trivial
def MA (P:Program) (E:En) (pm:Nat->Prop) (ops:Array Oper) (i:Nat) (K:Act->World->Prop) (a:Act) (v:World):Prop :=
 ∃ o,ops[i]? = some o /\ ((Region.wanted o (yielded ops a.tmps) = true /\ (jA o.op = false \/ E.Wv = none) /\ ∀ v1,df v v1->cI v1->Om P E pm o a K v1) \/ (Region.wanted o (yielded ops a.tmps) = false /\ K (a.put o.dst undef) v))
def sX (P:Program) (E:En) (pm:Nat->Prop) (ops:Array Oper) (S:World->Prop) (o:Oper) (x:Value) (a:Act):Prop :=
 (Region.wanted o (yielded ops a.tmps) = true /\ jA o.op = false /\ ∀ v,S v->cI v->(execOp a.eval o).wpS P pm E.fr (λn v'=>n = .value x /\ v' = v) v) \/ (Region.wanted o (yielded ops a.tmps) = false /\ x = undef)
def xz (P:Program) (E:En) (pm:Nat->Prop) (md:Region.Mode) (ops:Array Oper) (Q:Exit->Act->World->Prop) (S:World->Prop):Nat->Array Bool->Act->World->Prop
 | 0,listed,a,v=>Region.ready md ops listed = [] /\ ∀ v1,df v v1->Q .normal a v1
 | fuel + 1,listed,a,v=>(Region.ready md ops listed = []->∀ v1,df v v1->Q .normal a v1) ∧
  ∀ i ∈ Region.ready md ops listed,MA P E pm ops i (λa' v'=>S v' /\ ∀ v2,df v' v2->xz P E pm md ops Q S fuel (listed.setIfInBounds i true) a' v2) a v
section
variable {md:Region.Mode} {S:World->Prop}
theorem Kk (h:∀ a v,K a v->K' a v) {n:Next} (hh:Q8 P E pm o a K n v):Q8 P E pm o a K' n v:=by
 cases n <;> first
  | exact h _ _ hh
  | exact hh
  | (obtain⟨R,h1,h2,h3⟩:=hh; exact ⟨R,h1,h2,λval v' q=>h _ _ (h3 val v' q)⟩)
def DL (h:∀ a v,K a v->K' a v) (hh:Om P E pm o a K v):Om P E pm o a K' v :=
 cu (λn v' q=>Kk h q) _ _ hh
theorem Qw (h:∀ a v,K a v->K' a v) (hh:MA P E pm ops i K a v):MA P E pm ops i K' a v:=by
 obtain⟨o,ho,hh⟩:=hh;exact ⟨o,ho,hh.imp (λ⟨h1,h2,h3⟩=>⟨h1,h2,λv1 hg hn=>DL h (h3 v1 hg hn)⟩) (λ⟨h1,h2⟩=>⟨h1,h _ _ h2⟩)⟩
theorem Ms:∀ (fuel t:Nat) (listed:Array Bool) (a:Act) (v:World),xz P E pm md ops Q S fuel listed a v ->
 zR P E pm ops (Region.linearise.go md ops fuel t listed []) Q a v:=by
 intro fuel
 induction fuel with
 | zero=>intro t listed a v h; simpa [Region.linearise.go] using CI (h.2 v (.refl _))
 | succ fuel ih =>
   intro t listed a v h;obtain⟨h0,h1⟩:=h
   change zR P E pm ops (match (Region.ready md ops listed)[t % (Region.ready md ops listed).length]? with
    | some i=>Region.linearise.go md ops fuel (t / (Region.ready md ops listed).length) (listed.setIfInBounds i true) [i]
    | none=>[].reverse) Q a v
   cases hi:(Region.ready md ops listed)[t % (Region.ready md ops listed).length]? with
   | none =>
     have hnil:Region.ready md ops listed = []:=by
      by_cases hr:Region.ready md ops listed = []
      ·exact hr
      ·exfalso;have hlt:t % (Region.ready md ops listed).length < (Region.ready md ops listed).length:=jY _ (lV.2 hr);rw [bW hlt] at hi;cases hi
     simpa using CI (h0 hnil v (.refl _))
   | some i =>
     simp only [];rw [linearise_go_acc,nJ,List.singleton_append];obtain⟨o,ho,hh⟩:=h1 i (ai hi)
     rcases hh with ⟨hw,hd,hx⟩ | ⟨hw,hx⟩
     ·exact EX ho hw hd (λv1 hg hn=>DL (λa' v' x=>ih _ _ a' v' (x.2 v' (.refl _))) (hx v1 hg hn))
     ·exact xK ho hw (ih _ _ _ _ (hx.2 v (.refl _)))
theorem sX.same {a':Act} (hy:sX P E pm ops S o x a) (he:execOp a'.eval o = execOp a.eval o) (hw:Region.wanted o (yielded ops a'.tmps) = Region.wanted o (yielded ops a.tmps)):sX P E pm ops S o x a':=by
 unfold sX;rw [he,hw];exact hy
theorem xz.grow:∀ (fuel:Nat) (listed:Array Bool) (a:Act) (v v1:World),(∀ v v1,S v->df v v1->S v1)->xz P E pm md ops Q S fuel listed a v->df v v1->xz P E pm md ops Q S fuel listed a v1
 | 0,_,_,_,_,_,h,hg=>⟨h.1,λv2 hg2=>h.2 v2 (hg.trans hg2)⟩
 | fuel + 1,listed,a,v,v1,hS,h,hg=>⟨λe v2 hg2=>h.1 e v2 (hg.trans hg2),λi hi=>by
  obtain⟨o,ho,hh⟩:=h.2 i hi;refine ⟨o,ho,hh.imp (λ⟨h1,h2,h3⟩=>⟨h1,h2,λv2 hg2 hn=>h3 v2 (hg.trans hg2) hn⟩) (λ⟨h1,h2⟩=>⟨h1,hS _ _ h2.1 hg,λv2 hg2=>h2.2 v2 (hg.trans hg2)⟩)⟩⟩
theorem U3 {j:Nat} {oj:Oper} (hj:ops[j]? = some oj) (hap:oi.apart ops oj = true)
 (hsi:∀ cs b,oi.op ≠ .select cs b) (hsj:∀ cs b,oj.op ≠ .select cs b)
 (hy:sX P E pm ops S oi x a) (h:MA P E pm ops j K (a.put oi.dst x) v):MA P E pm ops j (λa' v'=>sX P E pm ops S oi x a' /\ K (a'.put oi.dst x) v') a v:=by
 obtain⟨h1,h2,h3⟩:=Oper.apart_spec hap;have keep:∀ u,sX P E pm ops S oi x (a.put oj.dst u):=λu=>hy.same (execOp_put oi hsi a oj.dst u h3) (wanted_put oi a oj.dst u h3)
 obtain⟨o,ho,hh⟩:=h;rw [hj] at ho;obtain rfl:=ak ho;rw [wanted_put oj a oi.dst x h1] at hh;refine ⟨oj,hj,hh.imp (λ⟨g1,g2,g3⟩=>⟨g1,g2,λv1 hg hn=>?_⟩) (λ⟨g1,g2⟩=>⟨g1,keep undef,?_⟩)⟩
 ·have g4:=g3 v1 hg hn;unfold Om at g4 ⊢;rw [execOp_put oj hsj a oi.dst x h1] at g4;refine cu (λn v' q=>?_) _ _ g4;cases n <;> first
   | exact q.elim
   | exact ⟨keep _,by rw [<- rk a x _ h2]; exact q⟩
   | (obtain⟨R,q1,q2,q3⟩:=q; exact ⟨R,q1,q2,λval v' hR=>⟨keep _,by rw [<- rk a x _ h2]; exact q3 val v' hR⟩⟩)
 ·rw [<- rk a x undef h2];exact g2
theorem sX.aft (hi:ops[i]? = some o) (hy:sX P E pm ops S o x a) (hS:∀ v1,df v v1->S v1) (h:∀ v1,df v v1->K (a.put o.dst x) v1):MA P E pm ops i K a v:=by
 refine ⟨o,hi,?_⟩
 rcases hy with ⟨hw,hd,hv⟩ | ⟨hw,rfl⟩
 ·refine .inl ⟨hw,.inl hd,λv1 hg hn=>cu (λn v' q=>?_) _ _ (hv v1 (hS v1 hg) hn)⟩;obtain⟨rfl,rfl⟩:=q;exact h _ hg
 ·exact .inr ⟨hw,h v (.refl _)⟩
theorem Mt (XI:∀ v v1,S v->df v v1->S v1) (hi:ops[i]? = some oi) (afV:∀ (j:Nat) (o:Oper) cs b,ops[j]? = some o->o.op ≠ .select cs b) :
 ∀ (fuel:Nat) (listed:Array Bool) (a:Act) (v:World),
   (∀ j oj,ops[j]? = some oj->j ≠ i->listed.getD j true = false->(∀ e ∈ oj.after,Region.binds md e = true->e.on ≠ i)->oi.apart ops oj = true) ->
   i ∈ Region.ready md ops listed->sX P E pm ops S oi x a->S v ->
   xz P E pm md ops Q S fuel (listed.setIfInBounds i true) (a.put oi.dst x) v->xz P E pm md ops Q S (fuel + 1) listed a v:=by
 intro fuel
 induction fuel with
 | zero =>
   intro listed a v _ hr hy hS H;refine ⟨λh=>(by grind),λj hj=>?_⟩
   by_cases hji:j = i
   ·subst hji;exact hy.aft hi (λv1 hg=>XI _ _ hS hg) (λv1 hg=>⟨XI _ _ hS hg,λv2 hg2=>xz.grow _ _ _ _ _ XI H (hg.trans hg2)⟩)
   ·have:=ready_mono hj hji;rw [H.1] at this
    grind
 | succ fuel ih =>
   intro listed a v ZS hr hy hS H;refine ⟨λh=>(by grind),λj hj=>?_⟩
   by_cases hji:j = i
   ·subst hji;exact hy.aft hi (λv1 hg=>XI _ _ hS hg) (λv1 hg=>⟨XI _ _ hS hg,λv2 hg2=>xz.grow _ _ _ _ _ XI H (hg.trans hg2)⟩)
   ·have h1:=H.2 j (ready_mono hj hji);obtain⟨af7,oj,hoj,pM⟩:=mem_ready.1 hj;have hnot:∀ e ∈ oj.after,Region.binds md e = true->e.on ≠ i:=λe he hb heq=>by
     have h1:=pM e he hb;have h0:=(mem_ready.1 hr).1;rw [heq] at h1
     by_cases hlt:i < listed.size
     ·simp only [eu,aX hlt,dM] at h0 h1;rw [h1] at h0;cases h0
     ·simp [eu,c8 (Nat.le_of_not_lt hlt)] at h1
    have h2:=U3 hoj (ZS j oj hoj hji af7 hnot) (λcs b=>afV i oi cs b hi) (λcs b=>afV j oj cs b hoj) hy h1;have hfree':∀ k ok,ops[k]? = some ok->k ≠ i->(listed.setIfInBounds j true).getD k true = false->(∀ e ∈ ok.after,Region.binds md e = true->e.on ≠ i)->oi.apart ops ok = true:=λk ok hk hki QG hno=>by
     refine ZS k ok hk hki ?_ hno
     by_cases hjk:j = k
     ·subst hjk; exact af7
     ·rw [getD_set_ne true hjk] at QG; exact QG
    refine Qw (λa' v' h3=>⟨h3.2.1,λv2 hg2=>ih (listed.setIfInBounds j true) a' v2 hfree' (ready_mono hr (cN hji)) h3.1 (XI _ _ h3.2.1 hg2) ?_⟩) h2;rw [Array.setIfInBounds_comm _ _ hji]
    grind
theorem AD (XI:∀ v v1,S v->df v v1->S v1) (hi:ops[i]? = some oi)
 (hs:Region.noSelect ops = true) (hf:Region.free md ops listed i = true) (hr:(Region.ready md ops listed).contains i = true) (hy:sX P E pm ops S oi x a) (hS:S v)
 (h:xz P E pm md ops Q S fuel (listed.setIfInBounds i true) (a.put oi.dst x) v):xz P E pm md ops Q S (fuel + 1) listed a v :=
 Mt XI hi (Region.noSelect_spec hs) fuel listed a v (Region.free_spec hi hf) (by grind) hy hS h
def UN {rs:List Nat} (hr:Region.ready md ops listed = rs) (hne:rs ≠ [])
    (h:∀ i ∈ rs,MA P E pm ops i (λa' v'=>S v' /\ ∀ v2,df v' v2->xz P E pm md ops Q S fuel (listed.setIfInBounds i true) a' v2) a v):xz P E pm md ops Q S (fuel + 1) listed a v :=
 ⟨λh0=>absurd (hr ▸ h0) hne,hr ▸ h⟩
theorem Qp (hr:Region.ready md ops listed = []) (h:∀ v1,df v v1->Q .normal a v1):∀ fuel,xz P E pm md ops Q S fuel listed a v
 | 0=>⟨hr,h⟩
 | _ + 1=>⟨λ_=>h,λi hi=>by grind⟩
theorem Bi (hm:P.follows .mixedOrders = true)
 (h:∀ v1,df v v1->cI v1->xz P E pm .any ops Q S ops.size (Array.replicate ops.size false) a { v1 with drawn:=v1.drawn + 1 }):(Code.region id ops true).vp P E pm Q a v :=
 Hr λv1 hg hn t=>by
  simp only [Region.schedule,hm,rj,if_true];exact Ms ops.size t _ a _ (h v1 hg hn)
end
theorem TC (hb:b.roundOf = some l) (hk:b.kind ≠ .early) (h:(Instr.beginRound l).runT P w #[] = (.ok () w',es)) :
 stepG P main (G (b.atR a (.beginRound :: k)) cs) w = .go (G (b.atR a k) cs) w' (seen P b.fn es):=by
 have hk':(b.kind == CallKind.early) = false:=by simpa using hk
 have e1:((Instr.beginRound l >>= λ_=>(pure Next.skip:Sem Next)).runT P w #[]) = (.ok .skip w',es):=by
  show ((Instr.beginRound l).bind λ_=>Sem.pure Next.skip).runT P w #[] = _;rw [Sem.runT_bind',h];simp [Sem.runT,-Sem.runT_eq]
 simp only [G,stepG,stepG.exec,Frame.atR,hb];show stepG.apply P true _ _ _ (Instr.beginRound l >>= λ_=>pure Next.skip) w = _;unfold stepG.apply;simp only [if_true,e1,hk',aI,cD]
 rfl
theorem PI (hb:b.roundOf = some l) (h:(Instr.endRound l none).runT P w #[] = (.ok x w',es)):stepG P main (G (b.atR a []) cs) w = GStep.after (seen P b.fn es) (doReturn P main (b.atR a []) cs none x w'):=by
 simp [G,stepG,stepG.exec,Frame.atR,hb,h,-Sem.runT_eq]
theorem IV (hb:b.roundOf = some l) (h:(Instr.endRound l (some .ret)).runT P w #[] = (.ok x w',es)):stepG P main (G (b.atR a (.code .ret :: k)) cs) w = GStep.after (seen P b.fn es) (doReturn P main (b.atR a (.code .ret :: k)) cs none x w'):=by
 simp [G,stepG,stepG.exec,Frame.atR,hb,h,-Sem.runT_eq]
theorem PG (hb:b.roundOf = some l) (he:exitTo id k = none) (h:(Instr.endRound l (some (.exit id))).runT P w #[] = (.ok x w',es)):stepG P main (G (b.atR a (.code (.exit id) :: k)) cs) w = GStep.after (seen P b.fn es) (doReturn P main (b.atR a (.code (.exit id) :: k)) cs none x w'):=by
 simp [G,stepG,stepG.exec,Frame.atR,hb,h,he,-Sem.runT_eq]
def aaV (P:Program) (fr:Nat) (l:Nat) (pm:Nat->Prop) (R:ja):Exit->Act->World->Prop
 | .normal,_,v=>∀ v1,df v v1->cI v1->(Instr.endRound l none).wpS P pm fr (λx v2=>R.Q (.returned x) v2) v1
 | .ret,_,v=>∀ v1,df v v1->cI v1->(Instr.endRound l (some .ret)).wpS P pm fr (λx v2=>R.Q (.returned x) v2) v1
 | .exit id,_,v=>∀ v1,df v v1->cI v1->(Instr.endRound l (some (.exit id))).wpS P pm fr (λx v2=>R.Q (.returned x) v2) v1
 | _,_,_=>False
def JJ (l:Nat) (f:FuncId):Frame:={ (default:Frame) with fn:=f,kind:=.normal,roundOf:=some l }
theorem F7 {f:FuncId} {tm:Array Value} {asg:Code} {R:ja}
 (h:asg.vp P ⟨X,fr,some l⟩ (tI v R.M) (λe a v'=>e = .normal /\ ∀ v1,df v' v1->cI v1->(Instr.beginRound l).wpS P (tI v R.M) fr (λ_ v2=>bd.vp P ⟨X,fr,some l⟩ (tI v R.M) (aaV P fr l (tI v R.M) R) a v2) v1) ⟨tm,[]⟩ v) :
 He X fr P l f tm asg bd v R:=λmain cs=>by
 refine h main _ (JJ l f) [.beginRound,.code bd] cs LvR.closed (by simp [JJ]) rfl ?_;rintro e a v' ⟨rfl,hq⟩;refine .go rfl λv3 w3 m3=>?_
 have⟨_,v4,new,ZT,q4,q6,qr⟩:=eG _ v3 (hq v3 m3.grow m3.nv);have⟨w',q2,q5⟩:=qr w3 #[] m3.gy;rw [di] at q2;refine ⟨_,v4,⟨w',_,TC rfl (by simp [JJ]) q2,q4,q5,kT q6⟩,?_⟩;refine ZT main _ (JJ l f) [] cs LvR.closed (by simp [JJ]) rfl λe a v5 hp=>?_
 cases e with
 | normal=>exact .stop ⟨_,none,rfl,rfl,λmain w x w' es hr=>PI rfl hr,hp⟩
 | ret=>exact λk'=>.stop ⟨_,some .ret,rfl,rfl,λmain w x w' es hr=>IV rfl hr,hp⟩
 | exit id =>
   refine ⟨λk' hk'=>by trivial,λ_ k' hk'=>.stop ⟨_,some (.exit id),rfl,rfl,λmain w x w' es hr=>PG rfl hk' hr,hp⟩⟩
 | goto l=>trivial
 | panic ch=>trivial
 | outgrown=>trivial
theorem GR {f:Operand} (hb:b.roundOf = none) (hk:b.kind ≠ .early) {mark:List Deferred} {w1 w2:World} {es1 es2:Array Event} {fi:FuncId}
 (h1:(Instr.enterLoop b.fn a.tmps ps ac bd none).runT P w #[] = (.ok (l,mark) w1,es1))
 (h2:(do let d <- resolve a.eval { callee:=.value f,args:=#[.const (.func (.yield l) #[] #[])],argTypes:=#[] } 0; invoke d.target d.args:Sem Next).runT P w1 #[] = (.ok (.enter fi args) w2,es2)) :
 stepG P main (G (b.atR a (.code (.rangeFunc f ps ac bd) :: k)) cs) w = .go (G (Frame.enter P fi args .normal) (b.atR ⟨a.tmps,mark ++ a.defers⟩ (.inRangeFunc l :: k) :: cs)) w2 (seen P b.fn es1 ++ seen P b.fn es2):=by
 have hk':(b.kind == CallKind.early) = false:=by simpa using hk
 have he:(b.atR ⟨a.tmps,mark ++ a.defers⟩ (.inRangeFunc l :: k)).eval = a.eval:=by rw [py]; rfl
 simp only [G,stepG,stepG.exec,Frame.atR,hb] at he ⊢;simp only [h1];unfold stepG.apply;simp only [if_true,hk',aI,cD,he];rw [h2]
 rfl
theorem IW {j:Option Code} (h:(Instr.endLoop l).runT P w #[] = (.ok j w',es)) :
 stepG P main (G (b.atR a (.endRangeFunc l :: k)) cs) w = .go (G (b.atR a ((j.map Item.code).toList ++ k)) cs) w' (seen P b.fn es):=by
 simp [G,stepG,stepG.exec,Frame.atR,h,GStep.after,-Sem.runT_eq]
theorem DW {f:Operand} (ajm:E.Wv = none)
 (h:∀ fn v1,df v v1->cI v1->(Instr.enterLoop fn a.tmps ps ac bd none).wpS P pm E.fr (λr v2 =>
  (do let d <- resolve a.eval { callee:=.value f,args:=#[.const (.func (.yield r.1) #[] #[])],argTypes:=#[] } 0; invoke d.target d.args:Sem Next).wpS P pm E.fr (λn v3=>∃ fi args,n = .enter fi args ∧
   ∃ R:ja,iQ E.X E.fr P fi args v3 R /\ (∀ b,tI v3 R.M b->pm b) /\ ∀ val v4,R.Q (.returned val) v4->∀ v5,df v4 v5->cI v5 ->
     (Instr.endLoop r.1).wpS P pm E.fr (λj v6=>(j = none /\ Q .normal ⟨a.tmps,r.2 ++ a.defers⟩ v6) \/ ∃ c,j = some c /\ c.vp P E pm Q ⟨a.tmps,r.2 ++ a.defers⟩ v6) v5) v2) v1) :
 (Code.rangeFunc f ps ac bd).vp P E pm Q a v:=λmain T b k cs hT hk hr hc=>.go rfl λv1 w m=>by
 have hb:b.roundOf = none:=by rw [hr,ajm]
 have⟨⟨l,mark⟩,v2,es1,h3,t1,ev1,ae2⟩:=eG _ v1 (h b.fn v1 m.grow m.nv);have⟨w1,g1,b1⟩:=ae2 w #[] m.gy;obtain⟨n,v3,es2,⟨fi,args,rfl,R,hC,hp,hK⟩,t2,ev2,ae1⟩:=eG _ v2 h3;have⟨w2,g2,b2⟩:=ae1 w1 #[] b1.gy;rw [di] at g1 g2;refine ⟨_,v3,⟨w2,_,GR hb hk g1 g2,t1.trans t2,b1.trans t1 b2,λe he=>?_⟩,?_⟩
 ·rcases gZ.1 he with he | he
  ·exact (ev1 e (oU he)).mono t2
  ·exact ev2 e (oU he)
 ·refine ((hC main .normal _ (by decide)).uq hp).bind ?_;rintro g v4 ⟨DT,val,v0,rfl,NL,hR,PD,hL⟩;refine .go rfl λv5 w5 m5=>?_
  have⟨fn,hfn,Lr⟩:=hL.res;obtain⟨x,v',new,⟨rfl,rfl⟩,q4,q6,qr⟩:=eG _ v5 (gG hp _ _ (Lr v5 m5.grow m5.nv));have⟨w',q2,q5⟩:=qr w5 #[] m5.gy;refine ⟨G (b.atR ⟨a.tmps,mark ++ a.defers⟩ (.endRangeFunc l :: k)) cs,v',⟨w',seen P DT.fn new,?_,.refl _ _,q5,kT q6⟩,?_⟩
  ·simp only [G,stepG,hL.mode,unwind,hL.defers,hfn]
   grind [GStep.after,doReturn,seen,Frame.finish,Frame.atR]
  ·refine .go rfl λv6 w6 m6=>?_
   have⟨j,v7,new,hj,q4,q6,qr⟩:=eG _ v6 (hK _ _ hR v6 ((PD.trans m5.grow).trans m6.grow) m6.nv);have⟨w',q2,q5⟩:=qr w6 #[] m6.gy;rw [di] at q2;refine ⟨_,v7,⟨w',_,IW q2,q4,q5,kT q6⟩,?_⟩
   rcases hj with ⟨rfl,hq⟩ | ⟨c,rfl,hq⟩
   ·exact hc _ _ _ hq
   ·exact hq main T b k cs hT hk hr hc
open Go.RowKit
def Tm (P:Program) (pm:Nat->Prop) (fr:Nat) (e:Sem α):Prop:=∀ v,cI v->∀ a v',e.run P v = .ok a v'->e.wpS P pm fr (λb v2=>b = a /\ v2 = v') v
def wS (P:Program) (e:Sem α):Prop:=∀ v a v',e.run P v ≠ .ok a v'
def Tm.dead (h:wS P e):Tm P pm fr e:=λv _ a v' hr=>absurd hr (h v a v')
theorem wS.halt (h:Halt):wS P (Sem.halt h:Sem α):=λv a v' hr=>by trivial
theorem wS.bind (h:wS P e) (f:α->Sem β):wS P (e >>= f):=λv a v' hr=>by
 cases hx:e.run P v with
 | ok b w=>exact h v b w hx
 | halt x w=>simp_all
theorem wS.behind (h:∀ a,wS P (f a)):wS P (e >>= f):=λv a v' hr=>by
 rw [ay] at hr;cases hx:e.run P v with
 | ok b w=>rw [hx] at hr; exact h b w a v' hr
 | halt x w=>simp_all
def Tm.halt (h:Halt):Tm P pm fr (Sem.halt h:Sem α):=.dead (.halt h)
def Tm.stuck (s:String):Tm P pm fr (Go.stuck s:Sem α):=.halt _
def Tm.mc (u:Unsupported):Tm P pm fr (Go.unsupported u:Sem α):=.halt _
def wS.mc (u:Unsupported):wS P (Go.unsupported u:Sem α):=.halt _
def wS.stuck (s:String):wS P (Go.stuck s:Sem α):=.halt _
theorem Tm.pure (a:α):Tm P pm fr (Pure.pure a:Sem α):=λv _ b v' hr=>by
 cases hr
 trivial
theorem Tm.nv {e:Sem α} (h:Tm P pm fr e) {v v':World} {a:α} (hn:cI v) (hr:e.run P v = .ok a v'):cI v':=by
 obtain⟨b,v2,new,⟨_,rfl⟩,t,_⟩:=eG e v (h v hn a v' hr);exact t.nv hn
theorem Tm.bind (h:Tm P pm fr e) (k:∀ a,Tm P pm fr (f a)):Tm P pm fr (e >>= f):=λv hn a v' hr=>by
 rw [ay] at hr;cases hx:e.run P v with
 | halt x w=>simp_all
 | ok b w =>
   rw [hx] at hr;refine cR f e v (cu ?_ _ _ (h v hn b w hx));rintro b2 v2 ⟨rfl,rfl⟩;exact k b2 v2 (h.nv hn hx) a v' hr
theorem Tm.known {e:Sem α} {f:α->Sem β} {b:α} (h:Tm P pm fr e) (hr:∀ v,e.run P v = .ok b v) (k:Tm P pm fr (f b)):Tm P pm fr (e >>= f):=λv hn a v' hr'=>by
 rw [ay,hr v] at hr';refine cR f e v (cu ?_ _ _ (h v hn b v (hr v)));rintro b2 v2 ⟨rfl,rfl⟩;exact k v2 hn a v' hr'
theorem Tm.map {e:Sem α} (f:α->β) (h:Tm P pm fr e):Tm P pm fr (Functor.map f e):=h.bind λa=>.pure (f a)
theorem Tm.pF {f:Program->Sem β} (h:Tm P pm fr (f P)):Tm P pm fr (Go.program >>= f):=by assumption
theorem Tm.typeInfo (t:TypeId):Tm P pm fr (Go.typeInfo t):=.pF (by
 cases P.info? t with
 | none=>exact .halt _
 | some i=>exact .pure i)
theorem Tm.underlying (t:TypeId):Tm P pm fr (Go.underlying t):=.pF (by
 cases P.underlying t with
 | none=>exact .halt _
 | some i=>exact .pure i)
theorem Tm.under {d:TypeDesc} {f:TypeDesc->Sem β} (h:P.underlying t = some d) (k:Tm P pm fr (f d)):Tm P pm fr (Go.underlying t >>= f):=.known (.underlying t) (λv=>by simp [Go.underlying,h]) k
theorem Tm.info {i:TypeInfo} {f:TypeInfo->Sem β} (h:P.info? t = some i) (k:Tm P pm fr (f i)):Tm P pm fr (Go.typeInfo t >>= f):=.known (.typeInfo t) (λv=>by simp [Go.typeInfo,h]) k
theorem Tm.sizeOf (t:TypeId):Tm P pm fr (Go.sizeOf t):=.bind (.typeInfo t) λ_=>.pure _
theorem Tm.zeroValue (t:TypeId):Tm P pm fr (Go.zeroValue t):=.bind (.typeInfo t) λi=>by
 cases h:i.zero with
 | none=>simpa only [h] using .halt _
 | some v=>simpa only [h] using .pure v
theorem Tm.isAgg (t:TypeId):Tm P pm fr (Go.isAgg t):=.bind (.underlying t) λd=>by cases d <;> exact .pure _
theorem Tm.load (a:Addr):Tm P pm fr (Go.load a):=λv hn x v' hr=>by
 simp only [Go.load,Sem.run] at hr;cases hc:v.cell? a with
 | some u =>
   rw [hc] at hr;cases hr;exact ⟨.inl rfl,_,.inl hc,rfl,rfl⟩
 | none =>
   rw [hc] at hr;simp only [World.farLoad] at hr;cases hb:v.heap[a.block]? with
   | none=>grind
   | some o =>
     rw [hb] at hr;have:=hn _ _ hb;cases o <;> first | (cases hr; done) | (simp [Eb] at this)
theorem Tm.store (a:Addr) (u:Value) (hp:pm a.block) (hf:fr <= a.block):Tm P pm fr (Go.store a u):=λv hn x v' hr=>by
 have h1:u.oneCell' = true:=by cases u <;> first | rfl | (simp [Go.store,Sem.run] at hr)
 have key:(Go.store a u).run P v = match v.cell? a with
  | some _=>if v.frozen? a then .halt (.unsupported (.unsafePointer "a write to bytes that a string shares")) v else .ok () (v.setCell a u)
  | none=>match v.farStore P a u false with
    | .ok (w,_)=>.ok () w
    | .error h=>.halt h v:=by
  cases u <;> first | (simp [Value.oneCell'] at h1; done) | rfl
 rw [key] at hr;cases hc:v.cell? a with
 | some y =>
   rw [hc] at hr
   by_cases hz:v.frozen? a = true
   ·grind
   ·rw [if_neg hz] at hr;cases hr;exact ⟨h1,hp,.inl ⟨hf,⟨y,hc⟩,by grind,rfl,rfl⟩⟩
 | none =>
   rw [hc] at hr;simp only [World.farStore] at hr;cases hb:v.heap[a.block]? with
   | none=>grind
   | some o =>
     rw [hb] at hr;have:=hn _ _ hb;cases o <;> first | (cases hr; done) | (simp [Eb] at this)
theorem Tm.newObj (o:Obj) (h1:u9 o = false) (h2:Eb o = false):Tm P pm fr (Go.newObj o):=λv _ a v' hr=>by
 cases hr
 trivial
theorem Tm.newRow (t:TypeId) (cs:Array Value):Tm P pm fr (Go.newRow t cs):=.bind (.newObj _ rfl rfl) λ_=>.pure _
theorem Tm.newVar (t:TypeId) (u:Value):Tm P pm fr (Go.newVar t u):=.newRow _ _
theorem Tm.choose (q:Question):Tm P pm fr (Go.choose q):=λv _ a v' hr=>by
 simp only [Go.choose,Sem.run] at hr;simp only [Go.choose,Sem.wpS]
 grind
theorem Tm.noRoom:Tm P pm fr (Go.mark .noRoom):=λv _ a v' hr=>by
 cases hr;exact ⟨.inl rfl,rfl,rfl⟩
theorem Tm.askRoom (n:Nat):Tm P pm fr (Go.askRoom n):=by
 unfold Go.askRoom;split
 ·exact .noRoom
 ·exact .pure ()
theorem Tm.setObj (r:Nat) (o:Obj) (hp:pm r) (hf:fr <= r) (h1:u9 o = false) (h2:Eb o = false) (h3:o.isChan = false):∀ v,cI v->ny v r->∀ a v',(Go.setObj r o).run P v = .ok a v'->(Go.setObj r o).wpS P pm fr (λb v2=>b = a /\ v2 = v') v:=λv hn hv a v' hr=>by
 simp only [Go.setObj,Sem.run] at hr;cases hb:v.heap[r]? with
 | none=>grind
 | some o' =>
   rw [hb] at hr;cases o' <;> first
    | (cases hr; done)
    | (simp only [Sem.run] at hr; cases hr; exact ⟨hv,hp,hf,h1,h2,h3,⟨_,hb,by intro c e z h; cases h⟩,rfl,rfl⟩)
theorem wS.runtimePanic (e:RuntimeError):wS P (Go.runtimePanic e:Sem α):=by
 refine .behind λp=>?_
 cases e <;> first
  | exact .halt _
  | (refine .behind λ_=>?_; first | exact .halt _ | (refine .behind λ_=>?_; exact .halt _))
def Tm.runtimePanic (e:RuntimeError):Tm P pm fr (Go.runtimePanic e:Sem α):=.dead (.runtimePanic e)
theorem wS.boundsPanic (k:IntKind) (x y:Int) (c:BoundsCode):wS P (Go.boundsPanic k x y c:Sem α):=by
 unfold Go.boundsPanic;split
 ·exact .behind λ_=>.runtimePanic _
 ·exact .behind λ_=>.runtimePanic _
theorem Tm.boundsPanic (k:IntKind) (x y:Int) (c:BoundsCode):Tm P pm fr (Go.boundsPanic k x y c:Sem α):=.dead (.boundsPanic k x y c)
theorem Tm.asIntOf (u:Value):Tm P pm fr (Go.asIntOf u):=by
 unfold Go.asIntOf;split
 ·exact .pure _
 ·exact .halt _
 ·exact .halt _
def Tm.asInt (u:Value):Tm P pm fr (Go.asInt u):=.bind (.asIntOf u) λ_=>.pure _
theorem Tm.asBool (u:Value):Tm P pm fr (Go.asBool u):=by
 unfold Go.asBool;split
 ·exact .pure _
 ·exact .halt _
theorem Tm.asAgg (u:Value):Tm P pm fr (Go.asAgg u):=by
 unfold Go.asAgg;split
 ·exact .pure _
 ·exact .halt _
theorem Tm.asAddr (u:Value):Tm P pm fr (Go.asAddr u):=by
 unfold Go.asAddr;split
 ·exact .pure _
 ·exact .runtimePanic _
 ·exact .halt _
theorem Tm.sureAddr (u:Value):Tm P pm fr (Go.Instr.sureAddr u):=by
 unfold Go.Instr.sureAddr;split
 ·exact .pure _
 ·exact .halt _
theorem Tm.loadCellsFrom (a:Addr):∀ (n i:Nat) (acc:Array Value),Tm P pm fr (Go.loadCellsFrom a i n acc)
 | 0,_,acc=>.pure acc
 | n + 1,i,acc=>.bind (.load _) λ_=>Tm.loadCellsFrom a n (i + 1) _
theorem Tm.loadCells (a:Addr) (n:Nat):Tm P pm fr (Go.loadCells a n):=.loadCellsFrom a n 0 _
theorem Tm.storeCells (a:Addr) (hp:pm a.block) (hf:fr <= a.block):∀ (vs:List Value) (i:Nat),Tm P pm fr (Go.storeCells a vs i)
 | [],_=>.pure ()
 | u :: rest,i=>by
   have hb:(a.add i).block = a.block:=by unfold Addr.add; split <;> rfl
   exact .bind (.store _ _ (by grind) (by omega)) λ_=>Tm.storeCells a hp hf rest (i + 1)
theorem Tm.loadVar (t:TypeId) (a:Addr):Tm P pm fr (Go.loadVar t a):=.bind (.isAgg t) λb=>by
 cases b with
 | true=>exact .bind (.sizeOf t) λn=>.bind (.loadCells a n) λ_=>.pure _
 | false=>exact .load a
theorem Tm.storeVar (t:TypeId) (a:Addr) (u:Value) (hp:pm a.block) (hf:fr <= a.block):Tm P pm fr (Go.storeVar t a u):=by
 refine .bind (.sizeOf t) λn=>?_
 split
 ·exact .bind (.halt _) λ_=>.storeCells a hp hf _ _
 ·exact .bind (.pure _) λ_=>.storeCells a hp hf _ _
theorem Tm.part (t:TypeId) (cs:Array Value) (off:Nat):Tm P pm fr (Go.part t cs off):=.bind (.isAgg t) λb=>by
 cases b with
 | true=>exact .bind (.sizeOf t) λn=>.pure _
 | false =>
   show Tm P pm fr (match cs[off]? with | some v=>_ | none=>_);cases cs[off]? with
   | some v=>exact .pure _
   | none=>exact .halt _
theorem Tm.forIn {γ σ:Type} (f:γ->σ->Sem (ForInStep σ)) (h:∀ x s,Tm P pm fr (f x s)):∀ (l:List γ) (s:σ),Tm P pm fr (forIn l s f)
 | [],s=>by exact .pure s
 | x :: l,s=>by
   rw [km];refine .bind (h x s) λr=>?_
   cases r with
   | done s=>exact .pure s
   | yield s=>exact Tm.forIn f h l s
theorem Tm.Db {γ σ:Type} (f:γ->σ->Sem (ForInStep σ)):∀ (l:List γ) (s:σ),(∀ x ∈ l,∀ s,Tm P pm fr (f x s))->Tm P pm fr (ForIn.forIn l s f)
 | [],s,_=>by exact .pure s
 | x :: l,s,h=>by
   rw [km];refine .bind (h x ah s) λr=>?_
   cases r with
   | done s=>exact .pure s
   | yield s=>exact Tm.Db f l s λy hy=>h y (aF _ hy)
theorem Tm.mapM {γ δ:Type} (f:γ->Sem δ) (h:∀ x,Tm P pm fr (f x)):∀ l:List γ,Tm P pm fr (l.mapM f)
 | []=>by exact .pure _
 | x :: l=>by rw [kQ]; exact .bind (h x) λ_=>.bind (Tm.mapM f h l) λ_=>.pure _
def zP (P:Program) (pm:Nat->Prop) (fr:Nat) (e:Sem α) (v:World):Prop:=cI v->∀ a v',e.run P v = .ok a v'->e.wpS P pm fr (λb v2=>b = a /\ v2 = v') v
theorem Tm.at (h:Tm P pm fr e):zP P pm fr e v:=λhn a v' hr=>h v hn a v' hr
theorem zP.bind (h:zP P pm fr e v) (k:∀ a v1,e.run P v = .ok a v1->zP P pm fr (f a) v1):zP P pm fr (e >>= f) v:=λhn a v' hr=>by
 rw [ay] at hr;cases hx:e.run P v with
 | halt x w=>simp_all
 | ok b w =>
   rw [hx] at hr;have h1:=h hn b w hx;obtain⟨b2,v2,new,⟨_,rfl⟩,t,_⟩:=eG e v h1;refine cR f e v (cu ?_ _ _ h1);rintro b2 v2 ⟨rfl,rfl⟩;exact k b2 v2 hx (t.nv hn) a v' hr
theorem zP.known {b:α} (h:Tm P pm fr e) (hr:e.run P v = .ok b v) (k:zP P pm fr (f b) v):zP P pm fr (e >>= f) v :=
 .bind h.at λa v1 hr'=>by grind
theorem zP.getObj {r:Nat} {o:Obj} {f:Obj->Sem β} (hv:v.heap[r]? = some o) (h1:u9 o = false) (h2:o.isChan = false) (h3:∀ c e z,o ≠ .cells c e z) (k:zP P pm fr (f o) v):zP P pm fr (Go.getObj r >>= f) v:=λhn a v' hr=>by
 have e:((Go.getObj r >>= f:Sem β)).run P v = (f o).run P v:=by
  show ((Sem.getObj r Sem.pure).bind f).run P v = _;simp only [Sem.bind,Sem.run,hv]
 rw [e] at hr;exact ⟨λo' ho'=>by grind,o,hv,h3,h2,k hn a v' hr⟩
theorem zP.setObj {r:Nat} {o o':Obj} (hv:v.heap[r]? = some o') (h0:u9 o' = false) (hp:pm r) (hf:fr <= r) (h1:u9 o = false) (h2:Eb o = false) (h3:o.isChan = false):zP P pm fr (Go.setObj r o) v:=λhn a v' hr =>
 Tm.setObj r o hp hf h1 h2 h3 v hn (λx hx=>by grind) a v' hr
theorem Tm.typeStr (t:TypeId):Tm P pm fr (Go.typeStr t):=.bind (.typeInfo t) λi=>by
 dsimp only;split
 ·exact .mc _
 ·exact .pure _
theorem Tm.checkKey (em:Bool):∀ (n:Nat) (t:TypeId) (k:Value),Tm P pm fr (Instr.checkKey em n t k)
 | 0,_,_=>.mc _
 | n + 1,t,k=>by
   refine .bind (.underlying t) λd=>?_
   repeat' with_reducible first
    | exact .pure _
    | exact .stuck _
    | exact .runtimePanic _
    | exact .dead (.bind (.runtimePanic _) _)
    | exact Tm.checkKey em n _ _
    | refine .bind (.typeInfo _) λ_=>?_
    | refine .bind (.typeStr _) λ_=>?_
    | refine .bind (.sizeOf _) λ_=>?_
    | refine .bind (.part _ _ _) λ_=>?_
    | refine .bind (Tm.checkKey em n _ _) λ_=>?_
    | (rw [fY]; refine .bind (.Db _ _ _ λ_ _ _=>?_) λ_=>?_)
    | (rw [<- mr]; refine .bind (.Db _ _ _ λ_ _ _=>?_) λ_=>?_)
    | refine .bind (.pure _) λ_=>?_
    | split
    | dsimp only
end Go.Gx
