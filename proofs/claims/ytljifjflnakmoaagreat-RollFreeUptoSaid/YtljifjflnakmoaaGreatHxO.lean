/- In company, part A: worlds in which what the others have made is hidden, and of a shared row one cell alone is seen; what an operation does in such a world it does in the real one. -/
import Derived.StepT
import Derived.Laws.Sem
import Derived.Conc.Events
set_option linter.unusedVariables false
set_option linter.unusedSimpArgs false
namespace Go.Gx
open Go
def isP:Obj→Bool
 | .pending _ _=>true
 | _=>false
def isV:Obj→Bool
 | .view _ _=>true
 | _=>false
def dummy:Obj:=.pending #[] 0
def slot (k:Nat) (x:Value):Obj:=.pending #[x] (k + 1)
def isH:Obj→Bool
 | .pending c n=>n == 0 || c.size != 1
 | _=>false
def Ro (o:Obj) (k:Nat) (x:Value):Prop:=∃ c n,o = .pending c (n + 1) ∧ c.size ≠ 1 ∧ k < n ∧ c[k]? = some x
theorem Ro.isH {o:Obj} {k:Nat} {x:Value} (h:Ro o k x):isH o = true:=by
 obtain ⟨c,n,rfl,h1,_⟩:=h;simp [Gx.isH,h1]
theorem iC {c:Array Value} {k:Nat} {x:Value}:¬ Ro (.pending c 0) k x:=fun ⟨_,_,h,_⟩=>by cases h
theorem gM {o:Obj} (h:isH o = true):isP o = true:=by
 cases o <;> first | rfl | cases h
def Vis (v:World) (i:Nat):Prop:=∀ o,v.heap[i]? = some o→isP o = false
def a9 (v:World):Prop:=∀ (i:Nat) o,v.heap[i]? = some o→isV o = false
structure Msk (v w:World):Prop where
 size:w.heap.size = v.heap.size
 tape:w.tape = v.tape
 drawn:w.drawn = v.drawn
 os:w.os = v.os
 output:w.output = v.output
 vis:∀ i:Nat,Vis v i→w.heap[i]? = v.heap[i]?
 slot:∀ (i k:Nat) x,v.heap[i]? = some (Gx.slot k x)→∃ (c:Array Value) (e:TypeId),w.heap[i]? = some (.cells c e (0,0)) ∧ c[k]? = some x
 ro:∀ (i k:Nat) o x,v.heap[i]? = some o→Ro o k x→∃ (c:Array Value) (e:TypeId),w.heap[i]? = some (.cells c e (0,0)) ∧ c[k]? = some x
def setSlot (v:World) (b k:Nat) (x:Value):World:={ v with heap:=v.heap.setIfInBounds b (slot k x) }
end Go.Gx
namespace Go
open Gx in
def Sem.wpS {α:Type} (p:Program) (pm:Nat→Prop) (fr:Nat):Sem α→(α→World→Prop)→World→Prop
 | .pure a,Q,v=>Q a v
 | .load m a k,Q,v=>(m = .plain ∨ ∃ y,v.cell? a = some y) ∧ ∃ x,(v.cell? a = some x ∨ (a.spot = none ∧ v.heap[a.block]? = some (slot a.off x)) ∨ (a.spot = none ∧ ∃ o,v.heap[a.block]? = some o ∧ Ro o a.off x)) ∧ (k x).wpS p pm fr Q v
 | .store m a x k,Q,v=>x.oneCell' = true ∧ pm a.block ∧
  ((fr ≤ a.block ∧ (∃ y,v.cell? a = some y) ∧ v.frozen? a = false ∧ k.wpS p pm fr Q (v.setCell a x)) ∨
   (m = .plain ∧ a.spot = none ∧ (∃ y,v.heap[a.block]? = some (slot a.off y)) ∧ k.wpS p pm fr Q (setSlot v a.block a.off x)))
 | .new o k,Q,v=>isP o = false ∧ isV o = false ∧ (k v.heap.size).wpS p pm fr Q { v with heap:=v.heap.push o }
 | .shape r k,Q,v=>Vis v r ∧ (k (v.shape? r)).wpS p pm fr Q v
 | .freeze a n k,Q,v=>Vis v a.block ∧ pm a.block ∧ fr ≤ a.block ∧ k.wpS p pm fr Q (v.freeze a n)
 | .frozen a k,Q,v=>Vis v a.block ∧ (k (v.frozen? a)).wpS p pm fr Q v
 | .getObj r k,Q,v=>Vis v r ∧ ∃ o,v.heap[r]? = some o ∧ (∀ c e z,o ≠ .cells c e z) ∧ o.isChan = false ∧ (k o).wpS p pm fr Q v
 | .setObj r o k,Q,v=>Vis v r ∧ pm r ∧ fr ≤ r ∧ isP o = false ∧ isV o = false ∧ o.isChan = false ∧ (∃ o',v.heap[r]? = some o' ∧ ∀ c e z,o' ≠ .cells c e z) ∧ k.wpS p pm fr Q { v with heap:=v.heap.setIfInBounds r o }
 | .choose q k,Q,v=>if q.forced then (k 0).wpS p pm fr Q v else (k (q.cut (v.tape v.drawn q))).wpS p pm fr Q { v with drawn:=v.drawn + 1 }
 | .sys _ _,_,_=>False
 | .program k,Q,v=>(k p).wpS p pm fr Q v
 | .mark m k,Q,v=>(m = .noRoom ∨ ∃ f,m = .extern f) ∧ k.wpS p pm fr Q v
 | .halt _,_,_=>False
end Go
namespace Go.Gx
open Go
def EvS (pm:Nat→Prop) (fr:Nat) (v:World) (e:Event):Prop :=
 (∃ a,e.loc = .cell a ∧ a.block < v.heap.size ∧ (e.sync = false ∨ Vis v a.block) ∧ ((Vis v a.block ∧ (e.write = true→pm a.block ∧ fr ≤ a.block)) ∨ (a.spot = none ∧ (∃ x,v.heap[a.block]? = some (slot a.off x)) ∧ (e.write = true→pm a.block)) ∨ (a.spot = none ∧ e.write = false ∧ ∃ o x,v.heap[a.block]? = some o ∧ Ro o a.off x))) ∨
 (∃ r,e.loc = .obj r ∧ r < v.heap.size ∧ Vis v r ∧ e.sync = false ∧ (e.write = true→pm r ∧ fr ≤ r)) ∨ (∃ m,(m = .noRoom ∨ ∃ f,m = .extern f) ∧ e = ⟨.mark m,false,true⟩)
theorem aw {v:World} {i:Nat} {o:Obj} (h:v.heap[i]? = some o):i < v.heap.size:=(Array.getElem?_eq_some_iff.1 h).1
theorem jI {v:World} {a:Addr} {x:Value} (h:v.cell? a = some x):Vis v a.block:=by
 intro o ho;cases o with
 | pending c n=>simp only [World.cell?,ho] at h; cases h
 | _=>rfl
theorem mf {v:World} {a:Addr} {x:Value} (h:v.cell? a = some x):a.block < v.heap.size:=by
 unfold World.cell? at h;split at h
 ·rename_i c e z hb;exact aw hb
 ·cases h
section
variable {v w:World}
theorem Msk.cell (h:Msk v w) {a:Addr} (hv:Vis v a.block):w.cell? a = v.cell? a:=by
 simp only [World.cell?,h.vis a.block hv]
theorem Msk.frozen (h:Msk v w) {a:Addr} (hv:Vis v a.block):w.frozen? a = v.frozen? a:=by
 simp only [World.frozen?,h.vis a.block hv]
theorem Msk.shape (h:Msk v w) {r:Nat} (hv:Vis v r):w.shape? r = v.shape? r:=by
 simp only [World.shape?,h.vis r hv]
theorem Msk.slotCell (h:Msk v w) {a:Addr} {x:Value} (hs:a.spot = none) (hv:v.heap[a.block]? = some (Gx.slot a.off x)):w.cell? a = some x:=by
 obtain ⟨c,e,h1,h2⟩:=h.slot _ _ _ hv;simp [World.cell?,h1,hs,h2]
theorem Msk.slotFrozen (h:Msk v w) {a:Addr} {x:Value} (hs:a.spot = none) (hv:v.heap[a.block]? = some (Gx.slot a.off x)):w.frozen? a = false:=by
 obtain ⟨c,e,h1,h2⟩:=h.slot _ _ _ hv;simp [World.frozen?,h1,hs]
theorem Msk.roCell (h:Msk v w) {a:Addr} {o:Obj} {x:Value} (hs:a.spot = none) (hv:v.heap[a.block]? = some o) (hr:Ro o a.off x):w.cell? a = some x:=by
 obtain ⟨c,e,h1,h2⟩:=h.ro _ _ _ _ hv hr;simp [World.cell?,h1,hs,h2]
end
structure ik (pm:Nat→Prop) (v v':World):Prop where
 size:v.heap.size ≤ v'.heap.size
 tape:v'.tape = v.tape
 os:v'.os = v.os
 output:v'.output = v.output
 drawn:v.drawn ≤ v'.drawn
 old:∀ i:Nat,i < v.heap.size→¬ pm i→v'.heap[i]? = v.heap[i]?
 hid:∀ (i:Nat) o,v.heap[i]? = some o→isH o = true→v'.heap[i]? = some o
 sl:∀ (i k:Nat) x,v.heap[i]? = some (slot k x)→∃ y,v'.heap[i]? = some (slot k y)
 vis:∀ i,Vis v i→Vis v' i
 nv:a9 v→a9 v'
 fresh:∀ (i:Nat) o,v.heap.size ≤ i→v'.heap[i]? = some o→isP o = false
theorem kh {v:World} {i:Nat} {o:Obj} {p:Prop} (h:v.heap.size ≤ i) (h':v.heap[i]? = some o):p:=absurd (aw h') (by omega)
theorem ik.refl (pm:Nat→Prop) (v:World):ik pm v v:=⟨Nat.le_refl _,rfl,rfl,rfl,Nat.le_refl _,fun _ _ _=>rfl,fun _ _ h _=>h,fun _ _ x h=>⟨x,h⟩,fun _ h=>h,id,fun _ _ h h'=>kh h h'⟩
theorem ik.trans {pm:Nat→Prop} {a b c:World} (h:ik pm a b) (k:ik pm b c):ik pm a c :=
 ⟨Nat.le_trans h.size k.size,k.tape.trans h.tape,k.os.trans h.os,k.output.trans h.output,Nat.le_trans h.drawn k.drawn,
  fun i hi hp=>(k.old i (Nat.lt_of_lt_of_le hi h.size) hp).trans (h.old i hi hp),fun i o ho hh=>k.hid i o (h.hid i o ho hh) hh,
  fun i n x hx=>let ⟨y,h1⟩:=h.sl i n x hx; k.sl i n y h1,fun i hv=>k.vis i (h.vis i hv),fun hn=>k.nv (h.nv hn),fun i o h1 h2=>by
   by_cases hb:b.heap.size ≤ i
   ·exact k.fresh i o hb h2
   ·by_cases hb2:∃ x,b.heap[i]? = some x
    ·obtain ⟨x,hx⟩:=hb2;exact k.vis i (fun y hy=>h.fresh i y h1 hy) o h2
    ·exact absurd (Array.getElem?_eq_getElem (show i < b.heap.size by omega)) (fun e=>hb2 ⟨_,e⟩)⟩
def hH (k:Nat) (a b:Option Obj):Prop:=∀ c e z,a = some (.cells c e z)→∃ c',b = some (.cells c' e z) ∧ c'.size = c.size ∧ ∀ j:Nat,j ≠ k→c'[j]? = c[j]?
theorem hH.refl (k:Nat) (a:Option Obj):hH k a a:=fun c e z h=>⟨c,h,rfl,fun _ _=>rfl⟩
theorem hH.trans {k:Nat} {a b c:Option Obj} (h:hH k a b) (g:hH k b c):hH k a c:=fun x e z hx=>by
 obtain ⟨y,h1,h2,h3⟩:=h x e z hx;obtain ⟨y',g1,g2,g3⟩:=g y e z h1;exact ⟨y',g1,g2.trans h2,fun j hj=>(g3 j hj).trans (h3 j hj)⟩
structure Beside (v w v' w':World):Prop where
 msk:Msk v' w'
 hid:∀ (i:Nat) o,v.heap[i]? = some o→isH o = true→w'.heap[i]? = w.heap[i]?
 sl:∀ (i k:Nat) x,v.heap[i]? = some (slot k x)→hH k w.heap[i]? w'.heap[i]?
 tape:w'.tape = w.tape
 os:w'.os = w.os
 output:w'.output = w.output
theorem Beside.refl {v w:World} (m:Msk v w):Beside v w v w:=⟨m,fun _ _ _ _=>rfl,fun _ k _ _=>.refl k _,rfl,rfl,rfl⟩
theorem Beside.trans {v w v1 w1 v2 w2:World} {pm:Nat→Prop} (h:Beside v w v1 w1) (t:ik pm v v1) (k:Beside v1 w1 v2 w2):Beside v w v2 w2 :=
 ⟨k.msk,fun i o ho hh=>(k.hid i o (t.hid i o ho hh) hh).trans (h.hid i o ho hh),fun i n x hx=>let ⟨y,h1⟩:=t.sl i n x hx; (h.sl i n x hx).trans (k.sl i n y h1),
  k.tape.trans h.tape,k.os.trans h.os,k.output.trans h.output⟩
theorem cL {h:Array Obj} {b:Nat} {f:Obj→Obj} (i:Nat):(h.modify b f)[i]? = if b = i then (h[i]?).map f else h[i]?:=by
 rw [Array.getElem?_modify]
theorem jv {v w:World} {pm:Nat→Prop} {b:Nat} {f:Obj→Obj} (hv:Vis v b) (hp:pm b) (hf:∀ o,isP o = false→isP (f o) = false) (hf2:∀ o,isV o = false→isV (f o) = false) :
 ik pm v { v with heap:=v.heap.modify b f } ∧ (Msk v w→Beside v w { v with heap:=v.heap.modify b f } { w with heap:=w.heap.modify b f }):=by
 have hne:∀ i o,v.heap[i]? = some o→isP o = true→b ≠ i:=fun i o ho hh e=>by
  subst e;have:=hv o ho;rw [hh] at this; cases this
 have cn:∀ i o,v.heap[i]? = some o→isP o = true→(v.heap.modify b f)[i]? = some o:=fun i o ho hh=>by
  rw [cL,if_neg (hne i o ho hh)]; exact ho
 have keepw:∀ i o,v.heap[i]? = some o→isP o = true→(w.heap.modify b f)[i]? = w.heap[i]?:=fun i o ho hh=>by
  rw [cL,if_neg (hne i o ho hh)]
 refine ⟨⟨by simp,rfl,rfl,rfl,Nat.le_refl _,fun i _ hi=>?_,fun i o ho hh=>cn i o ho (gM hh),fun i k x hx=>⟨x,cn i _ hx rfl⟩,fun i hi o ho=>?_,fun hn i o ho=>?_,fun i o h1 h2=>kh (v:={ v with heap:=v.heap.modify b f }) (by simpa using h1) h2⟩,
  fun m=>⟨⟨by simp [m.size],m.tape,m.drawn,m.os,m.output,fun i hi=>?_,fun i k x hx=>?_,fun i k o x hx hr=>?_⟩,fun i o ho hh=>keepw i o ho (gM hh),fun i k x hx=>?_,rfl,rfl,rfl⟩⟩
 ·show (v.heap.modify b f)[i]? = _;rw [cL,if_neg (fun (e:b = i)=>hi (e ▸ hp))]
 ·have ho':(v.heap.modify b f)[i]? = some o:=ho;rw [cL] at ho';split at ho'
  ·cases hx:v.heap[i]? with
   | none=>rw [hx] at ho'; cases ho'
   | some x=>rw [hx] at ho'; obtain rfl:=Option.some.inj ho'; exact hf x (hi x hx)
  ·exact hi o ho'
 ·have ho':(v.heap.modify b f)[i]? = some o:=ho;rw [cL] at ho';split at ho'
  ·cases hx:v.heap[i]? with
   | none=>rw [hx] at ho'; cases ho'
   | some x=>rw [hx] at ho'; obtain rfl:=Option.some.inj ho'; exact hf2 x (hn i x hx)
  ·exact hn i o ho'
 ·have hi':Vis v i:=fun o ho=>by
   cases hP:isP o with
   | false=>rfl
   | true=>have:=hi o (cn i o ho hP); rw [hP] at this; cases this
  show (w.heap.modify b f)[i]? = (v.heap.modify b f)[i]?;rw [cL,cL,m.vis i hi']
 ·have hx':(v.heap.modify b f)[i]? = some (slot k x):=hx;have hb:b ≠ i:=fun e=>by
   subst e;rw [cL,if_pos rfl] at hx';cases hy:v.heap[b]? with
   | none=>rw [hy] at hx'; cases hx'
   | some y =>
     rw [hy] at hx';have:=hf y (hv y hy);rw [Option.some.inj hx'] at this;cases this
  rw [cL,if_neg hb] at hx';show ∃ c e,(w.heap.modify b f)[i]? = _ ∧ _;rw [cL,if_neg hb];exact m.slot i k x hx'
 ·have hx':(v.heap.modify b f)[i]? = some o:=hx;have hb:b ≠ i:=fun e=>by
   subst e;rw [cL,if_pos rfl] at hx';cases hy:v.heap[b]? with
   | none=>rw [hy] at hx'; cases hx'
   | some y =>
     rw [hy] at hx';have:=hf y (hv y hy);rw [Option.some.inj hx',gM hr.isH] at this;cases this
  rw [cL,if_neg hb] at hx';show ∃ c e,(w.heap.modify b f)[i]? = _ ∧ _;rw [cL,if_neg hb];exact m.ro i k o x hx' hr
 ·show hH k w.heap[i]? (w.heap.modify b f)[i]?;rw [keepw i _ hx rfl];exact .refl k _
theorem qn {v w:World} {pm:Nat→Prop} {o:Obj} (ho:isP o = false) (ho2:isV o = false) :
 ik pm v { v with heap:=v.heap.push o } ∧ (Msk v w→Beside v w { v with heap:=v.heap.push o } { w with heap:=w.heap.push o }):=by
 have cn:∀ i x,v.heap[i]? = some x→(v.heap.push o)[i]? = some x:=fun i x hx=>by
  rw [Array.getElem?_push,if_neg (Nat.ne_of_lt (aw hx))]; exact hx
 refine ⟨⟨by simp,rfl,rfl,rfl,Nat.le_refl _,fun i hi _=>?_,fun i x hx _=>cn i x hx,fun i k x hx=>⟨x,cn i _ hx⟩,fun i hi x hx=>?_,fun hn i x hx=>?_,fun i x h1 hx=>?_⟩,
  fun m=>?_⟩
 ·show (v.heap.push o)[i]? = _;rw [Array.getElem?_push,if_neg (Nat.ne_of_lt hi)]
 ·have hx':(v.heap.push o)[i]? = some x:=hx;rw [Array.getElem?_push] at hx';split at hx'
  ·rw [← Option.some.inj hx']; exact ho
  ·exact hi x hx'
 ·have hx':(v.heap.push o)[i]? = some x:=hx;rw [Array.getElem?_push] at hx';split at hx'
  ·rw [← Option.some.inj hx']; exact ho2
  ·exact hn i x hx'
 ·have hx':(v.heap.push o)[i]? = some x:=hx;rw [Array.getElem?_push] at hx';split at hx'
  ·rw [← Option.some.inj hx']; exact ho
  ·exact kh h1 hx'
 ·have keepw:∀ i x,v.heap[i]? = some x→(w.heap.push o)[i]? = w.heap[i]?:=fun i x hx=>by
   rw [Array.getElem?_push,if_neg (by rw [m.size]; exact Nat.ne_of_lt (aw hx))]
  refine ⟨⟨by simp [m.size],m.tape,m.drawn,m.os,m.output,fun i hi=>?_,fun i k x hx=>?_,fun i k o' x hx hr=>?_⟩,fun i x hx _=>keepw i x hx,fun i k x hx=>?_,rfl,rfl,rfl⟩
  ·have hi':Vis v i:=fun x hx=>hi x (cn i x hx)
   show (w.heap.push o)[i]? = (v.heap.push o)[i]?;rw [Array.getElem?_push,Array.getElem?_push,m.size,m.vis i hi']
  ·have hx':(v.heap.push o)[i]? = some (slot k x):=hx;rw [Array.getElem?_push] at hx';split at hx'
   ·rw [Option.some.inj hx'] at ho; cases ho
   ·show ∃ c e,(w.heap.push o)[i]? = _ ∧ _;rw [keepw i _ hx'];exact m.slot i k x hx'
  ·have hx':(v.heap.push o)[i]? = some o':=hx;rw [Array.getElem?_push] at hx';split at hx'
   ·rw [Option.some.inj hx',gM hr.isH] at ho; cases ho
   ·show ∃ c e,(w.heap.push o)[i]? = _ ∧ _;rw [keepw i _ hx'];exact m.ro i k o' x hx' hr
  ·show hH k w.heap[i]? (w.heap.push o)[i]?;rw [keepw i _ hx];exact .refl k _
theorem oy (h:Array Obj) (b:Nat) (o:Obj):h.setIfInBounds b o = h.modify b (fun _=>o):=by
 apply Array.ext_getElem?;intro i;rw [cL,Array.getElem?_setIfInBounds]
 by_cases e:b = i
 ·subst e;rw [if_pos rfl,if_pos rfl]
  by_cases hb:b < h.size
  ·simp [hb]
  ·simp [hb]
 ·rw [if_neg e,if_neg e]
theorem turn_set {v w:World} {pm:Nat→Prop} {b:Nat} {o:Obj} (hv:Vis v b) (hp:pm b) (ho:isP o = false) (ho2:isV o = false) :
 ik pm v { v with heap:=v.heap.setIfInBounds b o } ∧ (Msk v w→Beside v w { v with heap:=v.heap.setIfInBounds b o } { w with heap:=w.heap.setIfInBounds b o }):=by
 rw [oy,oy];exact jv hv hp (fun _ _=>ho) (fun _ _=>ho2)
theorem kx {k k':Nat} {x x':Value} (h:slot k x = slot k' x'):k = k' ∧ x = x':=by
 simp only [slot,Obj.pending.injEq] at h;obtain ⟨h1,h2⟩:=h;refine ⟨Nat.succ.inj h2,?_⟩;have h3:[x] = [x']:=congrArg Array.toList h1;exact List.head_eq_of_cons_eq h3
theorem qm {v w:World} {pm:Nat→Prop} {a:Addr} {x y:Value} (hs:a.spot = none) (hv:v.heap[a.block]? = some (slot a.off y)) (hp:pm a.block) :
 ik pm v (setSlot v a.block a.off x) ∧ (Msk v w→Beside v w (setSlot v a.block a.off x) (w.setCell a x)):=by
 have hlt:=aw hv;have get:∀ i,(setSlot v a.block a.off x).heap[i]? = if a.block = i then some (slot a.off x) else v.heap[i]?:=fun i=>by
  show (v.heap.setIfInBounds a.block (slot a.off x))[i]? = _;rw [Array.getElem?_setIfInBounds];split
  ·rename_i e; simp [← e,hlt]
  ·rfl
 refine ⟨⟨by simp [setSlot],rfl,rfl,rfl,Nat.le_refl _,fun i _ hi=>?_,fun i o ho hh=>?_,fun i k z ho=>?_,fun i hi o ho=>?_,fun hn i o ho=>?_,fun i o h1 h2=>kh (v:=setSlot v a.block a.off x) (by simpa [setSlot] using h1) h2⟩,fun m=>?_⟩
 ·rw [get,if_neg (fun (e:a.block = i)=>hi (e ▸ hp))]
 ·rw [get,if_neg (fun e=>by subst e; rw [hv] at ho; obtain rfl:=Option.some.inj ho; cases hh)]; exact ho
 ·rw [get]
  by_cases e:a.block = i
  ·subst e;rw [hv] at ho;obtain ⟨rfl,rfl⟩:=kx (Option.some.inj ho);exact ⟨_,if_pos rfl⟩
  ·exact ⟨z,by rw [if_neg e]; exact ho⟩
 ·rw [get] at ho;split at ho
  ·rename_i e;subst e;have:=hi _ hv;cases this
  ·exact hi o ho
 ·rw [get] at ho;split at ho
  ·rw [← Option.some.inj ho]; rfl
  ·exact hn i o ho
 ·obtain ⟨c,e,h1,h2⟩:=m.slot _ _ _ hv;have getw:∀ i,(w.setCell a x).heap[i]? = if a.block = i then some (.cells (c.setIfInBounds a.off x) e (0,0)) else w.heap[i]?:=fun i=>by
   show (w.heap.modify a.block _)[i]? = _;rw [cL];split
   ·rename_i e';rw [← e',h1];simp [hs]
   ·rfl
  refine ⟨⟨by simp [setSlot,World.setCell,m.size],m.tape,m.drawn,m.os,m.output,fun i hi=>?_,fun i k z hz=>?_,fun i k o z hz hr=>?_⟩,fun i o ho hh=>?_,fun i k z ho=>?_,rfl,rfl,rfl⟩
  ·rw [getw,get]
   by_cases e':a.block = i
   ·subst e';have:=hi (slot a.off x) (by rw [get,if_pos rfl]);cases this
   ·rw [if_neg e',if_neg e'];exact m.vis i fun o ho=>hi o (by rw [get,if_neg e']; exact ho)
  ·rw [get] at hz;rw [getw]
   by_cases e':a.block = i
   ·rw [if_pos e'] at hz ⊢;obtain ⟨rfl,rfl⟩:=kx (Option.some.inj hz);refine ⟨_,_,rfl,?_⟩;have hk:a.off < c.size:=(Array.getElem?_eq_some_iff.1 h2).1;simp [hk]
   ·rw [if_neg e'] at hz ⊢;exact m.slot i k z hz
  ·rw [get] at hz;rw [getw]
   by_cases e':a.block = i
   ·rw [if_pos e'] at hz;have:=hr.isH;rw [← Option.some.inj hz] at this;cases this
   ·rw [if_neg e'] at hz ⊢;exact m.ro i k o z hz hr
  ·rw [getw,if_neg (fun e'=>by subst e'; rw [hv] at ho; obtain rfl:=Option.some.inj ho; cases hh)]
  ·rw [getw]
   by_cases e':a.block = i
   ·rw [if_pos e'];subst e';rw [hv] at ho;obtain ⟨rfl,rfl⟩:=kx (Option.some.inj ho);intro c1 e1 z1 hc;rw [h1] at hc;simp only [Option.some.injEq,Obj.cells.injEq] at hc;obtain ⟨rfl,rfl,rfl⟩:=hc;exact ⟨_,rfl,by simp,fun j hj=>by rw [Array.getElem?_setIfInBounds_ne (Ne.symm hj)]⟩
   ·rw [if_neg e']; exact .refl k _
theorem EvS.mono {pm:Nat→Prop} {fr:Nat} {v v':World} {e:Event} (h:EvS pm fr v e) (t:ik pm v v'):EvS pm fr v' e:=by
 rcases h with ⟨a,h1,h2,h3,h4⟩ | ⟨r,h1,h2,h3,h4⟩ | h
 ·refine .inl ⟨a,h1,Nat.lt_of_lt_of_le h2 t.size,h3.imp id (t.vis _),h4.imp (fun ⟨g1,g2⟩=>⟨t.vis _ g1,g2⟩) (.imp (fun ⟨g0,⟨x,g1⟩,g2⟩=>⟨g0,t.sl _ _ _ g1,g2⟩) (fun ⟨g0,g1,o,x,g2,g3⟩=>⟨g0,g1,o,x,t.hid _ _ g2 g3.isH,g3⟩))⟩
 ·exact .inr (.inl ⟨r,h1,Nat.lt_of_lt_of_le h2 t.size,t.vis _ h3,h4⟩)
 ·exact .inr (.inr h)
theorem bY {α:Type} {p:Program} {pm:Nat→Prop} {fr:Nat} {Q:α→World→Prop}:∀ (e:Sem α) (v:World),e.wpS p pm fr Q v →
 ∃ (a:α) (v':World) (new:Array Event),Q a v' ∧ ik pm v v' ∧ (∀ x ∈ new,EvS pm fr v' x) ∧ ∀ (w:World) (es:Array Event),Msk v w→∃ w',e.runT p w es = (.ok a w',es ++ new) ∧ Beside v w v' w'
 | .pure a,v,h=>⟨a,v,#[],h,.refl _ _,by simp,fun w es m=>⟨w,by simp [Sem.runT,-Sem.runT_eq],.refl m⟩⟩
 | .load md a k,v,h=>by
   obtain ⟨hmd,x,hx,h⟩:=h;obtain ⟨r,v',new,h1,h2,h3,h4⟩:=bY (k x) v h;have hsy:(md == Mode.atomic) = false ∨ Vis v' a.block:=hmd.imp (fun e=>by rw [e]; rfl) (fun ⟨y,g3⟩=>h2.vis _ (jI g3));refine ⟨r,v',#[⟨.cell a,false,md == Mode.atomic⟩] ++ new,h1,h2,fun y hy=>?_,fun w es m=>?_⟩
   ·rcases Array.mem_append.1 hy with hy | hy
    ·obtain rfl:y = ⟨.cell a,false,md == Mode.atomic⟩:=by simpa using hy
     rcases hx with hx | ⟨hs,hx⟩ | ⟨hs,o,hx,hr⟩
     ·exact .inl ⟨a,rfl,Nat.lt_of_lt_of_le (mf hx) h2.size,hsy,.inl ⟨h2.vis _ (jI hx),fun h=>by cases h⟩⟩
     ·exact .inl ⟨a,rfl,Nat.lt_of_lt_of_le (aw hx) h2.size,hsy,.inr (.inl ⟨hs,h2.sl _ _ _ hx,fun h=>by cases h⟩)⟩
     ·exact .inl ⟨a,rfl,Nat.lt_of_lt_of_le (aw hx) h2.size,hsy,.inr (.inr ⟨hs,rfl,o,x,h2.hid _ _ hx hr.isH,hr⟩)⟩
    ·exact h3 y hy
   ·have hw:w.cell? a = some x:=by
     rcases hx with hx | ⟨hs,hx⟩ | ⟨hs,o,hx,hr⟩
     ·rw [m.cell (jI hx)]; exact hx
     ·exact m.slotCell hs hx
     ·exact m.roCell hs hx hr
    obtain ⟨w',g1,g2⟩:=h4 w (es.push ⟨.cell a,false,md == Mode.atomic⟩) m;refine ⟨w',?_,g2⟩;simp only [Sem.runT,hw];rw [g1];simp
 | .store md a x k,v,h=>by
   obtain ⟨ho,hp,h⟩:=h;have st:∀ w es y,w.cell? a = some y→w.frozen? a = false→(Sem.store md a x k).runT p w es = k.runT p (w.setCell a x) (es.push ⟨.cell a,true,md == Mode.atomic⟩):=fun w es y h1 h2=>by
    cases x <;> first
     | (simp [Value.oneCell'] at ho; done)
     | (simp only [Sem.runT,h1,h2]
        simp only [Bool.false_eq_true,if_false])
   rcases h with ⟨hfr,⟨y,hy⟩,hf,h⟩ | ⟨rfl,hs,⟨y,hy⟩,h⟩
   ·have hv:=jI hy;have tm:=fun w=>jv (v:=v) (w:=w) (f:=fun | .cells c elem frozen=>.cells (if a.spot.isSome then c else c.setIfInBounds a.off x) elem frozen | o=>o) hv hp (by intro o ho; cases o <;> first | exact ho | rfl) (by intro o ho; cases o <;> first | exact ho | rfl)
    have t1:=(tm v).1;obtain ⟨r,v',new,h1,h2,h3,h4⟩:=bY k (v.setCell a x) h;refine ⟨r,v',#[⟨.cell a,true,md == Mode.atomic⟩] ++ new,h1,t1.trans h2,fun z hz=>?_,fun w es m=>?_⟩
    ·rcases Array.mem_append.1 hz with hz | hz
     ·obtain rfl:z = ⟨.cell a,true,md == Mode.atomic⟩:=by simpa using hz
      exact .inl ⟨a,rfl,Nat.lt_of_lt_of_le (mf hy) (t1.trans h2).size,.inr ((t1.trans h2).vis _ hv),.inl ⟨(t1.trans h2).vis _ hv,fun _=>⟨hp,hfr⟩⟩⟩
     ·exact h3 z hz
    ·have b1:=(tm w).2 m;obtain ⟨w',g1,g2⟩:=h4 (w.setCell a x) (es.push ⟨.cell a,true,md == Mode.atomic⟩) b1.msk;refine ⟨w',?_,b1.trans t1 g2⟩;rw [st w es y (by rw [m.cell hv]; exact hy) (by rw [m.frozen hv]; exact hf),g1];simp
   ·have t1:=(qm (x:=x) (w:=v) hs hy hp).1;obtain ⟨r,v',new,h1,h2,h3,h4⟩:=bY k (setSlot v a.block a.off x) h;refine ⟨r,v',#[⟨.cell a,true,false⟩] ++ new,h1,t1.trans h2,fun z hz=>?_,fun w es m=>?_⟩
    ·rcases Array.mem_append.1 hz with hz | hz
     ·obtain rfl:z = ⟨.cell a,true,false⟩:=by simpa using hz
      exact .inl ⟨a,rfl,Nat.lt_of_lt_of_le (aw hy) (t1.trans h2).size,.inl rfl,.inr (.inl ⟨hs,(t1.trans h2).sl _ _ _ hy,fun _=>hp⟩)⟩
     ·exact h3 z hz
    ·have b1:=(qm (x:=x) (w:=w) hs hy hp).2 m;obtain ⟨w',g1,g2⟩:=h4 (w.setCell a x) (es.push ⟨.cell a,true,false⟩) b1.msk;refine ⟨w',?_,b1.trans t1 g2⟩;rw [st w es y (m.slotCell hs hy) (m.slotFrozen hs hy),show (Mode.plain == Mode.atomic) = false from rfl,g1];simp
 | .new o k,v,h=>by
   obtain ⟨ho,ho2,h⟩:=h;have tm:=fun w=>qn (pm:=pm) (v:=v) (w:=w) ho ho2
   obtain ⟨r,v',new,h1,h2,h3,h4⟩:=bY (k v.heap.size) _ h;refine ⟨r,v',new,h1,(tm v).1.trans h2,h3,fun w es m=>?_⟩;have b1:=(tm w).2 m;obtain ⟨w',g1,g2⟩:=h4 _ es b1.msk;exact ⟨w',by simp only [Sem.runT,m.size]; exact g1,b1.trans (tm v).1 g2⟩
 | .shape r k,v,h=>by
   obtain ⟨hv,h⟩:=h;obtain ⟨r',v',new,h1,h2,h3,h4⟩:=bY (k (v.shape? r)) v h;refine ⟨r',v',new,h1,h2,h3,fun w es m=>?_⟩;obtain ⟨w',g1,g2⟩:=h4 w es m;exact ⟨w',by simp only [Sem.runT,m.shape hv]; exact g1,g2⟩
 | .freeze a n k,v,h=>by
   obtain ⟨hv,hp,hfr,h⟩:=h
   by_cases hn:n = 0
   ·have e1:∀ w:World,w.freeze a n = w:=fun w=>by simp [World.freeze,hn]
    rw [e1] at h;obtain ⟨r',v',new,h1,h2,h3,h4⟩:=bY k v h;refine ⟨r',v',new,h1,h2,h3,fun w es m=>?_⟩;obtain ⟨w',g1,g2⟩:=h4 w es m;exact ⟨w',by simp only [Sem.runT,e1]; exact g1,g2⟩
   ·have tm:=fun w=>jv (v:=v) (w:=w) (f:=fun | .cells c elem (lo,hi)=>.cells c elem (if lo == hi then (a.off,a.off + n) else (min lo a.off,max hi (a.off + n))) | o=>o) hv hp (by intro o ho; cases o <;> first | exact ho | rfl) (by intro o ho; cases o <;> first | exact ho | rfl)
    have e1:∀ w:World,w.freeze a n = _:=fun w=>if_neg hn
    rw [e1] at h;obtain ⟨r',v',new,h1,h2,h3,h4⟩:=bY k _ h;refine ⟨r',v',new,h1,(tm v).1.trans h2,h3,fun w es m=>?_⟩;have b1:=(tm w).2 m;obtain ⟨w',g1,g2⟩:=h4 _ es b1.msk;exact ⟨w',by simp only [Sem.runT,e1]; exact g1,b1.trans (tm v).1 g2⟩
 | .frozen a k,v,h=>by
   obtain ⟨hv,h⟩:=h;obtain ⟨r',v',new,h1,h2,h3,h4⟩:=bY (k (v.frozen? a)) v h;refine ⟨r',v',new,h1,h2,h3,fun w es m=>?_⟩;obtain ⟨w',g1,g2⟩:=h4 w es m;exact ⟨w',by simp only [Sem.runT,m.frozen hv]; exact g1,g2⟩
 | .getObj r k,v,h=>by
   obtain ⟨hv,o,ho,hc,hch,h⟩:=h;obtain ⟨x,v',new,h1,h2,h3,h4⟩:=bY (k o) v h;refine ⟨x,v',#[⟨.obj r,false,false⟩] ++ new,h1,h2,fun y hy=>?_,fun w es m=>?_⟩
   ·rcases Array.mem_append.1 hy with hy | hy
    ·obtain rfl:y = ⟨.obj r,false,false⟩:=by simpa using hy
     exact .inr (.inl ⟨r,rfl,Nat.lt_of_lt_of_le (aw ho) h2.size,h2.vis _ hv,rfl,fun h=>by cases h⟩)
    ·exact h3 y hy
   ·obtain ⟨w',g1,g2⟩:=h4 w (es.push ⟨.obj r,false,false⟩) m;refine ⟨w',?_,g2⟩;cases o <;> first
     | exact absurd rfl (hc _ _ _)
     | (simp only [Sem.runT,m.vis r hv,ho,hch]; rw [g1]; simp)
 | .setObj r o k,v,h=>by
   obtain ⟨hv,hp,hfr,hd,hd2,hch,⟨o',ho,hc⟩,h⟩:=h;have tm:=fun w=>turn_set (v:=v) (w:=w) hv hp hd hd2
   obtain ⟨x,v',new,h1,h2,h3,h4⟩:=bY k _ h;refine ⟨x,v',#[⟨.obj r,true,false⟩] ++ new,h1,(tm v).1.trans h2,fun y hy=>?_,fun w es m=>?_⟩
   ·rcases Array.mem_append.1 hy with hy | hy
    ·obtain rfl:y = ⟨.obj r,true,false⟩:=by simpa using hy
     exact .inr (.inl ⟨r,rfl,Nat.lt_of_lt_of_le (aw ho) ((tm v).1.trans h2).size,((tm v).1.trans h2).vis _ hv,rfl,fun _=>⟨hp,hfr⟩⟩)
    ·exact h3 y hy
   ·have b1:=(tm w).2 m;obtain ⟨w',g1,g2⟩:=h4 _ (es.push ⟨.obj r,true,false⟩) b1.msk;refine ⟨w',?_,b1.trans (tm v).1 g2⟩;cases o' <;> first
     | exact absurd rfl (hc _ _ _)
     | (simp only [Sem.runT,m.vis r hv,ho,hch]; rw [g1]; simp)
 | .choose q k,v,h=>by
   simp only [Sem.wpS] at h
   by_cases hq:q.forced = true
   ·rw [if_pos hq] at h;obtain ⟨r',v',new,h1,h2,h3,h4⟩:=bY (k 0) v h;refine ⟨r',v',new,h1,h2,h3,fun w es m=>?_⟩;obtain ⟨w',g1,g2⟩:=h4 w es m;exact ⟨w',by simp only [Sem.runT,hq,if_true]; exact g1,g2⟩
   ·rw [if_neg hq] at h;have hq':q.forced = false:=by simpa using hq
    obtain ⟨r',v',new,h1,h2,h3,h4⟩:=bY (k (q.cut (v.tape v.drawn q))) _ h;have t1:ik pm v { v with drawn:=v.drawn + 1 }:=⟨Nat.le_refl _,rfl,rfl,rfl,Nat.le_succ _,fun _ _ _=>rfl,fun _ _ h _=>h,fun _ _ x h=>⟨x,h⟩,fun _ h=>h,fun h=>h,fun _ _ h h'=>kh h h'⟩;refine ⟨r',v',new,h1,t1.trans h2,h3,fun w es m=>?_⟩;have b1:Beside v w { v with drawn:=v.drawn + 1 } { w with drawn:=w.drawn + 1 } :=
     ⟨⟨m.size,m.tape,by simp [m.drawn],m.os,m.output,m.vis,m.slot,m.ro⟩,fun _ _ _ _=>rfl,fun _ k _ _=>.refl k _,rfl,rfl,rfl⟩
    obtain ⟨w',g1,g2⟩:=h4 _ es b1.msk;refine ⟨w',?_,b1.trans t1 g2⟩;have e:q.cut (w.tape w.drawn q) = q.cut (v.tape v.drawn q):=by rw [m.tape,m.drawn]
    simp only [Sem.runT,hq',Bool.false_eq_true,if_false];rw [e];exact g1
 | .sys _ _,_,h=>h.elim
 | .program k,v,h=>by
   obtain ⟨r',v',new,h1,h2,h3,h4⟩:=bY (k p) v h;refine ⟨r',v',new,h1,h2,h3,fun w es m=>?_⟩;obtain ⟨w',g1,g2⟩:=h4 w es m;exact ⟨w',by simp only [Sem.runT]; exact g1,g2⟩
 | .mark mk k,v,h=>by
   obtain ⟨hm,h⟩:=h;obtain ⟨x,v',new,h1,h2,h3,h4⟩:=bY k v h;refine ⟨x,v',#[⟨.mark mk,false,true⟩] ++ new,h1,h2,fun y hy=>?_,fun w es m=>?_⟩
   ·rcases Array.mem_append.1 hy with hy | hy
    ·exact .inr (.inr ⟨mk,hm,by simpa using hy⟩)
    ·exact h3 y hy
   ·obtain ⟨w',g1,g2⟩:=h4 w (es.push ⟨.mark mk,false,true⟩) m;exact ⟨w',by simp only [Sem.runT]; rw [g1]; simp,g2⟩
 | .halt _,_,h=>h.elim
theorem c8 {α:Type} {p:Program} {pm pm':Nat→Prop} {fr:Nat} (hp:∀ b,pm b→pm' b) {Q:α→World→Prop}:∀ (e:Sem α) (v:World),e.wpS p pm fr Q v→e.wpS p pm' fr Q v
 | .pure _,_,h=>h
 | .load _ _ k,v,⟨h1,x,h2,h3⟩=>⟨h1,x,h2,c8 hp (k x) v h3⟩
 | .store _ _ _ k,v,⟨h2,h3,h4⟩=>⟨h2,hp _ h3,h4.imp (fun ⟨g0,g1,g2,g3⟩=>⟨g0,g1,g2,c8 hp k _ g3⟩) (fun ⟨g0,g1,g2,g3⟩=>⟨g0,g1,g2,c8 hp k _ g3⟩)⟩
 | .new _ k,v,⟨h1,h1',h2⟩=>⟨h1,h1',c8 hp (k _) _ h2⟩
 | .shape _ k,v,⟨h1,h2⟩=>⟨h1,c8 hp (k _) _ h2⟩
 | .freeze _ _ k,v,⟨h1,h2,h2',h3⟩=>⟨h1,hp _ h2,h2',c8 hp k _ h3⟩
 | .frozen _ k,v,⟨h1,h2⟩=>⟨h1,c8 hp (k _) _ h2⟩
 | .getObj _ k,v,⟨h1,o,h2,h3,h4,h5⟩=>⟨h1,o,h2,h3,h4,c8 hp (k o) _ h5⟩
 | .setObj _ _ k,v,⟨h1,h2,h2',h3,h3',h4,h5,h6⟩=>⟨h1,hp _ h2,h2',h3,h3',h4,h5,c8 hp k _ h6⟩
 | .choose q k,v,h=>by
   simp only [Sem.wpS] at h ⊢;split at h
   ·rename_i hq; rw [if_pos hq]; exact c8 hp (k 0) _ h
   ·rename_i hq; rw [if_neg hq]; exact c8 hp (k _) _ h
 | .sys _ _,_,h=>h.elim
 | .program k,v,h=>c8 hp (k p) v h
 | .mark _ k,v,⟨h1,h2⟩=>⟨h1,c8 hp k v h2⟩
 | .halt _,_,h=>h.elim
theorem aU {α:Type} {p:Program} {pm:Nat→Prop} {fr:Nat} {Q Q':α→World→Prop} (hq:∀ a v,Q a v→Q' a v):∀ (e:Sem α) (v:World),e.wpS p pm fr Q v→e.wpS p pm fr Q' v
 | .pure _,_,h=>hq _ _ h
 | .load _ _ k,v,⟨h1,x,h2,h3⟩=>⟨h1,x,h2,aU hq (k x) v h3⟩
 | .store _ _ _ k,v,⟨h2,h3,h4⟩=>⟨h2,h3,h4.imp (fun ⟨g0,g1,g2,g3⟩=>⟨g0,g1,g2,aU hq k _ g3⟩) (fun ⟨g0,g1,g2,g3⟩=>⟨g0,g1,g2,aU hq k _ g3⟩)⟩
 | .new _ k,v,⟨h1,h1',h2⟩=>⟨h1,h1',aU hq (k _) _ h2⟩
 | .shape _ k,v,⟨h1,h2⟩=>⟨h1,aU hq (k _) _ h2⟩
 | .freeze _ _ k,v,⟨h1,h2,h2',h3⟩=>⟨h1,h2,h2',aU hq k _ h3⟩
 | .frozen _ k,v,⟨h1,h2⟩=>⟨h1,aU hq (k _) _ h2⟩
 | .getObj _ k,v,⟨h1,o,h2,h3,h4,h5⟩=>⟨h1,o,h2,h3,h4,aU hq (k o) _ h5⟩
 | .setObj _ _ k,v,⟨h1,h2,h2',h3,h3',h4,h5,h6⟩=>⟨h1,h2,h2',h3,h3',h4,h5,aU hq k _ h6⟩
 | .choose q k,v,h=>by
   simp only [Sem.wpS] at h ⊢;split at h
   ·rename_i hq'; rw [if_pos hq']; exact aU hq (k 0) _ h
   ·rename_i hq'; rw [if_neg hq']; exact aU hq (k _) _ h
 | .sys _ _,_,h=>h.elim
 | .program k,v,h=>aU hq (k p) v h
 | .mark _ k,v,⟨h1,h2⟩=>⟨h1,aU hq k v h2⟩
 | .halt _,_,h=>h.elim
theorem bA {α β:Type} {p:Program} {pm:Nat→Prop} {fr:Nat} {Q:β→World→Prop} (f:α→Sem β):∀ (e:Sem α) (v:World),e.wpS p pm fr (fun a v'=>(f a).wpS p pm fr Q v') v→(e.bind f).wpS p pm fr Q v
 | .pure _,_,h=>h
 | .load _ _ k,v,⟨h1,x,h2,h3⟩=>⟨h1,x,h2,bA f (k x) v h3⟩
 | .store _ _ _ k,v,⟨h2,h3,h4⟩=>⟨h2,h3,h4.imp (fun ⟨g0,g1,g2,g3⟩=>⟨g0,g1,g2,bA f k _ g3⟩) (fun ⟨g0,g1,g2,g3⟩=>⟨g0,g1,g2,bA f k _ g3⟩)⟩
 | .new _ k,v,⟨h1,h1',h2⟩=>⟨h1,h1',bA f (k _) _ h2⟩
 | .shape _ k,v,⟨h1,h2⟩=>⟨h1,bA f (k _) _ h2⟩
 | .freeze _ _ k,v,⟨h1,h2,h2',h3⟩=>⟨h1,h2,h2',bA f k _ h3⟩
 | .frozen _ k,v,⟨h1,h2⟩=>⟨h1,bA f (k _) _ h2⟩
 | .getObj _ k,v,⟨h1,o,h2,h3,h4,h5⟩=>⟨h1,o,h2,h3,h4,bA f (k o) _ h5⟩
 | .setObj _ _ k,v,⟨h1,h2,h2',h3,h3',h4,h5,h6⟩=>⟨h1,h2,h2',h3,h3',h4,h5,bA f k _ h6⟩
 | .choose q k,v,h=>by
   simp only [Sem.wpS] at h;simp only [Sem.bind,Sem.wpS];split at h
   ·rename_i hq'; rw [if_pos hq']; exact bA f (k 0) _ h
   ·rename_i hq'; rw [if_neg hq']; exact bA f (k _) _ h
 | .sys _ _,_,h=>h.elim
 | .program k,v,h=>bA f (k p) v h
 | .mark _ k,v,⟨h1,h2⟩=>⟨h1,bA f k v h2⟩
 | .halt _,_,h=>h.elim
end Go.Gx
