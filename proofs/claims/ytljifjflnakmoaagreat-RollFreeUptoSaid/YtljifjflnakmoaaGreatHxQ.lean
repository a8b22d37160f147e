/- In company, part B: a goroutine's own run, whatever blocks the others make meanwhile; code. -/
import Derived.Conc.Own
import Derived.Conc.Listed
import Derived.AtR
import Derived.Test.YtljifjflnakmoaaGreatHxO
set_option linter.unusedVariables false
set_option linter.unusedSimpArgs false
namespace Go.Gx
open Go Go.Conc
structure bo (v v1:World):Prop where
 tape:v1.tape = v.tape
 os:v1.os = v.os
 output:v1.output = v.output
 size:v.heap.size ≤ v1.heap.size
 old:∀ i:Nat,i < v.heap.size→v1.heap[i]? = v.heap[i]?
 new:∀ i:Nat,v.heap.size ≤ i→i < v1.heap.size→v1.heap[i]? = some dummy
theorem bo.refl (v:World):bo v v:=⟨rfl,rfl,rfl,Nat.le_refl _,fun _ _=>rfl,fun i h1 h2=>by omega⟩
theorem bo.trans {a b c:World} (h:bo a b) (k:bo b c):bo a c :=
 ⟨k.tape.trans h.tape,k.os.trans h.os,k.output.trans h.output,Nat.le_trans h.size k.size,fun i hi=>(k.old i (Nat.lt_of_lt_of_le hi h.size)).trans (h.old i hi),
  fun i h1 h2=>by
   by_cases hb:i < b.heap.size
   ·exact (k.old i hb).trans (h.new i h1 hb)
   ·exact k.new i (by omega) h2⟩
theorem ik.m8 {pm pm':Nat→Prop} {v v':World} (h:ik pm v v') (hp:∀ b,pm b→pm' b):ik pm' v v' :=
 ⟨h.size,h.tape,h.os,h.output,h.drawn,fun i hi hn=>h.old i hi (fun h=>hn (hp i h)),h.hid,h.sl,h.vis,h.nv,h.fresh⟩
theorem EvS.m8 {pm pm':Nat→Prop} {fr:Nat} {v:World} {e:Event} (h:EvS pm fr v e) (hp:∀ b,pm b→pm' b):EvS pm' fr v e:=by
 rcases h with ⟨a,h1,h2,h3,h4⟩ | ⟨r,h1,h2,h3,h4,h5⟩ | h
 ·exact .inl ⟨a,h1,h2,h3,h4.imp (fun ⟨g1,g2⟩=>⟨g1,fun h=>⟨hp _ (g2 h).1,(g2 h).2⟩⟩) (.imp (fun ⟨g0,g1,g2⟩=>⟨g0,g1,fun h=>hp _ (g2 h)⟩) id)⟩
 ·exact .inr (.inl ⟨r,h1,h2,h3,h4,fun h=>⟨hp _ (h5 h).1,(h5 h).2⟩⟩)
 ·exact .inr (.inr h)
structure Ext where
 fits:World→World→Prop
 kind:Bool→Goroutine→World→World→(Goroutine→World→Prop)→Prop
 blk:Goroutine→Prop
 up:World→Prop
 mono:∀ {m g v w} {S S':Goroutine→World→Prop},kind m g v w S→(∀ g' v',S g' v'→S' g' v')→kind m g v w S'
structure En where
 X:Ext
 fr:Nat
 rnd:Option Nat
def uF (P:Program) (main:Bool) (pm:Nat→Prop) (fr:Nat) (g:Goroutine) (v w:World) (g':Goroutine) (v':World):Prop :=
 ∃ w' es,stepG P main g w = .go g' w' es ∧ ik pm v v' ∧ Beside v w v' w' ∧ ∀ e ∈ es,EvS pm fr v' e
structure Met (X:Ext) (v v1 w:World):Prop where
 grow:bo v v1
 nv:a9 v1
 msk:Msk v1 w
 fits:X.fits v1 w
inductive cQ (X:Ext) (P:Program) (main:Bool) (pm:Nat→Prop) (fr:Nat) (T:Goroutine→World→Prop):Goroutine→World→Prop
 | stop {g:Goroutine} {v:World} (h:T g v):cQ X P main pm fr T g v
 | step {g:Goroutine} {v:World} (hr:g.status = .running) (bl:Bool) (hb:bl = true→X.blk g) (f:World→World→Goroutine→World→Prop)
  (h:∀ v1 w,Met X v v1 w→(bl = true→X.up w)→(∃ g' v',uF P main pm fr g v1 w g' v' ∧ f v1 w g' v') ∨ X.kind main g v1 w (f v1 w))
  (ih:∀ v1 w,Met X v v1 w→(bl = true→X.up w)→∀ g' v',f v1 w g' v'→cQ X P main pm fr T g' v'):cQ X P main pm fr T g v
section
variable {X:Ext} {P:Program} {main:Bool} {pm:Nat→Prop} {fr:Nat} {T T':Goroutine→World→Prop} {g:Goroutine} {v:World}
theorem cQ.gen (hr:g.status = .running) (bl:Bool) (hb:bl = true→X.blk g)
 (h:∀ v1 w,Met X v v1 w→(bl = true→X.up w)→(∃ g' v',uF P main pm fr g v1 w g' v' ∧ cQ X P main pm fr T g' v') ∨ X.kind main g v1 w (fun g' v'=>cQ X P main pm fr T g' v')):cQ X P main pm fr T g v :=
 .step hr bl hb (fun _ _ g' v'=>cQ X P main pm fr T g' v') h fun _ _ _ _ _ _ h=>h
theorem cQ.go (hr:g.status = .running) (h:∀ v1 w,Met X v v1 w→∃ g' v',uF P main pm fr g v1 w g' v' ∧ cQ X P main pm fr T g' v'):cQ X P main pm fr T g v :=
 .gen hr false (fun h=>by cases h) fun v1 w m _=>.inl (h v1 w m)
theorem cQ.bind (h:cQ X P main pm fr T g v) (k:∀ g v,T g v→cQ X P main pm fr T' g v):cQ X P main pm fr T' g v:=by
 induction h with
 | stop h=>exact k _ _ h
 | step hr bl hb f h _ ih=>exact .step hr bl hb f h ih
theorem cQ.m8 {pm':Nat→Prop} (h:cQ X P main pm fr T g v) (hp:∀ b,pm b→pm' b):cQ X P main pm' fr T g v:=by
 induction h with
 | stop h=>exact .stop h
 | step hr bl hb f h _ ih =>
   refine .step hr bl hb f (fun v1 w m u=>(h v1 w m u).imp ?_ id) ih;rintro ⟨g',v',⟨w',es,h1,h2,h3,h5⟩,h6⟩;exact ⟨g',v',⟨w',es,h1,h2.m8 hp,h3,fun e he=>(h5 e he).m8 hp⟩,h6⟩
def Closed (T:Goroutine→World→Prop):Prop:=∀ g v v1,T g v→bo v v1→T g v1
theorem Met.grow0 {v1 v2 w:World} (hg:bo v v1) (m:Met X v1 v2 w):Met X v v2 w:=⟨hg.trans m.grow,m.nv,m.msk,m.fits⟩
theorem cQ.grow (hT:Closed T) (h:cQ X P main pm fr T g v) {v1:World} (hg:bo v v1):cQ X P main pm fr T g v1:=by
 cases h with
 | stop h=>exact .stop (hT _ _ _ h hg)
 | step hr bl hb f h ih=>exact .step hr bl hb f (fun v2 w m u=>h v2 w (m.grow0 hg) u) (fun v2 w m u=>ih v2 w (m.grow0 hg) u)
theorem uF.ctl {w:World} {g':Goroutine} (h:stepG P main g w = .go g' w #[]) (m:Msk v w):uF P main pm fr g v w g' v :=
 ⟨w,#[],h,.refl _ _,.refl m,by simp⟩
theorem cQ.ctl (hT:Closed T) {g':Goroutine} (hr:g.status = .running) (h:∀ w,stepG P main g w = .go g' w #[]) (k:cQ X P main pm fr T g' v):cQ X P main pm fr T g v :=
 .go hr fun v1 w m=>⟨g',v1,.ctl (h w) m.msk,k.grow hT m.grow⟩
end
section moves
variable {P:Program} {main:Bool} {b:Frame} {a:Act} {k:List Item} {cs:List Frame} (w:World)
theorem xn:stepG P main (G (b.atR a (.code .skip :: k)) cs) w = .go (G (b.atR a k) cs) w #[]:=by simp [G,stepG,stepG.exec,Frame.atR]
theorem tT {id:Nat}:stepG P main (G (b.atR a (.inBlock id :: k)) cs) w = .go (G (b.atR a k) cs) w #[]:=by simp [G,stepG,stepG.exec,Frame.atR]
theorem gQ {x y:Code}:stepG P main (G (b.atR a (.code (.seq x y) :: k)) cs) w = .go (G (b.atR a (.code x :: .code y :: k)) cs) w #[]:=by simp [G,stepG,stepG.exec,Frame.atR]
theorem sr {c:Operand} {x y:Code} {t:Bool} (h:a.eval c = .bool t):stepG P main (G (b.atR a (.code (.cond c x y) :: k)) cs) w = .go (G (b.atR a (.code (if t then x else y) :: k)) cs) w #[]:=by
 have h':=congrFun (Frame.eval_atR b a (.code (.cond c x y) :: k)) c;rw [h] at h';simp only [Frame.atR] at h';simp [G,stepG,stepG.exec,Frame.atR,h']
theorem tU {id:Nat} {c:Code}:stepG P main (G (b.atR a (.code (.block id c) :: k)) cs) w = .go (G (b.atR a (.code c :: .inBlock id :: k)) cs) w #[]:=by simp [G,stepG,stepG.exec,Frame.atR]
theorem gR_loop {c:Code}:stepG P main (G (b.atR a (.code (.loop c) :: k)) cs) w = .go (G (b.atR a (.code c :: .inLoop c :: k)) cs) w #[]:=by simp [G,stepG,stepG.exec,Frame.atR]
theorem vU {c:Code}:stepG P main (G (b.atR a (.inLoop c :: k)) cs) w = .go (G (b.atR a (.code c :: .inLoop c :: k)) cs) w #[]:=by simp [G,stepG,stepG.exec,Frame.atR]
theorem gR_exit {id:Nat} {k':List Item} (h:exitTo id k = some k'):stepG P main (G (b.atR a (.code (.exit id) :: k)) cs) w = .go (G (b.atR a k') cs) w #[]:=by simp [G,stepG,stepG.exec,Frame.atR,h]
theorem dC {id:Nat} {ops:Array Oper}:stepG P main (G (b.atR a (.code (.region id ops false) :: k)) cs) w = .go (G (b.atR a (.inRegion ops (List.range ops.size) :: k)) cs) w #[]:=by simp [G,stepG,stepG.exec,Frame.atR]
theorem cd {ops:Array Oper}:stepG P main (G (b.atR a (.inRegion ops [] :: k)) cs) w = .go (G (b.atR a k) cs) w #[]:=by simp [G,stepG,stepG.exec,Frame.atR]
theorem gR_unwanted {ops:Array Oper} {i:Nat} {rest:List Nat} {o:Oper} (ho:ops[i]? = some o) (hw:Region.wanted o (yielded ops a.tmps) = false) :
 stepG P main (G (b.atR a (.inRegion ops (i :: rest) :: k)) cs) w = .go (G (b.atR (a.put o.dst undef) (.inRegion ops rest :: k)) cs) w #[]:=by
 have hfin:(b.atR a (.inRegion ops (i :: rest) :: k)).finish undef = b.atR (a.put o.dst undef) (.inRegion ops rest :: k):=by rw [Frame.finish_atR,ho]; rfl
 rw [← hfin];simp [G,stepG,stepG.exec,Frame.atR,ho,hw]
theorem gR_draw {id:Nat} {ops:Array Oper}:stepG P main (G (b.atR a (.code (.region id ops true) :: k)) cs) w =
 .go (G (b.atR a (.inRegion ops (Region.schedule (P.follows .mixedOrders) ops (w.tape w.drawn (.order b.fn id))) :: k)) cs) { w with drawn:=w.drawn + 1 } #[]:=by
 simp [G,stepG,stepG.exec,Frame.atR,choose,Sem.run,Question.forced,Question.cut]
theorem gR_ret (hb:b.roundOf = none):stepG P main (G (b.atR a (.code .ret :: k)) cs) w = .go (G { b.atR a (.code .ret :: k) with mode:=.returning } cs) w #[]:=by
 simp [G,stepG,stepG.exec,Frame.atR,hb]
theorem gR_end (hb:b.roundOf = none):stepG P main (G (b.atR a []) cs) w = .go (G { b.atR a [] with mode:=.returning } cs) w #[]:=by
 simp [G,stepG,stepG.exec,Frame.atR,hb]
end moves
def ArrX (P:Program) (E:En) (main:Bool) (pm:Nat→Prop) (T:Goroutine→World→Prop) (b:Frame) (k:List Item) (cs:List Frame):Exit→Act→World→Prop
 | .normal,a,v=>cQ E.X P main pm E.fr T (G (b.atR a k) cs) v
 | .exit id,a,v=>(∀ k',exitTo id k = some k'→cQ E.X P main pm E.fr T (G (b.atR a k') cs) v) ∧ (exitTo id k = none→∀ k',exitTo id k' = none→cQ E.X P main pm E.fr T (G (b.atR a (.code (.exit id) :: k')) cs) v)
 | .ret,a,v=>∀ k',cQ E.X P main pm E.fr T (G (b.atR a (.code .ret :: k')) cs) v
 | _,_,_=>False
end Go.Gx
namespace Go
open Gx Conc in
def Code.wpX (P:Program) (E:En) (pm:Nat→Prop) (c:Code) (Q:Exit→Act→World→Prop) (a:Act) (v:World):Prop :=
 ∀ (main:Bool) (T:Goroutine→World→Prop) (b:Frame) (k:List Item) (cs:List Frame),Closed T→b.kind ≠ .early→b.roundOf = E.rnd →
   (∀ e a' v',Q e a' v'→ArrX P E main pm T b k cs e a' v')→cQ E.X P main pm E.fr T (G (b.atR a (.code c :: k)) cs) v
end Go
namespace Go.Gx
open Go Go.Conc
def qW (P:Program) (E:En) (pm:Nat→Prop) (ops:Array Oper) (todo:List Nat) (Q:Exit→Act→World→Prop) (a:Act) (v:World):Prop :=
 ∀ (main:Bool) (T:Goroutine→World→Prop) (b:Frame) (k:List Item) (cs:List Frame),Closed T→b.kind ≠ .early→b.roundOf = E.rnd →
   (∀ e a' v',Q e a' v'→ArrX P E main pm T b k cs e a' v')→cQ E.X P main pm E.fr T (G (b.atR a (.inRegion ops todo :: k)) cs) v
section
variable {P:Program} {main:Bool} {pm:Nat→Prop} {E:En} {T:Goroutine→World→Prop} {Q:Exit→Act→World→Prop} {a:Act} {v:World} {b:Frame} {k:List Item} {cs:List Frame}
theorem ArrX.grow (hT:Closed T) {e:Exit} (h:ArrX P E main pm T b k cs e a v) {v1:World} (hg:bo v v1):ArrX P E main pm T b k cs e a v1:=by
 cases e with
 | normal=>exact cQ.grow hT h hg
 | exit id=>exact ⟨fun k' hk=>(h.1 k' hk).grow hT hg,fun hn k' hk=>(h.2 hn k' hk).grow hT hg⟩
 | ret=>exact fun k'=>(h k').grow hT hg
 | _=>exact h
theorem ArrX.push {x:Item} {e:Exit} (hx:x.plain = true) (he:e ≠ .normal) (h:ArrX P E main pm T b k cs e a v):ArrX P E main pm T b (x :: k) cs e a v:=by
 cases e with
 | normal=>exact absurd rfl he
 | exit id =>
   have e1:exitTo id (x :: k) = exitTo id k:=by cases x <;> simp_all [exitTo,Item.plain]
   exact ⟨fun k' hk=>h.1 k' (by rw [← e1]; exact hk),fun hn k' hk=>h.2 (by rw [← e1]; exact hn) k' hk⟩
 | ret=>exact h
 | _=>exact h
theorem mJ {c:Code} {Q':Exit→Act→World→Prop} (h:c.wpX P E pm Q a v) (hq:∀ e a v,Q e a v→Q' e a v):c.wpX P E pm Q' a v :=
 fun main T b k cs hT hk hr hc=>h main T b k cs hT hk hr fun e a' v' q=>hc e a' v' (hq _ _ _ q)
theorem va {c:Code} {pm':Nat→Prop} (hp:∀ b,pm b→pm' b) (h:c.wpX P E pm Q a v):c.wpX P E pm' Q a v:=fun main T b k cs hT hk hr hc=>by
 have hT':Closed (fun g v=>cQ E.X P main pm' E.fr T g v):=fun g v v1 h hg=>h.grow hT hg
 have h1:=h main (fun g v=>cQ E.X P main pm' E.fr T g v) b k cs hT' hk hr fun e a' v' q=>by
  have h2:=hc e a' v' q;cases e with
  | normal=>exact .stop h2
  | exit id=>exact ⟨fun k' hk'=>.stop (h2.1 k' hk'),fun hn k' hk'=>.stop (h2.2 hn k' hk')⟩
  | ret=>exact fun k'=>.stop (h2 k')
  | _=>exact h2
 exact (h1.m8 hp).bind fun g v h=>h
theorem wpX_skip (h:Q .normal a v):Code.skip.wpX P E pm Q a v:=fun main T b k cs hT hk hr hc=>.ctl hT rfl (fun w=>xn w) (hc _ _ _ h)
theorem wpX_ret (h:Q .ret a v):Code.ret.wpX P E pm Q a v:=fun main T b k cs hT hk hr hc=>hc _ _ _ h k
theorem wpX_exit {id:Nat} (h:Q (.exit id) a v):(Code.exit id).wpX P E pm Q a v:=fun main T b k cs hT hk hr hc=>by
 have h1:=hc _ _ _ h;cases hk':exitTo id k with
 | none=>exact h1.2 hk' k hk'
 | some k'=>exact .ctl hT rfl (fun w=>gR_exit w hk') (h1.1 k' hk')
theorem wpX_seq {x y:Code} (h:x.wpX P E pm (Exit.then (y.wpX P E pm Q) Q) a v):(Code.seq x y).wpX P E pm Q a v:=fun main T b k cs hT hk hr hc=>by
 refine .ctl hT rfl (fun w=>gQ w) (h main T b (.code y :: k) cs hT hk hr fun e a' v' q=>?_);cases e with
 | normal=>exact q main T b k cs hT hk hr hc
 | _=>exact (hc _ _ _ q).push (x:=.code y) rfl (by simp)
theorem sG {c:Operand} {x y:Code} {t:Bool} (hc:a.eval c = .bool t) (h1:t = true→x.wpX P E pm Q a v) (h2:t = false→y.wpX P E pm Q a v):(Code.cond c x y).wpX P E pm Q a v :=
 fun main T b k cs hT hk hr hq=>by
  refine .ctl hT rfl (fun w=>sr w hc) ?_;cases t with
  | true=>exact h1 rfl main T b k cs hT hk hr hq
  | false=>exact h2 rfl main T b k cs hT hk hr hq
theorem wpX_block {id:Nat} {c:Code} (h:c.wpX P E pm (Exit.inBlock id Q) a v):(Code.block id c).wpX P E pm Q a v:=fun main T b k cs hT hk hr hc=>by
 refine .ctl hT rfl (fun w=>tU w) (h main T b (.inBlock id :: k) cs hT hk hr fun e a' v' q=>?_);cases e with
 | normal=>exact .ctl hT rfl (fun w=>tT w) (hc _ _ _ q)
 | exit id' =>
   by_cases hid:id' = id
   ·simp only [Exit.inBlock,hid,if_true] at q;subst hid;exact ⟨fun k' hk'=>by
     have:k' = k:=by simpa [exitTo] using hk'.symm
     subst this;exact hc _ _ _ q,fun hn=>by simp [exitTo] at hn⟩
   ·simp only [Exit.inBlock,hid,if_false] at q;have h1:=hc _ _ _ q;have e1:exitTo id' (.inBlock id :: k) = exitTo id' k:=by
     have:(id == id') = false:=by simp; exact fun h=>hid h.symm
     simp [exitTo,this]
    exact ⟨fun k' hk'=>h1.1 k' (by rw [← e1]; exact hk'),fun hn k' hk'=>h1.2 (by rw [← e1]; exact hn) k' hk'⟩
 | ret=>exact hc _ _ _ q
 | goto l=>exact hc _ _ _ q
 | panic ch=>exact hc _ _ _ q
 | outgrown=>exact hc _ _ _ q
theorem wpX_loop {c:Code} (I:Nat→Act→World→Prop) (m0:Nat) (h0:I m0 a v)
 (round:∀ m a v,I m a v→c.wpX P E pm (Exit.then (fun a' v'=>∃ m',m' < m ∧ I m' a' v') Q) a v):(Code.loop c).wpX P E pm Q a v:=fun main T b k cs hT hk hr hc=>by
 have key:∀ m a v,I m a v→cQ E.X P main pm E.fr T (G (b.atR a (.code c :: .inLoop c :: k)) cs) v:=by
  intro m
  induction m using Nat.strongRecOn with
  | _ m ih =>
    intro a v hI;refine round m a v hI main T b (.inLoop c :: k) cs hT hk hr fun e a' v' q=>?_
    cases e with
    | normal =>
      obtain ⟨m',hlt,hI'⟩:=q;exact .ctl hT rfl (fun w=>vU w) (ih m' hlt a' v' hI')
    | _=>exact (hc _ _ _ q).push (x:=.inLoop c) rfl (by simp)
 exact .ctl hT rfl (fun w=>gR_loop w) (key m0 a v h0)
theorem wpX_region {id:Nat} {ops:Array Oper} (h:qW P E pm ops (List.range ops.size) Q a v):(Code.region id ops false).wpX P E pm Q a v:=fun main T b k cs hT hk hr hc =>
 .ctl hT rfl (fun w=>dC w) (h main T b k cs hT hk hr hc)
theorem tw {ops:Array Oper} (h:Q .normal a v):qW P E pm ops [] Q a v:=fun main T b k cs hT hk hr hc=>.ctl hT rfl (fun w=>cd w) (hc _ _ _ h)
theorem oC {ops:Array Oper} {i:Nat} {rest:List Nat} {o:Oper} (ho:ops[i]? = some o) (hw:Region.wanted o (yielded ops a.tmps) = false) (h:qW P E pm ops rest Q (a.put o.dst undef) v) :
 qW P E pm ops (i :: rest) Q a v:=fun main T b k cs hT hk hr hc=>.ctl hT rfl (fun w=>gR_unwanted w ho hw) (h main T b k cs hT hk hr hc)
theorem wpX_draw {id:Nat} {ops:Array Oper} (h:∀ v1,bo v v1→a9 v1→∀ t,qW P E pm ops (Region.schedule (P.follows .mixedOrders) ops t) Q a { v1 with drawn:=v1.drawn + 1 }):(Code.region id ops true).wpX P E pm Q a v :=
 fun main T b k cs hT hk hr hc=>.go rfl fun v1 w m=>by
  refine ⟨_,_,⟨{ w with drawn:=w.drawn + 1 },#[],?_,?_,⟨?_,fun _ _ _ _=>rfl,fun _ k _ _=>.refl k _,rfl,rfl,rfl⟩,by simp⟩,h v1 m.grow m.nv (v1.tape v1.drawn (.order b.fn id)) main T b k cs hT hk hr hc⟩
  ·rw [gR_draw,m.msk.tape,m.msk.drawn]
  ·exact ⟨Nat.le_refl _,rfl,rfl,rfl,Nat.le_succ _,fun _ _ _=>rfl,fun _ _ h _=>h,fun _ _ x h=>⟨x,h⟩,fun _ h=>h,fun h=>h,fun _ _ h h'=>kh h h'⟩
  ·exact ⟨m.msk.size,m.msk.tape,by simp [m.msk.drawn],m.msk.os,m.msk.output,m.msk.vis,m.msk.slot,m.msk.ro⟩
end
end Go.Gx
