/- Part. -/
import Derived.Test.YtgnmiaonbadbnaaGreatM3
import Derived.Test.YtgnmiaonbadbnaaGreatM1
import Derived.Conc.CrowdSel
import Derived.Conc.TokenTrace
import Derived.Conc.Fork3
import Derived.Conc.CrowdTrace
import Derived.Conc.Token
set_option linter.unusedVariables false
set_option linter.defProp false
set_option linter.unusedSimpArgs false
set_option linter.unusedSectionVars false
set_option maxRecDepth 100000
set_option maxHeartbeats 2000000
namespace Go.Proofs.YtgnmiaonbadbnaaGreat.Oc
open Go Go.Gx Go.Proofs.YtgnmiaonbadbnaaGreat.Tri
theorem TP (k:gD) (w:World):aR 162 #[zy.val k] w (dO w (fO (wE 14695981039346656037 (Xt k)))):=by
 refine iZ 7 Tryz.func162 (λ_ _=>?_);refine m15 ?_;refine box aa (λb1=>?_);refine m201 ?_;refine sg ?_;refine m275 ?_;refine jW eN (o1 rfl) (λw I=>Ur _ w) (λv2=>?_);refine cons (buildSlice Qs Bj z58 (.cons aa .nil) rfl rfl (λv3=>?_));refine cons (dg eN (o1 rfl) (λw I=>XF _ _ w (MC.mk' (io w I) (.cons (io w I) .nil))) ?_);refine m20 ?_;simp
theorem Pg {n:Int} (h:0 <= n /\ n <= 1000000):(UInt64.ofInt n).toNat = n.toNat:=by
 obtain⟨m,rfl⟩:=gK h.1
 grind [UInt64.ofInt,UInt64.ofNat,UInt64.toNat_ofNat',Nat.mod_eq_of_lt,Int.toNat_natCast]
theorem Zg (h:UInt64):h / 1048576 = jV h 20:=by
 apply cC.1;rw [UInt64.toNat_div,fc]
 rfl
def Tv (k:gD):UInt64:=wE 14695981039346656037 (Xt k)
def alc (k:gD) (n:Int):Int × Int:=if n < 1 \/ n > 16 then (0,2) else (((Tv k).toNat % n.toNat:Nat),0)
def vz (k:gD) (f:UInt64):UInt64 × Int:=if f = 0 then (0,2) else (jV (Tv k) 20 % f,0)
theorem WO (k:gD) (f:UInt64) (w:World):aR 112 #[zy.val k,fO f] w (dO w (.tuple #[fO (vz k f).1,I (vz k f).2])):=by
 refine iZ 13 Tryz.func112 (λ_ _=>?_);refine m15 ?_;refine box aa (λb1=>?_);refine ac (fO 0) ?_;refine m149 ?_;refine co (Ev.qG aa (.c (v:=fO 0) rfl)) ?_;refine nP ?_;refine ig rfl (λh0=>?_) (λh0=>?_)
 ·refine sg (ac (fO 0) ?_);refine ac (I 2) ?_;refine m62 ?_;refine m55 ?_
  simp_all [vz,Zg]
 ·refine m153 ?_;refine m275 ?_;refine dg eN (o1 rfl) (λw I=>TP _ w) ?_;refine m66 ?_;refine mv rfl (co (Ev.F8 aa aa (λ_=>h0)) ?_);refine m52 ?_;refine m55 ?_;simp [vz,h0,Zg,Tv]
  try rfl
end Go.Proofs.YtgnmiaonbadbnaaGreat.Oc
namespace Go.Proofs.YtgnmiaonbadbnaaGreat
open Go Go.Gx Go.Proofs.YtgnmiaonbadbnaaGreat.Tri Go.Proofs.YtgnmiaonbadbnaaGreat.Oc
variable {o:Nat} {α:Type} {P:Program} {K:Ctx} {F:Fr} {L:List du} {ty:TypeId} {E:dy α} {m:UInt64} {f:FuncId} {fn:Func} {args:List Operand} {qJ:Array TypeId} {g:Bool} {x:Operand}
theorem wO {w:World} {b:Nat} {n:UInt64} (h:eK lG w b o n):w.cell? ⟨b,o,none⟩ = some (.int .u64 (n.toNat:Int)):=by
 have:=h 0 _ rfl
 assumption
theorem ake {L':List du} {Q:Exit->Act->World->Prop} {N:Act->World->Prop} {ops:Array Oper} {pos:String} {af:Array Edge} {d:Nat}
 {b:Nat} {xv:α} {n:UInt64} {T:TypeId}
  (hf:P.funcs[f]? = some fn) (C6:(fn.name == "runtime.NumGoroutine") = false) (hb:fn.body.isNone = true) (hn:Extern.findNext fn = none) (he:Extern.find fn = some (Extern.Atomic.casT (.int .u64)))
  (l:aB E lG o) (fQ:lM F true args [.pointer (some ⟨b,o,none⟩),fO n,fO m]) (hx:l.get xv = n)
  (hu:mS L (Var b E xv T) (Var b E (l.set xv m) T) L') (next:Sat K N ((d,true,.bool true) :: F) L') (hd:Nat.blt d K.n = true:=by rfl) :
  Sat K (dw P K ops Q ⟨some d,.call { callee:=.value (.func f),args:=args.toArray,argTypes:=qJ },ty,pos,af,none⟩ N) F L:=λa w G=>by
  refine dI rfl rfl λhnv=>?_
  have hbk:w.heap[b]? = some _:=(G.inv.own _ hu.mem).1;have hp:eK lG w b o n:=by
   rw [<- hx];exact ed hu.mem l w G.inv
  have hc:=wO hp;have hz:w.frozen? ⟨b,o,none⟩ = false:=by
   simp [World.frozen?,hbk]
  have h1:=fQ.eval rfl G.fo;have ym:=l.fits;have hrow:w.setCell ⟨b,o,none⟩ (.int .u64 (m.toNat:Int)) = w.setRow b (E.cells (l.set xv m)).toArray:=by
   rw [setCell_eq_setRow w b o _ _ _ _ hbk,l.wC]
   congr 1
   have hlt:o < (E.cells xv).length:=by
    rw [E.len];have:lG.size = 1:=rfl;omega
   show (E.cells xv).toArray.setIfInBounds o (fO m) = _;rw [List.setIfInBounds_toArray,gX,if_pos hlt];have e:(E.cells xv).take o ++ lG.cells m ++ (E.cells xv).drop (o + lG.size) = (E.cells xv).take o ++ fO m :: (E.cells xv).drop (o + 1):=by
    rw [bM]
    rfl
   rw [e]
  have hex:execOp a.eval ⟨some d,.call { callee:=.value (.func f),args:=args.toArray,argTypes:=qJ },ty,pos,af,none⟩ = callFunc f #[.pointer (some ⟨b,o,none⟩),fO n,fO m]:=by
   simp [execOp,resolve,Deferred.ofValue,invoke,Act.eval,h1]
  have qT:=hu.mem;have hlt:b < w.heap.size:=by grind
  have hw:=G.inv.upd hu (pB _ _ _) (setRow_heap w b _ _ _ _ hbk) (by
   intro k hk;have:k = b:=hk;subst this;exact ⟨.inl rfl,by simpa using hlt⟩)
  show Sem.wpS P (q9 K) K.E.fr _ _ w;rw [hex];refine FQ hf C6 hb hn he (Q5 ⟨hc,hz,((G.inv.own _ qT).2 b rfl).1,G.inv.fr qT b rfl⟩ ?_);rw [hrow];exact next _ _ (G.put d true _ _ (by simp_all) rfl hw)
theorem acI {b:Nat} {n:UInt64}
 (hf:P.funcs[f]? = some fn) (C6:(fn.name == "runtime.NumGoroutine") = false) (hb:fn.body.isNone = true) (hn:Extern.findNext fn = none) (he:Extern.find fn = some (Extern.Atomic.loadT (.int .u64)))
 (fQ:lM F g args [.pointer (some ⟨b,o,none⟩)]) (h:∀ w,bS K L w->eK lG w b o n):Ev P K F L g (.call { callee:=.value (.func f),args:=args.toArray,argTypes:=qJ }) ty (fO n) :=
 λhg=>⟨rfl,λa fo w I hnv dst pos af gd=>by
  have hc:=wO (h w I);have h1:=fQ.eval hg fo;have hex:execOp a.eval ⟨dst,.call { callee:=.value (.func f),args:=args.toArray,argTypes:=qJ },ty,pos,af,gd⟩ = callFunc f #[.pointer (some ⟨b,o,none⟩)]:=by
   simp [execOp,resolve,Deferred.ofValue,invoke,Act.eval,h1]
  rw [hex];refine FQ hf C6 hb hn he (cu ?_ _ _ (OA hc));rintro r w' ⟨rfl,rfl⟩
  trivial⟩
structure gq where
def gq.to:Unit->gq:=λ_=>⟨⟩
def gq.of:gq->Unit:=λ_=>()
def qH:dy gq:=l8 aen gq.to gq.of
structure db where
 blank:gq
 acD:gq
 v:UInt64
def db.to:(gq × (gq × UInt64))->db:=λx=>⟨x.1,x.2.1,x.2.2⟩
def db.of:db->(gq × (gq × UInt64)):=λx=>(x.blank,x.acD,x.v)
def oB:dy db:=l8 (cW qH (cW qH lG)) db.to db.of
def db.ahG:aB oB qH 0:=lI db.to db.of l1
def db.afH:aB oB qH 0:=lI db.to db.of (l2 l1)
def db.Vr:aB oB lG 0:=lI db.to db.of (l2 (l2 (aB.id _)))
theorem E8 (b o:Nat) (n:UInt64) (w:World) (h:eK lG w b o n):aR 72 #[.pointer (some ⟨b,o,none⟩)] w (dO w (fO n)):=by
 refine iZ 7 Tryz.func72 (λ_ _=>?_);refine sg ?_;refine m201 ?_;refine m253 ?_;refine co (acI rfl zk rfl zk zk (.cons aa .nil) (λw I=>h.keep I.keeps)) ?_;refine m20 ?_
 rfl
theorem Jz (l:aB E lG o) (b:Nat) (xv:α) (m:UInt64) (Tt:TypeId) (w:World) (h:At (Var b E xv Tt) w):aR 76 #[.pointer (some ⟨b,o,none⟩),fO (l.get xv),fO m] w (mE w (Var b E xv Tt) (λ_:Unit=>True) (λ_=>.bool true) (λ_=>Var b E (l.set xv m) Tt)):=by
 refine enter 13 _ Tryz.func76 rfl rfl (aT rfl) (uj h) (λ_ _=>?_);refine m12 ?_;refine m253 ?_;refine m247 ?_;refine ake rfl zk rfl zk zk l (.cons aa (.cons aa (.cons aa .nil))) rfl zu ?_;refine m48 ?_;refine done rfl (.tmp rfl .nil) (λw I=>?_);exact D1 () trivial rfl (by simp) w I
structure aK where
 end_:UInt64
 stage:UInt64
 seen:UInt64
 dropped:UInt64
def aK.to:(UInt64 × (UInt64 × (UInt64 × UInt64)))->aK:=λx=>⟨x.1,x.2.1,x.2.2.1,x.2.2.2⟩
def aK.of:aK->(UInt64 × (UInt64 × (UInt64 × UInt64))):=λx=>(x.end_,x.stage,x.seen,x.dropped)
def gN:dy aK:=l8 (cW lG (cW lG (cW lG lG))) aK.to aK.of
def aK.tX:aB gN lG 0:=lI aK.to aK.of l1
@[simp] theorem aK.agz (x:aK):aK.tX.get x = x.end_:=rfl
@[simp] theorem aK.aeN (x:aK) (y:UInt64):aK.tX.set x y = { x with end_:=y }:=rfl
def aK.rN:aB gN lG 1:=lI aK.to aK.of (l2 l1)
@[simp] theorem aK.adC (x:aK):aK.rN.get x = x.stage:=rfl
@[simp] theorem aK.adf (x:aK) (y:UInt64):aK.rN.set x y = { x with stage:=y }:=rfl
def aK.wy:aB gN lG 2:=lI aK.to aK.of (l2 (l2 l1))
@[simp] theorem aK.agu (x:aK):aK.wy.get x = x.seen:=rfl
@[simp] theorem aK.aeF (x:aK) (y:UInt64):aK.wy.set x y = { x with seen:=y }:=rfl
def aK.j5:aB gN lG 3:=lI aK.to aK.of (l2 (l2 (l2 (aB.id _))))
@[simp] theorem aK.IQ (x:aK):aK.j5.get x = x.dropped:=rfl
@[simp] theorem aK.HQ (x:aK) (y:UInt64):aK.j5.set x y = { x with dropped:=y }:=rfl
structure bj where
 parts:Int
 wait:UInt64
 gV:UInt64
variable {ss:List bj}
def bj.to:(Int × (UInt64 × UInt64))->bj:=λx=>⟨x.1,x.2.1,x.2.2⟩
def bj.of:bj->(Int × (UInt64 × UInt64)):=λx=>(x.parts,x.wait,x.gV)
def da:dy bj:=l8 (cW iE (cW lG lG)) bj.to bj.of
def bj.oI:aB da iE 0:=lI bj.to bj.of l1
@[simp] theorem bj.adF (x:bj):bj.oI.get x = x.parts:=rfl
@[simp] theorem bj.adi (x:bj) (y:Int):bj.oI.set x y = { x with parts:=y }:=rfl
def bj.sF:aB da lG 1:=lI bj.to bj.of (l2 l1)
@[simp] theorem bj.agt (x:bj):bj.sF.get x = x.wait:=rfl
@[simp] theorem bj.aeE (x:bj) (y:UInt64):bj.sF.set x y = { x with wait:=y }:=rfl
def bj.wA:aB da lG 2:=lI bj.to bj.of (l2 (l2 (aB.id _)))
@[simp] theorem bj.agw (x:bj):bj.wA.get x = x.gV:=rfl
@[simp] theorem bj.aeJ (x:bj) (y:UInt64):bj.wA.set x y = { x with gV:=y }:=rfl
def bh (w:UInt64):aK:=⟨jV w 50,jV w 42 &&& 255,jV w 21 &&& 2097151,w &&& 2097151⟩
def ue (s:aK):UInt64:=tC (tC (tC s.end_ 8 ||| s.stage) 21 ||| s.seen) 21 ||| s.dropped
def Ci (x:bj) (last:Int):Bool:=!(decide (x.parts <= last) || decide (100 < x.parts) || decide (x.wait < 1) || decide (1048576 < x.wait) || decide (1048576 < x.gV))
def iM:List bj->Int->Bool
 | [],_=>true
 | x :: l,last=>Ci x last && iM l x.parts
def Kf:zI 188 gN:=kI
def MP:ot 188 gN:=oq
theorem RA (n:UInt64) (w:World):aR 73 #[fO n] w (dO w (gN.val (bh n))):=by
 refine iZ 14 Tryz.func73 (λ_ _=>?_);refine m15 ?_;refine alloc Kf (λb1=>?_);refine m138 ?_;refine m66 ?_;refine mv rfl ?_;refine m66 ?_;refine co (Ev.BV aa (.c (v:=fO 255) rfl)) ?_;refine mv rfl ?_;refine m66 ?_;refine co (Ev.BV aa (.c (v:=fO 2097151) rfl)) ?_;refine mv rfl (co (Ev.BV aa (.c (v:=fO 2097151) rfl)) ?_);refine co (Ev.fe (places:=[(0,1),(1,1),(2,1),(3,1)]) Kf rfl Tryz.underlying188 zk (.cons aa (.cons aa (.cons aa (.cons aa .nil)))) (bB.cons aK.tX rfl (bB.cons aK.rN rfl (bB.cons aK.wy rfl (bB.cons aK.j5 rfl bB.nil))))) ?_;refine m89 ?_
 rfl
theorem VU (s:aK) (w:World):aR 75 #[gN.val s] w (dO w (fO (ue s))):=by
 refine iZ 25 Tryz.func75 (λ_ _=>?_);refine m15 ?_;refine box aa (λb1=>?_);refine m201 ?_;refine m35 ?_;refine co (Ev.gR s.end_ nh aa aK.tX) ?_;refine m161 ?_;refine m277 ?_;refine co (Ev.gR s.stage nh aa aK.rN) ?_;refine co (Ev.Gq aa aa) ?_;refine m161 ?_;refine cf 2 rfl ?_;refine co (Ev.gR s.seen nh aa aK.wy) ?_;refine co (Ev.Gq aa aa) ?_;refine m161 ?_;refine cf 3 rfl ?_;refine co (Ev.gR s.dropped nh aa aK.j5) ?_;refine co (Ev.Gq aa aa) ?_;refine m6 ?_;refine m20 ?_
 rfl
theorem HX (k:gD) (w:World):aR 57 #[zy.val k] w (dO w (fO (vz k 100).1)):=by
 refine iZ 11 Tryz.func57 (λ_ _=>?_);refine m15 ?_;refine box aa (λb1=>?_);refine m201 ?_;refine sg ?_;refine m275 ?_;refine dg eN (.cons aa (.cons (.c (v:=fO 100) rfl) .nil)) (λw I=>WO _ _ w) ?_;exact s71
theorem AO (l:List bj) (i:Nat) (last:Int) (h:i < l.length):iM (l.drop i) last = (Ci (l.getD i da.zero) last && iM (l.drop (i + 1)) (l.getD i da.zero).parts):=by
 grind [List.drop_eq_getElem_cons,iM,List.getD]
def rI:ot 43 da:=oq
def MG:zI 43 da:=kI
theorem KG (u:Value) (l:List bj) (w:World) (hu:bU da w u l):aR 36 #[u] w (dO w (.bool (iM l 0 && decide (0 < l.length)))):=by
 have hle:=hu.le;refine iZ 42 Tryz.func36 (λ_ _=>?_);refine m12 ?_;refine m268 ?_;refine co (Ev.len BY aa zf) ?_;refine m26 ?_;refine nP (block (lp (X:=Int × Int) (λx=>(0 <= x.1 /\ x.1 <= l.length) /\ (iM (l.drop x.1.toNat) x.2 = iM l 0)) (λx=>[dz,(0,true,u),(3,true,I x.2),(6,true,u),(7,true,I l.length),(8,true,I x.1)]) (λx=>[]) (λx=>((l.length:Int) - x.1).toNat) (0,0) ⟨?_,?_⟩ (λx hx=>?_)))
 ·omega
 ·rfl
 have⟨i,last⟩:=x;dsimp only at hx;have⟨hi,hs⟩:=hx;refine m9 ?_;refine ig rfl (λh0=>?_) (λh0=>?_)
 ·refine m191 ?_;refine co (Ev.indexAddr BY rI aa aa zf (λ_=>zo)) ?_;refine co (Ev.eT rI aa zf (λ_=>zo)) ?_;refine cons (alloc MG (λb1=>?_));refine cons (j8 rI (aB.id _) aa aa ?_);refine m143 ?_;refine m35 ?_;refine co (Ev.gS l9 aa bj.oI) ?_;refine mv rfl (co (Ev.SX aa aa) ?_);refine mv rfl (cg rfl rfl (fA 0 aa) ?_);refine cg rfl rfl (Ev.gS l9 (.g rfl id) bj.oI) ?_;refine m63 ?_;refine mv rfl ?_;refine m227 ?_;refine cg rfl rfl (Ev.gS nh (.g rfl id) bj.sF) ?_;refine m111 ?_;refine m227 ?_;refine cg rfl rfl (Ev.gS nh (.g rfl id) bj.sF) ?_;refine m128 ?_;refine mv rfl (cg rfl rfl (fA 2 aa) ?_);refine cg rfl rfl (Ev.gS nh (.g rfl id) bj.wA) ?_;refine m128 ?_;refine nP ?_;refine nG rfl (λh1=>?_) (λh1=>?_)
  ·have hst:(decide ((l.getD i.toNat da.zero).parts <= last) || decide (100 < (l.getD i.toNat da.zero).parts) || decide ((l.getD i.toNat da.zero).wait < 1) || decide (1048576 < (l.getD i.toNat da.zero).wait) || decide (1048576 < (l.getD i.toNat da.zero).gV)) = true:=h1;refine m12 ?_;refine ret (pR ?_);refine m211 ?_;refine dn rfl rfl ?_;have e:iM l 0 = false:=by
    rw [<- hs,AO l i.toNat last (by omega)];unfold Ci;rw [hst]
    rfl
   rw [e]; rfl
  ·have hst:(decide ((l.getD i.toNat da.zero).parts <= last) || decide (100 < (l.getD i.toNat da.zero).parts) || decide ((l.getD i.toNat da.zero).wait < 1) || decide (1048576 < (l.getD i.toNat da.zero).wait) || decide (1048576 < (l.getD i.toNat da.zero).gV)) = false:=h1;refine m8 ?_;refine region (cf 0 rfl ?_);refine co (Ev.gS l9 aa bj.oI) ?_;refine m283 ?_;refine mv rfl (nP (nx (i + 1,_) ⟨?_,?_⟩ ?_))
   ·omega
   ·rw [show (i + 1).toNat = i.toNat + 1 by omega,<- hs,AO l i.toNat last (by omega)]
    simp_all [Ci]
   omega
 ·refine m85 ?_;refine co (Ev.len BY aa zf) ?_;refine m137 ?_;refine m20 ?_;have e:i.toNat = l.length:=by omega
  rw [e,List.drop_length] at hs
  simp_all [iM]
theorem SB {t t':TypeId} {ms:_} (ht:P.underlying t = some (.interface ms)) (hx:cV F g x .nilIface):Ev P K F L g (.binOp .neq t x (.const .nilIface) t') ty (.bool false) :=
 Ev.bin hx (.c (v:=.nilIface) rfl) (λw=>by unfold eqGuard; simp) (λw=>by
  have e:Op.maxDepth = (Op.maxDepth - 1) + 1:=by decide
  simp only [binOp,Op.equal];rw [e];simp [Op.equalIn,pn ht,Result.andThen]) (by unfold eqGuard; simp; exact .pure _) (by
  refine .bind ?_ λ_=>.pure _
  show Tm P _ _ (Op.equalIn (9999 + 1) t .nilIface .nilIface);refine .under ht ?_;exact .pure _)
theorem Rw (o:UInt8) (w:World):aR 71 #[rC.v,U8 o] w (dO w (.tuple #[])):=by
 refine iZ 10 Tryz.func71 (λ_ _=>?_);refine m1 ?_;refine co (SB Tryz.underlying48 aa) ?_;refine nP (nS rfl (rfl) ?_);refine skip (zA rfl .nil (Cq ?_))
 rfl
structure cP where
 old:OV
 new:OV
 vV:OV
 state:db
def cP.to:(OV × (OV × (OV × db)))->cP:=λx=>⟨x.1,x.2.1,x.2.2.1,x.2.2.2⟩
def cP.of:cP->(OV × (OV × (OV × db))):=λx=>(x.old,x.new,x.vV,x.state)
def cH:dy cP:=l8 (cW (dJ dB) (cW (dJ dB) (cW (dJ aM) oB))) cP.to cP.of
def cP.IC:aB cH (dJ dB) 0:=lI cP.to cP.of l1
@[simp] theorem cP.aht (x:cP) (y:OV):cP.IC.set x y = { x with old:=y }:=rfl
def cP.xO:aB cH (dJ dB) 1:=lI cP.to cP.of (l2 l1)
@[simp] theorem cP.Wk (x:cP) (y:OV):cP.xO.set x y = { x with new:=y }:=rfl
def cP.wx:aB cH (dJ aM) 2:=lI cP.to cP.of (l2 (l2 l1))
@[simp] theorem cP.aaL (x:cP) (y:OV):cP.wx.set x y = { x with vV:=y }:=rfl
def cP.y9:aB cH oB 3:=lI cP.to cP.of (l2 (l2 (l2 (aB.id _))))
@[simp] theorem cP.adB (x:cP):cP.y9.get x = x.state:=rfl
@[simp] theorem cP.ade (x:cP) (y:db):cP.y9.set x y = { x with state:=y }:=rfl
theorem EL (b nb:Nat) (w:World) (hb:Ol w b 1 (.pointer (some ⟨nb,0,none⟩))):aR 68 #[.pointer (some ⟨b,0,none⟩)] w (dO w (.bool true)):=by
 refine iZ 12 Tryz.func68 (λ_ _=>?_);refine m273 ?_;refine co (Ev.E1 Tryz.underlying37 aa (.c rfl)) ?_;refine m5 ?_;refine m100 ?_;refine m166 ?_;refine cg rfl rfl (Ev.to (Ev.E7 Tryz.isAgg115 (.g rfl id) (λw I=>hb.keep I.keeps id)) (rfl)) ?_;refine cg rfl rfl (Ev.E1 Tryz.underlying115 (.g rfl id) (.c rfl)) ?_;exact s31
def vB (ss:List bj) (s:aK) (dr:Bool):aK :=
 let d2:=if dr = true then s.dropped + 1 else s.dropped
 if (ss.getD s.stage.toNat da.zero).gV < d2 then ⟨2,s.stage,s.seen + 1,d2⟩
 else if s.seen + 1 < (ss.getD s.stage.toNat da.zero).wait then ⟨s.end_,s.stage,s.seen + 1,d2⟩
 else if (s.stage.toNat:Int) = (ss.length:Int) - 1 then ⟨1,s.stage,s.seen + 1,d2⟩
 else ⟨0,s.stage + 1,0,0⟩
theorem C3 {y:Operand} {t:TypeId} {v:Value} {xs:List α} {e:TypeId} {n:UInt64} (ht:P.underlying t = some (.slice e)) (T:jK P e E) (hx:cV F g x v) (hy:cV F g y (fO n))
 (h:∀ w,bS K L w->bU E w v xs) (hi:n.toNat < xs.length) :
 Ev P K F L g (.indexAddr t x y) ty (kC v (((n.toNat:Int)).toNat * E.size)):=.of rfl (λ_ _ _ _ _ _ _ _ _=>.bind (.indexAt _ _ _) λ_=>.pure _) λhg a G w hw dst pos af gd=>by
 obtain⟨b,cap,rfl,h1,_,h2,h3⟩:=h w hw;have hi':0 <= (n.toNat:Int) /\ (n.toNat:Int) < xs.length:=by omega
 have hu:(underlying t).run P w = .ok (.slice e) w:=by simp [underlying,ht]
 cases b with
 | none =>
   grind
 | some p =>
   have hp:=(h3 p rfl).1 (λe=>by rw [e] at hi; simp at hi);have⟨pb,po,ps⟩:=p;subst hp;simp [execOp,Instr.indexAt,asIntOf,hx.eval hg G,hy.eval hg G,fO,hu,hi,hi',Gx.run_sizeOf T,kC,lL]
theorem Ma (b:Nat) (u:Value) (ss:List bj) (s:aK) (dr:Bool) (w:World) (hb:Ol w b 2 u) (hs:bU da w u ss) (hi:s.stage.toNat < ss.length) (hl:ss.length <= 256):aR 74 #[.pointer (some ⟨b,0,none⟩),gN.val s,.bool dr] w (dO w (gN.val (vB ss s dr))):=by
 refine iZ 55 Tryz.func74 (λ_ _=>?_);refine m15 ?_;refine box aa (λb1=>?_);refine cons (alloc Kf (λb2=>?_));refine nP (cut (λx=>True) (λx=>[dz,(0,true,jc b),(2,true,.bool dr),(4,true,jc b1),(6,true,jc b2),(7,true,jc x)]) (λx=>[Var x da (ss.getD s.stage.toNat da.zero) 43,Var b2 gN gN.zero 188,Var b1 gN s 188]) ?_ (λx hx=>?_))
 ·refine m154 ?_;refine tk 2 rfl (fA 2 aa) ?_;refine tk 3 rfl (Ev.to (Ev.E7 Tryz.isAgg29 aa (λw I=>hb.keep I.keeps id)) (rfl)) ?_;refine tk 4 rfl (fA 1 aa) ?_;refine tk 5 rfl (Ev.gS nh aa aK.rN) ?_;refine tk 6 rfl (C3 BY rI aa aa zf hi) ?_;refine tk 7 rfl (Ev.eT rI aa zf (λ_=>⟨by omega,by simp_all⟩)) ?_;refine fB 8 rfl (alloc MG (λb3=>?_));refine m249 ?_;refine j8 rI (aB.id _) aa aa ?_;refine xi (D3 (pN (Xd (_) trivial)))
 obtain⟨x3,rfl⟩:∃ y,y = x:=⟨x,rfl⟩;refine sg (cf 2 rfl ?_);refine co (Ev.gS nh aa aK.wy) ?_;refine m286 ?_;refine cf 2 rfl ?_;refine cons (j8 nh aK.wy aa aa ?_);refine nP (cut (λx=>(x = if dr = true then s.dropped + 1 else s.dropped)) (λx=>[dz,(0,true,jc b),(4,true,jc b1),(6,true,jc b2),(7,true,jc x3)]) (λx=>[Var x3 da (ss.getD s.stage.toNat da.zero) 43,Var b2 gN gN.zero 188,Var b1 gN ⟨s.end_,s.stage,s.seen + 1,x⟩ 188]) ?_ (λx hx=>?_))
 ·refine m1 ?_;refine nP ?_;refine ig rfl (λh0=>?_) (λh0=>?_)
  ·refine region (cf 3 rfl ?_);refine co (Ev.gS nh aa aK.j5) ?_;refine m286 ?_;refine cf 3 rfl ?_;refine cons (j8 nh aK.j5 aa aa ?_);refine nP (mt (_) ?_)
   ·(rw [if_pos h0]; rfl)
  ·refine m86 ?_
   ·first | (rw [if_pos h0]; rfl) | (rw [if_neg (by rw [h0]; exact cL)]; rfl)
 obtain⟨d2,rfl⟩:∃ y,y = x:=⟨x,rfl⟩;have Vx:=hx;clear hx;refine seq (block (sg (cf 3 rfl ?_)));refine co (Ev.gS nh aa aK.j5) ?_;refine cf 2 rfl ?_;refine co (Ev.gS nh aa bj.wA) ?_;refine co (Ev.vc aa aa) ?_;refine m0 ?_;refine ig rfl (λh1=>?_) (λh1=>?_)
 ·refine region ?_;refine m214 ?_;refine j8 nh aK.tX aa (.c (v:=fO 2) rfl) ?_;refine nil ?_;refine m148 ?_;refine m89 ?_
  simp_all [vB,if_pos]
 ·refine sg (cf 2 rfl ?_);refine co (Ev.gS nh aa aK.wy) ?_;refine m277 ?_;refine co (Ev.gS nh aa bj.sF) ?_;refine co (Ev.y4 aa aa) ?_;refine m0 ?_;refine ig rfl (λh2=>?_) (λh2=>?_)
  ·refine skip ?_;refine m148 ?_;exact s5
  ·refine seq ?_;refine m265 ?_;refine tk 2 rfl (Ev.Dp Y3 Kb aa (λ_=>(by simp; omega))) ?_;refine m184 ?_;refine tn 4 rfl rfl ?_;refine tk 5 rfl (fA 2 aa) ?_;refine tk 6 rfl (Ev.to (Ev.E7 Tryz.isAgg29 aa (λw I=>hb.keep I.keeps id)) (rfl)) ?_;refine tk 7 rfl (Ev.len BY aa zf) ?_;refine tk 8 rfl (Ev.uh aa (.c rfl) (λ_=>zo)) ?_;refine tk 9 rfl (Ev.xS aa aa) ?_;refine tk 10 rfl (Ev.assign aa) ?_;refine m142 ?_;refine ig rfl (λh3=>?_) (λh3=>?_)
   ·refine region ?_;refine m214 ?_;refine j8 nh aK.tX aa (.c (v:=fO 1) rfl) ?_;refine nil ?_;refine m148 ?_;exact s5
   ·refine region ?_;refine m277 ?_;refine co (Ev.gS nh aa aK.rN) ?_;refine m286 ?_;refine co (Ev.fe (places:=[(0,1),(1,1),(2,1),(3,1)]) Kf rfl Tryz.underlying188 zk (.cons aa .nil) (bB.cons aK.rN rfl bB.nil)) ?_;refine m179 ?_;refine nil ?_;refine m148 ?_;exact s5
def OP (n:UInt64):(bh n).end_.toNat = n.toNat / 2 ^ 50:=fc _ _
theorem HL (n:UInt64):(bh n).stage.toNat = n.toNat / 2 ^ 42 % 256:=by
 show (jV n 42 &&& 255).toNat = _;rw [nT,fc];exact eQ _ 8
theorem Kv (n:UInt64):(bh n).seen.toNat = n.toNat / 2 ^ 21 % 2097152:=by
 show (jV n 21 &&& 2097151).toNat = _;rw [nT,fc];exact eQ _ 21
theorem DZ (n:UInt64):(bh n).dropped.toNat = n.toNat % 2097152:=by
 show (n &&& 2097151).toNat = _;exact eQ _ 21
theorem Ky (a b:UInt64) (k:Nat) (ha:a.toNat * 2 ^ k < 18446744073709551616) (hb:b.toNat < 2 ^ k):(tC a k ||| b).toNat = a.toNat * 2 ^ k + b.toNat:=by
 rw [UInt64.toNat_or,qL,Nat.mod_eq_of_lt ha,<- Nat.shiftLeft_eq,Nat.shiftLeft_add_eq_or_of_lt hb]
structure Mz (s:aK):Prop where
 e:s.end_.toNat < 4
 t:s.stage.toNat < 256
 n:s.seen.toNat < 2097152
 d:s.dropped.toNat < 2097152
variable {d:Int}
theorem Q7 {s:aK} (h:Mz s):(ue s).toNat = ((s.end_.toNat * 256 + s.stage.toNat) * 2097152 + s.seen.toNat) * 2097152 + s.dropped.toNat:=by
 have⟨h1,h2,h3,h4⟩:=h;have e1:=Ky s.end_ s.stage 8 (by omega) h2;have e2:=Ky _ s.seen 21 (by rw [e1]; omega) h3;have e3:=Ky _ s.dropped 21 (by rw [e2,e1]; omega) h4;show (tC (tC (tC s.end_ 8 ||| s.stage) 21 ||| s.seen) 21 ||| s.dropped).toNat = _
 simp_all
theorem Ku {s:aK} (h:Mz s):bh (ue s) = s:=by
 have hw:=Q7 h;have⟨h1,h2,h3,h4⟩:=h;obtain⟨a,b,c,d⟩:=s;simp only at hw h1 h2 h3 h4;have k1:=OP (ue ⟨a,b,c,d⟩);have k2:=HL (ue ⟨a,b,c,d⟩);have k3:=Kv (ue ⟨a,b,c,d⟩);have k4:=DZ (ue ⟨a,b,c,d⟩);have g1:(bh (ue ⟨a,b,c,d⟩)).end_ = a:=cC.1 (by omega);have g2:(bh (ue ⟨a,b,c,d⟩)).stage = b:=cC.1 (by omega);have g3:(bh (ue ⟨a,b,c,d⟩)).seen = c:=cC.1 (by omega);have g4:(bh (ue ⟨a,b,c,d⟩)).dropped = d:=cC.1 (by omega)
 grind [bh]
def Ie (ss:List bj) (n:UInt64) (dr:Bool):UInt64:=ue (vB ss (bh n) dr)
def g7 (f:Nat->Nat):Nat->Nat
 | 0=>0
 | k + 1=>g7 f k + f k
theorem ON (f:Nat->Nat) {a b:Nat} (h:a <= b):g7 f a <= g7 f b:=by
 induction h with
 | refl=>omega
 | step _ ih=>exact az ih (Nat.le_add_right _ _)
def wt (ss:List bj) (k:Nat):Nat:=(ss.getD k da.zero).wait.toNat
def mo (ss:List bj) (k:Nat):Nat:=(ss.getD k da.zero).gV.toNat
def pa (ss:List bj) (k:Nat):Int:=(ss.getD k da.zero).parts
structure kJ (ss:List bj):Prop where
 w:∀ k,k < ss.length->1 <= wt ss k /\ wt ss k <= 1048576 /\ mo ss k <= 1048576
 p:∀ k,k < ss.length->0 < pa ss k /\ pa ss k <= 100
 s:∀ a b,a <= b->b < ss.length->pa ss a <= pa ss b
 l:ss.length <= 100
variable {l:CL}
theorem Fi:∀ (ss:List bj) (z:Int),iM ss z = true->(∀ k,k < ss.length->1 <= wt ss k /\ wt ss k <= 1048576 /\ mo ss k <= 1048576 /\ z + k < pa ss k /\ pa ss k <= 100) /\ ∀ a b,a <= b->b < ss.length->pa ss a <= pa ss b
 | [],z,_=>⟨λk hk=>by grind,λa b _ hb=>by grind⟩
 | x :: l,z,h=>by
   simp only [iM,cF] at h;have⟨h1,h2⟩:=h;have⟨g1,g2⟩:=Fi l x.parts h2;simp only [Ci,Bool.not_eq_true',iJ,iS] at h1;have⟨⟨⟨⟨q1,q2⟩,q3⟩,q4⟩,q5⟩:=h1;rw [bZ] at q3 q4 q5;have e3:(1:UInt64).toNat = 1:=rfl;have e4:(1048576:UInt64).toNat = 1048576:=rfl;refine ⟨λk hk=>?_,λa b hab hb=>?_⟩
   ·cases k with
    | zero =>
      show 1 <= x.wait.toNat /\ x.wait.toNat <= _ /\ x.gV.toNat <= _ /\ z + ((0:Nat):Int) < x.parts /\ x.parts <= 100;omega
    | succ k =>
      have:=g1 k (by simpa using hk);show 1 <= wt l k /\ wt l k <= _ /\ mo l k <= _ /\ z + ((k + 1:Nat):Int) < pa l k /\ pa l k <= 100;omega
   ·cases a with
    | zero =>
      cases b with
      | zero=>omega
      | succ b =>
        have:=g1 b (by simpa using hb);show x.parts <= pa l b;omega
    | succ a =>
      cases b with
      | zero=>omega
      | succ b=>exact g2 a b (by omega) (by grind)
theorem vd (h:iM ss 0 = true):kJ ss:=by
 have⟨h1,h2⟩:=Fi ss 0 h;refine ⟨λk hk=>⟨(h1 k hk).1,(h1 k hk).2.1,(h1 k hk).2.2.1⟩,λk hk=>?_,h2,?_⟩
 ·grind
 grind
def rU (ss:List bj) (n:UInt64):Nat:=(bh n).seen.toNat + g7 (wt ss) (bh n).stage.toNat
def Im (ss:List bj) (n:UInt64):Nat:=(bh n).dropped.toNat + g7 (mo ss) (bh n).stage.toNat
structure WfS (ss:List bj) (s:aK):Prop where
 lt:s.stage.toNat < ss.length
 ds:s.dropped.toNat <= s.seen.toNat
 alt:(s.end_.toNat = 0 /\ s.seen.toNat < wt ss s.stage.toNat /\ s.dropped.toNat <= mo ss s.stage.toNat) \/ (s.end_.toNat = 1 /\ s.stage.toNat + 1 = ss.length /\ s.seen.toNat = wt ss s.stage.toNat /\ s.dropped.toNat <= mo ss s.stage.toNat) ∨
  (s.end_.toNat = 2 /\ s.seen.toNat <= wt ss s.stage.toNat /\ s.dropped.toNat = mo ss s.stage.toNat + 1)
abbrev xW (ss:List bj) (n:UInt64):Prop:=WfS ss (bh n)
section
variable {n k:UInt64} {s:aK}
theorem WfS.small (hg:kJ ss) (h:WfS ss s):Mz s:=by
 have h1:=hg.w _ h.lt;have h2:=hg.l;have h3:=h.lt;refine ⟨?_,by omega,?_,?_⟩ <;> rcases h.alt with h | h | h <;> omega
theorem add1 (a:UInt64) (h:a.toNat < 2097152):(a + 1).toNat = a.toNat + 1:=by
 simp; omega
theorem W7 (hg:kJ ss) (h:WfS ss s) (h0:s.end_.toNat = 0) (dr:Bool):WfS ss (vB ss s dr) /\ (vB ss s dr).seen.toNat + g7 (wt ss) (vB ss s dr).stage.toNat = s.seen.toNat + g7 (wt ss) s.stage.toNat + 1 ∧
 s.dropped.toNat + g7 (mo ss) s.stage.toNat + dr.toNat <= (vB ss s dr).dropped.toNat + g7 (mo ss) (vB ss s dr).stage.toNat /\ s.stage.toNat <= (vB ss s dr).stage.toNat:=by
 have hs:=h.small hg;have hlt:=h.lt;have hds:=h.ds;have ha:s.seen.toNat < wt ss s.stage.toNat /\ s.dropped.toNat <= mo ss s.stage.toNat:=by rcases h.alt with h | h | h <;> omega
 obtain⟨d2,Vx⟩:∃ d2,(if dr = true then s.dropped + 1 else s.dropped) = d2:=⟨_,rfl⟩;have hd:d2.toNat = s.dropped.toNat + dr.toNat:=by
  subst Vx;cases dr with
  | true=>rw [if_pos rfl,add1 _ hs.d]; rfl
  | false=>rw [if_neg (by simp)]; rfl
 have hdr:dr.toNat <= 1:=by cases dr <;> decide
 have hse:=add1 s.seen hs.n;have hst:(s.stage + 1).toNat = s.stage.toNat + 1:=add1 _ (by have:=hs.t; omega);have e1:(1:UInt64).toNat = 1:=rfl;have e2:(2:UInt64).toNat = 2:=rfl;have e0:(0:UInt64).toNat = 0:=rfl;have em:(ss.getD s.stage.toNat da.zero).gV.toNat = mo ss s.stage.toNat:=rfl;have ew:(ss.getD s.stage.toNat da.zero).wait.toNat = wt ss s.stage.toNat:=rfl;unfold vB;simp only [Vx];split
 ·rename_i h1;rw [bZ,em,hd] at h1;exact ⟨⟨hlt,by grind,.inr (.inr ⟨e2,by grind,by grind⟩)⟩,by grind,by grind,aA _⟩
 ·rename_i h1;rw [bZ,em,hd] at h1;split
  ·rename_i h2;rw [bZ,ew,hse] at h2;exact ⟨⟨hlt,by grind,.inl ⟨h0,by grind,by grind⟩⟩,by grind,by grind,aA _⟩
  ·rename_i h2;rw [bZ,ew,hse] at h2;split
   ·rename_i h3;exact ⟨⟨hlt,by grind,.inr (.inl ⟨e1,by grind,by grind,by grind⟩)⟩,by grind,by grind,aA _⟩
   ·rename_i h3;have h4:s.stage.toNat + 1 < ss.length:=by omega
    have hw2:=hg.w _ h4;refine ⟨⟨by grind,by simp,.inl ⟨e0,by grind,by simp⟩⟩,?_,?_,by grind⟩
    ·grind [g7]
    grind [g7]
theorem Nr (hg:kJ ss) (h:xW ss n) (h0:(bh n).end_.toNat = 0) (dr:Bool):xW ss (Ie ss n dr) /\ rU ss (Ie ss n dr) = rU ss n + 1 /\ Im ss n + dr.toNat <= Im ss (Ie ss n dr) /\ (bh n).stage.toNat <= (bh (Ie ss n dr)).stage.toNat:=by
 have k:=W7 hg h h0 dr;have e:bh (Ie ss n dr) = vB ss _ dr:=Ku (k.1.small hg)
 grind [rU,Im]
def AG (ss:List bj) (n m:UInt64):Prop:=n = m \/ ((bh n).end_.toNat = 0 /\ rU ss n < rU ss m /\ (bh n).stage.toNat <= (bh m).stage.toNat)
theorem AG.trans (h:AG ss n m) (h':AG ss m k):AG ss n k:=by
 rcases h with rfl | ⟨h1,h2,h3⟩
 ·exact h'
 ·rcases h' with rfl | ⟨g1,g2,g3⟩
  ·exact .inr ⟨h1,h2,h3⟩
  ·exact .inr ⟨h1,by omega,by omega⟩
theorem AG.cnt (h:AG ss n m):rU ss n <= rU ss m:=by
 rcases h with rfl | ⟨_,h,_⟩
 ·omega
 ·omega
theorem AG.st (h:AG ss n m):(bh n).stage.toNat <= (bh m).stage.toNat:=by
 rcases h with rfl | ⟨_,_,h⟩
 ·omega
 omega
theorem AG.done (h:AG ss n m) (he:(bh n).end_.toNat ≠ 0):m = n:=by
 rcases h with rfl | ⟨h,_,_⟩
 ·rfl
 omega
theorem AG.next (hg:kJ ss) (h:xW ss n) (h0:(bh n).end_.toNat = 0) (dr:Bool):AG ss n (Ie ss n dr):=by
 have⟨_,h2,_,h4⟩:=Nr hg h h0 dr;exact .inr ⟨h0,by omega,h4⟩
def xH (ss:List bj):Nat:=g7 (wt ss) ss.length
theorem xW.Wu (h:xW ss n):rU ss n <= xH ss:=by
 have h1:g7 _ ((bh n).stage.toNat + 1) <= xH ss:=ON _ h.lt;simp only [g7] at h1;unfold rU
 rcases h.alt with h | h | h <;> omega
theorem xW.zero (hg:kJ ss) (hp:0 < ss.length):xW ss 0 /\ rU ss 0 = 0:=by
 have h1:bh 0 = ⟨0,0,0,0⟩:=rfl;have hw:=hg.w 0 hp;unfold xW rU;exact ⟨⟨hp,aA _,.inl ⟨rfl,by simp_all; omega,bu _⟩⟩,rfl⟩
end
def aah:DV 43 da 24:=kB
def aag:Eo da:=Hk _
theorem Uk (u:Value) (xs:List bj) (w:World) (hl:bU da w u xs) (hn:xs.length * 24 <= 140737488355328):aR 34 #[u] w (vM w da xs 43):=by
 have hl2:=hl;obtain⟨sa,cap,rfl,hc1,hc2,hc3,hc4⟩:=hl2;replace hc3:sa = none->[] = xs:=λe=>(hc3 e).1.symm
 refine iZ 8 Tryz.func34 (λ_ _=>?_);refine m173 ?_;refine co (Ev.si BY aa (.c rfl)) ?_;refine nP ?_;refine ig rfl (λh0=>?_) (λh0=>?_)
 ·refine sg (jf da 43 ?_);exact s28
 ·refine m200 ?_;refine buildSlice BY rI MG .nil rfl rfl (λv1=>?_);refine m27 ?_;refine vL BY rI aah aag aa aa (λv2=>?_);exact s33
structure RX where
 b:Nat
 p:Pl
 q:Pl
 sv:OV
 r:du
def ae0 (p q:Nat) (sv:OV) (n:UInt64):cP:=⟨KM p,KM q,sv,db.Vr.set cH.zero.state n⟩
def RX.rv (x:RX) (n:UInt64):cP:=ae0 x.p.b x.q.b x.sv n
structure Hf (w:World) (x:RX) (l1 l2:CL) (d1 d2:Int) (ss:List bj):Prop where
 p:vi w x.p l1 d1
 q:vi w x.q l2 d2
 s:bU da w x.sv.v ss
def tG (l1 l2:CL) (d1 d2:Int) (ss:List bj):Int:=if Vn l1 d1 ≠ 0 then Vn l1 d1 else if Vn l2 d2 ≠ 0 then Vn l2 d2 else if (iM ss 0 && decide (0 < ss.length)) = false then 310 else 0
def Zj (e:Int) (b:Nat):Option Addr:=if e = 0 then some ⟨b,0,none⟩ else none
structure U7 (l1 l2:CL) (d1 d2:Int) (ss:List bj) (x:RX):Prop where
 p:qz x.p l1 d1
 q:qz x.q l2 d2
 st:iM ss 0 = true
 pos:0 < ss.length
 r:∀ w,x.r.A w->vi w x.p l1 d1 /\ vi w x.q l2 d2
def RX.R (x:RX) (ss:List bj):List du:=[Var x.b cH (x.rv 0) 122,x.r,bY x.sv.v da ss 43]
def U0 (w:World) (l1 l2:CL) (d1 d2:Int) (ss:List bj):ja :=
 nz w (λx:RX=>tG l1 l2 d1 d2 ss = 0->U7 l1 l2 d1 d2 ss x) (λx=>.tuple #[.pointer (Zj (tG l1 l2 d1 d2 ss) x.b),I (tG l1 l2 d1 d2 ss)]) (λx=>if tG l1 l2 d1 d2 ss = 0 then x.R ss else [])
def plV (l:CL) (d:Int) (b:Nat):OV:=⟨.pointer (plO l d b),rfl⟩
theorem Zo (h:¬ Vn l d ≠ 0):y3 l d = true:=by
 grind [Vn]
theorem Sf (h:y3 l d = true) (b:Nat):plV l d b = KM b:=by
 simp_all [plV,KM,plO,if_true]
theorem Gu {e0:En} {w0:World} {n:Nat} {l1 l2:CL} {d1 d2:Int} {e:Int} (he:tG l1 l2 d1 d2 ss = e) (hn:e ≠ 0):∀ w,bS ⟨n,w0,fX,e0⟩ L w->U0 w0 l1 l2 d1 d2 ss (.returned (.tuple #[.pointer none,I e])) w:=by
 subst he;exact tU ⟨0,abm,abm,aM,YQ⟩ (λh=>absurd h hn) (by unfold Zj; grind) (by grind)
def aiv:zI 122 cH:=kI
def Y8:ot 115 (dJ dB):=oq
theorem Gs (c1 c2:cy) (l1 l2:CL) (u:Value) (ss:List bj) (w:World) (hc1:kA w c1 l1) (hc2:kA w c2 l2) (hu:bU da w u ss) (GL:l1.Names) (BO:l2.Names) (hz1:l1.n <= 4611686018427387904) (hz2:l2.n <= 4611686018427387904) (hss:ss.length * 24 <= 140737488355328):aR 10 #[jI.val c1,jI.val c2,u] w (U0 w l1 l2 c1.default c2.default ss):=by
 refine iZ 40 Tryz.func10 (λ_ _=>?_);refine m15 ?_;refine box aa (λb1=>?_);refine cons (box aa (λb2=>?_));refine ac _ ?_;refine m159 ?_;refine acg ?_;refine m19 ?_;refine cons (jW eN (o1 rfl) (λw I=>Uk _ _ w (hu.cO I.keeps) hss) (λv3=>?_));refine co (Ev.fe (places:=[(0,1),(1,1),(2,1),(3,1)]) aiv rfl Tryz.underlying122 zk (.cons aa .nil) (bB.cons cP.wx rfl bB.nil)) ?_;refine cons (box aa (λb4=>?_));refine m0 ?_;refine m268 ?_;refine m146 ?_;refine iP (X:=Pl × List du) _ _ _ eN (o1 rfl) (λw I=>zF c1 l1 w (hc1.cO I.keeps) GL hz1) (λx1 va=>?_);refine vU (r:=YQ) zr ?_;refine mv rfl (co (Ev.to (v':=(plV l1 c1.default _).v) (Ev.extract aa rfl) (rfl)) ?_);refine cx rfl rfl ?_;refine m248 ?_;refine m214 ?_;refine j8 Y8 cP.IC aa aa ?_;refine m171 ?_;refine nG rfl (λh0=>?_) (λh0=>?_)
 ·refine m152 ?_;refine done rfl (.tmp rfl (.tmp rfl .nil)) (λw I=>?_);exact Gu (by unfold tG; omega) h0 w I
 ·have h0:¬ Vn l1 c1.default ≠ 0:=by simpa using h0
  refine m229 ?_;refine m146 ?_;refine iP (X:=Pl × List du) _ _ _ eN (o1 rfl) (λw I=>zF c2 l2 w (hc2.cO I.keeps) BO hz2) (λx2 hx2=>?_);refine vU zr ?_;refine mv rfl (co (Ev.to (v':=(plV l2 c2.default _).v) (Ev.extract aa rfl) (rfl)) ?_);refine cx rfl rfl ?_;refine m248 ?_;refine m277 ?_;refine cons (j8 Y8 cP.xO aa aa ?_);refine m171 ?_;refine nG rfl (λh1=>?_) (λh1=>?_)
  ·refine m152 ?_;refine done rfl (.tmp rfl (.tmp rfl .nil)) (λw I=>?_);exact Gu (by grind [tG]) h1 w I
  ·refine m229 ?_;refine cons (dg eN (o1 rfl) (λw I=>KG _ ss w (hu.cO I.keeps)) ?_);refine m57 ?_;refine nG rfl (λh2=>?_) (λh2=>?_)
   ·have h2:(iM ss 0 && decide (0 < ss.length)) = false:=by
     have h9:(!(iM ss 0 && decide (0 < ss.length))) = true:=h2
     simpa only [Bool.not_eq_true'] using h9
    refine m209 ?_;refine ac (I 310) ?_;refine m62 ?_;refine done rfl (.tmp rfl (.tmp rfl .nil)) (λw I=>?_);exact Gu (by grind [tG]) (by decide) w I
   ·have h2:(iM ss 0 && decide (0 < ss.length)) = true:=by
     have h9:(!(iM ss 0 && decide (0 < ss.length))) = false:=h2
     simpa only [Bool.not_eq_false'] using h9
    refine m73 ?_;refine m52 ?_;refine done rfl (.tmp rfl (.tmp rfl .nil)) (λw I=>?_);have e0:tG l1 l2 c1.default c2.default ss = 0:=by unfold tG; rw [if_neg h0,if_neg h1,if_neg (by rw [h2]; decide)]
    have hm1:=Zo h0;have hm2:=Zo h1;have⟨k1,k2⟩:=va hm1;have⟨k3,k4⟩:=hx2 hm2;have hst:=(cF _ _).mp h2;have k6:∀ w,(qx (qx YQ x1.2) x2.2).A w->vi w x1.1 l1 c1.default /\ vi w x2.1 l2 c2.default:=λw1 a1=>⟨k2 w1 (qx.A _ _ (qx.A _ _ a1).1).2,k4 w1 (qx.A _ _ a1).2⟩
    have k7:(⟨plV l1 c1.default x1.1.b,plV l2 c2.default x2.1.b,v3,cH.zero.state⟩:cP) = ae0 x1.1.b x2.1.b v3 0:=by rw [Sf hm1,Sf hm2]; rfl
    refine lu (⟨b4,x1.1,x2.1,v3,_⟩:RX) (λ_=>⟨k1,k3,hst.1,dF hst.2,k6⟩) (by rw [e0]; rfl) ?_ w I;rw [if_pos e0];unfold RX.R RX.rv;rw [<- k7];exact zp
end Go.Proofs.YtgnmiaonbadbnaaGreat
namespace Go.Gx
open Go Go.Conc
variable {P:Program} {gs yn:Array Goroutine} {sl:Option (Nat × Nat)} {i j cap c r h m c' Wg b base k' n':Nat} {g g2 g':Goroutine} {es:Array Event} {buf:Array Value} {tm bl:Bool} {z ze v0 z0:Value} {t:Trace} {l:List Nat} {F xc:Nat->Prop} {e:Event} {said:Bool->Value->Prop} {ty:TypeId} {ow q ow':Nat->Nat} {o:Obj} {sm st' sm':Int} {tr' Za:Tr}
section
variable {w w₁:World} {k:Nat} {g₂ gj:Goroutine} {s:Nat} {closed:Bool} {v zj:Value} {JF:Bool} {shape shj:CommShape} {cs cases:Array CommCase}
theorem Ct (hi:gs[i]? = some g) (h:stepG P (i == 0) g w = .comm g₂ #[rcase c z] JF shape w₁ es) (hc:w₁.heap[c]? = some (.chan cap #[] closed s s tm))
 (XA:j ≠ i) (hj:gs[j]? = some (parked gj cs shj)) (hk:cs[k]? = some (scase c v zj)) (hp:partners (gs.setIfInBounds i ph) c true = [(j,k)]) :
 runT P (crowd gs w sl) i = (.next (crowd ((gs.setIfInBounds j (gj.finishComm P cs shj k undef false)).setIfInBounds i (g₂.finishComm P #[rcase c z] shape 0 v true)) (w₁.setChan c cap #[] closed (s + 1) (s + 1) tm) sl),
  MemOp.ofEvents i g.frame.fn g.frame.place es ++ met j i gj.frame.fn gj.frame.place g₂.frame.fn g₂.frame.place c s cap):=by
 rw [runT_crowd_comm hi h];have hj':=stand_get XA hj;have hfp:=finishPartner_at P _ hj' rfl k undef;have hgd:(gs.setIfInBounds i ph).getD j default = parked gj cs shj:=by rw [eu,hj']; rfl
 have hov:offeredValue (gs.setIfInBounds i ph) j k = v:=by simp [offeredValue,hj',parked,hk,scase]
 simp [communicate,ways,rcase,hc,hp,choose,Sem.run,Question.forced,bind,Sem.bind,pure,World.setChan,crowd,hfp,hgd,hov,set_stand2,finishComm_parked,scase,parked,hk]
 trivial
theorem Ck (hi:gs[i]? = some g) (h:stepG P (i == 0) g w = .comm g₂ cases JF shape w₁ es) (hk:cases[k]? = some (scase c v z))
 (ho:∀ (m:Nat) (c':CommCase),m ≠ k->cases[m]? = some c'->NoWays w₁ (gs.setIfInBounds i ph) c')
 (hc:w₁.heap[c]? = some (.chan cap buf false s s tm)) (XA:j ≠ i) (hj:gs[j]? = some (parked gj #[rcase c zj] shj)) (hp:partners (gs.setIfInBounds i ph) c false = [(j,0)]) :
 runT P (crowd gs w sl) i = (.next (crowd ((gs.setIfInBounds j (gj.finishComm P #[rcase c zj] shj 0 v true)).setIfInBounds i (g₂.finishComm P cases shape k undef false)) (w₁.setChan c cap buf false (s + 1) (s + 1) tm) sl),
  MemOp.ofEvents i g.frame.fn g.frame.place es ++ met i j g₂.frame.fn g₂.frame.place gj.frame.fn gj.frame.place c s cap):=by
 have hw:ways w₁ (gs.setIfInBounds i ph) (scase c v z) = [.partner j 0]:=by simp [ways,scase,hc,hp]
 have hj':=stand_get XA hj;have hfp:=finishPartner_at P _ hj' rfl 0 v;have hgd:(gs.setIfInBounds i ph).getD j default = parked gj #[rcase c zj] shj:=by rw [eu,hj']; rfl
 rw [runT_crowd_comm hi h];unfold communicate;simp only [ready_one hk (by grind) ho,hw];rw [if_neg]
 ·simp [choose,Sem.run,Question.forced,bind,Sem.bind,pure,rcase,crowd,hc,hfp,hgd,set_stand2,finishComm_parked,scase,parked,World.setChan]
  trivial
 ·rw [Bool.not_eq_true]; exact any_ill (made_of_one hk (made_send v z hc) ho)
theorem D4 (hk:cs[k]? = some (scase c v z)) (hu:∀ (m:Nat) (cc:CommCase),m ≠ k->cs[m]? = some cc->cc.chan ≠ .chan (some c)):offersAt (parked g cs shape) c true = [k]:=by
 have hz:∀ m:Nat,cs.zipIdx.toList[m]? = (cs[m]?).map λx=>(x,m):=by intro m; simp
 have:=filter_map_one (id:CommCase × Nat->CommCase × Nat) (λ(x:CommCase × Nat)=>x.1.send.isSome == true && (match x.1.chan with | .chan (some r')=>r' == c | _=>false)) cs.zipIdx.toList k (scase c v z,k) (by rw [hz,hk]; rfl) (by simp [scase])
  (λm x hm hx=>by
   rw [hz] at hx;cases e:cs[m]? with
   | none=>rw [e] at hx; cases hx
   | some y =>
     rw [e] at hx;simp only [cB,br] at hx;subst hx;have hne:=hu m y hm e;simp only [id,Bool.and_eq_false_iff];right;split
     ·rename_i r' e';simp only [beq_eq_false_iff_ne];exact λer=>hne (er ▸ e')
     ·rfl)
 simp only [List.map_id,id] at this;exact (aL _ this).trans rfl
theorem DI (h:∀ cc ∈ cs,∃ c cap buf s r tm,cc.chan = .chan (some c) /\ w.heap[c]? = some (.chan cap buf false s r tm)):(parked g cs shape).again w = parked g cs shape:=by
 grind [Goroutine.again,parked,tm,Array.getElem_mem]
end
open Go.ConcN
def U4 (Sn:Loc->Prop) (t:Trace) (i:Nat) (a:Touch):Prop:=Sn a.loc /\ a.kind = .atomic /\ ∀ g,t.g? i = some g->g ≠ 0->t.counts i->∃ q,t.g? q = some 0 /\ HappensBefore t i q
structure PastS (Sh Sn:Loc->Prop) (St:Nat->Loc->Prop) (Mem Lo:Nat->Prop) (B h:Nat) (t:Trace):Prop where
 clean:∀ said,¬ Race said t
 quiet:Quiet Sh t
 known:∀ i a,touchAt t i = some a->a.loc.isMemory = true->Knows t h i \/ (Sh a.loc /\ a.kind = .atomic /\ ¬ t.heard i) \/ (a.write = false /\ ∃ g,t.g? i = some g /\ Lo g /\ St g a.loc) \/ U4 Sn t i a
 wrote:∀ i a g,touchAt t i = some a->a.write = true->Mem g->St g a.loc->Knows t g i
 hears:∀ g,Mem g->Deaf t g = 0
 seen:∀ op ∈ t,op.act.low B
section
variable {Sh Sn:Loc->Prop} {St St':Nat->Loc->Prop} {Mem Lo Mem' Lo':Nat->Prop} {B B':Nat} {u:Trace}
theorem U4.app {a:Touch} (h:U4 Sn t i a) (hi:i < t.size):U4 Sn (t ++ u) i a:=⟨h.1,h.2.1,λg hg hne hc=>by
 rw [g?_old hi] at hg;have⟨q,hq,hb⟩:=h.2.2 g hg hne ((counts_old hi).1 hc);have hql:q < t.size:=by
  have⟨z,hz,_⟩:=cd.1 hq;exact lt_size_of_getElem? hz
 exact ⟨q,by rw [g?_old hql]; exact hq,hb_app u hb⟩⟩
theorem PastS.uf (H:PastS Sh Sn St Mem Lo B h t) (hB:B <= B') (hM:∀ g,Mem' g->Mem g) (hL:∀ g,Lo g->Lo' g):PastS Sh Sn St Mem' Lo' B' h t :=
 ⟨H.clean,H.quiet,λi a ha hm=>(H.known i a ha hm).imp id (.imp id (.imp (λ⟨x,g,hg,hl,hs⟩=>⟨x,g,hg,hL g hl,hs⟩) id)),λi a g ha hw hg hs=>H.wrote i a g ha hw (hM g hg) hs,λg hg=>H.hears g (hM g hg),λop g9=>MemAct.low_mono hB (H.seen op g9)⟩
theorem PastS.still (H:PastS Sh Sn St Mem Lo B 0 t) (h0:∀ g l,St g l->St' g l) (h1:∀ g l,g ≠ 0->Mem g->St' g l->St g l) (h2:∀ l,St' 0 l->l.isMemory = true /\ ¬ Sh l /\ ¬ Sn l):PastS Sh Sn St' Mem Lo B 0 t :=
 ⟨H.clean,H.quiet,λi a ha hm=>(H.known i a ha hm).imp id (.imp id (.imp (λ⟨x,g,hg,hl,hs⟩=>⟨x,g,hg,hl,h0 g _ hs⟩) id)),λi a g ha hw hg hs=>by
  by_cases e:g = 0
  ·subst e
   rcases H.known i a ha (h2 _ hs).1 with hk | ⟨hk,_⟩ | ⟨hk,_⟩ | ⟨hk,_⟩
   ·exact hk
   ·grind
   ·grind
   grind
  ·exact H.wrote i a g ha hw hg (h1 g _ e hg hs),H.hears,H.seen⟩
theorem PastS.old {h':Nat} (H:PastS Sh Sn St Mem Lo B h t) (hK:∀ i,Knows t h i->Knows (t ++ u) h' i) {a:Touch} {x:MemOp} (hi:i < t.size) (hx:t[i]? = some x) (hxa:x.act.touch? = some a) (hm:a.loc.isMemory = true) :
 Knows (t ++ u) h' i \/ (Sh a.loc /\ a.kind = .atomic /\ ¬ (t ++ u).heard i) \/ (a.write = false /\ ∃ g,(t ++ u).g? i = some g /\ Lo g /\ St g a.loc) \/ U4 Sn (t ++ u) i a :=
 (H.known i a (by rw [touchAt_of hx]; omega) hm).imp (hK i) (.imp (λ⟨p,q,r⟩=>⟨p,q,λe=>r ((heard_old hi).1 e)⟩) (.imp (λ⟨p,g,hg,hl⟩=>⟨p,g,by rw [g?_old hi]; exact hg,hl⟩) λh=>h.app hi))
theorem PastS.WZ {g:Nat} (H:PastS Sh Sn St Mem Lo B h t) (hu:∀ op ∈ u,op.g = g) (hd:Mem g->Deaf (t ++ u) g = Deaf t g):∀ g',Mem g'->Deaf (t ++ u) g' = 0:=λg' hg'=>by
 by_cases e:g' = g
 ·subst e; exact (hd hg').trans (H.hears g' hg')
 ·exact (Deaf_other t (λx=>e x.symm) u hu).trans (H.hears g' hg')
theorem PastS.app {g:Nat} (H:PastS Sh Sn St Mem Lo B h t) (hu:∀ op ∈ u,op.g = g) (hd:Mem g->Deaf (t ++ u) g = Deaf t g) (hl:∀ op ∈ u,op.act.low B)
 (hs:∀ op ∈ u,∀ b,op.act.touch? = some b->¬ Sn b.loc /\ (Sh b.loc->b.kind ≠ .plain /\ (b.kind = .said->g = 0)) ∧
  ((g = h /\ (b.write = true->∀ g',(Mem g' \/ Lo g')->¬ St g' b.loc)) \/ (Sh b.loc /\ b.kind = .atomic /\ (∀ m:Nat,u[m]? = some op->(t ++ u).deaf g (t.size + m) ≠ 0) /\ ∀ g',¬ St g' b.loc) \/ (b.write = false /\ Mem g /\ Lo g /\ St g b.loc))) :
 PastS Sh Sn St Mem Lo B h (t ++ u):=by
 refine ⟨λsaid=>noRace_append (H.clean said) hu λi a ha op g9 b hb hc=>?_,H.quiet.app λop g9 x hx hsx=>⟨((hs op g9 x hx).2.1 hsx).1,λe=>(hu op g9).trans (((hs op g9 x hx).2.1 hsx).2 e)⟩,λi a ha hm=>?_,λi a g' ha hw hg' hS=>?_,H.WZ hu hd,seen_app H.seen hl⟩
 ·by_cases hSh:Sh b.loc
  ·exact H.quiet.known hSh ((hs op g9 b hb).2.1 hSh).1 ((hs op g9 b hb).2.1 hSh).2 i a ha hc
  ·rcases (hs op g9 b hb).2.2 with ⟨rfl,hw⟩ | ⟨h1,_⟩ | ⟨hw,hM,_,hS⟩
   ·rcases H.known i a ha hc.2.1 with hk | ⟨hk,_⟩ | ⟨hk,g',_,hL,hS⟩ | ⟨hk,_⟩
    ·exact hk
    ·exact absurd (hc.1 ▸ hk) hSh
    ·rcases hc.2.2.1 with e | e
     ·grind
     ·exact absurd (hc.1 ▸ hS) (hw e g' (.inr hL))
    ·exact absurd (hc.1 ▸ hk) (hs op g9 b hb).1
   ·trivial
   ·exact H.wrote i a g ha (hc.2.2.1.resolve_right (by grind)) hM (hc.1 ▸ hS)
 ·have⟨x,hx,hxa⟩:=oT ha
  rcases dx hx with ⟨hi,hx'⟩ | ⟨hge,hxu⟩
  ·exact H.old (λi=>Knows.app u) hi hx' hxa hm
  ·rcases (hs x hxu a hxa).2.2 with ⟨rfl,_⟩ | ⟨h1,h2,h3,_⟩ | ⟨hw,_,hL,hS⟩
   ·grind [knows_own]
   ·refine .inr (.inl ⟨h1,h2,λ⟨g',hg',hh⟩=>h3 (i - t.size) ?_ ?_⟩)
    ·grind
    ·rw [g?_of hx,hu x hxu] at hg'
     grind
   ·exact .inr (.inr (.inl ⟨hw,g,by rw [g?_of hx,hu x hxu],hL,hS⟩))
 ·have⟨x,hx,hxa⟩:=oT ha
  rcases dx hx with ⟨_,hx'⟩ | ⟨_,hxu⟩
  ·exact (H.wrote i a g' (by rw [touchAt_of hx']; omega) hw hg' hS).app u
  grind
theorem PastS.give (H:PastS Sh Sn St Mem Lo B h t) (hh:Mem h) (hj:Mem j) (fh:FuncId) (ph:String) (fj:FuncId) (pj:String) (k cap:Nat) (hc:c < B) :
 PastS Sh Sn St Mem (λg=>Lo g /\ g ≠ j) B j (t ++ met h j fh ph fj pj c k cap):=by
 have hn:=met_mute h j fh ph fj pj c k cap;have hq:=met_quiet h j fh ph fj pj c k cap;have e0:(t ++ met h j fh ph fj pj c k cap)[t.size]? = some { g:=h,fn:=fh,pos:=ph,act:=.send c k }:=by simp [met]
 have e3:(t ++ met h j fh ph fj pj c k cap)[t.size + 3]? = some { g:=j,fn:=fj,pos:=pj,act:=.recvDone c k }:=by simp [met]
 have edge:HappensBefore _ t.size _ :=
  .single (.inr ⟨.handOver (act?_of e0) (act?_of e3),⟨h,g?_of e0,by rw [deaf_old (aA _)]; exact H.hears h hh⟩,⟨j,g?_of e3,by rw [deaf_quiet (hq j) 3 (by simp [met])]; exact H.hears j hj⟩⟩)
 refine ⟨λsaid=>noRace_appendMute (H.clean said) hn,H.quiet.app (λop g9 x hx=>by grind),λi a ha hm=>?_,λi a g ha hw hg hS=>?_,λg hg=>(Deaf_quiet (hq g)).trans (H.hears g hg),seen_app H.seen λop g9=>?_⟩
 ·have⟨x,hx,hxa⟩:=oT ha
  rcases dx hx with ⟨hi,hx'⟩ | ⟨_,hxu⟩
  ·rcases H.old (λi hk=>⟨t.size + 3,_,e3,rfl,.inr ((hk.hb_new (aA _) e0 rfl).trans edge)⟩) hi hx' hxa hm with hk | hk | ⟨p,g,hg,hl,hs⟩ | hk
   ·grind
   ·grind
   ·by_cases e:g = j
    ·subst e;have:=knows_own hx;rw [show x.g = g from by have:=g?_of hx; rw [hg] at this; exact (ak this).symm] at this
     grind
    grind
   grind
  grind
 ·have⟨x,hx,hxa⟩:=oT ha
  rcases dx hx with ⟨_,hx'⟩ | ⟨_,hxu⟩
  ·exact (H.wrote i a g (by rw [touchAt_of hx']; omega) hw hg hS).app _
  grind
 ·simp only [met,dZ,aE,aU,dj] at g9
  rcases g9 with rfl | rfl | rfl | rfl <;> exact hc
theorem PastS.hire (H:PastS Sh Sn St Mem Lo B 0 t) (hh:Mem 0) (QK:∀ (i:Nat) (op:MemOp),t[i]? = some op->op.g ≠ c) (hc:c ≠ 0) (hS0:∀ g l,g ≠ c->St' g l->St g l) (hS1:∀ g l,Lo g->St g l->St' g l) (hS2:∀ l,St' c l->l.isMemory = true /\ ¬ Sh l /\ ¬ Sn l) {x y:MemOp} (hx:x.g = 0 /\ x.act = .go c) (hy:y.g = c /\ y.act = .start) :
 PastS Sh Sn St' (λg=>Mem g \/ g = c) Lo B c (t ++ #[x,y]):=by
 have hdc:=Deaf_absent λi op hi=>QK i op hi
 have hm:∀ op ∈ (#[x,y]:Trace),op = x \/ op = y:=by intro op g9; simpa using g9
 have hn:∀ op ∈ (#[x,y]:Trace),op.act.touch? = none:=λop g9=>by
  rcases hm op g9 with rfl | rfl
  ·rw [hx.2]; rfl
  ·rw [hy.2]; rfl
 have hq:∀ g,∀ op ∈ (#[x,y]:Trace),∀ d,deafStep g d op = d:=λg op g9 d=>by
  rcases hm op g9 with rfl | rfl
  ·simp [deafStep,hx.2]
  ·simp [deafStep,hy.2]
 have kn:∀ i,Knows t 0 i->Knows _ c i:=λi hk=>fork_knows hx hy (H.hears 0 hh) hdc hk
 refine ⟨λsaid=>noRace_appendMute (H.clean said) hn,H.quiet.app (λop g9 z hz=>by grind),λi a ha hmm=>?_,λi a g ha hw hg hS=>?_,λg hg=>(Deaf_quiet (hq g)).trans (hg.elim (H.hears g) λe=>e ▸ hdc),seen_app H.seen λop g9=>?_⟩
 ·have⟨z,hz,hza⟩:=oT ha
  rcases dx hz with ⟨hi,hz'⟩ | ⟨_,hzu⟩
  ·rcases H.old (h':=c) (λi=>kn i) hi hz' hza hmm with hk | hk | ⟨p,g,hg,hl,hs⟩ | hk
   ·grind
   ·grind
   ·grind
   grind
  grind
 ·have⟨z,hz,hza⟩:=oT ha
  rcases dx hz with ⟨_,hz'⟩ | ⟨_,hzu⟩
  ·by_cases e:g = c
   ·subst e
    rcases H.known i a (by rw [touchAt_of hz']; omega) (hS2 _ hS).1 with hk | ⟨hk,_⟩ | ⟨hk,_⟩ | ⟨hk,_⟩
    ·grind
    ·grind
    ·grind
    grind
   ·exact (H.wrote i a g (by rw [touchAt_of hz']; omega) hw (hg.resolve_right e) (hS0 g _ e hS)).app _
  grind
 ·rcases hm op g9 with rfl | rfl
  ·rw [hx.2]; trivial
  ·rw [hy.2]; trivial
theorem PastS.ofPast (H:Past Sn B t) (hS:∀ l,Sh l->Ot t l) (h0:∀ l,St 0 l->l.isMemory = true /\ ¬ Sn l):PastS Sh Sn St (λg=>g = 0) (λ_=>False) B 0 t :=
 ⟨H.clean,λi op x hi hx hs=>absurd rfl (hS _ hs i x (by rw [touchAt_of hi]; exact hx)),λi a ha hm=>(H.known i a ha hm).imp id λx=>.inr (.inr ⟨x.1,x.2,λg hg hne hc=>H.over i g hg hne hc⟩),λi a g ha hw hg hs=>by
  subst hg; exact (H.known i a ha (h0 _ hs).1).resolve_right λx=>(h0 _ hs).2 x.1,λg hg=>hg ▸ H.hears,H.seen⟩
theorem PastS.toPast (H:PastS Sh Sn St Mem Lo B 0 t) (hh:Mem 0) (hL:∀ g,¬ Lo g):Past (λl=>Sn l \/ Sh l) B t :=
 ⟨H.clean,λi a ha hm=>(H.known i a ha hm).imp id λx=>x.elim (λ⟨p,q,_⟩=>⟨.inr p,q⟩) λx=>x.elim (λ⟨_,g,_,hl,_⟩=>absurd hl (hL g)) λ⟨p,q,_⟩=>⟨.inl p,q⟩,λi g hg hne ⟨a,ha,hm,hk⟩=>by
  rcases H.known i a ha hm with ⟨q,z,hq,hz,hb⟩ | ⟨_,q,r⟩ | ⟨_,g',_,hl,_⟩ | ⟨_,_,q⟩
  ·rcases hb with rfl | hb
   ·rw [g?_of hq,hz] at hg
    grind
   ·exact ⟨q,by rw [g?_of hq,hz],hb⟩
  ·grind
  ·grind
  grind,H.hears 0 hh,H.seen⟩
end
open Go.ConcR (KK wgBlock WgAt stA smA rd wr mk Payload DC0 Bk g_of_ofEvents)
abbrev Gh:=List (List Nat)
variable {G' G1:Gh}
def ZX (l:List Nat):Value:=.tuple (l.map λn:Nat=>Value.int .i64 n).toArray
theorem NQ {l':List Nat} (h:ZX l = ZX l'):l = l':=by
 have h1:=aL Array.toList (Value.tuple.inj h)
 grind [List.map_inj_right]
def tq (G:Gh):Obj:=.pending (G.map ZX).toArray 0
theorem Tn {G:Gh} (h:tq G = tq G'):G = G':=by
 have h1:=aL Array.toList (bF h).1
 grind [List.map_inj_right,ZX,NQ]
structure aC where
 sb:Nat
 ct:Nat
 ce:Nat
 cs:Nat
 bx:Nat
variable {s:aC} {a a':Nat × aC}
def aC.c0 (s:aC):List Value:=[.chan (some s.ct),.chan (some s.ce),.chan (some s.cs)]
def aC.bT (s:aC):List Nat:=[s.sb,s.ct,s.ce,s.cs,s.bx]
theorem aC.Ig {s':aC} (h:s.bT = s'.bT):s = s':=by
 cases s; simp_all [aC.bT]
def nL (s:aC) (G:Gh):Obj:=.pending (s.c0 ++ G.map ZX).toArray 4
theorem wV (s:aC) (G:Gh):pL (nL s G) = true:=by rfl
theorem zZ {G:Gh} (h:nL s G = nL s G'):G = G':=by
 have h1:=aL Array.toList (bF h).1
 grind [List.map_inj_right,ZX,NQ,List.append_cancel_left]
theorem nj {G:Gh} {k:Nat}:Ro (nL s G) k z ↔ s.c0[k]? = some z:=by
 constructor
 ·rintro ⟨d,n,h1,h2,h3,h4⟩;obtain⟨rfl,e⟩:=bF (show Obj.pending (s.c0 ++ G.map ZX).toArray 4 = _ from h1);obtain rfl:n = 3:=(Nat.succ.inj e).symm
  grind [aC.c0]
 ·intro h;have hk:k < s.c0.length:=by grind
  exact ⟨_,3,rfl,by simp [aC.c0],by assumption,by grind⟩
def aC.pt (s:aC):Value:=.pointer (some ⟨s.sb,0,none⟩)
def Ka (s:aC):Obj:=.pending #[s.pt,undef] 2
theorem Dx (s:aC):pL (Ka s) = true:=rfl
theorem yf {k:Nat}:Ro (Ka s) k z ↔ k = 0 /\ z = s.pt:=by
 constructor
 ·rintro ⟨d,n,h1,h2,h3,h4⟩;obtain⟨rfl,e⟩:=bF (show Obj.pending #[s.pt,undef] 2 = _ from h1)
  grind
 ·rintro ⟨rfl,rfl⟩;exact ⟨_,1,rfl,by simp,by decide,rfl⟩
class av where
 n:Nat
 N0:Nat
 F0:Nat->Prop
 G0:Gh
 C:Nat
 tv:Nat->Value
 Sn:Loc->Prop
 W1:World
 ajP:∀ k,k < n->Has C k (tv k) W1
 SA:Gh->(Nat->Prop)->World->Prop
 St:Nat->Value->Gh->Gh->Prop
 R:Nat->Gh->Gh->Prop
 rr:∀ i a,R i a a
 rs:∀ {i k x a b c},R i a b->k ≠ i->St k x b c->R i a c
 loc:∀ {a F v v'},SA a F v->(∀ b,F b->v'.heap[b]? = v.heap[b]?)->SA a F v'
 iL:∀ {a F v b},SA a F v->F b->ny v b /\ b < v.heap.size
 up:∀ {a F F' v},SA a F v->(∀ b,F b->F' b)->(∀ b,F' b->ny v b /\ b < v.heap.size)->SA a F' v
variable {n:Nat} {G0:Gh} {F0:Nat->Prop}
def fq [av]:Nat->Prop:=λb=>av.N0 <= b \/ av.F0 b
structure Sw [av] (F F':Nat->Prop) (v v':World):Prop where
 tape:v'.tape = v.tape
 os:v'.os = v.os
 output:v'.output = v.output
 size:v.heap.size <= v'.heap.size
 nv:cI v'
 keep:∀ b,b < v.heap.size->¬ F b->¬ F' b->v'.heap[b]? = v.heap[b]?
 gone:∀ b,F b \/ v.heap.size <= b->¬ F' b->b < v'.heap.size->v'.heap[b]? = some dummy
 Js:∀ b,F' b->F b \/ v.heap[b]? = some dummy \/ v.heap.size <= b
 pm:∀ b,F' b->fq b
section
variable (P:Program)
def oo (s:aC) (w:World):Prop:=(∃ (c:Array Value) (e:TypeId),w.heap[s.sb]? = some (.cells c e (0,0)) /\ ∀ (k:Nat) z,s.c0[k]? = some z->c[k]? = some z) /\ ∃ (c:Array Value) (e:TypeId),w.heap[s.bx]? = some (.cells c e (0,0)) /\ c[0]? = some s.pt
def DSt (s:aC) (w w':World) (es:Array Event):Prop:=w' = w /\ ∀ e ∈ es,∃ k:Nat,k < 3 /\ e = ⟨.cell ⟨s.sb,k,none⟩,false,false⟩
def DMt (s:aC) (w w':World) (es:Array Event):Prop:=(∃ d,w' = w.at d) /\ ∀ e ∈ es,(∃ k:Nat,k < 3 /\ e = ⟨.cell ⟨s.sb,k,none⟩,false,false⟩) \/ e = ⟨.cell ⟨s.bx,0,none⟩,false,false⟩
def Way (main:Bool) (s:aC) (T:Goroutine->Prop) (n:Nat) (g:Goroutine):Prop:=∀ w,oo s w->Goes P main (λ_ w1=>oo s w1) (bif main then DMt s else DSt s) (λg _=>T g) n g w
def J0 (main:Bool) (cs:Array CommCase) (sh:CommShape) (g2 g:Goroutine):Prop:=g.status = .running /\ g2.status = .running /\ ∀ w,stepG P main g w = .comm g2 cs true sh w #[]
def lq (s:aC) (zt ze:Value):Array CommCase:=#[rcase s.ct zt,rcase s.ce ze]
def ic (s:aC) (v z ze:Value):Array CommCase:=#[scase s.cs v z,rcase s.ce ze]
variable [av]
def GhT (s:aC) (v:World) (G:Gh):Prop:=v.heap[s.sb]? = some (nL s G)
structure Va (k:Nat) (s:aC) (v0:Value) (G G':Gh) (F:Nat->Prop) (g2:Goroutine) (z ze:Value) (g:Goroutine) (v:World):Prop where
 gh:GhT s v G
 sa:av.SA G' F v
 st:av.St k v0 G G'
 pm:∀ b,F b->fq b
 Qn:J0 P false (ic s v0 z ze) .select g2 g
def KT (mk:Value->Prop) (k:Nat) (s:aC) (main:Bool) (g:Goroutine) (v w:World) (S:Goroutine->World->Prop):Prop :=
 main = false->∃ v0 G G' F g2 z ze zt QA m,∃ S':Goroutine->World->Prop,mk v0 /\ Va P k s v0 G G' F g2 z ze g v ∧
  Way P false s (λg=>∃ g3,J0 P false (lq s zt QA) .select g3 g /\ ∀ x JY F' v',av.R k G' JY->av.SA JY F' v'->Sw F F' v v'->S' (Go.Conc.served g3 (commResult (lq s zt QA) .select 0 x true)) (dU v' s.sb (nL s JY))) m
   (Go.Conc.served g2 (commResult (ic s v0 z ze) .select 0 undef false)) /\ ∀ g' v',S' g' v'->S g' v'
def Kc (mk:Value->Prop) (k:Nat) (s:aC):Ext:=⟨λv w=>True,KT P mk k s,λ_=>False,λ_=>True,λh hS e=>let ⟨v0,G,G',F,g2,z,ze,zt,QA,m,S',h1,h2,h3,h4⟩:=h e; ⟨v0,G,G',F,g2,z,ze,zt,QA,m,S',h1,h2,h3,λg' v' h=>hS g' v' (h4 g' v' h)⟩⟩
end
variable {pm:Nat->Prop}
abbrev Al:=List (Nat × aC)
variable {al al':Al}
def Al.gh (al:Al) (G:Gh):Gh:=[al.length] :: (al.map (λa=>a.1 :: a.2.bT) ++ G)
theorem Al.LA {G:Gh} (h:al.gh G = al'.gh G'):al = al' /\ G = G':=by
 have⟨h1,h2⟩:=List.cons.inj h
 grind [List.append_inj,List.map_inj_right,List.cons.inj,Prod.ext,aC.Ig]
section
variable [av]
def DU (v:World):Al->Gh->Prop
 | [],G=>G = av.G0
 | a :: r,G=>av.N0 <= a.2.cs /\ v.heap[a.2.cs]? = some (tq (Al.gh (a :: r) G))
def qN (v:World):Al->Gh->World
 | [],_=>v
 | a :: r,G=>dU v a.2.cs (tq (Al.gh (a :: r) G))
theorem Fj {G:Gh}:tq (al.gh G) ≠ dummy:=by simp [tq,Al.gh,dummy]
theorem yp {G:Gh}:tq (al.gh G) ≠ gh l:=λe=>by
 have h1:=aL Array.toList (bF e).1;cases l <;> simp [Al.gh,ZX] at h1
structure U6 (v:World) (F:Nat->Prop) (s:aC) (G:Gh) (u:World):Prop where
 tape:u.tape = v.tape
 drawn:u.drawn = v.drawn
 os:u.os = v.os
 output:u.output = v.output
 size:u.heap.size = v.heap.size
 nv:cI u
 old:∀ b,¬ fq b \/ F b->u.heap[b]? = v.heap[b]?
 oe:u.heap[s.sb]? = some (nL s G)
 box:u.heap[s.bx]? = some (Ka s)
 nE:∀ b,fq b->¬ F b->b ≠ s.sb->b ≠ s.bx->b < v.heap.size->u.heap[b]? = some dummy
def lr (s:aC) (L:List Value):Obj:=.pending (s.c0 ++ L).toArray ((s.c0 ++ L).length + 1)
theorem tD (s:aC) (L:List Value):pL (lr s L) = true:=by rfl
theorem sr {L:List Value} {k:Nat}:Ro (lr s L) k z ↔ (s.c0 ++ L)[k]? = some z:=by
 constructor
 ·rintro ⟨d,n,h1,h2,h3,h4⟩;obtain⟨rfl,_⟩:=bF (show Obj.pending (s.c0 ++ L).toArray _ = _ from h1)
  grind
 ·intro h;exact ⟨_,_,rfl,by simp [aC.c0],by grind,by grind⟩
def vC (v:World) (s:aC) (L:List Value):World:=dU (dU (dU (dU (dU v s.sb (lr s L)) s.ct dummy) s.ce dummy) s.cs dummy) s.bx (Ka s)
structure Made (F:Nat->Prop) (s:aC) (L:List Value) (v:World):Prop where
 cells:∃ e:TypeId,v.heap[s.sb]? = some (.cells (s.c0 ++ L).toArray e (0,0))
 ct:v.heap[s.ct]? = some (.chan 0 #[] false 0 0 false)
 ce:v.heap[s.ce]? = some (.chan 0 #[] false 0 0 false)
 cs:v.heap[s.cs]? = some (.chan 0 #[] false 0 0 false)
 box:∃ e:TypeId,v.heap[s.bx]? = some (.cells #[s.pt] e)
 low:∀ b ∈ s.bT,av.N0 <= b /\ ¬ F b
 ne:s.ct ≠ s.ce /\ s.ct ≠ s.cs /\ s.ce ≠ s.cs /\ s.sb ≠ s.bx
def Told (P:Program) (said:Bool->Value->Prop) (k:Nat) (s:aC) (G:Gh) (F:Nat->Prop) (v:World) (S:Bool->Gh->Goroutine->World->Prop) (m:Nat) (g:Goroutine):Prop :=
 Way P true s (λg=>∃ g3 z',J0 P true #[rcase s.cs z'] (.recv false) g3 g /\ ∀ b v0 G' F' v',said b v0->av.St k v0 G G'->av.SA G' F' v'->Sw F F' v v'->S b G' (Go.Conc.served g3 v0) v') m g
theorem Goes.imp {P:Program} {main:Bool} {R:World->World->Prop} {D:World->World->Array Event->Prop} {T T':Goroutine->World->Prop} (h:∀ g w,T g w->T' g w):∀ {n:Nat} {g:Goroutine} {w:World},Goes P main R D T n g w->Goes P main R D T' n g w
 | 0,_,_,H=>λw1 h1=>h _ _ (H w1 h1)
 | n + 1,g,w,H=>H.imp (λH w1 h1=>h _ _ (H w1 h1)) λ⟨h0,H⟩=>⟨h0,λw1 h1=>by
   have:=H w1 h1;revert this;cases stepG P main g w1 <;> simp only [GStep.goes] <;> first | exact id | exact λ⟨a,b⟩=>⟨a,Goes.imp h b⟩⟩
theorem Told.mono {P:Program} {said:Bool->Value->Prop} {k:Nat} {G:Gh} {v:World} {S S':Bool->Gh->Goroutine->World->Prop} (h:Told P said k s G F v S m g) (hS:∀ b G' g' v',S b G' g' v'->S' b G' g' v'):Told P said k s G F v S' m g :=
 λw hw=>Goes.imp (λg _ ⟨g3,z',h1,h2⟩=>⟨g3,z',h1,λb v0 G' F' v' a1 a2 a3 a4=>hS _ _ _ _ (h2 b v0 G' F' v' a1 a2 a3 a4)⟩) (h w hw)
variable [Payload] (P:Program) (ty:TypeId) (Wg:Nat) (said:Bool->Value->Prop)
def QP (k:Nat) (s:aC) (g:Goroutine) (v:World):Prop :=
 ∃ v0 G G' F g2 z ze m,said true v0 /\ Va P k s v0 G G' F g2 z ze g v /\ ∀ w,WgLive ty Wg w->Has av.C k (av.tv k) w ->
   Goes P false (RW ty Wg av.C av.n 0 (k + 1 - 1)) DC0 (AtR0 P ty Wg av.C av.n 0 (k + 1) (av.tv k)) m (Go.Conc.served g2 (commResult (ic s v0 z ze) .select 0 undef false)) w
def YM (main:Bool) (g:Goroutine) (v w:World) (S:Goroutine->World->Prop):Prop :=
 main = true /\ ∃ (al:Al) (G:Gh) (k:Nat) (s:aC) (F:Nat->Prop) (g2:Goroutine) (z z0:Value) (m:Nat),DU v al G /\ al[k]? = some (1,s) /\ (∃ l,v.heap[Wg]? = some (Gx.gh l) /\ jr l = 0) /\ av.SA G F v /\ (∀ b,F b->fq b) /\ J0 P true #[scase s.ct z z0] .send g2 g ∧
  Told P said k s G F v (λb G' g' v'=>S g' (qN v' (al.set k (if b then 0 else 1,s)) G')) m (Go.Conc.served g2 undef)
def Oo (main:Bool) (g:Goroutine) (v w:World) (S:Goroutine->World->Prop):Prop :=
 main = true /\ ∃ (al:Al) (G:Gh) (s:aC) (r:Nat) (L:List Value) (F:Nat->Prop) (g1 child:Goroutine) (m:Nat),DU v al G /\ al.length + r + 1 = av.n /\ v.heap[Wg]? = some (Gx.gh [0,r,2]) /\ av.SA G F v /\ (∀ b,F b->fq b) /\ Made F s L v ∧
  g1.status = .running /\ child.status = .running /\ stepG P true g w = .spawn g1 child w #[] ∧
  (∀ u,U6 v F s G u->eB (Kc P (said false) al.length s) P false fq 0 (QP P ty Wg said al.length s) child u) ∧
  Told P said al.length s G F v (λb G' g' v'=>S g' (qN (dU (vC v' s L) Wg (Gx.gh (qR r))) (al ++ [(if b then 0 else 1,s)]) G')) m g1
def JW (main:Bool) (g:Goroutine) (v w:World) (S:Goroutine->World->Prop):Prop :=
 main = true /\ ∃ (s:aC) (L L':List Value) (g':Goroutine) (es:Array Event),v.heap[s.sb]? = some (lr s L) /\ L'.length = L.length /\ g'.status = .running ∧
  (∀ e:TypeId,w.heap[s.sb]? = some (.cells (s.c0 ++ L).toArray e (0,0))->stepG P true g w = .go g' { w with heap:=w.heap.setIfInBounds s.sb (.cells (s.c0 ++ L').toArray e (0,0)) } es) ∧
  (∀ x ∈ es,∃ i:Nat,3 <= i /\ x = ⟨.cell ⟨s.sb,i,none⟩,true,false⟩) /\ S g' (dU v s.sb (lr s L'))
def Hi (main:Bool) (g:Goroutine) (v w:World) (S:Goroutine->World->Prop):Prop :=
 main = true /\ ∃ (al:Al) (G:Gh) (k:Nat) (s:aC) (g':Goroutine),DU v al G /\ al[k]? = some (0,s) /\ g'.status = .running ∧
  (∃ es:Array Event,(∀ e ∈ es,e ∈ closeEvents s.ce) /\ ∀ m,w.heap[s.ce]? = some (.chan 0 #[] false m m false)->stepG P true g w = .go g' (w.setChan s.ce 0 #[] true m m false) es) /\ S g' (qN v (al.set k (2,s)) G)
def ahd (main:Bool) (g:Goroutine) (v w:World) (S:Goroutine->World->Prop):Prop :=
 main = true /\ ∃ (g':Goroutine) (al:Al) (G:Gh) (k:Nat) (a:Nat × aC),DU v al G /\ al[k]? = some a /\ (∀ a ∈ al,a.1 ≠ 1) /\ v.heap[Wg]? = some (Gx.gh [4]) /\ Vf P ty Wg g /\ g'.status = .running /\ (WgAt ty Wg w 0 1->stepG P true g w = .go g' (w.setCell (smA Wg) (.int .u32 0)) (semEvents (smA Wg))) /\ S g' (dU v Wg (Gx.gh [5]))
def XM:Ext:=⟨(XB P ty Wg av.n).fits,λm g v w S=>m = true->(XB P ty Wg av.n).kind m g v w S \/ YM P Wg said m g v w S \/ Oo P ty Wg said m g v w S \/ Hi P m g v w S \/ JW P m g v w S \/ ahd P ty Wg m g v w S,λ_=>False,λ_=>True,λh hS e=>by
 rcases h e with h | ⟨h0,al,G,k,s,F,g2,z,z0,m,h1,h2,h2',h3,h4,h5,h6⟩ | ⟨h0,al,G,s,r,L,F,g1,ch,m,h1,h2,h3,h4,h5,h6,h7,h8,h9,ha,hb⟩ | ⟨h0,al,G,k,s,g',h1,h2,h3,h4,h5⟩ | ⟨h0,s,L,L',g',es,h1,h2,h3,h4,h5,h6⟩ | ⟨h0,g',al,G,k,a,ha,hb,hc,h1,h2,h3,h4,h5⟩
 ·exact .inl ((XB P ty Wg av.n).mono h hS)
 ·exact .inr (.inl ⟨h0,al,G,k,s,F,g2,z,z0,m,h1,h2,h2',h3,h4,h5,h6.mono λ_ _ _ _=>hS _ _⟩)
 ·exact .inr (.inr (.inl ⟨h0,al,G,s,r,L,F,g1,ch,m,h1,h2,h3,h4,h5,h6,h7,h8,h9,ha,hb.mono λ_ _ _ _=>hS _ _⟩))
 ·exact .inr (.inr (.inr (.inl ⟨h0,al,G,k,s,g',h1,h2,h3,h4,hS _ _ h5⟩)))
 ·exact .inr (.inr (.inr (.inr (.inl ⟨h0,s,L,L',g',es,h1,h2,h3,h4,h5,hS _ _ h6⟩))))
 ·exact .inr (.inr (.inr (.inr (.inr ⟨h0,g',al,G,k,a,ha,hb,hc,h1,h2,h3,h4,hS _ _ h5⟩))))⟩
end
open Classical in
noncomputable def gQ (F:Nat->Prop) (u w:World):World :=
 { u with heap:=Array.ofFn (n:=w.heap.size) λb=>if F b.1 then dummy else (u.heap[b.1]?).getD dummy,drawn:=w.drawn }
open Classical in
noncomputable def back (F:Nat->Prop) (u w:World):World :=
 { u with heap:=Array.ofFn (n:=w.heap.size) λb=>if F b.1 then (w.heap[b.1]?).getD dummy else (u.heap[b.1]?).getD dummy,drawn:=w.drawn }
open Classical in
noncomputable def tj (F:Nat->Prop) (c:Nat) (ow:Nat->Nat):Nat->Nat:=λb=>if F b then c else ow b
section
variable [av] {u v w w':World}
theorem wY (h:F b):tj F c ow b = c:=if_pos h
theorem iX (h:¬ F b):tj F c ow b = ow b:=if_neg h
theorem kO:(gQ F u w).heap.size = w.heap.size:=by simp [gQ]
theorem uF:(back F u w).heap.size = w.heap.size:=by simp [back]
theorem qI (h:F b) (hb:b < w.heap.size):(gQ F u w).heap[b]? = some dummy:=by simp [gQ,hb,h]
theorem iA (h:¬ F b) (hb:b < w.heap.size):(gQ F u w).heap[b]? = some ((u.heap[b]?).getD dummy):=by simp [gQ,hb,h]
theorem Ha (h:F b) (hb:b < w.heap.size):(back F u w).heap[b]? = w.heap[b]?:=by simp [back,hb,h]
theorem nt (h:¬ F b) (hb:b < w.heap.size):(back F u w).heap[b]? = some ((u.heap[b]?).getD dummy):=by simp [back,hb,h]
theorem qD {u:World} (h:u.heap[b]? = some dummy):¬ ny u b:=λhv=>by
 have:=hv _ h;simp [u9,dummy] at this
theorem lk (h:(gQ F u w).heap[b]? = some o):o = dummy \/ (¬ F b /\ u.heap[b]? = some o):=by
 grind [kO,aG,qI,Option.some.inj,iA]
theorem qu (h:(back F u w).heap[b]? = some o):o = dummy \/ (F b /\ w.heap[b]? = some o) \/ (¬ F b /\ u.heap[b]? = some o):=by
 grind [uF,aG,Ha,nt,Option.some.inj]
structure VG (c:Nat) (x:Nat->Prop) (ow:Nat->Nat) (w u:World):Prop where
 nv:cI u
 gy:vk u w
 iL:∀ b,b < w.heap.size->ny u b->ow b = 0 \/ ow b = c
 me:∀ (b k:Nat) z,u.heap[b]? ≠ some (slot k z)
 ro:∀ (b k:Nat) o z,u.heap[b]? = some o->Ro o k z->x b
 nE:∀ b,b < w.heap.size->fq b->ow b ≠ 0->ow b ≠ c->¬ x b->u.heap[b]? = some dummy
variable {x:Nat->Prop}
theorem ef {k:Nat}:¬ Ro dummy k z:=kW
theorem VG.gQ (h:VG c x ow w u) (hF:∀ b,F b->ny u b) (hx:∀ b,F b->ow b = c):VG c x (tj F c' ow) w (gQ F u w):=by
 have hm:=h.gy;have hv:∀ b,b < w.heap.size->ny (Gx.gQ F u w) b->¬ F b /\ ny u b:=λb hb hv=>by
  by_cases hf:F b
  ·exact absurd hv (qD (qI hf hb))
  ·refine ⟨hf,λo ho=>hv o ?_⟩;rw [iA hf hb,ho]; rfl
 refine ⟨λb o ho=>?_,⟨kO.symm,hm.tape,rfl,hm.os,hm.output,λb hb=>?_,λb k z hz=>?_,λb k o z hz hr=>?_⟩,λb hb hb'=>?_,λb k z hz=>?_,λb k o z hz hr=>?_,λb hb hp h0 h1 h2=>?_⟩
 ·rcases lk ho with rfl | ⟨_,ho⟩
  ·rfl
  ·exact h.nv b o ho
 ·by_cases hl:b < w.heap.size
  ·have⟨hf,hu⟩:=hv b hl hb;have hl':b < u.heap.size:=by rw [<- hm.size]; exact hl
   rw [iA hf hl,hm.iL b hu,aX hl']; rfl
  grind [kO]
 ·rcases lk hz with e | ⟨_,hz⟩
  ·simp [slot,dummy] at e
  ·exact absurd hz (h.me b k z)
 ·rcases lk hz with rfl | ⟨_,hz⟩
  ·exact absurd hr ef
  ·exact hm.ro b k o z hz hr
 ·have⟨hf,hu⟩:=hv b hb hb';rw [iX hf]; exact h.iL b hb hu
 ·rcases lk hz with e | ⟨_,hz⟩
  ·simp [slot,dummy] at e
  ·exact h.me b k z hz
 ·rcases lk hz with rfl | ⟨_,hz⟩
  ·exact absurd hr ef
  ·exact h.ro b k o z hz hr
 ·by_cases hf:F b
  ·exact qI hf hb
  ·rw [iX hf] at h0 h1;rw [iA hf hb,h.nE b hb hp h0 h1 h2]; rfl
theorem VG.back (h:VG c x ow w u) (hw:∀ b,F b->∃ o,w.heap[b]? = some o /\ u9 o = false /\ Eb o = false) (hc:c ≠ 0):VG c x (tj F c ow) w (back F u w):=by
 have hm:=h.gy;refine ⟨λb o ho=>?_,⟨uF.symm,hm.tape,rfl,hm.os,hm.output,λb hb=>?_,λb k z hz=>?_,λb k o z hz hr=>?_⟩,λb hb hb'=>?_,λb k z hz=>?_,λb k o z hz hr=>?_,λb hb hp h0 h1 h2=>?_⟩
 ·rcases qu ho with rfl | ⟨hf,ho⟩ | ⟨_,ho⟩
  ·rfl
  ·grind
  ·exact h.nv b o ho
 ·by_cases hl:b < w.heap.size
  ·have hl':b < u.heap.size:=by rw [<- hm.size]; exact hl
   by_cases hf:F b
   ·rw [Ha hf hl]
   ·have hu:ny u b:=λo ho=>hb o (by rw [nt hf hl,ho]; rfl)
    rw [nt hf hl,hm.iL b hu,aX hl']; rfl
  grind [uF]
 ·rcases qu hz with e | ⟨hf,hz⟩ | ⟨_,hz⟩
  ·simp [slot,dummy] at e
  ·grind [u9,slot]
  ·exact absurd hz (h.me b k z)
 ·rcases qu hz with rfl | ⟨hf,hz⟩ | ⟨_,hz⟩
  ·exact absurd hr ef
  ·exact s75
  ·exact hm.ro b k o z hz hr
 ·by_cases hf:F b
  ·exact .inr (wY hf)
  ·rw [iX hf];exact h.iL b hb λo ho=>hb' o (by rw [nt hf hb,ho]; rfl)
 ·rcases qu hz with e | ⟨hf,hz⟩ | ⟨_,hz⟩
  ·simp [slot,dummy] at e
  ·grind [u9,slot]
  ·exact h.me b k z hz
 ·rcases qu hz with rfl | ⟨hf,hz⟩ | ⟨_,hz⟩
  ·exact absurd hr ef
  ·exact s75
  ·exact h.ro b k o z hz hr
 ·by_cases hf:F b
  ·exact absurd (wY hf) h1
  ·rw [iX hf] at h0 h1;rw [nt hf hb,h.nE b hb hp h0 h1 h2]; rfl
end
section
variable [av] {F':Nat->Prop} {u v v' w w' ux ux':World} {x x':Nat->Prop}
def xJ (w:World) (c:Nat) (ow:Nat->Nat):Nat->Nat:=λb=>if b < w.heap.size then ow b else c
theorem oY (h:b < w.heap.size):xJ w c ow b = ow b:=if_pos h
theorem Ae (h:¬ b < w.heap.size):xJ w c ow b = c:=if_neg h
theorem VG.own (h:VG c x ow w v) (t:oS pm v v') (k:Beside v w v' w') (hx:∀ b,x b->b < w.heap.size):VG c x (xJ w c ow) w' v':=by
 have hs:=h.gy.size;refine ⟨t.nv h.nv,k.gy,λb hb hv=>?_,λb i z hz=>?_,λb i o z hz hr=>?_,λb hb hp h0 h1 h2=>?_⟩
 ·by_cases hl:b < w.heap.size
  ·rw [oY hl];exact h.iL b hl ((t.VY (by omega)).1 hv)
  ·exact .inr (Ae hl)
 ·by_cases hl:b < v.heap.size
  ·have⟨y,hy⟩:=t.RB hl hz;exact h.me b i y hy
  ·have:=t.fresh b _ (by omega) hz
   trivial
 ·by_cases hl:b < v.heap.size
  ·rcases Ri v b with h1 | ⟨o',h1,h2⟩ | ⟨i',y,h1⟩
   ·have:=t.iL b h1 _ hz;rw [jH hr.pL] at this; grind
   ·rw [t.nE b o' h1 h2] at hz;cases hz;exact h.ro b i _ z h1 hr
   ·exact absurd h1 (h.me b i' y)
  ·have:=t.fresh b _ (by omega) hz;rw [jH hr.pL] at this; grind
 ·by_cases hl:b < w.heap.size
  ·rw [oY hl] at h0 h1;exact t.nE b dummy (h.nE b hl hp h0 h1 h2) rfl
  grind [Ae]
theorem A2 (h:u.heap.size <= w'.heap.size):(hZ u w').heap.size = w'.heap.size:=by simp [hZ]; omega
theorem VG.other (h:VG c x ow w u) (hc:VG c' x' ow w ux) (ne:c ≠ c') (t:oS pm ux ux') (k:Beside ux w ux' w') (hpm:∀ b,b < w.heap.size->ow b = 0->¬ pm b)
 (hro:∀ b,x b->b < w.heap.size->∃ o,ux.heap[b]? = some o /\ pL o = true) (hx0:∀ b,x b->b < w.heap.size) :
 VG c x (xJ w c' ow) w' (hZ u w'):=by
 have gr:=gL u w';have hs:=h.gy.size;have m':=Pf t k hc.gy h.gy (λi hi hv=>by
  rcases Ri ux i with h1 | h1 | ⟨j,z,h1⟩
  ·rcases h.iL i hi hv with h2 | h2
   ·exact .inr ⟨h1,hpm i hi h2⟩
   ·rcases hc.iL i hi h1 with h3 | h3
    ·exact .inr ⟨h1,hpm i hi h3⟩
    ·exact absurd (h2.symm.trans h3) ne
  ·exact .inl h1
  ·exact absurd h1 (hc.me i j z)) (λi j z hz=>absurd hz (h.me i j z)) (λi o ho ⟨j,z,hr⟩=>by
  have:=h.ro i j o z ho hr;exact hro i this (hx0 i this))
 refine ⟨gr.nv h.nv,m',λb hb hv=>?_,λb i z hz=>h.me b i z (gr.slot hz),λb i o z hz hr=>?_,λb hb hp h0 h1 h2=>?_⟩
 ·have⟨h1,h2⟩:=(gr.iL (by rw [<- m'.size]; exact hb)).1 hv;have hl:b < w.heap.size:=by omega
  rw [oY hl];exact h.iL b hl h2
 ·by_cases hl:b < u.heap.size
  ·rw [gr.old b hl] at hz; exact h.ro b i o z hz hr
  ·rw [gr.new b (by omega) (aG hz)] at hz
   grind [ef]
 ·by_cases hl:b < w.heap.size
  ·rw [oY hl] at h0 h1;rw [gr.old b (by omega)];exact h.nE b hl hp h0 h1 h2
  ·exact gr.new b (by omega) (by grind [A2])
theorem VG.aside (h:VG c x ow w u) (h1:w'.tape = w.tape) (h2:w'.os = w.os) (h3:w'.output = w.output) (h4:w'.heap.size = w.heap.size)
 (h5:∀ b:Nat,ny u b->w'.heap[b]? = w.heap[b]?) (h6:∀ (b k:Nat) o z,u.heap[b]? = some o->Ro o k z->w'.heap[b]? = w.heap[b]?):VG c x ow w' (u.at w'.drawn) :=
 ⟨h.nv,NC h.gy h1 h2 h3 h4 h5 (λb k z hz=>absurd hz (h.me b k z)) (λb k o z hz hr=>by
  have⟨cs,e,g1,g2⟩:=h.gy.ro b k o z hz hr
  grind),λb hb hv=>h.iL b (by omega) hv,h.me,h.ro,λb hb=>h.nE b (by omega)⟩
theorem uG (h:v.heap.size <= w.heap.size) (h':w.heap.size <= w'.heap.size):gQ F v w' = hZ (gQ F v w) w':=by
 have e:(gQ F v w').heap = (hZ (gQ F v w) w').heap:=by
  apply ik;intro b;have gr:=gL (gQ F v w) w';have hs:(hZ (gQ F v w) w').heap.size = w'.heap.size:=A2 (by rw [kO]; exact h')
  by_cases hb:b < w'.heap.size
  ·by_cases hl:b < w.heap.size
   ·rw [gr.old b (by rw [kO]; exact hl)]
    by_cases hF:F b
    ·rw [qI hF hb,qI hF hl]
    ·rw [iA hF hb,iA hF hl]
   ·rw [gr.new b (by rw [kO]; omega) (by omega)]
    by_cases hF:F b
    ·rw [qI hF hb]
    ·rw [iA hF hb,c8 (by omega)]; rfl
  ·rw [c8 (by rw [kO]; omega),c8 (by omega)]
 have:∀ a b:World,a.heap = b.heap->a.drawn = b.drawn->a.tape = b.tape->a.os = b.os->a.output = b.output->a = b:=λa b=>by cases a; cases b; simp; intros; subst_vars; simp_all
 exact this _ _ e rfl rfl rfl rfl
theorem VG.Zk {d:Nat} (h:VG d x ow w u) (hF:∀ b,F b->ow b = c) (h0:c ≠ 0) (h1:d ≠ c) (h2:d ≠ c') (h3:c' ≠ 0) (hx:∀ b,F b->¬ x b):VG d x (tj F c' ow) w u :=
 ⟨h.nv,h.gy,λb hb hv=>by
  by_cases hf:F b
  ·rcases h.iL b hb hv with e | e
   ·grind
   grind
  ·rw [iX hf]; exact h.iL b hb hv,h.me,h.ro,λb hb hp e0 e1 e2=>by
  by_cases hf:F b
  ·exact h.nE b hb hp (by grind) (by grind) e2
  ·rw [iX hf] at e0 e1; exact h.nE b hb hp e0 e1 e2⟩
theorem E4 {vg:World} {xg xt:Nat->Prop} (hg:VG c xg ow w vg) (ht:VG c' xt ow w (gQ F v w)) (hsa:av.SA G' F' vg) (hpm:∀ b,F' b->fq b) (hold:∀ b,ow b = 0->¬ fq b)
 (ne:c ≠ c') (h0:c ≠ 0) (h0':c' ≠ 0) (hxt:∀ b,F' b->¬ xt b) (hsz:v.heap.size <= w.heap.size) :
 (∀ b,F' b->ow b = c) /\ VG c xg (tj F' c' ow) w (gQ F' vg w) /\ VG c' xt (tj F' c' ow) w (back F' (gQ F v w) w) /\ Sw F F' v (back F' (gQ F v w) w) /\ av.SA G' F' (back F' (gQ F v w) w):=by
 have hV:∀ b,F' b->ny vg b /\ b < w.heap.size:=λb hb=>by
  have:=av.iL hsa hb;exact ⟨this.1,by rw [hg.gy.size]; exact this.2⟩
 have hO:=λb hb=>(hg.iL b (hV b hb).2 (hV b hb).1).resolve_left λe=>hold b e (hpm b hb)
 have hR:=λb hb=>hg.gy.iL b (hV b hb).1
 have hW:∀ b,F' b->∃ o,w.heap[b]? = some o /\ u9 o = false /\ Eb o = false:=λb hb=>by
  have hl:=(av.iL hsa hb).2;refine ⟨_,(hR b hb).trans (aX hl),(hV b hb).1 _ (aX hl),hg.nv b _ (aX hl)⟩
 have hD:=λb hb=>ht.nE b (hV b hb).2 (hpm b hb) (by rw [hO b hb]; exact h0) (by rw [hO b hb]; exact ne) (hxt b hb)
 have hB:=ht.back hW h0';refine ⟨hO,hg.gQ (λb hb=>(hV b hb).1) hO,hB,⟨rfl,rfl,rfl,by rw [uF]; omega,hB.nv,λb hb h1 h2=>?_,λb hb h1 h2=>?_,λb hb=>?_,hpm⟩,av.loc hsa λb hb=>?_⟩
 ·have hl:b < w.heap.size:=by omega
  rw [nt h2 hl,iA h1 hl,aX hb]; rfl
 ·rw [uF] at h2;rw [nt h1 h2]
  by_cases hf:F b
  ·rw [qI hf h2]; rfl
  grind [iA]
 ·grind [iA]
 grind [Ha]
end
structure PX where
 tr:Tr
 md:Nat
 st:Nat
 wd:WD
 G:Gh
variable {x x':PX} {G:Gh} {D:Nat->PX}
structure MX where
 tr:Tr
 md:Nat
 k:Nat
 st:Nat
variable {k:Nat} {tr:Tr} {mm mm':MX} {st:Int}
def xM (Wg:Nat) (al:Al):Nat->Prop:=λb=>b = Wg \/ ∃ a ∈ al,b ∈ a.2.bT
def xT (s:aC):Nat->Prop:=λb=>b = s.sb \/ b = s.bx
section
variable [Payload] [av] (P:Program) (ty:TypeId) (Wg:Nat) (said:Bool->Value->Prop) (gJ:Goroutine->World->Prop)
structure VM (ow:Nat->Nat) (l:List Nat) (al:Al) (G:Gh) (w u:World):Prop extends VG 1 (xM Wg al) ow w u where
 hW:u.heap[Wg]? = some (gh l)
 gm:DU u al G
 oe:∀ a ∈ al,∃ L e,u.heap[a.2.sb]? = some (lr a.2 L) /\ w.heap[a.2.sb]? = some (.cells (a.2.c0 ++ L).toArray e (0,0))
 box:∀ a ∈ al,u.heap[a.2.bx]? = some (Ka a.2) /\ ∃ e:TypeId,w.heap[a.2.bx]? = some (.cells #[a.2.pt] e (0,0))
 ch:∀ a ∈ al,∀ b ∈ [a.2.ct,a.2.ce,a.2.cs,a.2.bx],∃ o,u.heap[b]? = some o /\ pL o = true
 one:∀ (b:Nat) (al':Al) (G':Gh),u.heap[b]? = some (tq (al'.gh G'))->b < av.N0 \/ ∃ a r,al = a :: r /\ b = a.2.cs
 Nb:∀ (b k:Nat) o z,u.heap[b]? = some o->Ro o k z->∃ a ∈ al,xT a.2 b
structure VT (k:Nat) (s:aC) (ow:Nat->Nat) (G:Gh) (w u:World):Prop extends VG (k + 2) (xT s) ow w u where
 gt:GhT s u G
 bo:u.heap[s.bx]? = some (Ka s)
def TGo (k:Nat) (s:aC) (G:Gh) (F:Nat->Prop) (v:World) (tr:Tr) (g3:Goroutine) (zt ze:Value):Prop :=
 ∀ x JY F'' v',av.R k G JY->av.SA JY F'' v'->Sw F F'' v v'->∃ t',Tr.Sub t' tr /\ RunT (Kc P (said false) k s) P false fq 0 (QP P ty Wg said k s) t' (Go.Conc.served g3 (commResult (lq s zt ze) .select 0 x true)) (dU v' s.sb (nL s JY))
def TAt (k:Nat) (s:aC) (G:Gh) (F:Nat->Prop) (v:World) (tr:Tr) (g:Goroutine):Prop:=∃ g3 zt ze,J0 P false (lq s zt ze) .select g3 g /\ TGo P ty Wg said k s G F v tr g3 zt ze
def Hh (k:Nat) (wd:WD) (g:Goroutine) (w:World):Prop :=
 (wd.stage = 7 /\ wd.deaf = 0 /\ Goes P false (RW ty Wg av.C av.n 0 (k + 1 - 1)) DC0 (AtR0 P ty Wg av.C av.n 0 (k + 1) (av.tv k)) wd.fuel g w) \/ (wd.stage <= 6 /\ WSit P ty Wg av.C av.n O0 O0 0 (k + 1) (av.tv k) wd.stage wd.fuel wd.deaf g w)
inductive Be (k:Nat) (s:aC) (ow:Nat->Nat) (w:World):PX->Goroutine->Prop
 | run {tr:Tr} {G:Gh} {g:Goroutine} {v u:World}:RunT (Kc P (said false) k s) P false fq 0 (QP P ty Wg said k s) tr g v->df v u->VT k s ow G w u->g.status = .running->Be k s ow w ⟨tr,0,0,⟨7,0,0⟩,G⟩ g
 | mV {tr:Tr} {G G':Gh} {g:Goroutine} {F:Nat->Prop} {v:World} {n:Nat}:VT k s ow G' w (gQ F v w)->v.heap.size <= w.heap.size->(∀ b,F b->¬ xT s b)->g.status = .running ->
  Goes P false (λ_ w1=>oo s w1) (DSt s) (λg _=>TAt P ty Wg said k s G F v tr g) n g w->Be k s ow w ⟨tr,1,n + 1,⟨7,0,0⟩,G⟩ g
 | Vj {tr:Tr} {G G':Gh} {F:Nat->Prop} {v:World} {g3:Goroutine} {zt ze:Value}:VT k s ow G' w (gQ F v w)->v.heap.size <= w.heap.size->(∀ b,F b->¬ xT s b)->g3.status = .running ->
  TGo P ty Wg said k s G F v tr g3 zt ze->Be k s ow w ⟨tr,1,0,⟨7,0,0⟩,G⟩ (parked g3 (lq s zt ze) .select)
 | told {tr:Tr} {G G':Gh} {F:Nat->Prop} {v u:World} {v0 z ze:Value} {g2:Goroutine} {m:Nat}:df v u->VT k s ow G w u->said false v0->av.SA G' F v->av.St k v0 G G'->(∀ b,F b->fq b)->g2.status = .running ->
  Way P false s (TAt P ty Wg said k s G' F v tr) m (Go.Conc.served g2 (commResult (ic s v0 z ze) .select 0 undef false))->Be k s ow w ⟨tr,2,0,⟨7,0,0⟩,G⟩ (parked g2 (ic s v0 z ze) .select)
 | last {G G':Gh} {F:Nat->Prop} {v u:World} {v0 z ze:Value} {g2:Goroutine} {m:Nat}:df v u->VT k s ow G w u->said true v0->av.SA G' F v->av.St k v0 G G'->(∀ b,F b->fq b)->g2.status = .running ->
  (∀ w,WgLive ty Wg w->Has av.C k (av.tv k) w->Goes P false (RW ty Wg av.C av.n 0 (k + 1 - 1)) DC0 (AtR0 P ty Wg av.C av.n 0 (k + 1) (av.tv k)) m (Go.Conc.served g2 (commResult (ic s v0 z ze) .select 0 undef false)) w) ->
  Be k s ow w ⟨.leaf,2,0,⟨7,0,0⟩,G⟩ (parked g2 (ic s v0 z ze) .select)
 | wo {wd:WD} {G:Gh} {g:Goroutine}:Hh P ty Wg k wd g w->Be k s ow w ⟨.leaf,3,0,wd,G⟩ g
def MGo (k:Nat) (s:aC) (G:Gh) (F:Nat->Prop) (v:World) (al:Al) (tr:Tr) (g3:Goroutine):Prop :=
 ∀ b v0 G' F' v',said b v0->av.St k v0 G G'->av.SA G' F' v'->Sw F F' v v'->(∀ b,F' b->¬ xM Wg al b)->∃ t',Tr.Sub t' tr /\ RunT (XM P ty Wg said) P true fq 0 gJ t' (Go.Conc.served g3 v0) (qN v' (al.set k (if b then 0 else 1,s)) G')
def MAt (k:Nat) (s:aC) (G:Gh) (F:Nat->Prop) (v:World) (al:Al) (tr:Tr) (g:Goroutine):Prop:=∃ g3 z',J0 P true #[rcase s.cs z'] (.recv false) g3 g /\ MGo P ty Wg said gJ k s G F v al tr g3
inductive AF (al:Al) (l:List Nat) (ow:Nat->Nat) (G:Gh) (w:World):Bool->MX->Goroutine->Prop
 | hold {tr:Tr} {g:Goroutine} {v u:World} {bl:Bool}:RunT (XM P ty Wg said) P true fq 0 gJ tr g v->df v u->VM Wg ow l al G w u->g.status = .running->(bl = true->l = [4] /\ Vf P ty Wg g /\ ∀ a ∈ al,a.1 ≠ 1)->AF al l ow G w bl ⟨tr,0,0,0⟩ (if bl then { g with status:=.blocked } else g)
 | send {tr:Tr} {k m:Nat} {s:aC} {F:Nat->Prop} {v u:World} {g2:Goroutine} {z z0:Value}:df v u->VM Wg ow l al G w u->av.SA G F v->(∀ b,F b->fq b)->al[k]? = some (1,s)->jr l = 0->g2.status = .running ->
  Way P true s (MAt P ty Wg said gJ k s G F v al tr) m (Go.Conc.served g2 undef)->AF al l ow G w false ⟨tr,1,k,0⟩ (parked g2 #[scase s.ct z z0] .send)
 | mV {tr:Tr} {k n:Nat} {s:aC} {F:Nat->Prop} {v:World} {g:Goroutine}:VM Wg ow l al G w (gQ F v w)->v.heap.size <= w.heap.size->(∀ b,F b->¬ xM Wg al b)->al[k]? = some (1,s)->jr l = 0->g.status = .running ->
  Goes P true (λ_ w1=>oo s w1) (DMt s) (λg _=>MAt P ty Wg said gJ k s G F v al tr g) n g w->AF al l ow G w false ⟨tr,2,k,n + 1⟩ g
 | wait {tr:Tr} {k:Nat} {s:aC} {F:Nat->Prop} {v:World} {g3:Goroutine} {z':Value}:VM Wg ow l al G w (gQ F v w)->v.heap.size <= w.heap.size->(∀ b,F b->¬ xM Wg al b)->al[k]? = some (1,s)->jr l = 0->g3.status = .running ->
  MGo P ty Wg said gJ k s G F v al tr g3->AF al l ow G w false ⟨tr,3,k,0⟩ (parked g3 #[rcase s.cs z'] (.recv false))
def JU (base:Nat) (al:Al):Nat->Loc->Prop:=λg l=>∃ (k:Nat) (a:Nat × aC) (i:Nat),al[k]? = some a /\ i < 3 /\ (l = .cell ⟨a.2.sb,i,none⟩ \/ l = .cell ⟨a.2.bx,0,none⟩) /\ (g = 0 \/ g = base + k)
def yJ (base:Nat) (l:List Nat) (j:Nat) (D:Nat->PX):Nat->Prop:=λg=>(g = 0 /\ jr l = 0) \/ ∃ k,k < j /\ g = base + k /\ (D k).md ≠ 3
def QQ (base:Nat) (mm:MX) (j:Nat) (D:Nat->PX):Nat->Prop:=λg=>(g = 0 /\ 2 <= mm.md) \/ ∃ k,k < j /\ g = base + k /\ (D k).md = 1
def pf (D:Nat->PX):Nat->WD:=λi=>(D i).wd
def hP (base:Nat) (mm:MX):Nat:=if 2 <= mm.md then base + mm.k else 0
structure cj (base:Nat) (gs:Array Goroutine) (w:World) (t:Trace) (D:Nat->PX) (mm:MX) (al:Al) (l:List Nat) (bl:Bool) (q ow:Nat->Nat) (G:Gh) (st sm:Int):Prop where
 pos:0 < base
 size:gs.size = base + al.length
 old:∀ i g,0 < i->i < base->gs[i]? = some g->QuitsD P (q i) (Deaf t i) g
 main:∃ g,gs[0]? = some g /\ AF P ty Wg said gJ al l ow G w bl mm g
 EB:∀ k a,al[k]? = some a->∃ g,gs[base + k]? = some g /\ Be P ty Wg said k a.2 ow w (D k) g
 now:∀ k a,al[k]? = some a->(2 <= mm.md /\ k = mm.k /\ a.1 = 1 /\ ((D k).md = 0 \/ ((D k).md = 2 /\ mm.md = 2)) /\ (D k).G = G) ∨
  (¬ (2 <= mm.md /\ k = mm.k) /\ (((D k).md = 1 /\ a.1 = 1 /\ av.R k (D k).G G /\ (mm.md = 1->k = mm.k->0 < (D k).st)) \/ ((D k).md = 3 /\ a.1 ≠ 1)))
 past:PastS (ShN Wg) av.Sn (JU base al) (yJ base l al.length D) (QQ base mm al.length D) w.heap.size (hP base mm) t
 xQ:∀ (i:Nat) op,t[i]? = some op->op.g < base + al.length
 norel:∀ a,NoRelease a t
 deaf0:Deaf t 0 = jr l
 deafW:∀ k,k < al.length->Deaf t (base + k) = (D k).wd.deaf
 rel:∀ k,k < al.length->(D k).wd.stage <= 6->∃ r,RelBy (stA Wg) t (base + k) r
 kept:∀ b,¬ fq b->w.heap[b]? = av.W1.heap[b]?
 H9:ow av.C = 0 /\ av.C < av.N0 /\ av.N0 <= w.heap.size
 DR:∀ b,ow b = 0->¬ fq b
 Ia:∀ b,¬ fq b->ow b = 0 \/ ow b = av.n + 2
 sn:∀ l,av.Sn l->∃ a:Addr,l = .cell a /\ ¬ fq a.block /\ ow a.block = av.n + 2
 CG:ow Wg = 1 /\ av.N0 <= Wg /\ Wg < w.heap.size
 rn:∀ a ∈ al,∀ b ∈ a.2.bT,ow b = 1 /\ av.N0 <= b /\ b < w.heap.size /\ b ≠ Wg
 sep:∀ (k k':Nat) a a',al[k]? = some a->al[k']? = some a'->∀ (i i' b:Nat),a.2.bT[i]? = some b->a'.2.bT[i']? = some b->k = k' /\ i = i'
 FF:∀ a ∈ al,(∃ m,w.heap[a.2.ct]? = some (.chan 0 #[] false m m false)) /\ (∃ m,w.heap[a.2.ce]? = some (.chan 0 #[] (a.1 == 2) m m false)) /\ ∃ m,w.heap[a.2.cs]? = some (.chan 0 #[] false m m false)
 wf:Qu av.n al.length l
 wg:WgAt ty Wg w st sm
 mode:ConcN.Mode al.length (pf D) (jZ l bl) st sm
 bound:∀ b,l = [2,b]->Vc al.length (pf D) <= b
def Pn (x:PX):Mu1:=(x.tr,(x.wd.stage,x.wd.fuel))
abbrev MuP:=Nat × (Tr × (List Mu1 × (Nat × Nat)))
def lX:MuP->MuP->Prop:=Prod.Lex (· < ·) (Prod.Lex Tr.Sub (Prod.Lex (Bf rM) (Prod.Lex (· < ·) (· < ·))))
def Wz:WellFounded lX:=(Prod.lex Nat.lt_wfRel (Prod.lex ⟨_,Tr.wf⟩ (Prod.lex ⟨_,SW ae4⟩ (Prod.lex Nat.lt_wfRel Nat.lt_wfRel)))).wf
def uJ (base n:Nat) (D:Nat->PX) (mm:MX) (j:Nat) (q:Nat->Nat) (bl:Bool):MuP :=
 (n - j,(mm.tr,((List.range' 0 j).map (λi=>Pn (D i)),(sumTo base q + mm.st + sumTo j (λk=>(D k).st),(if bl then 0 else 1) + (if mm.md = 0 then 2 else if mm.md = 2 then 1 else 0) + sumTo j (λk=>if (D k).md = 0 then 1 else 0)))))
def nA (base:Nat) (μ:MuP) (m:Machine) (t:Trace):Prop :=
 ∃ gs w sl D mm al l bl q ow G st sm,m = crowd gs w sl /\ cj P ty Wg said gJ base gs w t D mm al l bl q ow G st sm /\ μ = uJ base av.n D mm al.length q bl
end
section
variable [Payload] [av] {gJ:Goroutine->World->Prop} {F':Nat->Prop} {u v v' w w':World}
theorem World.Ft {a b:World} (h1:a.heap = b.heap) (h2:a.drawn = b.drawn) (h3:a.tape = b.tape) (h4:a.os = b.os) (h5:a.output = b.output):a = b:=by
 cases a; simp_all
theorem abX (h:df v u) (hs:u.heap.size <= w.heap.size):gQ F u w = gQ F v w:=by
 refine World.Ft (ik λb=>?_) rfl h.tape h.os h.output
 by_cases hb:b < w.heap.size
 ·by_cases hF:F b
  ·grind [qI]
  ·rw [iA hF hb,iA hF hb]
   by_cases hl:b < v.heap.size
   ·rw [h.old b hl]
   ·rw [c8 (by omega:v.heap.size <= b)]
    by_cases hu:b < u.heap.size
    ·rw [h.new b (by omega) hu]; rfl
    grind
 grind [kO]
theorem VT.qk (h:VT k s ow G w u):oo s w:=by
 have hl:∀ (i:Nat) z,s.c0[i]? = some z->Ro (nL s G) i z:=λi z hz=>nj.2 hz
 have⟨c,e,h1,_⟩:=h.gy.ro s.sb 0 _ _ h.gt (hl 0 _ rfl);refine ⟨⟨c,e,h1,λi z hz=>?_⟩,h.gy.ro s.bx 0 _ _ h.bo (yf.2 ⟨rfl,rfl⟩)⟩;have⟨c',e',h2,h3⟩:=h.gy.ro s.sb i _ z h.gt (hl i z hz)
 grind
theorem VT.grow (h:VT k s ow G w u) (hV:VG (k + 2) (xT s) ow' w' (hZ u w')):VT k s ow' G w' (hZ u w') :=
 ⟨hV,by have:=(gL u w').old s.sb (aG h.gt); exact this.trans h.gt,by have:=(gL u w').old s.bx (aG h.bo); exact this.trans h.bo⟩
theorem VM.grow (h:VM Wg ow l al G w u) (hV:VG 1 (xM Wg al) ow' w' (hZ u w')) (hs:∀ a ∈ al,∀ b,xT a.2 b->w'.heap[b]? = w.heap[b]?):VM Wg ow' l al G w' (hZ u w'):=by
 have gr:=gL u w';have keep:∀ {b:Nat} {o:Obj},u.heap[b]? = some o->(hZ u w').heap[b]? = some o:=λh=>by rw [gr.old _ (aG h)]; exact h
 refine ⟨hV,keep h.hW,?_,λa ha=>?_,λa ha=>?_,λa ha b hb=>?_,λb al' G' hb=>?_,λb j o z hb hr=>?_⟩
 ·have:=h.gm;cases al with
  | nil=>exact this
  | cons a r=>exact ⟨this.1,keep this.2⟩
 ·have⟨L,e,h1,h2⟩:=h.oe a ha;exact ⟨L,e,keep h1,(hs a ha _ (.inl rfl)).trans h2⟩
 ·have⟨h0,e,h1⟩:=h.box a ha;exact ⟨keep h0,e,(hs a ha _ (.inr rfl)).trans h1⟩
 ·have⟨o,h1,h2⟩:=h.ch a ha b hb
  grind
 ·by_cases hl:b < u.heap.size
  ·rw [gr.old b hl] at hb; exact h.one b al' G' hb
  ·rw [gr.new b (by omega) (aG hb)] at hb
   grind [Option.some.inj,Fj]
 ·by_cases hl:b < u.heap.size
  ·rw [gr.old b hl] at hb; exact h.Nb b j o z hb hr
  ·rw [gr.new b (by omega) (aG hb)] at hb
   grind [ef]
theorem VM.qk (h:VM Wg ow l al G w u) (ha:a ∈ al):oo a.2 w:=by
 have⟨L,e,_,h1⟩:=h.oe a ha;have⟨_,e',h2⟩:=h.box a ha;exact ⟨⟨_,e,h1,λk z hz=>by grind⟩,_,e',h2,rfl⟩
theorem VT.ne (h:VT k s ow G w u):s.sb ≠ s.bx:=λe=>by
 have h1:u.heap[s.sb]? = _:=h.gt;rw [e,h.bo] at h1;exact absurd (bF (ak h1)).2 (by decide)
theorem ng (h:xT s b):b ∈ s.bT:=by rcases h with rfl | rfl <;> simp [aC.bT]
theorem Hh.rely {wd:WD} (h:Hh P ty Wg k wd g w) (hr:RW ty Wg av.C av.n 0 (k + 1 - 1) w w'):Hh P ty Wg k wd g w':=by
 rcases h with ⟨h1,h2,h3⟩ | ⟨h1,h2⟩
 ·exact .inl ⟨h1,h2,h3.rely (λ_ _ _ a b=>a.trans b) hr⟩
 ·exact .inr ⟨h1,h2.rely hr⟩
theorem Be.step (h:Be P ty Wg said k s ow w x g) (hT:∀ u G,VT k s ow G w u->VT k s ow' G w' (hZ u w')) (hsz:w.heap.size <= w'.heap.size) (hr:x.md = 3->RW ty Wg av.C av.n 0 (k + 1 - 1) w w'):Be P ty Wg said k s ow' w' x g:=by
 cases h with
 | run h1 h2 h3 h4=>exact .run h1 (h2.trans (gL _ _)) (hT _ _ h3) h4
 | mV h1 h2 h3 h4 h5 =>
   have h6:=hT _ _ h1;rw [<- uG h2 hsz] at h6;exact .mV h6 (az h2 hsz) h3 h4 (h5.rely (λ_ _ _ _ b=>b) h6.qk)
 | Vj h1 h2 h3 h4 h5 =>
   have h6:=hT _ _ h1;rw [<- uG h2 hsz] at h6;exact .Vj h6 (az h2 hsz) h3 h4 h5
 | told h0 h1 h2 h3 h4 h5 h6 h7=>exact .told (h0.trans (gL _ _)) (hT _ _ h1) h2 h3 h4 h5 h6 h7
 | last h0 h1 h2 h3 h4 h5 h6 h7=>exact .last (h0.trans (gL _ _)) (hT _ _ h1) h2 h3 h4 h5 h6 h7
 | wo h=>exact .wo (h.rely (hr rfl))
theorem AF.step (h:AF P ty Wg said gJ al l ow G w bl mm g) (hT:∀ u,VM Wg ow l al G w u->VM Wg ow' l al G w' (hZ u w')) (hsz:w.heap.size <= w'.heap.size) (hs:∀ a ∈ al,oo a.2 w'):AF P ty Wg said gJ al l ow' G w' bl mm g:=by
 cases h with
 | hold h1 h2 h3 h4 h5=>exact .hold h1 (h2.trans (gL _ _)) (hT _ h3) h4 h5
 | send h0 h1 h2 h3 h4 h4' h5 h6=>exact .send (h0.trans (gL _ _)) (hT _ h1) h2 h3 h4 h4' h5 h6
 | mV h1 h2 h3 h4 h4' h5 h6 =>
   have h7:=hT _ h1;rw [<- uG h2 hsz] at h7;exact .mV h7 (az h2 hsz) h3 h4 h4' h5 (h6.rely (λ_ _ _ _ b=>b) (hs _ (ai h4)))
 | wait h1 h2 h3 h4 h4' h5 h6 =>
   have h7:=hT _ h1;rw [<- uG h2 hsz] at h7;exact .wait h7 (az h2 hsz) h3 h4 h4' h5 h6
end
variable {w v u v' w':World} {gJ:Goroutine->World->Prop}
section
variable [Payload] [av]
theorem FV {bl':Bool} (h:bl' = bl \/ (bl = true /\ bl' = false)) (h4:bl = true->l = [4]):jZ l bl' = jZ l bl \/ (jZ l bl = .blk /\ jZ l bl' = .w3):=by
 rcases h with rfl | ⟨rfl,rfl⟩
 ·simp
 ·obtain rfl:=h4 rfl;exact .inr ⟨rfl,rfl⟩
theorem Hh.status {wd:WD} (h:Hh P ty Wg k wd g w):g.status = .running \/ g.status = .finished:=by
 rcases h with ⟨_,_,h⟩ | ⟨_,h⟩
 ·exact .inl (Goes.running (λ_ _ x=>x.1) w (RW.refl w) h)
 ·exact h.status
theorem oW {a a':Goroutine} (h:g.again w = g):woken P a a' w g = g:=by
 grind [Go.Conc.woken]
def ub (w:World) (c:Nat):Prop:=∃ cap buf s r tm,w.heap[c]? = some (.chan cap buf false s r tm)
theorem Be.woken (h:Be P ty Wg said k s ow w x g) (h1:ub w' s.ct) (h2:x.md ≠ 3->ub w' s.ce) (h3:ub w' s.cs) (a a':Goroutine):woken P a a' w' g = g:=by
 refine oW ?_;cases h with
 | run _ _ _ h=>exact lD _ (.inl h)
 | mV _ _ _ h=>exact lD _ (.inl h)
 | Vj =>
   refine DI λcc hcc=>?_
   simp only [lq,dZ,aE,aU,dj] at hcc
   rcases hcc with rfl | rfl
   ·have⟨_,_,_,_,_,h⟩:=h1; exact ⟨_,_,_,_,_,_,rfl,h⟩
   ·have⟨_,_,_,_,_,h⟩:=h2 (by simp); exact ⟨_,_,_,_,_,_,rfl,h⟩
 | told | last =>
   refine DI λcc hcc=>?_
   simp only [ic,dZ,aE,aU,dj] at hcc
   rcases hcc with rfl | rfl
   ·have⟨_,_,_,_,_,h⟩:=h3; exact ⟨_,_,_,_,_,_,rfl,h⟩
   ·have⟨_,_,_,_,_,h⟩:=h2 (by simp); exact ⟨_,_,_,_,_,_,rfl,h⟩
 | wo h=>exact lD _ h.status
theorem AF.woken (h:AF P ty Wg said gJ al l ow G w bl mm g) (hc:∀ a ∈ al,ub w' a.2.ct /\ ub w' a.2.cs) (a a':Goroutine) :
 ∃ bl',AF P ty Wg said gJ al l ow G w bl' mm (woken P a a' w' g) /\ (bl' = bl \/ (bl = true /\ bl' = false)) /\ (mayWake P a = true->a'.status = .running->bl' = false):=by
 cases h with
 | @hold _ g0 _ _ _ h1 h2 h3 h4 h5 =>
   cases bl with
   | false =>
     refine ⟨false,?_,.inl rfl,λ_ _=>rfl⟩;have:=AF.hold h1 h2 h3 h4 h5
     grind [oW,again_running]
   | true =>
     have⟨e4,hb⟩:=h5 rfl
     by_cases hw:(mayWake P a && a'.status != .blocked && a'.status != .waiting) = true
     ·refine ⟨false,?_,.inr ⟨rfl,rfl⟩,λ_ _=>rfl⟩;have:=AF.hold (bl:=false) h1 h2 h3 h4 (λe=>by cases e)
      simpa [Go.Conc.woken,hw,Go.ConcR.again_blocked h4 hb.1.2.1] using this
     ·refine ⟨true,?_,.inl rfl,λa b=>absurd (by grind) hw⟩;have:=AF.hold h1 h2 h3 h4 h5
      grind [Go.Conc.woken]
 | send h0 h1 h2 h3 h4 h4' h5 h6 =>
   refine ⟨false,?_,.inl rfl,λ_ _=>rfl⟩;have⟨_,_,_,_,_,hx⟩:=(hc _ (ai h4)).1;rw [oW (again_send_open hx)];exact .send h0 h1 h2 h3 h4 h4' h5 h6
 | mV h1 h2 h3 h4 h4' h5 h6 =>
   refine ⟨false,?_,.inl rfl,λ_ _=>rfl⟩;rw [oW (lD _ (.inl h5))];exact .mV h1 h2 h3 h4 h4' h5 h6
 | wait h1 h2 h3 h4 h4' h5 h6 =>
   refine ⟨false,?_,.inl rfl,λ_ _=>rfl⟩;have⟨_,_,_,_,_,hx⟩:=(hc _ (ai h4)).2;rw [oW (again_recv_open hx)];exact .wait h1 h2 h3 h4 h4' h5 h6
theorem cj.CJ (S:cj P ty Wg said gJ base gs w t D mm al l bl q ow G st sm):∀ a ∈ al,ub w a.2.ct /\ ub w a.2.cs:=λa ha=>by
 have⟨⟨m,h1⟩,_,m',h2⟩:=S.FF a ha;exact ⟨⟨_,_,_,_,_,h1⟩,_,_,_,_,_,h2⟩
theorem cj.Zt (S:cj P ty Wg said gJ base gs w t D mm al l bl q ow G st sm) (ha:al[k]? = some a) (hk:(D k).md ≠ 3):ub w a.2.ce:=by
 have⟨_,⟨m,h1⟩,_⟩:=S.FF a (ai ha);have e:a.1 = 1:=by
  rcases S.now k a ha with ⟨_,_,h,_⟩ | ⟨_,⟨_,h,_⟩ | ⟨h,_⟩⟩
  ·exact h
  ·exact h
  ·exact absurd h hk
 rw [e] at h1;exact ⟨_,_,_,_,_,h1⟩
theorem cj.slip (S:cj P ty Wg said gJ base gs w t D mm al l bl q ow G st sm) (h0:0 < i) (hb:i < base) (hg:gs[i]? = some g) (hgo:stepG P false g w = .go g' w es) (hq':QuitsD P m (deafBehind (Deaf t i) es) g') (hm:∀ e ∈ es,e.mute = true) (hlt:m < q i) :
 ∃ m' ops μ',runT P (crowd gs w sl) i = (.next m',ops) /\ lX μ' (uJ base av.n D mm al.length q bl) /\ nA P ty Wg said gJ base μ' m' (t ++ ops):=by
 have hne:(i == 0) = false:=by simp; omega
 have hrun:=runT_crowd_go (sl:=sl) hg (by rw [hne]; exact hgo);have ho:∀ op ∈ MemOp.ofEvents i g.frame.fn g.frame.place es,op.g = i:=g_of_ofEvents;have hp:=S.pos;have⟨gm,Hm,hM⟩:=S.main;have⟨bl',XJ,hbl,_⟩:=hM.woken (S.CJ) g g';refine ⟨_,_,_,hrun,?_,_,w,sl,D,mm,al,l,bl',upd q i m,ow,G,st,sm,rfl,⟨hp,by simp [S.size],λy g0 hy0 Vu hi=>?_,⟨_,by grind,XJ⟩,λy a hy=>?_,S.now,?_,λy op hy=>?_,
  λa=>r8 (S.norel a) λe he=>CQ (hm e he) a,by rw [Deaf_other t (by omega) _ ho,S.deaf0],λy hy=>by rw [Deaf_other t (by omega) _ ho,S.deafW y hy],λy hy hst=>?_,S.kept,S.H9,S.DR,S.Ia,S.sn,S.CG,S.rn,S.sep,S.FF,S.wf,S.wg,?_,S.bound⟩,rfl⟩
 ·have hsum:sumTo base (upd q i m) + q i = sumTo base q + m:=sumTo_upd q m id hb;exact s60
 ·by_cases e:i = y
  ·grind [Option.some.inj,upd_same,Deaf_own]
  ·rw [bL e,fE] at hi;obtain⟨z,hz,rfl⟩:=cd.1 hi;have hq:=S.old y z hy0 Vu hz;rw [woken_quitsD hq,Deaf_other t (by omega) _ ho,upd_ne q _ (cN e)];exact hq
 ·have⟨z,hz,hT⟩:=S.EB y a hy;refine ⟨z,?_,hT⟩;rw [get_map_set _ _ _ _ (by omega),hz,cB,hT.woken (S.CJ a (ai hy)).1 (λh3=>S.Zt hy h3) (S.CJ a (ai hy)).2]
 ·refine S.past.app ho (λhM=>?_) (λop g9=>?_) λop g9 b hb'=>?_
  ·rcases hM with ⟨e,_⟩ | ⟨y,_,e,_⟩ <;> omega
  ·grind [Conc.mem_ofEvents,low_mute]
  grind [Conc.mem_ofEvents,touch_mute]
 ·exact s40
 ·have⟨r,hr⟩:=S.rel y hy hst;exact ⟨r,hr.appOther ho (by omega)⟩
 ·exact S.mode.retag (FV hbl λe=>by
   subst e;cases hM with
   | hold _ _ _ _ h5=>grind)
theorem yL (D:Nat->PX) (k:Nat) (x:PX):pf (upd D k x) = upd (pf D) k x.wd:=funext λi=>by
 unfold pf
 by_cases e:i = k
 ·subst e; rw [upd_same,upd_same]
 ·rw [upd_ne D _ e,upd_ne (λi=>(D i).wd) _ e]
theorem pP (h:al[k]? = some a):k < al.length:=by grind
theorem Pq {D':Nat->PX} (h:∀ k,(D' k).md = (D k).md):yJ base l j D' = yJ base l j D /\ QQ base mm j D' = QQ base mm j D:=by
 grind [yJ,QQ]
theorem cj.lt0 (S:cj P ty Wg said gJ base gs w t D mm al l bl q ow G st sm) (hb:¬ fq b):b < w.heap.size:=by
 have h1:=S.H9.2.2;have h2:=nX λh=>hb (.inl h)
 omega
theorem cj.afl (S:cj P ty Wg said gJ base gs w t D mm al l bl q ow G st sm) (Tg:∀ b,b < w.heap.size->ow' b = ow b):∀ b,¬ fq b->ow' b = 0 \/ ow' b = av.n + 2:=λb hb=>by
 rw [Tg b (S.lt0 hb)];exact S.Ia b hb
theorem cj.sn' (S:cj P ty Wg said gJ base gs w t D mm al l bl q ow G st sm) (Tg:∀ b,b < w.heap.size->ow' b = ow b):∀ l,av.Sn l->∃ a:Addr,l = .cell a /\ ¬ fq a.block /\ ow' a.block = av.n + 2:=λl hl=>by
 have⟨a,h1,h2,h3⟩:=S.sn l hl;exact ⟨a,h1,h2,(Tg _ (S.lt0 h2)).trans h3⟩
theorem cj.Gb (S:cj P ty Wg said gJ base gs w t D mm al l bl q ow G st sm) (h:ow b = 1):fq b:=by
 by_cases hp:fq b
 ·exact hp
 ·rcases S.Ia b hp with e | e <;> omega
theorem cj.has (S:cj P ty Wg said gJ base gs w t D mm al l bl q ow G st sm):∀ k,k < av.n->Has av.C k (av.tv k) w:=λk hk=>by
 have h1:=S.kept _ (S.DR _ S.H9.1);have h2:=av.ajP k hk;simp only [Has,World.cell?,h1] at h2 ⊢;exact h2
theorem cj.wb (S:cj P ty Wg said gJ base gs w t D mm al l bl q ow G st sm) {lo:Loc} (h:xV lo = some r) (hr:fq r \/ ow r = 0):¬ av.Sn lo:=λhs=>by
 obtain⟨a,rfl,h2,h3⟩:=S.sn lo hs;obtain rfl:a.block = r:=by simpa [xV] using h
 rcases hr with hr | hr
 ·exact h2 hr
 ·omega
theorem cj.goT (S:cj P ty Wg said gJ base gs w t D mm al l bl q ow G st sm) (hk:al[k]? = some a) (hg:gs[base + k]? = some g) (hgo:stepG P false g w = .go g' w' es)
 (hT':Be P ty Wg said k a.2 ow' w' x' g') (hmd:x'.md = (D k).md) (hG:x'.G = (D k).G) (hst:mm.md = 1->k = mm.k->0 < x'.st)
 (hoth:∀ k' a',k' ≠ k->al[k']? = some a'->∀ u G,VT k' a'.2 ow G w u->VT k' a'.2 ow' G w' (hZ u w')) (af1:∀ u,VM Wg ow l al G w u->VM Wg ow' l al G w' (hZ u w')) (hsz:w.heap.size <= w'.heap.size)
 (hRW:∀ k' a',k' ≠ k->al[k']? = some a'->RW ty Wg av.C av.n 0 (k' + 1 - 1) w w') (Tc:∀ a ∈ al,∀ b ∈ a.2.bT,w'.heap[b]? = w.heap[b]?)
 (Ff:PastS (ShN Wg) av.Sn (JU base al) (yJ base l al.length D) (QQ base mm al.length D) w'.heap.size (hP base mm) (t ++ MemOp.ofEvents (base + k) g.frame.fn g.frame.place es))
 (hnr:∀ e ∈ es,∀ a,MemAct.ofEvent e ≠ .mark (.release a)) (Vw:deafBehind (D k).wd.deaf es = x'.wd.deaf) (afY:x'.wd.stage <= 6->∃ r,RelBy (stA Wg) (t ++ MemOp.ofEvents (base + k) g.frame.fn g.frame.place es) (base + k) r)
 (hkept:∀ b,¬ fq b->w'.heap[b]? = w.heap[b]?) (Tg:∀ b,b < w.heap.size->ow' b = ow b) (Tf:∀ b,ow' b = 0->¬ fq b) (oZ:WgAt ty Wg w' st' sm')
 (hmode:∀ bl',(bl' = bl \/ (bl = true /\ bl' = false))->(mayWake P g = true->g'.status = .running->bl' = false)->ConcN.Mode al.length (upd (pf D) k x'.wd) (jZ l bl') st' sm')
 (hV:cnt x'.wd <= cnt (D k).wd) (hlt:rM (Pn x') (Pn (D k)) \/ (Pn x' = Pn (D k) /\ x'.st < (D k).st)) :
 ∃ m' ops μ',runT P (crowd gs w sl) (base + k) = (.next m',ops) /\ lX μ' (uJ base av.n D mm al.length q bl) /\ nA P ty Wg said gJ base μ' m' (t ++ ops):=by
 have hp:=S.pos;have hkl:=pP hk;have hne:(base + k == 0) = false:=by simp; omega
 have hrun:=runT_crowd_go (sl:=sl) hg (by rw [hne]; exact hgo);have ho:∀ op ∈ MemOp.ofEvents _ g.frame.fn g.frame.place es,op.g = base + k:=g_of_ofEvents;have⟨gm,Hm,hM⟩:=S.main;have hSw:∀ a ∈ al,oo a.2 w':=λa ha=>by
  have:oo a.2 w:=by
   exact s57
  have⟨⟨c,e,h1,h2⟩,c',e',h3,h4⟩:=this;exact ⟨⟨c,e,(Tc a ha a.2.sb (by simp [aC.bT])).trans h1,h2⟩,c',e',(Tc a ha a.2.bx (by simp [aC.bT])).trans h3,h4⟩
 have hopen:∀ {a:Nat × aC} {b:Nat},a ∈ al->b ∈ a.2.bT->ub w b->ub w' b:=λha hb ⟨_,_,_,_,_,h⟩=>⟨_,_,_,_,_,(Tc _ ha _ hb).trans h⟩
 have⟨bl',XJ,hbl,hwk⟩:=(hM.step af1 hsz hSw).woken (λa ha=>⟨hopen ha (by simp [aC.bT]) (S.CJ a ha).1,hopen ha (by simp [aC.bT]) (S.CJ a ha).2⟩) g g';have hD:∀ i,(upd D k x' i).md = (D i).md:=λi=>by
  by_cases e:i = k
  ·subst e; rw [upd_same]; exact hmd
  ·rw [upd_ne D _ e]
 have⟨eM,eL⟩:=Pq (base:=base) (l:=l) (mm:=mm) (j:=al.length) hD;refine ⟨_,_,_,hrun,?_,_,w',sl,upd D k x',mm,al,l,bl',q,ow',G,st',sm',rfl,⟨hp,by simp [S.size],λy g0 hy0 Vu hi=>?_,⟨_,by grind,XJ⟩,λy b hy=>?_,λy b hy=>?_,by grind,λy op hy=>?_,
  λa=>r8 (S.norel a) λe he=>hnr e he a,by rw [Deaf_other t (by omega) _ ho,S.deaf0],λy hy=>?_,λy hy hst=>?_,λb hb=>(hkept b hb).trans (S.kept b hb),?_,Tf,S.afl Tg,S.sn' Tg,?_,λa ha b hb=>?_,S.sep,λa ha=>?_,S.wf,oZ,?_,λb hb=>?_⟩,rfl⟩
 ·have hs:=sumTo_upd D x' (λx=>x.st) hkl
  rcases hlt with h1 | ⟨h1,h2⟩
  ·refine m170 ?_;exact y6 (i:=k) (bu _) (by omega) (by simp only [upd_same]; exact h1) (λi hi=>by simp only [upd_ne D _ hi])
  ·have e:(λi=>Pn (upd D k x' i)) = λi=>Pn (D i):=funext λi=>by
    by_cases e:i = k
    ·subst e; rw [upd_same]; exact h1
    ·rw [upd_ne D _ e]
   unfold uJ;rw [e];exact s60
 ·exact s43
 ·by_cases e:y = k
  ·grind [upd_same]
  ·have⟨z,hz,hT⟩:=S.EB y b hy;have hbm:=ai hy;have XH:=hT.step (hoth y b e hy) hsz (λ_=>hRW y b e hy);refine ⟨z,?_,by rw [upd_ne D _ e]; omega⟩;rw [get_map_set _ _ _ _ (by omega),hz,cB,XH.woken (hopen hbm (by simp [aC.bT]) (S.CJ b hbm).1) (λh3=>hopen hbm (by simp [aC.bT]) (S.Zt hy h3)) (hopen hbm (by simp [aC.bT]) (S.CJ b hbm).2)]
 ·have h:=S.now y b hy
  by_cases e:y = k
  ·grind [upd_same]
  ·rw [upd_ne D _ e]; exact h
 ·exact s40
 ·by_cases e:y = k
  ·subst e; rw [upd_same,Deaf_own,S.deafW y hy,Vw]
  ·rw [upd_ne D _ e,Deaf_other t (by omega) _ ho,S.deafW y hy]
 ·by_cases e:y = k
  ·simp_all [upd_same]
  ·rw [upd_ne D _ e] at hst;have⟨r,hr⟩:=S.rel y hy hst;exact ⟨r,hr.appOther ho (by omega)⟩
 ·have⟨h1,h2,h3⟩:=S.H9
  grind
 ·have⟨h1,h2,h3⟩:=S.CG
  grind
 ·have⟨h1,h2,h3,h4⟩:=S.rn a ha b hb
  grind
 ·have⟨⟨m1,h1⟩,⟨m2,h2⟩,m3,h3⟩:=S.FF a ha
  grind [aC.bT]
 ·grind [yL]
 ·have h1:=S.bound b hb;have h2:=Vc_upd (pf D) x'.wd hkl;rw [yL];have:cnt (pf D k) = cnt (D k).wd:=rfl;omega
end
theorem As {s:Nat} (h:EvS pm s u e):e.loc ≠ .mark .disable /\ e.loc ≠ .mark .enable:=by
 rcases h with ⟨a,h1,_⟩ | ⟨r,h1,_⟩ | ⟨m,hm,rfl⟩
 ·grind
 ·grind
 grind
def X8 {s:Nat} (h:EvS pm s u e):(MemAct.ofEvent e).low u.heap.size:=(yw (Shun:=λ_=>False) h (λl hl=>hl.elim)).2.2.2
theorem PS {fr:Nat} (h:EvS pm fr v e) (me:∀ (b k:Nat) z,v.heap[b]? ≠ some (slot k z)) {b:Touch} (hb:(MemAct.ofEvent e).touch? = some b) :
 ∃ r,xV b.loc = some r /\ b.kind ≠ .said /\ (ny v r \/ (b.write = false /\ ∃ o k z,v.heap[r]? = some o /\ Ro o k z)):=by
 rcases h with ⟨a,h1,h2,h3,h4⟩ | ⟨r,h1,h2,h3,h4,h5⟩ | ⟨m,hm,rfl⟩
 ·have⟨loc,wr,sy⟩:=e;subst h1;simp only [ofEvent_cell0,MemAct.touch?,br] at hb;subst hb;refine ⟨a.block,rfl,by grind,?_⟩
  grind
 ·have⟨loc,wr,sy⟩:=e;subst h1 h4;refine ⟨r,?_,?_,.inl h3⟩ <;> cases wr <;> simp [MemAct.ofEvent,MemAct.touch?] at hb <;> (subst hb; simp [xV])
 ·rcases hm with rfl | ⟨f,rfl⟩ <;> simp [MemAct.ofEvent,MemAct.touch?] at hb
section
variable [Payload] [av]
theorem stays (h:VG c xc ow w u) (t:oS pm u v') (k:Beside u w v' w') (hb:b < w.heap.size) (hn:(∃ o,u.heap[b]? = some o /\ pL o = true) \/ ¬ pm b):w'.heap[b]? = w.heap[b]?:=by
 have hs:=h.gy.size
 rcases Ri u b with h1 | ⟨o,h1,h2⟩ | ⟨i,z,h1⟩
 ·rcases hn with ⟨o,h3,h4⟩ | hn
  ·have:=h1 o h3; grind [jH]
  ·rw [k.gy.iL b (t.iL b h1),t.old b (by omega) hn,h.gy.iL b h1]
 ·exact k.nE b o h1 h2
 ·exact absurd h1 (h.me b i z)
theorem cj.PC (S:cj P ty Wg said gJ base gs w t D mm al l bl q ow G st sm) (hk:al[k]? = some a) (V:VT k a.2 ow G0 w u):∀ b,xM Wg al b->b < w.heap.size /\ ow b = 1 /\ ∃ o,u.heap[b]? = some o /\ pL o = true:=by
 have hd:∀ b,b < w.heap.size->ow b = 1->∃ o,u.heap[b]? = some o /\ pL o = true:=λb hb h1=>by
  by_cases e:b = a.2.sb
  ·subst e; exact ⟨_,V.gt,wV _ _⟩
  ·by_cases e2:b = a.2.bx
   ·subst e2; exact ⟨_,V.bo,Dx _⟩
   ·exact ⟨_,V.nE b hb (S.Gb h1) (by rw [h1]; decide) (by rw [h1]; omega) (λh=>h.elim e e2),rfl⟩
 rintro b (rfl | ⟨a',ha',hb⟩)
 ·exact ⟨S.CG.2.2,S.CG.1,hd _ S.CG.2.2 S.CG.1⟩
 ·have⟨h1,_,h2,_⟩:=S.rn a' ha' b hb
  grind
theorem cj.II (S:cj P ty Wg said gJ base gs w t D mm al l bl q ow G st sm) (V:VM Wg ow l al G0 w u):∀ b,xM Wg al b->b < w.heap.size /\ ow b = 1 /\ ∃ o,u.heap[b]? = some o /\ pL o = true:=by
 rintro b (rfl | ⟨a',ha',hb⟩)
 ·exact ⟨S.CG.2.2,S.CG.1,_,V.hW,LB l⟩
 ·have⟨h1,_,h2,_⟩:=S.rn a' ha' b hb;refine ⟨h2,h1,?_⟩;simp only [aC.bT,aE,aU,dj] at hb
  rcases hb with rfl | hb
  ·have⟨L,e,h3,_⟩:=V.oe a' ha'; exact ⟨_,h3,tD _ _⟩
  ·exact V.ch a' ha' b (by grind)
theorem cj.others (S:cj P ty Wg said gJ base gs w t D mm al l bl q ow G st sm) (V:VG c xc ow w u) (hH:∀ b,xM Wg al b->b < w.heap.size /\ ow b = 1 /\ ∃ o,u.heap[b]? = some o /\ pL o = true) (tn:oS fq u v') (hb:Beside u w v' w') :
 (∀ k' a',c ≠ k' + 2->al[k']? = some a'->∀ u' G',VT k' a'.2 ow G' w u'->VT k' a'.2 (xJ w c ow) G' w' (hZ u' w')) ∧
 (c ≠ 1->∀ u',VM Wg ow l al G w u'->VM Wg (xJ w c ow) l al G w' (hZ u' w')) /\ w.heap.size <= w'.heap.size /\ (∀ i,RW ty Wg av.C av.n 0 i w w') /\ (∀ b,xM Wg al b->w'.heap[b]? = w.heap[b]?) ∧
 (∀ b,¬ fq b->w'.heap[b]? = w.heap[b]?) /\ (c ≠ 0->∀ b,xJ w c ow b = 0->¬ fq b):=by
 have hsz:w.heap.size <= w'.heap.size:=by rw [V.gy.size,hb.gy.size]; exact tn.size
 have hx:=λb hx=>stays V tn hb (hH b hx).1 (.inl (hH b hx).2.2)
 have hC:=stays V tn hb (by have:=S.H9; omega) (.inr (S.DR _ S.H9.1));have hW:=hx Wg (.inl rfl);have cell:∀ i:Nat,w'.cell? ⟨av.C,i,none⟩ = w.cell? ⟨av.C,i,none⟩:=λi=>by simp only [World.cell?,hC]
 refine ⟨λk' a' ne ha' u' G' V'=>V'.grow (V'.toVG.other V (cN ne) tn hb (λb _=>S.DR b) (λb hb' _=>?_) λb hb'=>?_),λne u' V'=>V'.grow (V'.toVG.other V (cN ne) tn hb (λb _=>S.DR b) (λb hb' _=>(hH b hb').2.2) λb hb'=>(hH b hb').1) λa' ha' b hb=>hx _ (.inr ⟨a',ha',ng hb⟩),hsz,
  λi=>⟨λb hb=>absurd hb (by omega),λ⟨p,q,h⟩=>⟨p,q,hW.trans h⟩,λ⟨cs,h1,h2⟩=>⟨cs,hC.trans h1,h2⟩,cell i⟩,hx,λb hp=>stays V tn hb (S.lt0 hp) (.inr hp),λhc b h0=>?_⟩
 ·exact (hH b (.inr ⟨a',ai ha',ng hb'⟩)).2.2
 ·exact (hH b (.inr ⟨a',ai ha',ng hb'⟩)).1
 ·by_cases hl:b < w.heap.size
  ·rw [oY hl] at h0; exact S.DR b h0
  grind [Ae]
theorem cj.H8 (S:cj P ty Wg said gJ base gs w t D mm al l bl q ow G st sm) (V:VG c xc ow w u) (hH:∀ b,xM Wg al b->b < w.heap.size /\ ow b = 1 /\ ∃ o,u.heap[b]? = some o /\ pL o = true) (tn:oS fq u v') (hb:Beside u w v' w') (hi:i = hP base mm)
 (hxc:∀ b,xc b->b < w.heap.size /\ fq b) (hcn:c ≠ av.n + 2) (hro:∀ o k z,u.heap[Wg]? = some o->¬ Ro o k z) (hev:∀ e ∈ es,EvS fq 0 v' e) (fn:FuncId) (pos:String):PastS (ShN Wg) av.Sn (JU base al) (yJ base l al.length D) (QQ base mm al.length D) w'.heap.size (hP base mm) (t ++ MemOp.ofEvents i fn pos es):=by
 have hsz:w.heap.size <= w'.heap.size:=by rw [V.gy.size,hb.gy.size]; exact tn.size
 have V':=V.own tn hb (λb h=>(hxc b h).1);have ho:∀ op ∈ MemOp.ofEvents i fn pos es,op.g = i:=g_of_ofEvents;have hid':∀ b,xM Wg al b->¬ ny v' b:=λb hx hv=>by
  have⟨_,_,o,h1,h2⟩:=hH b hx;have:=hv o (tn.nE b o h1 h2);rw [jH h2] at this; cases this
 refine (S.past.uf hsz (λ_ h=>h) (λ_ h=>h)).app ho (λ_=>?_) (λop g9=>?_) λop g9 b hb'=>?_
 ·grind [Deaf_own,deafBehind_still,As]
 ·obtain⟨e,he,rfl⟩:=Conc.mem_ofEvents g9;rw [hb.gy.size]; exact X8 (hev e he)
 ·obtain⟨e,he,rfl⟩:=Conc.mem_ofEvents g9;have⟨r,h1,h2,h3⟩:=PS (hev e he) V'.me hb';have hW:¬ ShN Wg b.loc:=λ⟨a,e1,e2⟩=>by
   rw [e1] at h1;obtain rfl:a.block = r:=by simpa [xV] using h1
   rcases h3 with h3 | ⟨_,o,j,z,h3,h4⟩
   ·exact hid' _ (.inl e2) h3
   ·have⟨_,_,o',h5,h6⟩:=hH Wg (.inl rfl);rw [e2,tn.nE _ o' h5 h6] at h3;cases h3;exact hro _ _ _ h5 h4
  refine ⟨?_,λh=>absurd h hW,.inl ⟨hi,λhw g' _ ⟨k',a',i',ha',_,e1,_⟩=>?_⟩⟩
  ·refine S.wb h1 ?_
   by_cases hp:fq r
   ·grind
   ·have hlt:=S.lt0 hp
    rcases h3 with h3 | ⟨_,o,j,z,h3,h4⟩
    ·have:=V'.iL r (by omega) h3;rw [oY hlt] at this
     rcases this with e | e
     ·omega
     ·rcases S.Ia r hp with e2 | e2
      ·omega
      ·omega
    ·exact absurd (hxc r (V'.ro r j o z h3 h4)).2 hp
  have hr:xT a'.2 r:=by
   rcases e1 with e1 | e1 <;> (rw [e1] at h1; simp only [xV,br] at h1; subst h1)
   ·exact .inl rfl
   ·exact .inr rfl
  rcases h3 with h3 | ⟨h3,_⟩
  ·exact hid' _ (.inr ⟨a',ai ha',ng hr⟩) h3
  grind
theorem cj.afb (S:cj P ty Wg said gJ base gs w t D mm al l bl q ow G st sm) (hk:al[k]? = some a) (hg:gs[base + k]? = some g) (hx:D k = ⟨tr,0,0,⟨7,0,0⟩,G⟩) (hh:2 <= mm.md /\ k = mm.k) (V:VT k a.2 ow G w u) (hp:Bt P false fq 0 g u w g' v')
 (sK:Tr.Sub tr' tr) (hT:RunT (Kc P (said false) k a.2) P false fq 0 (QP P ty Wg said k a.2) tr' g' v') :
 ∃ m' ops μ',runT P (crowd gs w sl) (base + k) = (.next m',ops) /\ lX μ' (uJ base av.n D mm al.length q bl) /\ nA P ty Wg said gJ base μ' m' (t ++ ops):=by
 have⟨w',es,hgo,tn,hb,hev⟩:=hp;have hH:=S.PC hk V;have⟨h1,h2,h3,h4,h5,h6,h7⟩:=S.others V.toVG hH tn hb;have hsb:∀ b,xT a.2 b->b < w.heap.size:=λb hb=>(hH _ (.inr ⟨a,ai hk,ng hb⟩)).1
 have hkn:k < av.n:=by have:=S.wf.le; have:=pP hk; omega
 have hne:¬ xT a.2 Wg:=λe=>(S.rn a (ai hk) _ (ng e)).2.2.2 rfl
 have V':VT k a.2 _ G w' v':=⟨V.toVG.own tn hb hsb,tn.nE _ _ V.gt (wV _ _),tn.nE _ _ V.bo (Dx _)⟩;have hrun:g'.status = .running:=by
  rcases hT.cases with ⟨_,_,_,_,_,_,_,_,_,_,h,_⟩ | ⟨h,_⟩
  ·exact h.Qn.1
  ·exact h
 have hhP:base + k = hP base mm:=by unfold hP; rw [if_pos hh.1,hh.2]
 have hwd:(D k).wd = ⟨7,0,0⟩:=by rw [hx]
 have hW:=h5 _ (.inl rfl);refine S.goT (ow':=xJ w (k + 2) ow) (st':=st) (sm':=sm) hk hg hgo (.run hT (.refl v') V' hrun) (by rw [hx]) (by rw [hx]) (λe _=>by omega) (λk' a' ne ha'=>h1 k' a' (by omega) ha') (h2 (by omega)) h3 (λk' _ _ _=>h4 _)
  (λa' ha' b hb'=>h5 b (.inr ⟨a',ha',hb'⟩)) (S.H8 V.toVG hH tn hb hhP (λb hb=>⟨hsb b hb,S.Gb (hH _ (.inr ⟨a,ai hk,ng hb⟩)).2.1⟩) (by omega) (λo i z ho hr=>hne (V.ro _ _ _ _ ho hr)) hev _ _) (λe he a=>yH (hev e he) a)
  (by grind [deafBehind_still,As]) (λh=>by grind) h6 (λb hb'=>oY hb') (h7 (by omega)) (hW.trans S.wg) (λbl' hbl _=>?_) (by grind) (.inl ?_)
 ·exact s44
 ·rw [hx];exact Prod.Lex.left _ _ sK
theorem cj.aiz (S:cj P ty Wg said gJ base gs w t D mm al l bl q ow G st sm) (hk:al[k]? = some a) (hg:gs[base + k]? = some g) (hx:D k = ⟨tr,1,n' + 2,⟨7,0,0⟩,G0⟩) (V:VT k a.2 ow G1 w (gQ F v w)) (hsz:v.heap.size <= w.heap.size) (hF:∀ b,F b->¬ xT a.2 b)
 (hgo:stepG P false g w = .go g' w es) (Ed:∀ e ∈ es,∃ i:Nat,i < 3 /\ e = ⟨.cell ⟨a.2.sb,i,none⟩,false,false⟩) (hrun:g'.status = .running) (hT:Goes P false (λ_ w1=>oo a.2 w1) (DSt a.2) (λg _=>TAt P ty Wg said k a.2 G0 F v tr g) n' g' w) :
 ∃ m' ops μ',runT P (crowd gs w sl) (base + k) = (.next m',ops) /\ lX μ' (uJ base av.n D mm al.length q bl) /\ nA P ty Wg said gJ base μ' m' (t ++ ops):=by
 have ho:∀ op ∈ MemOp.ofEvents _ g.frame.fn g.frame.place es,op.g = base + k:=g_of_ofEvents;have wH:=ai hk;have⟨_,_,hsb,hsW⟩:=S.rn a wH a.2.sb (by simp [aC.bT]);have hwd:(D k).wd = ⟨7,0,0⟩:=by rw [hx]
 have hst:∀ e ∈ es,e.loc ≠ .mark .disable /\ e.loc ≠ .mark .enable:=by grind
 have self:∀ u:World,u.heap.size = w.heap.size->u.drawn = w.drawn->hZ u w = u:=λu h1 h2=>World.Ft (by simp [hZ,h1]) h2.symm rfl rfl rfl
 refine S.goT (ow':=ow) (st':=st) (sm':=sm) hk hg hgo (.mV V hsz hF hrun hT) (by rw [hx]) (by rw [hx]) (λ_ _=>Nat.succ_pos _) (λk' a' _ _ u G V=>by rw [self u V.gy.size.symm V.gy.drawn.symm]; exact V) (λu V=>by rw [self u V.gy.size.symm V.gy.drawn.symm]; exact V) (aA _)
  (λ_ _ _ _=>RW.refl w) (λ_ _ _ _=>rfl) (S.past.app ho (λ_=>?_) (λop g9=>?_) λop g9 b hb=>?_) (λe he a=>by grind [MemAct.ofEvent]) (by grind [deafBehind_still]) (λh=>by grind) (λ_ _=>rfl) (λ_ _=>rfl) S.DR S.wg (λbl' hbl _=>?_) (by grind) (.inr ⟨by rw [hx]; rfl,by grind⟩)
 ·grind [Deaf_own,deafBehind_still]
 ·obtain⟨e,he,rfl⟩:=Conc.mem_ofEvents g9;obtain⟨i,_,rfl⟩:=Ed e he
  assumption
 ·obtain⟨e,he,rfl⟩:=Conc.mem_ofEvents g9;obtain⟨i,hi,rfl⟩:=Ed e he;simp only [ofEvent_cell0,MemAct.touch?,br] at hb;subst hb;refine ⟨S.wb rfl (.inl (S.Gb (S.rn a wH a.2.sb (by simp [aC.bT])).1)),λ⟨a1,e1,e2⟩=>?_,.inr (.inr ⟨rfl,.inr ⟨k,pP hk,rfl,by grind⟩,.inr ⟨k,pP hk,rfl,by rw [hx]⟩,k,a,i,hk,hi,.inl rfl,.inr rfl⟩)⟩
  grind
 ·exact s44
end
open Go.ConcR (bk_of_mute ofEvent_loc_mark deafBehind_cons deafBehind_one)
@[reducible] def AX:Duo:=⟨0,0,0,0,undef,[undef,undef],aA _,[],λ_ _=>True,λ_ _ _ _=>True,λ_ _=>trivial,λ_ _=>True,λ_ _=>trivial⟩
@[reducible] def Ns:wT:=⟨default,λ_=>False⟩
section
local instance:Duo:=AX
local instance:wT:=Ns
variable [Payload] [av] {YX wd':WD}
theorem xj (h:w'.heap.size = u.heap.size):hZ u w' = u.at w'.drawn:=World.Ft (by simp [hZ,h,World.at]) rfl rfl rfl rfl
theorem cj.aside (S:cj P ty Wg said gJ base gs w t D mm al l bl q ow G st sm) (hA:Conc.Aside Wg w w') (oZ:WgAt ty Wg w' st' sm') :
 (∀ k' a',al[k']? = some a'->∀ u' G',VT k' a'.2 ow G' w u'->VT k' a'.2 ow G' w' (hZ u' w')) /\ (∀ u',VM Wg ow l al G w u'->VM Wg ow l al G w' (hZ u' w')) ∧
 (∀ i,RW ty Wg av.C av.n 0 i w w') /\ (∀ a ∈ al,∀ b ∈ a.2.bT,w'.heap[b]? = w.heap[b]?) /\ (∀ b,¬ fq b->w'.heap[b]? = w.heap[b]?):=by
 have hC:av.C ≠ Wg:=λe=>by have:=S.H9.1; rw [e,S.CG.1] at this; cases this
 have hCb:=hA.block _ hC;have cell:∀ i:Nat,w'.cell? ⟨av.C,i,none⟩ = w.cell? ⟨av.C,i,none⟩:=λi=>by simp only [World.cell?,hCb]
 have oe:=λa ha b hb=>hA.block b (S.rn a ha b hb).2.2.2
 refine ⟨λk' a' ha' u' G' V=>?_,λu' V=>?_,λi=>⟨λb hb=>absurd hb (by omega),λ_=>⟨_,_,oZ⟩,λ⟨cs,h1,h2⟩=>⟨cs,hCb.trans h1,h2⟩,cell i⟩,oe,λb hb=>hA.block b λe=>hb (e ▸ S.Gb S.CG.1)⟩
 ·have hH:=S.PC ha' V;refine V.grow ?_;rw [xj (hA.size.trans V.gy.size)];refine V.toVG.aside hA.tape hA.os hA.output hA.size (λb hv=>hA.block b λe=>?_) (λb i o z ho hr=>?_)
  ·exact s76
  ·exact oe a' (ai ha') b (ng (V.ro b i o z ho hr))
 ·have hH:=S.II V;refine V.grow ?_ λa ha b hb=>oe a ha b (ng hb)
  rw [xj (hA.size.trans V.gy.size)];refine V.toVG.aside hA.tape hA.os hA.output hA.size (λb hv=>hA.block b λe=>?_) (λb i o z ho hr=>hA.block b λe=>?_)
  ·exact s76
  ·subst e;rw [V.hW] at ho;cases ho;exact kW hr
theorem cj.abx (S:cj P ty Wg said gJ base gs w t D mm al l bl q ow G st sm) (hk:al[k]? = some a) (hg:gs[base + k]? = some g) (hx:D k = ⟨.leaf,3,0,YX,G0⟩) (hgo:stepG P false g w = .go g' w' es)
 (hA:Conc.Aside Wg w w') (oZ:WgAt ty Wg w' st' sm') (hbk:∀ e ∈ es,VE Wg e) (hd:∀ jx e,es[jx]? = some e->(MemAct.ofEvent e).touch? = none \/ 0 < deafBehind YX.deaf (es.extract 0 jx)) (hL:Hh P ty Wg k wd' g' w') (alE:deafBehind YX.deaf es = wd'.deaf)
 (afY:wd'.stage <= 6->∃ r,RelBy (stA Wg) (t ++ MemOp.ofEvents (base + k) g.frame.fn g.frame.place es) (base + k) r)
 (hmode:∀ bl',(bl' = bl \/ (bl = true /\ bl' = false))->(mayWake P g = true->g'.status = .running->bl' = false)->ConcN.Mode al.length (upd (pf D) k wd') (jZ l bl') st' sm')
 (hV:cnt wd' <= cnt YX) (hlt:wd'.stage < YX.stage \/ (wd'.stage = YX.stage /\ wd'.fuel < YX.fuel)) :
 ∃ m' ops μ',runT P (crowd gs w sl) (base + k) = (.next m',ops) /\ lX μ' (uJ base av.n D mm al.length q bl) /\ nA P ty Wg said gJ base μ' m' (t ++ ops):=by
 have⟨h1,h2,h3,h4,h5⟩:=S.aside hA oZ;have ho:∀ op ∈ MemOp.ofEvents _ g.frame.fn g.frame.place es,op.g = base + k:=g_of_ofEvents;have hwd:(D k).wd = YX:=by rw [hx]
 have hdk:=(S.deafW k (pP hk)).trans (by rw [hwd]);refine S.goT hk hg hgo (.wo hL) (by rw [hx]) (by rw [hx]) (λh1 h2=>?_) (λk' a' _ ha'=>h1 k' a' ha') h2 (eW hA.size.symm) (λk' _ _ _=>h3 _) h4 ?_ (λe he a=>(hbk e he).norel a) (by grind) afY h5 (λ_ _=>rfl) S.DR oZ hmode
  (by grind) (.inl ?_)
 ·rcases S.now k a hk with ⟨h3,_⟩ | ⟨_,⟨h3,_⟩ | ⟨_,h3⟩⟩
  ·omega
  ·grind
  ·have hM:=S.main;have⟨_,_,hM⟩:=hM;cases hM with
   | send _ _ _ _ h5=>grind
   | _=>cases h1
 ·rw [hA.size];refine S.past.app ho (λhM=>?_) (λop g9=>?_) λop g9 b hb=>?_
  ·rcases hM with ⟨e,_⟩ | ⟨y,_,e,hy⟩
   ·have:=S.pos; omega
   grind
  ·obtain⟨e,he,rfl⟩:=Conc.mem_ofEvents g9;exact (hbk e he).low S.CG.2.2
  ·obtain⟨e,he,rfl⟩:=Conc.mem_ofEvents g9;have⟨t1,t2,t3⟩:=(hbk e he).touch hb;have hka:b.kind = .atomic:=by cases hk:b.kind <;> first | rfl | (exact absurd hk t2) | (exact absurd hk t3)
   refine ⟨by have⟨a1,e1,e2⟩:=t1; exact S.wb (by rw [e1]; rfl) (.inl (e2 ▸ S.Gb S.CG.1)),λ_=>⟨t2,λh=>absurd h t3⟩,.inr (.inl ⟨t1,hka,λm hm=>?_,λg' ⟨k',a',i',ha',_,e1,_⟩=>?_⟩)⟩
   ·rw [ofEvents_eq,fE] at hm;have⟨e',he',hee⟩:=cd.1 hm;have hee':MemAct.ofEvent e' = MemAct.ofEvent e:=by grind
    grind [deaf_inside,MemAct.ofEvent]
   ·have⟨a1,e2,e3⟩:=t1
    rcases e1 with e1 | e1 <;> (rw [e1] at e2; cases e2)
    ·exact (S.rn a' (ai ha') _ (by simp [aC.bT])).2.2.2 e3
    ·exact (S.rn a' (ai ha') _ (by simp [aC.bT])).2.2.2 e3
 ·rw [hx];refine Prod.Lex.right _ ?_
  grind
theorem cj.V9 (S:cj P ty Wg said gJ base gs w t D mm al l bl q ow G st sm) (hn:av.n < 2147483648) (ha:al[k]? = some a) (hg:gs[base + k]? = some g) (hx:D k = ⟨.leaf,3,0,(D k).wd,G0⟩) (hL:Hh P ty Wg k (D k).wd g w) (hrun:g.status = .running) :
 ∃ m' ops μ',runT P (crowd gs w sl) (base + k) = (.next m',ops) /\ lX μ' (uJ base av.n D mm al.length q bl) /\ nA P ty Wg said gJ base μ' m' (t ++ ops):=by
 have hk:=pP ha;have h4:bl = true->l = [4]:=λe=>by
  have⟨_,_,hM⟩:=S.main;subst e;cases hM with
  | hold _ _ _ _ h5=>exact (h5 rfl).1
 have oZ:=S.wg;have hmode:=S.mode;have hdk:=S.deafW k hk;have hVj:=Vc_le al.length (pf D);have hjn:=S.wf.le;have hpend:∀ tag,tag = jZ l bl->al.length + pend tag <= av.n:=λtag e=>by
  subst e
  rcases S.wf with ⟨r,s,rfl,h⟩ | ⟨h,h1⟩
  ·simp only [jZ,pend]; split <;> omega
  ·rcases h1 with rfl | ⟨b,rfl⟩ | ⟨b,rfl⟩ | rfl | rfl | rfl | rfl <;> (simp only [jZ,pend]; try omega)
   cases bl <;> simp [pend] <;> omega
 have re:∀ {wd':WD} {st' sm':Int},ConcN.Mode al.length (upd (pf D) k wd') _ st' sm'->∀ bl',(bl' = bl \/ (bl = true /\ bl' = false))->(mayWake P g = true->True->True)->ConcN.Mode al.length _ _ st' sm':=λhm bl' hbl _=>hm.retag (FV hbl h4)
 have hwd:pf D k = (D k).wd:=rfl;have idle:∀ {g':Goroutine} {m':Nat},stepG P false g w = .go g' w #[]->Hh P ty Wg k ⟨(D k).wd.stage,m',(D k).wd.deaf⟩ g' w->m' < (D k).wd.fuel->((D k).wd.stage <= 6->∃ r,RelBy (stA Wg) t (base + k) r) ->
  ∃ m' ops μ',runT P (crowd gs w sl) (base + k) = (.next m',ops) /\ lX μ' _ /\ nA P ty Wg said gJ base μ' m' (t ++ ops):=λ{g' m'} hgo hL' hm hrl =>
  S.abx ha hg hx hgo (.refl Wg w) oZ (by simp) (by simp) hL' rfl (λh6=>let ⟨r,hr⟩:=hrl h6; ⟨r,hr.book (Wg:=Wg) hdk _ _ (es:=#[]) (by simp) (by simp)⟩)
   (λbl' hbl _=>re (hmode.same m' (D k).wd.deaf) bl' hbl (λ_ _=>trivial)) (eW (by simp only [cnt])) (.inr ⟨rfl,hm⟩)
 rcases hL with ⟨h7,hd0,hG⟩ | ⟨h6,hW⟩
 ·rcases Goes.cases hG with sL | ⟨m',ZP,hstep⟩
  ·have⟨_,aoe,g',hgo,m2,Tk⟩:=sL w (RW.refl w);refine S.abx ha hg hx hgo (.refl Wg w) oZ (by intro e he; simp at he; subst he; exact .inr rfl) (by intro jx e he; exact .inl (by have:=jy he; simp at this; subst this; rfl)) (.inr ⟨by simp,.k1 Tk⟩) (by trivial) (λ_=>⟨t.size,RelBy.new (by omega) _ _⟩)
    (λbl' hbl _=>re (hmode.counted hk (by grind) (.inl rfl) _ _) bl' hbl (λ_ _=>trivial)) (by simp [cnt,h7]) (.inl (by grind))
  ·obtain⟨g',w',es,hgo,⟨rfl,rfl⟩,hg'⟩:=hstep w (RW.refl w);exact idle (m':=m') hgo (.inl ⟨h7,hd0,hg'⟩) (by omega) (λh6=>by omega)
 ·have⟨r0,hr0⟩:=S.rel k hk h6;have idle':∀ {g':Goroutine} {m':Nat},stepG P false g w = .go g' w #[]->WSit P ty Wg av.C av.n O0 O0 0 _ _ (D k).wd.stage m' (D k).wd.deaf g' w->m' < (D k).wd.fuel ->
   ∃ m' ops μ',runT P _ _ = (.next m',ops) /\ lX μ' _ /\ nA P ty Wg said gJ base μ' m' _:=λ{g' m'} hgo hs hm=>idle (m':=m') hgo (.inr ⟨h6,hs⟩) hm (λ_=>⟨r0,hr0⟩)
  have bookG:∀ {g':Goroutine} {w':World} {es:Array Event} {wd':WD} {st' sm':Int},stepG P false g w = .go g' w' es->Conc.Aside Wg w w'->WgAt ty Wg w' st' sm'->(∀ e ∈ es,Bk Wg e) ->
   (∀ jx e,es[jx]? = some e->(MemAct.ofEvent e).touch? = none \/ 0 < deafBehind _ _)->WSit P ty Wg av.C av.n O0 O0 0 (k + 1) _ wd'.stage wd'.fuel wd'.deaf g' w'->wd'.stage <= 6->deafBehind _ es = wd'.deaf ->
   (∀ bl',(bl' = bl \/ (bl = true /\ bl' = false))->(mayWake P g = true->g'.status = .running->bl' = false)->ConcN.Mode al.length _ _ st' sm')->cnt wd' <= cnt (D k).wd->(wd'.stage < (D k).wd.stage \/ (wd'.stage = (D k).wd.stage /\ wd'.fuel < (D k).wd.fuel)) ->
   ∃ m' ops μ',runT P (crowd gs w sl) (base + k) = (.next m',ops) /\ lX μ' _ /\ nA P ty Wg said gJ base μ' m' (t ++ ops) :=
   λhgo hA abE hbk hd hs h6' hdd hmd hV hlt=>S.abx ha hg hx hgo hA abE (λe he=>.inl (hbk e he)) hd (.inr ⟨h6',hs⟩) hdd (λ_=>⟨r0,hr0.book hdk _ _ hbk hd⟩) hmd hV hlt
  have book:∀ {g':Goroutine} {w':World} {es:Array Event} {wd':WD} {st' sm':Int},stepG P false g w = .go g' w' es->Conc.Aside Wg w w'->WgAt ty Wg w' st' sm'->(∀ e ∈ es,Bk Wg e) ->
   (∀ jx e,es[jx]? = some e->(MemAct.ofEvent e).touch? = none \/ 0 < deafBehind _ _)->WSit P ty Wg av.C av.n O0 O0 0 (k + 1) _ wd'.stage wd'.fuel wd'.deaf g' w'->wd'.stage <= 6->deafBehind _ es = wd'.deaf ->
   ConcN.Mode al.length _ _ st' sm'->cnt wd' <= cnt _->(wd'.stage < (D k).wd.stage \/ (wd'.stage = (D k).wd.stage /\ wd'.fuel < (D k).wd.fuel)) ->
   ∃ m' ops μ',runT P _ _ = (.next m',ops) /\ lX μ' _ /\ nA P ty Wg said gJ base μ' m' _ :=
   λhgo hA abE hbk hd hs h6' hdd hmd hV hlt=>bookG hgo hA abE hbk hd hs h6' hdd (λbl' hbl _=>re hmd bl' hbl (λ_ _=>trivial)) hV hlt
  generalize hst:(D k).wd.stage = s at hW
  generalize hfu:(D k).wd.fuel = m at hW
  generalize hde:(D k).wd.deaf = dd at hW
  rw [hst,hde] at bookG book;rw [hfu] at bookG book idle';rw [hst,hde] at idle';have df2:∀ jx e,(#[rd (stA Wg),wr (stA Wg)]:Array Event)[jx]? = some e->(MemAct.ofEvent e).touch? = none \/ 0 < deafBehind 1 ((#[rd (stA Wg),wr (stA Wg)]:Array Event).extract 0 jx):=by
   intro jx e he
   match jx,he with
   | 0,_=>exact .inr (by simp [deafBehind])
   | 1,_=>exact .inr (by simp [deafBehind,rd])
   | jx + 2,he=>simp at he
  have df1:∀ (x:Event),x.loc ≠ .mark .disable->∀ jx e,(#[x]:Array Event)[jx]? = some e->(MemAct.ofEvent e).touch? = none \/ 0 < deafBehind 1 ((#[x]:Array Event).extract 0 jx):=by
   intro x _ jx e he
   match jx,he with
   | 0,_=>exact .inr (by simp [deafBehind])
   | jx + 1,he=>simp at he
  cases hW with
  | r0 _=>omega
  | k1 h1 =>
    rcases Goes.cases h1 with sL | ⟨m',rfl,hstep⟩
    ·have⟨_,g',hgo,m2,Tk⟩:=sL w (RW.refl w);exact book hgo (.refl Wg w) oZ bk_dis (by intro jx e he; exact .inl (by have:=jy he; simp at this; subst this; rfl)) (.d1 Tk) (by simp) rfl
      (hmode.counted hk (by grind) (.inr rfl) _ _) (by simp [cnt,hst]) (.inl (by simp))
    ·obtain⟨g',w',es,hgo,⟨rfl,rfl⟩,hg'⟩:=hstep w (RW.refl w);exact idle' hgo (.k1 hg') (by omega)
  | d1 h1 =>
    rcases Goes.cases h1 with sL | ⟨m',rfl,hstep⟩
    ·have⟨_,pM⟩:=sL w (RW.refl w);have hc1:cnt (pf D k) = 1:=by simp [cnt,hwd,hst]
     have hc1':cnt (D k).wd = 1:=hc1;have hV1:1 <= Vc al.length (pf D):=by have:=le_sumTo (f:=λx=>cnt (pf D x)) hk; simp only [Vc]; omega
     have hq0:∀ q,cnt (⟨1,q,1⟩:WD) = 0:=λ_=>rfl
     have opq:∀ q,OpenSt al.length (pf D)->OpenSt al.length (upd (pf D) k ⟨1,q,1⟩):=λq h a ha=>by
      by_cases e:a = k
      ·subst e; rw [upd_same]; simp
      ·rw [upd_ne (pf D) _ e]; exact h a ha
     generalize htag:jZ l bl = tag at *
     have hpd:=hpend tag rfl;cases hmode with
     | opn e1 e2 e3 =>
       obtain⟨v,hv⟩:∃ v,Vc al.length (pf D) + pend tag = v + 1:=⟨Vc al.length (pf D) + pend tag - 1,by omega⟩;rw [hv] at oZ;have hw1:WgAt ty Wg w (((v:Nat) + 1) * KK + ((0:Nat):Int)) 0:=by simpa using oZ
       have⟨g',hgo,_,hq⟩:=pM v 0 (by omega) (by omega) hw1;have⟨q,hq⟩:=hq (by omega);have hv':Vc al.length (upd (pf D) k ⟨1,q,1⟩) + pend tag = v:=by have:=Vc_upd (pf D) (⟨1,q,1⟩:WD) hk; have:=hq0 q; omega
       refine book (wd':=⟨1,q,1⟩) hgo (aside_setCell w (stA Wg) _) (oZ.setSt _) bk_rw df2 (.quit hq) (by simp) rfl ?_ (by grind) (.inl (by simp));have e:((v:Nat):Int) * KK + ((0:Nat):Int) = ((Vc al.length (upd (pf D) k ⟨1,q,1⟩) + pend tag:Nat):Int) * KK:=by rw [hv']; simp
       rw [e];exact .opn e1 (opq q e2) (λvs ev=>by grind)
     | reg e1 e2 e3 =>
       obtain⟨v,hv⟩:∃ v,Vc al.length (pf D) = v + 1:=⟨Vc al.length (pf D) - 1,by omega⟩;rw [hv] at oZ;have hw1:WgAt ty Wg w (((v:Nat) + 1) * KK + ((1:Nat):Int)) 0:=by simpa using oZ
       have⟨g',hgo,hl,hq⟩:=pM v 1 (by omega) (by omega) hw1
       by_cases hv0:v = 0
       ·subst hv0;have⟨m2,hk2⟩:=hl ⟨rfl,rfl⟩;refine book (wd':=⟨4,m2,1⟩) hgo (aside_setCell w (stA Wg) _) (oZ.setSt _) bk_rw df2 (.d2 hk2) (by simp) rfl ?_ (by simp [cnt]) (.inl (by simp));have hoth:∀ a,a < al.length->a ≠ k->(pf D a).stage = 1:=λa ha e=>by
         have c0:=others_uncounted hk hv hc1 a ha e;have:=e2 a ha;simp only [cnt] at c0;split at c0 <;> omega
        have:=ConcN.Mode.last (D:=upd (pf D) k ⟨4,m2,1⟩) k e1 hk (by rw [upd_same]; simp) (λa ha e=>by rw [upd_ne (pf D) _ e]; exact hoth a ha e)
        grind [upd_same]
       ·have⟨q,hq⟩:=hq (by omega);have hv':Vc al.length (upd (pf D) k ⟨1,q,1⟩) = v:=by have:=Vc_upd (pf D) (⟨1,q,1⟩:WD) hk; have:=hq0 q; omega
        refine book (wd':=⟨1,q,1⟩) hgo (aside_setCell w (stA Wg) _) (oZ.setSt _) bk_rw df2 (.quit hq) (by simp) rfl ?_ (by grind) (.inl (by simp));have e:((v:Nat):Int) * KK + ((1:Nat):Int) = ((Vc al.length (upd (pf D) k ⟨1,q,1⟩):Nat):Int) * KK + 1:=by rw [hv']; simp
        rw [e];exact .reg e1 (opq q e2) (by omega)
     | last L _ e2 e3 e4 =>
       grind
     | sema e2=>have:=e2 k hk; grind
     | fin _ e2=>have:=e2 k hk; grind
    ·obtain⟨g',w',es,hgo,⟨rfl,rfl⟩,hg'⟩:=hstep w (RW.refl w);exact idle' hgo (.d1 hg') (by omega)
  | d2 h1 =>
    rcases Goes.cases h1 with sL | ⟨m',rfl,hstep⟩
    ·have⟨_,hx⟩:=sL w (RW.refl w);obtain⟨hW3,hoth,rfl,rfl⟩:=hmode.isLast hk (by grind);rw [hwd] at oZ;simp only [hst] at oZ;have⟨g',hgo,m2,hk2⟩:=hx (by simpa using oZ);refine book (wd':=⟨3,m2,1⟩) hgo (.refl Wg w) oZ bk_rd (df1 _ (by simp [rd])) (.d3 hk2) (by simp) rfl ?_ (by simp [cnt,hst]) (.inl (by simp only; omega));have:=ConcN.Mode.last (D:=upd (pf D) k ⟨3,m2,1⟩) k hW3 hk (by rw [upd_same]; simp) (λa ha e=>by rw [upd_ne (pf D) _ e]; exact hoth a ha e);rw [upd_same] at this
     simpa using this
    ·obtain⟨g',w',es,hgo,⟨rfl,rfl⟩,hg'⟩:=hstep w (RW.refl w);exact idle' hgo (.d2 hg') (by omega)
  | d3 h1 =>
    rcases Goes.cases h1 with sL | ⟨m',rfl,hstep⟩
    ·have⟨_,hx⟩:=sL w (RW.refl w);obtain⟨hW3,hoth,rfl,rfl⟩:=hmode.isLast hk (by rw [hwd]; omega);rw [hwd] at oZ;simp only [hst] at oZ;have⟨g',hgo,m2,hk2⟩:=hx (by simpa using oZ);refine book (wd':=⟨2,m2,1⟩) hgo (aside_setCell w (stA Wg) _) (oZ.setSt 0) (by intro e he; simp at he; subst he; exact bk_cell _ _ rfl) (df1 _ (by simp [wr])) (.d4 hk2) (by simp) rfl ?_ (by simp [cnt,hst]) (.inl (by simp only; omega));have:=ConcN.Mode.last (D:=upd (pf D) k ⟨2,m2,1⟩) k hW3 hk (by rw [upd_same]; simp) (λa ha e=>by rw [upd_ne (pf D) _ e]; exact hoth a ha e);rw [upd_same] at this
     simpa using this
    ·obtain⟨g',w',es,hgo,⟨rfl,rfl⟩,hg'⟩:=hstep w (RW.refl w);exact idle' hgo (.d3 hg') (by omega)
  | d4 h1 =>
    rcases Goes.cases h1 with sL | ⟨m',rfl,hstep⟩
    ·have⟨_,hmw,hx⟩:=sL w (RW.refl w);obtain⟨hW3,hoth,rfl,rfl⟩:=hmode.isLast hk (by rw [hwd]; omega);rw [hwd] at oZ;simp only [hst] at oZ;have⟨g',hgo,q,hq⟩:=hx (by simpa using oZ);have hrun':g'.status = .running:=by
      cases q with
      | zero=>exact absurd hq.2 (by decide)
      | succ q=>exact hq.elim (λx=>absurd x.2 (by decide)) (λx=>x.1)
     refine bookG (wd':=⟨1,q,1⟩) hgo (aside_setCell w (smA Wg) _) (oZ.setSm 1) bk_sem ?_ (.quit hq) (by simp) (by simp [deafBehind,semEvents]) ?_ (by simp [cnt,hst]) (.inl (by simp only; omega))
     ·intro jx e he
      match jx,he with
      | 0,he=>simp [semEvents] at he; subst he; exact .inl rfl
      | 1,_=>exact .inr (by simp [deafBehind,semEvents])
      | 2,_=>exact .inr (by simp [deafBehind,semEvents])
      | 3,he=>simp [semEvents] at he; subst he; exact .inl rfl
      | jx + 4,he=>simp [semEvents] at he
     ·intro bl' hbl hw;obtain rfl:=hw hmw hrun';have e4:l = [4]:=by
       rcases S.wf with ⟨r,s,rfl,_⟩ | ⟨_,h1⟩
       ·exact hW3.elim
       ·rcases h1 with rfl | ⟨b,rfl⟩ | ⟨b,rfl⟩ | rfl | rfl | rfl | rfl <;> first | rfl | exact hW3.elim
      subst e4;simp only [if_true];exact .sema λa ha=>by
       by_cases e:a = k
       ·subst e; rw [upd_same]
       ·rw [upd_ne (pf D) _ e]; exact hoth a ha e
    ·obtain⟨g',w',es,hgo,⟨rfl,rfl⟩,hg'⟩:=hstep w (RW.refl w);exact idle' hgo (.d4 hg') (by omega)
  | quit h1 =>
    cases m with
    | zero=>rw [h1.1] at hrun; cases hrun
    | succ q =>
      rcases h1 with ⟨hf,_⟩ | ⟨_,g',es,ZN,hstep,hq⟩
      ·rw [hf] at hrun; cases hrun
      ·have hbk:∀ e ∈ es,Bk Wg e:=λe he=>bk_of_mute (ZN e he)
       have hno:∀ jx e,es[jx]? = some e->(MemAct.ofEvent e).touch? = none \/ 0 < deafBehind dd (es.extract 0 jx):=λjx e he=>.inl (touch_mute (ZN e (jy he)))
       refine book (wd':=⟨1,q,deafBehind dd es⟩) (hstep w) (.refl Wg w) oZ hbk hno (.quit hq) (by simp) rfl ?_ (by simp [cnt]) (.inr ⟨rfl,Nat.lt_succ_self q⟩);have:=hmode.same (i:=k) q (deafBehind dd es)
       rwa [hwd,hst] at this
end
theorem Ic (h:g.offers = none) (c:Nat) (b:Bool):offersAt g c b = []:=by
 grind [offersAt]
theorem qn (h:g.status = .running \/ g.status = .finished) (c:Nat) (b:Bool):offersAt g c b = []:=by grind [offersAt_of_not_blocked]
theorem CK {cs:Array CommCase} {sh:CommShape} {b:Bool} (h:∀ cc ∈ cs,cc.send.isSome = b->cc.chan ≠ .chan (some c)):offersAt (parked g cs sh) c b = []:=by
 simp only [offersAt,parked]
 grind [List.map_eq_nil_iff,List.filter_eq_nil_iff,Array.mem_of_getElem]
section
variable [Payload] [av] {b:Bool}
theorem Be.off (h:Be P ty Wg said k s ow w x g) (hc:(c = s.ct->b = true \/ x.md ≠ 1 \/ x.st ≠ 0) /\ (c = s.ce->b = true) /\ (c = s.cs->b = false \/ x.md ≠ 2)):offersAt g c b = []:=by
 have⟨h1,h2,h3⟩:=hc;cases h with
 | run _ _ _ h=>exact qn (.inl h) _ _
 | mV _ _ _ h=>exact qn (.inl h) _ _
 | Vj =>
   refine CK λcc hcc hs e=>?_
   simp only [lq,dZ,aE,aU,dj] at hcc
   rcases hcc with rfl | rfl
   ·grind [rcase,Value.chan.injEq]
   grind [rcase,Value.chan.injEq]
 | told | last =>
   refine CK λcc hcc hs e=>?_
   simp only [ic,dZ,aE,aU,dj] at hcc
   rcases hcc with rfl | rfl
   ·grind [scase,Value.chan.injEq]
   grind [rcase,Value.chan.injEq]
 | wo h=>exact qn h.status _ _
theorem AF.off (h:AF P ty Wg said gJ al l ow G w bl mm g) (h1:mm.md = 1->b = true->∀ a,al[mm.k]? = some a->a.2.ct ≠ c) (h3:mm.md = 3->b = false->∀ a,al[mm.k]? = some a->a.2.cs ≠ c):offersAt g c b = []:=by
 cases h with
 | hold _ _ _ h4 h5 =>
   cases bl with
   | false=>exact qn (.inl h4) _ _
   | true =>
     refine Ic ?_ _ _;exact (h5 rfl).2.1.2.1
 | send _ _ _ _ h4 =>
   cases b with
   | true=>grind [offersAt_parked_send]
   | false=>rfl
 | mV _ _ _ _ _ h=>exact qn (.inl h) _ _
 | wait _ _ _ h4 =>
   cases b with
   | true=>rfl
   | false=>grind [offersAt_parked_recv]
theorem VG.chan (h:VG c xc ow w u) {cl:Bool} (hi:∃ o,u.heap[i]? = some o /\ pL o = true /\ ∀ k z,¬ Ro o k z):VG c xc ow (w.setChan i cap buf cl m r tm) u:=by
 have⟨o,h1,h2,h3⟩:=hi;have ne:∀ b,b ≠ i->(w.setChan i cap buf cl m r tm).heap[b]? = w.heap[b]?:=λb hb=>heap_setChan_ne w _ _ _ _ _ _ (cN hb)
 have:=h.aside (w':=w.setChan i cap buf cl m r tm) rfl rfl rfl (by simp [World.setChan]) (λb hv=>ne b λe=>by
  subst e;have:=hv o h1;rw [jH h2] at this; cases this) (λb k o' z ho hr=>ne b λe=>by
  subst e;rw [h1] at ho; cases ho;exact h3 _ _ hr)
 have e:u.at (w.setChan i cap buf cl m r tm).drawn = u:=by
  show { u with drawn:=w.drawn } = u;rw [h.gy.drawn]
 grind
theorem VM.gQ (h:VM Wg ow l al G w u) (hF:∀ b,F b->ny u b) (hx:∀ b,F b->ow b = 1) (hlt:∀ b,xM Wg al b->b < w.heap.size /\ ¬ F b):VM Wg (tj F c' ow) l al G w (gQ F u w):=by
 have keep:∀ {b:Nat} {o:Obj},xM Wg al b->u.heap[b]? = some o->(Gx.gQ F u w).heap[b]? = some o:=λhb ho=>by
  rw [iA (hlt _ hb).2 (hlt _ hb).1,ho]; rfl
 refine ⟨h.toVG.gQ hF hx,keep (.inl rfl) h.hW,?_,λa ha=>?_,λa ha=>⟨keep (.inr ⟨a,ha,by simp [aC.bT]⟩) (h.box a ha).1,(h.box a ha).2⟩,λa ha b hb=>?_,λb al' G' hb=>?_,λb j o z hb hr=>?_⟩
 ·exact s65
 ·exact s80
 ·exact s84
 ·rcases lk hb with e | ⟨_,hb⟩
  ·exact absurd e Fj
  ·exact h.one b al' G' hb
 ·rcases lk hb with rfl | ⟨_,hb⟩
  ·exact absurd hr ef
  ·exact h.Nb b j o z hb hr
theorem wI (h1:u.heap.size = w.heap.size) (h2:u.drawn = w.drawn):hZ u w = u:=World.Ft (by simp [hZ,h1]) h2.symm rfl rfl rfl
theorem rK (ha:al[k]? = some a) (h:(al.set k (n,a.2))[k']? = some a'):∃ a0,al[k']? = some a0 /\ a0.2 = a'.2 /\ (k' ≠ k->a0 = a') /\ (k' = k->a' = (n,a.2)):=by
 grind
theorem GO (ha:al[k]? = some a) (h:al[k']? = some a'):∃ a1,(al.set k (n,a.2))[k']? = some a1 /\ a1.2 = a'.2:=by
 grind
theorem M0 (ha:al[k]? = some a):JU base (al.set k (n,a.2)) = JU base al:=by
 funext g l
 refine propext ⟨λ⟨k',a',i,h1,h2⟩=>?_,λ⟨k',a',i,h1,h2⟩=>?_⟩
 ·have⟨a0,h3,h4,_⟩:=rK ha h1;exact ⟨k',a0,i,h3,by grind⟩
 ·have⟨a1,h3,h4⟩:=GO (n:=n) ha h1;exact ⟨k',a1,i,h3,by grind⟩
theorem cj.meet {c0:Nat} {fh fj:FuncId} {ph pj:String} (S:cj P ty Wg said gJ base gs w t D mm al l bl q ow G st sm) (hk:al[k]? = some a)
 (hrun:runT P (crowd gs w sl) i = (.next (crowd yn (w.setChan c0 0 #[] false (m + 1) (m + 1) false) sl),met h j fh ph fj pj c0 m 0)) (hsz:yn.size = gs.size) (hoth:∀ y,y ≠ 0->y ≠ base + k->yn[y]? = gs[y]?)
 (QK:c0 = a.2.ct \/ c0 = a.2.cs) (aos:w.heap[c0]? = some (.chan 0 #[] false m m false)) (hh:h = hP base mm) (hj:j = hP base mm') (hhj:(h = 0 /\ j = base + k) \/ (h = base + k /\ j = 0))
 (hM:∃ gm',yn[0]? = some gm' /\ AF P ty Wg said gJ (al.set k (n,a.2)) l (tj F c' ow) G' (w.setChan c0 0 #[] false (m + 1) (m + 1) false) bl mm' gm')
 (hT:∃ gk',yn[base + k]? = some gk' /\ Be P ty Wg said k a.2 (tj F c' ow) (w.setChan c0 0 #[] false (m + 1) (m + 1) false) x' gk')
 (hF:∀ b,F b->ow b = c) (hFp:∀ b,F b->fq b) (hcc:c ≠ 0 /\ c' ≠ 0 /\ (∀ k',k' ≠ k->c ≠ k' + 2 /\ c' ≠ k' + 2)) (hFx:∀ b,F b->¬ xM Wg al b)
 (yi:∀ k' a',(al.set k (n,a.2))[k']? = some a'->(2 <= mm'.md /\ k' = mm'.k /\ a'.1 = 1 /\ ((upd D k x' k').md = 0 \/ ((upd D k x' k').md = 2 /\ mm'.md = 2)) /\ (upd D k x' k').G = G') ∨
  (¬ (2 <= mm'.md /\ k' = mm'.k) /\ (((upd D k x' k').md = 1 /\ a'.1 = 1 /\ av.R k' (upd D k x' k').G G' /\ (mm'.md = 1->k' = mm'.k->0 < (upd D k x' k').st)) \/ ((upd D k x' k').md = 3 /\ a'.1 ≠ 1))))
 (hn:n ≠ 2) (ha2:a.1 ≠ 2) (hwd:x'.wd.stage = 7 /\ x'.wd.deaf = 0) (anC:(D k).wd = ⟨7,0,0⟩) (hl:jr l = 0) (hkm:(D k).md ≠ 3)
 (hLo:∀ g,QQ base mm al.length D g->g ≠ j->QQ base mm' al.length (upd D k x') g) (ajU:∀ g,yJ base l al.length (upd D k x') g->yJ base l al.length D g)
 (hμ:lX (uJ base av.n (upd D k x') mm' al.length q bl) (uJ base av.n D mm al.length q bl)) :
 ∃ m' ops μ',runT P (crowd gs w sl) i = (.next m',ops) /\ lX μ' (uJ base av.n D mm al.length q bl) /\ nA P ty Wg said gJ base μ' m' (t ++ ops):=by
 have hlen:(al.set k (n,a.2)).length = al.length:=by simp
 have wH:=ai hk;have hkl:=pP hk;have hpos:=S.pos;have hc0m:c0 ∈ a.2.bT:=by rcases QK with rfl | rfl <;> simp [aC.bT]
 have hne:∀ b,b ≠ c0->(w.setChan c0 0 #[] false (m + 1) (m + 1) false).heap[b]? = w.heap[b]?:=λb hb=>heap_setChan_ne w _ _ _ _ _ _ (cN hb)
 have hW0:=cN (S.rn a wH c0 hc0m).2.2.2;have hC0:av.C ≠ c0:=λe=>by have h1:=S.H9.1; rw [e,(S.rn a wH c0 hc0m).1] at h1; cases h1
 have cell:∀ i:Nat,(w.setChan c0 0 #[] false (m + 1) (m + 1) false).cell? ⟨av.C,i,none⟩ = w.cell? ⟨av.C,i,none⟩:=λi=>by simp only [World.cell?,hne _ hC0]
 have hsize:(w.setChan c0 0 #[] false (m + 1) (m + 1) false).heap.size = w.heap.size:=by simp [World.setChan]
 have hq:=met_quiet h j fh ph fj pj c0 m 0;have hDe:∀ g,Deaf _ g = Deaf t g:=λg=>Deaf_quiet (hq g)
 have hmg:∀ op ∈ met h j fh ph fj pj c0 m 0,(op.g = 0 \/ op.g = base + k) /\ ∀ x,op.act ≠ .mark x:=by
  intro op g9;simp only [met,dZ,aE,aU,dj] at g9
  rcases g9 with rfl | rfl | rfl | rfl <;> (refine ⟨?_,by simp⟩; simp only; omega)
 have hMemh:yJ base l al.length D h /\ yJ base l al.length D j:=by
  rcases hhj with ⟨rfl,rfl⟩ | ⟨rfl,rfl⟩
  ·exact ⟨.inl ⟨rfl,hl⟩,.inr ⟨k,hkl,rfl,hkm⟩⟩
  ·exact ⟨.inr ⟨k,hkl,rfl,hkm⟩,.inl ⟨rfl,hl⟩⟩
 have howx:∀ b,xM Wg al b->tj F c' ow b = ow b:=λb hb=>iX λhf=>hFx b hf hb
 have Ff:=(S.past.give (by rw [<- hh]; exact hMemh.1) hMemh.2 fh ph fj pj m 0 (S.rn a wH c0 hc0m).2.2.1);rw [<- hh] at Ff;refine ⟨_,_,_,hrun,hμ,yn,_,sl,_,mm',_,l,bl,q,_,G',st,sm,rfl,⟨hpos,by rw [hsz,hlen,S.size],λy g0 hy0 Vu hi=>?_,hM,λy b' hy=>?_,yi,?_,λy op hy=>?_,λa'=>(S.norel a').app λop g9=>?_,by rw [hDe,S.deaf0],λy hy=>?_,λy hy hst=>?_,
  λb hb=>(hne b λe=>hb (e ▸ S.Gb (S.rn a wH c0 hc0m).1)).trans (S.kept b hb),?_,λb' hb'=>?_,λb' hb'=>by rw [iX λhf=>hb' (hFp _ hf)]; exact S.Ia b' hb',λl hl=>by
  have⟨a',e1,e2,e3⟩:=S.sn l hl
  grind [iX],?_,λa' ha' b' hb'=>?_,?_,λa' ha'=>?_,by rw [hlen]; exact S.wf,(hne _ hW0).trans S.wg,?_,λb' hb'=>?_⟩,by simp⟩
 ·rw [hoth y (by omega) (by omega)] at hi;rw [hDe]; exact S.old y g0 hy0 Vu hi
 ·by_cases e:y = k
  ·grind [upd_same]
  ·have⟨a0,h1,h2,h3,_⟩:=rK hk hy;rw [<- h3 e];have⟨z,hz,hTz⟩:=S.EB y a0 h1;refine ⟨z,by grind,?_⟩;rw [upd_ne D _ e];refine hTz.step (λu G V=>?_) (eW hsize.symm) (λ_=>⟨λb hb=>absurd hb (by omega),λ⟨p,q,h⟩=>⟨p,q,(hne _ hW0).trans h⟩,λ⟨cs,g1,g2⟩=>⟨cs,(hne _ hC0).trans g1,g2⟩,cell _⟩);rw [wI (w:=w.setChan c0 0 #[] false (m + 1) (m + 1) false) (by rw [hsize]; exact V.gy.size.symm) V.gy.drawn.symm];have⟨_,_,o,g1,g2⟩:=S.PC h1 V c0 (.inr ⟨a,wH,hc0m⟩);have hdist:¬ xT a0.2 c0:=λe'=>by
    have⟨i1,hi1⟩:=aP hc0m;have⟨i0,hi0⟩:=aP (ng e');exact e (S.sep y k a0 a h1 hk i0 i1 c0 hi0 hi1).1
   refine ⟨(V.toVG.Zk hF hcc.1 (cN (hcc.2.2 y e).1) (cN (hcc.2.2 y e).2) hcc.2.1 λb hb hx=>hFx b hb (.inr ⟨a0,ai h1,ng hx⟩)).chan ⟨o,g1,g2,λi z hr=>?_⟩,V.gt,V.bo⟩;exact hdist (V.ro c0 i o z g1 hr)
 ·rw [hlen,M0 hk,hsize,<- hj];exact Ff.uf (aA _) ajU λg hg=>hLo g hg.1 hg.2
 ·rw [hlen];exact s40
 ·grind
 ·rw [hlen] at hy;rw [hDe,S.deafW y hy]
  grind [upd_same,upd_ne]
 ·rw [hlen] at hy
  by_cases e:y = k
  ·grind [upd_same]
  ·rw [upd_ne D _ e] at hst;have⟨r,hr⟩:=S.rel y hy hst;exact ⟨r,hr.appNot λop g9=>by grind⟩
 ·have⟨h1,h2,h3⟩:=S.H9
  grind [iX]
 ·by_cases hf:F b'
  ·grind [wY]
  ·rw [iX hf] at hb'; exact S.DR b' hb'
 ·rw [howx _ (.inl rfl),hsize]; exact S.CG
 ·have⟨k',hk'⟩:=aP ha';have⟨a0,h1,h2,_⟩:=rK hk hk';rw [<- h2] at hb';rw [howx _ (.inr ⟨a0,ai h1,hb'⟩),hsize];exact S.rn a0 (ai h1) b' hb'
 ·intro y y' b1 b2 h1 h2 i1 i2 b' h3 h4;have⟨a1,g1,g2,_⟩:=rK hk h1;have⟨a2,g3,g4,_⟩:=rK hk h2;exact S.sep y y' a1 a2 g1 g3 i1 i2 b' (by grind) (by grind)
 ·have⟨k',hk'⟩:=aP ha';have⟨a0,h1,h2,h3,h4⟩:=rK hk hk';have⟨⟨m1,g1⟩,⟨m2,g2⟩,m3,g3⟩:=S.FF a0 (ai h1)
  grind [heap_setChan_self]
 ·rw [hlen,yL];refine S.mode.congr λi hi=>?_
  grind [upd_same,upd_ne,pf]
 ·rw [hlen,yL];have:=S.bound b' hb'
  grind [Vc_upd,pf,cnt]
theorem cj.K6 {y:Nat} {z:Goroutine} (S:cj P ty Wg said gJ base gs w t D mm al l bl q ow G st sm) (hy:gs[y]? = some z) (hk:al[k]? = some a) (hc:a.2.bT[i]? = some c) (hi:i ≠ 0)
 (hm:y = 0->(mm.md = 1->b = true->¬ (mm.k = k /\ i = 1)) /\ (mm.md = 3->b = false->¬ (mm.k = k /\ i = 3)))
 (ht:y = base + k->(i = 1->b = true \/ (D k).md ≠ 1 \/ (D k).st ≠ 0) /\ (i = 2->b = true) /\ (i = 3->b = false \/ (D k).md ≠ 2)):offersAt z c b = []:=by
 have idx:∀ {k':Nat} {a':Nat × aC} {i':Nat} {d:Nat},al[k']? = some a'->a'.2.bT[i']? = some d->c = d->k' = k /\ i' = i:=λh1 h2 e=>S.sep _ _ _ _ h1 hk _ _ c (by rw [e]; exact h2) hc
 by_cases h0:y = 0
 ·subst h0;have⟨gm,h1,hM⟩:=S.main;rw [hy] at h1; cases h1;refine hM.off (λe1 e2 a' ha' e3=>?_) λe1 e2 a' ha' e3=>?_
  ·have⟨h2,h3⟩:=idx (i':=1) ha' rfl e3.symm
   grind
  ·have⟨h2,h3⟩:=idx (i':=3) ha' rfl e3.symm
   grind
 ·by_cases hb:y < base
  ·exact qn (S.old y z (by omega) hb hy).status _ _
  ·have hlt:=(bP.1 hy).1;rw [S.size] at hlt;obtain⟨k',rfl⟩:∃ k',y = base + k':=⟨y - base,by omega⟩;have hk':k' < al.length:=by omega
   have⟨z',h1,hT⟩:=S.EB k' _ (bW hk');rw [hy] at h1; cases h1;have ha':=bW hk';refine hT.off ⟨λe=>?_,λe=>?_,λe=>?_⟩
   ·obtain⟨rfl,h3⟩:=idx (i':=1) ha' rfl e
    grind
   ·obtain⟨rfl,h3⟩:=idx (i':=2) ha' rfl e
    grind
   ·obtain⟨rfl,h3⟩:=idx (i':=3) ha' rfl e
    grind
theorem cj.aeT (S:cj P ty Wg said gJ base gs w t D mm al l bl q ow G st sm) (hk:al[k]? = some a) (hT:Be P ty Wg said k a.2 ow w x' g') (hwd:x'.wd = (D k).wd)
 (yi:(2 <= mm.md /\ k = mm.k /\ a.1 = 1 /\ (x'.md = 0 \/ (x'.md = 2 /\ mm.md = 2)) /\ x'.G = G) \/ (¬ (2 <= mm.md /\ k = mm.k) /\ ((x'.md = 1 /\ a.1 = 1 /\ av.R k x'.G G /\ (mm.md = 1->k = mm.k->0 < x'.st)) \/ (x'.md = 3 /\ a.1 ≠ 1))))
 (h3:(x'.md = 3 ↔ (D k).md = 3)) (h1:((D k).md = 1 ↔ x'.md = 1)):cj P ty Wg said gJ base (gs.setIfInBounds (base + k) g') w t (upd D k x') mm al l bl q ow G st sm:=by
 have hkl:=pP hk;have hp:=S.pos;have hMd:∀ y,((upd D k x' y).md = 3 ↔ (D y).md = 3) /\ ((D y).md = 1 ↔ (upd D k x' y).md = 1):=λy=>by
  by_cases e:y = k
  ·subst e; rw [upd_same]; exact ⟨h3,h1⟩
  ·rw [upd_ne D _ e]; exact ⟨.rfl,.rfl⟩
 have hW:∀ y,(upd D k x' y).wd = (D y).wd:=λy=>by
  by_cases e:y = k
  ·subst e; rw [upd_same]; exact hwd
  ·rw [upd_ne D _ e]
 have hwp:pf _ = pf D:=funext λy=>hW y
 refine ⟨hp,by simp [S.size],λy g0 hy0 Vu hi=>?_,?_,λy b hy=>?_,λy b hy=>?_,S.past.uf (aA _) (λg hg=>?_) (λg hg=>?_),S.xQ,S.norel,S.deaf0,λy hy=>by rw [hW y]; exact S.deafW y hy,λy hy hst=>S.rel y hy (by grind),S.kept,S.H9,S.DR,S.Ia,S.sn,S.CG,S.rn,S.sep,S.FF,S.wf,S.wg,by rw [hwp]; exact S.mode,by rw [hwp]; exact S.bound⟩
 ·rw [bL (by omega)] at hi;exact S.old y g0 hy0 Vu hi
 ·have⟨gm,h1,h2⟩:=S.main
  grind
 ·by_cases e:y = k
  ·subst e;rw [hk] at hy; cases hy;exact ⟨g',ea (by rw [S.size]; omega),by rw [upd_same]; exact hT⟩
  ·have⟨z,hz,hTz⟩:=S.EB y b hy
   grind [upd_ne]
 ·by_cases e:y = k
  ·grind [upd_same]
  ·rw [upd_ne D _ e]; exact S.now y b hy
 ·rcases hg with hg | ⟨y,h4,h5,h6⟩
  ·exact .inl hg
  ·exact .inr ⟨y,h4,h5,λe=>h6 ((hMd y).1.2 e)⟩
 ·rcases hg with hg | ⟨y,h4,h5,h6⟩
  ·exact .inl hg
  ·exact .inr ⟨y,h4,h5,(hMd y).2.1 h6⟩
theorem cj.qN (S:cj P ty Wg said gJ base gs w t D mm al l bl q ow G st sm) (hM:AF P ty Wg said gJ al l ow G w bl mm' g') (hmd:2 <= mm.md ↔ 2 <= mm'.md) (ZO:2 <= mm.md->mm'.k = mm.k) (h2:mm.md = 2->∀ k a,al[k]? = some a->k = mm.k->(D k).md = 2->mm'.md = 2)
 (h1:mm'.md = 1->∀ a,al[mm'.k]? = some a->(D mm'.k).md = 1->0 < (D mm'.k).st):cj P ty Wg said gJ base (gs.setIfInBounds 0 g') w t D mm' al l bl q ow G st sm:=by
 have hp:=S.pos;have eh:hP base mm' = hP base mm:=by
  unfold hP
  by_cases e:2 <= mm.md
  ·rw [if_pos e,if_pos (hmd.1 e),ZO e]
  ·rw [if_neg e,if_neg λh=>e (hmd.2 h)]
 refine ⟨hp,by simp [S.size],λy g0 hy0 Vu hi=>?_,⟨g',ea (by rw [S.size]; omega),hM⟩,λy b hy=>?_,λy b hy=>?_,by rw [eh]; exact S.past.uf (aA _) (λ_ h=>h) (λg hg=>hg.imp (λ⟨a,b⟩=>⟨a,hmd.1 b⟩) id),S.xQ,S.norel,S.deaf0,S.deafW,S.rel,S.kept,S.H9,S.DR,S.Ia,S.sn,S.CG,S.rn,S.sep,S.FF,S.wf,S.wg,S.mode,S.bound⟩
 ·rw [bL (by omega)] at hi;exact S.old y g0 hy0 Vu hi
 ·have⟨z,hz,hT⟩:=S.EB y b hy
  grind
 ·rcases S.now y b hy with ⟨e1,e2,e3,e4,e5⟩ | ⟨e1,e2⟩
  ·grind
  grind
theorem kV {fn:FuncId} {pos:String}:MemOp.ofEvents i fn pos #[] = #[]:=by rfl
theorem cj.Ag (S:cj P ty Wg said gJ base gs w t D mm al l bl q ow G st sm) (hk:al[k]? = some a) (hc:a.2.bT[i]? = some c) (hi:i ≠ 0) (ho:∃ m,w.heap[c]? = some (.chan 0 #[] false m m false)) (z:Value)
 (hm:j ≠ 0->mm.md = 1->¬ (mm.k = k /\ i = 1)) (ht:j ≠ base + k->i = 3->(D k).md ≠ 2):NoWays w (gs.setIfInBounds j ph) (rcase c z):=by
 have⟨m,ho⟩:=ho;refine ways_recv_none ho (partners_nil λy x hy=>?_)
 rcases getElem?_stand gs j y x hy with ⟨_,rfl⟩ | ⟨hne,J7⟩
 ·rfl
 ·exact S.K6 J7 hk hc hi (λe=>⟨λh1 _=>hm (by omega) h1,λ_ h=>by cases h⟩) λe=>⟨λ_=>.inl rfl,λ_=>rfl,λe3=>.inr (ht (by omega) e3)⟩
theorem abo (hk:k < j) (h:Pn x' = Pn (D k)) (hst:x'.st < (D k).st) (q:Nat->Nat) (n:Nat):lX (uJ base n (upd D k x') mm j q bl) (uJ base n D mm j q bl):=by
 have hs:=sumTo_upd D x' (λx=>x.st) hk;have e:(λi=>Pn (upd D k x' i)) = λi=>Pn (D i):=funext λi=>by
  by_cases e:i = k
  ·subst e; rw [upd_same]; exact h
  ·rw [upd_ne D _ e]
 unfold uJ;rw [e];exact s60
theorem cj.Rg (S:cj P ty Wg said gJ base gs w t D mm al l bl q ow G st sm) (hk:al[k]? = some a) (hg:gs[base + k]? = some g) (hx:D k = ⟨tr,1,n' + 1,⟨7,0,0⟩,G0⟩) (V:VT k a.2 ow G1 w (gQ F v w)) (hsz:v.heap.size <= w.heap.size) (hF:∀ b,F b->¬ xT a.2 b)
 (hT:TAt P ty Wg said k a.2 G0 F v tr g) (hmm:¬ (mm.md = 1 /\ mm.k = k)) :
 ∃ m' ops μ',runT P (crowd gs w sl) (base + k) = (.next m',ops) /\ lX μ' (uJ base av.n D mm al.length q bl) /\ nA P ty Wg said gJ base μ' m' (t ++ ops):=by
 have⟨g3,zt,ze,⟨_,h3,hst⟩,hGo⟩:=hT;have hne:(base + k == 0) = false:=by have:=S.pos; simp; omega
 have hn:=S.now k a hk;rw [hx] at hn;obtain⟨hh,a1,hR⟩:¬ (2 <= mm.md /\ k = mm.k) /\ a.1 = 1 /\ av.R k G0 G:=by
  grind
 have⟨c1,c2,c3⟩:=S.FF a (ai hk);rw [a1] at c2;have hw:=crowd_waits (sl:=sl) hg (by rw [hne]; exact hst w) λcc hcc=>by
  simp only [lq,dZ,aE,aU,dj] at hcc
  rcases hcc with rfl | rfl
  ·exact S.Ag hk (i:=1) rfl (by decide) c1 zt (λ_ h1 h2=>hmm ⟨h1,h2.1⟩) (λh=>absurd rfl h)
  ·exact S.Ag hk (i:=2) rfl (by decide) c2 ze (λ_ _ h=>by cases h.2) (λh=>absurd rfl h)
 rw [kV] at hw;refine ⟨_,_,_,hw,abo (pP hk) (by rw [hx]; rfl) (by grind) q av.n,_,w,sl,upd D k ⟨tr,1,0,_,G0⟩,mm,al,l,bl,q,ow,G,st,sm,rfl,?_,rfl⟩;exact S.aeT hk (.Vj V hsz hF h3 hGo) (by rw [hx]) (.inr ⟨hh,.inl ⟨rfl,a1,hR,λh1 h2=>absurd ⟨h1,h2.symm⟩ hmm⟩⟩) (by rw [hx]) (by rw [hx])
end
section
variable [Payload] [av]
theorem VG.OU (h:VG c xc ow w u) {o':Obj} (hb:xc b) (h0:u.heap[b]? = some o) (hH:pL o' = true) (hr:∀ k z,Ro o' k z->∃ (cs:Array Value) (e:TypeId),w.heap[b]? = some (.cells cs e (0,0)) /\ cs[k]? = some z):VG c xc ow w (dU u b o'):=by
 have hl:=aG h0;have hs:(dU u b o').heap[b]? = some o':=eJ hl;have hn:∀ d,d ≠ b->(dU u b o').heap[d]? = u.heap[d]?:=λd hd=>eI (cN hd)
 have hP:=jH hH;have hV:Eb o' = false:=by cases o' <;> first | rfl | cases hP
 have hS:∀ k z,o' ≠ slot k z:=λk z e=>by rw [e] at hH; simp [pL,slot] at hH
 have iL:∀ d,ny (dU u b o') d->d ≠ b /\ ny u d:=λd hd=>by
  have ne:d ≠ b:=λe=>by subst e; have:=hd _ hs; rw [hP] at this; cases this
  exact ⟨ne,λo ho=>hd o (by rw [hn d ne]; exact ho)⟩
 refine ⟨M7 h.nv hV,⟨by rw [fN]; exact h.gy.size,h.gy.tape,h.gy.drawn,h.gy.os,h.gy.output,λd hd=>?_,λd k z hz=>?_,λd k o z ho hr'=>?_⟩,λd hd hv=>h.iL d hd (iL d hv).2,λd k z hz=>?_,λd k o z ho hr'=>?_,λd hd hp e0 e1 e2=>?_⟩
 ·have⟨h1,h2⟩:=iL d hd;rw [hn d h1]; exact h.gy.iL d h2
 ·by_cases e:d = b
  ·grind
  ·rw [hn d e] at hz; exact h.gy.slot d k z hz
 ·by_cases e:d = b
  ·grind
  ·rw [hn d e] at ho; exact h.gy.ro d k o z ho hr'
 ·by_cases e:d = b
  ·grind
  ·rw [hn d e] at hz; exact h.me d k z hz
 ·by_cases e:d = b
  ·grind
  ·rw [hn d e] at ho; exact h.ro d k o z ho hr'
 ·rw [hn d λe=>e2 (e ▸ hb)]; exact h.nE d hd hp e0 e1 e2
theorem VT.dU (h:VT k s ow G w u) (G':Gh):VT k s ow G' w (dU u s.sb (nL s G')) :=
 ⟨h.toVG.OU (.inl rfl) h.gt (wV _ _) λi z hr=>h.gy.ro s.sb i _ z h.gt (nj.2 (nj.1 hr)),eJ (aG h.gt),(eI h.ne).trans h.bo⟩
theorem DF (h1:w'.heap.size = w.heap.size) (h2:w'.drawn = w.drawn):gQ F u w' = gQ F u w:=by
 refine World.Ft (ik λb=>?_) h2 rfl rfl rfl
 by_cases hb:b < w.heap.size
 ·by_cases hf:F b
  ·grind [qI]
  grind [iA]
 grind [kO]
theorem Cj (h:al[k]? = some a):al.set k a = al:=by
 apply eZ
 grind
theorem VM.chan {m:Nat} {cl:Bool} (h:VM Wg ow l al G w u) {i:Nat} (hi:∃ o,u.heap[i]? = some o /\ pL o = true /\ ∀ k z,¬ Ro o k z) (hs:∀ a ∈ al,¬ xT a.2 i):VM Wg ow l al G (w.setChan i 0 #[] cl m m false) u :=
 ⟨h.toVG.chan hi,h.hW,h.gm,λa ha=>by
  have⟨L,e,h1,h2⟩:=h.oe a ha;exact ⟨L,e,h1,(heap_setChan_ne w _ _ _ _ _ _ λe=>hs a ha (.inl e)).trans h2⟩,λa ha=>by
  have⟨h0,e,h1⟩:=h.box a ha;exact ⟨h0,e,(heap_setChan_ne w _ _ _ _ _ _ λe=>hs a ha (.inr e)).trans h1⟩,h.ch,h.one,h.Nb⟩
theorem cj.Ul (S:cj P ty Wg said gJ base gs w t D mm al l bl q ow G st sm) (V:VM Wg ow l al G0 w u) (hk:al[k]? = some a) (hc:a.2.bT[i]? = some c) (hi:i ≠ 0 /\ i ≠ 4):(∃ o,u.heap[c]? = some o /\ pL o = true /\ ∀ k z,¬ Ro o k z) /\ ∀ a' ∈ al,¬ xT a'.2 c:=by
 have hcm:c ∈ a.2.bT:=by grind
 have⟨_,_,o,h1,h2⟩:=S.II V c (.inr ⟨a,ai hk,hcm⟩);have hne:∀ a' ∈ al,¬ xT a'.2 c:=λa' ha' e=>by
  have⟨k',hk'⟩:=aP ha'
  rcases e with e | e
  ·exact hi.1 (S.sep k' k a' a hk' hk 0 i c (by rw [e]; rfl) hc).2.symm
  ·exact hi.2 (S.sep k' k a' a hk' hk 4 i c (by rw [e]; rfl) hc).2.symm
 refine ⟨⟨o,h1,h2,λj z hr=>?_⟩,hne⟩;have⟨a',ha',hb⟩:=V.Nb c j o z h1 hr
 grind
end
section
variable [Payload] [av] {v0:World}
theorem cj.toT (S:cj P ty Wg said gJ base gs w t D mm al l bl q ow G st sm) (hk:al[k]? = some a) (BP:df v u) (V:VM Wg ow l al G w u) (hsa:av.SA G F v) (hpm:∀ b,F b->fq b) (VTk:VT k a.2 ow G1 w (gQ F0 v0 w)) (hsz:v0.heap.size <= w.heap.size) (hct:c = a.2.ct) :
 (∀ b,F b->ow b = 1) /\ (∀ b,F b->¬ xM Wg al b) /\ VM Wg (tj F (k + 2) ow) l al G (w.setChan c 0 #[] false (m + 1) (m + 1) false) (gQ F v (w.setChan c 0 #[] false (m + 1) (m + 1) false)) /\ v.heap.size <= w.heap.size ∧
 ∃ v',av.SA G F v' /\ Sw F0 F v0 v' /\ VT k a.2 (tj F (k + 2) ow) G (w.setChan c 0 #[] false (m + 1) (m + 1) false) (dU v' a.2.sb (nL a.2 G)):=by
 subst hct;have Xx:=V.gy.size.symm;have hvs:v.heap.size <= w.heap.size:=by have:=BP.size; omega
 have hsu:=av.loc hsa λb hb=>BP.old b (av.iL hsa hb).2
 have hH:=S.II V;have hxt:∀ b,F b->¬ xM Wg al b:=λb hb hx=>by
  exact s77
 have wH:=ai hk;have⟨hO,hg,ht,nN,C4⟩:=E4 V.toVG VTk.toVG hsu hpm S.DR (by omega) (by decide) (by omega) (λb hb hx=>hxt b hb (.inr ⟨a,wH,ng hx⟩)) hsz;have hVa:=V.gQ (c':=k + 2) (λb hb=>(av.iL hsu hb).1) hO λb hb=>⟨(hH b hb).1,λhf=>hxt b hf hb⟩
 have hlt:=λb hb=>(S.rn a wH b hb).2.2.1
 have hnF:∀ b ∈ a.2.bT,¬ F b:=λb hb hf=>hxt b hf (.inr ⟨a,wH,hb⟩)
 have hch:=S.Ul (i:=1) V hk rfl (by decide);have hch':∃ o,(gQ F u w).heap[a.2.ct]? = some o /\ pL o = true /\ ∀ k z,¬ Ro o k z:=by
  have⟨o,h1,h2⟩:=hch.1;exact ⟨o,by rw [iA (hnF _ (by simp [aC.bT])) (hlt _ (by simp [aC.bT])),h1]; rfl,h2⟩
 have hVc:=hVa.chan (m:=m + 1) (cl:=false) hch' hch.2;refine ⟨hO,hxt,?_,hvs,_,C4,nN,?_⟩
 ·rw [abX BP (by omega)] at hVc;rw [DF (w':=w.setChan a.2.ct 0 #[] false (m + 1) (m + 1) false) (w:=w) (by simp [World.setChan]) rfl];omega
 ·have NO:VT k a.2 _ G1 w _:=⟨ht,by
   show (back F (gQ F0 v0 w) w).heap[a.2.sb]? = some (nL a.2 G1);rw [nt (hnF _ (by simp [aC.bT])) (hlt _ (by simp [aC.bT])),show (gQ F0 v0 w).heap[a.2.sb]? = _ from VTk.gt]; rfl,by
   rw [nt (hnF _ (by simp [aC.bT])) (hlt _ (by simp [aC.bT])),VTk.bo]; rfl⟩
  have howc:tj F (k + 2) ow a.2.ct = 1:=by rw [iX (hnF _ (by simp [aC.bT]))]; exact (S.rn a wH _ (by simp [aC.bT])).1
  have hd:=NO.nE _ (hlt _ (by simp [aC.bT])) (S.Gb (S.rn a wH _ (by simp [aC.bT])).1) (by rw [howc]; decide) (by rw [howc]; omega) (hch.2 a wH);have h1:VT k a.2 _ G1 (w.setChan _ 0 #[] false (m + 1) (m + 1) false) _:=⟨NO.toVG.chan ⟨dummy,hd,rfl,λ_ _=>ef⟩,NO.gt,NO.bo⟩;exact h1.dU G
theorem cj.Rh (S:cj P ty Wg said gJ base gs w t D mm al l bl q ow G st sm) (hk:al[k]? = some a) (hg:gs[base + k]? = some g) (hx:D k = ⟨tr,1,n' + 1,⟨7,0,0⟩,G0⟩) (V:VT k a.2 ow G1 w (gQ F0 v0 w)) (hsz:v0.heap.size <= w.heap.size)
 (hT:TAt P ty Wg said k a.2 G0 F0 v0 tr g) (hmm:mm.md = 1 /\ mm.k = k) :
 ∃ m' ops μ',runT P (crowd gs w sl) (base + k) = (.next m',ops) /\ lX μ' (uJ base av.n D mm al.length q bl) /\ nA P ty Wg said gJ base μ' m' (t ++ ops):=by
 have⟨g3,zt,ze,⟨_,h3,hst⟩,hGo⟩:=hT;have hpos:=S.pos;have hkl:=pP hk;have hne:(base + k == 0) = false:=by simp; omega
 have⟨gm,Hm,hM⟩:=S.main;cases hM with
 | hold=>grind
 | mV=>grind
 | wait=>grind
 | @send Za k' mw s F v u g2 z z0 BP VMu hsa hpm hal hl h5 hway =>
   obtain rfl:k' = k:=hmm.2;rw [hk] at hal;obtain rfl:=ak hal;have⟨⟨m,c1⟩,c2,c3⟩:=S.FF _ (ai hk);have hn:=S.now k' _ hk;rw [hx] at hn;have hR:av.R k' G0 G:=by
    exact s85
   have⟨hO,hxt,hVM,hvs,v',C4,nN,NO⟩:=S.toT (m:=m) hk BP VMu hsa hpm V hsz rfl;have⟨t',sK,Ly⟩:=hGo z G F v' hR C4 nN;have hp:partners (gs.setIfInBounds (base + k') ph) s.ct true = [(0,0)]:=by
    rw [partners_one (stand_get (by omega) Hm) λy x hy0 hy=>by
     rcases getElem?_stand gs (base + k') y x hy with ⟨_,rfl⟩ | ⟨C5,J7⟩
     ·exact offersAt_ph _ _
     ·exact S.K6 J7 hk (i:=1) (c:=s.ct) rfl (by decide) (λe=>absurd e hy0) λe=>absurd e C5]
    simp [offersAt_parked_send]
   have hrun:=crowd_sel_recv_meets (sl:=sl) hg (by rw [hne]; exact hst w) (cases:=lq s zt ze) (k:=0) rfl (λm' c' ZP XD=>by
    have:m' = 1:=by
     exact s72
    subst this;obtain rfl:rcase s.ce ze = c':=by simpa [lq] using XD
    exact S.Ag hk (i:=2) (c:=s.ce) rfl (by decide) c2 ze (λ_ _ h=>by cases h.2) (λh=>absurd rfl h)) c1 (by omega) Hm hp
   rw [kV,di] at hrun;refine S.meet (n:=1) (m:=m) (h:=0) (c0:=s.ct) (F:=F) (c:=1) (c':=k' + 2) (G':=G) (x':=⟨t',0,0,⟨7,0,0⟩,G⟩) (mm':=⟨Za,2,k',mw + 1⟩) hk hrun (by simp) (λy hy0 hyk=>?_) (.inl rfl) c1 rfl rfl (.inl ⟨rfl,rfl⟩) ⟨Go.Conc.served g2 undef,?_,?_⟩ ⟨Go.Conc.served g3 (commResult (lq s zt ze) .select 0 z true),?_,?_⟩
    hO hpm ⟨by decide,by omega,λk'' abK=>⟨by omega,by omega⟩⟩ hxt (λy b hy=>?_) (by decide) (show (1:Nat) ≠ 2 by decide) ⟨rfl,rfl⟩ (by rw [hx]) hl (by rw [hx]; exact (by decide:(1:Nat) ≠ 3)) (λy hy hyj=>?_) (λy hy=>?_) ?_
   ·exact s41
   ·exact s32
   ·exact s67
   ·exact s56
   ·exact .run Ly (.refl _) NO rfl
   ·rw [Cj hk] at hy
    by_cases e:y = k'
    ·exact s69
    ·exact s53
   ·exact s61
   ·exact s42
   ·refine m170 ?_;exact y6 (i:=k') (bu _) (by omega) (by simp only [upd_same]; rw [hx]; exact Prod.Lex.left _ _ sK) (λi hi=>by simp only [upd_ne D _ hi])
end
section
variable [Payload] [av]
theorem cj.Rn (S:cj P ty Wg said gJ base gs w t D mm al l bl q ow G st sm) (hk:al[k]? = some a) (hg:gs[base + k]? = some g) (hx:D k = ⟨tr,0,0,⟨7,0,0⟩,G⟩) (hh:2 <= mm.md /\ k = mm.k) (h2:mm.md = 2) (sf:J0 P false (ic a.2 v0 z ze) .select g2 g)
 (hT:Be P ty Wg said k a.2 ow w ⟨tr,2,0,⟨7,0,0⟩,G⟩ (parked g2 (ic a.2 v0 z ze) .select)) :
 ∃ m' ops μ',runT P (crowd gs w sl) (base + k) = (.next m',ops) /\ lX μ' (uJ base av.n D mm al.length q bl) /\ nA P ty Wg said gJ base μ' m' (t ++ ops):=by
 have⟨_,h3,hst⟩:=sf;have hpos:=S.pos;have hkl:=pP hk;have hne:(base + k == 0) = false:=by simp; omega
 have⟨⟨m1,c1⟩,⟨m2,c2⟩,⟨m3,c3⟩⟩:=S.FF a (ai hk);have a1:a.1 = 1:=by
  rcases S.now k a hk with ⟨_,_,h,_⟩ | ⟨h,_⟩
  ·exact h
  ·exact absurd hh h
 rw [a1] at c2;have hw:=crowd_waits (sl:=sl) hg (by rw [hne]; exact hst w) λcc hcc=>by
  simp only [ic,dZ,aE,aU,dj] at hcc
  rcases hcc with rfl | rfl
  ·refine ways_send_none c3 (aA _) (partners_nil λy x hy=>?_)
   rcases getElem?_stand gs (base + k) y x hy with ⟨_,rfl⟩ | ⟨C5,J7⟩
   ·exact offersAt_ph _ _
   ·exact S.K6 J7 hk (i:=3) rfl (by decide) (λ_=>⟨λh1=>by omega,λh1=>by omega⟩) λe=>absurd e C5
  ·exact S.Ag hk (i:=2) rfl (by decide) ⟨m2,c2⟩ ze (λ_ _ h=>by cases h.2) (λh=>absurd rfl h)
 rw [kV] at hw;have hmu:lX (uJ base av.n (upd D k ⟨tr,2,0,⟨7,0,0⟩,G⟩) mm al.length q bl) (uJ base av.n D mm al.length q bl):=by
  have hs:sumTo al.length (λy=>(upd D k ⟨tr,2,0,⟨7,0,0⟩,G⟩ y).st) + (D k).st = sumTo al.length (λy=>(D y).st) + 0:=sumTo_upd D (⟨tr,2,0,⟨7,0,0⟩,G⟩:PX) (λx=>x.st) hkl;have hm:sumTo al.length (λy=>if (upd D k ⟨tr,2,0,⟨7,0,0⟩,G⟩ y).md = 0 then 1 else 0) + (if (D k).md = 0 then 1 else 0) = sumTo al.length (λy=>if (D y).md = 0 then 1 else 0) + 0:=sumTo_upd D (⟨tr,2,0,⟨7,0,0⟩,G⟩:PX) (λx=>if x.md = 0 then 1 else 0) hkl;rw [hx] at hs hm;simp only [if_true,jP] at hs hm;have e:(λi=>Pn (upd D k ⟨tr,2,0,⟨7,0,0⟩,G⟩ i)) = λi=>Pn (D i):=funext λi=>by
   by_cases e:i = k
   ·subst e; rw [upd_same,hx]; rfl
   ·rw [upd_ne D _ e]
  unfold uJ;rw [e,hs];exact Prod.Lex.right _ (Prod.Lex.right _ (Prod.Lex.right _ (Prod.Lex.right _ (by omega))))
 refine ⟨_,_,_,hw,hmu,_,w,sl,_,mm,al,l,bl,q,ow,G,st,sm,rfl,?_,rfl⟩;exact S.aeT hk hT (by rw [hx]) (.inl ⟨hh.1,hh.2,a1,.inr ⟨rfl,h2⟩,rfl⟩) (by grind) (by grind)
theorem Be.abd (V:VT k s ow G w u) (h:KT P (said false) k s false g u w (λg' v'=>∃ t',Tr.Sub t' tr /\ RunT (Kc P (said false) k s) P false fq 0 (QP P ty Wg said k s) t' g' v')) :
 ∃ v0 z ze g2,J0 P false (ic s v0 z ze) .select g2 g /\ Be P ty Wg said k s ow w ⟨tr,2,0,⟨7,0,0⟩,G⟩ (parked g2 (ic s v0 z ze) .select):=by
 have⟨v0,Ga,G',F,g2,z,ze,zt,QA,m,S',h1,h2,h3,h4⟩:=h rfl;have e:=zZ (ak (h2.gh.symm.trans V.gt));subst e;refine ⟨v0,z,ze,g2,h2.Qn,.told (.refl u) V h1 h2.sa h2.st h2.pm h2.Qn.2.1 λw1 hs=>Goes.imp (λg' _ ⟨g3,h5,h6⟩=>⟨g3,zt,QA,h5,λx JY F'' v' a1 a2 a3=>h4 _ _ (h6 x JY F'' v' a1 a2 a3)⟩) (h3 w1 hs)⟩
end
section
variable [Payload] [av] {v0:World}
theorem aap (hk:al[k]? = some a):xM Wg (al.set k (n,a.2)) = xM Wg al:=by
 funext b
 refine propext ⟨λh=>h.imp id λ⟨a',ha',hb⟩=>?_,λh=>h.imp id λ⟨a',ha',hb⟩=>?_⟩
 ·grind
 ·have⟨k',hk'⟩:=aP ha';have⟨a1,h1,h2⟩:=GO (n:=n) hk hk'
  grind
theorem mem_set (hk:al[k]? = some a) (h:a' ∈ al.set k (n,a.2)):∃ a0 ∈ al,a0.2 = a'.2:=by
 grind
theorem VM.qN (h:VM Wg ow l al G w u) (hk:al[k]? = some a) (hW:∀ a ∈ al,a.2.cs ≠ Wg) (hS:∀ a ∈ al,∀ a' ∈ al,a.2.cs ≠ a'.2.sb):VM Wg ow l (al.set k (n,a.2)) G' w (Gx.qN u (al.set k (n,a.2)) G'):=by
 cases al with
 | nil=>cases hk
 | cons a0 r =>
   obtain⟨a1,r1,e1,e2⟩:∃ a1 r1,(a0 :: r).set k (n,a.2) = a1 :: r1 /\ a1.2 = a0.2:=by
    cases k with
    | zero =>
      grind
    | succ k=>simp
   have hm0:a0 ∈ a0 :: r:=by simp
   have hx:=aap (Wg:=Wg) (n:=n) hk;have hms:∀ {a':Nat × aC},a' ∈ (a0 :: r).set k (n,a.2)->∃ a0' ∈ a0 :: r,a0'.2 = a'.2:=by grind
   rw [e1] at hx hms ⊢;have⟨o,ho,_⟩:=h.ch a0 hm0 a0.2.cs (by simp);have hl:=aG ho;show VM Wg ow l (a1 :: r1) G' w (dU u a1.2.cs (tq (Al.gh (a1 :: r1) G')));rw [e2];have hn:∀ d,d ≠ a0.2.cs->(dU u _ (tq (Al.gh (a1 :: r1) G'))).heap[d]? = u.heap[d]?:=λd hd=>eI (cN hd)
   have hs:=eJ (o:=tq (Al.gh (a1 :: r1) G')) hl;refine ⟨?_,by rw [hn _ (cN (hW a0 hm0))]; exact h.hW,by show _ /\ (dU u a0.2.cs _).heap[a1.2.cs]? = _; rw [e2]; exact ⟨(show DU u _ G from h.gm).1,hs⟩,λa' ha'=>?_,λa' ha'=>?_,λa' ha' b hb=>?_,λb al' G2 hb=>?_,λb j o' z hb hr=>?_⟩
   ·rw [hx];exact h.toVG.OU (.inr ⟨a0,hm0,by simp [aC.bT]⟩) ho rfl λj z hr=>absurd hr kW
   ·have⟨a2,h1,h2⟩:=hms ha';have⟨L,e,h3,h4⟩:=h.oe a2 h1
    grind
   ·have⟨a2,h1,h2⟩:=hms ha';rw [<- h2];refine ⟨(hn _ λe=>?_).trans (h.box a2 h1).1,(h.box a2 h1).2⟩;have g1:=(show DU u _ G from h.gm).2;rw [<- e,(h.box a2 h1).1] at g1;exact absurd (bF (ak g1)).2 (by decide)
   ·have⟨a2,h1,h2⟩:=hms ha';rw [<- h2] at hb
    by_cases e:b = a0.2.cs
    ·subst e; exact ⟨_,hs,rfl⟩
    ·rw [hn b e]; exact h.ch a2 h1 b hb
   ·by_cases e:b = a0.2.cs
    ·grind
    ·rw [hn b e] at hb
     rcases h.one b al' G2 hb with h1 | ⟨a2,r2,h1,h2⟩
     ·omega
     grind
   ·by_cases e:b = a0.2.cs
    ·subst e; rw [hs] at hb; cases hb; exact absurd hr kW
    ·rw [hn b e] at hb;have⟨a2,h1,h2⟩:=h.Nb b j o' z hb hr;have⟨k2,hk2⟩:=aP h1;have⟨a3,h3,h4⟩:=GO (n:=n) hk hk2
     grind
theorem VM.back (h:VM Wg ow l al G w u) (hw:∀ b,F b->∃ o,w.heap[b]? = some o /\ u9 o = false /\ Eb o = false) (hlt:∀ b,xM Wg al b->b < w.heap.size /\ ¬ F b):VM Wg (tj F 1 ow) l al G w (back F u w):=by
 have keep:∀ {b:Nat} {o:Obj},xM Wg al b->u.heap[b]? = some o->(Gx.back F u w).heap[b]? = some o:=λhb ho=>by
  rw [nt (hlt _ hb).2 (hlt _ hb).1,ho]; rfl
 have hP:∀ {b:Nat} {o:Obj},(Gx.back F u w).heap[b]? = some o->pL o = true->o = dummy \/ u.heap[b]? = some o:=λho hh=>by
  rcases qu ho with e | ⟨hf,ho⟩ | ⟨_,ho⟩
  ·exact .inl e
  ·have⟨o',h1,h2,_⟩:=hw _ hf;rw [ho] at h1; cases h1;rw [jH hh] at h2; cases h2
  ·exact .inr ho
 refine ⟨h.toVG.back hw (by decide),keep (.inl rfl) h.hW,?_,λa ha=>?_,λa ha=>⟨keep (.inr ⟨a,ha,by simp [aC.bT]⟩) (h.box a ha).1,(h.box a ha).2⟩,λa ha b hb=>?_,λb al' G' hb=>?_,λb j o z hb hr=>?_⟩
 ·exact s65
 ·exact s80
 ·exact s84
 ·rcases hP hb rfl with e | hb
  ·exact absurd e Fj
  ·exact h.one b al' G' hb
 ·rcases hP hb hr.pL with rfl | hb
  ·exact absurd hr ef
  ·exact h.Nb b j o z hb hr
theorem cj.toM (S:cj P ty Wg said gJ base gs w t D mm al l bl q ow G st sm) (hk:al[k]? = some a) (BP:df v u) (V:VT k a.2 ow G1 w u) (hsa:av.SA G' F v) (hpm:∀ b,F b->fq b) (QO:VM Wg ow l al G0 w (gQ F0 v0 w)) (hsz:v0.heap.size <= w.heap.size) (hc:c = a.2.cs) :
 (∀ b,F b->ow b = k + 2) /\ (∀ b,F b->¬ xM Wg al b) /\ VT k a.2 (tj F 1 ow) G1 (w.setChan c 0 #[] false (m + 1) (m + 1) false) (gQ F v (w.setChan c 0 #[] false (m + 1) (m + 1) false)) /\ v.heap.size <= w.heap.size ∧
 ∃ v',av.SA G' F v' /\ Sw F0 F v0 v' /\ VM Wg (tj F 1 ow) l (al.set k (n,a.2)) G' (w.setChan c 0 #[] false (m + 1) (m + 1) false) (Gx.qN v' (al.set k (n,a.2)) G'):=by
 subst hc;have Xx:=V.gy.size.symm;have hvs:v.heap.size <= w.heap.size:=by have:=BP.size; omega
 have hsu:=av.loc hsa λb hb=>BP.old b (av.iL hsa hb).2
 have hH:=S.PC hk V;have hxt:∀ b,F b->¬ xM Wg al b:=λb hb hx=>by
  exact s77
 have wH:=ai hk;have⟨hO,hg,ht,nN,C4⟩:=E4 V.toVG QO.toVG hsu hpm S.DR (by omega) (by omega) (by decide) (λb hb hx=>hxt b hb hx) hsz;have hlt:=λb hb=>(S.rn a wH b hb).2.2.1
 have hnF:∀ b ∈ a.2.bT,¬ F b:=λb hb hf=>hxt b hf (.inr ⟨a,wH,hb⟩)
 have hch:=S.Ul (i:=3) QO hk rfl (by decide);have hW:∀ b,F b->∃ o,w.heap[b]? = some o /\ u9 o = false /\ Eb o = false:=λb hb=>by
  have⟨h1,h2⟩:=av.iL hsu hb;exact ⟨_,(V.gy.iL b h1).trans (aX h2),h1 _ (aX h2),V.nv b _ (aX h2)⟩
 refine ⟨hO,hxt,?_,hvs,_,C4,nN,?_⟩
 ·have h1:VT k a.2 _ G1 w _:=⟨hg,by
   show (gQ F u w).heap[a.2.sb]? = some (nL a.2 G1);rw [iA (hnF _ (by simp [aC.bT])) (hlt _ (by simp [aC.bT])),show u.heap[a.2.sb]? = _ from V.gt]; rfl,by
   rw [iA (hnF _ (by simp [aC.bT])) (hlt _ (by simp [aC.bT])),V.bo]; rfl⟩
  have howc:tj F 1 ow a.2.cs = 1:=by rw [iX (hnF _ (by simp [aC.bT]))]; exact (S.rn a wH _ (by simp [aC.bT])).1
  have hd:=h1.nE _ (hlt _ (by simp [aC.bT])) (S.Gb (S.rn a wH _ (by simp [aC.bT])).1) (by rw [howc]; decide) (by rw [howc]; omega) (hch.2 a wH);have h2:VT k a.2 _ G1 (w.setChan _ 0 #[] false (m + 1) (m + 1) false) _:=⟨h1.toVG.chan ⟨dummy,hd,rfl,λ_ _=>ef⟩,h1.gt,h1.bo⟩;rw [abX BP (by omega)] at h2;rw [DF (w':=w.setChan a.2.cs 0 #[] false (m + 1) (m + 1) false) (w:=w) (by simp [World.setChan]) rfl];exact h2
 ·have h1:=QO.back hW λb hx=>⟨(S.II QO b hx).1,λhf=>hxt b hf hx⟩
  have⟨o,h2,h3,h4⟩:=hch.1;have h5:=h1.chan (m:=m + 1) (cl:=false) ⟨o,by rw [nt (hnF _ (by simp [aC.bT])) (hlt _ (by simp [aC.bT])),h2]; rfl,h3,h4⟩ hch.2;exact h5.qN hk (λa' ha'=>(S.rn a' ha' _ (by simp [aC.bT])).2.2.2) λa' ha' a'' abU e=>by
   have⟨k1,Tk⟩:=aP ha';have⟨k2,hk2⟩:=aP abU;exact absurd (S.sep k1 k2 a' a'' Tk hk2 3 0 _ rfl (by rw [e]; rfl)).2 (by decide)
end
section
variable [Payload] [av]
theorem cj.Rp {b:Bool} (S:cj P ty Wg said gJ base gs w t D mm al l bl q ow G st sm) (hk:al[k]? = some a) (hg:gs[base + k]? = some g) (hx:D k = ⟨tr,0,0,⟨7,0,0⟩,G⟩) (hh:2 <= mm.md /\ k = mm.k) (h3:mm.md = 3) (V:VT k a.2 ow G w u) (sf:J0 P false (ic a.2 v0 z ze) .select g2 g)
 (QH:said b v0) (hsa:av.SA G' F u) (C9:av.St k v0 G G') (hpm:∀ b,F b->fq b) (va:x'.md = if b then 3 else 1) (hx2:x'.wd.stage = 7 /\ x'.wd.deaf = 0) (hx3:b = false->x'.G = G')
 (hT':∀ w' ow',VT k a.2 ow' G w' (gQ F u w')->u.heap.size <= w'.heap.size->(∀ b,F b->¬ xT a.2 b)->WgLive ty Wg w'->Has av.C k (av.tv k) w'->k < av.n->Be P ty Wg said k a.2 ow' w' x' (Go.Conc.served g2 (commResult (ic a.2 v0 z ze) .select 0 undef false))) :
 ∃ m' ops μ',runT P (crowd gs w sl) (base + k) = (.next m',ops) /\ lX μ' (uJ base av.n D mm al.length q bl) /\ nA P ty Wg said gJ base μ' m' (t ++ ops):=by
 have⟨_,hr2,hst⟩:=sf;have hpos:=S.pos;have hkl:=pP hk;have hne:(base + k == 0) = false:=by simp; omega
 obtain⟨hmd,rfl⟩:=hh;have a1:a.1 = 1:=by
  rcases S.now mm.k a hk with ⟨_,_,h,_⟩ | ⟨h,_⟩
  ·exact h
  ·exact absurd ⟨hmd,rfl⟩ h
 have⟨gm,Hm,hM⟩:=S.main;cases hM with
 | hold=>cases h3
 | mV=>cases h3
 | send=>cases h3
 | @wait Za k' s F0 vm g3 z' QO hsz hF0 hal hl h5 hgo =>
   simp only at hk hg hx hkl V C9 hT' ⊢;rw [hk] at hal;obtain rfl:=ak hal;have⟨⟨m1,c1⟩,⟨m2,c2⟩,⟨m,c3⟩⟩:=S.FF _ (ai hk);have⟨hO,hxt,NO,Xx,v',C4,nN,hVM⟩:=S.toM (m:=m) (n:=if b then 0 else 1) hk (.refl u) V hsa hpm QO hsz rfl;have⟨t',sK,Ly⟩:=hgo b v0 G' F v' QH C9 C4 nN hxt;have hp:partners (gs.setIfInBounds (base + k') ph) s.cs false = [(0,0)]:=by
    rw [partners_one (stand_get (by omega) Hm) λy x hy0 hy=>by
     rcases getElem?_stand gs (base + k') y x hy with ⟨_,rfl⟩ | ⟨C5,J7⟩
     ·exact offersAt_ph _ _
     ·exact S.K6 J7 hk (i:=3) (c:=s.cs) rfl (by decide) (λe=>absurd e hy0) λe=>absurd e C5]
    simp [offersAt_parked_recv]
   have hrun:=Ck (sl:=sl) hg (by rw [hne]; exact hst w) (cases:=ic s v0 z ze) (k:=0) rfl (λm' c' ZP XD=>by
    have:m' = 1:=by
     exact s73
    subst this;obtain rfl:rcase s.ce ze = c':=by simpa [ic] using XD
    exact S.Ag hk (i:=2) (c:=s.ce) rfl (by decide) ⟨m2,c2⟩ ze (λ_ _ h=>by cases h.2) (λh=>absurd rfl h)) c3 (by omega) Hm hp
   rw [kV,di] at hrun;refine S.meet (n:=if b then 0 else 1) (m:=m) (j:=0) (c0:=s.cs) (F:=F) (c:=k' + 2) (c':=1) (G':=G') (x':=x') (mm':=⟨t',0,0,0⟩) hk hrun (by simp) (λy hy0 hyk=>?_) (.inr rfl) c3 rfl rfl (.inr ⟨rfl,rfl⟩) ⟨Go.Conc.served g3 v0,?_,?_⟩ ⟨Go.Conc.served g2 (commResult (ic s v0 z ze) .select 0 undef false),?_,?_⟩
    hO hpm ⟨by omega,by decide,λk'' abK=>⟨by omega,by omega⟩⟩ hxt (λy b' hy=>?_) (by cases b <;> decide) (show (1:Nat) ≠ 2 by decide) hx2 (by rw [hx]) hl (by rw [hx]; exact (by decide:(0:Nat) ≠ 3)) (λy hy hyj=>?_) (λy hy=>?_) ?_
   ·exact s41
   ·exact s32
   ·exact .hold Ly (.refl _) hVM rfl (λe=>by cases e)
   ·exact s56
   ·have hcW:=(S.rn _ (ai hk) s.cs (by simp [aC.bT])).2.2.2;have hcC:s.cs ≠ av.C:=λe=>by
     exact s68
    have hkn:k' < av.n:=by have:=S.wf.le; omega
    exact hT' _ _ NO (by simpa [World.setChan] using Xx) (λb hb e=>hxt b hb (.inr ⟨(1,s),ai hk,ng e⟩)) ⟨st,sm,(heap_setChan_ne w _ _ _ _ _ _ hcW).trans S.wg⟩
     (by have:=S.has k' hkn; simp only [Has,World.cell?,heap_setChan_ne w _ _ _ _ _ _ hcC] at this ⊢; exact this) hkn
   ·have⟨a0,e1,e2,e3,e4⟩:=rK hk hy
    by_cases e:y = k'
    ·exact s34
    ·exact s35
   ·rcases hy with ⟨h,_⟩ | ⟨y',h1,h2,h3⟩
    ·exact absurd h hyj
    ·refine .inr ⟨y',h1,h2,?_⟩;have e:y' ≠ k':=λe=>by rw [e,hx] at h3; cases h3
     rw [upd_ne D _ e]; exact h3
   ·exact s42
   ·exact Prod.Lex.right _ (Prod.Lex.left _ _ sK)
theorem VM.ghost (V:VM Wg ow l al G w u) (h:DU u al' G') (hk:al'[k]? = some a):al' = al /\ G' = G:=by
 cases al' with
 | nil=>cases hk
 | cons a1 r1 =>
   have h1:=h.2;have⟨a2,r2,e,e2⟩:=(V.one _ _ _ h1).resolve_left (by have:=h.1; omega);subst e;have h2:=(show DU u _ G from V.gm).2;rw [e2,h2] at h1;have⟨e3,e4⟩:=Al.LA (Tn (ak h1));exact ⟨e3.symm,e4.symm⟩
theorem cj.YA (S:cj P ty Wg said gJ base gs w t D mm al l false q ow G st sm) (hk:al[k]? = some a) (h0:gs[0]? = some g) (hm:mm = ⟨tr,0,0,0⟩) (afU:(D k).md = 1 /\ 0 < (D k).st) (sf:J0 P true #[scase a.2.ct z z0] .send g2 g)
 (hM:AF P ty Wg said gJ al l ow G w false ⟨tr,1,k,0⟩ (parked g2 #[scase a.2.ct z z0] .send)) :
 ∃ m' ops μ',runT P (crowd gs w sl) 0 = (.next m',ops) /\ lX μ' (uJ base av.n D mm al.length q false) /\ nA P ty Wg said gJ base μ' m' (t ++ ops):=by
 have⟨_,_,hst⟩:=sf;subst hm;have⟨⟨m1,c1⟩,_,_⟩:=S.FF a (ai hk);have hw:=crowd_waits (sl:=sl) h0 (hst w) λcc hcc=>by
  simp only [dZ,aE,aU,dj] at hcc;subst hcc;refine ways_send_none c1 (aA _) (partners_nil λy x hy=>?_)
  rcases getElem?_stand gs 0 y x hy with ⟨_,rfl⟩ | ⟨C5,J7⟩
  ·exact offersAt_ph _ _
  ·exact S.K6 J7 hk (i:=1) rfl (by decide) (λe=>absurd e C5) λe=>⟨λ_=>.inr (.inr (Nat.pos_iff_ne_zero.1 afU.2)),λh=>absurd h (by decide),λh=>absurd h (by decide)⟩
 rw [kV] at hw;refine ⟨_,_,_,hw,?_,_,w,sl,D,⟨tr,1,k,0⟩,al,l,false,q,ow,G,st,sm,rfl,?_,rfl⟩
 ·exact Prod.Lex.right _ (Prod.Lex.right _ (Prod.Lex.right _ (Prod.Lex.right _ (by simp))))
 ·rw [show t ++ #[] = t by simp];exact S.qN hM ⟨λh=>absurd h (by simp),λh=>absurd h (by simp)⟩ (λh=>absurd h (by simp)) (λh=>absurd h (by simp)) λ_ b hb _=>afU.2
end
section
variable [Payload] [av] {v0:World} {g3:Goroutine} {mw:Nat} {zt:Value}
theorem cj.YB (S:cj P ty Wg said gJ base gs w t D mm al l false q ow G st sm) (hk:al[k]? = some (1,s)) (h0:gs[0]? = some g) (hm:mm = ⟨Za,0,0,0⟩) (BP:df v u) (VMu:VM Wg ow l al G w u) (hsa:av.SA G F v) (hpm:∀ b,F b->fq b) (hl:jr l = 0)
 (sf:J0 P true #[scase s.ct z z0] .send g2 g) (hway:Way P true s (MAt P ty Wg said gJ k s G F v al Za) mw (Go.Conc.served g2 undef))
 (hx:D k = ⟨tr,1,0,⟨7,0,0⟩,G0⟩) (hg:gs[base + k]? = some (parked g3 (lq s zt ze) .select)) (V:VT k s ow G1 w (gQ F0 v0 w)) (hsz:v0.heap.size <= w.heap.size) (hGo:TGo P ty Wg said k s G0 F0 v0 tr g3 zt ze) :
 ∃ m' ops μ',runT P (crowd gs w sl) 0 = (.next m',ops) /\ lX μ' (uJ base av.n D mm al.length q false) /\ nA P ty Wg said gJ base μ' m' (t ++ ops):=by
 subst hm;have⟨_,h2,hst⟩:=sf;have hpos:=S.pos;have hkl:=pP hk;have⟨⟨m,c1⟩,c2,c3⟩:=S.FF _ (ai hk);have hn:=S.now k _ hk;rw [hx] at hn;have hR:av.R k G0 G:=by
  exact s85
 have⟨hO,hxt,hVM,hvs,v',C4,nN,NO⟩:=S.toT (m:=m) hk BP VMu hsa hpm V hsz rfl;have⟨t',sK,Ly⟩:=hGo z G F v' hR C4 nN;have hsep:∀ (i j:Nat) (d:Nat),s.bT[i]? = some d->s.bT[j]? = some d->i = j:=λi j d h1 h2=>(S.sep k k _ _ hk hk i j d h1 h2).2
 have hp:partners (gs.setIfInBounds 0 ph) s.ct false = [(base + k,0)]:=by
  rw [partners_one (stand_get (by omega) hg) λy x hy0 hy=>by
   rcases getElem?_stand gs 0 y x hy with ⟨_,rfl⟩ | ⟨C5,J7⟩
   ·exact offersAt_ph _ _
   ·exact S.K6 J7 hk (i:=1) (c:=s.ct) rfl (by decide) (λe=>absurd e C5) λe=>absurd e hy0]
  rw [offersAt_parked_at (k:=0) (z:=zt) rfl λm' cc ZP XD=>by
   have:m' = 1:=by
    exact s72
   subst this;obtain rfl:rcase s.ce ze = cc:=by simpa [lq] using XD
   intro e;have e':s.ce = s.ct:=by simpa [rcase] using e
   exact absurd (hsep 2 1 s.ct (by rw [<- e']; rfl) rfl) (by decide)]
  rfl
 have hrun:=crowd_send_meets_sel (sl:=sl) h0 (hst w) c1 (by omega) hg rfl hp;rw [kV,di] at hrun;refine S.meet (n:=1) (m:=m) (h:=0) (c0:=s.ct) (F:=F) (c:=1) (c':=k + 2) (G':=G) (x':=⟨t',0,0,⟨7,0,0⟩,G⟩) (mm':=⟨Za,2,k,mw + 1⟩) hk hrun (by simp) (λy hy0 hyk=>?_) (.inl rfl) c1 rfl rfl (.inl ⟨rfl,rfl⟩) ⟨Go.Conc.served g2 undef,?_,?_⟩ ⟨Go.Conc.served g3 (commResult (lq s zt ze) .select 0 z true),?_,?_⟩
  hO hpm ⟨by decide,by omega,λk'' abK=>⟨by omega,by omega⟩⟩ hxt (λy b hy=>?_) (by decide) (show (1:Nat) ≠ 2 by decide) ⟨rfl,rfl⟩ (by rw [hx]) hl (by rw [hx]; exact (by decide:(1:Nat) ≠ 3)) (λy hy hyj=>?_) (λy hy=>?_) ?_
 ·exact s41
 ·exact s56
 ·exact s67
 ·exact s32
 ·exact .run Ly (.refl _) NO rfl
 ·rw [Cj hk] at hy
  by_cases e:y = k
  ·exact s69
  ·exact s53
 ·exact s61
 ·exact s47
 ·refine m170 ?_;exact y6 (i:=k) (bu _) (by omega) (by simp only [upd_same]; rw [hx]; exact Prod.Lex.left _ _ sK) (λi hi=>by simp only [upd_ne D _ hi])
theorem cj.R4 (S:cj P ty Wg said gJ base gs w t D mm al l false q ow G st sm) (hk:al[k]? = some (1,s)) (h0:gs[0]? = some g) (hm:mm = ⟨tr,2,k,n' + 1⟩) (QO:VM Wg ow l al G w (gQ F v w)) (hsz:v.heap.size <= w.heap.size) (hF:∀ b,F b->¬ xM Wg al b) (hl:jr l = 0)
 (hT:MAt P ty Wg said gJ k s G F v al tr g) (hmd:(D k).md = 0) :
 ∃ m' ops μ',runT P (crowd gs w sl) 0 = (.next m',ops) /\ lX μ' (uJ base av.n D mm al.length q false) /\ nA P ty Wg said gJ base μ' m' (t ++ ops):=by
 have⟨g3,z',⟨_,h3,hst⟩,hGo⟩:=hT;subst hm;have⟨_,_,c3⟩:=S.FF _ (ai hk);have hw:=crowd_waits (sl:=sl) h0 (hst w) λcc hcc=>by
  simp only [dZ,aE,aU,dj] at hcc;subst hcc;exact S.Ag hk (i:=3) rfl (by decide) c3 z' (λh=>absurd rfl h) (λ_ _=>by rw [hmd]; decide)
 rw [kV] at hw;refine ⟨_,_,_,hw,?_,_,w,sl,D,⟨tr,3,k,0⟩,al,l,false,q,ow,G,st,sm,rfl,?_,rfl⟩
 ·exact Prod.Lex.right _ (Prod.Lex.right _ (Prod.Lex.right _ (Prod.Lex.left _ _ (by simp only; omega))))
 ·rw [show t ++ #[] = t by simp];exact S.qN (.wait QO hsz hF hk hl h3 hGo) ⟨λ_=>(by decide:2 <= 3),λ_=>aA 2⟩ (λ_=>rfl) (λ_ k' a' _ e h=>by
   subst e;rw [hmd] at h; cases h) λh=>absurd h (by simp)
end
section
variable [Payload] [av] {vm:World} {g3:Goroutine} {mw:Nat} {zt:Value}
theorem cj.H3 {b:Bool} (S:cj P ty Wg said gJ base gs w t D mm al l false q ow G st sm) (hk:al[k]? = some (1,s)) (h0:gs[0]? = some g) (hm:mm = ⟨Za,2,k,n' + 1⟩) (QO:VM Wg ow l al G w (gQ F0 vm w)) (hsz:vm.heap.size <= w.heap.size) (hl:jr l = 0)
 (hT:MAt P ty Wg said gJ k s G F0 vm al Za g) (hx:D k = ⟨tr,2,0,⟨7,0,0⟩,G⟩) (hg:gs[base + k]? = some (parked g2 (ic s v0 z ze) .select)) (BP:df v u) (V:VT k s ow G w u)
 (QH:said b v0) (hsa:av.SA G' F v) (C9:av.St k v0 G G') (hpm:∀ b,F b->fq b) (va:x'.md = if b then 3 else 1) (hx2:x'.wd.stage = 7 /\ x'.wd.deaf = 0) (hx3:b = false->x'.G = G')
 (hT':∀ w' ow',VT k s ow' G w' (gQ F v w')->v.heap.size <= w'.heap.size->(∀ b,F b->¬ xT s b)->WgLive ty Wg w'->Has av.C k (av.tv k) w'->k < av.n->Be P ty Wg said k s ow' w' x' (Go.Conc.served g2 (commResult (ic s v0 z ze) .select 0 undef false))) :
 ∃ m' ops μ',runT P (crowd gs w sl) 0 = (.next m',ops) /\ lX μ' (uJ base av.n D mm al.length q false) /\ nA P ty Wg said gJ base μ' m' (t ++ ops):=by
 have⟨g3,z',⟨_,h3,hst⟩,hgo⟩:=hT;subst hm;have hpos:=S.pos;have hkl:=pP hk;have⟨⟨m1,c1⟩,⟨m2,c2⟩,⟨m,c3⟩⟩:=S.FF _ (ai hk);have⟨hO,hxt,NO,Xx,v',C4,nN,hVM⟩:=S.toM (m:=m) (n:=if b then 0 else 1) hk BP V hsa hpm QO hsz rfl;have⟨t',sK,Ly⟩:=hgo b v0 G' F v' QH C9 C4 nN hxt;have hsep:∀ (i j:Nat) (d:Nat),s.bT[i]? = some d->s.bT[j]? = some d->i = j:=λi j d h1 h2=>(S.sep k k _ _ hk hk i j d h1 h2).2
 have hp:partners (gs.setIfInBounds 0 ph) s.cs true = [(base + k,0)]:=by
  rw [partners_one (stand_get (by omega) hg) λy x hy0 hy=>by
   rcases getElem?_stand gs 0 y x hy with ⟨_,rfl⟩ | ⟨C5,J7⟩
   ·exact offersAt_ph _ _
   ·exact S.K6 J7 hk (i:=3) (c:=s.cs) rfl (by decide) (λe=>absurd e C5) λe=>absurd e hy0]
  rw [D4 (k:=0) (v:=v0) (z:=z) rfl λm' cc ZP XD=>by
   have:m' = 1:=by
    exact s73
   subst this;obtain rfl:rcase s.ce ze = cc:=by simpa [ic] using XD
   intro e;have e':s.ce = s.cs:=by simpa [rcase] using e
   exact absurd (hsep 2 3 s.cs (by rw [<- e']; rfl) rfl) (by decide)]
  rfl
 have hrun:=Ct (sl:=sl) h0 (hst w) c3 (by omega) hg rfl hp;rw [kV,di] at hrun;refine S.meet (n:=if b then 0 else 1) (m:=m) (j:=0) (c0:=s.cs) (F:=F) (c:=k + 2) (c':=1) (G':=G') (x':=x') (mm':=⟨t',0,0,0⟩) hk hrun (by simp) (λy hy0 hyk=>?_) (.inr rfl) c3 rfl rfl (.inr ⟨rfl,rfl⟩) ⟨Go.Conc.served g3 v0,?_,?_⟩ ⟨Go.Conc.served g2 (commResult (ic s v0 z ze) .select 0 undef false),?_,?_⟩
  hO hpm ⟨by omega,by decide,λk'' abK=>⟨by omega,by omega⟩⟩ hxt (λy b' hy=>?_) (by cases b <;> decide) (show (1:Nat) ≠ 2 by decide) hx2 (by rw [hx]) hl (by rw [hx]; exact (by decide:(2:Nat) ≠ 3)) (λy hy hyj=>?_) (λy hy=>?_) ?_
 ·exact s41
 ·exact s56
 ·exact .hold Ly (.refl _) hVM rfl (λe=>by cases e)
 ·exact s32
 ·have hcW:=(S.rn _ (ai hk) s.cs (by simp [aC.bT])).2.2.2;have hcC:s.cs ≠ av.C:=λe=>by
   exact s68
  have hkn:k < av.n:=by have:=S.wf.le; omega
  exact hT' _ _ NO (by simpa [World.setChan] using Xx) (λb hb e=>hxt b hb (.inr ⟨(1,s),ai hk,ng e⟩)) ⟨st,sm,(heap_setChan_ne w _ _ _ _ _ _ hcW).trans S.wg⟩
   (by have:=S.has k hkn; simp only [Has,World.cell?,heap_setChan_ne w _ _ _ _ _ _ hcC] at this ⊢; exact this) hkn
 ·have⟨a0,e1,e2,e3,e4⟩:=rK hk hy
  by_cases e:y = k
  ·exact s34
  ·exact s35
 ·rcases hy with ⟨h,_⟩ | ⟨y',h1,h2,h3⟩
  ·exact absurd h hyj
  ·refine .inr ⟨y',h1,h2,?_⟩;have e:y' ≠ k:=λe=>by rw [e,hx] at h3; cases h3
   rw [upd_ne D _ e]; exact h3
 ·exact s47
 ·exact Prod.Lex.right _ (Prod.Lex.left _ _ sK)
end
end Go.Gx
