/- Part. -/
import Derived.Test.YtjanhajdmhalaaaGreatRows
import Derived.Test.YtjanhajdmhalaaaGreatHxZ
set_option linter.unusedVariables false
set_option linter.unusedSimpArgs false
set_option linter.unusedSectionVars false
namespace Go.Gx
open Go Go.RowKit
section
variable {α β γ:Type} {P:Program}
variable {K:Ctx} {F:Fr} {L:List Res} {g:Bool} {Q:Exit→Act→World→Prop} {N:Act→World→Prop} {ops:Array Oper} {rest:List Oper}
  {op:Op} {ty t t':TypeId} {pos:String} {af:Array Edge} {d:Nat} {x y z:Operand} {v:Value}
theorem co (h:Ev P K F L true op ty v) (next:Sat K (wpList P K ops Q rest) ((d,true,v) :: F) L) (hd:Nat.blt d K.n = true:=by rfl):Sat K (wpList P K ops Q (⟨some d,op,ty,pos,af,none⟩ :: rest)) F L:=cons (opv h next hd)
theorem mv {s:Nat} (h:look F s = some (true,v)) (next:Sat K (wpList P K ops Q rest) ((d,true,v) :: F) L) (hd:Nat.blt d K.n = true:=by rfl):Sat K (wpList P K ops Q (⟨some d,.move (.tmp s),ty,pos,af,none⟩ :: rest)) F L:=cons (opv (Ev.move (.t h)) next hd)
theorem asn {s:Nat} (h:look F s = some (true,v)) (next:Sat K (wpList P K ops Q rest) ((d,true,v) :: F) L) (hd:Nat.blt d K.n = true:=by rfl):Sat K (wpList P K ops Q (⟨some d,.assign (.tmp s),ty,pos,af,none⟩ :: rest)) F L:=cons (opv (Ev.assign (.t h)) next hd)
theorem sg {id:Nat} {l:List Oper} {y:Code} (h:Sat K (wpList P K l.toArray (Exit.then (y.wpK P K Q) Q) l) F L):Sat K ((Code.seq (Code.region id l.toArray false) y).wpK P K Q) F L:=seq (region h)
theorem nP (h:Sat K N F L):Sat K (wpList P K ops (Exit.then N Q) []) F L:=nil (pN h)
theorem cg {j tg:Nat} {want c1 c2:Bool} (hj:(ops[j]?).bind (·.dst) = some tg) (hg:look F tg = some (c1,.bool c2))
    (h:Ev P K F L (c1 && (c2 == want)) op ty v) (next:Sat K (wpList P K ops Q rest) ((d,(c1 && (c2 == want)),v) :: F) L) (hd:Nat.blt d K.n = true:=by rfl) :
    Sat K (wpList P K ops Q (⟨some d,op,ty,pos,af,some (j,want)⟩ :: rest)) F L:=cons (opg hj hg h next hd)
theorem Ev.pkA {s:Nat} {b c gz:Bool} (hx:Opd F g x (.bool b)) (hy:look F s = some (gz,.bool c)) (hgz:g = true→b = true→gz = true:=by intro h1 h; first | (rw [h] <;> rfl) | (rw [h1,h] <;> rfl) | (rw [h,h1] <;> rfl) | simp_all) :
    Ev P K F L g (.pick x (.tmp s) (.const (.bool false))) ty (.bool (b && c)):=Ev.pickA hx (fun {_} h=>by cases h; exact hy) ⟨_,rfl⟩ hgz (.c rfl)
theorem Ev.pkO {s:Nat} {b c gz:Bool} (hx:Opd F g x (.bool b)) (hy:look F s = some (gz,.bool c)) (hgz:g = true→b = false→gz = true:=by intro h1 h; first | (rw [h] <;> rfl) | (rw [h1,h] <;> rfl) | (rw [h,h1] <;> rfl) | simp_all) :
    Ev P K F L g (.pick x (.const (.bool true)) (.tmp s)) ty (.bool (b || c)):=Ev.pickO hx (.c rfl) (fun {_} h=>by cases h; exact hy) ⟨_,rfl⟩ hgz
theorem io {E:Enc α} {v:Value} {xs:List α} {T:TypeId} (w:World) (h:bh K L w) (hm:aP v E xs T ∈ L:=by repeat first | exact mH | apply mT | apply mA):bH E w v xs:=gf hm w h
theorem am {r:Res} (w:World) (I:bh K L w) (h:r ∈ L:=by repeat first | exact mH | apply mT | apply mA):At r w:=at_mem h w I
theorem fA (o:Nat) {b off s f:Nat} (hx:Opd F g x (.pointer (some ⟨b,off,none⟩)))
    (hf:(P.underlying s).bind (fun d=>match d with | .struct fs=>(fs[f]?).bind (fun fd=>(P.info? fd.type).map (fun i=>(fd.offset,Nat.beq i.size 0))) | _=>none) = some (o,false):=by kernel_rfl) :
    Ev P K F L g (.fieldAddr s x f) ty (.pointer (some ⟨b,off + o,none⟩)):=Ev.fieldAddr hx hf
theorem en0 {f:FuncId} {fn:Func} {c:Code} {args:Array Value} {w:World} {R:dg} (n:Nat)
    (hf:P.funcs[f]? = some fn) (h:∀ X fr,Sat ⟨n,w,R.M,⟨X,fr,none⟩⟩ (c.wpX P ⟨X,fr,none⟩ (pmC w R.M) (bodyPost P ⟨n,w,R.M,⟨X,fr,none⟩⟩ fn R)) (dz :: iW 0 args.toList) []) (hb:fn.body = some c:=by rfl) (hn:fn.ntmps = n:=by rfl) (hsz:args.size ≤ n:=by exact Nat.le_of_ble_eq_true rfl) (hn2:Nat.ble n 1000000 = true:=by rfl):Calls P f args w R:=pz n hf hb hn hsz h hn2
theorem zf {E:Enc α} {v:Value} {xs:List α} (h:∀ w,bh K L w→bH E w v xs:=by first | exact gf (by repeat first | exact mH | apply mT | apply mA) | exact fun w I=>bH.aT (by assumption) I.keeps):∀ w,bh K L w→bH E w v xs:=h
end
theorem zm {p:Prop} (h:p:=by repeat first | exact mH | apply mT | apply mA):p:=h
theorem zr {p:Prop} (h:p:=by repeat first | exact Rem.head | apply Rem.tail):p:=h
theorem zu {p:Prop} (h:p:=by repeat first | exact Upd.head | apply Upd.tail | apply Upd.right):p:=h
theorem zs {p:Prop} (h:p:=by repeat first | exact sR | exact sN | apply sC | apply sS | apply sA):p:=h
theorem zl {p:Prop} (h:p:=by simp only [List.length_append,List.length_cons,List.length_nil]; omega):p:=h
theorem zk {p:Prop} (h:p:=by kernel_rfl):p:=h
theorem zo {p:Prop} (h:p:=by omega):p:=h
end Go.Gx
namespace Go.Proofs.YtjanhajdmhalaaaGreat
open Go Go.Gx
structure a7 where
  v6:Bool
  b:(Vector UInt8 16)
def a7.to:(Bool × (Vector UInt8 16))→a7:=fun x=>⟨x.1,x.2⟩
def a7.of:a7→(Bool × (Vector UInt8 16)):=fun x=>(x.v6,x.b)
def bP:Enc a7:=iH (aa bE (dS 16 u8E)) a7.to a7.of
def a7.kI:ak bP bE 0:=cP _ a7.to a7.of (fun _=>rfl) (dF bE (dS 16 u8E))
@[simp] theorem a7.get_v6 (x:a7):a7.kI.get x = x.v6:=rfl
@[simp] theorem a7.set_v6 (x:a7) (y:Bool):a7.kI.set x y = { x with v6:=y }:=rfl
def a7.l_b:ak bP (dS 16 u8E) 1:=cP _ a7.to a7.of (fun _=>rfl) (ak.comp (bg bE (dS 16 u8E)) (ak.id (dS 16 u8E)))
@[simp] theorem a7.get_b (x:a7):a7.l_b.get x = x.b:=rfl
@[simp] theorem a7.set_b (x:a7) (y:(Vector UInt8 16)):a7.l_b.set x y = { x with b:=y }:=rfl
structure aq where
  addr:a7
  bits:Int
def aq.to:(a7 × Int)→aq:=fun x=>⟨x.1,x.2⟩
def aq.of:aq→(a7 × Int):=fun x=>(x.addr,x.bits)
def aH:Enc aq:=iH (aa bP iE) aq.to aq.of
def aq.dE:ak aH bP 0:=cP _ aq.to aq.of (fun _=>rfl) (dF bP iE)
@[simp] theorem aq.get_addr (x:aq):aq.dE.get x = x.addr:=rfl
@[simp] theorem aq.set_addr (x:aq) (y:a7):aq.dE.set x y = { x with addr:=y }:=rfl
def aq.ea:ak aH iE 17:=cP _ aq.to aq.of (fun _=>rfl) (ak.comp (bg bP iE) (ak.id iE))
@[simp] theorem aq.get_bits (x:aq):aq.ea.get x = x.bits:=rfl
@[simp] theorem aq.set_bits (x:aq) (y:Int):aq.ea.set x y = { x with bits:=y }:=rfl
structure aU where
  to_:aq
  out:Int
def aU.to:(aq × Int)→aU:=fun x=>⟨x.1,x.2⟩
def aU.of:aU→(aq × Int):=fun x=>(x.to_,x.out)
def aA:Enc aU:=iH (aa aH iE) aU.to aU.of
def aU.dW:ak aA aH 0:=cP _ aU.to aU.of (fun _=>rfl) (dF aH iE)
@[simp] theorem aU.get_to_ (x:aU):aU.dW.get x = x.to_:=rfl
@[simp] theorem aU.set_to_ (x:aU) (y:aq):aU.dW.set x y = { x with to_:=y }:=rfl
def aU.dj:ak aA iE 18:=cP _ aU.to aU.of (fun _=>rfl) (ak.comp (bg aH iE) (ak.id iE))
@[simp] theorem aU.get_out (x:aU):aU.dj.get x = x.out:=rfl
@[simp] theorem aU.set_out (x:aU) (y:Int):aU.dj.set x y = { x with out:=y }:=rfl
structure a9 where
  num:UInt64
  den:UInt64
  mV:UInt64
def a9.to:(UInt64 × (UInt64 × UInt64))→a9:=fun x=>⟨x.1,x.2.1,x.2.2⟩
def a9.of:a9→(UInt64 × (UInt64 × UInt64)):=fun x=>(x.num,x.den,x.mV)
def fE:Enc a9:=iH (aa jc (aa jc jc)) a9.to a9.of
def a9.l_num:ak fE jc 0:=cP _ a9.to a9.of (fun _=>rfl) (dF jc (aa jc jc))
@[simp] theorem a9.get_num (x:a9):a9.l_num.get x = x.num:=rfl
@[simp] theorem a9.set_num (x:a9) (y:UInt64):a9.l_num.set x y = { x with num:=y }:=rfl
def a9.l_den:ak fE jc 1:=cP _ a9.to a9.of (fun _=>rfl) (ak.comp (bg jc (aa jc jc)) (dF jc jc))
@[simp] theorem a9.get_den (x:a9):a9.l_den.get x = x.den:=rfl
@[simp] theorem a9.set_den (x:a9) (y:UInt64):a9.l_den.set x y = { x with den:=y }:=rfl
def a9.mI:ak fE jc 2:=cP _ a9.to a9.of (fun _=>rfl) (ak.comp (bg jc (aa jc jc)) (ak.comp (bg jc jc) (ak.id jc)))
@[simp] theorem a9.get_burst (x:a9):a9.mI.get x = x.mV:=rfl
@[simp] theorem a9.set_burst (x:a9) (y:UInt64):a9.mI.set x y = { x with mV:=y }:=rfl
structure aJ where
  name:ByteArray
  bucket:a9
def aJ.to:(ByteArray × a9)→aJ:=fun x=>⟨x.1,x.2⟩
def aJ.of:aJ→(ByteArray × a9):=fun x=>(x.name,x.bucket)
def ai:Enc aJ:=iH (aa sE fE) aJ.to aJ.of
def aJ.cN:ak ai sE 0:=cP _ aJ.to aJ.of (fun _=>rfl) (dF sE fE)
@[simp] theorem aJ.get_name (x:aJ):aJ.cN.get x = x.name:=rfl
@[simp] theorem aJ.set_name (x:aJ) (y:ByteArray):aJ.cN.set x y = { x with name:=y }:=rfl
def aJ.mJ:ak ai fE 1:=cP _ aJ.to aJ.of (fun _=>rfl) (ak.comp (bg sE fE) (ak.id fE))
@[simp] theorem aJ.get_bucket (x:aJ):aJ.mJ.get x = x.bucket:=rfl
@[simp] theorem aJ.set_bucket (x:aJ) (y:a9):aJ.mJ.set x y = { x with bucket:=y }:=rfl
structure aD where
  name:ByteArray
  out:Int
  room:Int
def aD.to:(ByteArray × (Int × Int))→aD:=fun x=>⟨x.1,x.2.1,x.2.2⟩
def aD.of:aD→(ByteArray × (Int × Int)):=fun x=>(x.name,x.out,x.room)
def ae:Enc aD:=iH (aa sE (aa iE iE)) aD.to aD.of
def aD.cN:ak ae sE 0:=cP _ aD.to aD.of (fun _=>rfl) (dF sE (aa iE iE))
@[simp] theorem aD.get_name (x:aD):aD.cN.get x = x.name:=rfl
@[simp] theorem aD.set_name (x:aD) (y:ByteArray):aD.cN.set x y = { x with name:=y }:=rfl
def aD.dj:ak ae iE 1:=cP _ aD.to aD.of (fun _=>rfl) (ak.comp (bg sE (aa iE iE)) (dF iE iE))
@[simp] theorem aD.get_out (x:aD):aD.dj.get x = x.out:=rfl
@[simp] theorem aD.set_out (x:aD) (y:Int):aD.dj.set x y = { x with out:=y }:=rfl
def aD.l8:ak ae iE 2:=cP _ aD.to aD.of (fun _=>rfl) (ak.comp (bg sE (aa iE iE)) (ak.comp (bg iE iE) (ak.id iE)))
@[simp] theorem aD.get_room (x:aD):aD.l8.get x = x.room:=rfl
@[simp] theorem aD.set_room (x:aD) (y:Int):aD.l8.set x y = { x with room:=y }:=rfl
structure bK where
  from_:UInt16
  to_:UInt16
def bK.to:(UInt16 × UInt16)→bK:=fun x=>⟨x.1,x.2⟩
def bK.of:bK→(UInt16 × UInt16):=fun x=>(x.from_,x.to_)
def bB:Enc bK:=iH (aa cd cd) bK.to bK.of
def bK.iG:ak bB cd 0:=cP _ bK.to bK.of (fun _=>rfl) (dF cd cd)
@[simp] theorem bK.get_from_ (x:bK):bK.iG.get x = x.from_:=rfl
@[simp] theorem bK.set_from_ (x:bK) (y:UInt16):bK.iG.set x y = { x with from_:=y }:=rfl
def bK.dW:ak bB cd 1:=cP _ bK.to bK.of (fun _=>rfl) (ak.comp (bg cd cd) (ak.id cd))
@[simp] theorem bK.get_to_ (x:bK):bK.dW.get x = x.to_:=rfl
@[simp] theorem bK.set_to_ (x:bK) (y:UInt16):bK.dW.set x y = { x with to_:=y }:=rfl
structure aB where
  asks:UInt8
  in_:bK
  src:aq
  dst:aq
  bj:UInt8
  bx:bK
  bm:bK
def aB.to:(UInt8 × (bK × (aq × (aq × (UInt8 × (bK × bK))))))→aB:=fun x=>⟨x.1,x.2.1,x.2.2.1,x.2.2.2.1,x.2.2.2.2.1,x.2.2.2.2.2.1,x.2.2.2.2.2.2⟩
def aB.of:aB→(UInt8 × (bK × (aq × (aq × (UInt8 × (bK × bK)))))):=fun x=>(x.asks,x.in_,x.src,x.dst,x.bj,x.bx,x.bm)
def ay:Enc aB:=iH (aa u8E (aa bB (aa aH (aa aH (aa u8E (aa bB bB)))))) aB.to aB.of
def aB.eI:ak ay u8E 0:=cP _ aB.to aB.of (fun _=>rfl) (dF u8E (aa bB (aa aH (aa aH (aa u8E (aa bB bB))))))
@[simp] theorem aB.get_asks (x:aB):aB.eI.get x = x.asks:=rfl
@[simp] theorem aB.set_asks (x:aB) (y:UInt8):aB.eI.set x y = { x with asks:=y }:=rfl
def aB.jF:ak ay bB 1:=cP _ aB.to aB.of (fun _=>rfl) (ak.comp (bg u8E (aa bB (aa aH (aa aH (aa u8E (aa bB bB)))))) (dF bB (aa aH (aa aH (aa u8E (aa bB bB))))))
@[simp] theorem aB.get_in_ (x:aB):aB.jF.get x = x.in_:=rfl
@[simp] theorem aB.set_in_ (x:aB) (y:bK):aB.jF.set x y = { x with in_:=y }:=rfl
def aB.ee:ak ay aH 3:=cP _ aB.to aB.of (fun _=>rfl) (ak.comp (bg u8E (aa bB (aa aH (aa aH (aa u8E (aa bB bB)))))) (ak.comp (bg bB (aa aH (aa aH (aa u8E (aa bB bB))))) (dF aH (aa aH (aa u8E (aa bB bB))))))
@[simp] theorem aB.get_src (x:aB):aB.ee.get x = x.src:=rfl
@[simp] theorem aB.set_src (x:aB) (y:aq):aB.ee.set x y = { x with src:=y }:=rfl
def aB.iA:ak ay aH 21:=cP _ aB.to aB.of (fun _=>rfl) (ak.comp (bg u8E (aa bB (aa aH (aa aH (aa u8E (aa bB bB)))))) (ak.comp (bg bB (aa aH (aa aH (aa u8E (aa bB bB))))) (ak.comp (bg aH (aa aH (aa u8E (aa bB bB)))) (dF aH (aa u8E (aa bB bB))))))
@[simp] theorem aB.get_dst (x:aB):aB.iA.get x = x.dst:=rfl
@[simp] theorem aB.set_dst (x:aB) (y:aq):aB.iA.set x y = { x with dst:=y }:=rfl
def aB.dH:ak ay u8E 39:=cP _ aB.to aB.of (fun _=>rfl) (ak.comp (bg u8E (aa bB (aa aH (aa aH (aa u8E (aa bB bB)))))) (ak.comp (bg bB (aa aH (aa aH (aa u8E (aa bB bB))))) (ak.comp (bg aH (aa aH (aa u8E (aa bB bB)))) (ak.comp (bg aH (aa u8E (aa bB bB))) (dF u8E (aa bB bB))))))
@[simp] theorem aB.get_proto (x:aB):aB.dH.get x = x.bj:=rfl
@[simp] theorem aB.set_proto (x:aB) (y:UInt8):aB.dH.set x y = { x with bj:=y }:=rfl
def aB.da:ak ay bB 40:=cP _ aB.to aB.of (fun _=>rfl) (ak.comp (bg u8E (aa bB (aa aH (aa aH (aa u8E (aa bB bB)))))) (ak.comp (bg bB (aa aH (aa aH (aa u8E (aa bB bB))))) (ak.comp (bg aH (aa aH (aa u8E (aa bB bB)))) (ak.comp (bg aH (aa u8E (aa bB bB))) (ak.comp (bg u8E (aa bB bB)) (dF bB bB))))))
@[simp] theorem aB.get_srcPort (x:aB):aB.da.get x = x.bx:=rfl
@[simp] theorem aB.set_srcPort (x:aB) (y:bK):aB.da.set x y = { x with bx:=y }:=rfl
def aB.cS:ak ay bB 42:=cP _ aB.to aB.of (fun _=>rfl) (ak.comp (bg u8E (aa bB (aa aH (aa aH (aa u8E (aa bB bB)))))) (ak.comp (bg bB (aa aH (aa aH (aa u8E (aa bB bB))))) (ak.comp (bg aH (aa aH (aa u8E (aa bB bB)))) (ak.comp (bg aH (aa u8E (aa bB bB))) (ak.comp (bg u8E (aa bB bB)) (ak.comp (bg bB bB) (ak.id bB)))))))
@[simp] theorem aB.get_dstPort (x:aB):aB.cS.get x = x.bm:=rfl
@[simp] theorem aB.set_dstPort (x:aB) (y:bK):aB.cS.set x y = { x with bm:=y }:=rfl
structure aO where
  name:ByteArray
  cX:aB
  action:Int
  out:Int
  fx:ByteArray
  dZ:ByteArray
def aO.to:(ByteArray × (aB × (Int × (Int × (ByteArray × ByteArray)))))→aO:=fun x=>⟨x.1,x.2.1,x.2.2.1,x.2.2.2.1,x.2.2.2.2.1,x.2.2.2.2.2⟩
def aO.of:aO→(ByteArray × (aB × (Int × (Int × (ByteArray × ByteArray))))):=fun x=>(x.name,x.cX,x.action,x.out,x.fx,x.dZ)
def aG:Enc aO:=iH (aa sE (aa ay (aa iE (aa iE (aa sE sE))))) aO.to aO.of
def aO.cN:ak aG sE 0:=cP _ aO.to aO.of (fun _=>rfl) (dF sE (aa ay (aa iE (aa iE (aa sE sE)))))
@[simp] theorem aO.get_name (x:aO):aO.cN.get x = x.name:=rfl
@[simp] theorem aO.set_name (x:aO) (y:ByteArray):aO.cN.set x y = { x with name:=y }:=rfl
def aO.cV:ak aG ay 1:=cP _ aO.to aO.of (fun _=>rfl) (ak.comp (bg sE (aa ay (aa iE (aa iE (aa sE sE))))) (dF ay (aa iE (aa iE (aa sE sE)))))
@[simp] theorem aO.get_match_ (x:aO):aO.cV.get x = x.cX:=rfl
@[simp] theorem aO.set_match_ (x:aO) (y:aB):aO.cV.set x y = { x with cX:=y }:=rfl
def aO.bZ:ak aG iE 45:=cP _ aO.to aO.of (fun _=>rfl) (ak.comp (bg sE (aa ay (aa iE (aa iE (aa sE sE))))) (ak.comp (bg ay (aa iE (aa iE (aa sE sE)))) (dF iE (aa iE (aa sE sE)))))
@[simp] theorem aO.get_action (x:aO):aO.bZ.get x = x.action:=rfl
@[simp] theorem aO.set_action (x:aO) (y:Int):aO.bZ.set x y = { x with action:=y }:=rfl
def aO.dj:ak aG iE 46:=cP _ aO.to aO.of (fun _=>rfl) (ak.comp (bg sE (aa ay (aa iE (aa iE (aa sE sE))))) (ak.comp (bg ay (aa iE (aa iE (aa sE sE)))) (ak.comp (bg iE (aa iE (aa sE sE))) (dF iE (aa sE sE)))))
@[simp] theorem aO.get_out (x:aO):aO.dj.get x = x.out:=rfl
@[simp] theorem aO.set_out (x:aO) (y:Int):aO.dj.set x y = { x with out:=y }:=rfl
def aO.eL:ak aG sE 47:=cP _ aO.to aO.of (fun _=>rfl) (ak.comp (bg sE (aa ay (aa iE (aa iE (aa sE sE))))) (ak.comp (bg ay (aa iE (aa iE (aa sE sE)))) (ak.comp (bg iE (aa iE (aa sE sE))) (ak.comp (bg iE (aa sE sE)) (dF sE sE)))))
@[simp] theorem aO.get_meter (x:aO):aO.eL.get x = x.fx:=rfl
@[simp] theorem aO.set_meter (x:aO) (y:ByteArray):aO.eL.set x y = { x with fx:=y }:=rfl
def aO.dI:ak aG sE 48:=cP _ aO.to aO.of (fun _=>rfl) (ak.comp (bg sE (aa ay (aa iE (aa iE (aa sE sE))))) (ak.comp (bg ay (aa iE (aa iE (aa sE sE)))) (ak.comp (bg iE (aa iE (aa sE sE))) (ak.comp (bg iE (aa sE sE)) (ak.comp (bg sE sE) (ak.id sE))))))
@[simp] theorem aO.get_mirror (x:aO):aO.dI.get x = x.dZ:=rfl
@[simp] theorem aO.set_mirror (x:aO) (y:ByteArray):aO.dI.set x y = { x with dZ:=y }:=rfl
theorem ty5:bF Tryz.prog 5 u8E:=bF.mk' zk zk
def a7.eqb (x y:a7):Bool:=eqd x.v6 y.v6 && ((eqA 16 eqd) x.b y.b && (true))
theorem a7.bQ (x y:a7):a7.eqb x y = true ↔ x = y:=by
  obtain ⟨a0,a1⟩:=x
  obtain ⟨b0,b1⟩:=y
  simp only [a7.eqb,Bool.and_eq_true,dA,(eqA_iff dA),a7.mk.injEq,and_true]
theorem ty40:bF Tryz.prog 40 (dS 16 u8E):=bF.mk' zk zk
theorem ty4:bF Tryz.prog 4 bE:=bF.mk' zk zk
theorem eqok42:iy Tryz.prog 42 bP a7.eqb 3:=jl (fs:=_) Tryz.underlying42 zk rfl (EqF.cons (by decide) rfl a7.kI ty4 (iy.up (eqok_b Tryz.underlying4) (by decide)) (EqF.cons (by decide) rfl a7.l_b ty40 (pj Tryz.underlying40 ty5 (eqok_u8 Tryz.underlying5)) EqF.nil)) (fun _ _=>rfl)
instance:DecidableEq a7:=fun x y=>decidable_of_iff (a7.eqb x y = true) (a7.bQ x y)
@[simp] theorem a7.iI (x y:a7):a7.eqb x y = decide (x = y):=by
  rw [Bool.eq_iff_iff,decide_eq_true_iff]
  exact a7.bQ x y
def aq.eqb (x y:aq):Bool:=a7.eqb x.addr y.addr && (eqd x.bits y.bits && (true))
theorem aq.bQ (x y:aq):aq.eqb x y = true ↔ x = y:=by
  obtain ⟨a0,a1⟩:=x
  obtain ⟨b0,b1⟩:=y
  simp only [aq.eqb,Bool.and_eq_true,a7.bQ,dA,aq.mk.injEq,and_true]
theorem ty3:bF Tryz.prog 3 iE:=bF.mk' zk zk
theorem fF:bF Tryz.prog 42 bP:=bF.mk' zk zk
theorem kK:iy Tryz.prog 84 aH aq.eqb 4:=jl (fs:=_) Tryz.underlying84 zk rfl (EqF.cons (by decide) rfl aq.dE fF eqok42 (EqF.cons (by decide) rfl aq.ea ty3 (iy.up (me Tryz.underlying3) (by decide)) EqF.nil)) (fun _ _=>rfl)
instance:DecidableEq aq:=fun x y=>decidable_of_iff (aq.eqb x y = true) (aq.bQ x y)
@[simp] theorem aq.iI (x y:aq):aq.eqb x y = decide (x = y):=by
  rw [Bool.eq_iff_iff,decide_eq_true_iff]
  exact aq.bQ x y
def aU.eqb (x y:aU):Bool:=aq.eqb x.to_ y.to_ && (eqd x.out y.out && (true))
theorem aU.bQ (x y:aU):aU.eqb x y = true ↔ x = y:=by
  obtain ⟨a0,a1⟩:=x
  obtain ⟨b0,b1⟩:=y
  simp only [aU.eqb,Bool.and_eq_true,aq.bQ,dA,aU.mk.injEq,and_true]
theorem cW:bF Tryz.prog 84 aH:=bF.mk' zk zk
instance:DecidableEq aU:=fun x y=>decidable_of_iff (aU.eqb x y = true) (aU.bQ x y)
@[simp] theorem aU.iI (x y:aU):aU.eqb x y = decide (x = y):=by
  rw [Bool.eq_iff_iff,decide_eq_true_iff]
  exact aU.bQ x y
def a9.eqb (x y:a9):Bool:=eqd x.num y.num && (eqd x.den y.den && (eqd x.mV y.mV && (true)))
theorem a9.bQ (x y:a9):a9.eqb x y = true ↔ x = y:=by
  obtain ⟨a0,a1,a2⟩:=x
  obtain ⟨b0,b1,b2⟩:=y
  simp only [a9.eqb,Bool.and_eq_true,dA,dA,dA,a9.mk.injEq,and_true]
theorem ty71:bF Tryz.prog 71 jc:=bF.mk' zk zk
instance:DecidableEq a9:=fun x y=>decidable_of_iff (a9.eqb x y = true) (a9.bQ x y)
@[simp] theorem a9.iI (x y:a9):a9.eqb x y = decide (x = y):=by
  rw [Bool.eq_iff_iff,decide_eq_true_iff]
  exact a9.bQ x y
def aJ.eqb (x y:aJ):Bool:=eqs x.name y.name && (a9.eqb x.bucket y.bucket && (true))
theorem aJ.bQ (x y:aJ):aJ.eqb x y = true ↔ x = y:=by
  obtain ⟨a0,a1⟩:=x
  obtain ⟨b0,b1⟩:=y
  simp only [aJ.eqb,Bool.and_eq_true,gN,a9.bQ,aJ.mk.injEq,and_true]
theorem ty73:bF Tryz.prog 73 fE:=bF.mk' zk zk
theorem ty9:bF Tryz.prog 9 sE:=bF.mk' zk zk
instance:DecidableEq aJ:=fun x y=>decidable_of_iff (aJ.eqb x y = true) (aJ.bQ x y)
@[simp] theorem aJ.iI (x y:aJ):aJ.eqb x y = decide (x = y):=by
  rw [Bool.eq_iff_iff,decide_eq_true_iff]
  exact aJ.bQ x y
def aD.eqb (x y:aD):Bool:=eqs x.name y.name && (eqd x.out y.out && (eqd x.room y.room && (true)))
theorem aD.bQ (x y:aD):aD.eqb x y = true ↔ x = y:=by
  obtain ⟨a0,a1,a2⟩:=x
  obtain ⟨b0,b1,b2⟩:=y
  simp only [aD.eqb,Bool.and_eq_true,gN,dA,dA,aD.mk.injEq,and_true]
instance:DecidableEq aD:=fun x y=>decidable_of_iff (aD.eqb x y = true) (aD.bQ x y)
@[simp] theorem aD.iI (x y:aD):aD.eqb x y = decide (x = y):=by
  rw [Bool.eq_iff_iff,decide_eq_true_iff]
  exact aD.bQ x y
def bK.eqb (x y:bK):Bool:=eqd x.from_ y.from_ && (eqd x.to_ y.to_ && (true))
theorem bK.bQ (x y:bK):bK.eqb x y = true ↔ x = y:=by
  obtain ⟨a0,a1⟩:=x
  obtain ⟨b0,b1⟩:=y
  simp only [bK.eqb,Bool.and_eq_true,dA,dA,bK.mk.injEq,and_true]
theorem gE:bF Tryz.prog 43 cd:=bF.mk' zk zk
theorem eqok82:iy Tryz.prog 82 bB bK.eqb 2:=jl (fs:=_) Tryz.underlying82 zk rfl (EqF.cons (by decide) rfl bK.iG gE (eqok_u16 Tryz.underlying43) (EqF.cons (by decide) rfl bK.dW gE (eqok_u16 Tryz.underlying43) EqF.nil)) (fun _ _=>rfl)
instance:DecidableEq bK:=fun x y=>decidable_of_iff (bK.eqb x y = true) (bK.bQ x y)
@[simp] theorem bK.iI (x y:bK):bK.eqb x y = decide (x = y):=by
  rw [Bool.eq_iff_iff,decide_eq_true_iff]
  exact bK.bQ x y
def aB.eqb (x y:aB):Bool:=eqd x.asks y.asks && (bK.eqb x.in_ y.in_ && (aq.eqb x.src y.src && (aq.eqb x.dst y.dst && (eqd x.bj y.bj && (bK.eqb x.bx y.bx && (bK.eqb x.bm y.bm && (true)))))))
theorem aB.bQ (x y:aB):aB.eqb x y = true ↔ x = y:=by
  obtain ⟨a0,a1,a2,a3,a4,a5,a6⟩:=x
  obtain ⟨b0,b1,b2,b3,b4,b5,b6⟩:=y
  simp only [aB.eqb,Bool.and_eq_true,dA,bK.bQ,aq.bQ,aq.bQ,dA,bK.bQ,bK.bQ,aB.mk.injEq,and_true]
theorem ty82:bF Tryz.prog 82 bB:=bF.mk' zk zk
instance:DecidableEq aB:=fun x y=>decidable_of_iff (aB.eqb x y = true) (aB.bQ x y)
@[simp] theorem aB.iI (x y:aB):aB.eqb x y = decide (x = y):=by
  rw [Bool.eq_iff_iff,decide_eq_true_iff]
  exact aB.bQ x y
def aO.eqb (x y:aO):Bool:=eqs x.name y.name && (aB.eqb x.cX y.cX && (eqd x.action y.action && (eqd x.out y.out && (eqs x.fx y.fx && (eqs x.dZ y.dZ && (true))))))
theorem aO.bQ (x y:aO):aO.eqb x y = true ↔ x = y:=by
  obtain ⟨a0,a1,a2,a3,a4,a5⟩:=x
  obtain ⟨b0,b1,b2,b3,b4,b5⟩:=y
  simp only [aO.eqb,Bool.and_eq_true,gN,aB.bQ,dA,dA,gN,gN,aO.mk.injEq,and_true]
theorem gU:bF Tryz.prog 86 ay:=bF.mk' zk zk
instance:DecidableEq aO:=fun x y=>decidable_of_iff (aO.eqb x y = true) (aO.bQ x y)
@[simp] theorem aO.iI (x y:aO):aO.eqb x y = decide (x = y):=by
  rw [Bool.eq_iff_iff,decide_eq_true_iff]
  exact aO.bQ x y
theorem ck42:mY Tryz.prog 42 bP 3:=ck_struct Tryz.underlying42 rfl (CkF.cons (by decide) rfl a7.kI ty4 ((ck_b Tryz.underlying4).up (by decide)) (CkF.cons (by decide) rfl a7.l_b ty40 (ck_arr Tryz.underlying40 ty5 (ck_int u8E (fun _=>rfl) Tryz.underlying5)) CkF.nil))
theorem ck84:mY Tryz.prog 84 aH 4:=ck_struct Tryz.underlying84 rfl (CkF.cons (by decide) rfl aq.dE fF ck42 (CkF.cons (by decide) rfl aq.ea ty3 ((ck_int iE (fun _=>rfl) Tryz.underlying3).up (by decide)) CkF.nil))
theorem key84:jO Tryz.prog 84 aH aq.eqb:=key_agg rfl kK (by decide) ck84 (by decide) (bit_iso (bit_prod (bit_iso (bit_prod bit_b (bit_arr (bit_int u8E (fun _=>rfl))))) (bit_int iE (fun _=>rfl)))) aq.bQ
theorem key3:jO Tryz.prog 3 iE eqd:=key_i Tryz.underlying3
theorem mL:jO Tryz.prog 9 sE eqs:=key_s Tryz.underlying9
def ca {α κ:Type} (q:κ→κ→Bool) (f:α→κ) (l:List α):Nat→List (κ × Int)
  | 0=>[]
  | n + 1=>match l[n]? with
    | none=>ca q f l n
    | some x=>if (cM q (f x) (ca q f l n)).isSome then ca q f l n else jB q (f x) (n:Int) (ca q f l n)
theorem firstN_has {α κ:Type} (q:κ→κ→Bool) (f:α→κ) (l:List α) (z:α) {n:Nat} (h:n < l.length) (hs:(cM q (f (l.getD n z)) (ca q f l n)).isSome = true):ca q f l (n + 1) = ca q f l n:=by
  have e:l[n]? = some (l.getD n z):=by simp [List.getD,List.getElem?_eq_getElem h]
  rw [ca,e]
  simp only [hs,if_true]
theorem firstN_new {α κ:Type} (q:κ→κ→Bool) (f:α→κ) (l:List α) (z:α) {n:Nat} (h:n < l.length) (hs:¬ (cM q (f (l.getD n z)) (ca q f l n)).isSome = true):ca q f l (n + 1) = jB q (f (l.getD n z)) (n:Int) (ca q f l n):=by
  have e:l[n]? = some (l.getD n z):=by simp [List.getD,List.getElem?_eq_getElem h]
  rw [ca,e]
  simp only [hs,Bool.false_eq_true,if_false]
theorem eC {α κ:Type} (q:κ→κ→Bool) (f:α→κ) (l:List α) (z:α) {i:Int} (h:0 ≤ i ∧ i < l.length) (hs:(cM q (f (l.getD i.toNat z)) (ca q f l i.toNat)).isSome = true):ca q f l (i + 1).toNat = ca q f l i.toNat:=by
  have e:(i + 1).toNat = i.toNat + 1:=by omega
  rw [e]
  exact firstN_has q f l z (by omega) hs
theorem eB {α κ:Type} (q:κ→κ→Bool) (f:α→κ) (l:List α) (z:α) {i:Int} (h:0 ≤ i ∧ i < l.length) (hs:(cM q (f (l.getD i.toNat z)) (ca q f l i.toNat)).isSome = false):ca q f l (i + 1).toNat = jB q (f (l.getD i.toNat z)) i (ca q f l i.toNat):=by
  have e:(i + 1).toNat = i.toNat + 1:=by omega
  have e2:((i.toNat:Nat):Int) = i:=by omega
  rw [e,firstN_new q f l z (by omega) (by rw [hs]; exact Bool.false_ne_true),e2]
theorem de:bF Tryz.prog 111 aA:=bF.mk' zk zk
theorem eO:(Tryz.prog.info? 111).bind (·.zero) = some (aA.val aA.zero):=by kernel_rfl
theorem z3:(Tryz.prog.info? 3).bind (·.zero) = some (iE.val iE.zero):=by kernel_rfl
theorem first_84_111 (f:Nat) (cap:List Value) (kf:aU→aq) (u:Value) (xs:List aU) (w:World) (hen:aC Tryz.prog f) (hl:bH aA w u xs) (hk:nV Tryz.prog f cap bO w aA aH (fun _=>True) kf):Gx.Calls Tryz.prog 94 #[u,(clo f cap).v] w (ja w (fun _:Nat=>True) (fun b=>.map (some b)) (fun b=>[dn b aH iE (ca aq.eqb kf xs xs.length)])):=by
  have hle:=hl.le
  refine en0 35 Tryz.func94 (fun _ _=>?_)
  refine sg (co (Ev.assign (.c (v:=(Go.Value.map none)) rfl)) ?_)
  refine nP (sg (cons (makeMap (E:=aH) (V:=iE) (fun b1=>?_))))
  refine asn rfl (nP (seq (sg (mv rfl (co (Ev.len Tryz.underlying23 (.t rfl) zf) ?_)))))
  refine co (Ev.move (.c (v:=I 0) rfl)) ?_
  refine nP (block (lp (X:=Int) (fun x:Int=>(0 ≤ x ∧ x ≤ xs.length)) (fun x:Int=>[dz,(1,true,(clo f cap).v),(5,true,.map (some b1)),(11,true,u),(12,true,I xs.length),(13,true,I x)]) (fun x:Int=>[dn b1 aH iE (ca aq.eqb kf xs x.toNat)]) (fun x:Int=>((xs.length:Int) - x).toNat) (0) ?_ (fun x hx=>?_)))
  · omega
  obtain ⟨i,rfl⟩:∃ y,y = x:=⟨x,rfl⟩
  have hi:0 ≤ i ∧ i ≤ xs.length:=hx
  clear hx
  show Sat _ _ [dz,(1,true,(clo f cap).v),(5,true,.map (some b1)),(11,true,u),(12,true,I xs.length),(13,true,I i)] [dn b1 aH iE (ca aq.eqb kf xs i.toNat)]
  refine sg (co (Ev.dx (.t rfl) (.t rfl)) ?_)
  refine nP (seq ?_)
  first | refine aL rfl (fun h0=>?_) (fun h0=>?_) | refine cond rfl (fun h0=>?_) (fun h0=>?_)
  · try simp only [Gx.nb] at h0
    refine skip (pN (seq (block (sg (mv rfl (co (Ev.indexAddr Tryz.underlying23 de (.t rfl) (.t rfl) (fun w I=>hl.aT I.keeps) (fun _=>zo)) ?_))))))
    refine co (Ev.dp de (.t rfl) (fun w I=>hl.aT I.keeps) (fun _=>zo)) ?_
    refine cons (alloc eO (fun b2=>?_))
    refine asn rfl (cons (stv de (ak.id _) (.t rfl) (.t rfl) ?_))
    refine nP (sg (mv rfl (mv rfl (co (Ev.ldv de (.t rfl) (ak.id _)) ?_))))
    refine cons (fL (.t rfl) hen (.cons (.t rfl) .nil) (fun w I=>hk.call trivial w I) ?_)
    refine co (Ev.iF Tryz.underlying155 Tryz.underlying84 key84 z3 (.t rfl) (.t rfl) (fun _=>(by first | exact dL (by repeat first | exact mH | apply mT | apply mA) | exact jh (by repeat first | exact mH | apply mT | apply mA) | exact fun w I=>fR.aT (by assumption) I.keeps))) ?_
    refine mv rfl (co (Ev.extract (.t rfl) rfl) (co (Ev.extract (.t rfl) rfl) (asn rfl (asn rfl (nP (sg (mv rfl (co (Ev.not (.t rfl)) ?_))))))))
    refine nP ?_
    first | refine aL rfl (fun h1=>?_) (fun h1=>?_) | refine cond rfl (fun h1=>?_) (fun h1=>?_)
    · try simp only [Gx.nb] at h1
      refine region (mv rfl (mv rfl (co (Ev.ldv de (.t rfl) (ak.id _)) ?_)))
      refine cons (fL (.t rfl) hen (.cons (.t rfl) .nil) (fun w I=>hk.call trivial w I) ?_)
      refine mv rfl (cons (mapUpdate Tryz.underlying155 Tryz.underlying84 key84 (.t rfl) (.t rfl) (.t rfl) zu ?_))
      refine nil (bN (pN (region (co (Ev.a8 (.t rfl) (.c (v:=I 1) rfl) (fun _=>zo)) ?_))))
      refine mv rfl (nP (nx (X:=Int) (i + 1) ?_ ?_ (hL:=(by (first | rw [eC _ _ _ aA.zero (by omega) h1] | rw [eB _ _ _ aA.zero (by omega) h1]); exact zs))))
      · try dsimp only
        omega
      · try dsimp only
        first | omega | (simp; omega)
    · try simp only [Gx.nb] at h1
      refine skip (bN (pN (region (co (Ev.a8 (.t rfl) (.c (v:=I 1) rfl) (fun _=>zo)) ?_))))
      refine mv rfl (nP (nx (X:=Int) (i + 1) ?_ ?_ (hL:=(by (first | rw [eC _ _ _ aA.zero (by omega) h1] | rw [eB _ _ _ aA.zero (by omega) h1]); exact zs))))
      · try dsimp only
        omega
      · try dsimp only
        first | omega | (simp; omega)
  · try simp only [Gx.nb] at h0
    refine exit (pX (pX (bX (pN (sg (mv rfl (asn rfl (nP (ret (done rfl (.tmp rfl .nil) (fun w I=>?_)))))))))))
    have hil:i.toNat = xs.length:=by omega
    rw [hil] at I
    exact nQ b1 trivial rfl zs w I
theorem first_3_3 (f:Nat) (cap:List Value) (kf:Int→Int) (u:Value) (xs:List Int) (w:World) (hen:aC Tryz.prog f) (hl:bH iE w u xs) (hk:nV Tryz.prog f cap bO w iE iE (fun _=>True) kf):Gx.Calls Tryz.prog 92 #[u,(clo f cap).v] w (ja w (fun _:Nat=>True) (fun b=>.map (some b)) (fun b=>[dn b iE iE (ca eqd kf xs xs.length)])):=by
  have hle:=hl.le
  refine en0 35 Tryz.func92 (fun _ _=>?_)
  refine sg (co (Ev.assign (.c (v:=(Go.Value.map none)) rfl)) ?_)
  refine nP (sg (cons (makeMap (E:=iE) (V:=iE) (fun b1=>?_))))
  refine asn rfl (nP (seq (sg (mv rfl (co (Ev.len Tryz.underlying22 (.t rfl) zf) ?_)))))
  refine co (Ev.move (.c (v:=I 0) rfl)) ?_
  refine nP (block (lp (X:=Int) (fun x:Int=>(0 ≤ x ∧ x ≤ xs.length)) (fun x:Int=>[dz,(1,true,(clo f cap).v),(5,true,.map (some b1)),(11,true,u),(12,true,I xs.length),(13,true,I x)]) (fun x:Int=>[dn b1 iE iE (ca eqd kf xs x.toNat)]) (fun x:Int=>((xs.length:Int) - x).toNat) (0) ?_ (fun x hx=>?_)))
  · omega
  obtain ⟨i,rfl⟩:∃ y,y = x:=⟨x,rfl⟩
  have hi:0 ≤ i ∧ i ≤ xs.length:=hx
  clear hx
  show Sat _ _ [dz,(1,true,(clo f cap).v),(5,true,.map (some b1)),(11,true,u),(12,true,I xs.length),(13,true,I i)] [dn b1 iE iE (ca eqd kf xs i.toNat)]
  refine sg (co (Ev.dx (.t rfl) (.t rfl)) ?_)
  refine nP (seq ?_)
  first | refine aL rfl (fun h0=>?_) (fun h0=>?_) | refine cond rfl (fun h0=>?_) (fun h0=>?_)
  · try simp only [Gx.nb] at h0
    refine skip (pN (seq (block (sg (mv rfl (co (Ev.indexAddr Tryz.underlying22 ty3 (.t rfl) (.t rfl) (fun w I=>hl.aT I.keeps) (fun _=>zo)) ?_))))))
    refine co (Ev.dp ty3 (.t rfl) (fun w I=>hl.aT I.keeps) (fun _=>zo)) ?_
    refine asn rfl (asn rfl (nP (sg (mv rfl (mv rfl (mv rfl (cons (fL (.t rfl) hen (.cons (.t rfl) .nil) (fun w I=>hk.call trivial w I) ?_))))))))
    refine co (Ev.iF Tryz.underlying154 Tryz.underlying3 key3 z3 (.t rfl) (.t rfl) (fun _=>(by first | exact dL (by repeat first | exact mH | apply mT | apply mA) | exact jh (by repeat first | exact mH | apply mT | apply mA) | exact fun w I=>fR.aT (by assumption) I.keeps))) ?_
    refine mv rfl (co (Ev.extract (.t rfl) rfl) (co (Ev.extract (.t rfl) rfl) (asn rfl (asn rfl (nP (sg (mv rfl (co (Ev.not (.t rfl)) ?_))))))))
    refine nP ?_
    first | refine aL rfl (fun h1=>?_) (fun h1=>?_) | refine cond rfl (fun h1=>?_) (fun h1=>?_)
    · try simp only [Gx.nb] at h1
      refine region (mv rfl (mv rfl (mv rfl (cons (fL (.t rfl) hen (.cons (.t rfl) .nil) (fun w I=>hk.call trivial w I) ?_)))))
      refine mv rfl (cons (mapUpdate Tryz.underlying154 Tryz.underlying3 key3 (.t rfl) (.t rfl) (.t rfl) zu ?_))
      refine nil (bN (pN (region (co (Ev.a8 (.t rfl) (.c (v:=I 1) rfl) (fun _=>zo)) ?_))))
      refine mv rfl (nP (nx (X:=Int) (i + 1) ?_ ?_ (hL:=(by (first | rw [eC _ _ _ iE.zero (by omega) h1] | rw [eB _ _ _ iE.zero (by omega) h1]); exact zs))))
      · try dsimp only
        omega
      · try dsimp only
        first | omega | (simp; omega)
    · try simp only [Gx.nb] at h1
      refine skip (bN (pN (region (co (Ev.a8 (.t rfl) (.c (v:=I 1) rfl) (fun _=>zo)) ?_))))
      refine mv rfl (nP (nx (X:=Int) (i + 1) ?_ ?_ (hL:=(by (first | rw [eC _ _ _ iE.zero (by omega) h1] | rw [eB _ _ _ iE.zero (by omega) h1]); exact zs))))
      · try dsimp only
        omega
      · try dsimp only
        first | omega | (simp; omega)
  · try simp only [Gx.nb] at h0
    refine exit (pX (pX (bX (pN (sg (mv rfl (asn rfl (nP (ret (done rfl (.tmp rfl .nil) (fun w I=>?_)))))))))))
    have hil:i.toNat = xs.length:=by omega
    rw [hil] at I
    exact nQ b1 trivial rfl zs w I
theorem gp:bF Tryz.prog 88 aG:=bF.mk' zk zk
theorem z88:(Tryz.prog.info? 88).bind (·.zero) = some (aG.val aG.zero):=by kernel_rfl
theorem first_9_88 (f:Nat) (cap:List Value) (kf:aO→ByteArray) (u:Value) (xs:List aO) (w:World) (hen:aC Tryz.prog f) (hl:bH aG w u xs) (hk:nV Tryz.prog f cap bO w aG sE (fun _=>True) kf):Gx.Calls Tryz.prog 96 #[u,(clo f cap).v] w (ja w (fun _:Nat=>True) (fun b=>.map (some b)) (fun b=>[dn b sE iE (ca eqs kf xs xs.length)])):=by
  have hle:=hl.le
  refine en0 35 Tryz.func96 (fun _ _=>?_)
  refine sg (co (Ev.assign (.c (v:=(Go.Value.map none)) rfl)) ?_)
  refine nP (sg (cons (makeMap (E:=sE) (V:=iE) (fun b1=>?_))))
  refine asn rfl (nP (seq (sg (mv rfl (co (Ev.len Tryz.underlying24 (.t rfl) zf) ?_)))))
  refine co (Ev.move (.c (v:=I 0) rfl)) ?_
  refine nP (block (lp (X:=Int) (fun x:Int=>(0 ≤ x ∧ x ≤ xs.length)) (fun x:Int=>[dz,(1,true,(clo f cap).v),(5,true,.map (some b1)),(11,true,u),(12,true,I xs.length),(13,true,I x)]) (fun x:Int=>[dn b1 sE iE (ca eqs kf xs x.toNat)]) (fun x:Int=>((xs.length:Int) - x).toNat) (0) ?_ (fun x hx=>?_)))
  · omega
  obtain ⟨i,rfl⟩:∃ y,y = x:=⟨x,rfl⟩
  have hi:0 ≤ i ∧ i ≤ xs.length:=hx
  clear hx
  show Sat _ _ [dz,(1,true,(clo f cap).v),(5,true,.map (some b1)),(11,true,u),(12,true,I xs.length),(13,true,I i)] [dn b1 sE iE (ca eqs kf xs i.toNat)]
  refine sg (co (Ev.dx (.t rfl) (.t rfl)) ?_)
  refine nP (seq ?_)
  first | refine aL rfl (fun h0=>?_) (fun h0=>?_) | refine cond rfl (fun h0=>?_) (fun h0=>?_)
  · try simp only [Gx.nb] at h0
    refine skip (pN (seq (block (sg (mv rfl (co (Ev.indexAddr Tryz.underlying24 gp (.t rfl) (.t rfl) (fun w I=>hl.aT I.keeps) (fun _=>zo)) ?_))))))
    refine co (Ev.dp gp (.t rfl) (fun w I=>hl.aT I.keeps) (fun _=>zo)) ?_
    refine cons (alloc z88 (fun b2=>?_))
    refine asn rfl (cons (stv gp (ak.id _) (.t rfl) (.t rfl) ?_))
    refine nP (sg (mv rfl (mv rfl (co (Ev.ldv gp (.t rfl) (ak.id _)) ?_))))
    refine cons (fL (.t rfl) hen (.cons (.t rfl) .nil) (fun w I=>hk.call trivial w I) ?_)
    refine co (Ev.iF Tryz.underlying70 Tryz.underlying9 mL z3 (.t rfl) (.t rfl) (fun _=>(by first | exact dL (by repeat first | exact mH | apply mT | apply mA) | exact jh (by repeat first | exact mH | apply mT | apply mA) | exact fun w I=>fR.aT (by assumption) I.keeps))) ?_
    refine mv rfl (co (Ev.extract (.t rfl) rfl) (co (Ev.extract (.t rfl) rfl) (asn rfl (asn rfl (nP (sg (mv rfl (co (Ev.not (.t rfl)) ?_))))))))
    refine nP ?_
    first | refine aL rfl (fun h1=>?_) (fun h1=>?_) | refine cond rfl (fun h1=>?_) (fun h1=>?_)
    · try simp only [Gx.nb] at h1
      refine region (mv rfl (mv rfl (co (Ev.ldv gp (.t rfl) (ak.id _)) ?_)))
      refine cons (fL (.t rfl) hen (.cons (.t rfl) .nil) (fun w I=>hk.call trivial w I) ?_)
      refine mv rfl (cons (mapUpdate Tryz.underlying70 Tryz.underlying9 mL (.t rfl) (.t rfl) (.t rfl) zu ?_))
      refine nil (bN (pN (region (co (Ev.a8 (.t rfl) (.c (v:=I 1) rfl) (fun _=>zo)) ?_))))
      refine mv rfl (nP (nx (X:=Int) (i + 1) ?_ ?_ (hL:=(by (first | rw [eC _ _ _ aG.zero (by omega) h1] | rw [eB _ _ _ aG.zero (by omega) h1]); exact zs))))
      · try dsimp only
        omega
      · try dsimp only
        first | omega | (simp; omega)
    · try simp only [Gx.nb] at h1
      refine skip (bN (pN (region (co (Ev.a8 (.t rfl) (.c (v:=I 1) rfl) (fun _=>zo)) ?_))))
      refine mv rfl (nP (nx (X:=Int) (i + 1) ?_ ?_ (hL:=(by (first | rw [eC _ _ _ aG.zero (by omega) h1] | rw [eB _ _ _ aG.zero (by omega) h1]); exact zs))))
      · try dsimp only
        omega
      · try dsimp only
        first | omega | (simp; omega)
  · try simp only [Gx.nb] at h0
    refine exit (pX (pX (bX (pN (sg (mv rfl (asn rfl (nP (ret (done rfl (.tmp rfl .nil) (fun w I=>?_)))))))))))
    have hil:i.toNat = xs.length:=by omega
    rw [hil] at I
    exact nQ b1 trivial rfl zs w I
theorem eH:bF Tryz.prog 75 ai:=bF.mk' zk zk
theorem z75:(Tryz.prog.info? 75).bind (·.zero) = some (ai.val ai.zero):=by kernel_rfl
theorem first_9_75 (f:Nat) (cap:List Value) (kf:aJ→ByteArray) (u:Value) (xs:List aJ) (w:World) (hen:aC Tryz.prog f) (hl:bH ai w u xs) (hk:nV Tryz.prog f cap bO w ai sE (fun _=>True) kf):Gx.Calls Tryz.prog 98 #[u,(clo f cap).v] w (ja w (fun _:Nat=>True) (fun b=>.map (some b)) (fun b=>[dn b sE iE (ca eqs kf xs xs.length)])):=by
  have hle:=hl.le
  refine en0 35 Tryz.func98 (fun _ _=>?_)
  refine sg (co (Ev.assign (.c (v:=(Go.Value.map none)) rfl)) ?_)
  refine nP (sg (cons (makeMap (E:=sE) (V:=iE) (fun b1=>?_))))
  refine asn rfl (nP (seq (sg (mv rfl (co (Ev.len Tryz.underlying25 (.t rfl) zf) ?_)))))
  refine co (Ev.move (.c (v:=I 0) rfl)) ?_
  refine nP (block (lp (X:=Int) (fun x:Int=>(0 ≤ x ∧ x ≤ xs.length)) (fun x:Int=>[dz,(1,true,(clo f cap).v),(5,true,.map (some b1)),(11,true,u),(12,true,I xs.length),(13,true,I x)]) (fun x:Int=>[dn b1 sE iE (ca eqs kf xs x.toNat)]) (fun x:Int=>((xs.length:Int) - x).toNat) (0) ?_ (fun x hx=>?_)))
  · omega
  obtain ⟨i,rfl⟩:∃ y,y = x:=⟨x,rfl⟩
  have hi:0 ≤ i ∧ i ≤ xs.length:=hx
  clear hx
  show Sat _ _ [dz,(1,true,(clo f cap).v),(5,true,.map (some b1)),(11,true,u),(12,true,I xs.length),(13,true,I i)] [dn b1 sE iE (ca eqs kf xs i.toNat)]
  refine sg (co (Ev.dx (.t rfl) (.t rfl)) ?_)
  refine nP (seq ?_)
  first | refine aL rfl (fun h0=>?_) (fun h0=>?_) | refine cond rfl (fun h0=>?_) (fun h0=>?_)
  · try simp only [Gx.nb] at h0
    refine skip (pN (seq (block (sg (mv rfl (co (Ev.indexAddr Tryz.underlying25 eH (.t rfl) (.t rfl) (fun w I=>hl.aT I.keeps) (fun _=>zo)) ?_))))))
    refine co (Ev.dp eH (.t rfl) (fun w I=>hl.aT I.keeps) (fun _=>zo)) ?_
    refine cons (alloc z75 (fun b2=>?_))
    refine asn rfl (cons (stv eH (ak.id _) (.t rfl) (.t rfl) ?_))
    refine nP (sg (mv rfl (mv rfl (co (Ev.ldv eH (.t rfl) (ak.id _)) ?_))))
    refine cons (fL (.t rfl) hen (.cons (.t rfl) .nil) (fun w I=>hk.call trivial w I) ?_)
    refine co (Ev.iF Tryz.underlying70 Tryz.underlying9 mL z3 (.t rfl) (.t rfl) (fun _=>(by first | exact dL (by repeat first | exact mH | apply mT | apply mA) | exact jh (by repeat first | exact mH | apply mT | apply mA) | exact fun w I=>fR.aT (by assumption) I.keeps))) ?_
    refine mv rfl (co (Ev.extract (.t rfl) rfl) (co (Ev.extract (.t rfl) rfl) (asn rfl (asn rfl (nP (sg (mv rfl (co (Ev.not (.t rfl)) ?_))))))))
    refine nP ?_
    first | refine aL rfl (fun h1=>?_) (fun h1=>?_) | refine cond rfl (fun h1=>?_) (fun h1=>?_)
    · try simp only [Gx.nb] at h1
      refine region (mv rfl (mv rfl (co (Ev.ldv eH (.t rfl) (ak.id _)) ?_)))
      refine cons (fL (.t rfl) hen (.cons (.t rfl) .nil) (fun w I=>hk.call trivial w I) ?_)
      refine mv rfl (cons (mapUpdate Tryz.underlying70 Tryz.underlying9 mL (.t rfl) (.t rfl) (.t rfl) zu ?_))
      refine nil (bN (pN (region (co (Ev.a8 (.t rfl) (.c (v:=I 1) rfl) (fun _=>zo)) ?_))))
      refine mv rfl (nP (nx (X:=Int) (i + 1) ?_ ?_ (hL:=(by (first | rw [eC _ _ _ ai.zero (by omega) h1] | rw [eB _ _ _ ai.zero (by omega) h1]); exact zs))))
      · try dsimp only
        omega
      · try dsimp only
        first | omega | (simp; omega)
    · try simp only [Gx.nb] at h1
      refine skip (bN (pN (region (co (Ev.a8 (.t rfl) (.c (v:=I 1) rfl) (fun _=>zo)) ?_))))
      refine mv rfl (nP (nx (X:=Int) (i + 1) ?_ ?_ (hL:=(by (first | rw [eC _ _ _ ai.zero (by omega) h1] | rw [eB _ _ _ ai.zero (by omega) h1]); exact zs))))
      · try dsimp only
        omega
      · try dsimp only
        first | omega | (simp; omega)
  · try simp only [Gx.nb] at h0
    refine exit (pX (pX (bX (pN (sg (mv rfl (asn rfl (nP (ret (done rfl (.tmp rfl .nil) (fun w I=>?_)))))))))))
    have hil:i.toNat = xs.length:=by omega
    rw [hil] at I
    exact nQ b1 trivial rfl zs w I
theorem eG:bF Tryz.prog 77 ae:=bF.mk' zk zk
theorem z77:(Tryz.prog.info? 77).bind (·.zero) = some (ae.val ae.zero):=by kernel_rfl
theorem first_9_77 (f:Nat) (cap:List Value) (kf:aD→ByteArray) (u:Value) (xs:List aD) (w:World) (hen:aC Tryz.prog f) (hl:bH ae w u xs) (hk:nV Tryz.prog f cap bO w ae sE (fun _=>True) kf):Gx.Calls Tryz.prog 100 #[u,(clo f cap).v] w (ja w (fun _:Nat=>True) (fun b=>.map (some b)) (fun b=>[dn b sE iE (ca eqs kf xs xs.length)])):=by
  have hle:=hl.le
  refine en0 35 Tryz.func100 (fun _ _=>?_)
  refine sg (co (Ev.assign (.c (v:=(Go.Value.map none)) rfl)) ?_)
  refine nP (sg (cons (makeMap (E:=sE) (V:=iE) (fun b1=>?_))))
  refine asn rfl (nP (seq (sg (mv rfl (co (Ev.len Tryz.underlying26 (.t rfl) zf) ?_)))))
  refine co (Ev.move (.c (v:=I 0) rfl)) ?_
  refine nP (block (lp (X:=Int) (fun x:Int=>(0 ≤ x ∧ x ≤ xs.length)) (fun x:Int=>[dz,(1,true,(clo f cap).v),(5,true,.map (some b1)),(11,true,u),(12,true,I xs.length),(13,true,I x)]) (fun x:Int=>[dn b1 sE iE (ca eqs kf xs x.toNat)]) (fun x:Int=>((xs.length:Int) - x).toNat) (0) ?_ (fun x hx=>?_)))
  · omega
  obtain ⟨i,rfl⟩:∃ y,y = x:=⟨x,rfl⟩
  have hi:0 ≤ i ∧ i ≤ xs.length:=hx
  clear hx
  show Sat _ _ [dz,(1,true,(clo f cap).v),(5,true,.map (some b1)),(11,true,u),(12,true,I xs.length),(13,true,I i)] [dn b1 sE iE (ca eqs kf xs i.toNat)]
  refine sg (co (Ev.dx (.t rfl) (.t rfl)) ?_)
  refine nP (seq ?_)
  first | refine aL rfl (fun h0=>?_) (fun h0=>?_) | refine cond rfl (fun h0=>?_) (fun h0=>?_)
  · try simp only [Gx.nb] at h0
    refine skip (pN (seq (block (sg (mv rfl (co (Ev.indexAddr Tryz.underlying26 eG (.t rfl) (.t rfl) (fun w I=>hl.aT I.keeps) (fun _=>zo)) ?_))))))
    refine co (Ev.dp eG (.t rfl) (fun w I=>hl.aT I.keeps) (fun _=>zo)) ?_
    refine cons (alloc z77 (fun b2=>?_))
    refine asn rfl (cons (stv eG (ak.id _) (.t rfl) (.t rfl) ?_))
    refine nP (sg (mv rfl (mv rfl (co (Ev.ldv eG (.t rfl) (ak.id _)) ?_))))
    refine cons (fL (.t rfl) hen (.cons (.t rfl) .nil) (fun w I=>hk.call trivial w I) ?_)
    refine co (Ev.iF Tryz.underlying70 Tryz.underlying9 mL z3 (.t rfl) (.t rfl) (fun _=>(by first | exact dL (by repeat first | exact mH | apply mT | apply mA) | exact jh (by repeat first | exact mH | apply mT | apply mA) | exact fun w I=>fR.aT (by assumption) I.keeps))) ?_
    refine mv rfl (co (Ev.extract (.t rfl) rfl) (co (Ev.extract (.t rfl) rfl) (asn rfl (asn rfl (nP (sg (mv rfl (co (Ev.not (.t rfl)) ?_))))))))
    refine nP ?_
    first | refine aL rfl (fun h1=>?_) (fun h1=>?_) | refine cond rfl (fun h1=>?_) (fun h1=>?_)
    · try simp only [Gx.nb] at h1
      refine region (mv rfl (mv rfl (co (Ev.ldv eG (.t rfl) (ak.id _)) ?_)))
      refine cons (fL (.t rfl) hen (.cons (.t rfl) .nil) (fun w I=>hk.call trivial w I) ?_)
      refine mv rfl (cons (mapUpdate Tryz.underlying70 Tryz.underlying9 mL (.t rfl) (.t rfl) (.t rfl) zu ?_))
      refine nil (bN (pN (region (co (Ev.a8 (.t rfl) (.c (v:=I 1) rfl) (fun _=>zo)) ?_))))
      refine mv rfl (nP (nx (X:=Int) (i + 1) ?_ ?_ (hL:=(by (first | rw [eC _ _ _ ae.zero (by omega) h1] | rw [eB _ _ _ ae.zero (by omega) h1]); exact zs))))
      · try dsimp only
        omega
      · try dsimp only
        first | omega | (simp; omega)
    · try simp only [Gx.nb] at h1
      refine skip (bN (pN (region (co (Ev.a8 (.t rfl) (.c (v:=I 1) rfl) (fun _=>zo)) ?_))))
      refine mv rfl (nP (nx (X:=Int) (i + 1) ?_ ?_ (hL:=(by (first | rw [eC _ _ _ ae.zero (by omega) h1] | rw [eB _ _ _ ae.zero (by omega) h1]); exact zs))))
      · try dsimp only
        omega
      · try dsimp only
        first | omega | (simp; omega)
  · try simp only [Gx.nb] at h0
    refine exit (pX (pX (bX (pN (sg (mv rfl (asn rfl (nP (ret (done rfl (.tmp rfl .nil) (fun w I=>?_)))))))))))
    have hil:i.toNat = xs.length:=by omega
    rw [hil] at I
    exact nQ b1 trivial rfl zs w I
theorem zb3:(Tryz.prog.info? 3).map (fun i=>(i.zero,i.bytes)) = some (some (iE.val iE.zero),8):=by kernel_rfl
theorem zs3:(iE.val iE.zero).cells.size = iE.size:=by rw [Enc.cK,List.size_toArray,Enc.len]
theorem clone_3 (u:Value) (xs:List Int) (w:World) (hl:bH iE w u xs) (hn:xs.length * 8 ≤ 140737488355328):Gx.Calls Tryz.prog 27 #[u] w (RetO w iE xs 3):=by
  have hle:=hl.le
  have hl2:=hl
  obtain ⟨sa,cap,rfl,hc1,hc2,hc3,hc4⟩:=hl2
  replace hc3:sa = none→[] = xs:=fun e=>(hc3 e).1.symm
  refine en0 8 Tryz.func27 (fun _ _=>?_)
  refine sg (co (Ev.assign (.c (v:=(Go.Value.slice none 0 0)) rfl)) ?_)
  refine nP (seq (sg (mv rfl (co (Ev.jK Tryz.underlying22 (.t rfl) (.c rfl)) ?_))))
  refine nP ?_
  first | refine aL rfl (fun h0=>?_) (fun h0=>?_) | refine cond rfl (fun h0=>?_) (fun h0=>?_)
  · try simp only [Gx.nb] at h0
    refine sg (fB iE 3 ?_)
    refine co (Ev.assign (.c (v:=(Go.Value.slice none 0 0)) rfl)) ?_
    refine nP (ret (pR (done rfl (.tmp rfl .nil) (kv zm ?_))))
    first | exact hc3 (by simpa using h0) | (symm; exact hc3 (by simpa using h0))
  · try simp only [Gx.nb] at h0
    refine skip (pN (sg (cons (buildSlice (E:=iE) Tryz.underlying22 ty3 z3 .nil rfl rfl (fun v1=>?_)))))
    refine mv rfl (cons (app (E:=iE) Tryz.underlying22 ty3 zb3 zs3 (.t rfl) (.t rfl) (fun v2=>?_) (hsrc:=(fun w I=>hl.aT I.keeps)) (hby:=⟨by (show _ ≤ 9223372036854775807); first | omega | (simp; done) | (simp; omega),by first | omega | (simp; done) | (simp; omega)⟩)))
    refine asn rfl (nP (ret (done rfl (.tmp rfl .nil) (kv zm ?_))))
    simp
theorem zb111:(Tryz.prog.info? 111).map (fun i=>(i.zero,i.bytes)) = some (some (aA.val aA.zero),40):=by kernel_rfl
theorem zs111:(aA.val aA.zero).cells.size = aA.size:=by rw [Enc.cK,List.size_toArray,Enc.len]
theorem clone_111 (u:Value) (xs:List aU) (w:World) (hl:bH aA w u xs) (hn:xs.length * 40 ≤ 140737488355328):Gx.Calls Tryz.prog 28 #[u] w (RetO w aA xs 111):=by
  have hle:=hl.le
  have hl2:=hl
  obtain ⟨sa,cap,rfl,hc1,hc2,hc3,hc4⟩:=hl2
  replace hc3:sa = none→[] = xs:=fun e=>(hc3 e).1.symm
  refine en0 8 Tryz.func28 (fun _ _=>?_)
  refine sg (co (Ev.assign (.c (v:=(Go.Value.slice none 0 0)) rfl)) ?_)
  refine nP (seq (sg (mv rfl (co (Ev.jK Tryz.underlying23 (.t rfl) (.c rfl)) ?_))))
  refine nP ?_
  first | refine aL rfl (fun h0=>?_) (fun h0=>?_) | refine cond rfl (fun h0=>?_) (fun h0=>?_)
  · try simp only [Gx.nb] at h0
    refine sg (fB aA 111 ?_)
    refine co (Ev.assign (.c (v:=(Go.Value.slice none 0 0)) rfl)) ?_
    refine nP (ret (pR (done rfl (.tmp rfl .nil) (kv zm ?_))))
    first | exact hc3 (by simpa using h0) | (symm; exact hc3 (by simpa using h0))
  · try simp only [Gx.nb] at h0
    refine skip (pN (sg (cons (buildSlice (E:=aA) Tryz.underlying23 de eO .nil rfl rfl (fun v1=>?_)))))
    refine mv rfl (cons (app (E:=aA) Tryz.underlying23 de zb111 zs111 (.t rfl) (.t rfl) (fun v2=>?_) (hsrc:=(fun w I=>hl.aT I.keeps)) (hby:=⟨by (show _ ≤ 9223372036854775807); first | omega | (simp; done) | (simp; omega),by first | omega | (simp; done) | (simp; omega)⟩)))
    refine asn rfl (nP (ret (done rfl (.tmp rfl .nil) (kv zm ?_))))
    simp
theorem zb88:(Tryz.prog.info? 88).map (fun i=>(i.zero,i.bytes)) = some (some (aG.val aG.zero),152):=by kernel_rfl
theorem zs88:(aG.val aG.zero).cells.size = aG.size:=by rw [Enc.cK,List.size_toArray,Enc.len]
theorem clone_88 (u:Value) (xs:List aO) (w:World) (hl:bH aG w u xs) (hn:xs.length * 152 ≤ 140737488355328):Gx.Calls Tryz.prog 29 #[u] w (RetO w aG xs 88):=by
  have hle:=hl.le
  have hl2:=hl
  obtain ⟨sa,cap,rfl,hc1,hc2,hc3,hc4⟩:=hl2
  replace hc3:sa = none→[] = xs:=fun e=>(hc3 e).1.symm
  refine en0 8 Tryz.func29 (fun _ _=>?_)
  refine sg (co (Ev.assign (.c (v:=(Go.Value.slice none 0 0)) rfl)) ?_)
  refine nP (seq (sg (mv rfl (co (Ev.jK Tryz.underlying24 (.t rfl) (.c rfl)) ?_))))
  refine nP ?_
  first | refine aL rfl (fun h0=>?_) (fun h0=>?_) | refine cond rfl (fun h0=>?_) (fun h0=>?_)
  · try simp only [Gx.nb] at h0
    refine sg (fB aG 88 ?_)
    refine co (Ev.assign (.c (v:=(Go.Value.slice none 0 0)) rfl)) ?_
    refine nP (ret (pR (done rfl (.tmp rfl .nil) (kv zm ?_))))
    first | exact hc3 (by simpa using h0) | (symm; exact hc3 (by simpa using h0))
  · try simp only [Gx.nb] at h0
    refine skip (pN (sg (cons (buildSlice (E:=aG) Tryz.underlying24 gp z88 .nil rfl rfl (fun v1=>?_)))))
    refine mv rfl (cons (app (E:=aG) Tryz.underlying24 gp zb88 zs88 (.t rfl) (.t rfl) (fun v2=>?_) (hsrc:=(fun w I=>hl.aT I.keeps)) (hby:=⟨by (show _ ≤ 9223372036854775807); first | omega | (simp; done) | (simp; omega),by first | omega | (simp; done) | (simp; omega)⟩)))
    refine asn rfl (nP (ret (done rfl (.tmp rfl .nil) (kv zm ?_))))
    simp
theorem zb75:(Tryz.prog.info? 75).map (fun i=>(i.zero,i.bytes)) = some (some (ai.val ai.zero),40):=by kernel_rfl
theorem zs75:(ai.val ai.zero).cells.size = ai.size:=by rw [Enc.cK,List.size_toArray,Enc.len]
theorem clone_75 (u:Value) (xs:List aJ) (w:World) (hl:bH ai w u xs) (hn:xs.length * 40 ≤ 140737488355328):Gx.Calls Tryz.prog 30 #[u] w (RetO w ai xs 75):=by
  have hle:=hl.le
  have hl2:=hl
  obtain ⟨sa,cap,rfl,hc1,hc2,hc3,hc4⟩:=hl2
  replace hc3:sa = none→[] = xs:=fun e=>(hc3 e).1.symm
  refine en0 8 Tryz.func30 (fun _ _=>?_)
  refine sg (co (Ev.assign (.c (v:=(Go.Value.slice none 0 0)) rfl)) ?_)
  refine nP (seq (sg (mv rfl (co (Ev.jK Tryz.underlying25 (.t rfl) (.c rfl)) ?_))))
  refine nP ?_
  first | refine aL rfl (fun h0=>?_) (fun h0=>?_) | refine cond rfl (fun h0=>?_) (fun h0=>?_)
  · try simp only [Gx.nb] at h0
    refine sg (fB ai 75 ?_)
    refine co (Ev.assign (.c (v:=(Go.Value.slice none 0 0)) rfl)) ?_
    refine nP (ret (pR (done rfl (.tmp rfl .nil) (kv zm ?_))))
    first | exact hc3 (by simpa using h0) | (symm; exact hc3 (by simpa using h0))
  · try simp only [Gx.nb] at h0
    refine skip (pN (sg (cons (buildSlice (E:=ai) Tryz.underlying25 eH z75 .nil rfl rfl (fun v1=>?_)))))
    refine mv rfl (cons (app (E:=ai) Tryz.underlying25 eH zb75 zs75 (.t rfl) (.t rfl) (fun v2=>?_) (hsrc:=(fun w I=>hl.aT I.keeps)) (hby:=⟨by (show _ ≤ 9223372036854775807); first | omega | (simp; done) | (simp; omega),by first | omega | (simp; done) | (simp; omega)⟩)))
    refine asn rfl (nP (ret (done rfl (.tmp rfl .nil) (kv zm ?_))))
    simp
theorem zb77:(Tryz.prog.info? 77).map (fun i=>(i.zero,i.bytes)) = some (some (ae.val ae.zero),32):=by kernel_rfl
theorem zs77:(ae.val ae.zero).cells.size = ae.size:=by rw [Enc.cK,List.size_toArray,Enc.len]
theorem clone_77 (u:Value) (xs:List aD) (w:World) (hl:bH ae w u xs) (hn:xs.length * 32 ≤ 140737488355328):Gx.Calls Tryz.prog 31 #[u] w (RetO w ae xs 77):=by
  have hle:=hl.le
  have hl2:=hl
  obtain ⟨sa,cap,rfl,hc1,hc2,hc3,hc4⟩:=hl2
  replace hc3:sa = none→[] = xs:=fun e=>(hc3 e).1.symm
  refine en0 8 Tryz.func31 (fun _ _=>?_)
  refine sg (co (Ev.assign (.c (v:=(Go.Value.slice none 0 0)) rfl)) ?_)
  refine nP (seq (sg (mv rfl (co (Ev.jK Tryz.underlying26 (.t rfl) (.c rfl)) ?_))))
  refine nP ?_
  first | refine aL rfl (fun h0=>?_) (fun h0=>?_) | refine cond rfl (fun h0=>?_) (fun h0=>?_)
  · try simp only [Gx.nb] at h0
    refine sg (fB ae 77 ?_)
    refine co (Ev.assign (.c (v:=(Go.Value.slice none 0 0)) rfl)) ?_
    refine nP (ret (pR (done rfl (.tmp rfl .nil) (kv zm ?_))))
    first | exact hc3 (by simpa using h0) | (symm; exact hc3 (by simpa using h0))
  · try simp only [Gx.nb] at h0
    refine skip (pN (sg (cons (buildSlice (E:=ae) Tryz.underlying26 eG z77 .nil rfl rfl (fun v1=>?_)))))
    refine mv rfl (cons (app (E:=ae) Tryz.underlying26 eG zb77 zs77 (.t rfl) (.t rfl) (fun v2=>?_) (hsrc:=(fun w I=>hl.aT I.keeps)) (hby:=⟨by (show _ ≤ 9223372036854775807); first | omega | (simp; done) | (simp; omega),by first | omega | (simp; done) | (simp; omega)⟩)))
    refine asn rfl (nP (ret (done rfl (.tmp rfl .nil) (kv zm ?_))))
    simp
def idxF {α:Type} (p:α→Bool) (l:List α):Int:=match l.findIdx? p with
  | some i=>(i:Int)
  | none=>-1
theorem idx_at {α:Type} {p:α→Bool} {l:List α} (z:α) {i:Int} (hi:0 ≤ i ∧ i < l.length) (hq:∀ k:Nat,k < i→p (l.getD k z) = false) (hp:p (l.getD i.toNat z) = true):idxF p l = i:=by
  have hlt:i.toNat < l.length:=by omega
  have h:l.findIdx? p = some i.toNat:=by
    rw [List.findIdx?_eq_some_iff_getElem]
    refine ⟨hlt,by simpa [List.getD,hlt] using hp,fun j hj=>?_⟩
    have:=hq j (by omega)
    have hj2:j < l.length:=by omega
    simpa [List.getD,hj2] using this
  unfold idxF
  rw [h]
  show ((i.toNat:Nat):Int) = i
  omega
structure aV where
  gV:OV
  fa:OV
  rules:OV
  iw:OV
  gk:OV
  default:Int
def aV.to:(OV × (OV × (OV × (OV × (OV × Int)))))→aV:=fun x=>⟨x.1,x.2.1,x.2.2.1,x.2.2.2.1,x.2.2.2.2.1,x.2.2.2.2.2⟩
def aV.of:aV→(OV × (OV × (OV × (OV × (OV × Int))))):=fun x=>(x.gV,x.fa,x.rules,x.iw,x.gk,x.default)
def aK:Enc aV:=iH (aa (ovE aw) (aa (ovE aw) (aa (ovE aw) (aa (ovE aw) (aa (ovE aw) iE))))) aV.to aV.of
def aV.dc:ak aK (ovE aw) 0:=cP _ aV.to aV.of (fun _=>rfl) (dF (ovE aw) (aa (ovE aw) (aa (ovE aw) (aa (ovE aw) (aa (ovE aw) iE)))))
@[simp] theorem aV.get_ports (x:aV):aV.dc.get x = x.gV:=rfl
@[simp] theorem aV.set_ports (x:aV) (y:OV):aV.dc.set x y = { x with gV:=y }:=rfl
def aV.cH:ak aK (ovE aw) 1:=cP _ aV.to aV.of (fun _=>rfl) (ak.comp (bg (ovE aw) (aa (ovE aw) (aa (ovE aw) (aa (ovE aw) (aa (ovE aw) iE))))) (dF (ovE aw) (aa (ovE aw) (aa (ovE aw) (aa (ovE aw) iE)))))
@[simp] theorem aV.l9 (x:aV):aV.cH.get x = x.fa:=rfl
@[simp] theorem aV.lU (x:aV) (y:OV):aV.cH.set x y = { x with fa:=y }:=rfl
def aV.dG:ak aK (ovE aw) 2:=cP _ aV.to aV.of (fun _=>rfl) (ak.comp (bg (ovE aw) (aa (ovE aw) (aa (ovE aw) (aa (ovE aw) (aa (ovE aw) iE))))) (ak.comp (bg (ovE aw) (aa (ovE aw) (aa (ovE aw) (aa (ovE aw) iE)))) (dF (ovE aw) (aa (ovE aw) (aa (ovE aw) iE)))))
@[simp] theorem aV.get_rules (x:aV):aV.dG.get x = x.rules:=rfl
@[simp] theorem aV.set_rules (x:aV) (y:OV):aV.dG.set x y = { x with rules:=y }:=rfl
def aV.dJ:ak aK (ovE aw) 3:=cP _ aV.to aV.of (fun _=>rfl) (ak.comp (bg (ovE aw) (aa (ovE aw) (aa (ovE aw) (aa (ovE aw) (aa (ovE aw) iE))))) (ak.comp (bg (ovE aw) (aa (ovE aw) (aa (ovE aw) (aa (ovE aw) iE)))) (ak.comp (bg (ovE aw) (aa (ovE aw) (aa (ovE aw) iE))) (dF (ovE aw) (aa (ovE aw) iE)))))
@[simp] theorem aV.get_meters (x:aV):aV.dJ.get x = x.iw:=rfl
@[simp] theorem aV.set_meters (x:aV) (y:OV):aV.dJ.set x y = { x with iw:=y }:=rfl
def aV.db:ak aK (ovE aw) 4:=cP _ aV.to aV.of (fun _=>rfl) (ak.comp (bg (ovE aw) (aa (ovE aw) (aa (ovE aw) (aa (ovE aw) (aa (ovE aw) iE))))) (ak.comp (bg (ovE aw) (aa (ovE aw) (aa (ovE aw) (aa (ovE aw) iE)))) (ak.comp (bg (ovE aw) (aa (ovE aw) (aa (ovE aw) iE))) (ak.comp (bg (ovE aw) (aa (ovE aw) iE)) (dF (ovE aw) iE)))))
@[simp] theorem aV.get_mirrors (x:aV):aV.db.get x = x.gk:=rfl
@[simp] theorem aV.set_mirrors (x:aV) (y:OV):aV.db.set x y = { x with gk:=y }:=rfl
def aV.eF:ak aK iE 5:=cP _ aV.to aV.of (fun _=>rfl) (ak.comp (bg (ovE aw) (aa (ovE aw) (aa (ovE aw) (aa (ovE aw) (aa (ovE aw) iE))))) (ak.comp (bg (ovE aw) (aa (ovE aw) (aa (ovE aw) (aa (ovE aw) iE)))) (ak.comp (bg (ovE aw) (aa (ovE aw) (aa (ovE aw) iE))) (ak.comp (bg (ovE aw) (aa (ovE aw) iE)) (ak.comp (bg (ovE aw) iE) (ak.id iE))))))
@[simp] theorem aV.get_default (x:aV):aV.eF.get x = x.default:=rfl
@[simp] theorem aV.set_default (x:aV) (y:Int):aV.eF.set x y = { x with default:=y }:=rfl
structure aN where
  gV:OV
  fa:OV
  rules:OV
  iw:OV
  gk:OV
def aN.to:(OV × (OV × (OV × (OV × OV))))→aN:=fun x=>⟨x.1,x.2.1,x.2.2.1,x.2.2.2.1,x.2.2.2.2⟩
def aN.of:aN→(OV × (OV × (OV × (OV × OV)))):=fun x=>(x.gV,x.fa,x.rules,x.iw,x.gk)
def bW:Enc aN:=iH (aa (ovE bf) (aa (ovE bf) (aa (ovE bf) (aa (ovE bf) (ovE bf))))) aN.to aN.of
def aN.dc:ak bW (ovE bf) 0:=cP _ aN.to aN.of (fun _=>rfl) (dF (ovE bf) (aa (ovE bf) (aa (ovE bf) (aa (ovE bf) (ovE bf)))))
@[simp] theorem aN.get_ports (x:aN):aN.dc.get x = x.gV:=rfl
@[simp] theorem aN.set_ports (x:aN) (y:OV):aN.dc.set x y = { x with gV:=y }:=rfl
def aN.cH:ak bW (ovE bf) 1:=cP _ aN.to aN.of (fun _=>rfl) (ak.comp (bg (ovE bf) (aa (ovE bf) (aa (ovE bf) (aa (ovE bf) (ovE bf))))) (dF (ovE bf) (aa (ovE bf) (aa (ovE bf) (ovE bf)))))
@[simp] theorem aN.l9 (x:aN):aN.cH.get x = x.fa:=rfl
@[simp] theorem aN.lU (x:aN) (y:OV):aN.cH.set x y = { x with fa:=y }:=rfl
def aN.dG:ak bW (ovE bf) 2:=cP _ aN.to aN.of (fun _=>rfl) (ak.comp (bg (ovE bf) (aa (ovE bf) (aa (ovE bf) (aa (ovE bf) (ovE bf))))) (ak.comp (bg (ovE bf) (aa (ovE bf) (aa (ovE bf) (ovE bf)))) (dF (ovE bf) (aa (ovE bf) (ovE bf)))))
@[simp] theorem aN.get_rules (x:aN):aN.dG.get x = x.rules:=rfl
@[simp] theorem aN.set_rules (x:aN) (y:OV):aN.dG.set x y = { x with rules:=y }:=rfl
def aN.dJ:ak bW (ovE bf) 3:=cP _ aN.to aN.of (fun _=>rfl) (ak.comp (bg (ovE bf) (aa (ovE bf) (aa (ovE bf) (aa (ovE bf) (ovE bf))))) (ak.comp (bg (ovE bf) (aa (ovE bf) (aa (ovE bf) (ovE bf)))) (ak.comp (bg (ovE bf) (aa (ovE bf) (ovE bf))) (dF (ovE bf) (ovE bf)))))
@[simp] theorem aN.get_meters (x:aN):aN.dJ.get x = x.iw:=rfl
@[simp] theorem aN.set_meters (x:aN) (y:OV):aN.dJ.set x y = { x with iw:=y }:=rfl
def aN.db:ak bW (ovE bf) 4:=cP _ aN.to aN.of (fun _=>rfl) (ak.comp (bg (ovE bf) (aa (ovE bf) (aa (ovE bf) (aa (ovE bf) (ovE bf))))) (ak.comp (bg (ovE bf) (aa (ovE bf) (aa (ovE bf) (ovE bf)))) (ak.comp (bg (ovE bf) (aa (ovE bf) (ovE bf))) (ak.comp (bg (ovE bf) (ovE bf)) (ak.id (ovE bf))))))
@[simp] theorem aN.get_mirrors (x:aN):aN.db.get x = x.gk:=rfl
@[simp] theorem aN.set_mirrors (x:aN) (y:OV):aN.db.set x y = { x with gk:=y }:=rfl
def ie (b:Nat):OV:=⟨.map (some b),rfl⟩
structure CL where
  ps:List Int
  rs:List aU
  us:List aO
  ms:List aJ
  xs:List aD
structure gw (w:World) (c:aV) (l:CL):Prop where
  ps:bH iE w c.gV.v l.ps
  rs:bH aA w c.fa.v l.rs
  us:bH aG w c.rules.v l.us
  ms:bH ai w c.iw.v l.ms
  xs:bH ae w c.gk.v l.xs
theorem gw.aT {w w':World} {c:aV} {l:CL} (h:gw w c l) (k:aX bO w w'):gw w' c l:=⟨h.ps.aT k,h.rs.aT k,h.us.aT k,h.ms.aT k,h.xs.aT k⟩
def portsM (l:CL):List (Int × Int):=ca eqd (fun p=>p) l.ps l.ps.length
def oa (l:CL):List (aq × Int):=ca aq.eqb (fun r=>r.to_) l.rs l.rs.length
def iT (l:CL):List (ByteArray × Int):=ca eqs (fun r=>r.name) l.us l.us.length
def iD (l:CL):List (ByteArray × Int):=ca eqs (fun r=>r.name) l.ms l.ms.length
def gL (l:CL):List (ByteArray × Int):=ca eqs (fun r=>r.name) l.xs l.xs.length
structure KB where
  b1:Nat
  b2:Nat
  b3:Nat
  b4:Nat
  b5:Nat
def KB.k (x:KB):aN:=⟨ie x.b1,ie x.b2,ie x.b3,ie x.b4,ie x.b5⟩
def KB.R (x:KB) (l:CL):List Res:=[dn x.b5 sE iE (gL l),dn x.b4 sE iE (iD l),dn x.b3 sE iE (iT l),dn x.b2 aH iE (oa l),dn x.b1 iE iE (portsM l)]
theorem of1 (a:Int) (w:World):Gx.Calls Tryz.prog 93 #[iE.val a] w (cD w (iE.val (a))):=by
  refine en0 4 Tryz.func93 (fun _ _=>?_)
  refine sg (co (Ev.assign (.c (v:=I 0) rfl)) ?_)
  refine nP (sg (mv rfl (asn rfl (nP (ret (done rfl (.tmp rfl .nil) (bc ?_)))))))
  rfl
theorem of1_at (M:Nat→Prop) (w:World):nV Tryz.prog 93 [] M w iE iE (fun _=>True) (fun a=>a):=fun a w _ _=>of1 a w
theorem z84:(Tryz.prog.info? 84).bind (·.zero) = some (aH.val aH.zero):=by kernel_rfl
theorem of2 (a:aU) (w:World):Gx.Calls Tryz.prog 95 #[aA.val a] w (cD w (aH.val (a.to_))):=by
  refine en0 5 Tryz.func95 (fun _ _=>?_)
  refine sg (cons (box (E:=aA) (.t rfl) (fun b1=>?_)))
  refine cons (alloc z84 (fun b2=>?_))
  refine nP (sg (co (fA 0 (.t rfl)) ?_))
  refine co (Ev.ldx a.to_ cW (.t rfl) aU.dW) ?_
  refine cons (stv cW (ak.id _) (.t rfl) (.t rfl) ?_)
  refine nP (ret (done rfl (.cellP rfl cW (cT zm (ak.id _)) .nil) (bc ?_)))
  rfl
theorem of2_at (M:Nat→Prop) (w:World):nV Tryz.prog 95 [] M w aA aH (fun _=>True) (fun a=>a.to_):=fun a w _ _=>of2 a w
theorem of3 (a:aO) (w:World):Gx.Calls Tryz.prog 97 #[aG.val a] w (cD w (sE.val (a.name))):=by
  refine en0 5 Tryz.func97 (fun _ _=>?_)
  refine sg (cons (box (E:=aG) (.t rfl) (fun b1=>?_)))
  refine co (Ev.assign (.c (v:=(Go.Value.string (ByteArray.mk #[]))) rfl)) ?_
  refine nP (sg (co (fA 0 (.t rfl)) ?_))
  refine co (Ev.ldx a.name ty9 (.t rfl) aO.cN) ?_
  refine asn rfl (nP (ret (done rfl (.tmp rfl .nil) (bc ?_))))
  rfl
theorem of3_at (M:Nat→Prop) (w:World):nV Tryz.prog 97 [] M w aG sE (fun _=>True) (fun a=>a.name):=fun a w _ _=>of3 a w
theorem of4 (a:aJ) (w:World):Gx.Calls Tryz.prog 99 #[ai.val a] w (cD w (sE.val (a.name))):=by
  refine en0 5 Tryz.func99 (fun _ _=>?_)
  refine sg (cons (box (E:=ai) (.t rfl) (fun b1=>?_)))
  refine co (Ev.assign (.c (v:=(Go.Value.string (ByteArray.mk #[]))) rfl)) ?_
  refine nP (sg (co (fA 0 (.t rfl)) ?_))
  refine co (Ev.ldx a.name ty9 (.t rfl) aJ.cN) ?_
  refine asn rfl (nP (ret (done rfl (.tmp rfl .nil) (bc ?_))))
  rfl
theorem of4_at (M:Nat→Prop) (w:World):nV Tryz.prog 99 [] M w ai sE (fun _=>True) (fun a=>a.name):=fun a w _ _=>of4 a w
theorem of5 (a:aD) (w:World):Gx.Calls Tryz.prog 101 #[ae.val a] w (cD w (sE.val (a.name))):=by
  refine en0 5 Tryz.func101 (fun _ _=>?_)
  refine sg (cons (box (E:=ae) (.t rfl) (fun b1=>?_)))
  refine co (Ev.assign (.c (v:=(Go.Value.string (ByteArray.mk #[]))) rfl)) ?_
  refine nP (sg (co (fA 0 (.t rfl)) ?_))
  refine co (Ev.ldx a.name ty9 (.t rfl) aD.cN) ?_
  refine asn rfl (nP (ret (done rfl (.tmp rfl .nil) (bc ?_))))
  rfl
theorem of5_at (M:Nat→Prop) (w:World):nV Tryz.prog 101 [] M w ae sE (fun _=>True) (fun a=>a.name):=fun a w _ _=>of5 a w
theorem en93:Gx.aC Tryz.prog 93:=Gx.aC.mk' zk
theorem en95:Gx.aC Tryz.prog 95:=Gx.aC.mk' zk
theorem en97:Gx.aC Tryz.prog 97:=Gx.aC.mk' zk
theorem en99:Gx.aC Tryz.prog 99:=Gx.aC.mk' zk
theorem en101:Gx.aC Tryz.prog 101:=Gx.aC.mk' zk
theorem z157:(Tryz.prog.info? 157).bind (·.zero) = some (bW.val bW.zero):=by kernel_rfl
theorem ty22:bF Tryz.prog 22 (ovE aw):=bF.mk' zk zk
theorem ty23:bF Tryz.prog 23 (ovE aw):=bF.mk' zk zk
theorem ty24:bF Tryz.prog 24 (ovE aw):=bF.mk' zk zk
theorem ty25:bF Tryz.prog 25 (ovE aw):=bF.mk' zk zk
theorem ty26:bF Tryz.prog 26 (ovE aw):=bF.mk' zk zk
theorem en92:Gx.aC Tryz.prog 92:=Gx.aC.mk' zk
theorem en94:Gx.aC Tryz.prog 94:=Gx.aC.mk' zk
theorem en96:Gx.aC Tryz.prog 96:=Gx.aC.mk' zk
theorem en98:Gx.aC Tryz.prog 98:=Gx.aC.mk' zk
theorem en100:Gx.aC Tryz.prog 100:=Gx.aC.mk' zk
theorem lr:bF Tryz.prog 157 bW:=bF.mk' zk zk
theorem of_ok (c:aV) (l:CL) (w:World) (hc:gw w c l):Gx.Calls Tryz.prog 61 #[aK.val c] w (ja w (fun _:KB=>True) (fun x=>bW.val x.k) (fun x=>x.R l)):=by
  refine en0 19 Tryz.func61 (fun _ _=>?_)
  refine sg (cons (box (E:=aK) (.t rfl) (fun b1=>?_)))
  refine cons (alloc z157 (fun b2=>?_))
  refine nP (seq (lK 2 rfl zr zk ?_))
  refine tk 0 rfl (fA 0 (.t rfl)) ?_
  refine tk 1 rfl (Ev.ldx c.gV ty22 (.t rfl) aV.dc) ?_
  refine tk 3 rfl (fA 1 (.t rfl)) ?_
  refine tk 4 rfl (Ev.ldx c.fa ty23 (.t rfl) aV.cH) ?_
  refine tk 6 rfl (fA 2 (.t rfl)) ?_
  refine tk 7 rfl (Ev.ldx c.rules ty24 (.t rfl) aV.dG) ?_
  refine tk 9 rfl (fA 3 (.t rfl)) ?_
  refine tk 10 rfl (Ev.ldx c.iw ty25 (.t rfl) aV.dJ) ?_
  refine tk 12 rfl (fA 4 (.t rfl)) ?_
  refine tk 13 rfl (Ev.ldx c.gk ty26 (.t rfl) aV.db) ?_
  refine al1 2 rfl ((fQ (X:=Nat) (fun _=>True) (fun b=>(ie b).v) (fun b=>[dn b iE iE (ca eqd (fun a:Int=>a) l.ps l.ps.length)]) en92 (.cons (.t rfl) (.cons .f .nil)) (fun w I=>first_3_3 93 [] _ _ l.ps w en93 (hc.aT I.keeps).ps (of1_at _ _)) (fun n1 _=>?_)))
  refine hdn (al1 5 rfl ((fQ (X:=Nat) (fun _=>True) (fun b=>(ie b).v) (fun b=>[dn b aH iE (ca aq.eqb (fun a:aU=>a.to_) l.rs l.rs.length)]) en94 (.cons (.t rfl) (.cons .f .nil)) (fun w I=>first_84_111 95 [] _ _ l.rs w en95 (hc.aT I.keeps).rs (of2_at _ _)) (fun n2 _=>?_))))
  refine hdn (al1 8 rfl ((fQ (X:=Nat) (fun _=>True) (fun b=>(ie b).v) (fun b=>[dn b sE iE (ca eqs (fun a:aO=>a.name) l.us l.us.length)]) en96 (.cons (.t rfl) (.cons .f .nil)) (fun w I=>first_9_88 97 [] _ _ l.us w en97 (hc.aT I.keeps).us (of3_at _ _)) (fun n3 _=>?_))))
  refine hdn (al1 11 rfl ((fQ (X:=Nat) (fun _=>True) (fun b=>(ie b).v) (fun b=>[dn b sE iE (ca eqs (fun a:aJ=>a.name) l.ms l.ms.length)]) en98 (.cons (.t rfl) (.cons .f .nil)) (fun w I=>first_9_75 99 [] _ _ l.ms w en99 (hc.aT I.keeps).ms (of4_at _ _)) (fun n4 _=>?_))))
  refine hdn (al1 14 rfl ((fQ (X:=Nat) (fun _=>True) (fun b=>(ie b).v) (fun b=>[dn b sE iE (ca eqs (fun a:aD=>a.name) l.xs l.xs.length)]) en100 (.cons (.t rfl) (.cons .f .nil)) (fun w I=>first_9_77 101 [] _ _ l.xs w en101 (hc.aT I.keeps).xs (of5_at _ _)) (fun n5 _=>?_))))
  refine hdn (tk 15 rfl (Ev.aQ (fs:=_) (places:=[(0,1),(1,1),(2,1),(3,1),(4,1)]) z157 rfl Tryz.underlying157 zk (.cons (.t rfl) (.cons (.t rfl) (.cons (.t rfl) (.cons (.t rfl) (.cons (.t rfl) .nil))))) (aj.cons aN.dc rfl (aj.cons aN.cH rfl (aj.cons aN.dG rfl (aj.cons aN.dJ rfl (aj.cons aN.db rfl aj.nil)))))) ?_)
  refine al1 16 rfl ((stv lr (ak.id _) (.t rfl) (.t rfl) ?_))
  refine hdn (ovr (pN (ret (done rfl (.cellP rfl lr (cT zm (ak.id _)) .nil) (fun w I=>?_)))))
  exact nQ (⟨n1,n2,n3,n4,n5⟩:KB) trivial rfl (by exact zs) w I
def mE:ByteArray:=(ByteArray.mk (List.toArray (List.append (List.append [0,1,2,2,3,3,3,3,4,4,4,4,4,4,4,4,5,5,5,5,5,5,5,5,5,5,5,5,5,5,5,5,6,6,6,6,6,6,6,6,6,6,6,6,6,6,6,6,6,6,6,6,6,6,6,6,6,6,6,6,6,6,6,6] [7,7,7,7,7,7,7,7,7,7,7,7,7,7,7,7,7,7,7,7,7,7,7,7,7,7,7,7,7,7,7,7,7,7,7,7,7,7,7,7,7,7,7,7,7,7,7,7,7,7,7,7,7,7,7,7,7,7,7,7,7,7,7,7]) (List.append [8,8,8,8,8,8,8,8,8,8,8,8,8,8,8,8,8,8,8,8,8,8,8,8,8,8,8,8,8,8,8,8,8,8,8,8,8,8,8,8,8,8,8,8,8,8,8,8,8,8,8,8,8,8,8,8,8,8,8,8,8,8,8,8] [8,8,8,8,8,8,8,8,8,8,8,8,8,8,8,8,8,8,8,8,8,8,8,8,8,8,8,8,8,8,8,8,8,8,8,8,8,8,8,8,8,8,8,8,8,8,8,8,8,8,8,8,8,8,8,8,8,8,8,8,8,8,8,8]))))
def j6 (x:UInt8):UInt8:=(mE[x.toNat]?).getD 0
set_option maxRecDepth 100000 in
theorem len8_get (x:UInt8):mE[x.toNat]? = some (j6 x):=by
  have h:∀ n:Fin 256,mE[(UInt8.ofNat n.val).toNat]? = some (j6 (UInt8.ofNat n.val)):=by decide +kernel
  have:=h ⟨x.toNat,x.toNat_lt⟩
  simpa using this
theorem len8_at (x:UInt8):0 ≤ (x.toNat:Int) ∧ mE[(x.toNat:Int).toNat]? = some (j6 x):=⟨by omega,len8_get x⟩
def dk (b:List UInt8) (i:Int):UInt8:=shr8 (b.getD (i / 8).toNat 0) (7 - i % 8).toNat &&& 1
def bitsV (b:List UInt8) (f:Int):Nat→UInt64
  | 0=>0
  | n + 1=>shl64 (bitsV b f n) 1 ||| (dk b (f + n)).toUInt64
def bitsB (b:List UInt8) (f n:Int):UInt64 × Int:=if n < 0 ∨ 64 < n then (0,2) else if f < 0 ∨ 8 * b.length - n < f then (0,5) else (bitsV b f n.toNat,0)
theorem iO (l:List UInt8) (m i:Nat) (h:i < m):(l.take m).getD i 0 = l.getD i 0:=by
  simp [List.getD,List.getElem?_take,h]
def gu:List UInt8→List UInt8→Nat
  | x :: a,y :: b=>if x = y then gu a b + 1 else 0
  | _,_=>0
theorem comI_step (a b:List UInt8) (i:Nat) (h1:i < a.length) (h2:i < b.length):gu (a.drop i) (b.drop i) = if a.getD i 0 = b.getD i 0 then gu (a.drop (i + 1)) (b.drop (i + 1)) + 1 else 0:=by
  rw [List.drop_eq_getElem_cons h1,List.drop_eq_getElem_cons h2]
  simp [gu,List.getD,h1,h2]
theorem comI_end (a b:List UInt8) (i:Nat) (h:a.length ≤ i ∨ b.length ≤ i):gu (a.drop i) (b.drop i) = 0:=by
  rcases h with h | h
  · rw [List.drop_eq_nil_of_le h]
    simp [gu]
  · rw [List.drop_eq_nil_of_le h]
    cases a.drop i <;> simp [gu]
def gO (a b:List UInt8):Int:=if (gu a b:Int) = min (a.length:Int) b.length then 8 * min (a.length:Int) b.length else 8 * (gu a b:Int) + (8 - ((j6 (a.getD (gu a b) 0 ^^^ b.getD (gu a b) 0)).toNat:Int))
theorem len8_ok (x:UInt8) (w:World):Gx.Calls Tryz.prog 110 #[U8 x] w (cD w (I (j6 x).toNat)):=by
  refine en0 6 Tryz.func110 (fun _ _=>?_)
  refine sg (co (Ev.assign (.c (v:=I 0) rfl)) ?_)
  refine nP (sg (mv rfl (co (Ev.indexS (b:=j6 x) (s:=mE) Tryz.underlying9 (.c rfl) (.t rfl) (fun _=>len8_at x)) ?_)))
  refine co (Ev.conv_u8_i Tryz.underlying3 Tryz.underlying5 (.t rfl)) ?_
  refine asn rfl (nP (ret (done rfl (.tmp rfl .nil) (bc ?_))))
  rfl
theorem len8_le (x:UInt8):(j6 x).toNat ≤ 8:=by
      have h:∀ n:Fin 256,(j6 (UInt8.ofNat n.val)).toNat ≤ 8:=by decide +kernel
      have:=h ⟨x.toNat,x.toNat_lt⟩
      simpa using this
theorem en110:Gx.aC Tryz.prog 110:=Gx.aC.mk' zk
theorem lz8_ok (x:UInt8) (w:World):Gx.Calls Tryz.prog 109 #[U8 x] w (cD w (I (8 - ((j6 x).toNat:Int)))):=by
  have hx:=len8_le x
  refine en0 6 Tryz.func109 (fun _ _=>?_)
  refine sg (co (Ev.assign (.c (v:=I 0) rfl)) ?_)
  refine nP (sg (mv rfl (cons (aZ en110 (.cons (.t rfl) .nil) (fun w I=>len8_ok _ w) ?_))))
  refine co (Ev.lx (.c (v:=I 8) rfl) (.t rfl) (fun _=>zo)) ?_
  refine asn rfl (nP (ret (done rfl (.tmp rfl .nil) (bc ?_))))
  rfl
theorem en109:Gx.aC Tryz.prog 109:=Gx.aC.mk' zk
theorem common_ok (u v:Value) (a b:List UInt8) (w:World) (ha:bH u8E w u a) (hb:bH u8E w v b) (hl:a.length ≤ 1152921504606846974):Gx.Calls Tryz.prog 107 #[u,v] w (cD w (I (gO a b))):=by
  have hal:=ha.le
  have hbl:=hb.le
  obtain ⟨m,hm⟩:∃ m:Nat,(min (a.length:Int) b.length) = (m:Int):=⟨min a.length b.length,by omega⟩
  have hsa:bH u8E w (iu u8E.size u 0 m) (a.take m):=by
    have:=ha.sub (l:=0) (k:=m) (by omega) (by omega)
    simpa using this
  have hsb:bH u8E w (iu u8E.size v 0 m) (b.take m):=by
    have:=hb.sub (l:=0) (k:=m) (by omega) (by omega)
    simpa using this
  have hla:(a.take m).length = m:=by simp; omega
  have hlb:(b.take m).length = m:=by simp; omega
  refine en0 52 Tryz.func107 (fun _ _=>?_)
  refine sg (co (Ev.assign (.c (v:=I 0) rfl)) ?_)
  refine nP (sg (mv rfl (co (Ev.len Tryz.underlying45 (.t rfl) zf) ?_)))
  refine mv rfl (co (Ev.len Tryz.underlying45 (.t rfl) zf) ?_)
  refine co (Ev.to (v':=I ((m:Nat):Int)) (Ev.oV (.t rfl) (.t rfl)) (by rw [hm])) ?_
  refine asn rfl (nP (seq (df zk ?_)))
  refine tk 0 rfl (Ev.move (.t rfl)) ?_
  refine tk 1 rfl (Ev.move (.t rfl)) ?_
  refine tk 2 rfl (Ev.lR Tryz.underlying45 ty5 (.t rfl) (.t rfl) zf (fun _=>zo)) ?_
  refine tk 3 rfl (Ev.move (.t rfl)) ?_
  refine tk 4 rfl (Ev.move (.t rfl)) ?_
  refine tk 5 rfl (Ev.lR Tryz.underlying45 ty5 (.t rfl) (.t rfl) zf (fun _=>zo)) ?_
  refine tk 6 rfl (Ev.assign (.t rfl)) ?_
  refine tk 7 rfl (Ev.assign (.t rfl)) ?_
  refine ovr (pN (sg (co (Ev.assign (.c (v:=I 0) rfl)) ?_)))
  refine nP (seq (block (lp (X:=Int) (fun x:Int=>(0 ≤ x ∧ x ≤ m) ∧ ((gu a b:Int) = x + gu (a.drop x.toNat) (b.drop x.toNat))) (fun x:Int=>[dz,(0,true,iu u8E.size u 0 m),(1,true,iu u8E.size v 0 m),(5,true,I m),(6,true,I x)]) (fun x:Int=>[]) (fun x:Int=>(m - x).toNat) (0) ⟨?_,?_⟩ (fun x hx=>?_))))
  · omega
  · simp
  obtain ⟨i,rfl⟩:∃ y,y = x:=⟨x,rfl⟩
  obtain ⟨hi,hc⟩:(0 ≤ i ∧ i ≤ m) ∧ ((gu a b:Int) = i + gu (a.drop i.toNat) (b.drop i.toNat)):=hx
  show Sat _ _ [dz,(0,true,iu u8E.size u 0 m),(1,true,iu u8E.size v 0 m),(5,true,I m),(6,true,I i)] []
  refine seq (seq (df zk ?_))
  refine tk 0 rfl (Ev.move (.t rfl)) ?_
  refine tk 1 rfl (Ev.move (.t rfl)) ?_
  refine tk 2 rfl (Ev.dx (.t rfl) (.t rfl)) ?_
  refine tk 3 rfl (Ev.move (.t rfl)) ?_
  refine tkg 4 rfl rfl rfl (Ev.move (.t rfl)) ?_
  refine tkg 5 rfl rfl rfl (Ev.move (.t rfl)) ?_
  refine tkg 6 rfl rfl rfl (Ev.indexAddr Tryz.underlying45 ty5 (.g rfl id) (.g rfl id) (fun w I=>hsa.aT I.keeps) (fun _=>by first | omega | (rename_i hg; simp at hg; omega))) ?_
  refine tkg 7 rfl rfl rfl (Ev.dp ty5 (.g rfl id) (fun w I=>hsa.aT I.keeps) (fun _=>by first | omega | (rename_i hg; simp at hg; omega))) ?_
  refine tkg 8 rfl rfl rfl (Ev.move (.t rfl)) ?_
  refine tkg 9 rfl rfl rfl (Ev.move (.t rfl)) ?_
  refine tkg 10 rfl rfl rfl (Ev.indexAddr Tryz.underlying45 ty5 (.g rfl id) (.g rfl id) (fun w I=>hsb.aT I.keeps) (fun _=>by first | omega | (rename_i hg; simp at hg; omega))) ?_
  refine tkg 11 rfl rfl rfl (Ev.dp ty5 (.g rfl id) (fun w I=>hsb.aT I.keeps) (fun _=>by first | omega | (rename_i hg; simp at hg; omega))) ?_
  refine tkg 12 rfl rfl rfl (Ev.eql_u8 (.g rfl id) (.g rfl id)) ?_
  refine tk 13 rfl (Ev.pkA (.t rfl) rfl) ?_
  refine ovr (pN ?_)
  first | refine aL rfl (fun hlt=>?_) (fun hge=>?_) | refine cond rfl (fun hlt=>?_) (fun hge=>?_)
  · try simp only [Gx.nb] at hlt
    refine skip (pN (block (region (mv rfl (co (Ev.a8 (.t rfl) (.c (v:=I 1) rfl) (fun _=>zo)) ?_)))))
    refine asn rfl (nil (bN (pN (nx (X:=Int) (i + 1) ⟨?_,?_⟩ ?_))))
    · try dsimp only
      omega
    · try dsimp only
      have hst:=comI_step a b i.toNat (by omega) (by omega)
      have ga:=iO a m i.toNat (by omega)
      have gb:=iO b m i.toNat (by omega)
      have hq:a.getD i.toNat 0 = b.getD i.toNat 0:=ga.symm.trans (hlt.2.trans gb)
      rw [if_pos hq] at hst
      have e:(i + 1).toNat = i.toNat + 1:=by omega
      rw [e]; omega
    · try dsimp only
      omega
  · try simp only [Gx.nb] at hge
    refine exit (pX (pX (bX (pN (seq (sg (mv rfl (mv rfl (co (Ev.fD (.t rfl) (.t rfl)) ?_)))))))))
    refine nP ?_
    first | refine aL rfl (fun heq=>?_) (fun hne=>?_) | refine cond rfl (fun heq=>?_) (fun hne=>?_)
    · try simp only [Gx.nb] at heq
      refine sg (mv rfl (co (Ev.mul_i (.c (v:=I 8) rfl) (.t rfl) (fun _=>zo)) ?_))
      refine asn rfl (nP (ret (pR (done rfl (.tmp rfl .nil) (bc ?_)))))
      have hst:=comI_end a b i.toNat (by omega)
      unfold gO
      rw [if_pos (by omega),← hm]; rfl
    · try simp only [Gx.nb] at hne
      have hq:¬ a.getD i.toNat 0 = b.getD i.toNat 0:=fun hq=>by
        have ga:=iO a m i.toNat (by omega)
        have gb:=iO b m i.toNat (by omega)
        have hq2:=ga.trans (hq.trans gb.symm)
        rcases hge with h | h
        · omega
        · exact h hq2
      have hst:=comI_step a b i.toNat (by omega) (by omega)
      rw [if_neg hq] at hst
      have hci:gu a b = i.toNat:=by omega
      refine skip (pN (seq (df zk ?_)))
      refine tk 0 rfl (Ev.move (.t rfl)) ?_
      refine tk 1 rfl (Ev.mul_i (.c (v:=I 8) rfl) (.t rfl) (fun _=>zo)) ?_
      refine tk 2 rfl (Ev.move (.t rfl)) ?_
      refine tk 3 rfl (Ev.move (.t rfl)) ?_
      refine tk 4 rfl (Ev.indexAddr Tryz.underlying45 ty5 (.t rfl) (.t rfl) (fun w I=>hsa.aT I.keeps) (fun _=>zo)) ?_
      refine tk 5 rfl (Ev.dp ty5 (.t rfl) (fun w I=>hsa.aT I.keeps) (fun _=>zo)) ?_
      refine tk 6 rfl (Ev.move (.t rfl)) ?_
      refine tk 7 rfl (Ev.move (.t rfl)) ?_
      refine tk 8 rfl (Ev.indexAddr Tryz.underlying45 ty5 (.t rfl) (.t rfl) (fun w I=>hsb.aT I.keeps) (fun _=>zo)) ?_
      refine tk 9 rfl (Ev.dp ty5 (.t rfl) (fun w I=>hsb.aT I.keeps) (fun _=>zo)) ?_
      refine tk 10 rfl (Ev.xor_u8 (.t rfl) (.t rfl)) ?_
      refine al1 11 rfl ((aZ en109 (.cons (.t rfl) .nil) (fun w I=>lz8_ok _ w) ?_))
      refine hdn (tk 12 rfl (Ev.a8 (.t rfl) (.t rfl) (fun _=>by have h8:=len8_le ((List.take m a).getD i.toNat u8E.zero ^^^ (List.take m b).getD i.toNat u8E.zero); omega)) ?_)
      refine tk 13 rfl (Ev.assign (.t rfl)) ?_
      refine ovr (pN (ret (done rfl (.tmp rfl .nil) (bc ?_))))
      unfold gO
      rw [if_neg (by omega),hci]
      have ga:=iO a m i.toNat (by omega)
      have gb:=iO b m i.toNat (by omega)
      have ei:(i.toNat:Int) = i:=by omega
      rw [ei,← ga,← gb]; rfl
def bn (x k:Nat):Nat:=x / 2 ^ k % 2
theorem bn_xor (x y k:Nat):bn (x ^^^ y) k = (bn x k + bn y k) % 2:=by
  have h:=Nat.testBit_xor x y k
  simp only [Nat.testBit_eq_decide_div_mod_eq] at h
  unfold bn
  have h1:x / 2 ^ k % 2 < 2:=Nat.mod_lt _ (by decide)
  have h2:y / 2 ^ k % 2 < 2:=Nat.mod_lt _ (by decide)
  have h3:(x ^^^ y) / 2 ^ k % 2 < 2:=Nat.mod_lt _ (by decide)
  generalize x / 2 ^ k % 2 = p at *
  generalize y / 2 ^ k % 2 = q at *
  generalize (x ^^^ y) / 2 ^ k % 2 = r at *
  have hp:p = 0 ∨ p = 1:=by omega
  have hq:q = 0 ∨ q = 1:=by omega
  have hr:r = 0 ∨ r = 1:=by omega
  rcases hp with rfl | rfl <;> rcases hq with rfl | rfl <;> rcases hr with rfl | rfl <;> simp_all
theorem g8 (b:List UInt8) (i:Int):(dk b i).toNat = bn (b.getD (i / 8).toNat 0).toNat (7 - i % 8).toNat:=by
  unfold dk bn
  rw [UInt8.toNat_and,oE]
  have e:UInt8.toNat 1 = 1:=rfl
  rw [e,Nat.and_one_is_mod]
set_option maxRecDepth 100000 in
theorem len8_bits (x:UInt8) (h:x ≠ 0):1 ≤ (j6 x).toNat ∧ (j6 x).toNat ≤ 8 ∧ (∀ s,s < 8 - (j6 x).toNat→bn x.toNat (7 - s) = 0) ∧ bn x.toNat (7 - (8 - (j6 x).toNat)) = 1:=by
  have h1:∀ n:Fin 256,n.val ≠ 0→1 ≤ (j6 (UInt8.ofNat n.val)).toNat ∧ (j6 (UInt8.ofNat n.val)).toNat ≤ 8 ∧ (∀ s:Fin 8,s.val < 8 - (j6 (UInt8.ofNat n.val)).toNat→bn n.val (7 - s.val) = 0) ∧ bn n.val (7 - (8 - (j6 (UInt8.ofNat n.val)).toNat)) = 1:=by decide +kernel
  have h2:=h1 ⟨x.toNat,x.toNat_lt⟩ (fun e=>h (UInt8.toNat_inj.1 e))
  simp only [UInt8.ofNat_toNat] at h2
  exact ⟨h2.1,h2.2.1,fun s hs=>h2.2.2.1 ⟨s,by omega⟩ hs,h2.2.2.2⟩
theorem comI_le:∀ a b:List UInt8,gu a b ≤ a.length ∧ gu a b ≤ b.length
  | [],b=>by simp [gu]
  | x :: a,[]=>by simp [gu]
  | x :: a,y :: b=>by
    have:=comI_le a b
    simp only [gu,List.length_cons]
    split <;> omega
theorem comI_eq:∀ (a b:List UInt8) (j:Nat),j < gu a b→a.getD j 0 = b.getD j 0
  | [],b,j,h=>by simp [gu] at h
  | x :: a,[],j,h=>by simp [gu] at h
  | x :: a,y :: b,j,h=>by
    simp only [gu] at h
    split at h
    · rename_i e
      cases j with
      | zero=>simpa using e
      | succ j=>simpa [List.getD] using comI_eq a b j (by omega)
    · omega
theorem comI_ne:∀ (a b:List UInt8),gu a b < a.length→gu a b < b.length→a.getD (gu a b) 0 ≠ b.getD (gu a b) 0
  | [],b,h,_=>by simp at h
  | x :: a,[],_,h=>by simp at h
  | x :: a,y :: b,h1,h2=>by
    simp only [gu,List.length_cons] at h1 h2 ⊢
    split
    · rename_i e
      rw [if_pos e] at h1 h2
      simpa [List.getD] using comI_ne a b (by omega) (by omega)
    · rename_i e
      simpa using e
structure nN (a b:List UInt8) (n:Int):Prop where
  p:0 ≤ n
  la:n ≤ 8 * a.length
  lb:n ≤ 8 * b.length
  eq:∀ i:Int,0 ≤ i→i < n→dk a i = dk b i
  ne:n < 8 * a.length→n < 8 * b.length→dk a n ≠ dk b n
theorem pD (a b:List UInt8):nN a b (gO a b):=by
  obtain ⟨h1,h2⟩:=comI_le a b
  have heq:=comI_eq a b
  have hne:=comI_ne a b
  unfold gO
  generalize gu a b = c at *
  split
  · rename_i hc
    refine ⟨by omega,by omega,by omega,fun i h0 hi=>?_,fun h3 h4=>by omega⟩
    unfold dk
    rw [heq (i / 8).toNat (by omega)]
  · rename_i hc
    have hx:=hne (by omega) (by omega)
    have hx2:a.getD c 0 ^^^ b.getD c 0 ≠ 0:=fun e=>hx (by
      have e2:=congrArg UInt8.toNat e
      rw [UInt8.toNat_xor] at e2
      exact UInt8.toNat_inj.1 (xor_zero e2))
    obtain ⟨l1,l2,l3,l4⟩:=len8_bits _ hx2
    generalize hl:j6 (a.getD c 0 ^^^ b.getD c 0) = l at *
    have hlo:∀ s:Nat,s < 8 - l.toNat→bn (a.getD c 0).toNat (7 - s) = bn (b.getD c 0).toNat (7 - s):=fun s hs=>by
      have e:=l3 s hs
      rw [UInt8.toNat_xor,bn_xor] at e
      have ha:bn (a.getD c 0).toNat (7 - s) < 2:=Nat.mod_lt _ (by decide)
      have hb:bn (b.getD c 0).toNat (7 - s) < 2:=Nat.mod_lt _ (by decide)
      omega
    have hhi:bn (a.getD c 0).toNat (7 - (8 - l.toNat)) ≠ bn (b.getD c 0).toNat (7 - (8 - l.toNat)):=fun e=>by
      rw [UInt8.toNat_xor,bn_xor,e] at l4
      omega
    refine ⟨by omega,by omega,by omega,fun i h0 hi=>?_,fun h3 h4=>fun e=>?_⟩
    · by_cases hic:i / 8 < c
      · unfold dk
        rw [heq (i / 8).toNat (by omega)]
      · have e1:(i / 8).toNat = c:=by omega
        apply UInt8.toNat_inj.1
        rw [g8,g8,e1]
        have e2:(7 - i % 8).toNat = 7 - (i % 8).toNat:=by omega
        rw [e2]
        exact hlo _ (by omega)
    · have e3:=congrArg UInt8.toNat e
      have e1:((8 * (c:Int) + (8 - (l.toNat:Int))) / 8).toNat = c:=by omega
      have e2:(7 - (8 * (c:Int) + (8 - (l.toNat:Int))) % 8).toNat = 7 - (8 - l.toNat):=by omega
      rw [g8,g8,e1,e2] at e3
      exact hhi e3
theorem nN.symm {a b:List UInt8} {n:Int} (h:nN a b n):nN b a n:=⟨h.p,h.lb,h.la,fun i h0 hi=>(h.eq i h0 hi).symm,fun h1 h2 e=>h.ne h2 h1 e.symm⟩
theorem nN.tri {a b c:List UInt8} {n m k:Int} (h:nN a b n) (h':nN b c m) (h'':nN a c k):min n m ≤ k:=by
  rcases Int.lt_or_le k (min n m) with hl | hl
  · have e1:=h.eq k h''.p (by omega)
    have e2:=h'.eq k h''.p (by omega)
    exact absurd (e1.trans e2) (h''.ne (by have:=h.la; omega) (by have:=h'.lb; omega))
  · exact hl
def wd (a:a7):Int:=bif a.v6 then 128 else 32
theorem lq (a:a7):32 ≤ wd a ∧ wd a ≤ 128:=by unfold wd; cases a.v6 <;> decide
def mk1 (left:Int) (x:UInt8):UInt8:=if left ≤ 0 then 0 else if left < 8 then x &&& shl8 255 (8 - left).toNat else x
def fP (bits:Int) (b:Vector UInt8 16):Vector UInt8 16:=Vector.ofFn fun i=>mk1 (bits - 8 * (i.val:Int)) b[i]
def fh (bits:Int) (b:Vector UInt8 16) (k:Int):Vector UInt8 16:=Vector.ofFn fun i=>if (i.val:Int) < k then mk1 (bits - 8 * (i.val:Int)) b[i] else b[i]
theorem maskTo_zero (bits:Int) (b:Vector UInt8 16):fh bits b 0 = b:=by
  apply Vector.ext
  intro i hi
  have:¬ (i:Int) < 0:=by omega
  simp only [fh,Vector.getElem_ofFn,if_neg this,Fin.getElem_fin]
theorem maskTo_all (bits:Int) (b:Vector UInt8 16) (k:Int) (h:16 ≤ k):fh bits b k = fP bits b:=by
  apply Vector.ext
  intro i hi
  have:(i:Int) < k:=by omega
  simp [fh,fP,this]
theorem kF (bits:Int) (b:Vector UInt8 16) (k:Int) (h0:0 ≤ k) (h1:k < 16) (hk:k.toNat < 16):(fh bits b k).set k.toNat (mk1 (bits - 8 * k) b[k.toNat]) hk = fh bits b (k + 1):=by
  apply Vector.ext
  intro i hi
  rw [Vector.getElem_set]
  by_cases e:k.toNat = i
  · subst e
    have e2:((k.toNat:Nat):Int) = k:=by omega
    have e3:(k.toNat:Int) < k + 1:=by omega
    simp [fh,e2]
    omega
  · rw [if_neg e]
    by_cases e4:(i:Int) < k
    · have e5:(i:Int) < k + 1:=by omega
      simp [fh,e4,e5]
    · have e5:¬ (i:Int) < k + 1:=by omega
      simp [fh,e4,e5]
theorem maskTo_skip (bits:Int) (b:Vector UInt8 16) (k:Int) (h0:0 ≤ k) (h1:k < 16) (hk:k.toNat < 16) (h:mk1 (bits - 8 * k) b[k.toNat] = b[k.toNat]):fh bits b k = fh bits b (k + 1):=by
  rw [← kF bits b k h0 h1 hk,h]
  apply Vector.ext
  intro i hi
  rw [Vector.getElem_set]
  split
  · rename_i e
    subst e
    have e2:¬ ((k.toNat:Nat):Int) < k:=by omega
    simp only [fh,Vector.getElem_ofFn,if_neg e2,Fin.getElem_fin]
  · rfl
theorem maskTo_get (bits:Int) (b:Vector UInt8 16) (k:Int) (h0:0 ≤ k) (hk:k.toNat < 16):(fh bits b k)[k.toNat] = b[k.toNat]:=by
  have e2:¬ ((k.toNat:Nat):Int) < k:=by omega
  simp only [fh,Vector.getElem_ofFn,if_neg e2,Fin.getElem_fin]
def aM (a:a7):Int:=if fP (wd a) a.b = a.b then 0 else 150
def cO (p:aq):Int:=if p.bits < 0 ∨ wd p.addr < p.bits ∨ fP p.bits p.addr.b ≠ p.addr.b then 151 else 0
def jI (p:aq) (a:a7):Bool:=decide (cO p = 0) && decide (aM a = 0) && decide (a.v6 = p.addr.v6) && decide (p.bits ≤ gO a.b.toList p.addr.b.toList)
def e8 (p q:aq):Bool:=decide (cO q = 0) && decide (p.bits ≤ q.bits) && jI p q.addr
theorem oy (a:a7) (w:World):Gx.Calls Tryz.prog 72 #[bP.val a] w (cD w (I (wd a))):=by
  refine en0 5 Tryz.func72 (fun _ _=>?_)
  refine sg (cons (box (E:=bP) (.t rfl) (fun b1=>?_)))
  refine co (Ev.assign (.c (v:=I 0) rfl)) ?_
  refine nP (seq (sg (co (fA 0 (.t rfl)) ?_)))
  refine co (Ev.ldx a.v6 ty4 (.t rfl) a7.kI) ?_
  refine nP ?_
  first | refine aL rfl (fun h0=>?_) (fun h0=>?_) | refine cond rfl (fun h0=>?_) (fun h0=>?_)
  · try simp only [Gx.nb] at h0
    refine sg (co (Ev.assign (.c (v:=I 128) rfl)) ?_)
    refine nP (ret (pR (done rfl (.tmp rfl .nil) (bc ?_))))
    simp [wd,h0,js]
  · try simp only [Gx.nb] at h0
    refine skip (pN (sg (co (Ev.assign (.c (v:=I 32) rfl)) ?_)))
    refine nP (ret (done rfl (.tmp rfl .nil) (bc ?_)))
    simp [wd,h0,js]
theorem z42:(Tryz.prog.info? 42).bind (·.zero) = some (bP.val bP.zero):=by kernel_rfl
theorem ni (a:a7) (n:Int) (w:World) (hn:0 ≤ n ∧ n ≤ 128):Gx.Calls Tryz.prog 73 #[bP.val a,I n] w (cD w (bP.val { a with b:=fP n a.b })):=by
  refine en0 35 Tryz.func73 (fun _ _=>?_)
  refine sg (cons (box (E:=bP) (.t rfl) (fun b1=>?_)))
  refine cons (alloc z42 (fun b2=>?_))
  refine nP (seq (sg (co (Ev.move (.c (v:=I 0) rfl)) ?_)))
  refine nP (block (lp (X:=Int × (Vector UInt8 16)) (fun x:Int × (Vector UInt8 16)=>(0 ≤ x.1 ∧ x.1 ≤ 16) ∧ (x.2 = fh n a.b x.1)) (fun x:Int × (Vector UInt8 16)=>[dz,(1,true,I n),(2,true,.pointer (some ⟨b1,0,none⟩)),(4,true,.pointer (some ⟨b2,0,none⟩)),(7,true,I x.1)]) (fun x:Int × (Vector UInt8 16)=>[Var b2 bP bP.zero 42,Var b1 bP { a with b:=x.2 } 42]) (fun x:Int × (Vector UInt8 16)=>(16 - x.1).toNat) (0,a.b) ⟨?_,?_⟩ (fun x hx=>?_) (hL:=(by repeat first | exact List.Sublist.refl _ | apply List.Sublist.cons_cons | apply List.Sublist.cons))))
  · omega
  · exact (maskTo_zero n a.b).symm
  obtain ⟨k,v⟩:=x
  obtain ⟨hk,hv⟩:(0 ≤ k ∧ k ≤ 16) ∧ (v = fh n a.b k):=hx
  show Sat _ _ [dz,(1,true,I n),(2,true,.pointer (some ⟨b1,0,none⟩)),(4,true,.pointer (some ⟨b2,0,none⟩)),(7,true,I k)] [Var b2 bP bP.zero 42,Var b1 bP { a with b:=v } 42]
  refine sg (co (Ev.dx (.t rfl) (.c (v:=I 16) rfl)) ?_)
  refine nP (seq ?_)
  first | refine aL rfl (fun hlt=>?_) (fun hge=>?_) | refine cond rfl (fun hlt=>?_) (fun hge=>?_)
  · try simp only [Gx.nb] at hlt
    refine skip (pN (seq (block (sg (mv rfl (asn rfl (nP (sg (mv rfl (mv rfl (co (Ev.mul_i (.c (v:=I 8) rfl) (.t rfl) (fun _=>zo)) ?_)))))))))))
    refine co (Ev.lx (.t rfl) (.t rfl) (fun _=>zo)) ?_
    refine asn rfl (nP (block (sg ?_)))
    have hk16:k.toNat < 16:=by omega
    refine mv rfl (co (Ev.leq_i (.t rfl) (.c (v:=I 0) rfl)) ?_)
    refine asn rfl (nP ?_)
    first | refine aL rfl (fun hz=>?_) (fun hnz=>?_) | refine cond rfl (fun hz=>?_) (fun hnz=>?_)
    · try simp only [Gx.nb] at hz
      have hst:v.set k.toNat 0 hk16 = fh n a.b (k + 1):=by
        rw [hv,← kF n a.b k hk.1 (by omega) hk16]
        congr 1
        unfold mk1
        rw [if_pos hz]
      refine region (mv rfl (co (fA 1 (.t rfl)) ?_))
      refine co (Ev.cC Tryz.underlying40 ty5 (.t rfl) (.t rfl) (fun _=>zo)) ?_
      refine cons (stv ty5 (ak.comp a7.l_b (dR (n:=16) u8E _ (by omega))) (.t rfl) (.c (v:=U8 0) rfl) ?_)
      refine nil (bN (bN (pN (region (co (Ev.a8 (.t rfl) (.c (v:=I 1) rfl) (fun _=>zo)) ?_)))))
      refine mv rfl (nP (nx (X:=Int × (Vector UInt8 16)) (k + 1,_) ⟨?_,?_⟩ ?_))
      · try dsimp only
        omega
      · try dsimp only
        exact hst
      · try dsimp only
        omega
    · try simp only [Gx.nb] at hnz
      refine sg (mv rfl (co (Ev.dx (.t rfl) (.c (v:=I 8) rfl)) ?_))
      refine asn rfl (nP ?_)
      first | refine aL rfl (fun h8=>?_) (fun hn8=>?_) | refine cond rfl (fun h8=>?_) (fun hn8=>?_)
      · try simp only [Gx.nb] at h8
        have hst:v.set k.toNat (v[k.toNat] &&& shl8 255 (8 - (n - 8 * k)).toNat) hk16 = fh n a.b (k + 1):=by
          rw [← kF n a.b k hk.1 (by omega) hk16,← hv]
          congr 1
          unfold mk1
          rw [if_neg hnz,if_pos h8,hv,maskTo_get n a.b k hk.1 hk16]
        refine lK 2 rfl zr zk ?_
        refine tk 0 rfl (Ev.move (.t rfl)) ?_
        refine tk 1 rfl (fA 1 (.t rfl)) ?_
        refine tk 2 rfl (Ev.cC Tryz.underlying40 ty5 (.t rfl) (.t rfl) (fun _=>zo)) ?_
        refine tk 4 rfl (Ev.move (.t rfl)) ?_
        refine tk 5 rfl (Ev.lx (.c (v:=I 8) rfl) (.t rfl) (fun _=>zo)) ?_
        refine tk 6 rfl (Ev.shl_u8 (.c (v:=U8 255) rfl) (.t rfl) (fun _=>zo)) ?_
        refine tk 8 rfl (fA 1 (.t rfl)) ?_
        refine al1 3 rfl ((opv (Ev.ldv ty5 (.t rfl) (ak.comp a7.l_b (dR (n:=16) u8E _ (by omega)))) ?_))
        refine hdn (tk 7 rfl (Ev.and_u8 (.t rfl) (.t rfl)) ?_)
        refine tk 9 rfl (Ev.cC Tryz.underlying40 ty5 (.t rfl) (.t rfl) (fun _=>zo)) ?_
        refine al1 10 rfl ((stv ty5 (ak.comp a7.l_b (dR (n:=16) u8E _ (by omega))) (.t rfl) (.t rfl) ?_))
        refine hdn (ovr (bN (bN (pN (region (co (Ev.a8 (.t rfl) (.c (v:=I 1) rfl) (fun _=>zo)) ?_))))))
        refine mv rfl (nP (nx (X:=Int × (Vector UInt8 16)) (k + 1,_) ⟨?_,?_⟩ ?_))
        · try dsimp only
          omega
        · try dsimp only
          exact hst
        · try dsimp only
          omega
      · try simp only [Gx.nb] at hn8
        have hst:v = fh n a.b (k + 1):=by
          rw [hv]
          exact maskTo_skip n a.b k hk.1 (by omega) hk16 (by unfold mk1; rw [if_neg hnz,if_neg hn8])
        refine skip (bN (bN (pN (region (co (Ev.a8 (.t rfl) (.c (v:=I 1) rfl) (fun _=>zo)) ?_)))))
        refine mv rfl (nP (nx (X:=Int × (Vector UInt8 16)) (k + 1,_) ⟨?_,?_⟩ ?_))
        · try dsimp only
          omega
        · try dsimp only
          exact hst
        · try dsimp only
          omega
  · try simp only [Gx.nb] at hge
    refine exit (pX (pX (bX (pN (sg (co (Ev.ldv fF (.t rfl) (ak.id _)) ?_))))))
    refine cons (stv fF (ak.id _) (.t rfl) (.t rfl) ?_)
    refine nP (ret (done rfl (.cellP rfl fF (cT zm (ak.id _)) .nil) (bc ?_)))
    rw [maskTo_all n a.b k (by omega)] at hv
    rw [← hv]; rfl
theorem en72:Gx.aC Tryz.prog 72:=Gx.aC.mk' zk
theorem en73:Gx.aC Tryz.prog 73:=Gx.aC.mk' zk
theorem iP (a:a7) (w:World):Gx.Calls Tryz.prog 38 #[bP.val a] w (cD w (I (aM a))):=by
  have hw:=lq a
  refine en0 11 Tryz.func38 (fun _ _=>?_)
  refine sg (cons (box (E:=bP) (.t rfl) (fun b1=>?_)))
  refine co (Ev.assign (.c (v:=I 0) rfl)) ?_
  refine nP (seq (seq (df zk ?_)))
  refine tk 0 rfl (Ev.ldx a fF (.t rfl) (ak.id _)) ?_
  refine tk 1 rfl (Ev.ldx a fF (.t rfl) (ak.id _)) ?_
  refine tk 5 rfl (fA 1 (.t rfl)) ?_
  refine tk 6 rfl (Ev.ldx a.b ty40 (.t rfl) a7.l_b) ?_
  refine al1 2 rfl ((aZ en72 (.cons (.t rfl) .nil) (fun w I=>oy _ w) ?_))
  refine hdn (al1 3 rfl ((aZ en73 (.cons (.t rfl) (.cons (.t rfl) .nil)) (fun w I=>ni _ _ w (by first | omega | (simp; omega))) ?_)))
  refine hdn (tk 4 rfl (Ev.fieldS (o:=1) (e:=40) rfl zk ty40 a7.l_b (.t rfl)) ?_)
  refine tk 7 rfl (Ev.neqS rfl (pj Tryz.underlying40 ty5 (eqok_u8 Tryz.underlying5)) rfl zk (.t rfl) (.t rfl)) ?_
  refine ovr (pN ?_)
  first | refine aL rfl (fun h0=>?_) (fun h0=>?_) | refine cond rfl (fun h0=>?_) (fun h0=>?_)
  · try simp only [Gx.nb] at h0
    refine sg (co (Ev.assign (.c (v:=I 150) rfl)) ?_)
    refine nP (ret (pR (done rfl (.tmp rfl .nil) (bc ?_))))
    have hne:fP (wd a) a.b ≠ a.b:=by simpa using h0
    unfold aM; rw [if_neg hne]; rfl
  · try simp only [Gx.nb] at h0
    refine skip (pN (sg (co (Ev.assign (.c (v:=I 0) rfl)) ?_)))
    refine nP (ret (done rfl (.tmp rfl .nil) (bc ?_)))
    have he:fP (wd a) a.b = a.b:=by simpa using h0
    unfold aM; rw [if_pos he]; rfl
theorem g7 (p:aq) (w:World):Gx.Calls Tryz.prog 32 #[aH.val p] w (cD w (I (cO p))):=by
  have hw:=lq p.addr
  refine en0 26 Tryz.func32 (fun _ _=>?_)
  refine sg (cons (box (E:=aH) (.t rfl) (fun b1=>?_)))
  refine co (Ev.assign (.c (v:=I 0) rfl)) ?_
  refine nP (seq (seq (df zk ?_)))
  refine tk 0 rfl (fA 17 (.t rfl)) ?_
  refine tk 1 rfl (Ev.ldx p.bits ty3 (.t rfl) aq.ea) ?_
  refine tk 2 rfl (Ev.dx (.t rfl) (.c (v:=I 0) rfl)) ?_
  refine tk 3 rfl (Ev.move (.t rfl)) ?_
  refine tkg 4 rfl rfl rfl (fA 17 (.t rfl)) ?_
  refine tkg 5 rfl rfl rfl (Ev.ldx p.bits ty3 (.g rfl id) aq.ea) ?_
  refine tkg 6 rfl rfl rfl (fA 0 (.t rfl)) ?_
  refine tkg 7 rfl rfl rfl (Ev.ldx p.addr fF (.g rfl id) aq.dE) ?_
  refine al1 8 rfl ((jq rfl rfl en72 (.cons (.g rfl id) .nil) (fun hg w I=>oy _ w) ?_))
  refine hdn (tkg 9 rfl rfl rfl (Ev.eJ (.g rfl id) (.g rfl id)) ?_)
  refine tk 10 rfl (Ev.pkO (.t rfl) rfl) ?_
  refine tk 11 rfl (Ev.move (.t rfl)) ?_
  refine tkg 12 rfl rfl rfl (fA 0 (.t rfl)) ?_
  refine tkg 13 rfl rfl rfl (Ev.ldx p.addr fF (.g rfl id) aq.dE) ?_
  refine tkg 14 rfl rfl rfl (fA 17 (.t rfl)) ?_
  refine tkg 15 rfl rfl rfl (Ev.ldx p.bits ty3 (.g rfl id) aq.ea) ?_
  refine tkg 18 rfl rfl rfl (fA 0 (.t rfl)) ?_
  refine tkg 19 rfl rfl rfl (fA 1 (.g rfl id)) ?_
  refine tkg 20 rfl rfl rfl (Ev.ldx p.addr.b ty40 (.g rfl id) (ak.comp aq.dE a7.l_b)) ?_
  refine al1 16 rfl ((jq rfl rfl en73 (.cons (.g rfl id) (.cons (.g rfl id) .nil)) (fun hg w I=>ni _ _ w (by simp at hg ⊢; omega)) ?_))
  refine hdn (tkg 17 rfl rfl rfl (Ev.fieldS (o:=1) (e:=40) rfl zk ty40 a7.l_b (.g rfl id)) ?_)
  refine tkg 21 rfl rfl rfl (Ev.neqS rfl (pj Tryz.underlying40 ty5 (eqok_u8 Tryz.underlying5)) rfl zk (.g rfl id) (.g rfl id)) ?_
  refine tk 22 rfl (Ev.pkO (.t rfl) rfl) ?_
  refine ovr (pN ?_)
  first | refine aL rfl (fun h0=>?_) (fun h0=>?_) | refine cond rfl (fun h0=>?_) (fun h0=>?_)
  · refine sg (co (Ev.assign (.c (v:=I 151) rfl)) ?_)
    refine nP (ret (pR (done rfl (.tmp rfl .nil) (bc ?_))))
    unfold cO; rw [if_pos (by simpa [and_assoc,or_assoc] using h0)]; rfl
  · refine skip (pN (sg (co (Ev.assign (.c (v:=I 0) rfl)) ?_)))
    refine nP (ret (done rfl (.tmp rfl .nil) (bc ?_)))
    unfold cO; rw [if_neg (by simpa [and_assoc,or_assoc] using h0)]; rfl
theorem en32:Gx.aC Tryz.prog 32:=Gx.aC.mk' zk
theorem en38:Gx.aC Tryz.prog 38:=Gx.aC.mk' zk
theorem en107:Gx.aC Tryz.prog 107:=Gx.aC.mk' zk
theorem hasP_ok (p:aq) (a:a7) (w:World):Gx.Calls Tryz.prog 82 #[aH.val p,bP.val a] w (cD w (.bool (jI p a))):=by
  refine en0 32 Tryz.func82 (fun _ _=>?_)
  refine sg (cons (box (E:=aH) (.t rfl) (fun b1=>?_)))
  refine cons (box (E:=bP) (.t rfl) (fun b2=>?_))
  refine co (Ev.assign (.c (v:=.bool false) rfl)) ?_
  refine nP (seq (df zk ?_))
  refine tk 0 rfl (Ev.ldx p cW (.t rfl) (ak.id _)) ?_
  refine al1 1 rfl ((aZ en32 (.cons (.t rfl) .nil) (fun w I=>g7 _ w) ?_))
  refine hdn (tk 2 rfl (Ev.fD (.t rfl) (.c (v:=I 0) rfl)) ?_)
  refine tk 3 rfl (Ev.move (.t rfl)) ?_
  refine tkg 4 rfl rfl rfl (Ev.ldx a fF (.t rfl) (ak.id _)) ?_
  refine al1 5 rfl ((jq rfl rfl en38 (.cons (.g rfl id) .nil) (fun hg w I=>iP _ w) ?_))
  refine hdn (tkg 6 rfl rfl rfl (Ev.fD (.g rfl id) (.c (v:=I 0) rfl)) ?_)
  refine tk 7 rfl (Ev.pkA (.t rfl) rfl) ?_
  refine tk 8 rfl (Ev.move (.t rfl)) ?_
  refine tkg 9 rfl rfl rfl (fA 0 (.t rfl)) ?_
  refine tkg 10 rfl rfl rfl (Ev.ldx a.v6 ty4 (.g rfl id) a7.kI) ?_
  refine tkg 11 rfl rfl rfl (fA 0 (.t rfl)) ?_
  refine tkg 12 rfl rfl rfl (fA 0 (.g rfl id)) ?_
  refine tkg 13 rfl rfl rfl (Ev.ldx p.addr.v6 ty4 (.g rfl id) (ak.comp aq.dE a7.kI)) ?_
  refine tkg 14 rfl rfl rfl (Ev.eql_b Tryz.underlying4 (.g rfl id) (.g rfl id)) ?_
  refine tk 15 rfl (Ev.pkA (.t rfl) rfl) ?_
  refine tk 16 rfl (Ev.move (.t rfl)) ?_
  refine tkg 17 rfl rfl rfl (fA 1 (.t rfl)) ?_
  refine tkg 18 rfl rfl rfl (Ev.sliceArr (l:=0) (h:=16) Tryz.underlying40 ty5 (.g rfl id) rfl rfl (fun _=>by decide)) ?_
  refine tkg 19 rfl rfl rfl (fA 0 (.t rfl)) ?_
  refine tkg 20 rfl rfl rfl (fA 1 (.g rfl id)) ?_
  refine tkg 21 rfl rfl rfl (Ev.sliceArr (l:=0) (h:=16) Tryz.underlying40 ty5 (.g rfl id) rfl rfl (fun _=>by decide)) ?_
  refine tkg 23 rfl rfl rfl (fA 17 (.t rfl)) ?_
  refine tkg 24 rfl rfl rfl (Ev.ldx p.bits ty3 (.g rfl id) aq.ea) ?_
  refine al1 22 rfl ((jq rfl rfl en107 (.cons (.g rfl id) (.cons (.g rfl id) .nil)) (fun hg w I=>common_ok _ _ _ _ w (isSl_arr (cT (by repeat first | exact mH | apply mT | apply mA) a7.l_b w I) (by decide) (by decide) (by decide)) (isSl_arr (cT (by repeat first | exact mH | apply mT | apply mA) (ak.comp aq.dE a7.l_b) w I) (by decide) (by decide) (by decide)) (by first | omega | (simp; done))) ?_))
  refine hdn (tkg 25 rfl rfl rfl (Ev.geq_i (.g rfl id) (.g rfl id)) ?_)
  refine tk 26 rfl (Ev.pkA (.t rfl) rfl) ?_
  refine tk 27 rfl (Ev.assign (.t rfl)) ?_
  refine ovr (pN (ret (done rfl (.tmp rfl .nil) (bc ?_))))
  unfold jI; simp [js,Bool.and_assoc,eqd]
theorem en82:Gx.aC Tryz.prog 82:=Gx.aC.mk' zk
theorem pC (p q:aq) (w:World):Gx.Calls Tryz.prog 134 #[aH.val p,aH.val q] w (cD w (.bool (e8 p q))):=by
  refine en0 21 Tryz.func134 (fun _ _=>?_)
  refine sg (cons (box (E:=aH) (.t rfl) (fun b1=>?_)))
  refine cons (box (E:=aH) (.t rfl) (fun b2=>?_))
  refine co (Ev.assign (.c (v:=.bool false) rfl)) ?_
  refine nP (sg (co (Ev.ldx q cW (.t rfl) (ak.id _)) ?_))
  refine cons (aZ en32 (.cons (.t rfl) .nil) (fun w I=>g7 _ w) ?_)
  refine co (Ev.fD (.t rfl) (.c (v:=I 0) rfl)) ?_
  refine mv rfl (cg rfl rfl (fA 17 (.t rfl)) ?_)
  refine cg rfl rfl (Ev.ldx p.bits ty3 (.g rfl id) aq.ea) ?_
  refine cg rfl rfl (fA 17 (.t rfl)) ?_
  refine cg rfl rfl (Ev.ldx q.bits ty3 (.g rfl id) aq.ea) ?_
  refine cg rfl rfl (Ev.leq_i (.g rfl id) (.g rfl id)) ?_
  refine co (Ev.pkA (.t rfl) rfl) ?_
  refine mv rfl (cg rfl rfl (Ev.ldx p cW (.t rfl) (ak.id _)) ?_)
  refine cg rfl rfl (fA 0 (.t rfl)) ?_
  refine cg rfl rfl (Ev.ldx q.addr fF (.g rfl id) aq.dE) ?_
  refine cons (jq rfl rfl en82 (.cons (.g rfl id) (.cons (.g rfl id) .nil)) (fun hg w I=>hasP_ok _ _ w) ?_)
  refine co (Ev.pkA (.t rfl) rfl) ?_
  refine asn rfl (nP (ret (done rfl (.tmp rfl .nil) (bc ?_))))
  unfold e8; simp [js,Bool.and_assoc]; done
def ckB (b:a9):Int:=if b.num < 1 ∨ 65536 < b.num ∨ b.den < 1 ∨ 65536 < b.den ∨ b.mV < 1 ∨ 1048576 < b.mV then 2 else 0
theorem bucket_ok (b:a9) (w:World):Gx.Calls Tryz.prog 104 #[fE.val b] w (cD w (I (ckB b))):=by
  refine en0 31 Tryz.func104 (fun _ _=>?_)
  refine sg (cons (box (E:=fE) (.t rfl) (fun b1=>?_)))
  refine co (Ev.assign (.c (v:=I 0) rfl)) ?_
  refine nP (seq (sg (co (fA 0 (.t rfl)) ?_)))
  refine co (Ev.ldx b.num ty71 (.t rfl) a9.l_num) ?_
  refine co (Ev.lss_u64 (.t rfl) (.c (v:=U64 1) rfl)) ?_
  refine mv rfl (cg rfl rfl (fA 0 (.t rfl)) ?_)
  refine cg rfl rfl (Ev.ldx b.num ty71 (.g rfl id) a9.l_num) ?_
  refine cg rfl rfl (Ev.gtr_u64 (.g rfl id) (.c (v:=U64 65536) rfl)) ?_
  refine co (Ev.pkO (.t rfl) rfl) ?_
  refine mv rfl (cg rfl rfl (fA 1 (.t rfl)) ?_)
  refine cg rfl rfl (Ev.ldx b.den ty71 (.g rfl id) a9.l_den) ?_
  refine cg rfl rfl (Ev.lss_u64 (.g rfl id) (.c (v:=U64 1) rfl)) ?_
  refine co (Ev.pkO (.t rfl) rfl) ?_
  refine mv rfl (cg rfl rfl (fA 1 (.t rfl)) ?_)
  refine cg rfl rfl (Ev.ldx b.den ty71 (.g rfl id) a9.l_den) ?_
  refine cg rfl rfl (Ev.gtr_u64 (.g rfl id) (.c (v:=U64 65536) rfl)) ?_
  refine co (Ev.pkO (.t rfl) rfl) ?_
  refine mv rfl (cg rfl rfl (fA 2 (.t rfl)) ?_)
  refine cg rfl rfl (Ev.ldx b.mV ty71 (.g rfl id) a9.mI) ?_
  refine cg rfl rfl (Ev.lss_u64 (.g rfl id) (.c (v:=U64 1) rfl)) ?_
  refine co (Ev.pkO (.t rfl) rfl) ?_
  refine mv rfl (cg rfl rfl (fA 2 (.t rfl)) ?_)
  refine cg rfl rfl (Ev.ldx b.mV ty71 (.g rfl id) a9.mI) ?_
  refine cg rfl rfl (Ev.gtr_u64 (.g rfl id) (.c (v:=U64 1048576) rfl)) ?_
  refine co (Ev.pkO (.t rfl) rfl) ?_
  refine nP ?_
  first | refine aL rfl (fun h0=>?_) (fun h0=>?_) | refine cond rfl (fun h0=>?_) (fun h0=>?_)
  · try simp only [Gx.nb] at h0
    refine sg (co (Ev.assign (.c (v:=I 2) rfl)) ?_)
    refine nP (ret (pR (done rfl (.tmp rfl .nil) (bc ?_))))
    have e:ckB b = 2:=by unfold ckB; rw [if_pos (by simpa [or_assoc] using h0)]
    rw [e]; rfl
  · try simp only [Gx.nb] at h0
    refine skip (pN (sg (co (Ev.assign (.c (v:=I 0) rfl)) ?_)))
    refine nP (ret (done rfl (.tmp rfl .nil) (bc ?_)))
    have e:ckB b = 0:=by unfold ckB; rw [if_neg (by simpa [or_assoc,and_assoc] using h0)]
    rw [e]; rfl
structure iJ (w:World) (x:KB) (l:CL):Prop where
  ps:fR w x.b1 iE iE (portsM l)
  rs:fR w x.b2 aH iE (oa l)
  us:fR w x.b3 sE iE (iT l)
  ms:fR w x.b4 sE iE (iD l)
  xs:fR w x.b5 sE iE (gL l)
theorem iJ.aT {w w':World} {x:KB} {l:CL} (h:iJ w x l) (k:aX bO w w'):iJ w' x l:=⟨h.ps.aT k,h.rs.aT k,h.us.aT k,h.ms.aT k,h.xs.aT k⟩
theorem jj {K:Ctx} {L:List Res} {x:KB} {l:CL} (hs:∀ r ∈ x.R l,r ∈ L) (w:World) (I:bh K L w):iJ w x l :=
  ⟨dL (hs _ (by simp [KB.R])) w I,dL (hs _ (by simp [KB.R])) w I,dL (hs _ (by simp [KB.R])) w I,dL (hs _ (by simp [KB.R])) w I,dL (hs _ (by simp [KB.R])) w I⟩
def portB (l:CL) (p:Int):Bool:=(cM eqd p (portsM l)).isSome
def eu (l:CL) (r:aU) (i:Int):Int:=if cO r.to_ ≠ 0 then 151 else if portB l r.out = false then 5 else if (cM aq.eqb r.to_ (oa l)).getD 0 < i then 2 else 0
theorem ty154:bF Tryz.prog 154 (ovE bf):=bF.mk' zk zk
theorem port_ok (k:KB) (l:CL) (p:Int) (w:World) (hk:iJ w k l):Gx.Calls Tryz.prog 102 #[bW.val k.k,I p] w (cD w (.bool (portB l p))):=by
  refine en0 15 Tryz.func102 (fun _ _=>?_)
  refine sg (cons (box (E:=bW) (.t rfl) (fun b1=>?_)))
  refine co (Ev.assign (.c (v:=.bool false) rfl)) ?_
  refine nP (sg (co (fA 0 (.t rfl)) ?_))
  refine co (Ev.ldv ty154 (.t rfl) aN.dc) ?_
  refine mv rfl (co (Ev.iF Tryz.underlying154 Tryz.underlying3 key3 z3 (.t rfl) (.t rfl) (fun _=>(fun w I=>hk.ps.aT I.keeps))) ?_)
  refine mv rfl (co (Ev.extract (.t rfl) rfl) (co (Ev.extract (.t rfl) rfl) (asn rfl (asn rfl (nP (sg (mv rfl (asn rfl (nP (ret (done rfl (.tmp rfl .nil) (bc ?_))))))))))))
  rfl
theorem en102:Gx.aC Tryz.prog 102:=Gx.aC.mk' zk
theorem ty155:bF Tryz.prog 155 (ovE bf):=bF.mk' zk zk
theorem route_ok (k:KB) (l:CL) (r:aU) (i:Int) (w:World) (hk:iJ w k l):Gx.Calls Tryz.prog 65 #[bW.val k.k,aA.val r,I i] w (cD w (I (eu l r i))):=by
  refine en0 26 Tryz.func65 (fun _ _=>?_)
  refine sg (cons (box (E:=bW) (.t rfl) (fun b1=>?_)))
  refine cons (box (E:=aA) (.t rfl) (fun b2=>?_))
  refine co (Ev.assign (.c (v:=I 0) rfl)) ?_
  refine nP (seq (block (sg (co (fA 0 (.t rfl)) ?_))))
  refine co (Ev.ldx r.to_ cW (.t rfl) aU.dW) ?_
  refine cons (aZ en32 (.cons (.t rfl) .nil) (fun w I=>g7 _ w) ?_)
  refine co (Ev.eX (.t rfl) (.c (v:=I 0) rfl)) ?_
  refine asn rfl (nP ?_)
  first | refine aL rfl (fun h0=>?_) (fun h0=>?_) | refine cond rfl (fun h0=>?_) (fun h0=>?_)
  · try simp only [Gx.nb] at h0
    refine sg (co (Ev.assign (.c (v:=I 151) rfl)) ?_)
    refine nP (ret (bR (pR (done rfl (.tmp rfl .nil) (bc ?_)))))
    unfold eu; rw [if_pos (by simpa using h0)]; rfl
  · try simp only [Gx.nb] at h0
    refine sg (co (Ev.ldv lr (.t rfl) (ak.id _)) ?_)
    refine co (fA 18 (.t rfl)) ?_
    refine co (Ev.ldx r.out ty3 (.t rfl) aU.dj) ?_
    refine cons (aZ en102 (.cons (.t rfl) (.cons (.t rfl) .nil)) (fun w I=>port_ok _ l _ w (hk.aT I.keeps)) ?_)
    refine co (Ev.not (.t rfl)) ?_
    refine asn rfl (nP ?_)
    first | refine aL rfl (fun h1=>?_) (fun h1=>?_) | refine cond rfl (fun h1=>?_) (fun h1=>?_)
    · try simp only [Gx.nb] at h1
      refine sg (co (Ev.assign (.c (v:=I 5) rfl)) ?_)
      refine nP (ret (bR (pR (done rfl (.tmp rfl .nil) (bc ?_)))))
      unfold eu; rw [if_neg (by simpa using h0),if_pos (by simpa using h1)]; rfl
    · try simp only [Gx.nb] at h1
      refine sg (co (fA 1 (.t rfl)) ?_)
      refine co (Ev.ldv ty155 (.t rfl) aN.cH) ?_
      refine co (fA 0 (.t rfl)) ?_
      refine co (Ev.ldx r.to_ cW (.t rfl) aU.dW) ?_
      refine co (Ev.od Tryz.underlying155 Tryz.underlying84 key84 z3 (.t rfl) (.t rfl) (fun _=>(fun w I=>hk.rs.aT I.keeps))) ?_
      refine mv rfl (co (Ev.dx (.t rfl) (.t rfl)) ?_)
      refine asn rfl (nP ?_)
      first | refine aL rfl (fun h2=>?_) (fun h2=>?_) | refine cond rfl (fun h2=>?_) (fun h2=>?_)
      · try simp only [Gx.nb] at h2
        refine sg (co (Ev.assign (.c (v:=I 2) rfl)) ?_)
        refine nP (ret (bR (pR (done rfl (.tmp rfl .nil) (bc ?_)))))
        unfold eu; rw [if_neg (by simpa using h0),if_neg (by simpa using h1),if_pos (by simpa using h2)]; rfl
      · try simp only [Gx.nb] at h2
        refine skip (bN (pN (sg (co (Ev.assign (.c (v:=I 0) rfl)) ?_))))
        refine nP (ret (done rfl (.tmp rfl .nil) (bc ?_)))
        unfold eu; rw [if_neg (by simpa using h0),if_neg (by simpa using h1),if_neg (by simpa using h2)]; rfl
def fC (c i:Int):Bool:=(decide (97 ≤ c) && decide (c ≤ 122)) || (decide (0 < i) && ((decide (48 ≤ c) && decide (c ≤ 57)) || decide (c = 45) || decide (c = 95)))
def fZ (s:ByteArray):Bool:=!(decide (s.size = 0) || decide (16 < s.size)) && (List.range s.size).all (fun k=>fC (s.get! k).toNat k)
theorem oT {c i:Int} (h:128 ≤ c):fC c i = false:=by
  unfold fC
  have h1:decide (c ≤ 122) = false:=by simp; omega
  have h2:decide (c ≤ 57) = false:=by simp; omega
  have h3:decide (c = 45) = false:=by simp; omega
  have h4:decide (c = 95) = false:=by simp; omega
  rw [h1,h2,h3,h4]
  simp
theorem iM {s:ByteArray} {i:Nat} (hc:fC (Utf8.decode s i).1 i = true):(Utf8.decode s i).2 = 1 ∧ fC (s.get! i).toNat i = true:=by
  have hlt:(s.get! i).toNat < 128:=Nat.lt_of_not_le fun h=>by
    have:=Gx.decode_high s i h
    rw [oT (by omega)] at hc
    cases hc
  have e:Utf8.decode s i = ((s.get! i).toNat,1):=by
    unfold Utf8.decode
    simp only [Nat.add_zero]
    rw [if_pos hlt]
  rw [e] at hc ⊢
  exact ⟨rfl,hc⟩
theorem name_bad {s:ByteArray} {i:Nat} (hc:fC (Utf8.decode s i).1 i = false):fC (s.get! i).toNat i = false:=by
  by_cases hlt:(s.get! i).toNat < 128
  · have e:Utf8.decode s i = ((s.get! i).toNat,1):=by
      unfold Utf8.decode
      simp only [Nat.add_zero]
      rw [if_pos hlt]
    rw [e] at hc
    exact hc
  · exact oT (by omega)
theorem name_ok (s:ByteArray) (w:World) (hs:s.size ≤ 9223372036854775807):Gx.Calls Tryz.prog 103 #[.string s] w (cD w (.bool (fZ s))):=by
  refine en0 45 Tryz.func103 (fun _ _=>?_)
  refine sg (co (Ev.assign (.c (v:=.bool false) rfl)) ?_)
  refine nP (seq (sg (mv rfl (co (Ev.lenS Tryz.underlying9 (.t rfl)) ?_))))
  refine co (Ev.fD (.t rfl) (.c (v:=I 0) rfl)) ?_
  refine mv rfl (cg rfl rfl (Ev.move (.t rfl)) ?_)
  refine cg rfl rfl (Ev.lenS Tryz.underlying9 (.g rfl id)) ?_
  refine cg rfl rfl (Ev.eJ (.g rfl id) (.c (v:=I 16) rfl)) ?_
  refine co (Ev.pkO (.t rfl) rfl) ?_
  refine nP ?_
  first | refine aL rfl (fun h0=>?_) (fun h0=>?_) | refine cond rfl (fun h0=>?_) (fun h0=>?_)
  · try simp only [Gx.nb] at h0
    refine sg (co (Ev.assign (.c (v:=.bool false) rfl)) ?_)
    refine nP (ret (pR (done rfl (.tmp rfl .nil) (bc ?_))))
    have e:fZ s = false:=by
      have h:(decide (s.size = 0) || decide (16 < s.size)) = true:=by rw [Bool.or_eq_true,decide_eq_true_eq,decide_eq_true_eq]; omega
      unfold fZ
      rw [h]
      rfl
    rw [e]; rfl
  · try simp only [Gx.nb] at h0
    refine skip (pN (seq (sg (mv rfl (cons (startRangeS Tryz.underlying9 (.t rfl) (fun r1=>?_)))))))
    refine nP (block (lp (X:=Nat) (fun x:Nat=>(x ≤ s.size) ∧ (∀ k:Nat,k < x→fC (s.get! k).toNat k = true)) (fun x:Nat=>[dz,(14,true,.pointer (some ⟨r1,0,none⟩))]) (fun x:Nat=>[StrIt r1 s x]) (fun x:Nat=>s.size - x) (0) ⟨?_,?_⟩ (fun x hx=>?_)))
    · omega
    · intro k h; omega
    obtain ⟨i,rfl⟩:∃ y,y = x:=⟨x,rfl⟩
    obtain ⟨hi,hq⟩:(i ≤ s.size) ∧ (∀ k:Nat,k < i→fC (s.get! k).toNat k = true):=hx
    show Sat _ _ [dz,(14,true,.pointer (some ⟨r1,0,none⟩))] [StrIt r1 s i]
    refine sg (cons (nextStr (.t rfl) (fun _=>zu) (fun hs5=>?_) (fun hs5=>?_)))
    · refine co (Ev.extract (.t rfl) rfl) (nP (seq (il rfl (rfl) ?_)))
      refine exit (pX (pX (bX (pN (sg (co (Ev.assign (.c (v:=.bool true) rfl)) ?_))))))
      refine nP (ret (done rfl (.tmp rfl .nil) (bc ?_)))
      have e:fZ s = true:=by
        have h:(decide (s.size = 0) || decide (16 < s.size)) = false:=by rw [Bool.or_eq_false_iff,decide_eq_false_iff_not,decide_eq_false_iff_not]; omega
        unfold fZ
        rw [h]
        exact List.all_eq_true.2 fun k hk=>hq k (by have:=List.mem_range.1 hk; omega)
      rw [e]; rfl
    · refine co (Ev.extract (.t rfl) rfl) (nP (seq (condT rfl (rfl) ?_)))
      refine skip (pN (block (sg (co (Ev.extract (.t rfl) rfl) (co (Ev.extract (.t rfl) rfl) (asn rfl (asn rfl (nP (block (sg (mv rfl (co (Ev.geq_i32 (.t rfl) (.c (v:=Value.int .i32 97) rfl)) ?_))))))))))))
      refine mv rfl (cg rfl rfl (Ev.move (.t rfl)) ?_)
      refine cg rfl rfl (Ev.leq_i32 (.g rfl id) (.c (v:=Value.int .i32 122) rfl)) ?_
      refine co (Ev.pkA (.t rfl) rfl) ?_
      refine asn rfl (nP ?_)
      first | refine aL rfl (fun h2=>?_) (fun h2=>?_) | refine cond rfl (fun h2=>?_) (fun h2=>?_)
      · refine skip (bN (bN (pN (nx (X:=Nat) (_) ⟨?_,?_⟩ ?_))))
        · try dsimp only
          have hc:fC (Utf8.decode s i).1 i = true:=by
            unfold fC
            first
              | (rw [h2]; rfl)
              | (rw [h3]; simp)
          have hst:=iM hc
          have hst1:=hst.1
          omega
        · try dsimp only
          have hc:fC (Utf8.decode s i).1 i = true:=by
            unfold fC
            first
              | (rw [h2]; rfl)
              | (rw [h3]; simp)
          have hst:=iM hc
          have hst1:=hst.1
          intro k hk
          by_cases e:k < i
          · exact hq k e
          · obtain rfl:k = i:=by omega
            exact hst.2
        · try dsimp only
          have hc:fC (Utf8.decode s i).1 i = true:=by
            unfold fC
            first
              | (rw [h2]; rfl)
              | (rw [h3]; simp)
          have hst:=iM hc
          have hst1:=hst.1
          omega
      · refine sg (mv rfl (co (Ev.eJ (.t rfl) (.c (v:=I 0) rfl)) ?_))
        refine mv rfl (cg rfl rfl (Ev.move (.t rfl)) ?_)
        refine cg rfl rfl (Ev.geq_i32 (.g rfl id) (.c (v:=Value.int .i32 48) rfl)) ?_
        refine cg rfl rfl (Ev.move (.g rfl id)) ?_
        refine cg rfl rfl (Ev.move (.t rfl)) ?_
        refine cg rfl rfl (Ev.leq_i32 (.g rfl id) (.c (v:=Value.int .i32 57) rfl)) ?_
        refine cg rfl rfl (Ev.pkA (.g rfl id) rfl) ?_
        refine cg rfl rfl (Ev.move (.g rfl id)) ?_
        refine cg rfl rfl (Ev.move (.t rfl)) ?_
        refine cg rfl rfl (Ev.eql_i32 (.g rfl id) (.c (v:=Value.int .i32 45) rfl)) ?_
        refine cg rfl rfl (Ev.pkO (.g rfl id) rfl) ?_
        refine cg rfl rfl (Ev.move (.g rfl id)) ?_
        refine cg rfl rfl (Ev.move (.t rfl)) ?_
        refine cg rfl rfl (Ev.eql_i32 (.g rfl id) (.c (v:=Value.int .i32 95) rfl)) ?_
        refine cg rfl rfl (Ev.pkO (.g rfl id) rfl) ?_
        refine co (Ev.pkA (.t rfl) rfl) ?_
        refine asn rfl (nP ?_)
        first | refine aL rfl (fun h3=>?_) (fun h3=>?_) | refine cond rfl (fun h3=>?_) (fun h3=>?_)
        · refine skip (bN (bN (pN (nx (X:=Nat) (_) ⟨?_,?_⟩ ?_))))
          · try dsimp only
            have hc:fC (Utf8.decode s i).1 i = true:=by
              unfold fC
              first
                | (rw [h2]; rfl)
                | (rw [h3]; simp)
            have hst:=iM hc
            have hst1:=hst.1
            omega
          · try dsimp only
            have hc:fC (Utf8.decode s i).1 i = true:=by
              unfold fC
              first
                | (rw [h2]; rfl)
                | (rw [h3]; simp)
            have hst:=iM hc
            have hst1:=hst.1
            intro k hk
            by_cases e:k < i
            · exact hq k e
            · obtain rfl:k = i:=by omega
              exact hst.2
          · try dsimp only
            have hc:fC (Utf8.decode s i).1 i = true:=by
              unfold fC
              first
                | (rw [h2]; rfl)
                | (rw [h3]; simp)
            have hst:=iM hc
            have hst1:=hst.1
            omega
        · refine sg (co (Ev.assign (.c (v:=.bool false) rfl)) ?_)
          refine nP (ret (bR (bR (pR (bR (pR (done rfl (.tmp rfl .nil) (bc ?_))))))))
          have hb:fC (s.get! i).toNat i = false:=name_bad (by unfold fC; rw [h2,h3]; rfl)
          have e:fZ s = false:=by
            unfold fZ
            have:(List.range s.size).all (fun k=>fC (s.get! k).toNat k) = false:=List.all_eq_false.2 ⟨i,List.mem_range.2 (by assumption),by simp [hb]⟩
            rw [this,Bool.and_false]
          rw [e]; rfl
def fH (l:CL) (m:aJ) (i:Int):Int:=if fZ m.name = false then 201 else if (cM eqs m.name (iD l)).getD 0 < i ∨ ckB m.bucket ≠ 0 then 2 else 0
theorem en103:Gx.aC Tryz.prog 103:=Gx.aC.mk' zk
theorem ty70:bF Tryz.prog 70 (ovE bf):=bF.mk' zk zk
theorem en104:Gx.aC Tryz.prog 104:=Gx.aC.mk' zk
theorem meter_ok (k:KB) (l:CL) (m:aJ) (i:Int) (w:World) (hk:iJ w k l) (hs:m.name.size ≤ 9223372036854775807):Gx.Calls Tryz.prog 69 #[bW.val k.k,ai.val m,I i] w (cD w (I (fH l m i))):=by
  refine en0 24 Tryz.func69 (fun _ _=>?_)
  refine sg (cons (box (E:=bW) (.t rfl) (fun b1=>?_)))
  refine cons (box (E:=ai) (.t rfl) (fun b2=>?_))
  refine co (Ev.assign (.c (v:=I 0) rfl)) ?_
  refine nP (seq (block (sg (co (fA 0 (.t rfl)) ?_))))
  refine co (Ev.ldx m.name ty9 (.t rfl) aJ.cN) ?_
  refine cons (aZ en103 (.cons (.t rfl) .nil) (fun w I=>name_ok _ w hs) ?_)
  refine co (Ev.not (.t rfl)) ?_
  refine asn rfl (nP ?_)
  first | refine aL rfl (fun h0=>?_) (fun h0=>?_) | refine cond rfl (fun h0=>?_) (fun h0=>?_)
  · try simp only [Gx.nb] at h0
    refine sg (co (Ev.assign (.c (v:=I 201) rfl)) ?_)
    refine nP (ret (bR (pR (done rfl (.tmp rfl .nil) (bc ?_)))))
    unfold fH; first | (rw [if_pos (by simpa using h0)]; rfl) | (rw [if_neg (by simpa using h0),if_pos (by first | exact .inl (by simpa using h1) | exact .inr (by simpa using h2))]; rfl) | (rw [if_neg (by simpa using h0),if_neg (by simp_all; done)]; rfl)
  · try simp only [Gx.nb] at h0
    refine seq (sg (co (fA 3 (.t rfl)) ?_))
    refine co (Ev.ldv ty70 (.t rfl) aN.dJ) ?_
    refine co (fA 0 (.t rfl)) ?_
    refine co (Ev.ldx m.name ty9 (.t rfl) aJ.cN) ?_
    refine co (Ev.od Tryz.underlying70 Tryz.underlying9 mL z3 (.t rfl) (.t rfl) (fun _=>(fun w I=>hk.ms.aT I.keeps))) ?_
    refine mv rfl (co (Ev.dx (.t rfl) (.t rfl)) ?_)
    refine asn rfl (nP ?_)
    first | refine aL rfl (fun h1=>?_) (fun h1=>?_) | refine cond rfl (fun h1=>?_) (fun h1=>?_)
    · try simp only [Gx.nb] at h1
      refine skip (pN ?_)
      first | refine aL rfl (fun h2=>?_) (fun h2=>?_) | refine cond rfl (fun h2=>?_) (fun h2=>?_)
      · try simp only [Gx.nb] at h2
        refine sg (co (Ev.assign (.c (v:=I 2) rfl)) ?_)
        refine nP (ret (bR (pR (done rfl (.tmp rfl .nil) (bc ?_)))))
        unfold fH; first | (rw [if_pos (by simpa using h0)]; rfl) | (rw [if_neg (by simpa using h0),if_pos (by first | exact .inl (by simpa using h1) | exact .inr (by simpa using h2))]; rfl) | (rw [if_neg (by simpa using h0),if_neg (by simp_all; done)]; rfl)
      · try simp only [Gx.nb] at h2
        refine skip (bN (pN (sg (co (Ev.assign (.c (v:=I 0) rfl)) ?_))))
        refine nP (ret (done rfl (.tmp rfl .nil) (bc ?_)))
        unfold fH; first | (rw [if_pos (by simpa using h0)]; rfl) | (rw [if_neg (by simpa using h0),if_pos (by first | exact .inl (by simpa using h1) | exact .inr (by simpa using h2))]; rfl) | (rw [if_neg (by simpa using h0),if_neg (by simp_all; done)]; rfl)
    · try simp only [Gx.nb] at h1
      refine region (co (fA 1 (.t rfl)) ?_)
      refine co (Ev.ldx m.bucket ty73 (.t rfl) aJ.mJ) ?_
      refine cons (aZ en104 (.cons (.t rfl) .nil) (fun w I=>bucket_ok _ w) ?_)
      refine co (Ev.eX (.t rfl) (.c (v:=I 0) rfl)) ?_
      refine asn rfl (nP ?_)
      first | refine aL rfl (fun h2=>?_) (fun h2=>?_) | refine cond rfl (fun h2=>?_) (fun h2=>?_)
      · try simp only [Gx.nb] at h2
        refine sg (co (Ev.assign (.c (v:=I 2) rfl)) ?_)
        refine nP (ret (bR (pR (done rfl (.tmp rfl .nil) (bc ?_)))))
        unfold fH; first | (rw [if_pos (by simpa using h0)]; rfl) | (rw [if_neg (by simpa using h0),if_pos (by first | exact .inl (by simpa using h1) | exact .inr (by simpa using h2))]; rfl) | (rw [if_neg (by simpa using h0),if_neg (by simp_all; done)]; rfl)
      · try simp only [Gx.nb] at h2
        refine skip (bN (pN (sg (co (Ev.assign (.c (v:=I 0) rfl)) ?_))))
        refine nP (ret (done rfl (.tmp rfl .nil) (bc ?_)))
        unfold fH; first | (rw [if_pos (by simpa using h0)]; rfl) | (rw [if_neg (by simpa using h0),if_pos (by first | exact .inl (by simpa using h1) | exact .inr (by simpa using h2))]; rfl) | (rw [if_neg (by simpa using h0),if_neg (by simp_all; done)]; rfl)
structure CB where
  o1:OV
  o2:OV
  o3:OV
  o4:OV
  o5:OV
def CB.c (x:CB) (d:Int):aV:=⟨x.o1,x.o2,x.o3,x.o4,x.o5,d⟩
def CB.R (x:CB) (l:CL):List Res:=[aP x.o5.v ae l.xs 77,aP x.o4.v ai l.ms 75,aP x.o3.v aG l.us 88,aP x.o2.v aA l.rs 111,aP x.o1.v iE l.ps 3]
structure CL.Small (l:CL):Prop where
  ps:l.ps.length ≤ 1048576
  rs:l.rs.length ≤ 1048576
  us:l.us.length ≤ 1048576
  ms:l.ms.length ≤ 1048576
  xs:l.xs.length ≤ 1048576
theorem z28:(Tryz.prog.info? 28).bind (·.zero) = some (aK.val aK.zero):=by kernel_rfl
theorem en27:Gx.aC Tryz.prog 27:=Gx.aC.mk' zk
theorem en28:Gx.aC Tryz.prog 28:=Gx.aC.mk' zk
theorem en29:Gx.aC Tryz.prog 29:=Gx.aC.mk' zk
theorem en30:Gx.aC Tryz.prog 30:=Gx.aC.mk' zk
theorem en31:Gx.aC Tryz.prog 31:=Gx.aC.mk' zk
theorem ty28:bF Tryz.prog 28 aK:=bF.mk' zk zk
theorem copy_ok (c:aV) (l:CL) (w:World) (hc:gw w c l) (hs:l.Small):Gx.Calls Tryz.prog 12 #[aK.val c] w (ja w (fun _:CB=>True) (fun x=>aK.val (x.c c.default)) (fun x=>x.R l)):=by
  refine en0 21 Tryz.func12 (fun _ _=>?_)
  refine sg (cons (box (E:=aK) (.t rfl) (fun b1=>?_)))
  refine cons (alloc z28 (fun b2=>?_))
  refine nP (seq (lK 2 rfl zr zk ?_))
  refine tk 0 rfl (fA 0 (.t rfl)) ?_
  refine tk 1 rfl (Ev.ldx c.gV ty22 (.t rfl) aV.dc) ?_
  refine tk 3 rfl (fA 1 (.t rfl)) ?_
  refine tk 4 rfl (Ev.ldx c.fa ty23 (.t rfl) aV.cH) ?_
  refine tk 6 rfl (fA 2 (.t rfl)) ?_
  refine tk 7 rfl (Ev.ldx c.rules ty24 (.t rfl) aV.dG) ?_
  refine tk 9 rfl (fA 3 (.t rfl)) ?_
  refine tk 10 rfl (Ev.ldx c.iw ty25 (.t rfl) aV.dJ) ?_
  refine tk 12 rfl (fA 4 (.t rfl)) ?_
  refine tk 13 rfl (Ev.ldx c.gk ty26 (.t rfl) aV.db) ?_
  refine tk 15 rfl (fA 5 (.t rfl)) ?_
  refine tk 16 rfl (Ev.ldx c.default ty3 (.t rfl) aV.eF) ?_
  refine al1 2 rfl ((callo en27 (.cons (.t rfl) .nil) (fun w I=>clone_3 _ _ w (hc.aT I.keeps).ps (by have:=hs.ps; omega)) (fun v3=>?_)))
  refine hdn (al1 5 rfl ((callo en28 (.cons (.t rfl) .nil) (fun w I=>clone_111 _ _ w (hc.aT I.keeps).rs (by have:=hs.rs; omega)) (fun v4=>?_))))
  refine hdn (al1 8 rfl ((callo en29 (.cons (.t rfl) .nil) (fun w I=>clone_88 _ _ w (hc.aT I.keeps).us (by have:=hs.us; omega)) (fun v5=>?_))))
  refine hdn (al1 11 rfl ((callo en30 (.cons (.t rfl) .nil) (fun w I=>clone_75 _ _ w (hc.aT I.keeps).ms (by have:=hs.ms; omega)) (fun v6=>?_))))
  refine hdn (al1 14 rfl ((callo en31 (.cons (.t rfl) .nil) (fun w I=>clone_77 _ _ w (hc.aT I.keeps).xs (by have:=hs.xs; omega)) (fun v7=>?_))))
  refine hdn (tk 17 rfl (Ev.aQ (fs:=_) (places:=[(0,1),(1,1),(2,1),(3,1),(4,1),(5,1)]) z28 rfl Tryz.underlying28 zk (.cons (.t rfl) (.cons (.t rfl) (.cons (.t rfl) (.cons (.t rfl) (.cons (.t rfl) (.cons (.t rfl) .nil)))))) (aj.cons aV.dc rfl (aj.cons aV.cH rfl (aj.cons aV.dG rfl (aj.cons aV.dJ rfl (aj.cons aV.db rfl (aj.cons aV.eF rfl aj.nil))))))) ?_)
  refine al1 18 rfl ((stv ty28 (ak.id _) (.t rfl) (.t rfl) ?_))
  refine hdn (ovr (pN (ret (done rfl (.cellP rfl ty28 (cT zm (ak.id _)) .nil) (fun w I=>?_)))))
  exact nQ (⟨v3,v4,v5,v6,v7⟩:CB) trivial rfl (by exact zs) w I
def fw (ps:List Int) (p i:Int):Int:=if p < 0 ∨ 255 < p then 5 else if 0 < i ∧ p ≤ ps.getD (i - 1).toNat 0 then 2 else 0
theorem port1_ok (c:aV) (ps:List Int) (b:Nat) (p i:Int) (w:World) (hc:cE aK w b 0 c) (hp:bH iE w c.gV.v ps) (hi:0 ≤ i ∧ i < ps.length):Gx.Calls Tryz.prog 63 #[I p,I i,.pointer (some ⟨b,0,none⟩)] w (cD w (I (fw ps p i))):=by
  have hle:=hp.le
  refine en0 26 Tryz.func63 (fun _ _=>?_)
  refine sg (co (Ev.assign (.c (v:=I 0) rfl)) ?_)
  refine nP (seq (block (sg (mv rfl (co (Ev.dx (.t rfl) (.c (v:=I 0) rfl)) ?_)))))
  refine mv rfl (cg rfl rfl (Ev.move (.t rfl)) ?_)
  refine cg rfl rfl (Ev.eJ (.g rfl id) (.c (v:=I 255) rfl)) ?_
  refine co (Ev.pkO (.t rfl) rfl) ?_
  refine asn rfl (nP ?_)
  first | refine aL rfl (fun h0=>?_) (fun h0=>?_) | refine cond rfl (fun h0=>?_) (fun h0=>?_)
  · try simp only [Gx.nb] at h0
    refine sg (co (Ev.assign (.c (v:=I 5) rfl)) ?_)
    refine nP (ret (bR (pR (done rfl (.tmp rfl .nil) (bc ?_)))))
    unfold fw; rw [if_pos (by simpa using h0)]; rfl
  · try simp only [Gx.nb] at h0
    refine sg (mv rfl (co (Ev.eJ (.t rfl) (.c (v:=I 0) rfl)) ?_))
    refine mv rfl (cg rfl rfl (Ev.move (.t rfl)) ?_)
    refine cg rfl rfl (fA 0 (.t rfl)) ?_
    refine cg rfl rfl (Ev.load ty22 (.g rfl id) (cU (fun w I=>hc.cB I.keeps) aV.dc)) ?_
    refine cg rfl rfl (Ev.move (.t rfl)) ?_
    refine cg rfl rfl (Ev.lx (.g rfl id) (.c (v:=I 1) rfl) (fun _=>by first | omega | (rename_i hg; simp at hg; omega))) ?_
    refine cg rfl rfl (Ev.indexAddr Tryz.underlying22 ty3 (.g rfl id) (.g rfl id) (fun w I=>hp.aT I.keeps) (fun _=>by first | omega | (rename_i hg; simp at hg; omega))) ?_
    refine cg rfl rfl (Ev.dp ty3 (.g rfl id) (fun w I=>hp.aT I.keeps) (fun _=>by first | omega | (rename_i hg; simp at hg; omega))) ?_
    refine cg rfl rfl (Ev.leq_i (.g rfl id) (.g rfl id)) ?_
    refine co (Ev.pkA (.t rfl) rfl) ?_
    refine asn rfl (nP ?_)
    first | refine aL rfl (fun h1=>?_) (fun h1=>?_) | refine cond rfl (fun h1=>?_) (fun h1=>?_)
    · try simp only [Gx.nb] at h1
      refine sg (co (Ev.assign (.c (v:=I 2) rfl)) ?_)
      refine nP (ret (bR (pR (done rfl (.tmp rfl .nil) (bc ?_)))))
      unfold fw; rw [if_neg (by omega),if_pos ⟨h1.1,h1.2⟩]; rfl
    · try simp only [Gx.nb] at h1
      refine skip (bN (pN (sg (co (Ev.assign (.c (v:=I 0) rfl)) ?_))))
      refine nP (ret (done rfl (.tmp rfl .nil) (bc ?_)))
      unfold fw; rw [if_neg (by omega),if_neg (fun hh=>h1.elim (fun e=>e hh.1) (fun e=>e hh.2))]; rfl
structure au where
  src:a7
  dst:a7
  bj:UInt8
  bx:UInt16
  bm:UInt16
  tTL:UInt8
  class_:UInt8
  id:UInt32
  flags:UInt8
  seq:UInt32
  data:OV
def au.to:(a7 × (a7 × (UInt8 × (UInt16 × (UInt16 × (UInt8 × (UInt8 × (UInt32 × (UInt8 × (UInt32 × OV))))))))))→au:=fun x=>⟨x.1,x.2.1,x.2.2.1,x.2.2.2.1,x.2.2.2.2.1,x.2.2.2.2.2.1,x.2.2.2.2.2.2.1,x.2.2.2.2.2.2.2.1,x.2.2.2.2.2.2.2.2.1,x.2.2.2.2.2.2.2.2.2.1,x.2.2.2.2.2.2.2.2.2.2⟩
def au.of:au→(a7 × (a7 × (UInt8 × (UInt16 × (UInt16 × (UInt8 × (UInt8 × (UInt32 × (UInt8 × (UInt32 × OV)))))))))):=fun x=>(x.src,x.dst,x.bj,x.bx,x.bm,x.tTL,x.class_,x.id,x.flags,x.seq,x.data)
def bS:Enc au:=iH (aa bP (aa bP (aa u8E (aa cd (aa cd (aa u8E (aa u8E (aa bG (aa u8E (aa bG (ovE aw))))))))))) au.to au.of
def au.ee:ak bS bP 0:=cP _ au.to au.of (fun _=>rfl) (dF bP (aa bP (aa u8E (aa cd (aa cd (aa u8E (aa u8E (aa bG (aa u8E (aa bG (ovE aw)))))))))))
@[simp] theorem au.get_src (x:au):au.ee.get x = x.src:=rfl
@[simp] theorem au.set_src (x:au) (y:a7):au.ee.set x y = { x with src:=y }:=rfl
def au.iA:ak bS bP 17:=cP _ au.to au.of (fun _=>rfl) (ak.comp (bg bP (aa bP (aa u8E (aa cd (aa cd (aa u8E (aa u8E (aa bG (aa u8E (aa bG (ovE aw))))))))))) (dF bP (aa u8E (aa cd (aa cd (aa u8E (aa u8E (aa bG (aa u8E (aa bG (ovE aw)))))))))))
@[simp] theorem au.get_dst (x:au):au.iA.get x = x.dst:=rfl
@[simp] theorem au.set_dst (x:au) (y:a7):au.iA.set x y = { x with dst:=y }:=rfl
def au.dH:ak bS u8E 34:=cP _ au.to au.of (fun _=>rfl) (ak.comp (bg bP (aa bP (aa u8E (aa cd (aa cd (aa u8E (aa u8E (aa bG (aa u8E (aa bG (ovE aw))))))))))) (ak.comp (bg bP (aa u8E (aa cd (aa cd (aa u8E (aa u8E (aa bG (aa u8E (aa bG (ovE aw)))))))))) (dF u8E (aa cd (aa cd (aa u8E (aa u8E (aa bG (aa u8E (aa bG (ovE aw)))))))))))
@[simp] theorem au.get_proto (x:au):au.dH.get x = x.bj:=rfl
@[simp] theorem au.set_proto (x:au) (y:UInt8):au.dH.set x y = { x with bj:=y }:=rfl
def au.da:ak bS cd 35:=cP _ au.to au.of (fun _=>rfl) (ak.comp (bg bP (aa bP (aa u8E (aa cd (aa cd (aa u8E (aa u8E (aa bG (aa u8E (aa bG (ovE aw))))))))))) (ak.comp (bg bP (aa u8E (aa cd (aa cd (aa u8E (aa u8E (aa bG (aa u8E (aa bG (ovE aw)))))))))) (ak.comp (bg u8E (aa cd (aa cd (aa u8E (aa u8E (aa bG (aa u8E (aa bG (ovE aw))))))))) (dF cd (aa cd (aa u8E (aa u8E (aa bG (aa u8E (aa bG (ovE aw)))))))))))
@[simp] theorem au.get_srcPort (x:au):au.da.get x = x.bx:=rfl
@[simp] theorem au.set_srcPort (x:au) (y:UInt16):au.da.set x y = { x with bx:=y }:=rfl
def au.cS:ak bS cd 36:=cP _ au.to au.of (fun _=>rfl) (ak.comp (bg bP (aa bP (aa u8E (aa cd (aa cd (aa u8E (aa u8E (aa bG (aa u8E (aa bG (ovE aw))))))))))) (ak.comp (bg bP (aa u8E (aa cd (aa cd (aa u8E (aa u8E (aa bG (aa u8E (aa bG (ovE aw)))))))))) (ak.comp (bg u8E (aa cd (aa cd (aa u8E (aa u8E (aa bG (aa u8E (aa bG (ovE aw))))))))) (ak.comp (bg cd (aa cd (aa u8E (aa u8E (aa bG (aa u8E (aa bG (ovE aw)))))))) (dF cd (aa u8E (aa u8E (aa bG (aa u8E (aa bG (ovE aw)))))))))))
@[simp] theorem au.get_dstPort (x:au):au.cS.get x = x.bm:=rfl
@[simp] theorem au.set_dstPort (x:au) (y:UInt16):au.cS.set x y = { x with bm:=y }:=rfl
def au.l_tTL:ak bS u8E 37:=cP _ au.to au.of (fun _=>rfl) (ak.comp (bg bP (aa bP (aa u8E (aa cd (aa cd (aa u8E (aa u8E (aa bG (aa u8E (aa bG (ovE aw))))))))))) (ak.comp (bg bP (aa u8E (aa cd (aa cd (aa u8E (aa u8E (aa bG (aa u8E (aa bG (ovE aw)))))))))) (ak.comp (bg u8E (aa cd (aa cd (aa u8E (aa u8E (aa bG (aa u8E (aa bG (ovE aw))))))))) (ak.comp (bg cd (aa cd (aa u8E (aa u8E (aa bG (aa u8E (aa bG (ovE aw)))))))) (ak.comp (bg cd (aa u8E (aa u8E (aa bG (aa u8E (aa bG (ovE aw))))))) (dF u8E (aa u8E (aa bG (aa u8E (aa bG (ovE aw)))))))))))
@[simp] theorem au.get_tTL (x:au):au.l_tTL.get x = x.tTL:=rfl
@[simp] theorem au.set_tTL (x:au) (y:UInt8):au.l_tTL.set x y = { x with tTL:=y }:=rfl
def au.l_class_:ak bS u8E 38:=cP _ au.to au.of (fun _=>rfl) (ak.comp (bg bP (aa bP (aa u8E (aa cd (aa cd (aa u8E (aa u8E (aa bG (aa u8E (aa bG (ovE aw))))))))))) (ak.comp (bg bP (aa u8E (aa cd (aa cd (aa u8E (aa u8E (aa bG (aa u8E (aa bG (ovE aw)))))))))) (ak.comp (bg u8E (aa cd (aa cd (aa u8E (aa u8E (aa bG (aa u8E (aa bG (ovE aw))))))))) (ak.comp (bg cd (aa cd (aa u8E (aa u8E (aa bG (aa u8E (aa bG (ovE aw)))))))) (ak.comp (bg cd (aa u8E (aa u8E (aa bG (aa u8E (aa bG (ovE aw))))))) (ak.comp (bg u8E (aa u8E (aa bG (aa u8E (aa bG (ovE aw)))))) (dF u8E (aa bG (aa u8E (aa bG (ovE aw)))))))))))
@[simp] theorem au.get_class_ (x:au):au.l_class_.get x = x.class_:=rfl
@[simp] theorem au.set_class_ (x:au) (y:UInt8):au.l_class_.set x y = { x with class_:=y }:=rfl
def au.l_id:ak bS bG 39:=cP _ au.to au.of (fun _=>rfl) (ak.comp (bg bP (aa bP (aa u8E (aa cd (aa cd (aa u8E (aa u8E (aa bG (aa u8E (aa bG (ovE aw))))))))))) (ak.comp (bg bP (aa u8E (aa cd (aa cd (aa u8E (aa u8E (aa bG (aa u8E (aa bG (ovE aw)))))))))) (ak.comp (bg u8E (aa cd (aa cd (aa u8E (aa u8E (aa bG (aa u8E (aa bG (ovE aw))))))))) (ak.comp (bg cd (aa cd (aa u8E (aa u8E (aa bG (aa u8E (aa bG (ovE aw)))))))) (ak.comp (bg cd (aa u8E (aa u8E (aa bG (aa u8E (aa bG (ovE aw))))))) (ak.comp (bg u8E (aa u8E (aa bG (aa u8E (aa bG (ovE aw)))))) (ak.comp (bg u8E (aa bG (aa u8E (aa bG (ovE aw))))) (dF bG (aa u8E (aa bG (ovE aw)))))))))))
@[simp] theorem au.get_id (x:au):au.l_id.get x = x.id:=rfl
@[simp] theorem au.set_id (x:au) (y:UInt32):au.l_id.set x y = { x with id:=y }:=rfl
def au.hZ:ak bS u8E 40:=cP _ au.to au.of (fun _=>rfl) (ak.comp (bg bP (aa bP (aa u8E (aa cd (aa cd (aa u8E (aa u8E (aa bG (aa u8E (aa bG (ovE aw))))))))))) (ak.comp (bg bP (aa u8E (aa cd (aa cd (aa u8E (aa u8E (aa bG (aa u8E (aa bG (ovE aw)))))))))) (ak.comp (bg u8E (aa cd (aa cd (aa u8E (aa u8E (aa bG (aa u8E (aa bG (ovE aw))))))))) (ak.comp (bg cd (aa cd (aa u8E (aa u8E (aa bG (aa u8E (aa bG (ovE aw)))))))) (ak.comp (bg cd (aa u8E (aa u8E (aa bG (aa u8E (aa bG (ovE aw))))))) (ak.comp (bg u8E (aa u8E (aa bG (aa u8E (aa bG (ovE aw)))))) (ak.comp (bg u8E (aa bG (aa u8E (aa bG (ovE aw))))) (ak.comp (bg bG (aa u8E (aa bG (ovE aw)))) (dF u8E (aa bG (ovE aw)))))))))))
@[simp] theorem au.get_flags (x:au):au.hZ.get x = x.flags:=rfl
@[simp] theorem au.set_flags (x:au) (y:UInt8):au.hZ.set x y = { x with flags:=y }:=rfl
def au.lH:ak bS bG 41:=cP _ au.to au.of (fun _=>rfl) (ak.comp (bg bP (aa bP (aa u8E (aa cd (aa cd (aa u8E (aa u8E (aa bG (aa u8E (aa bG (ovE aw))))))))))) (ak.comp (bg bP (aa u8E (aa cd (aa cd (aa u8E (aa u8E (aa bG (aa u8E (aa bG (ovE aw)))))))))) (ak.comp (bg u8E (aa cd (aa cd (aa u8E (aa u8E (aa bG (aa u8E (aa bG (ovE aw))))))))) (ak.comp (bg cd (aa cd (aa u8E (aa u8E (aa bG (aa u8E (aa bG (ovE aw)))))))) (ak.comp (bg cd (aa u8E (aa u8E (aa bG (aa u8E (aa bG (ovE aw))))))) (ak.comp (bg u8E (aa u8E (aa bG (aa u8E (aa bG (ovE aw)))))) (ak.comp (bg u8E (aa bG (aa u8E (aa bG (ovE aw))))) (ak.comp (bg bG (aa u8E (aa bG (ovE aw)))) (ak.comp (bg u8E (aa bG (ovE aw))) (dF bG (ovE aw)))))))))))
@[simp] theorem au.get_seq (x:au):au.lH.get x = x.seq:=rfl
@[simp] theorem au.set_seq (x:au) (y:UInt32):au.lH.set x y = { x with seq:=y }:=rfl
def au.fz:ak bS (ovE aw) 42:=cP _ au.to au.of (fun _=>rfl) (ak.comp (bg bP (aa bP (aa u8E (aa cd (aa cd (aa u8E (aa u8E (aa bG (aa u8E (aa bG (ovE aw))))))))))) (ak.comp (bg bP (aa u8E (aa cd (aa cd (aa u8E (aa u8E (aa bG (aa u8E (aa bG (ovE aw)))))))))) (ak.comp (bg u8E (aa cd (aa cd (aa u8E (aa u8E (aa bG (aa u8E (aa bG (ovE aw))))))))) (ak.comp (bg cd (aa cd (aa u8E (aa u8E (aa bG (aa u8E (aa bG (ovE aw)))))))) (ak.comp (bg cd (aa u8E (aa u8E (aa bG (aa u8E (aa bG (ovE aw))))))) (ak.comp (bg u8E (aa u8E (aa bG (aa u8E (aa bG (ovE aw)))))) (ak.comp (bg u8E (aa bG (aa u8E (aa bG (ovE aw))))) (ak.comp (bg bG (aa u8E (aa bG (ovE aw)))) (ak.comp (bg u8E (aa bG (ovE aw))) (ak.comp (bg bG (ovE aw)) (ak.id (ovE aw))))))))))))
@[simp] theorem au.get_data (x:au):au.fz.get x = x.data:=rfl
@[simp] theorem au.set_data (x:au) (y:OV):au.fz.set x y = { x with data:=y }:=rfl
def iX (x:UInt8) (j:Nat):UInt8:=shr8 x (7 - j) &&& 1
theorem fg (x:UInt8) (j:Nat):(iX x j).toNat = bn x.toNat (7 - j):=by
  unfold iX bn
  rw [UInt8.toNat_and,oE]
  have e:UInt8.toNat 1 = 1:=rfl
  rw [e,Nat.and_one_is_mod]
theorem k9 (xs:List UInt8) (q j:Nat) (hj:j < 8):dk xs (8 * (q:Int) + j) = iX (xs.getD q 0) j:=by
  unfold dk iX
  have e1:((8 * (q:Int) + j) / 8).toNat = q:=by omega
  have e2:(7 - (8 * (q:Int) + j) % 8).toNat = 7 - j:=by omega
  rw [e1,e2]
set_option maxRecDepth 100000 in
theorem mk1_dec:∀ n:Fin 256,∀ l:Fin 9,(mk1 (l.val:Int) (UInt8.ofNat n.val) = UInt8.ofNat n.val ↔ ∀ j:Fin 8,l.val ≤ j.val→bn n.val (7 - j.val) = 0):=by decide +kernel
theorem mk1_iff (x:UInt8) (left:Int):mk1 left x = x ↔ ∀ j:Nat,j < 8→left ≤ j→iX x j = 0:=by
  have key:∀ l:Nat,l < 9→(mk1 (l:Int) x = x ↔ ∀ j:Nat,j < 8→l ≤ j→iX x j = 0):=fun l hl=>by
    have h:=mk1_dec ⟨x.toNat,x.toNat_lt⟩ ⟨l,hl⟩
    simp only [UInt8.ofNat_toNat] at h
    rw [h]
    constructor
    · intro h1 j hj hlj
      apply UInt8.toNat_inj.1
      rw [fg]
      exact h1 ⟨j,hj⟩ hlj
    · intro h1 j hlj
      rw [← fg,h1 j.val j.isLt hlj]
      rfl
  by_cases h0:left ≤ 0
  · have e:mk1 left x = mk1 ((0:Nat):Int) x:=by
      unfold mk1
      rw [if_pos h0,if_pos (by omega)]
    rw [e,key 0 (by omega)]
    exact ⟨fun h j hj _=>h j hj (Nat.zero_le _),fun h j hj _=>h j hj (by omega)⟩
  · by_cases h8:left < 8
    · have e:left = (left.toNat:Int):=by omega
      rw [e,key left.toNat (by omega)]
      exact ⟨fun h j hj hl=>h j hj (by omega),fun h j hj hl=>h j hj (by omega)⟩
    · have e:mk1 left x = x:=by
        unfold mk1
        rw [if_neg h0,if_neg h8]
      exact ⟨fun _ j hj hl=>by omega,fun _=>e⟩
theorem iQ (b:Vector UInt8 16) (k:Nat) (h:k < 16):b.toList.getD k 0 = b[k]:=by simp [List.getD,h]
theorem mask_bits (n:Int) (b:Vector UInt8 16) (h0:0 ≤ n):fP n b = b ↔ ∀ i:Int,n ≤ i→i < 128→dk b.toList i = 0:=by
  have step:fP n b = b ↔ ∀ (k:Nat) (hk:k < 16),mk1 (n - 8 * (k:Int)) b[k] = b[k]:=by
    constructor
    · intro h k hk
      have:=congrArg (fun v:Vector UInt8 16=>v[k]) h
      simpa [fP] using this
    · intro h
      apply Vector.ext
      intro k hk
      have:=h k hk
      simpa [fP] using this
  rw [step]
  constructor
  · intro h i h1 h2
    have hk:(i / 8).toNat < 16:=by omega
    have h3:=(mk1_iff _ _).1 (h (i / 8).toNat hk) (i % 8).toNat (by omega) (by omega)
    have e:i = 8 * ((i / 8).toNat:Int) + ((i % 8).toNat:Int):=by omega
    rw [e,k9 _ _ _ (by omega),iQ b _ hk]
    exact h3
  · intro h k hk
    refine (mk1_iff _ _).2 (fun j hj hl=>?_)
    have h3:=h (8 * (k:Int) + j) (by omega) (by omega)
    rw [k9 _ _ _ hj,iQ b _ hk] at h3
    exact h3
theorem nM (a:a7):aM a = 0 ↔ ∀ i:Int,wd a ≤ i→i < 128→dk a.b.toList i = 0:=by
  have:=lq a
  rw [← mask_bits (wd a) a.b (by omega)]
  unfold aM
  split <;> simp_all
theorem eD (p:aq):cO p = 0 ↔ 0 ≤ p.bits ∧ p.bits ≤ wd p.addr ∧ ∀ i:Int,p.bits ≤ i→i < 128→dk p.addr.b.toList i = 0:=by
  unfold cO
  by_cases h0:0 ≤ p.bits
  · rw [← mask_bits p.bits p.addr.b h0]
    split
    · rename_i h
      constructor
      · intro h; cases h
      · intro h2; exfalso; rcases h with h | h | h
        · omega
        · omega
        · exact h h2.2.2
    · rename_i h
      simp only [not_or,Decidable.not_not] at h
      exact ⟨fun _=>⟨h0,(by omega),h.2.2⟩,fun _=>rfl⟩
  · rw [if_pos (.inl (by omega))]
    exact ⟨fun h=>(by cases h),fun h=>absurd h.1 h0⟩
theorem nL (p:aq) (h:cO p = 0):aM p.addr = 0:=by
  obtain ⟨h0,h1,h2⟩:=(eD p).1 h
  exact (nM p.addr).2 (fun i hi h3=>h2 i (by omega) h3)
theorem common_ge (a b:List UInt8) (n:Int) (ha:a.length = 16) (hb:b.length = 16) (h1:n ≤ 128):n ≤ gO a b ↔ ∀ i:Int,0 ≤ i→i < n→dk a i = dk b i:=by
  have h:=pD a b
  constructor
  · intro h2 i h3 h4
    exact h.eq i h3 (by omega)
  · intro h2
    rcases Int.lt_or_le (gO a b) n with h3 | h3
    · exact absurd (h2 _ h.p h3) (h.ne (by omega) (by omega))
    · exact h3
theorem nX (b:Vector UInt8 16):b.toList.length = 16:=by simp
theorem jH (p:aq) (a:a7):jI p a = true ↔ cO p = 0 ∧ aM a = 0 ∧ a.v6 = p.addr.v6 ∧ ∀ i:Int,0 ≤ i→i < p.bits→dk a.b.toList i = dk p.addr.b.toList i:=by
  unfold jI
  simp only [Bool.and_eq_true,decide_eq_true_eq,and_assoc]
  constructor
  · rintro ⟨h1,h2,h3,h4⟩
    obtain ⟨g0,g1,_⟩:=(eD p).1 h1
    have:=lq p.addr
    exact ⟨h1,h2,h3,(common_ge _ _ _ (nX _) (nX _) (by omega)).1 h4⟩
  · rintro ⟨h1,h2,h3,h4⟩
    obtain ⟨g0,g1,_⟩:=(eD p).1 h1
    have:=lq p.addr
    exact ⟨h1,h2,h3,(common_ge _ _ _ (nX _) (nX _) (by omega)).2 h4⟩
def cq (m:aB) (w:UInt8):Bool:=decide (¬ m.asks &&& w = 0)
theorem gQ (m:aB) (q:UInt8) (w:World):Gx.Calls Tryz.prog 77 #[ay.val m,U8 q] w (cD w (.bool (cq m q))):=by
  refine en0 10 Tryz.func77 (fun _ _=>?_)
  refine sg (cons (box (E:=ay) (.t rfl) (fun b1=>?_)))
  refine co (Ev.assign (.c (v:=.bool false) rfl)) ?_
  refine nP (sg (co (fA 0 (.t rfl)) ?_))
  refine co (Ev.ldx m.asks ty5 (.t rfl) aB.eI) ?_
  refine mv rfl (co (Ev.and_u8 (.t rfl) (.t rfl)) ?_)
  refine co (Ev.eP (.t rfl) (.c (v:=U8 0) rfl)) ?_
  refine asn rfl (nP (ret (done rfl (.tmp rfl .nil) (bc ?_))))
  rfl
def portsB (p:UInt8):Bool:=decide (p = 6) || decide (p = 17)
def nW (s:bK) (n:Int):Bool:=decide ((s.from_.toNat:Int) ≤ n) && decide (n ≤ (s.to_.toNat:Int))
theorem mZ (s:bK) (n:Int) (w:World):Gx.Calls Tryz.prog 79 #[bB.val s,I n] w (cD w (.bool (nW s n))):=by
  refine en0 17 Tryz.func79 (fun _ _=>?_)
  refine sg (cons (box (E:=bB) (.t rfl) (fun b1=>?_)))
  refine co (Ev.assign (.c (v:=.bool false) rfl)) ?_
  refine nP (sg (mv rfl (co (fA 0 (.t rfl)) ?_)))
  refine co (Ev.ldx s.from_ gE (.t rfl) bK.iG) ?_
  refine co (Ev.jX Tryz.underlying3 Tryz.underlying43 (.t rfl)) ?_
  refine co (Ev.geq_i (.t rfl) (.t rfl)) ?_
  refine mv rfl (cg rfl rfl (Ev.move (.t rfl)) ?_)
  refine cg rfl rfl (fA 1 (.t rfl)) ?_
  refine cg rfl rfl (Ev.ldx s.to_ gE (.g rfl id) bK.dW) ?_
  refine cg rfl rfl (Ev.jX Tryz.underlying3 Tryz.underlying43 (.g rfl id)) ?_
  refine cg rfl rfl (Ev.leq_i (.g rfl id) (.g rfl id)) ?_
  refine co (Ev.pkA (.t rfl) rfl) ?_
  refine asn rfl (nP (ret (done rfl (.tmp rfl .nil) (bc ?_))))
  rfl
theorem eQ {α:Type} (l:List α) (i:Int) (h0:0 ≤ i) (h1:i < l.length) (z:α):l.take (i + 1).toNat = l.take i.toNat ++ [l.getD i.toNat z]:=by
  have e:(i + 1).toNat = i.toNat + 1:=by omega
  have h2:i.toNat < l.length:=by omega
  rw [e,List.take_succ_eq_append_getElem h2]
  simp [List.getD,h2]
def bad0 (m:aB):Bool:=decide (63 < m.asks) || (!cq m 1 && !decide (m.in_ = bB.zero)) || (!cq m 2 && !decide (m.src = aH.zero)) || (!cq m 4 && !decide (m.dst = aH.zero)) || (!cq m 8 && decide (¬ m.bj = 0)) || (!cq m 16 && !decide (m.bx = bB.zero)) || (!cq m 32 && !decide (m.bm = bB.zero))
def bad1 (m:aB):Bool:=decide (m.in_.to_ < m.in_.from_) || decide (255 < m.in_.to_) || decide (m.bx.to_ < m.bx.from_) || decide (m.bm.to_ < m.bm.from_)
def bad2 (m:aB):Bool:=(cq m 2 && !decide (cO m.src = 0)) || (cq m 4 && !decide (cO m.dst = 0)) || (cq m 2 && cq m 4 && decide (¬ m.src.addr.v6 = m.dst.addr.v6))
def good3 (m:aB):Bool:=(!cq m 16 && !cq m 32) || (cq m 8 && portsB m.bj)
def okM (m:aB):Bool:=!bad0 m && !bad1 m && !bad2 m && good3 m
def ckM (m:aB):Int:=bif okM m then 0 else 190
theorem gP (m:aB):decide (ckM m = 0) = okM m:=by unfold ckM; cases okM m <;> rfl
def fW (c:Bool) (f h:UInt8):UInt8:=bif c then h ||| f else h
theorem u8_or_zero (x y:UInt8):x ||| y = 0 ↔ x = 0 ∧ y = 0:=by
  constructor
  · intro h
    have h1:=congrArg UInt8.toNat h
    rw [UInt8.toNat_or] at h1
    have h2:UInt8.toNat 0 = 0:=rfl
    rw [h2] at h1
    have h3:x.toNat ≤ x.toNat ||| y.toNat:=Nat.left_le_or
    have h4:y.toNat ≤ x.toNat ||| y.toNat:=Nat.right_le_or
    exact ⟨UInt8.toNat_inj.1 (by rw [h2]; omega),UInt8.toNat_inj.1 (by rw [h2]; omega)⟩
  · rintro ⟨rfl,rfl⟩
    rfl
theorem addF_and (c:Bool) (f h a:UInt8):fW c f h &&& a = 0 ↔ (c = true→f &&& a = 0) ∧ h &&& a = 0:=by
  unfold fW
  cases c
  · simp
  · simp only [cond_true,forall_const]
    have e:(h ||| f) &&& a = h &&& a ||| f &&& a:=by
      apply UInt8.toNat_inj.1
      simp only [UInt8.toNat_and,UInt8.toNat_or,Nat.and_or_distrib_right]
    rw [e,u8_or_zero]
    exact and_comm
set_option maxRecDepth 100000 in
theorem not_dec:∀ w ∈ ([1,2,4,8,16,32]:List UInt8),∀ n:Fin 256,(w &&& ~~~ (UInt8.ofNat n.val) = 0) = (¬ UInt8.ofNat n.val &&& w = 0):=by
  intro w hw n
  have h:∀ w ∈ ([1,2,4,8,16,32]:List UInt8),∀ n:Fin 256,decide (w &&& ~~~ (UInt8.ofNat n.val) = 0) = decide (¬ UInt8.ofNat n.val &&& w = 0):=by decide +kernel
  have:=h w hw n
  rw [Bool.eq_iff_iff,decide_eq_true_iff,decide_eq_true_iff] at this
  exact propext this
theorem not_asks (m:aB) (w:UInt8) (h:w ∈ ([1,2,4,8,16,32]:List UInt8)):(w &&& ~~~ m.asks = 0) ↔ cq m w = true:=by
  have:=not_dec w h ⟨m.asks.toNat,m.asks.toNat_lt⟩
  simp only [UInt8.ofNat_toNat] at this
  unfold cq
  rw [this,decide_eq_true_iff]
set_option maxRecDepth 100000 in
theorem big_dec:∀ n:Fin 256,decide (¬ UInt8.ofNat n.val &&& ~~~ 63 = 0) = decide (63 < UInt8.ofNat n.val):=by decide +kernel
theorem big_asks (x:UInt8):decide (¬ x &&& ~~~ 63 = 0) = decide (63 < x):=by
  have:=big_dec ⟨x.toNat,x.toNat_lt⟩
  simpa only [UInt8.ofNat_toNat] using this
set_option maxRecDepth 100000 in
theorem p48_dec:∀ n:Fin 256,decide (¬ UInt8.ofNat n.val &&& 48 = 0) = (decide (¬ UInt8.ofNat n.val &&& 16 = 0) || decide (¬ UInt8.ofNat n.val &&& 32 = 0)):=by decide +kernel
theorem asks48 (m:aB):cq m 48 = (cq m 16 || cq m 32):=by
  have:=p48_dec ⟨m.asks.toNat,m.asks.toNat_lt⟩
  unfold cq
  simpa only [UInt8.ofNat_toNat] using this
theorem jN (c:Bool) (f h:UInt8) (m:aB) (hf:f ∈ ([1,2,4,8,16,32]:List UInt8)):decide (¬ fW c f h &&& ~~~ m.asks = 0) = ((!cq m f && c) || decide (¬ h &&& ~~~ m.asks = 0)):=by
  have h1:=addF_and c f h (~~~ m.asks)
  have h2:=not_asks m f hf
  rw [Bool.eq_iff_iff]
  rw [h2] at h1
  cases c <;> cases hq:cq m f <;> rw [hq] at h1 <;> simp [h1]
theorem good3_of (m:aB) (h:cq m 16 = true ∨ cq m 32 = true→¬m.bj = 6→m.bj = 17) (hp:cq m 8 = false→m.bj = 0):good3 m = true:=by
  unfold good3 portsB
  by_cases p6:m.bj = 6 <;> by_cases p17:m.bj = 17 <;> cases h16:cq m 16 <;> cases h32:cq m 32 <;> cases h8:cq m 8 <;> simp_all
theorem has_bad (m:aB) (c1 c2 c3 c4 c5 c6:Bool):(decide (¬ m.asks &&& ~~~ 63 = 0) || decide (¬ fW c6 32 (fW c5 16 (fW c4 8 (fW c3 4 (fW c2 2 (fW c1 1 0))))) &&& ~~~ m.asks = 0)) =
    (decide (63 < m.asks) || (!cq m 1 && c1) || (!cq m 2 && c2) || (!cq m 4 && c3) || (!cq m 8 && c4) || (!cq m 16 && c5) || (!cq m 32 && c6)):=by
  rw [big_asks,jN _ _ _ _ (by decide),jN _ _ _ _ (by decide),jN _ _ _ _ (by decide),jN _ _ _ _ (by decide),jN _ _ _ _ (by decide),jN _ _ _ _ (by decide)]
  have e:decide (¬ (0:UInt8) &&& ~~~ m.asks = 0) = false:=by simp
  rw [e]
  ac_rfl
theorem z82:(Tryz.prog.info? 82).bind (·.zero) = some (bB.val bB.zero):=by kernel_rfl
theorem pA:Gx.aC Tryz.prog 77:=Gx.aC.mk' zk
set_option maxRecDepth 8000 in
theorem check_ok (m:aB) (w:World):Gx.Calls Tryz.prog 35 #[ay.val m] w (cD w (I (ckM m))):=by
  refine en0 136 Tryz.func35 (fun _ _=>?_)
  refine sg (cons (box (E:=ay) (.t rfl) (fun b1=>?_)))
  refine co (Ev.assign (.c (v:=I 0) rfl)) ?_
  refine nP (sg (co (Ev.assign (.c (v:=U8 0) rfl)) ?_))
  refine nP (cut (X:=UInt8) (fun x:UInt8=>(x = fW (!decide (m.in_ = bB.zero)) 1 0)) (fun x:UInt8=>[dz,(1,true,.pointer (some ⟨b1,0,none⟩)),(3,true,U8 x)]) (fun x:UInt8=>[Var b1 ay m 86]) ?_ (fun x hx=>?_))
  · refine sg (co (fA 1 (.t rfl)) ?_)
    refine co (Ev.ldx m.in_ ty82 (.t rfl) aB.jF) ?_
    refine co (Ev.aQ (fs:=_) (places:=[(0,1),(1,1)]) z82 rfl Tryz.underlying82 zk .nil aj.nil) ?_
    refine co (Ev.neqS rfl eqok82 rfl zk (.t rfl) (.t rfl)) ?_
    refine nP ?_
    first | refine aL rfl (fun h0=>?_) (fun h0=>?_) | refine cond rfl (fun h0=>?_) (fun h0=>?_)
    · refine region (mv rfl (co (Ev.or_u8 (.t rfl) (.c (v:=U8 1) rfl)) ?_))
      refine asn rfl (nP (mt (X:=UInt8) (_) ?_))
      · try dsimp only
        all_goals (unfold fW; first | (simp_all; done) | rfl)
    · refine skip (pN (mt (X:=UInt8) (_) ?_))
      · try dsimp only
        all_goals (unfold fW; first | (simp_all; done) | rfl)
  obtain ⟨k1,rfl⟩:∃ y,y = x:=⟨x,rfl⟩
  have hk1:k1 = fW (!decide (m.in_ = bB.zero)) 1 0:=hx
  clear hx
  show Sat _ _ [dz,(1,true,.pointer (some ⟨b1,0,none⟩)),(3,true,U8 k1)] [Var b1 ay m 86]
  refine cut (X:=UInt8) (fun x:UInt8=>(x = fW (!decide (m.src = aH.zero)) 2 k1)) (fun x:UInt8=>[dz,(1,true,.pointer (some ⟨b1,0,none⟩)),(3,true,U8 x)]) (fun x:UInt8=>[Var b1 ay m 86]) ?_ (fun x hx=>?_)
  · refine sg (co (fA 3 (.t rfl)) ?_)
    refine co (Ev.ldx m.src cW (.t rfl) aB.ee) ?_
    refine co (Ev.aQ (fs:=_) (places:=[(0,17),(17,1)]) z84 rfl Tryz.underlying84 zk .nil aj.nil) ?_
    refine co (Ev.neqS rfl kK rfl zk (.t rfl) (.t rfl)) ?_
    refine nP ?_
    first | refine aL rfl (fun h1=>?_) (fun h1=>?_) | refine cond rfl (fun h1=>?_) (fun h1=>?_)
    · refine region (mv rfl (co (Ev.or_u8 (.t rfl) (.c (v:=U8 2) rfl)) ?_))
      refine asn rfl (nP (mt (X:=UInt8) (_) ?_))
      · try dsimp only
        all_goals (unfold fW; first | (simp_all; done) | rfl)
    · refine skip (pN (mt (X:=UInt8) (_) ?_))
      · try dsimp only
        all_goals (unfold fW; first | (simp_all; done) | rfl)
  obtain ⟨k2,rfl⟩:∃ y,y = x:=⟨x,rfl⟩
  have hk2:k2 = fW (!decide (m.src = aH.zero)) 2 k1:=hx
  clear hx
  show Sat _ _ [dz,(1,true,.pointer (some ⟨b1,0,none⟩)),(3,true,U8 k2)] [Var b1 ay m 86]
  refine cut (X:=UInt8) (fun x:UInt8=>(x = fW (!decide (m.dst = aH.zero)) 4 k2)) (fun x:UInt8=>[dz,(1,true,.pointer (some ⟨b1,0,none⟩)),(3,true,U8 x)]) (fun x:UInt8=>[Var b1 ay m 86]) ?_ (fun x hx=>?_)
  · refine sg (co (fA 21 (.t rfl)) ?_)
    refine co (Ev.ldx m.dst cW (.t rfl) aB.iA) ?_
    refine co (Ev.aQ (fs:=_) (places:=[(0,17),(17,1)]) z84 rfl Tryz.underlying84 zk .nil aj.nil) ?_
    refine co (Ev.neqS rfl kK rfl zk (.t rfl) (.t rfl)) ?_
    refine nP ?_
    first | refine aL rfl (fun h2=>?_) (fun h2=>?_) | refine cond rfl (fun h2=>?_) (fun h2=>?_)
    · refine region (mv rfl (co (Ev.or_u8 (.t rfl) (.c (v:=U8 4) rfl)) ?_))
      refine asn rfl (nP (mt (X:=UInt8) (_) ?_))
      · try dsimp only
        all_goals (unfold fW; first | (simp_all; done) | rfl)
    · refine skip (pN (mt (X:=UInt8) (_) ?_))
      · try dsimp only
        all_goals (unfold fW; first | (simp_all; done) | rfl)
  obtain ⟨k3,rfl⟩:∃ y,y = x:=⟨x,rfl⟩
  have hk3:k3 = fW (!decide (m.dst = aH.zero)) 4 k2:=hx
  clear hx
  show Sat _ _ [dz,(1,true,.pointer (some ⟨b1,0,none⟩)),(3,true,U8 k3)] [Var b1 ay m 86]
  refine cut (X:=UInt8) (fun x:UInt8=>(x = fW (decide (¬ m.bj = 0)) 8 k3)) (fun x:UInt8=>[dz,(1,true,.pointer (some ⟨b1,0,none⟩)),(3,true,U8 x)]) (fun x:UInt8=>[Var b1 ay m 86]) ?_ (fun x hx=>?_)
  · refine sg (co (fA 39 (.t rfl)) ?_)
    refine co (Ev.ldx m.bj ty5 (.t rfl) aB.dH) ?_
    refine co (Ev.eP (.t rfl) (.c (v:=U8 0) rfl)) ?_
    refine nP ?_
    first | refine aL rfl (fun h3=>?_) (fun h3=>?_) | refine cond rfl (fun h3=>?_) (fun h3=>?_)
    · refine region (mv rfl (co (Ev.or_u8 (.t rfl) (.c (v:=U8 8) rfl)) ?_))
      refine asn rfl (nP (mt (X:=UInt8) (_) ?_))
      · try dsimp only
        all_goals (unfold fW; first | (simp_all; done) | rfl)
    · refine skip (pN (mt (X:=UInt8) (_) ?_))
      · try dsimp only
        all_goals (unfold fW; first | (simp_all; done) | rfl)
  obtain ⟨k4,rfl⟩:∃ y,y = x:=⟨x,rfl⟩
  have hk4:k4 = fW (decide (¬ m.bj = 0)) 8 k3:=hx
  clear hx
  show Sat _ _ [dz,(1,true,.pointer (some ⟨b1,0,none⟩)),(3,true,U8 k4)] [Var b1 ay m 86]
  refine cut (X:=UInt8) (fun x:UInt8=>(x = fW (!decide (m.bx = bB.zero)) 16 k4)) (fun x:UInt8=>[dz,(1,true,.pointer (some ⟨b1,0,none⟩)),(3,true,U8 x)]) (fun x:UInt8=>[Var b1 ay m 86]) ?_ (fun x hx=>?_)
  · refine sg (co (fA 40 (.t rfl)) ?_)
    refine co (Ev.ldx m.bx ty82 (.t rfl) aB.da) ?_
    refine co (Ev.aQ (fs:=_) (places:=[(0,1),(1,1)]) z82 rfl Tryz.underlying82 zk .nil aj.nil) ?_
    refine co (Ev.neqS rfl eqok82 rfl zk (.t rfl) (.t rfl)) ?_
    refine nP ?_
    first | refine aL rfl (fun h4=>?_) (fun h4=>?_) | refine cond rfl (fun h4=>?_) (fun h4=>?_)
    · refine region (mv rfl (co (Ev.or_u8 (.t rfl) (.c (v:=U8 16) rfl)) ?_))
      refine asn rfl (nP (mt (X:=UInt8) (_) ?_))
      · try dsimp only
        all_goals (unfold fW; first | (simp_all; done) | rfl)
    · refine skip (pN (mt (X:=UInt8) (_) ?_))
      · try dsimp only
        all_goals (unfold fW; first | (simp_all; done) | rfl)
  obtain ⟨k5,rfl⟩:∃ y,y = x:=⟨x,rfl⟩
  have hk5:k5 = fW (!decide (m.bx = bB.zero)) 16 k4:=hx
  clear hx
  show Sat _ _ [dz,(1,true,.pointer (some ⟨b1,0,none⟩)),(3,true,U8 k5)] [Var b1 ay m 86]
  refine cut (X:=UInt8) (fun x:UInt8=>(x = fW (!decide (m.bm = bB.zero)) 32 k5)) (fun x:UInt8=>[dz,(1,true,.pointer (some ⟨b1,0,none⟩)),(3,true,U8 x)]) (fun x:UInt8=>[Var b1 ay m 86]) ?_ (fun x hx=>?_)
  · refine sg (co (fA 42 (.t rfl)) ?_)
    refine co (Ev.ldx m.bm ty82 (.t rfl) aB.cS) ?_
    refine co (Ev.aQ (fs:=_) (places:=[(0,1),(1,1)]) z82 rfl Tryz.underlying82 zk .nil aj.nil) ?_
    refine co (Ev.neqS rfl eqok82 rfl zk (.t rfl) (.t rfl)) ?_
    refine nP ?_
    first | refine aL rfl (fun h5=>?_) (fun h5=>?_) | refine cond rfl (fun h5=>?_) (fun h5=>?_)
    · refine region (mv rfl (co (Ev.or_u8 (.t rfl) (.c (v:=U8 32) rfl)) ?_))
      refine asn rfl (nP (mt (X:=UInt8) (_) ?_))
      · try dsimp only
        all_goals (unfold fW; first | (simp_all; done) | rfl)
    · refine skip (pN (mt (X:=UInt8) (_) ?_))
      · try dsimp only
        all_goals (unfold fW; first | (simp_all; done) | rfl)
  obtain ⟨k6,rfl⟩:∃ y,y = x:=⟨x,rfl⟩
  have hk6:k6 = fW (!decide (m.bm = bB.zero)) 32 k5:=hx
  clear hx
  show Sat _ _ [dz,(1,true,.pointer (some ⟨b1,0,none⟩)),(3,true,U8 k6)] [Var b1 ay m 86]
  refine sg (mv rfl (co (fA 0 (.t rfl)) ?_))
  refine co (Ev.ldx m.asks ty5 (.t rfl) aB.eI) ?_
  refine co (Ev.andNot_u8 (.t rfl) (.t rfl)) ?_
  refine asn rfl (nP (sg (co (Ev.ldx m gU (.t rfl) (ak.id _)) ?_)))
  refine cons (aZ pA (.cons (.t rfl) (.cons (.c (v:=U8 48) rfl) .nil)) (fun w I=>gQ _ _ w) ?_)
  refine asn rfl (nP (seq (block (sg ?_))))
  have hhb:=has_bad m (!decide (m.in_ = bB.zero)) (!decide (m.src = aH.zero)) (!decide (m.dst = aH.zero)) (decide (¬ m.bj = 0)) (!decide (m.bx = bB.zero)) (!decide (m.bm = bB.zero))
  rw [← hk1,← hk2,← hk3,← hk4,← hk5,← hk6] at hhb
  refine co (fA 0 (.t rfl)) ?_
  refine co (Ev.ldx m.asks ty5 (.t rfl) aB.eI) ?_
  refine co (Ev.andNot_u8 (.t rfl) (.c (v:=U8 63) rfl)) ?_
  refine co (Ev.eP (.t rfl) (.c (v:=U8 0) rfl)) ?_
  refine mv rfl (cg rfl rfl (Ev.move (.t rfl)) ?_)
  refine cg rfl rfl (Ev.eP (.g rfl id) (.c (v:=U8 0) rfl)) ?_
  refine co (Ev.pkO (.t rfl) rfl) ?_
  refine asn rfl (nP ?_)
  first | refine aL rfl (fun h6=>?_) (fun h6=>?_) | refine cond rfl (fun h6=>?_) (fun h6=>?_)
  · refine sg (co (Ev.assign (.c (v:=I 190) rfl)) ?_)
    refine nP (ret (bR (pR (done rfl (.tmp rfl .nil) (bc ?_)))))
    have hb:bad0 m = true:=hhb.symm.trans h6
    unfold ckM okM; rw [hb]; rfl
  · refine sg (co (fA 1 (.t rfl)) ?_)
    refine co (fA 0 (.t rfl)) ?_
    refine co (Ev.ldx m.in_.from_ gE (.t rfl) (ak.comp aB.jF bK.iG)) ?_
    refine co (fA 1 (.t rfl)) ?_
    refine co (fA 1 (.t rfl)) ?_
    refine co (Ev.ldx m.in_.to_ gE (.t rfl) (ak.comp aB.jF bK.dW)) ?_
    refine co (Ev.og (.t rfl) (.t rfl)) ?_
    refine mv rfl (cg rfl rfl (fA 1 (.t rfl)) ?_)
    refine cg rfl rfl (fA 1 (.g rfl id)) ?_
    refine cg rfl rfl (Ev.ldx m.in_.to_ gE (.g rfl id) (ak.comp aB.jF bK.dW)) ?_
    refine cg rfl rfl (Ev.og (.g rfl id) (.c (v:=U16 255) rfl)) ?_
    refine co (Ev.pkO (.t rfl) rfl) ?_
    refine mv rfl (cg rfl rfl (fA 40 (.t rfl)) ?_)
    refine cg rfl rfl (fA 0 (.g rfl id)) ?_
    refine cg rfl rfl (Ev.ldx m.bx.from_ gE (.g rfl id) (ak.comp aB.da bK.iG)) ?_
    refine cg rfl rfl (fA 40 (.t rfl)) ?_
    refine cg rfl rfl (fA 1 (.g rfl id)) ?_
    refine cg rfl rfl (Ev.ldx m.bx.to_ gE (.g rfl id) (ak.comp aB.da bK.dW)) ?_
    refine cg rfl rfl (Ev.og (.g rfl id) (.g rfl id)) ?_
    refine co (Ev.pkO (.t rfl) rfl) ?_
    refine mv rfl (cg rfl rfl (fA 42 (.t rfl)) ?_)
    refine cg rfl rfl (fA 0 (.g rfl id)) ?_
    refine cg rfl rfl (Ev.ldx m.bm.from_ gE (.g rfl id) (ak.comp aB.cS bK.iG)) ?_
    refine cg rfl rfl (fA 42 (.t rfl)) ?_
    refine cg rfl rfl (fA 1 (.g rfl id)) ?_
    refine cg rfl rfl (Ev.ldx m.bm.to_ gE (.g rfl id) (ak.comp aB.cS bK.dW)) ?_
    refine cg rfl rfl (Ev.og (.g rfl id) (.g rfl id)) ?_
    refine co (Ev.pkO (.t rfl) rfl) ?_
    refine asn rfl (nP ?_)
    first | refine aL rfl (fun h7=>?_) (fun h7=>?_) | refine cond rfl (fun h7=>?_) (fun h7=>?_)
    · refine sg (co (Ev.assign (.c (v:=I 190) rfl)) ?_)
      refine nP (ret (bR (pR (done rfl (.tmp rfl .nil) (bc ?_)))))
      have hb:bad1 m = true:=h7
      unfold ckM okM; rw [hb]; simp [js]
    · refine sg (co (Ev.ldx m gU (.t rfl) (ak.id _)) ?_)
      refine cons (aZ pA (.cons (.t rfl) (.cons (.c (v:=U8 2) rfl) .nil)) (fun w I=>gQ _ _ w) ?_)
      refine mv rfl (cg rfl rfl (fA 3 (.t rfl)) ?_)
      refine cg rfl rfl (Ev.ldx m.src cW (.g rfl id) aB.ee) ?_
      refine cons (jq rfl rfl en32 (.cons (.g rfl id) .nil) (fun hg w I=>g7 _ w) ?_)
      refine cg rfl rfl (Ev.eX (.g rfl id) (.c (v:=I 0) rfl)) ?_
      refine co (Ev.pkA (.t rfl) rfl) ?_
      refine mv rfl (cg rfl rfl (Ev.ldx m gU (.t rfl) (ak.id _)) ?_)
      refine cons (jq rfl rfl pA (.cons (.g rfl id) (.cons (.c (v:=U8 4) rfl) .nil)) (fun hg w I=>gQ _ _ w) ?_)
      refine cg rfl rfl (Ev.move (.g rfl id)) ?_
      refine cg rfl rfl (fA 21 (.t rfl)) ?_
      refine cg rfl rfl (Ev.ldx m.dst cW (.g rfl id) aB.iA) ?_
      refine cons (jq rfl rfl en32 (.cons (.g rfl id) .nil) (fun hg w I=>g7 _ w) ?_)
      refine cg rfl rfl (Ev.eX (.g rfl id) (.c (v:=I 0) rfl)) ?_
      refine cg rfl rfl (Ev.pkA (.g rfl id) rfl) ?_
      refine co (Ev.pkO (.t rfl) rfl) ?_
      refine asn rfl (nP ?_)
      first | refine aL rfl (fun h8=>?_) (fun h8=>?_) | refine cond rfl (fun h8=>?_) (fun h8=>?_)
      · refine sg (co (Ev.assign (.c (v:=I 190) rfl)) ?_)
        refine nP (ret (bR (pR (done rfl (.tmp rfl .nil) (bc ?_)))))
        have hb:bad2 m = true:=by unfold bad2; simp only [Bool.or_eq_true] at h8 ⊢; left; simpa using h8
        unfold ckM okM; rw [hb]; simp [js]
      · refine sg (co (Ev.ldx m gU (.t rfl) (ak.id _)) ?_)
        refine cons (aZ pA (.cons (.t rfl) (.cons (.c (v:=U8 2) rfl) .nil)) (fun w I=>gQ _ _ w) ?_)
        refine mv rfl (cg rfl rfl (Ev.ldx m gU (.t rfl) (ak.id _)) ?_)
        refine cons (jq rfl rfl pA (.cons (.g rfl id) (.cons (.c (v:=U8 4) rfl) .nil)) (fun hg w I=>gQ _ _ w) ?_)
        refine co (Ev.pkA (.t rfl) rfl) ?_
        refine mv rfl (cg rfl rfl (fA 3 (.t rfl)) ?_)
        refine cg rfl rfl (fA 0 (.g rfl id)) ?_
        refine cg rfl rfl (fA 0 (.g rfl id)) ?_
        refine cg rfl rfl (Ev.ldx m.src.addr.v6 ty4 (.g rfl id) (ak.comp (ak.comp aB.ee aq.dE) a7.kI)) ?_
        refine cg rfl rfl (fA 21 (.t rfl)) ?_
        refine cg rfl rfl (fA 0 (.g rfl id)) ?_
        refine cg rfl rfl (fA 0 (.g rfl id)) ?_
        refine cg rfl rfl (Ev.ldx m.dst.addr.v6 ty4 (.g rfl id) (ak.comp (ak.comp aB.iA aq.dE) a7.kI)) ?_
        refine cg rfl rfl (Ev.neq_b Tryz.underlying4 (.g rfl id) (.g rfl id)) ?_
        refine co (Ev.pkA (.t rfl) rfl) ?_
        refine asn rfl (nP ?_)
        first | refine aL rfl (fun h9=>?_) (fun h9=>?_) | refine cond rfl (fun h9=>?_) (fun h9=>?_)
        · refine sg (co (Ev.assign (.c (v:=I 190) rfl)) ?_)
          refine nP (ret (bR (pR (done rfl (.tmp rfl .nil) (bc ?_)))))
          have hb:bad2 m = true:=by unfold bad2; simp only [Bool.or_eq_true] at h9 ⊢; right; exact h9
          unfold ckM okM; rw [hb]; simp [js]
        · refine sg (mv rfl (mv rfl (cg rfl rfl (fA 39 (.t rfl)) ?_)))
          refine cg rfl rfl (Ev.ldx m.bj ty5 (.g rfl id) aB.dH) ?_
          refine cg rfl rfl (Ev.eP (.g rfl id) (.c (v:=U8 6) rfl)) ?_
          refine co (Ev.pkA (.t rfl) rfl) ?_
          refine mv rfl (cg rfl rfl (fA 39 (.t rfl)) ?_)
          refine cg rfl rfl (Ev.ldx m.bj ty5 (.g rfl id) aB.dH) ?_
          refine cg rfl rfl (Ev.eP (.g rfl id) (.c (v:=U8 17) rfl)) ?_
          refine co (Ev.pkA (.t rfl) rfl) ?_
          refine asn rfl (nP ?_)
          first | refine aL rfl (fun h10=>?_) (fun h10=>?_) | refine cond rfl (fun h10=>?_) (fun h10=>?_)
          · refine sg (co (Ev.assign (.c (v:=I 190) rfl)) ?_)
            refine nP (ret (bR (pR (done rfl (.tmp rfl .nil) (bc ?_)))))
            have hb:good3 m = false:=by
              rw [asks48] at h10
              simp at h10
              obtain ⟨⟨ha,hb6⟩,hb17⟩:=h10
              unfold good3 portsB
              simp [hb6,hb17]
              intro h16
              simpa [h16] using ha
            unfold ckM okM; rw [hb]; simp [js]
          · refine skip (bN (pN (sg (co (Ev.assign (.c (v:=I 0) rfl)) ?_))))
            refine nP (ret (done rfl (.tmp rfl .nil) (bc ?_)))
            have b0:bad0 m = false:=hhb.symm.trans h6
            have b1:bad1 m = false:=h7
            have b2:bad2 m = false:=by
              unfold bad2
              simp at h8 h9 ⊢
              exact ⟨h8,h9⟩
            have hp:cq m 8 = false→m.bj = 0:=by
              unfold bad0 at b0
              simp at b0
              exact b0.1.1.2
            rw [asks48] at h10
            have hg:good3 m = true:=good3_of m (by simpa using h10) hp
            unfold ckM okM
            rw [b0,b1,b2,hg]
            rfl
def inM (m:List (ByteArray × Int)) (s:ByteArray):Bool:=(cM eqs s m).isSome
def lA (l:CL) (r:aO):Bool:=if r.action = 3 then !portB l r.out else decide (¬ r.out = 0)
def ft (l:CL) (r:aO) (i:Int):Int:=if fZ r.name = false then 201 else if (cM eqs r.name (iT l)).getD 0 < i then 2 else if okM r.cX = false then 190 else if r.action < 1 ∨ 4 < r.action then 2 else if lA l r = true then 5
  else if (r.fx ≠ ⟨#[]⟩ ∧ inM (iD l) r.fx = false) ∨ (r.dZ ≠ ⟨#[]⟩ ∧ inM (gL l) r.dZ = false) then 210 else 0
def roomB (n:Int):Bool:=decide (2 ≤ n ∧ n ≤ 1024 ∧ n.toNat &&& (n.toNat - 1) = 0)
def fN (l:CL) (m:aD) (i:Int):Int:=if fZ m.name = false then 201 else if (cM eqs m.name (gL l)).getD 0 < i then 2 else if portB l m.out = false then 5 else if roomB m.room = false then 2 else 0
theorem mirror_ok (k:KB) (l:CL) (m:aD) (i:Int) (w:World) (hk:iJ w k l) (hs:m.name.size ≤ 9223372036854775807):Gx.Calls Tryz.prog 71 #[bW.val k.k,ae.val m,I i] w (cD w (I (fN l m i))):=by
  refine en0 44 Tryz.func71 (fun _ _=>?_)
  refine sg (cons (box (E:=bW) (.t rfl) (fun b1=>?_)))
  refine cons (box (E:=ae) (.t rfl) (fun b2=>?_))
  refine co (Ev.assign (.c (v:=I 0) rfl)) ?_
  refine nP (seq (block (sg (co (fA 0 (.t rfl)) ?_))))
  refine co (Ev.ldx m.name ty9 (.t rfl) aD.cN) ?_
  refine cons (aZ en103 (.cons (.t rfl) .nil) (fun w I=>name_ok _ w hs) ?_)
  refine co (Ev.not (.t rfl)) ?_
  refine asn rfl (nP ?_)
  first | refine aL rfl (fun h0=>?_) (fun h0=>?_) | refine cond rfl (fun h0=>?_) (fun h0=>?_)
  · try simp only [Gx.nb] at h0
    refine sg (co (Ev.assign (.c (v:=I 201) rfl)) ?_)
    refine nP (ret (bR (pR (done rfl (.tmp rfl .nil) (bc ?_)))))
    unfold fN; rw [if_pos (by simpa using h0)]; rfl
  · try simp only [Gx.nb] at h0
    refine sg (co (fA 4 (.t rfl)) ?_)
    refine co (Ev.ldv ty70 (.t rfl) aN.db) ?_
    refine co (fA 0 (.t rfl)) ?_
    refine co (Ev.ldx m.name ty9 (.t rfl) aD.cN) ?_
    refine co (Ev.od Tryz.underlying70 Tryz.underlying9 mL z3 (.t rfl) (.t rfl) (fun _=>(fun w I=>hk.xs.aT I.keeps))) ?_
    refine mv rfl (co (Ev.dx (.t rfl) (.t rfl)) ?_)
    refine asn rfl (nP ?_)
    first | refine aL rfl (fun h1=>?_) (fun h1=>?_) | refine cond rfl (fun h1=>?_) (fun h1=>?_)
    · try simp only [Gx.nb] at h1
      refine sg (co (Ev.assign (.c (v:=I 2) rfl)) ?_)
      refine nP (ret (bR (pR (done rfl (.tmp rfl .nil) (bc ?_)))))
      unfold fN; rw [if_neg (by simpa using h0),if_pos (by simpa using h1)]; rfl
    · try simp only [Gx.nb] at h1
      refine sg (co (Ev.ldv lr (.t rfl) (ak.id _)) ?_)
      refine co (fA 1 (.t rfl)) ?_
      refine co (Ev.ldx m.out ty3 (.t rfl) aD.dj) ?_
      refine cons (aZ en102 (.cons (.t rfl) (.cons (.t rfl) .nil)) (fun w I=>port_ok _ l _ w (hk.aT I.keeps)) ?_)
      refine co (Ev.not (.t rfl)) ?_
      refine asn rfl (nP ?_)
      first | refine aL rfl (fun h2=>?_) (fun h2=>?_) | refine cond rfl (fun h2=>?_) (fun h2=>?_)
      · try simp only [Gx.nb] at h2
        refine sg (co (Ev.assign (.c (v:=I 5) rfl)) ?_)
        refine nP (ret (bR (pR (done rfl (.tmp rfl .nil) (bc ?_)))))
        unfold fN; rw [if_neg (by simpa using h0),if_neg (by simpa using h1),if_pos (by simpa using h2)]; rfl
      · try simp only [Gx.nb] at h2
        refine sg (co (fA 2 (.t rfl)) ?_)
        refine co (Ev.ldx m.room ty3 (.t rfl) aD.l8) ?_
        refine co (Ev.dx (.t rfl) (.c (v:=I 2) rfl)) ?_
        refine mv rfl (cg rfl rfl (fA 2 (.t rfl)) ?_)
        refine cg rfl rfl (Ev.ldx m.room ty3 (.g rfl id) aD.l8) ?_
        refine cg rfl rfl (Ev.eJ (.g rfl id) (.c (v:=I 1024) rfl)) ?_
        refine co (Ev.pkO (.t rfl) rfl) ?_
        refine mv rfl (cg rfl rfl (fA 2 (.t rfl)) ?_)
        refine cg rfl rfl (Ev.ldx m.room ty3 (.g rfl id) aD.l8) ?_
        refine cg rfl rfl (fA 2 (.t rfl)) ?_
        refine cg rfl rfl (Ev.ldx m.room ty3 (.g rfl id) aD.l8) ?_
        refine cg rfl rfl (Ev.lx (.g rfl id) (.c (v:=I 1) rfl) (fun _=>by first | omega | (rename_i hg; simp at hg; omega))) ?_
        refine cg rfl rfl (Ev.and_n (.g rfl id) (.g rfl id) (fun hg=>by simp at hg; omega) (fun hg=>by simp at hg; omega)) ?_
        refine cg rfl rfl (Ev.eX (.g rfl id) (.c (v:=I 0) rfl)) ?_
        refine co (Ev.pkO (.t rfl) rfl) ?_
        refine asn rfl (nP ?_)
        first | refine aL rfl (fun h3=>?_) (fun h3=>?_) | refine cond rfl (fun h3=>?_) (fun h3=>?_)
        · refine sg (co (Ev.assign (.c (v:=I 2) rfl)) ?_)
          refine nP (ret (bR (pR (done rfl (.tmp rfl .nil) (bc ?_)))))
          have hr:roomB m.room = false:=by
            unfold roomB
            simp at h3 ⊢
            intro h1 h2
            rcases h3 with (h3 | h3) | h3
            · omega
            · omega
            · exact h3
          unfold fN; rw [if_neg (by simpa using h0),if_neg (by simpa using h1),if_neg (by simpa using h2),if_pos hr]; rfl
        · refine skip (bN (pN (sg (co (Ev.assign (.c (v:=I 0) rfl)) ?_))))
          refine nP (ret (done rfl (.tmp rfl .nil) (bc ?_)))
          have hr:roomB m.room = true:=by
            unfold roomB
            simp at h3 ⊢
            exact ⟨h3.1.1,h3.1.2,h3.2⟩
          unfold fN; rw [if_neg (by simpa using h0),if_neg (by simpa using h1),if_neg (by simpa using h2),if_neg (by rw [hr]; simp)]; rfl
theorem en35:Gx.aC Tryz.prog 35:=Gx.aC.mk' zk
set_option maxRecDepth 8000 in
theorem rule_ok (k:KB) (l:CL) (r:aO) (i:Int) (w:World) (hk:iJ w k l) (hs:r.name.size ≤ 9223372036854775807):Gx.Calls Tryz.prog 67 #[bW.val k.k,aG.val r,I i] w (cD w (I (ft l r i))):=by
  refine en0 83 Tryz.func67 (fun _ _=>?_)
  refine sg (cons (box (E:=bW) (.t rfl) (fun b1=>?_)))
  refine cons (box (E:=aG) (.t rfl) (fun b2=>?_))
  refine co (Ev.assign (.c (v:=I 0) rfl)) ?_
  refine nP (sg (co (fA 46 (.t rfl)) ?_))
  refine co (Ev.ldx r.out ty3 (.t rfl) aO.dj) ?_
  refine co (Ev.fD (.t rfl) (.c (v:=I 0) rfl)) ?_
  refine asn rfl (nP (cut (X:=Bool) (fun x:Bool=>((!x) = lA l r)) (fun x:Bool=>[dz,(2,true,I i),(3,true,.pointer (some ⟨b1,0,none⟩)),(4,true,.pointer (some ⟨b2,0,none⟩)),(7,true,.bool x)]) (fun x:Bool=>[Var b2 aG r 88,Var b1 bW k.k 157]) ?_ (fun x hx=>?_)))
  · refine sg (co (fA 45 (.t rfl)) ?_)
    refine co (Ev.ldx r.action ty3 (.t rfl) aO.bZ) ?_
    refine co (Ev.fD (.t rfl) (.c (v:=I 3) rfl)) ?_
    refine nP ?_
    first | refine aL rfl (fun h0=>?_) (fun h0=>?_) | refine cond rfl (fun h0=>?_) (fun h0=>?_)
    · refine region (co (Ev.ldv lr (.t rfl) (ak.id _)) ?_)
      refine co (fA 46 (.t rfl)) ?_
      refine co (Ev.ldx r.out ty3 (.t rfl) aO.dj) ?_
      refine cons (aZ en102 (.cons (.t rfl) (.cons (.t rfl) .nil)) (fun w I=>port_ok _ l _ w (hk.aT I.keeps)) ?_)
      refine asn rfl (nP (mt (X:=Bool) (_) ?_))
      · try dsimp only
        unfold lA; simp_all
    · refine skip (pN (mt (X:=Bool) (_) ?_))
      · try dsimp only
        unfold lA; simp_all
  obtain ⟨out,rfl⟩:∃ y,y = x:=⟨x,rfl⟩
  have hout:(!out) = lA l r:=hx
  clear hx
  show Sat _ _ [dz,(2,true,I i),(3,true,.pointer (some ⟨b1,0,none⟩)),(4,true,.pointer (some ⟨b2,0,none⟩)),(7,true,.bool out)] [Var b2 aG r 88,Var b1 bW k.k 157]
  refine sg (co (fA 3 (.t rfl)) ?_)
  refine co (Ev.ldv ty70 (.t rfl) aN.dJ) ?_
  refine co (fA 47 (.t rfl)) ?_
  refine co (Ev.ldx r.fx ty9 (.t rfl) aO.eL) ?_
  refine co (Ev.iF Tryz.underlying70 Tryz.underlying9 mL z3 (.t rfl) (.t rfl) (fun _=>(fun w I=>hk.ms.aT I.keeps))) ?_
  refine mv rfl (co (Ev.extract (.t rfl) rfl) (co (Ev.extract (.t rfl) rfl) (asn rfl (asn rfl (nP (sg (co (fA 4 (.t rfl)) ?_)))))))
  refine co (Ev.ldv ty70 (.t rfl) aN.db) ?_
  refine co (fA 48 (.t rfl)) ?_
  refine co (Ev.ldx r.dZ ty9 (.t rfl) aO.dI) ?_
  refine co (Ev.iF Tryz.underlying70 Tryz.underlying9 mL z3 (.t rfl) (.t rfl) (fun _=>(fun w I=>hk.xs.aT I.keeps))) ?_
  refine mv rfl (co (Ev.extract (.t rfl) rfl) (co (Ev.extract (.t rfl) rfl) (asn rfl (asn rfl (nP (seq (block (sg (co (fA 0 (.t rfl)) ?_)))))))))
  refine co (Ev.ldx r.name ty9 (.t rfl) aO.cN) ?_
  refine cons (aZ en103 (.cons (.t rfl) .nil) (fun w I=>name_ok _ w hs) ?_)
  refine co (Ev.not (.t rfl)) ?_
  refine asn rfl (nP ?_)
  first | refine aL rfl (fun h1=>?_) (fun h1=>?_) | refine cond rfl (fun h1=>?_) (fun h1=>?_)
  · refine sg (co (Ev.assign (.c (v:=I 201) rfl)) ?_)
    refine nP (ret (bR (pR (done rfl (.tmp rfl .nil) (bc ?_)))))
    have p1:fZ r.name = false:=by simpa using h1
    unfold ft
    rw [if_pos p1]
    rfl
  · refine sg (co (fA 2 (.t rfl)) ?_)
    refine co (Ev.ldv ty70 (.t rfl) aN.dG) ?_
    refine co (fA 0 (.t rfl)) ?_
    refine co (Ev.ldx r.name ty9 (.t rfl) aO.cN) ?_
    refine co (Ev.od Tryz.underlying70 Tryz.underlying9 mL z3 (.t rfl) (.t rfl) (fun _=>(fun w I=>hk.us.aT I.keeps))) ?_
    refine mv rfl (co (Ev.dx (.t rfl) (.t rfl)) ?_)
    refine asn rfl (nP ?_)
    first | refine aL rfl (fun h2=>?_) (fun h2=>?_) | refine cond rfl (fun h2=>?_) (fun h2=>?_)
    · refine sg (co (Ev.assign (.c (v:=I 2) rfl)) ?_)
      refine nP (ret (bR (pR (done rfl (.tmp rfl .nil) (bc ?_)))))
      have n1:¬ (fZ r.name = false):=by simpa using h1
      have p2:(cM eqs r.name (iT l)).getD 0 < i:=by simpa using h2
      unfold ft
      rw [if_neg n1,if_pos p2]
      rfl
    · refine sg (co (fA 1 (.t rfl)) ?_)
      refine co (Ev.ldx r.cX gU (.t rfl) aO.cV) ?_
      refine cons (aZ en35 (.cons (.t rfl) .nil) (fun w I=>check_ok _ w) ?_)
      refine co (Ev.eX (.t rfl) (.c (v:=I 0) rfl)) ?_
      refine asn rfl (nP ?_)
      first | refine aL rfl (fun h3=>?_) (fun h3=>?_) | refine cond rfl (fun h3=>?_) (fun h3=>?_)
      · refine sg (co (Ev.assign (.c (v:=I 190) rfl)) ?_)
        refine nP (ret (bR (pR (done rfl (.tmp rfl .nil) (bc ?_)))))
        have n1:¬ (fZ r.name = false):=by simpa using h1
        have n2:¬ ((cM eqs r.name (iT l)).getD 0 < i):=by simpa using h2
        have p3:okM r.cX = false:=by
          have h3c:decide (ckM r.cX = 0) = false:=by simpa using h3
          rwa [gP] at h3c
        unfold ft
        rw [if_neg n1,if_neg n2,if_pos p3]
        rfl
      · refine sg (co (fA 45 (.t rfl)) ?_)
        refine co (Ev.ldx r.action ty3 (.t rfl) aO.bZ) ?_
        refine co (Ev.dx (.t rfl) (.c (v:=I 1) rfl)) ?_
        refine mv rfl (cg rfl rfl (fA 45 (.t rfl)) ?_)
        refine cg rfl rfl (Ev.ldx r.action ty3 (.g rfl id) aO.bZ) ?_
        refine cg rfl rfl (Ev.eJ (.g rfl id) (.c (v:=I 4) rfl)) ?_
        refine co (Ev.pkO (.t rfl) rfl) ?_
        refine asn rfl (nP ?_)
        first | refine aL rfl (fun h4=>?_) (fun h4=>?_) | refine cond rfl (fun h4=>?_) (fun h4=>?_)
        · refine sg (co (Ev.assign (.c (v:=I 2) rfl)) ?_)
          refine nP (ret (bR (pR (done rfl (.tmp rfl .nil) (bc ?_)))))
          have n1:¬ (fZ r.name = false):=by simpa using h1
          have n2:¬ ((cM eqs r.name (iT l)).getD 0 < i):=by simpa using h2
          have n3:¬ okM r.cX = false:=by
            have h3c:decide (ckM r.cX = 0) = true:=by simpa using h3
            rw [gP] at h3c
            rw [h3c]; simp
          have p4:r.action < 1 ∨ 4 < r.action:=by simpa using h4
          unfold ft
          rw [if_neg n1,if_neg n2,if_neg n3,if_pos p4]
          rfl
        · refine sg (mv rfl (co (Ev.not (.t rfl)) ?_))
          refine asn rfl (nP ?_)
          first | refine aL rfl (fun h5=>?_) (fun h5=>?_) | refine cond rfl (fun h5=>?_) (fun h5=>?_)
          · refine sg (co (Ev.assign (.c (v:=I 5) rfl)) ?_)
            refine nP (ret (bR (pR (done rfl (.tmp rfl .nil) (bc ?_)))))
            have n1:¬ (fZ r.name = false):=by simpa using h1
            have n2:¬ ((cM eqs r.name (iT l)).getD 0 < i):=by simpa using h2
            have n3:¬ okM r.cX = false:=by
              have h3c:decide (ckM r.cX = 0) = true:=by simpa using h3
              rw [gP] at h3c
              rw [h3c]; simp
            have n4:¬ (r.action < 1 ∨ 4 < r.action):=by simpa using h4
            have p5:lA l r = true:=by
              rw [← hout]; simpa using h5
            unfold ft
            rw [if_neg n1,if_neg n2,if_neg n3,if_neg n4,if_pos p5]
            rfl
          · refine seq (sg (co (fA 47 (.t rfl)) ?_))
            refine co (Ev.ldx r.fx ty9 (.t rfl) aO.eL) ?_
            refine co (Ev.neq_s (.t rfl) (.c (v:=(Go.Value.string (ByteArray.mk #[]))) rfl)) ?_
            refine mv rfl (cg rfl rfl (Ev.move (.t rfl)) ?_)
            refine cg rfl rfl (Ev.not (.g rfl id)) ?_
            refine co (Ev.pkA (.t rfl) rfl) ?_
            refine asn rfl (nP ?_)
            first | refine aL rfl (fun h6=>?_) (fun h6=>?_) | refine cond rfl (fun h6=>?_) (fun h6=>?_)
            · refine skip (pN ?_)
              first | refine aL rfl (fun h7=>?_) (fun h7=>?_) | refine cond rfl (fun h7=>?_) (fun h7=>?_)
              · refine sg (co (Ev.assign (.c (v:=I 210) rfl)) ?_)
                refine nP (ret (bR (pR (done rfl (.tmp rfl .nil) (bc ?_)))))
                have n1:¬ (fZ r.name = false):=by simpa using h1
                have n2:¬ ((cM eqs r.name (iT l)).getD 0 < i):=by simpa using h2
                have n3:¬ okM r.cX = false:=by
                  have h3c:decide (ckM r.cX = 0) = true:=by simpa using h3
                  rw [gP] at h3c
                  rw [h3c]; simp
                have n4:¬ (r.action < 1 ∨ 4 < r.action):=by simpa using h4
                have n5:¬ lA l r = true:=by
                  rw [← hout]; simpa using h5
                have p6:(r.fx ≠ ⟨#[]⟩ ∧ inM (iD l) r.fx = false) ∨ (r.dZ ≠ ⟨#[]⟩ ∧ inM (gL l) r.dZ = false):=by
                  unfold inM
                  simp_all
                unfold ft
                rw [if_neg n1,if_neg n2,if_neg n3,if_neg n4,if_neg n5,if_pos p6]
                rfl
              · refine skip (bN (pN (sg (co (Ev.assign (.c (v:=I 0) rfl)) ?_))))
                refine nP (ret (done rfl (.tmp rfl .nil) (bc ?_)))
                have n1:¬ (fZ r.name = false):=by simpa using h1
                have n2:¬ ((cM eqs r.name (iT l)).getD 0 < i):=by simpa using h2
                have n3:¬ okM r.cX = false:=by
                  have h3c:decide (ckM r.cX = 0) = true:=by simpa using h3
                  rw [gP] at h3c
                  rw [h3c]; simp
                have n4:¬ (r.action < 1 ∨ 4 < r.action):=by simpa using h4
                have n5:¬ lA l r = true:=by
                  rw [← hout]; simpa using h5
                have n6:¬ ((r.fx ≠ ⟨#[]⟩ ∧ inM (iD l) r.fx = false) ∨ (r.dZ ≠ ⟨#[]⟩ ∧ inM (gL l) r.dZ = false)):=by
                  unfold inM
                  first
                    | (exfalso; simp_all; done)
                    | (simp at h6 h7
                       rintro (⟨a,b⟩ | ⟨a,b⟩)
                       · rw [h6 a] at b; cases b
                       · rw [h7 a] at b; cases b)
                unfold ft
                rw [if_neg n1,if_neg n2,if_neg n3,if_neg n4,if_neg n5,if_neg n6]
                rfl
            · refine region (co (fA 48 (.t rfl)) ?_)
              refine co (Ev.ldx r.dZ ty9 (.t rfl) aO.dI) ?_
              refine co (Ev.neq_s (.t rfl) (.c (v:=(Go.Value.string (ByteArray.mk #[]))) rfl)) ?_
              refine mv rfl (cg rfl rfl (Ev.move (.t rfl)) ?_)
              refine cg rfl rfl (Ev.not (.g rfl id)) ?_
              refine co (Ev.pkA (.t rfl) rfl) ?_
              refine asn rfl (nP ?_)
              first | refine aL rfl (fun h7=>?_) (fun h7=>?_) | refine cond rfl (fun h7=>?_) (fun h7=>?_)
              · refine sg (co (Ev.assign (.c (v:=I 210) rfl)) ?_)
                refine nP (ret (bR (pR (done rfl (.tmp rfl .nil) (bc ?_)))))
                have n1:¬ (fZ r.name = false):=by simpa using h1
                have n2:¬ ((cM eqs r.name (iT l)).getD 0 < i):=by simpa using h2
                have n3:¬ okM r.cX = false:=by
                  have h3c:decide (ckM r.cX = 0) = true:=by simpa using h3
                  rw [gP] at h3c
                  rw [h3c]; simp
                have n4:¬ (r.action < 1 ∨ 4 < r.action):=by simpa using h4
                have n5:¬ lA l r = true:=by
                  rw [← hout]; simpa using h5
                have p6:(r.fx ≠ ⟨#[]⟩ ∧ inM (iD l) r.fx = false) ∨ (r.dZ ≠ ⟨#[]⟩ ∧ inM (gL l) r.dZ = false):=by
                  unfold inM
                  simp_all
                unfold ft
                rw [if_neg n1,if_neg n2,if_neg n3,if_neg n4,if_neg n5,if_pos p6]
                rfl
              · refine skip (bN (pN (sg (co (Ev.assign (.c (v:=I 0) rfl)) ?_))))
                refine nP (ret (done rfl (.tmp rfl .nil) (bc ?_)))
                have n1:¬ (fZ r.name = false):=by simpa using h1
                have n2:¬ ((cM eqs r.name (iT l)).getD 0 < i):=by simpa using h2
                have n3:¬ okM r.cX = false:=by
                  have h3c:decide (ckM r.cX = 0) = true:=by simpa using h3
                  rw [gP] at h3c
                  rw [h3c]; simp
                have n4:¬ (r.action < 1 ∨ 4 < r.action):=by simpa using h4
                have n5:¬ lA l r = true:=by
                  rw [← hout]; simpa using h5
                have n6:¬ ((r.fx ≠ ⟨#[]⟩ ∧ inM (iD l) r.fx = false) ∨ (r.dZ ≠ ⟨#[]⟩ ∧ inM (gL l) r.dZ = false)):=by
                  unfold inM
                  first
                    | (exfalso; simp_all; done)
                    | (simp at h6 h7
                       rintro (⟨a,b⟩ | ⟨a,b⟩)
                       · rw [h6 a] at b; cases b
                       · rw [h7 a] at b; cases b)
                unfold ft
                rw [if_neg n1,if_neg n2,if_neg n3,if_neg n4,if_neg n5,if_neg n6]
                rfl
end Go.Proofs.YtjanhajdmhalaaaGreat
