/- Part. -/
import Derived.Test.YtakmoeladkajdaaGreatRows
import Derived.Test.YtakmoeladkajdaaGreatHxZ
set_option linter.unusedVariables false
set_option linter.unusedSimpArgs false
set_option linter.unusedSectionVars false
namespace Go.Gx
open Go Go.RowKit
section
variable {α β γ : Type} {P : Program}
variable {K : Ctx} {F : Fr} {L : List Res} {g : Bool} {Q : Exit → Act → World → Prop} {N : Act → World → Prop} {ops : Array Oper} {rest : List Oper}
  {op : Op} {ty t t' : TypeId} {pos : String} {af : Array Edge} {d : Nat} {x y z : Operand} {v : Value}
theorem co (h : Ev P K F L true op ty v) (next : Sat K (wpList P ops Q rest) ((d, true, v) :: F) L) (hd : Nat.blt d K.n = true := by rfl) : Sat K (wpList P ops Q (⟨some d, op, ty, pos, af, none⟩ :: rest)) F L := cons (opv h next hd)
theorem mv {s : Nat} (h : look F s = some (true, v)) (next : Sat K (wpList P ops Q rest) ((d, true, v) :: F) L) (hd : Nat.blt d K.n = true := by rfl) : Sat K (wpList P ops Q (⟨some d, .move (.tmp s), ty, pos, af, none⟩ :: rest)) F L := cons (opv (Ev.move (.t h)) next hd)
theorem asn {s : Nat} (h : look F s = some (true, v)) (next : Sat K (wpList P ops Q rest) ((d, true, v) :: F) L) (hd : Nat.blt d K.n = true := by rfl) : Sat K (wpList P ops Q (⟨some d, .assign (.tmp s), ty, pos, af, none⟩ :: rest)) F L := cons (opv (Ev.assign (.t h)) next hd)
theorem sg {id : Nat} {l : List Oper} {y : Code} (h : Sat K (wpList P l.toArray (Exit.then (y.wp P Q) Q) l) F L) : Sat K ((Code.seq (Code.region id l.toArray false) y).wp P Q) F L := seq (region h)
theorem nP (h : Sat K N F L) : Sat K (wpList P ops (Exit.then N Q) []) F L := nil (pN h)
theorem cg {j tg : Nat} {want c1 c2 : Bool} (hj : (ops[j]?).bind (·.dst) = some tg) (hg : look F tg = some (c1, .bool c2))
    (h : Ev P K F L (c1 && (c2 == want)) op ty v) (next : Sat K (wpList P ops Q rest) ((d, (c1 && (c2 == want)), v) :: F) L) (hd : Nat.blt d K.n = true := by rfl) :
    Sat K (wpList P ops Q (⟨some d, op, ty, pos, af, some (j, want)⟩ :: rest)) F L := cons (opg hj hg h next hd)
theorem Ev.pkA {s : Nat} {b c gz : Bool} (hx : Opd F g x (.bool b)) (hy : look F s = some (gz, .bool c)) (hgz : g = true → b = true → gz = true := by intro h1 h; first | (rw [h] <;> rfl) | (rw [h1, h] <;> rfl) | (rw [h, h1] <;> rfl) | simp_all) :
    Ev P K F L g (.pick x (.tmp s) (.const (.bool false))) ty (.bool (b && c)) := Ev.pickA hx (fun {_} h => by cases h; exact hy) ⟨_, rfl⟩ hgz (.c rfl)
theorem Ev.pkO {s : Nat} {b c gz : Bool} (hx : Opd F g x (.bool b)) (hy : look F s = some (gz, .bool c)) (hgz : g = true → b = false → gz = true := by intro h1 h; first | (rw [h] <;> rfl) | (rw [h1, h] <;> rfl) | (rw [h, h1] <;> rfl) | simp_all) :
    Ev P K F L g (.pick x (.const (.bool true)) (.tmp s)) ty (.bool (b || c)) := Ev.pickO hx (.c rfl) (fun {_} h => by cases h; exact hy) ⟨_, rfl⟩ hgz
theorem io {E : Enc α} {v : Value} {xs : List α} {T : TypeId} (w : World) (h : WInv K L w) (hm : OwnS v E xs T ∈ L := by repeat first | exact mH | apply mT | apply mA) : IsSl E w v xs := isSl_own hm w h
theorem am {r : Res} (w : World) (I : WInv K L w) (h : r ∈ L := by repeat first | exact mH | apply mT | apply mA) : At r w := at_mem h w I
theorem fA (o : Nat) {b off s f : Nat} (hx : Opd F g x (.pointer (some ⟨b, off, none⟩)))
    (hf : (P.underlying s).bind (fun d => match d with | .struct fs => (fs[f]?).bind (fun fd => (P.info? fd.type).map (fun i => (fd.offset, Nat.beq i.size 0))) | _ => none) = some (o, false) := by kernel_rfl) :
    Ev P K F L g (.fieldAddr s x f) ty (.pointer (some ⟨b, off + o, none⟩)) := Ev.fieldAddr hx hf
theorem en0 {f : FuncId} {fn : Func} {c : Code} {args : Array Value} {w : World} {R : Ending → World → Prop} (n : Nat)
    (hf : P.funcs[f]? = some fn) (h : Sat ⟨n, w, Nope⟩ (c.wp P (bodyPost P fn R)) (dz :: enumF 0 args.toList) []) (hb : fn.body = some c := by rfl) (hn : fn.ntmps = n := by rfl) (hsz : args.size ≤ n := by exact Nat.le_of_ble_eq_true rfl) (hn2 : Nat.ble n 1000000 = true := by rfl) : Calls P f args w R := enter0 n hf hb hn hsz h hn2
theorem zf {E : Enc α} {v : Value} {xs : List α} (h : ∀ w, WInv K L w → IsSl E w v xs := by first | exact isSl_own (by repeat first | exact mH | apply mT | apply mA) | exact fun w I => IsSl.keep0 (by assumption) I.keeps) : ∀ w, WInv K L w → IsSl E w v xs := h
end
theorem zm {p : Prop} (h : p := by repeat first | exact mH | apply mT | apply mA) : p := h
theorem zr {p : Prop} (h : p := by repeat first | exact Rem.head | apply Rem.tail) : p := h
theorem zu {p : Prop} (h : p := by repeat first | exact Upd.head | apply Upd.tail | apply Upd.right) : p := h
theorem zs {p : Prop} (h : p := by repeat first | exact sR | exact sN | apply sC | apply sS | apply sA) : p := h
theorem zl {p : Prop} (h : p := by simp only [List.length_append, List.length_cons, List.length_nil]; omega) : p := h
theorem zk {p : Prop} (h : p := by kernel_rfl) : p := h
theorem zo {p : Prop} (h : p := by omega) : p := h
end Go.Gx
namespace Go.Proofs.YtakmoeladkajdaaGreat
open Go Go.Gx
structure SAddr where
  v6 : Bool
  b : (Vector UInt8 16)
def SAddr.to : (Bool × (Vector UInt8 16)) → SAddr := fun x => ⟨x.1, x.2⟩
def SAddr.of : SAddr → (Bool × (Vector UInt8 16)) := fun x => (x.v6, x.b)
def eAddr : Enc SAddr := isoE (prodE bE (arrE 16 u8E)) SAddr.to SAddr.of
def SAddr.l_v6 : Lens eAddr bE 0 := lIso _ SAddr.to SAddr.of (fun _ => rfl) (lFst bE (arrE 16 u8E))
@[simp] theorem SAddr.get_v6 (x : SAddr) : SAddr.l_v6.get x = x.v6 := rfl
@[simp] theorem SAddr.set_v6 (x : SAddr) (y : Bool) : SAddr.l_v6.set x y = { x with v6 := y } := rfl
def SAddr.l_b : Lens eAddr (arrE 16 u8E) 1 := lIso _ SAddr.to SAddr.of (fun _ => rfl) (Lens.comp (lSnd bE (arrE 16 u8E)) (Lens.id (arrE 16 u8E)))
@[simp] theorem SAddr.get_b (x : SAddr) : SAddr.l_b.get x = x.b := rfl
@[simp] theorem SAddr.set_b (x : SAddr) (y : (Vector UInt8 16)) : SAddr.l_b.set x y = { x with b := y } := rfl
structure SPrefix where
  addr : SAddr
  bits : Int
def SPrefix.to : (SAddr × Int) → SPrefix := fun x => ⟨x.1, x.2⟩
def SPrefix.of : SPrefix → (SAddr × Int) := fun x => (x.addr, x.bits)
def ePrefix : Enc SPrefix := isoE (prodE eAddr iE) SPrefix.to SPrefix.of
def SPrefix.l_addr : Lens ePrefix eAddr 0 := lIso _ SPrefix.to SPrefix.of (fun _ => rfl) (lFst eAddr iE)
@[simp] theorem SPrefix.get_addr (x : SPrefix) : SPrefix.l_addr.get x = x.addr := rfl
@[simp] theorem SPrefix.set_addr (x : SPrefix) (y : SAddr) : SPrefix.l_addr.set x y = { x with addr := y } := rfl
def SPrefix.l_bits : Lens ePrefix iE 17 := lIso _ SPrefix.to SPrefix.of (fun _ => rfl) (Lens.comp (lSnd eAddr iE) (Lens.id iE))
@[simp] theorem SPrefix.get_bits (x : SPrefix) : SPrefix.l_bits.get x = x.bits := rfl
@[simp] theorem SPrefix.set_bits (x : SPrefix) (y : Int) : SPrefix.l_bits.set x y = { x with bits := y } := rfl
structure SRoute where
  to_ : SPrefix
  out : Int
def SRoute.to : (SPrefix × Int) → SRoute := fun x => ⟨x.1, x.2⟩
def SRoute.of : SRoute → (SPrefix × Int) := fun x => (x.to_, x.out)
def eRoute : Enc SRoute := isoE (prodE ePrefix iE) SRoute.to SRoute.of
def SRoute.l_to_ : Lens eRoute ePrefix 0 := lIso _ SRoute.to SRoute.of (fun _ => rfl) (lFst ePrefix iE)
@[simp] theorem SRoute.get_to_ (x : SRoute) : SRoute.l_to_.get x = x.to_ := rfl
@[simp] theorem SRoute.set_to_ (x : SRoute) (y : SPrefix) : SRoute.l_to_.set x y = { x with to_ := y } := rfl
def SRoute.l_out : Lens eRoute iE 18 := lIso _ SRoute.to SRoute.of (fun _ => rfl) (Lens.comp (lSnd ePrefix iE) (Lens.id iE))
@[simp] theorem SRoute.get_out (x : SRoute) : SRoute.l_out.get x = x.out := rfl
@[simp] theorem SRoute.set_out (x : SRoute) (y : Int) : SRoute.l_out.set x y = { x with out := y } := rfl
structure SBucket where
  num : UInt64
  den : UInt64
  burst : UInt64
def SBucket.to : (UInt64 × (UInt64 × UInt64)) → SBucket := fun x => ⟨x.1, x.2.1, x.2.2⟩
def SBucket.of : SBucket → (UInt64 × (UInt64 × UInt64)) := fun x => (x.num, x.den, x.burst)
def eBucket : Enc SBucket := isoE (prodE u64E (prodE u64E u64E)) SBucket.to SBucket.of
def SBucket.l_num : Lens eBucket u64E 0 := lIso _ SBucket.to SBucket.of (fun _ => rfl) (lFst u64E (prodE u64E u64E))
@[simp] theorem SBucket.get_num (x : SBucket) : SBucket.l_num.get x = x.num := rfl
@[simp] theorem SBucket.set_num (x : SBucket) (y : UInt64) : SBucket.l_num.set x y = { x with num := y } := rfl
def SBucket.l_den : Lens eBucket u64E 1 := lIso _ SBucket.to SBucket.of (fun _ => rfl) (Lens.comp (lSnd u64E (prodE u64E u64E)) (lFst u64E u64E))
@[simp] theorem SBucket.get_den (x : SBucket) : SBucket.l_den.get x = x.den := rfl
@[simp] theorem SBucket.set_den (x : SBucket) (y : UInt64) : SBucket.l_den.set x y = { x with den := y } := rfl
def SBucket.l_burst : Lens eBucket u64E 2 := lIso _ SBucket.to SBucket.of (fun _ => rfl) (Lens.comp (lSnd u64E (prodE u64E u64E)) (Lens.comp (lSnd u64E u64E) (Lens.id u64E)))
@[simp] theorem SBucket.get_burst (x : SBucket) : SBucket.l_burst.get x = x.burst := rfl
@[simp] theorem SBucket.set_burst (x : SBucket) (y : UInt64) : SBucket.l_burst.set x y = { x with burst := y } := rfl
structure SMeterConf where
  name : ByteArray
  bucket : SBucket
def SMeterConf.to : (ByteArray × SBucket) → SMeterConf := fun x => ⟨x.1, x.2⟩
def SMeterConf.of : SMeterConf → (ByteArray × SBucket) := fun x => (x.name, x.bucket)
def eMeterConf : Enc SMeterConf := isoE (prodE sE eBucket) SMeterConf.to SMeterConf.of
def SMeterConf.l_name : Lens eMeterConf sE 0 := lIso _ SMeterConf.to SMeterConf.of (fun _ => rfl) (lFst sE eBucket)
@[simp] theorem SMeterConf.get_name (x : SMeterConf) : SMeterConf.l_name.get x = x.name := rfl
@[simp] theorem SMeterConf.set_name (x : SMeterConf) (y : ByteArray) : SMeterConf.l_name.set x y = { x with name := y } := rfl
def SMeterConf.l_bucket : Lens eMeterConf eBucket 1 := lIso _ SMeterConf.to SMeterConf.of (fun _ => rfl) (Lens.comp (lSnd sE eBucket) (Lens.id eBucket))
@[simp] theorem SMeterConf.get_bucket (x : SMeterConf) : SMeterConf.l_bucket.get x = x.bucket := rfl
@[simp] theorem SMeterConf.set_bucket (x : SMeterConf) (y : SBucket) : SMeterConf.l_bucket.set x y = { x with bucket := y } := rfl
structure SMirrorConf where
  name : ByteArray
  out : Int
  room : Int
def SMirrorConf.to : (ByteArray × (Int × Int)) → SMirrorConf := fun x => ⟨x.1, x.2.1, x.2.2⟩
def SMirrorConf.of : SMirrorConf → (ByteArray × (Int × Int)) := fun x => (x.name, x.out, x.room)
def eMirrorConf : Enc SMirrorConf := isoE (prodE sE (prodE iE iE)) SMirrorConf.to SMirrorConf.of
def SMirrorConf.l_name : Lens eMirrorConf sE 0 := lIso _ SMirrorConf.to SMirrorConf.of (fun _ => rfl) (lFst sE (prodE iE iE))
@[simp] theorem SMirrorConf.get_name (x : SMirrorConf) : SMirrorConf.l_name.get x = x.name := rfl
@[simp] theorem SMirrorConf.set_name (x : SMirrorConf) (y : ByteArray) : SMirrorConf.l_name.set x y = { x with name := y } := rfl
def SMirrorConf.l_out : Lens eMirrorConf iE 1 := lIso _ SMirrorConf.to SMirrorConf.of (fun _ => rfl) (Lens.comp (lSnd sE (prodE iE iE)) (lFst iE iE))
@[simp] theorem SMirrorConf.get_out (x : SMirrorConf) : SMirrorConf.l_out.get x = x.out := rfl
@[simp] theorem SMirrorConf.set_out (x : SMirrorConf) (y : Int) : SMirrorConf.l_out.set x y = { x with out := y } := rfl
def SMirrorConf.l_room : Lens eMirrorConf iE 2 := lIso _ SMirrorConf.to SMirrorConf.of (fun _ => rfl) (Lens.comp (lSnd sE (prodE iE iE)) (Lens.comp (lSnd iE iE) (Lens.id iE)))
@[simp] theorem SMirrorConf.get_room (x : SMirrorConf) : SMirrorConf.l_room.get x = x.room := rfl
@[simp] theorem SMirrorConf.set_room (x : SMirrorConf) (y : Int) : SMirrorConf.l_room.set x y = { x with room := y } := rfl
structure SSpan where
  from_ : UInt16
  to_ : UInt16
def SSpan.to : (UInt16 × UInt16) → SSpan := fun x => ⟨x.1, x.2⟩
def SSpan.of : SSpan → (UInt16 × UInt16) := fun x => (x.from_, x.to_)
def eSpan : Enc SSpan := isoE (prodE u16E u16E) SSpan.to SSpan.of
def SSpan.l_from_ : Lens eSpan u16E 0 := lIso _ SSpan.to SSpan.of (fun _ => rfl) (lFst u16E u16E)
@[simp] theorem SSpan.get_from_ (x : SSpan) : SSpan.l_from_.get x = x.from_ := rfl
@[simp] theorem SSpan.set_from_ (x : SSpan) (y : UInt16) : SSpan.l_from_.set x y = { x with from_ := y } := rfl
def SSpan.l_to_ : Lens eSpan u16E 1 := lIso _ SSpan.to SSpan.of (fun _ => rfl) (Lens.comp (lSnd u16E u16E) (Lens.id u16E))
@[simp] theorem SSpan.get_to_ (x : SSpan) : SSpan.l_to_.get x = x.to_ := rfl
@[simp] theorem SSpan.set_to_ (x : SSpan) (y : UInt16) : SSpan.l_to_.set x y = { x with to_ := y } := rfl
structure SMatch where
  asks : UInt8
  in_ : SSpan
  src : SPrefix
  dst : SPrefix
  proto : UInt8
  srcPort : SSpan
  dstPort : SSpan
def SMatch.to : (UInt8 × (SSpan × (SPrefix × (SPrefix × (UInt8 × (SSpan × SSpan)))))) → SMatch := fun x => ⟨x.1, x.2.1, x.2.2.1, x.2.2.2.1, x.2.2.2.2.1, x.2.2.2.2.2.1, x.2.2.2.2.2.2⟩
def SMatch.of : SMatch → (UInt8 × (SSpan × (SPrefix × (SPrefix × (UInt8 × (SSpan × SSpan)))))) := fun x => (x.asks, x.in_, x.src, x.dst, x.proto, x.srcPort, x.dstPort)
def eMatch : Enc SMatch := isoE (prodE u8E (prodE eSpan (prodE ePrefix (prodE ePrefix (prodE u8E (prodE eSpan eSpan)))))) SMatch.to SMatch.of
def SMatch.l_asks : Lens eMatch u8E 0 := lIso _ SMatch.to SMatch.of (fun _ => rfl) (lFst u8E (prodE eSpan (prodE ePrefix (prodE ePrefix (prodE u8E (prodE eSpan eSpan))))))
@[simp] theorem SMatch.get_asks (x : SMatch) : SMatch.l_asks.get x = x.asks := rfl
@[simp] theorem SMatch.set_asks (x : SMatch) (y : UInt8) : SMatch.l_asks.set x y = { x with asks := y } := rfl
def SMatch.l_in_ : Lens eMatch eSpan 1 := lIso _ SMatch.to SMatch.of (fun _ => rfl) (Lens.comp (lSnd u8E (prodE eSpan (prodE ePrefix (prodE ePrefix (prodE u8E (prodE eSpan eSpan)))))) (lFst eSpan (prodE ePrefix (prodE ePrefix (prodE u8E (prodE eSpan eSpan))))))
@[simp] theorem SMatch.get_in_ (x : SMatch) : SMatch.l_in_.get x = x.in_ := rfl
@[simp] theorem SMatch.set_in_ (x : SMatch) (y : SSpan) : SMatch.l_in_.set x y = { x with in_ := y } := rfl
def SMatch.l_src : Lens eMatch ePrefix 3 := lIso _ SMatch.to SMatch.of (fun _ => rfl) (Lens.comp (lSnd u8E (prodE eSpan (prodE ePrefix (prodE ePrefix (prodE u8E (prodE eSpan eSpan)))))) (Lens.comp (lSnd eSpan (prodE ePrefix (prodE ePrefix (prodE u8E (prodE eSpan eSpan))))) (lFst ePrefix (prodE ePrefix (prodE u8E (prodE eSpan eSpan))))))
@[simp] theorem SMatch.get_src (x : SMatch) : SMatch.l_src.get x = x.src := rfl
@[simp] theorem SMatch.set_src (x : SMatch) (y : SPrefix) : SMatch.l_src.set x y = { x with src := y } := rfl
def SMatch.l_dst : Lens eMatch ePrefix 21 := lIso _ SMatch.to SMatch.of (fun _ => rfl) (Lens.comp (lSnd u8E (prodE eSpan (prodE ePrefix (prodE ePrefix (prodE u8E (prodE eSpan eSpan)))))) (Lens.comp (lSnd eSpan (prodE ePrefix (prodE ePrefix (prodE u8E (prodE eSpan eSpan))))) (Lens.comp (lSnd ePrefix (prodE ePrefix (prodE u8E (prodE eSpan eSpan)))) (lFst ePrefix (prodE u8E (prodE eSpan eSpan))))))
@[simp] theorem SMatch.get_dst (x : SMatch) : SMatch.l_dst.get x = x.dst := rfl
@[simp] theorem SMatch.set_dst (x : SMatch) (y : SPrefix) : SMatch.l_dst.set x y = { x with dst := y } := rfl
def SMatch.l_proto : Lens eMatch u8E 39 := lIso _ SMatch.to SMatch.of (fun _ => rfl) (Lens.comp (lSnd u8E (prodE eSpan (prodE ePrefix (prodE ePrefix (prodE u8E (prodE eSpan eSpan)))))) (Lens.comp (lSnd eSpan (prodE ePrefix (prodE ePrefix (prodE u8E (prodE eSpan eSpan))))) (Lens.comp (lSnd ePrefix (prodE ePrefix (prodE u8E (prodE eSpan eSpan)))) (Lens.comp (lSnd ePrefix (prodE u8E (prodE eSpan eSpan))) (lFst u8E (prodE eSpan eSpan))))))
@[simp] theorem SMatch.get_proto (x : SMatch) : SMatch.l_proto.get x = x.proto := rfl
@[simp] theorem SMatch.set_proto (x : SMatch) (y : UInt8) : SMatch.l_proto.set x y = { x with proto := y } := rfl
def SMatch.l_srcPort : Lens eMatch eSpan 40 := lIso _ SMatch.to SMatch.of (fun _ => rfl) (Lens.comp (lSnd u8E (prodE eSpan (prodE ePrefix (prodE ePrefix (prodE u8E (prodE eSpan eSpan)))))) (Lens.comp (lSnd eSpan (prodE ePrefix (prodE ePrefix (prodE u8E (prodE eSpan eSpan))))) (Lens.comp (lSnd ePrefix (prodE ePrefix (prodE u8E (prodE eSpan eSpan)))) (Lens.comp (lSnd ePrefix (prodE u8E (prodE eSpan eSpan))) (Lens.comp (lSnd u8E (prodE eSpan eSpan)) (lFst eSpan eSpan))))))
@[simp] theorem SMatch.get_srcPort (x : SMatch) : SMatch.l_srcPort.get x = x.srcPort := rfl
@[simp] theorem SMatch.set_srcPort (x : SMatch) (y : SSpan) : SMatch.l_srcPort.set x y = { x with srcPort := y } := rfl
def SMatch.l_dstPort : Lens eMatch eSpan 42 := lIso _ SMatch.to SMatch.of (fun _ => rfl) (Lens.comp (lSnd u8E (prodE eSpan (prodE ePrefix (prodE ePrefix (prodE u8E (prodE eSpan eSpan)))))) (Lens.comp (lSnd eSpan (prodE ePrefix (prodE ePrefix (prodE u8E (prodE eSpan eSpan))))) (Lens.comp (lSnd ePrefix (prodE ePrefix (prodE u8E (prodE eSpan eSpan)))) (Lens.comp (lSnd ePrefix (prodE u8E (prodE eSpan eSpan))) (Lens.comp (lSnd u8E (prodE eSpan eSpan)) (Lens.comp (lSnd eSpan eSpan) (Lens.id eSpan)))))))
@[simp] theorem SMatch.get_dstPort (x : SMatch) : SMatch.l_dstPort.get x = x.dstPort := rfl
@[simp] theorem SMatch.set_dstPort (x : SMatch) (y : SSpan) : SMatch.l_dstPort.set x y = { x with dstPort := y } := rfl
structure SRule where
  name : ByteArray
  match_ : SMatch
  action : Int
  out : Int
  meter : ByteArray
  mirror : ByteArray
def SRule.to : (ByteArray × (SMatch × (Int × (Int × (ByteArray × ByteArray))))) → SRule := fun x => ⟨x.1, x.2.1, x.2.2.1, x.2.2.2.1, x.2.2.2.2.1, x.2.2.2.2.2⟩
def SRule.of : SRule → (ByteArray × (SMatch × (Int × (Int × (ByteArray × ByteArray))))) := fun x => (x.name, x.match_, x.action, x.out, x.meter, x.mirror)
def eRule : Enc SRule := isoE (prodE sE (prodE eMatch (prodE iE (prodE iE (prodE sE sE))))) SRule.to SRule.of
def SRule.l_name : Lens eRule sE 0 := lIso _ SRule.to SRule.of (fun _ => rfl) (lFst sE (prodE eMatch (prodE iE (prodE iE (prodE sE sE)))))
@[simp] theorem SRule.get_name (x : SRule) : SRule.l_name.get x = x.name := rfl
@[simp] theorem SRule.set_name (x : SRule) (y : ByteArray) : SRule.l_name.set x y = { x with name := y } := rfl
def SRule.l_match_ : Lens eRule eMatch 1 := lIso _ SRule.to SRule.of (fun _ => rfl) (Lens.comp (lSnd sE (prodE eMatch (prodE iE (prodE iE (prodE sE sE))))) (lFst eMatch (prodE iE (prodE iE (prodE sE sE)))))
@[simp] theorem SRule.get_match_ (x : SRule) : SRule.l_match_.get x = x.match_ := rfl
@[simp] theorem SRule.set_match_ (x : SRule) (y : SMatch) : SRule.l_match_.set x y = { x with match_ := y } := rfl
def SRule.l_action : Lens eRule iE 45 := lIso _ SRule.to SRule.of (fun _ => rfl) (Lens.comp (lSnd sE (prodE eMatch (prodE iE (prodE iE (prodE sE sE))))) (Lens.comp (lSnd eMatch (prodE iE (prodE iE (prodE sE sE)))) (lFst iE (prodE iE (prodE sE sE)))))
@[simp] theorem SRule.get_action (x : SRule) : SRule.l_action.get x = x.action := rfl
@[simp] theorem SRule.set_action (x : SRule) (y : Int) : SRule.l_action.set x y = { x with action := y } := rfl
def SRule.l_out : Lens eRule iE 46 := lIso _ SRule.to SRule.of (fun _ => rfl) (Lens.comp (lSnd sE (prodE eMatch (prodE iE (prodE iE (prodE sE sE))))) (Lens.comp (lSnd eMatch (prodE iE (prodE iE (prodE sE sE)))) (Lens.comp (lSnd iE (prodE iE (prodE sE sE))) (lFst iE (prodE sE sE)))))
@[simp] theorem SRule.get_out (x : SRule) : SRule.l_out.get x = x.out := rfl
@[simp] theorem SRule.set_out (x : SRule) (y : Int) : SRule.l_out.set x y = { x with out := y } := rfl
def SRule.l_meter : Lens eRule sE 47 := lIso _ SRule.to SRule.of (fun _ => rfl) (Lens.comp (lSnd sE (prodE eMatch (prodE iE (prodE iE (prodE sE sE))))) (Lens.comp (lSnd eMatch (prodE iE (prodE iE (prodE sE sE)))) (Lens.comp (lSnd iE (prodE iE (prodE sE sE))) (Lens.comp (lSnd iE (prodE sE sE)) (lFst sE sE)))))
@[simp] theorem SRule.get_meter (x : SRule) : SRule.l_meter.get x = x.meter := rfl
@[simp] theorem SRule.set_meter (x : SRule) (y : ByteArray) : SRule.l_meter.set x y = { x with meter := y } := rfl
def SRule.l_mirror : Lens eRule sE 48 := lIso _ SRule.to SRule.of (fun _ => rfl) (Lens.comp (lSnd sE (prodE eMatch (prodE iE (prodE iE (prodE sE sE))))) (Lens.comp (lSnd eMatch (prodE iE (prodE iE (prodE sE sE)))) (Lens.comp (lSnd iE (prodE iE (prodE sE sE))) (Lens.comp (lSnd iE (prodE sE sE)) (Lens.comp (lSnd sE sE) (Lens.id sE))))))
@[simp] theorem SRule.get_mirror (x : SRule) : SRule.l_mirror.get x = x.mirror := rfl
@[simp] theorem SRule.set_mirror (x : SRule) (y : ByteArray) : SRule.l_mirror.set x y = { x with mirror := y } := rfl
theorem ty5 : TyOK Tryz.prog 5 u8E := TyOK.mk' zk zk
def SAddr.eqb (x y : SAddr) : Bool := eqd x.v6 y.v6 && ((eqA 16 eqd) x.b y.b && (true))
theorem SAddr.eqb_iff (x y : SAddr) : SAddr.eqb x y = true ↔ x = y := by
  obtain ⟨a0, a1⟩ := x
  obtain ⟨b0, b1⟩ := y
  simp only [SAddr.eqb, Bool.and_eq_true, eqd_iff, (eqA_iff eqd_iff), SAddr.mk.injEq, and_true]
theorem ty43 : TyOK Tryz.prog 43 (arrE 16 u8E) := TyOK.mk' zk zk
theorem ty4 : TyOK Tryz.prog 4 bE := TyOK.mk' zk zk
theorem eqok45 : EqOK Tryz.prog 45 eAddr SAddr.eqb 3 := eqok_struct (fs := _) Tryz.underlying45 zk rfl (EqF.cons (by decide) rfl SAddr.l_v6 ty4 (fun d hd => (eqok_b Tryz.underlying4) d (by omega)) (EqF.cons (by decide) rfl SAddr.l_b ty43 (eqok_arr Tryz.underlying43 ty5 (eqok_u8 Tryz.underlying5)) EqF.nil)) (fun _ _ => rfl)
instance : DecidableEq SAddr := fun x y => decidable_of_iff (SAddr.eqb x y = true) (SAddr.eqb_iff x y)
@[simp] theorem SAddr.eqb_dec (x y : SAddr) : SAddr.eqb x y = decide (x = y) := by
  rw [Bool.eq_iff_iff, decide_eq_true_iff]
  exact SAddr.eqb_iff x y
def SPrefix.eqb (x y : SPrefix) : Bool := SAddr.eqb x.addr y.addr && (eqd x.bits y.bits && (true))
theorem SPrefix.eqb_iff (x y : SPrefix) : SPrefix.eqb x y = true ↔ x = y := by
  obtain ⟨a0, a1⟩ := x
  obtain ⟨b0, b1⟩ := y
  simp only [SPrefix.eqb, Bool.and_eq_true, SAddr.eqb_iff, eqd_iff, SPrefix.mk.injEq, and_true]
theorem ty3 : TyOK Tryz.prog 3 iE := TyOK.mk' zk zk
theorem ty45 : TyOK Tryz.prog 45 eAddr := TyOK.mk' zk zk
theorem eqok109 : EqOK Tryz.prog 109 ePrefix SPrefix.eqb 4 := eqok_struct (fs := _) Tryz.underlying109 zk rfl (EqF.cons (by decide) rfl SPrefix.l_addr ty45 eqok45 (EqF.cons (by decide) rfl SPrefix.l_bits ty3 (fun d hd => (eqok_i Tryz.underlying3) d (by omega)) EqF.nil)) (fun _ _ => rfl)
instance : DecidableEq SPrefix := fun x y => decidable_of_iff (SPrefix.eqb x y = true) (SPrefix.eqb_iff x y)
@[simp] theorem SPrefix.eqb_dec (x y : SPrefix) : SPrefix.eqb x y = decide (x = y) := by
  rw [Bool.eq_iff_iff, decide_eq_true_iff]
  exact SPrefix.eqb_iff x y
def SRoute.eqb (x y : SRoute) : Bool := SPrefix.eqb x.to_ y.to_ && (eqd x.out y.out && (true))
theorem SRoute.eqb_iff (x y : SRoute) : SRoute.eqb x y = true ↔ x = y := by
  obtain ⟨a0, a1⟩ := x
  obtain ⟨b0, b1⟩ := y
  simp only [SRoute.eqb, Bool.and_eq_true, SPrefix.eqb_iff, eqd_iff, SRoute.mk.injEq, and_true]
theorem ty109 : TyOK Tryz.prog 109 ePrefix := TyOK.mk' zk zk
instance : DecidableEq SRoute := fun x y => decidable_of_iff (SRoute.eqb x y = true) (SRoute.eqb_iff x y)
@[simp] theorem SRoute.eqb_dec (x y : SRoute) : SRoute.eqb x y = decide (x = y) := by
  rw [Bool.eq_iff_iff, decide_eq_true_iff]
  exact SRoute.eqb_iff x y
def SBucket.eqb (x y : SBucket) : Bool := eqd x.num y.num && (eqd x.den y.den && (eqd x.burst y.burst && (true)))
theorem SBucket.eqb_iff (x y : SBucket) : SBucket.eqb x y = true ↔ x = y := by
  obtain ⟨a0, a1, a2⟩ := x
  obtain ⟨b0, b1, b2⟩ := y
  simp only [SBucket.eqb, Bool.and_eq_true, eqd_iff, eqd_iff, eqd_iff, SBucket.mk.injEq, and_true]
theorem ty35 : TyOK Tryz.prog 35 u64E := TyOK.mk' zk zk
instance : DecidableEq SBucket := fun x y => decidable_of_iff (SBucket.eqb x y = true) (SBucket.eqb_iff x y)
@[simp] theorem SBucket.eqb_dec (x y : SBucket) : SBucket.eqb x y = decide (x = y) := by
  rw [Bool.eq_iff_iff, decide_eq_true_iff]
  exact SBucket.eqb_iff x y
def SMeterConf.eqb (x y : SMeterConf) : Bool := eqs x.name y.name && (SBucket.eqb x.bucket y.bucket && (true))
theorem SMeterConf.eqb_iff (x y : SMeterConf) : SMeterConf.eqb x y = true ↔ x = y := by
  obtain ⟨a0, a1⟩ := x
  obtain ⟨b0, b1⟩ := y
  simp only [SMeterConf.eqb, Bool.and_eq_true, eqs_iff, SBucket.eqb_iff, SMeterConf.mk.injEq, and_true]
theorem ty132 : TyOK Tryz.prog 132 eBucket := TyOK.mk' zk zk
theorem ty9 : TyOK Tryz.prog 9 sE := TyOK.mk' zk zk
instance : DecidableEq SMeterConf := fun x y => decidable_of_iff (SMeterConf.eqb x y = true) (SMeterConf.eqb_iff x y)
@[simp] theorem SMeterConf.eqb_dec (x y : SMeterConf) : SMeterConf.eqb x y = decide (x = y) := by
  rw [Bool.eq_iff_iff, decide_eq_true_iff]
  exact SMeterConf.eqb_iff x y
def SMirrorConf.eqb (x y : SMirrorConf) : Bool := eqs x.name y.name && (eqd x.out y.out && (eqd x.room y.room && (true)))
theorem SMirrorConf.eqb_iff (x y : SMirrorConf) : SMirrorConf.eqb x y = true ↔ x = y := by
  obtain ⟨a0, a1, a2⟩ := x
  obtain ⟨b0, b1, b2⟩ := y
  simp only [SMirrorConf.eqb, Bool.and_eq_true, eqs_iff, eqd_iff, eqd_iff, SMirrorConf.mk.injEq, and_true]
instance : DecidableEq SMirrorConf := fun x y => decidable_of_iff (SMirrorConf.eqb x y = true) (SMirrorConf.eqb_iff x y)
@[simp] theorem SMirrorConf.eqb_dec (x y : SMirrorConf) : SMirrorConf.eqb x y = decide (x = y) := by
  rw [Bool.eq_iff_iff, decide_eq_true_iff]
  exact SMirrorConf.eqb_iff x y
def SSpan.eqb (x y : SSpan) : Bool := eqd x.from_ y.from_ && (eqd x.to_ y.to_ && (true))
theorem SSpan.eqb_iff (x y : SSpan) : SSpan.eqb x y = true ↔ x = y := by
  obtain ⟨a0, a1⟩ := x
  obtain ⟨b0, b1⟩ := y
  simp only [SSpan.eqb, Bool.and_eq_true, eqd_iff, eqd_iff, SSpan.mk.injEq, and_true]
theorem ty46 : TyOK Tryz.prog 46 u16E := TyOK.mk' zk zk
theorem eqok107 : EqOK Tryz.prog 107 eSpan SSpan.eqb 2 := eqok_struct (fs := _) Tryz.underlying107 zk rfl (EqF.cons (by decide) rfl SSpan.l_from_ ty46 (eqok_u16 Tryz.underlying46) (EqF.cons (by decide) rfl SSpan.l_to_ ty46 (eqok_u16 Tryz.underlying46) EqF.nil)) (fun _ _ => rfl)
instance : DecidableEq SSpan := fun x y => decidable_of_iff (SSpan.eqb x y = true) (SSpan.eqb_iff x y)
@[simp] theorem SSpan.eqb_dec (x y : SSpan) : SSpan.eqb x y = decide (x = y) := by
  rw [Bool.eq_iff_iff, decide_eq_true_iff]
  exact SSpan.eqb_iff x y
def SMatch.eqb (x y : SMatch) : Bool := eqd x.asks y.asks && (SSpan.eqb x.in_ y.in_ && (SPrefix.eqb x.src y.src && (SPrefix.eqb x.dst y.dst && (eqd x.proto y.proto && (SSpan.eqb x.srcPort y.srcPort && (SSpan.eqb x.dstPort y.dstPort && (true)))))))
theorem SMatch.eqb_iff (x y : SMatch) : SMatch.eqb x y = true ↔ x = y := by
  obtain ⟨a0, a1, a2, a3, a4, a5, a6⟩ := x
  obtain ⟨b0, b1, b2, b3, b4, b5, b6⟩ := y
  simp only [SMatch.eqb, Bool.and_eq_true, eqd_iff, SSpan.eqb_iff, SPrefix.eqb_iff, SPrefix.eqb_iff, eqd_iff, SSpan.eqb_iff, SSpan.eqb_iff, SMatch.mk.injEq, and_true]
theorem ty107 : TyOK Tryz.prog 107 eSpan := TyOK.mk' zk zk
instance : DecidableEq SMatch := fun x y => decidable_of_iff (SMatch.eqb x y = true) (SMatch.eqb_iff x y)
@[simp] theorem SMatch.eqb_dec (x y : SMatch) : SMatch.eqb x y = decide (x = y) := by
  rw [Bool.eq_iff_iff, decide_eq_true_iff]
  exact SMatch.eqb_iff x y
def SRule.eqb (x y : SRule) : Bool := eqs x.name y.name && (SMatch.eqb x.match_ y.match_ && (eqd x.action y.action && (eqd x.out y.out && (eqs x.meter y.meter && (eqs x.mirror y.mirror && (true))))))
theorem SRule.eqb_iff (x y : SRule) : SRule.eqb x y = true ↔ x = y := by
  obtain ⟨a0, a1, a2, a3, a4, a5⟩ := x
  obtain ⟨b0, b1, b2, b3, b4, b5⟩ := y
  simp only [SRule.eqb, Bool.and_eq_true, eqs_iff, SMatch.eqb_iff, eqd_iff, eqd_iff, eqs_iff, eqs_iff, SRule.mk.injEq, and_true]
theorem ty111 : TyOK Tryz.prog 111 eMatch := TyOK.mk' zk zk
instance : DecidableEq SRule := fun x y => decidable_of_iff (SRule.eqb x y = true) (SRule.eqb_iff x y)
@[simp] theorem SRule.eqb_dec (x y : SRule) : SRule.eqb x y = decide (x = y) := by
  rw [Bool.eq_iff_iff, decide_eq_true_iff]
  exact SRule.eqb_iff x y
theorem ck45 : CkOK Tryz.prog 45 eAddr 3 := ck_struct Tryz.underlying45 rfl (CkF.cons (by decide) rfl SAddr.l_v6 ty4 ((ck_b Tryz.underlying4).up (by decide)) (CkF.cons (by decide) rfl SAddr.l_b ty43 (ck_arr Tryz.underlying43 ty5 (ck_int u8E (fun _ => rfl) Tryz.underlying5)) CkF.nil))
theorem ck109 : CkOK Tryz.prog 109 ePrefix 4 := ck_struct Tryz.underlying109 rfl (CkF.cons (by decide) rfl SPrefix.l_addr ty45 ck45 (CkF.cons (by decide) rfl SPrefix.l_bits ty3 ((ck_int iE (fun _ => rfl) Tryz.underlying3).up (by decide)) CkF.nil))
theorem key109 : KeyOK Tryz.prog 109 ePrefix SPrefix.eqb := key_agg rfl eqok109 (by decide) ck109 (by decide) (bit_iso (bit_prod (bit_iso (bit_prod bit_b (bit_arr (bit_int u8E (fun _ => rfl))))) (bit_int iE (fun _ => rfl)))) SPrefix.eqb_iff
theorem key3 : KeyOK Tryz.prog 3 iE eqd := key_i Tryz.underlying3
theorem key9 : KeyOK Tryz.prog 9 sE eqs := key_s Tryz.underlying9
def firstN {α κ : Type} (q : κ → κ → Bool) (f : α → κ) (l : List α) : Nat → List (κ × Int)
  | 0 => []
  | n + 1 => match l[n]? with
    | none => firstN q f l n
    | some x => if (findV q (f x) (firstN q f l n)).isSome then firstN q f l n else putL q (f x) (n : Int) (firstN q f l n)
theorem firstN_has {α κ : Type} (q : κ → κ → Bool) (f : α → κ) (l : List α) (z : α) {n : Nat} (h : n < l.length) (hs : (findV q (f (l.getD n z)) (firstN q f l n)).isSome = true) : firstN q f l (n + 1) = firstN q f l n := by
  have e : l[n]? = some (l.getD n z) := by simp [List.getD, List.getElem?_eq_getElem h]
  rw [firstN, e]
  simp only [hs, if_true]
theorem firstN_new {α κ : Type} (q : κ → κ → Bool) (f : α → κ) (l : List α) (z : α) {n : Nat} (h : n < l.length) (hs : ¬ (findV q (f (l.getD n z)) (firstN q f l n)).isSome = true) : firstN q f l (n + 1) = putL q (f (l.getD n z)) (n : Int) (firstN q f l n) := by
  have e : l[n]? = some (l.getD n z) := by simp [List.getD, List.getElem?_eq_getElem h]
  rw [firstN, e]
  simp only [hs, Bool.false_eq_true, if_false]
theorem firstN_hasI {α κ : Type} (q : κ → κ → Bool) (f : α → κ) (l : List α) (z : α) {i : Int} (h : 0 ≤ i ∧ i < l.length) (hs : (findV q (f (l.getD i.toNat z)) (firstN q f l i.toNat)).isSome = true) : firstN q f l (i + 1).toNat = firstN q f l i.toNat := by
  have e : (i + 1).toNat = i.toNat + 1 := by omega
  rw [e]
  exact firstN_has q f l z (by omega) hs
theorem firstN_newI {α κ : Type} (q : κ → κ → Bool) (f : α → κ) (l : List α) (z : α) {i : Int} (h : 0 ≤ i ∧ i < l.length) (hs : (findV q (f (l.getD i.toNat z)) (firstN q f l i.toNat)).isSome = false) : firstN q f l (i + 1).toNat = putL q (f (l.getD i.toNat z)) i (firstN q f l i.toNat) := by
  have e : (i + 1).toNat = i.toNat + 1 := by omega
  have e2 : ((i.toNat : Nat) : Int) = i := by omega
  rw [e, firstN_new q f l z (by omega) (by rw [hs]; exact Bool.false_ne_true), e2]
theorem ty172 : TyOK Tryz.prog 172 eRoute := TyOK.mk' zk zk
theorem z172 : (Tryz.prog.info? 172).bind (·.zero) = some (eRoute.val eRoute.zero) := by kernel_rfl
theorem z3 : (Tryz.prog.info? 3).bind (·.zero) = some (iE.val iE.zero) := by kernel_rfl
theorem first_109_172 (f : Nat) (cap : List Value) (kf : SRoute → SPrefix) (u : Value) (xs : List SRoute) (w : World) (hen : Enters Tryz.prog f) (hl : IsSl eRoute w u xs) (hk : FnAt Tryz.prog f cap Nope w eRoute ePrefix (fun _ => True) kf) : Calls Tryz.prog 133 #[u, (clo f cap).v] w (RetN w (fun _ : Nat => True) (fun b => .map (some b)) (fun b => [MapR b ePrefix iE (firstN SPrefix.eqb kf xs xs.length)])) := by
  have hle := hl.le
  refine en0 35 Tryz.func133 ?_
  refine sg (co (Ev.assign (.c (v := (Go.Value.map none)) rfl)) ?_)
  refine nP (sg (cons (makeMap (E := ePrefix) (V := iE) (fun b1 => ?_))))
  refine asn rfl (nP (seq (sg (mv rfl (co (Ev.len Tryz.underlying23 (.t rfl) zf) ?_)))))
  refine co (Ev.move (.c (v := I 0) rfl)) ?_
  refine nP (block (lp (X := Int) (fun x : Int => (0 ≤ x ∧ x ≤ xs.length)) (fun x : Int => [dz, (1, true, (clo f cap).v), (5, true, .map (some b1)), (11, true, u), (12, true, I xs.length), (13, true, I x)]) (fun x : Int => [MapR b1 ePrefix iE (firstN SPrefix.eqb kf xs x.toNat)]) (fun x : Int => ((xs.length : Int) - x).toNat) (0) ?_ (fun x hx => ?_)))
  · omega
  obtain ⟨i, rfl⟩ : ∃ y, y = x := ⟨x, rfl⟩
  have hi : 0 ≤ i ∧ i ≤ xs.length := hx
  clear hx
  show Sat _ _ [dz, (1, true, (clo f cap).v), (5, true, .map (some b1)), (11, true, u), (12, true, I xs.length), (13, true, I i)] [MapR b1 ePrefix iE (firstN SPrefix.eqb kf xs i.toNat)]
  refine sg (co (Ev.lss_i (.t rfl) (.t rfl)) ?_)
  refine nP (seq ?_)
  first | refine condD rfl (fun h0 => ?_) (fun h0 => ?_) | refine cond rfl (fun h0 => ?_) (fun h0 => ?_)
  · try simp only [Gx.nb] at h0
    refine skip (pN (seq (block (sg (mv rfl (co (Ev.indexAddr Tryz.underlying23 ty172 (.t rfl) (.t rfl) (fun w I => hl.keep0 I.keeps) (fun _ => zo)) ?_))))))
    refine co (Ev.loadS0 ty172 (.t rfl) (fun w I => hl.keep0 I.keeps) (fun _ => zo)) ?_
    refine cons (alloc z172 (fun b2 => ?_))
    refine asn rfl (cons (stv ty172 (Lens.id _) (.t rfl) (.t rfl) ?_))
    refine nP (sg (mv rfl (mv rfl (co (Ev.ldv ty172 (.t rfl) (Lens.id _)) ?_))))
    refine cons (callcv (.t rfl) hen (.cons (.t rfl) .nil) (fun w I => hk.call trivial w I) ?_)
    refine co (Ev.lookupT Tryz.underlying204 Tryz.underlying109 key109 z3 (.t rfl) (.t rfl) (fun _ => (by first | exact mapAt_own (by repeat first | exact mH | apply mT | apply mA) | exact mapAt_stamp (by repeat first | exact mH | apply mT | apply mA) | exact fun w I => MapAt.keep0 (by assumption) I.keeps))) ?_
    refine mv rfl (co (Ev.extract (.t rfl) rfl) (co (Ev.extract (.t rfl) rfl) (asn rfl (asn rfl (nP (sg (mv rfl (co (Ev.not (.t rfl)) ?_))))))))
    refine nP ?_
    first | refine condD rfl (fun h1 => ?_) (fun h1 => ?_) | refine cond rfl (fun h1 => ?_) (fun h1 => ?_)
    · try simp only [Gx.nb] at h1
      refine region (mv rfl (mv rfl (co (Ev.ldv ty172 (.t rfl) (Lens.id _)) ?_)))
      refine cons (callcv (.t rfl) hen (.cons (.t rfl) .nil) (fun w I => hk.call trivial w I) ?_)
      refine mv rfl (cons (mapUpdate Tryz.underlying204 Tryz.underlying109 key109 (.t rfl) (.t rfl) (.t rfl) zu ?_))
      refine nil (bN (pN (region (co (Ev.add_i (.t rfl) (.c (v := I 1) rfl) (fun _ => zo)) ?_))))
      refine mv rfl (nP (nx (X := Int) (i + 1) ?_ ?_ (hL := (by (first | rw [firstN_hasI _ _ _ eRoute.zero (by omega) h1] | rw [firstN_newI _ _ _ eRoute.zero (by omega) h1]); exact zs))))
      · try dsimp only
        omega
      · try dsimp only
        first | omega | (simp; omega)
    · try simp only [Gx.nb] at h1
      refine skip (bN (pN (region (co (Ev.add_i (.t rfl) (.c (v := I 1) rfl) (fun _ => zo)) ?_))))
      refine mv rfl (nP (nx (X := Int) (i + 1) ?_ ?_ (hL := (by (first | rw [firstN_hasI _ _ _ eRoute.zero (by omega) h1] | rw [firstN_newI _ _ _ eRoute.zero (by omega) h1]); exact zs))))
      · try dsimp only
        omega
      · try dsimp only
        first | omega | (simp; omega)
  · try simp only [Gx.nb] at h0
    refine exit (pX (pX (bX (pN (sg (mv rfl (asn rfl (nP (ret (done rfl (.tmp rfl .nil) (fun w I => ?_)))))))))))
    have hil : i.toNat = xs.length := by omega
    rw [hil] at I
    exact retN b1 trivial rfl zs w I
theorem first_3_3 (f : Nat) (cap : List Value) (kf : Int → Int) (u : Value) (xs : List Int) (w : World) (hen : Enters Tryz.prog f) (hl : IsSl iE w u xs) (hk : FnAt Tryz.prog f cap Nope w iE iE (fun _ => True) kf) : Calls Tryz.prog 131 #[u, (clo f cap).v] w (RetN w (fun _ : Nat => True) (fun b => .map (some b)) (fun b => [MapR b iE iE (firstN eqd kf xs xs.length)])) := by
  have hle := hl.le
  refine en0 35 Tryz.func131 ?_
  refine sg (co (Ev.assign (.c (v := (Go.Value.map none)) rfl)) ?_)
  refine nP (sg (cons (makeMap (E := iE) (V := iE) (fun b1 => ?_))))
  refine asn rfl (nP (seq (sg (mv rfl (co (Ev.len Tryz.underlying22 (.t rfl) zf) ?_)))))
  refine co (Ev.move (.c (v := I 0) rfl)) ?_
  refine nP (block (lp (X := Int) (fun x : Int => (0 ≤ x ∧ x ≤ xs.length)) (fun x : Int => [dz, (1, true, (clo f cap).v), (5, true, .map (some b1)), (11, true, u), (12, true, I xs.length), (13, true, I x)]) (fun x : Int => [MapR b1 iE iE (firstN eqd kf xs x.toNat)]) (fun x : Int => ((xs.length : Int) - x).toNat) (0) ?_ (fun x hx => ?_)))
  · omega
  obtain ⟨i, rfl⟩ : ∃ y, y = x := ⟨x, rfl⟩
  have hi : 0 ≤ i ∧ i ≤ xs.length := hx
  clear hx
  show Sat _ _ [dz, (1, true, (clo f cap).v), (5, true, .map (some b1)), (11, true, u), (12, true, I xs.length), (13, true, I i)] [MapR b1 iE iE (firstN eqd kf xs i.toNat)]
  refine sg (co (Ev.lss_i (.t rfl) (.t rfl)) ?_)
  refine nP (seq ?_)
  first | refine condD rfl (fun h0 => ?_) (fun h0 => ?_) | refine cond rfl (fun h0 => ?_) (fun h0 => ?_)
  · try simp only [Gx.nb] at h0
    refine skip (pN (seq (block (sg (mv rfl (co (Ev.indexAddr Tryz.underlying22 ty3 (.t rfl) (.t rfl) (fun w I => hl.keep0 I.keeps) (fun _ => zo)) ?_))))))
    refine co (Ev.loadS0 ty3 (.t rfl) (fun w I => hl.keep0 I.keeps) (fun _ => zo)) ?_
    refine asn rfl (asn rfl (nP (sg (mv rfl (mv rfl (mv rfl (cons (callcv (.t rfl) hen (.cons (.t rfl) .nil) (fun w I => hk.call trivial w I) ?_))))))))
    refine co (Ev.lookupT Tryz.underlying203 Tryz.underlying3 key3 z3 (.t rfl) (.t rfl) (fun _ => (by first | exact mapAt_own (by repeat first | exact mH | apply mT | apply mA) | exact mapAt_stamp (by repeat first | exact mH | apply mT | apply mA) | exact fun w I => MapAt.keep0 (by assumption) I.keeps))) ?_
    refine mv rfl (co (Ev.extract (.t rfl) rfl) (co (Ev.extract (.t rfl) rfl) (asn rfl (asn rfl (nP (sg (mv rfl (co (Ev.not (.t rfl)) ?_))))))))
    refine nP ?_
    first | refine condD rfl (fun h1 => ?_) (fun h1 => ?_) | refine cond rfl (fun h1 => ?_) (fun h1 => ?_)
    · try simp only [Gx.nb] at h1
      refine region (mv rfl (mv rfl (mv rfl (cons (callcv (.t rfl) hen (.cons (.t rfl) .nil) (fun w I => hk.call trivial w I) ?_)))))
      refine mv rfl (cons (mapUpdate Tryz.underlying203 Tryz.underlying3 key3 (.t rfl) (.t rfl) (.t rfl) zu ?_))
      refine nil (bN (pN (region (co (Ev.add_i (.t rfl) (.c (v := I 1) rfl) (fun _ => zo)) ?_))))
      refine mv rfl (nP (nx (X := Int) (i + 1) ?_ ?_ (hL := (by (first | rw [firstN_hasI _ _ _ iE.zero (by omega) h1] | rw [firstN_newI _ _ _ iE.zero (by omega) h1]); exact zs))))
      · try dsimp only
        omega
      · try dsimp only
        first | omega | (simp; omega)
    · try simp only [Gx.nb] at h1
      refine skip (bN (pN (region (co (Ev.add_i (.t rfl) (.c (v := I 1) rfl) (fun _ => zo)) ?_))))
      refine mv rfl (nP (nx (X := Int) (i + 1) ?_ ?_ (hL := (by (first | rw [firstN_hasI _ _ _ iE.zero (by omega) h1] | rw [firstN_newI _ _ _ iE.zero (by omega) h1]); exact zs))))
      · try dsimp only
        omega
      · try dsimp only
        first | omega | (simp; omega)
  · try simp only [Gx.nb] at h0
    refine exit (pX (pX (bX (pN (sg (mv rfl (asn rfl (nP (ret (done rfl (.tmp rfl .nil) (fun w I => ?_)))))))))))
    have hil : i.toNat = xs.length := by omega
    rw [hil] at I
    exact retN b1 trivial rfl zs w I
theorem ty113 : TyOK Tryz.prog 113 eRule := TyOK.mk' zk zk
theorem z113 : (Tryz.prog.info? 113).bind (·.zero) = some (eRule.val eRule.zero) := by kernel_rfl
theorem first_9_113 (f : Nat) (cap : List Value) (kf : SRule → ByteArray) (u : Value) (xs : List SRule) (w : World) (hen : Enters Tryz.prog f) (hl : IsSl eRule w u xs) (hk : FnAt Tryz.prog f cap Nope w eRule sE (fun _ => True) kf) : Calls Tryz.prog 135 #[u, (clo f cap).v] w (RetN w (fun _ : Nat => True) (fun b => .map (some b)) (fun b => [MapR b sE iE (firstN eqs kf xs xs.length)])) := by
  have hle := hl.le
  refine en0 35 Tryz.func135 ?_
  refine sg (co (Ev.assign (.c (v := (Go.Value.map none)) rfl)) ?_)
  refine nP (sg (cons (makeMap (E := sE) (V := iE) (fun b1 => ?_))))
  refine asn rfl (nP (seq (sg (mv rfl (co (Ev.len Tryz.underlying24 (.t rfl) zf) ?_)))))
  refine co (Ev.move (.c (v := I 0) rfl)) ?_
  refine nP (block (lp (X := Int) (fun x : Int => (0 ≤ x ∧ x ≤ xs.length)) (fun x : Int => [dz, (1, true, (clo f cap).v), (5, true, .map (some b1)), (11, true, u), (12, true, I xs.length), (13, true, I x)]) (fun x : Int => [MapR b1 sE iE (firstN eqs kf xs x.toNat)]) (fun x : Int => ((xs.length : Int) - x).toNat) (0) ?_ (fun x hx => ?_)))
  · omega
  obtain ⟨i, rfl⟩ : ∃ y, y = x := ⟨x, rfl⟩
  have hi : 0 ≤ i ∧ i ≤ xs.length := hx
  clear hx
  show Sat _ _ [dz, (1, true, (clo f cap).v), (5, true, .map (some b1)), (11, true, u), (12, true, I xs.length), (13, true, I i)] [MapR b1 sE iE (firstN eqs kf xs i.toNat)]
  refine sg (co (Ev.lss_i (.t rfl) (.t rfl)) ?_)
  refine nP (seq ?_)
  first | refine condD rfl (fun h0 => ?_) (fun h0 => ?_) | refine cond rfl (fun h0 => ?_) (fun h0 => ?_)
  · try simp only [Gx.nb] at h0
    refine skip (pN (seq (block (sg (mv rfl (co (Ev.indexAddr Tryz.underlying24 ty113 (.t rfl) (.t rfl) (fun w I => hl.keep0 I.keeps) (fun _ => zo)) ?_))))))
    refine co (Ev.loadS0 ty113 (.t rfl) (fun w I => hl.keep0 I.keeps) (fun _ => zo)) ?_
    refine cons (alloc z113 (fun b2 => ?_))
    refine asn rfl (cons (stv ty113 (Lens.id _) (.t rfl) (.t rfl) ?_))
    refine nP (sg (mv rfl (mv rfl (co (Ev.ldv ty113 (.t rfl) (Lens.id _)) ?_))))
    refine cons (callcv (.t rfl) hen (.cons (.t rfl) .nil) (fun w I => hk.call trivial w I) ?_)
    refine co (Ev.lookupT Tryz.underlying130 Tryz.underlying9 key9 z3 (.t rfl) (.t rfl) (fun _ => (by first | exact mapAt_own (by repeat first | exact mH | apply mT | apply mA) | exact mapAt_stamp (by repeat first | exact mH | apply mT | apply mA) | exact fun w I => MapAt.keep0 (by assumption) I.keeps))) ?_
    refine mv rfl (co (Ev.extract (.t rfl) rfl) (co (Ev.extract (.t rfl) rfl) (asn rfl (asn rfl (nP (sg (mv rfl (co (Ev.not (.t rfl)) ?_))))))))
    refine nP ?_
    first | refine condD rfl (fun h1 => ?_) (fun h1 => ?_) | refine cond rfl (fun h1 => ?_) (fun h1 => ?_)
    · try simp only [Gx.nb] at h1
      refine region (mv rfl (mv rfl (co (Ev.ldv ty113 (.t rfl) (Lens.id _)) ?_)))
      refine cons (callcv (.t rfl) hen (.cons (.t rfl) .nil) (fun w I => hk.call trivial w I) ?_)
      refine mv rfl (cons (mapUpdate Tryz.underlying130 Tryz.underlying9 key9 (.t rfl) (.t rfl) (.t rfl) zu ?_))
      refine nil (bN (pN (region (co (Ev.add_i (.t rfl) (.c (v := I 1) rfl) (fun _ => zo)) ?_))))
      refine mv rfl (nP (nx (X := Int) (i + 1) ?_ ?_ (hL := (by (first | rw [firstN_hasI _ _ _ eRule.zero (by omega) h1] | rw [firstN_newI _ _ _ eRule.zero (by omega) h1]); exact zs))))
      · try dsimp only
        omega
      · try dsimp only
        first | omega | (simp; omega)
    · try simp only [Gx.nb] at h1
      refine skip (bN (pN (region (co (Ev.add_i (.t rfl) (.c (v := I 1) rfl) (fun _ => zo)) ?_))))
      refine mv rfl (nP (nx (X := Int) (i + 1) ?_ ?_ (hL := (by (first | rw [firstN_hasI _ _ _ eRule.zero (by omega) h1] | rw [firstN_newI _ _ _ eRule.zero (by omega) h1]); exact zs))))
      · try dsimp only
        omega
      · try dsimp only
        first | omega | (simp; omega)
  · try simp only [Gx.nb] at h0
    refine exit (pX (pX (bX (pN (sg (mv rfl (asn rfl (nP (ret (done rfl (.tmp rfl .nil) (fun w I => ?_)))))))))))
    have hil : i.toNat = xs.length := by omega
    rw [hil] at I
    exact retN b1 trivial rfl zs w I
theorem ty134 : TyOK Tryz.prog 134 eMeterConf := TyOK.mk' zk zk
theorem z134 : (Tryz.prog.info? 134).bind (·.zero) = some (eMeterConf.val eMeterConf.zero) := by kernel_rfl
theorem first_9_134 (f : Nat) (cap : List Value) (kf : SMeterConf → ByteArray) (u : Value) (xs : List SMeterConf) (w : World) (hen : Enters Tryz.prog f) (hl : IsSl eMeterConf w u xs) (hk : FnAt Tryz.prog f cap Nope w eMeterConf sE (fun _ => True) kf) : Calls Tryz.prog 137 #[u, (clo f cap).v] w (RetN w (fun _ : Nat => True) (fun b => .map (some b)) (fun b => [MapR b sE iE (firstN eqs kf xs xs.length)])) := by
  have hle := hl.le
  refine en0 35 Tryz.func137 ?_
  refine sg (co (Ev.assign (.c (v := (Go.Value.map none)) rfl)) ?_)
  refine nP (sg (cons (makeMap (E := sE) (V := iE) (fun b1 => ?_))))
  refine asn rfl (nP (seq (sg (mv rfl (co (Ev.len Tryz.underlying25 (.t rfl) zf) ?_)))))
  refine co (Ev.move (.c (v := I 0) rfl)) ?_
  refine nP (block (lp (X := Int) (fun x : Int => (0 ≤ x ∧ x ≤ xs.length)) (fun x : Int => [dz, (1, true, (clo f cap).v), (5, true, .map (some b1)), (11, true, u), (12, true, I xs.length), (13, true, I x)]) (fun x : Int => [MapR b1 sE iE (firstN eqs kf xs x.toNat)]) (fun x : Int => ((xs.length : Int) - x).toNat) (0) ?_ (fun x hx => ?_)))
  · omega
  obtain ⟨i, rfl⟩ : ∃ y, y = x := ⟨x, rfl⟩
  have hi : 0 ≤ i ∧ i ≤ xs.length := hx
  clear hx
  show Sat _ _ [dz, (1, true, (clo f cap).v), (5, true, .map (some b1)), (11, true, u), (12, true, I xs.length), (13, true, I i)] [MapR b1 sE iE (firstN eqs kf xs i.toNat)]
  refine sg (co (Ev.lss_i (.t rfl) (.t rfl)) ?_)
  refine nP (seq ?_)
  first | refine condD rfl (fun h0 => ?_) (fun h0 => ?_) | refine cond rfl (fun h0 => ?_) (fun h0 => ?_)
  · try simp only [Gx.nb] at h0
    refine skip (pN (seq (block (sg (mv rfl (co (Ev.indexAddr Tryz.underlying25 ty134 (.t rfl) (.t rfl) (fun w I => hl.keep0 I.keeps) (fun _ => zo)) ?_))))))
    refine co (Ev.loadS0 ty134 (.t rfl) (fun w I => hl.keep0 I.keeps) (fun _ => zo)) ?_
    refine cons (alloc z134 (fun b2 => ?_))
    refine asn rfl (cons (stv ty134 (Lens.id _) (.t rfl) (.t rfl) ?_))
    refine nP (sg (mv rfl (mv rfl (co (Ev.ldv ty134 (.t rfl) (Lens.id _)) ?_))))
    refine cons (callcv (.t rfl) hen (.cons (.t rfl) .nil) (fun w I => hk.call trivial w I) ?_)
    refine co (Ev.lookupT Tryz.underlying130 Tryz.underlying9 key9 z3 (.t rfl) (.t rfl) (fun _ => (by first | exact mapAt_own (by repeat first | exact mH | apply mT | apply mA) | exact mapAt_stamp (by repeat first | exact mH | apply mT | apply mA) | exact fun w I => MapAt.keep0 (by assumption) I.keeps))) ?_
    refine mv rfl (co (Ev.extract (.t rfl) rfl) (co (Ev.extract (.t rfl) rfl) (asn rfl (asn rfl (nP (sg (mv rfl (co (Ev.not (.t rfl)) ?_))))))))
    refine nP ?_
    first | refine condD rfl (fun h1 => ?_) (fun h1 => ?_) | refine cond rfl (fun h1 => ?_) (fun h1 => ?_)
    · try simp only [Gx.nb] at h1
      refine region (mv rfl (mv rfl (co (Ev.ldv ty134 (.t rfl) (Lens.id _)) ?_)))
      refine cons (callcv (.t rfl) hen (.cons (.t rfl) .nil) (fun w I => hk.call trivial w I) ?_)
      refine mv rfl (cons (mapUpdate Tryz.underlying130 Tryz.underlying9 key9 (.t rfl) (.t rfl) (.t rfl) zu ?_))
      refine nil (bN (pN (region (co (Ev.add_i (.t rfl) (.c (v := I 1) rfl) (fun _ => zo)) ?_))))
      refine mv rfl (nP (nx (X := Int) (i + 1) ?_ ?_ (hL := (by (first | rw [firstN_hasI _ _ _ eMeterConf.zero (by omega) h1] | rw [firstN_newI _ _ _ eMeterConf.zero (by omega) h1]); exact zs))))
      · try dsimp only
        omega
      · try dsimp only
        first | omega | (simp; omega)
    · try simp only [Gx.nb] at h1
      refine skip (bN (pN (region (co (Ev.add_i (.t rfl) (.c (v := I 1) rfl) (fun _ => zo)) ?_))))
      refine mv rfl (nP (nx (X := Int) (i + 1) ?_ ?_ (hL := (by (first | rw [firstN_hasI _ _ _ eMeterConf.zero (by omega) h1] | rw [firstN_newI _ _ _ eMeterConf.zero (by omega) h1]); exact zs))))
      · try dsimp only
        omega
      · try dsimp only
        first | omega | (simp; omega)
  · try simp only [Gx.nb] at h0
    refine exit (pX (pX (bX (pN (sg (mv rfl (asn rfl (nP (ret (done rfl (.tmp rfl .nil) (fun w I => ?_)))))))))))
    have hil : i.toNat = xs.length := by omega
    rw [hil] at I
    exact retN b1 trivial rfl zs w I
theorem ty136 : TyOK Tryz.prog 136 eMirrorConf := TyOK.mk' zk zk
theorem z136 : (Tryz.prog.info? 136).bind (·.zero) = some (eMirrorConf.val eMirrorConf.zero) := by kernel_rfl
theorem first_9_136 (f : Nat) (cap : List Value) (kf : SMirrorConf → ByteArray) (u : Value) (xs : List SMirrorConf) (w : World) (hen : Enters Tryz.prog f) (hl : IsSl eMirrorConf w u xs) (hk : FnAt Tryz.prog f cap Nope w eMirrorConf sE (fun _ => True) kf) : Calls Tryz.prog 139 #[u, (clo f cap).v] w (RetN w (fun _ : Nat => True) (fun b => .map (some b)) (fun b => [MapR b sE iE (firstN eqs kf xs xs.length)])) := by
  have hle := hl.le
  refine en0 35 Tryz.func139 ?_
  refine sg (co (Ev.assign (.c (v := (Go.Value.map none)) rfl)) ?_)
  refine nP (sg (cons (makeMap (E := sE) (V := iE) (fun b1 => ?_))))
  refine asn rfl (nP (seq (sg (mv rfl (co (Ev.len Tryz.underlying26 (.t rfl) zf) ?_)))))
  refine co (Ev.move (.c (v := I 0) rfl)) ?_
  refine nP (block (lp (X := Int) (fun x : Int => (0 ≤ x ∧ x ≤ xs.length)) (fun x : Int => [dz, (1, true, (clo f cap).v), (5, true, .map (some b1)), (11, true, u), (12, true, I xs.length), (13, true, I x)]) (fun x : Int => [MapR b1 sE iE (firstN eqs kf xs x.toNat)]) (fun x : Int => ((xs.length : Int) - x).toNat) (0) ?_ (fun x hx => ?_)))
  · omega
  obtain ⟨i, rfl⟩ : ∃ y, y = x := ⟨x, rfl⟩
  have hi : 0 ≤ i ∧ i ≤ xs.length := hx
  clear hx
  show Sat _ _ [dz, (1, true, (clo f cap).v), (5, true, .map (some b1)), (11, true, u), (12, true, I xs.length), (13, true, I i)] [MapR b1 sE iE (firstN eqs kf xs i.toNat)]
  refine sg (co (Ev.lss_i (.t rfl) (.t rfl)) ?_)
  refine nP (seq ?_)
  first | refine condD rfl (fun h0 => ?_) (fun h0 => ?_) | refine cond rfl (fun h0 => ?_) (fun h0 => ?_)
  · try simp only [Gx.nb] at h0
    refine skip (pN (seq (block (sg (mv rfl (co (Ev.indexAddr Tryz.underlying26 ty136 (.t rfl) (.t rfl) (fun w I => hl.keep0 I.keeps) (fun _ => zo)) ?_))))))
    refine co (Ev.loadS0 ty136 (.t rfl) (fun w I => hl.keep0 I.keeps) (fun _ => zo)) ?_
    refine cons (alloc z136 (fun b2 => ?_))
    refine asn rfl (cons (stv ty136 (Lens.id _) (.t rfl) (.t rfl) ?_))
    refine nP (sg (mv rfl (mv rfl (co (Ev.ldv ty136 (.t rfl) (Lens.id _)) ?_))))
    refine cons (callcv (.t rfl) hen (.cons (.t rfl) .nil) (fun w I => hk.call trivial w I) ?_)
    refine co (Ev.lookupT Tryz.underlying130 Tryz.underlying9 key9 z3 (.t rfl) (.t rfl) (fun _ => (by first | exact mapAt_own (by repeat first | exact mH | apply mT | apply mA) | exact mapAt_stamp (by repeat first | exact mH | apply mT | apply mA) | exact fun w I => MapAt.keep0 (by assumption) I.keeps))) ?_
    refine mv rfl (co (Ev.extract (.t rfl) rfl) (co (Ev.extract (.t rfl) rfl) (asn rfl (asn rfl (nP (sg (mv rfl (co (Ev.not (.t rfl)) ?_))))))))
    refine nP ?_
    first | refine condD rfl (fun h1 => ?_) (fun h1 => ?_) | refine cond rfl (fun h1 => ?_) (fun h1 => ?_)
    · try simp only [Gx.nb] at h1
      refine region (mv rfl (mv rfl (co (Ev.ldv ty136 (.t rfl) (Lens.id _)) ?_)))
      refine cons (callcv (.t rfl) hen (.cons (.t rfl) .nil) (fun w I => hk.call trivial w I) ?_)
      refine mv rfl (cons (mapUpdate Tryz.underlying130 Tryz.underlying9 key9 (.t rfl) (.t rfl) (.t rfl) zu ?_))
      refine nil (bN (pN (region (co (Ev.add_i (.t rfl) (.c (v := I 1) rfl) (fun _ => zo)) ?_))))
      refine mv rfl (nP (nx (X := Int) (i + 1) ?_ ?_ (hL := (by (first | rw [firstN_hasI _ _ _ eMirrorConf.zero (by omega) h1] | rw [firstN_newI _ _ _ eMirrorConf.zero (by omega) h1]); exact zs))))
      · try dsimp only
        omega
      · try dsimp only
        first | omega | (simp; omega)
    · try simp only [Gx.nb] at h1
      refine skip (bN (pN (region (co (Ev.add_i (.t rfl) (.c (v := I 1) rfl) (fun _ => zo)) ?_))))
      refine mv rfl (nP (nx (X := Int) (i + 1) ?_ ?_ (hL := (by (first | rw [firstN_hasI _ _ _ eMirrorConf.zero (by omega) h1] | rw [firstN_newI _ _ _ eMirrorConf.zero (by omega) h1]); exact zs))))
      · try dsimp only
        omega
      · try dsimp only
        first | omega | (simp; omega)
  · try simp only [Gx.nb] at h0
    refine exit (pX (pX (bX (pN (sg (mv rfl (asn rfl (nP (ret (done rfl (.tmp rfl .nil) (fun w I => ?_)))))))))))
    have hil : i.toNat = xs.length := by omega
    rw [hil] at I
    exact retN b1 trivial rfl zs w I
theorem zb3 : (Tryz.prog.info? 3).map (fun i => (i.zero, i.bytes)) = some (some (iE.val iE.zero), 8) := by kernel_rfl
theorem zs3 : (iE.val iE.zero).cells.size = iE.size := by rw [Enc.cells_val, List.size_toArray, Enc.len]
theorem clone_3 (u : Value) (xs : List Int) (w : World) (hl : IsSl iE w u xs) (hn : xs.length * 8 ≤ 140737488355328) : Calls Tryz.prog 66 #[u] w (RetO w iE xs 3) := by
  have hle := hl.le
  have hl2 := hl
  obtain ⟨sa, cap, rfl, hc1, hc2, hc3, hc4⟩ := hl2
  replace hc3 : sa = none → [] = xs := fun e => (hc3 e).1.symm
  refine en0 8 Tryz.func66 ?_
  refine sg (co (Ev.assign (.c (v := (Go.Value.slice none 0 0)) rfl)) ?_)
  refine nP (seq (sg (mv rfl (co (Ev.eql_slnil Tryz.underlying22 (.t rfl) (.c rfl)) ?_))))
  refine nP ?_
  first | refine condD rfl (fun h0 => ?_) (fun h0 => ?_) | refine cond rfl (fun h0 => ?_) (fun h0 => ?_)
  · try simp only [Gx.nb] at h0
    refine sg (takeNil iE 3 ?_)
    refine co (Ev.assign (.c (v := (Go.Value.slice none 0 0)) rfl)) ?_
    refine nP (ret (pR (done rfl (.tmp rfl .nil) (retOE zm ?_))))
    first | exact hc3 (by simpa using h0) | (symm; exact hc3 (by simpa using h0))
  · try simp only [Gx.nb] at h0
    refine skip (pN (sg (cons (buildSlice (E := iE) Tryz.underlying22 ty3 z3 .nil rfl rfl (fun v1 => ?_)))))
    refine mv rfl (cons (app (E := iE) Tryz.underlying22 ty3 zb3 zs3 (.t rfl) (.t rfl) (fun v2 => ?_) (hsrc := (fun w I => hl.keep0 I.keeps)) (hby := ⟨by (show _ ≤ 9223372036854775807); first | omega | (simp; done) | (simp; omega), by first | omega | (simp; done) | (simp; omega)⟩)))
    refine asn rfl (nP (ret (done rfl (.tmp rfl .nil) (retOE zm ?_))))
    simp
theorem zb172 : (Tryz.prog.info? 172).map (fun i => (i.zero, i.bytes)) = some (some (eRoute.val eRoute.zero), 40) := by kernel_rfl
theorem zs172 : (eRoute.val eRoute.zero).cells.size = eRoute.size := by rw [Enc.cells_val, List.size_toArray, Enc.len]
theorem clone_172 (u : Value) (xs : List SRoute) (w : World) (hl : IsSl eRoute w u xs) (hn : xs.length * 40 ≤ 140737488355328) : Calls Tryz.prog 67 #[u] w (RetO w eRoute xs 172) := by
  have hle := hl.le
  have hl2 := hl
  obtain ⟨sa, cap, rfl, hc1, hc2, hc3, hc4⟩ := hl2
  replace hc3 : sa = none → [] = xs := fun e => (hc3 e).1.symm
  refine en0 8 Tryz.func67 ?_
  refine sg (co (Ev.assign (.c (v := (Go.Value.slice none 0 0)) rfl)) ?_)
  refine nP (seq (sg (mv rfl (co (Ev.eql_slnil Tryz.underlying23 (.t rfl) (.c rfl)) ?_))))
  refine nP ?_
  first | refine condD rfl (fun h0 => ?_) (fun h0 => ?_) | refine cond rfl (fun h0 => ?_) (fun h0 => ?_)
  · try simp only [Gx.nb] at h0
    refine sg (takeNil eRoute 172 ?_)
    refine co (Ev.assign (.c (v := (Go.Value.slice none 0 0)) rfl)) ?_
    refine nP (ret (pR (done rfl (.tmp rfl .nil) (retOE zm ?_))))
    first | exact hc3 (by simpa using h0) | (symm; exact hc3 (by simpa using h0))
  · try simp only [Gx.nb] at h0
    refine skip (pN (sg (cons (buildSlice (E := eRoute) Tryz.underlying23 ty172 z172 .nil rfl rfl (fun v1 => ?_)))))
    refine mv rfl (cons (app (E := eRoute) Tryz.underlying23 ty172 zb172 zs172 (.t rfl) (.t rfl) (fun v2 => ?_) (hsrc := (fun w I => hl.keep0 I.keeps)) (hby := ⟨by (show _ ≤ 9223372036854775807); first | omega | (simp; done) | (simp; omega), by first | omega | (simp; done) | (simp; omega)⟩)))
    refine asn rfl (nP (ret (done rfl (.tmp rfl .nil) (retOE zm ?_))))
    simp
theorem zb113 : (Tryz.prog.info? 113).map (fun i => (i.zero, i.bytes)) = some (some (eRule.val eRule.zero), 152) := by kernel_rfl
theorem zs113 : (eRule.val eRule.zero).cells.size = eRule.size := by rw [Enc.cells_val, List.size_toArray, Enc.len]
theorem clone_113 (u : Value) (xs : List SRule) (w : World) (hl : IsSl eRule w u xs) (hn : xs.length * 152 ≤ 140737488355328) : Calls Tryz.prog 68 #[u] w (RetO w eRule xs 113) := by
  have hle := hl.le
  have hl2 := hl
  obtain ⟨sa, cap, rfl, hc1, hc2, hc3, hc4⟩ := hl2
  replace hc3 : sa = none → [] = xs := fun e => (hc3 e).1.symm
  refine en0 8 Tryz.func68 ?_
  refine sg (co (Ev.assign (.c (v := (Go.Value.slice none 0 0)) rfl)) ?_)
  refine nP (seq (sg (mv rfl (co (Ev.eql_slnil Tryz.underlying24 (.t rfl) (.c rfl)) ?_))))
  refine nP ?_
  first | refine condD rfl (fun h0 => ?_) (fun h0 => ?_) | refine cond rfl (fun h0 => ?_) (fun h0 => ?_)
  · try simp only [Gx.nb] at h0
    refine sg (takeNil eRule 113 ?_)
    refine co (Ev.assign (.c (v := (Go.Value.slice none 0 0)) rfl)) ?_
    refine nP (ret (pR (done rfl (.tmp rfl .nil) (retOE zm ?_))))
    first | exact hc3 (by simpa using h0) | (symm; exact hc3 (by simpa using h0))
  · try simp only [Gx.nb] at h0
    refine skip (pN (sg (cons (buildSlice (E := eRule) Tryz.underlying24 ty113 z113 .nil rfl rfl (fun v1 => ?_)))))
    refine mv rfl (cons (app (E := eRule) Tryz.underlying24 ty113 zb113 zs113 (.t rfl) (.t rfl) (fun v2 => ?_) (hsrc := (fun w I => hl.keep0 I.keeps)) (hby := ⟨by (show _ ≤ 9223372036854775807); first | omega | (simp; done) | (simp; omega), by first | omega | (simp; done) | (simp; omega)⟩)))
    refine asn rfl (nP (ret (done rfl (.tmp rfl .nil) (retOE zm ?_))))
    simp
theorem zb134 : (Tryz.prog.info? 134).map (fun i => (i.zero, i.bytes)) = some (some (eMeterConf.val eMeterConf.zero), 40) := by kernel_rfl
theorem zs134 : (eMeterConf.val eMeterConf.zero).cells.size = eMeterConf.size := by rw [Enc.cells_val, List.size_toArray, Enc.len]
theorem clone_134 (u : Value) (xs : List SMeterConf) (w : World) (hl : IsSl eMeterConf w u xs) (hn : xs.length * 40 ≤ 140737488355328) : Calls Tryz.prog 69 #[u] w (RetO w eMeterConf xs 134) := by
  have hle := hl.le
  have hl2 := hl
  obtain ⟨sa, cap, rfl, hc1, hc2, hc3, hc4⟩ := hl2
  replace hc3 : sa = none → [] = xs := fun e => (hc3 e).1.symm
  refine en0 8 Tryz.func69 ?_
  refine sg (co (Ev.assign (.c (v := (Go.Value.slice none 0 0)) rfl)) ?_)
  refine nP (seq (sg (mv rfl (co (Ev.eql_slnil Tryz.underlying25 (.t rfl) (.c rfl)) ?_))))
  refine nP ?_
  first | refine condD rfl (fun h0 => ?_) (fun h0 => ?_) | refine cond rfl (fun h0 => ?_) (fun h0 => ?_)
  · try simp only [Gx.nb] at h0
    refine sg (takeNil eMeterConf 134 ?_)
    refine co (Ev.assign (.c (v := (Go.Value.slice none 0 0)) rfl)) ?_
    refine nP (ret (pR (done rfl (.tmp rfl .nil) (retOE zm ?_))))
    first | exact hc3 (by simpa using h0) | (symm; exact hc3 (by simpa using h0))
  · try simp only [Gx.nb] at h0
    refine skip (pN (sg (cons (buildSlice (E := eMeterConf) Tryz.underlying25 ty134 z134 .nil rfl rfl (fun v1 => ?_)))))
    refine mv rfl (cons (app (E := eMeterConf) Tryz.underlying25 ty134 zb134 zs134 (.t rfl) (.t rfl) (fun v2 => ?_) (hsrc := (fun w I => hl.keep0 I.keeps)) (hby := ⟨by (show _ ≤ 9223372036854775807); first | omega | (simp; done) | (simp; omega), by first | omega | (simp; done) | (simp; omega)⟩)))
    refine asn rfl (nP (ret (done rfl (.tmp rfl .nil) (retOE zm ?_))))
    simp
theorem zb136 : (Tryz.prog.info? 136).map (fun i => (i.zero, i.bytes)) = some (some (eMirrorConf.val eMirrorConf.zero), 32) := by kernel_rfl
theorem zs136 : (eMirrorConf.val eMirrorConf.zero).cells.size = eMirrorConf.size := by rw [Enc.cells_val, List.size_toArray, Enc.len]
theorem clone_136 (u : Value) (xs : List SMirrorConf) (w : World) (hl : IsSl eMirrorConf w u xs) (hn : xs.length * 32 ≤ 140737488355328) : Calls Tryz.prog 70 #[u] w (RetO w eMirrorConf xs 136) := by
  have hle := hl.le
  have hl2 := hl
  obtain ⟨sa, cap, rfl, hc1, hc2, hc3, hc4⟩ := hl2
  replace hc3 : sa = none → [] = xs := fun e => (hc3 e).1.symm
  refine en0 8 Tryz.func70 ?_
  refine sg (co (Ev.assign (.c (v := (Go.Value.slice none 0 0)) rfl)) ?_)
  refine nP (seq (sg (mv rfl (co (Ev.eql_slnil Tryz.underlying26 (.t rfl) (.c rfl)) ?_))))
  refine nP ?_
  first | refine condD rfl (fun h0 => ?_) (fun h0 => ?_) | refine cond rfl (fun h0 => ?_) (fun h0 => ?_)
  · try simp only [Gx.nb] at h0
    refine sg (takeNil eMirrorConf 136 ?_)
    refine co (Ev.assign (.c (v := (Go.Value.slice none 0 0)) rfl)) ?_
    refine nP (ret (pR (done rfl (.tmp rfl .nil) (retOE zm ?_))))
    first | exact hc3 (by simpa using h0) | (symm; exact hc3 (by simpa using h0))
  · try simp only [Gx.nb] at h0
    refine skip (pN (sg (cons (buildSlice (E := eMirrorConf) Tryz.underlying26 ty136 z136 .nil rfl rfl (fun v1 => ?_)))))
    refine mv rfl (cons (app (E := eMirrorConf) Tryz.underlying26 ty136 zb136 zs136 (.t rfl) (.t rfl) (fun v2 => ?_) (hsrc := (fun w I => hl.keep0 I.keeps)) (hby := ⟨by (show _ ≤ 9223372036854775807); first | omega | (simp; done) | (simp; omega), by first | omega | (simp; done) | (simp; omega)⟩)))
    refine asn rfl (nP (ret (done rfl (.tmp rfl .nil) (retOE zm ?_))))
    simp
def idxF {α : Type} (p : α → Bool) (l : List α) : Int := match l.findIdx? p with
  | some i => (i : Int)
  | none => -1
theorem idx_at {α : Type} {p : α → Bool} {l : List α} (z : α) {i : Int} (hi : 0 ≤ i ∧ i < l.length) (hq : ∀ k : Nat, k < i → p (l.getD k z) = false) (hp : p (l.getD i.toNat z) = true) : idxF p l = i := by
  have hlt : i.toNat < l.length := by omega
  have h : l.findIdx? p = some i.toNat := by
    rw [List.findIdx?_eq_some_iff_getElem]
    refine ⟨hlt, by simpa [List.getD, hlt] using hp, fun j hj => ?_⟩
    have := hq j (by omega)
    have hj2 : j < l.length := by omega
    simpa [List.getD, hj2] using this
  unfold idxF
  rw [h]
  show ((i.toNat : Nat) : Int) = i
  omega
theorem idx_none {α : Type} {p : α → Bool} {l : List α} (z : α) (hq : ∀ k : Nat, k < l.length → p (l.getD k z) = false) : idxF p l = -1 := by
  have h : l.findIdx? p = none := by
    rw [List.findIdx?_eq_none_iff]
    intro x hx
    obtain ⟨k, hk, rfl⟩ := List.mem_iff_getElem.1 hx
    simpa [List.getD, hk] using hq k hk
  unfold idxF
  rw [h]
structure SConf where
  ports : OV
  routes : OV
  rules : OV
  meters : OV
  mirrors : OV
  default : Int
def SConf.to : (OV × (OV × (OV × (OV × (OV × Int))))) → SConf := fun x => ⟨x.1, x.2.1, x.2.2.1, x.2.2.2.1, x.2.2.2.2.1, x.2.2.2.2.2⟩
def SConf.of : SConf → (OV × (OV × (OV × (OV × (OV × Int))))) := fun x => (x.ports, x.routes, x.rules, x.meters, x.mirrors, x.default)
def eConf : Enc SConf := isoE (prodE (ovE nilSl) (prodE (ovE nilSl) (prodE (ovE nilSl) (prodE (ovE nilSl) (prodE (ovE nilSl) iE))))) SConf.to SConf.of
def SConf.l_ports : Lens eConf (ovE nilSl) 0 := lIso _ SConf.to SConf.of (fun _ => rfl) (lFst (ovE nilSl) (prodE (ovE nilSl) (prodE (ovE nilSl) (prodE (ovE nilSl) (prodE (ovE nilSl) iE)))))
@[simp] theorem SConf.get_ports (x : SConf) : SConf.l_ports.get x = x.ports := rfl
@[simp] theorem SConf.set_ports (x : SConf) (y : OV) : SConf.l_ports.set x y = { x with ports := y } := rfl
def SConf.l_routes : Lens eConf (ovE nilSl) 1 := lIso _ SConf.to SConf.of (fun _ => rfl) (Lens.comp (lSnd (ovE nilSl) (prodE (ovE nilSl) (prodE (ovE nilSl) (prodE (ovE nilSl) (prodE (ovE nilSl) iE))))) (lFst (ovE nilSl) (prodE (ovE nilSl) (prodE (ovE nilSl) (prodE (ovE nilSl) iE)))))
@[simp] theorem SConf.get_routes (x : SConf) : SConf.l_routes.get x = x.routes := rfl
@[simp] theorem SConf.set_routes (x : SConf) (y : OV) : SConf.l_routes.set x y = { x with routes := y } := rfl
def SConf.l_rules : Lens eConf (ovE nilSl) 2 := lIso _ SConf.to SConf.of (fun _ => rfl) (Lens.comp (lSnd (ovE nilSl) (prodE (ovE nilSl) (prodE (ovE nilSl) (prodE (ovE nilSl) (prodE (ovE nilSl) iE))))) (Lens.comp (lSnd (ovE nilSl) (prodE (ovE nilSl) (prodE (ovE nilSl) (prodE (ovE nilSl) iE)))) (lFst (ovE nilSl) (prodE (ovE nilSl) (prodE (ovE nilSl) iE)))))
@[simp] theorem SConf.get_rules (x : SConf) : SConf.l_rules.get x = x.rules := rfl
@[simp] theorem SConf.set_rules (x : SConf) (y : OV) : SConf.l_rules.set x y = { x with rules := y } := rfl
def SConf.l_meters : Lens eConf (ovE nilSl) 3 := lIso _ SConf.to SConf.of (fun _ => rfl) (Lens.comp (lSnd (ovE nilSl) (prodE (ovE nilSl) (prodE (ovE nilSl) (prodE (ovE nilSl) (prodE (ovE nilSl) iE))))) (Lens.comp (lSnd (ovE nilSl) (prodE (ovE nilSl) (prodE (ovE nilSl) (prodE (ovE nilSl) iE)))) (Lens.comp (lSnd (ovE nilSl) (prodE (ovE nilSl) (prodE (ovE nilSl) iE))) (lFst (ovE nilSl) (prodE (ovE nilSl) iE)))))
@[simp] theorem SConf.get_meters (x : SConf) : SConf.l_meters.get x = x.meters := rfl
@[simp] theorem SConf.set_meters (x : SConf) (y : OV) : SConf.l_meters.set x y = { x with meters := y } := rfl
def SConf.l_mirrors : Lens eConf (ovE nilSl) 4 := lIso _ SConf.to SConf.of (fun _ => rfl) (Lens.comp (lSnd (ovE nilSl) (prodE (ovE nilSl) (prodE (ovE nilSl) (prodE (ovE nilSl) (prodE (ovE nilSl) iE))))) (Lens.comp (lSnd (ovE nilSl) (prodE (ovE nilSl) (prodE (ovE nilSl) (prodE (ovE nilSl) iE)))) (Lens.comp (lSnd (ovE nilSl) (prodE (ovE nilSl) (prodE (ovE nilSl) iE))) (Lens.comp (lSnd (ovE nilSl) (prodE (ovE nilSl) iE)) (lFst (ovE nilSl) iE)))))
@[simp] theorem SConf.get_mirrors (x : SConf) : SConf.l_mirrors.get x = x.mirrors := rfl
@[simp] theorem SConf.set_mirrors (x : SConf) (y : OV) : SConf.l_mirrors.set x y = { x with mirrors := y } := rfl
def SConf.l_default : Lens eConf iE 5 := lIso _ SConf.to SConf.of (fun _ => rfl) (Lens.comp (lSnd (ovE nilSl) (prodE (ovE nilSl) (prodE (ovE nilSl) (prodE (ovE nilSl) (prodE (ovE nilSl) iE))))) (Lens.comp (lSnd (ovE nilSl) (prodE (ovE nilSl) (prodE (ovE nilSl) (prodE (ovE nilSl) iE)))) (Lens.comp (lSnd (ovE nilSl) (prodE (ovE nilSl) (prodE (ovE nilSl) iE))) (Lens.comp (lSnd (ovE nilSl) (prodE (ovE nilSl) iE)) (Lens.comp (lSnd (ovE nilSl) iE) (Lens.id iE))))))
@[simp] theorem SConf.get_default (x : SConf) : SConf.l_default.get x = x.default := rfl
@[simp] theorem SConf.set_default (x : SConf) (y : Int) : SConf.l_default.set x y = { x with default := y } := rfl
structure SConfKnown where
  ports : OV
  routes : OV
  rules : OV
  meters : OV
  mirrors : OV
def SConfKnown.to : (OV × (OV × (OV × (OV × OV)))) → SConfKnown := fun x => ⟨x.1, x.2.1, x.2.2.1, x.2.2.2.1, x.2.2.2.2⟩
def SConfKnown.of : SConfKnown → (OV × (OV × (OV × (OV × OV)))) := fun x => (x.ports, x.routes, x.rules, x.meters, x.mirrors)
def eConfKnown : Enc SConfKnown := isoE (prodE (ovE nilMap) (prodE (ovE nilMap) (prodE (ovE nilMap) (prodE (ovE nilMap) (ovE nilMap))))) SConfKnown.to SConfKnown.of
def SConfKnown.l_ports : Lens eConfKnown (ovE nilMap) 0 := lIso _ SConfKnown.to SConfKnown.of (fun _ => rfl) (lFst (ovE nilMap) (prodE (ovE nilMap) (prodE (ovE nilMap) (prodE (ovE nilMap) (ovE nilMap)))))
@[simp] theorem SConfKnown.get_ports (x : SConfKnown) : SConfKnown.l_ports.get x = x.ports := rfl
@[simp] theorem SConfKnown.set_ports (x : SConfKnown) (y : OV) : SConfKnown.l_ports.set x y = { x with ports := y } := rfl
def SConfKnown.l_routes : Lens eConfKnown (ovE nilMap) 1 := lIso _ SConfKnown.to SConfKnown.of (fun _ => rfl) (Lens.comp (lSnd (ovE nilMap) (prodE (ovE nilMap) (prodE (ovE nilMap) (prodE (ovE nilMap) (ovE nilMap))))) (lFst (ovE nilMap) (prodE (ovE nilMap) (prodE (ovE nilMap) (ovE nilMap)))))
@[simp] theorem SConfKnown.get_routes (x : SConfKnown) : SConfKnown.l_routes.get x = x.routes := rfl
@[simp] theorem SConfKnown.set_routes (x : SConfKnown) (y : OV) : SConfKnown.l_routes.set x y = { x with routes := y } := rfl
def SConfKnown.l_rules : Lens eConfKnown (ovE nilMap) 2 := lIso _ SConfKnown.to SConfKnown.of (fun _ => rfl) (Lens.comp (lSnd (ovE nilMap) (prodE (ovE nilMap) (prodE (ovE nilMap) (prodE (ovE nilMap) (ovE nilMap))))) (Lens.comp (lSnd (ovE nilMap) (prodE (ovE nilMap) (prodE (ovE nilMap) (ovE nilMap)))) (lFst (ovE nilMap) (prodE (ovE nilMap) (ovE nilMap)))))
@[simp] theorem SConfKnown.get_rules (x : SConfKnown) : SConfKnown.l_rules.get x = x.rules := rfl
@[simp] theorem SConfKnown.set_rules (x : SConfKnown) (y : OV) : SConfKnown.l_rules.set x y = { x with rules := y } := rfl
def SConfKnown.l_meters : Lens eConfKnown (ovE nilMap) 3 := lIso _ SConfKnown.to SConfKnown.of (fun _ => rfl) (Lens.comp (lSnd (ovE nilMap) (prodE (ovE nilMap) (prodE (ovE nilMap) (prodE (ovE nilMap) (ovE nilMap))))) (Lens.comp (lSnd (ovE nilMap) (prodE (ovE nilMap) (prodE (ovE nilMap) (ovE nilMap)))) (Lens.comp (lSnd (ovE nilMap) (prodE (ovE nilMap) (ovE nilMap))) (lFst (ovE nilMap) (ovE nilMap)))))
@[simp] theorem SConfKnown.get_meters (x : SConfKnown) : SConfKnown.l_meters.get x = x.meters := rfl
@[simp] theorem SConfKnown.set_meters (x : SConfKnown) (y : OV) : SConfKnown.l_meters.set x y = { x with meters := y } := rfl
def SConfKnown.l_mirrors : Lens eConfKnown (ovE nilMap) 4 := lIso _ SConfKnown.to SConfKnown.of (fun _ => rfl) (Lens.comp (lSnd (ovE nilMap) (prodE (ovE nilMap) (prodE (ovE nilMap) (prodE (ovE nilMap) (ovE nilMap))))) (Lens.comp (lSnd (ovE nilMap) (prodE (ovE nilMap) (prodE (ovE nilMap) (ovE nilMap)))) (Lens.comp (lSnd (ovE nilMap) (prodE (ovE nilMap) (ovE nilMap))) (Lens.comp (lSnd (ovE nilMap) (ovE nilMap)) (Lens.id (ovE nilMap))))))
@[simp] theorem SConfKnown.get_mirrors (x : SConfKnown) : SConfKnown.l_mirrors.get x = x.mirrors := rfl
@[simp] theorem SConfKnown.set_mirrors (x : SConfKnown) (y : OV) : SConfKnown.l_mirrors.set x y = { x with mirrors := y } := rfl
def mapV (b : Nat) : OV := ⟨.map (some b), rfl⟩
structure CL where
  ps : List Int
  rs : List SRoute
  us : List SRule
  ms : List SMeterConf
  xs : List SMirrorConf
structure ConfAt (w : World) (c : SConf) (l : CL) : Prop where
  ps : IsSl iE w c.ports.v l.ps
  rs : IsSl eRoute w c.routes.v l.rs
  us : IsSl eRule w c.rules.v l.us
  ms : IsSl eMeterConf w c.meters.v l.ms
  xs : IsSl eMirrorConf w c.mirrors.v l.xs
theorem ConfAt.keep0 {w w' : World} {c : SConf} {l : CL} (h : ConfAt w c l) (k : Keeps Nope w w') : ConfAt w' c l := ⟨h.ps.keep0 k, h.rs.keep0 k, h.us.keep0 k, h.ms.keep0 k, h.xs.keep0 k⟩
def portsM (l : CL) : List (Int × Int) := firstN eqd (fun p => p) l.ps l.ps.length
def routesM (l : CL) : List (SPrefix × Int) := firstN SPrefix.eqb (fun r => r.to_) l.rs l.rs.length
def rulesM (l : CL) : List (ByteArray × Int) := firstN eqs (fun r => r.name) l.us l.us.length
def metersM (l : CL) : List (ByteArray × Int) := firstN eqs (fun r => r.name) l.ms l.ms.length
def mirrorsM (l : CL) : List (ByteArray × Int) := firstN eqs (fun r => r.name) l.xs l.xs.length
structure KB where
  b1 : Nat
  b2 : Nat
  b3 : Nat
  b4 : Nat
  b5 : Nat
def KB.k (x : KB) : SConfKnown := ⟨mapV x.b1, mapV x.b2, mapV x.b3, mapV x.b4, mapV x.b5⟩
def KB.R (x : KB) (l : CL) : List Res := [MapR x.b5 sE iE (mirrorsM l), MapR x.b4 sE iE (metersM l), MapR x.b3 sE iE (rulesM l), MapR x.b2 ePrefix iE (routesM l), MapR x.b1 iE iE (portsM l)]
theorem of1 (a : Int) (w : World) : Calls Tryz.prog 132 #[iE.val a] w (RetV w (iE.val (a))) := by
  refine en0 4 Tryz.func132 ?_
  refine sg (co (Ev.assign (.c (v := I 0) rfl)) ?_)
  refine nP (sg (mv rfl (asn rfl (nP (ret (done rfl (.tmp rfl .nil) (retE ?_)))))))
  rfl
theorem of1_at (M : Nat → Prop) (w : World) : FnAt Tryz.prog 132 [] M w iE iE (fun _ => True) (fun a => a) := fun a w _ _ => of1 a w
theorem z109 : (Tryz.prog.info? 109).bind (·.zero) = some (ePrefix.val ePrefix.zero) := by kernel_rfl
theorem of2 (a : SRoute) (w : World) : Calls Tryz.prog 134 #[eRoute.val a] w (RetV w (ePrefix.val (a.to_))) := by
  refine en0 5 Tryz.func134 ?_
  refine sg (cons (box (E := eRoute) (.t rfl) (fun b1 => ?_)))
  refine cons (alloc z109 (fun b2 => ?_))
  refine nP (sg (co (fA 0 (.t rfl)) ?_))
  refine co (Ev.ldx a.to_ ty109 (.t rfl) SRoute.l_to_) ?_
  refine cons (stv ty109 (Lens.id _) (.t rfl) (.t rfl) ?_)
  refine nP (ret (done rfl (.cell rfl (fun w I => run_loadVar_pts ty109 (ptsVar zm (Lens.id _) w I)) .nil) (retE ?_)))
  rfl
theorem of2_at (M : Nat → Prop) (w : World) : FnAt Tryz.prog 134 [] M w eRoute ePrefix (fun _ => True) (fun a => a.to_) := fun a w _ _ => of2 a w
theorem of3 (a : SRule) (w : World) : Calls Tryz.prog 136 #[eRule.val a] w (RetV w (sE.val (a.name))) := by
  refine en0 5 Tryz.func136 ?_
  refine sg (cons (box (E := eRule) (.t rfl) (fun b1 => ?_)))
  refine co (Ev.assign (.c (v := (Go.Value.string (ByteArray.mk #[]))) rfl)) ?_
  refine nP (sg (co (fA 0 (.t rfl)) ?_))
  refine co (Ev.ldx a.name ty9 (.t rfl) SRule.l_name) ?_
  refine asn rfl (nP (ret (done rfl (.tmp rfl .nil) (retE ?_))))
  rfl
theorem of3_at (M : Nat → Prop) (w : World) : FnAt Tryz.prog 136 [] M w eRule sE (fun _ => True) (fun a => a.name) := fun a w _ _ => of3 a w
theorem of4 (a : SMeterConf) (w : World) : Calls Tryz.prog 138 #[eMeterConf.val a] w (RetV w (sE.val (a.name))) := by
  refine en0 5 Tryz.func138 ?_
  refine sg (cons (box (E := eMeterConf) (.t rfl) (fun b1 => ?_)))
  refine co (Ev.assign (.c (v := (Go.Value.string (ByteArray.mk #[]))) rfl)) ?_
  refine nP (sg (co (fA 0 (.t rfl)) ?_))
  refine co (Ev.ldx a.name ty9 (.t rfl) SMeterConf.l_name) ?_
  refine asn rfl (nP (ret (done rfl (.tmp rfl .nil) (retE ?_))))
  rfl
theorem of4_at (M : Nat → Prop) (w : World) : FnAt Tryz.prog 138 [] M w eMeterConf sE (fun _ => True) (fun a => a.name) := fun a w _ _ => of4 a w
theorem of5 (a : SMirrorConf) (w : World) : Calls Tryz.prog 140 #[eMirrorConf.val a] w (RetV w (sE.val (a.name))) := by
  refine en0 5 Tryz.func140 ?_
  refine sg (cons (box (E := eMirrorConf) (.t rfl) (fun b1 => ?_)))
  refine co (Ev.assign (.c (v := (Go.Value.string (ByteArray.mk #[]))) rfl)) ?_
  refine nP (sg (co (fA 0 (.t rfl)) ?_))
  refine co (Ev.ldx a.name ty9 (.t rfl) SMirrorConf.l_name) ?_
  refine asn rfl (nP (ret (done rfl (.tmp rfl .nil) (retE ?_))))
  rfl
theorem of5_at (M : Nat → Prop) (w : World) : FnAt Tryz.prog 140 [] M w eMirrorConf sE (fun _ => True) (fun a => a.name) := fun a w _ _ => of5 a w
theorem en132 : Gx.Enters Tryz.prog 132 := Gx.Enters.mk' zk
theorem en134 : Gx.Enters Tryz.prog 134 := Gx.Enters.mk' zk
theorem en136 : Gx.Enters Tryz.prog 136 := Gx.Enters.mk' zk
theorem en138 : Gx.Enters Tryz.prog 138 := Gx.Enters.mk' zk
theorem en140 : Gx.Enters Tryz.prog 140 := Gx.Enters.mk' zk
theorem z206 : (Tryz.prog.info? 206).bind (·.zero) = some (eConfKnown.val eConfKnown.zero) := by kernel_rfl
theorem ty22 : TyOK Tryz.prog 22 (ovE nilSl) := TyOK.mk' zk zk
theorem ty23 : TyOK Tryz.prog 23 (ovE nilSl) := TyOK.mk' zk zk
theorem ty24 : TyOK Tryz.prog 24 (ovE nilSl) := TyOK.mk' zk zk
theorem ty25 : TyOK Tryz.prog 25 (ovE nilSl) := TyOK.mk' zk zk
theorem ty26 : TyOK Tryz.prog 26 (ovE nilSl) := TyOK.mk' zk zk
theorem en131 : Gx.Enters Tryz.prog 131 := Gx.Enters.mk' zk
theorem en133 : Gx.Enters Tryz.prog 133 := Gx.Enters.mk' zk
theorem en135 : Gx.Enters Tryz.prog 135 := Gx.Enters.mk' zk
theorem en137 : Gx.Enters Tryz.prog 137 := Gx.Enters.mk' zk
theorem en139 : Gx.Enters Tryz.prog 139 := Gx.Enters.mk' zk
theorem ty206 : TyOK Tryz.prog 206 eConfKnown := TyOK.mk' zk zk
theorem of_ok (c : SConf) (l : CL) (w : World) (hc : ConfAt w c l) : Calls Tryz.prog 92 #[eConf.val c] w (RetN w (fun _ : KB => True) (fun x => eConfKnown.val x.k) (fun x => x.R l)) := by
  refine en0 19 Tryz.func92 ?_
  refine sg (cons (box (E := eConf) (.t rfl) (fun b1 => ?_)))
  refine cons (alloc z206 (fun b2 => ?_))
  refine nP (seq (drawS 2 rfl zr zk ?_))
  refine tk 0 rfl (fA 0 (.t rfl)) ?_
  refine tk 1 rfl (Ev.ldx c.ports ty22 (.t rfl) SConf.l_ports) ?_
  refine tk 3 rfl (fA 1 (.t rfl)) ?_
  refine tk 4 rfl (Ev.ldx c.routes ty23 (.t rfl) SConf.l_routes) ?_
  refine tk 6 rfl (fA 2 (.t rfl)) ?_
  refine tk 7 rfl (Ev.ldx c.rules ty24 (.t rfl) SConf.l_rules) ?_
  refine tk 9 rfl (fA 3 (.t rfl)) ?_
  refine tk 10 rfl (Ev.ldx c.meters ty25 (.t rfl) SConf.l_meters) ?_
  refine tk 12 rfl (fA 4 (.t rfl)) ?_
  refine tk 13 rfl (Ev.ldx c.mirrors ty26 (.t rfl) SConf.l_mirrors) ?_
  refine al1 2 rfl ((calln (X := Nat) (fun _ => True) (fun b => (mapV b).v) (fun b => [MapR b iE iE (firstN eqd (fun a : Int => a) l.ps l.ps.length)]) en131 (.cons (.t rfl) (.cons .f .nil)) (fun w I => first_3_3 132 [] _ _ l.ps w en132 (hc.keep0 I.keeps).ps (of1_at _ _)) (fun n1 _ => ?_)))
  refine hdn (al1 5 rfl ((calln (X := Nat) (fun _ => True) (fun b => (mapV b).v) (fun b => [MapR b ePrefix iE (firstN SPrefix.eqb (fun a : SRoute => a.to_) l.rs l.rs.length)]) en133 (.cons (.t rfl) (.cons .f .nil)) (fun w I => first_109_172 134 [] _ _ l.rs w en134 (hc.keep0 I.keeps).rs (of2_at _ _)) (fun n2 _ => ?_))))
  refine hdn (al1 8 rfl ((calln (X := Nat) (fun _ => True) (fun b => (mapV b).v) (fun b => [MapR b sE iE (firstN eqs (fun a : SRule => a.name) l.us l.us.length)]) en135 (.cons (.t rfl) (.cons .f .nil)) (fun w I => first_9_113 136 [] _ _ l.us w en136 (hc.keep0 I.keeps).us (of3_at _ _)) (fun n3 _ => ?_))))
  refine hdn (al1 11 rfl ((calln (X := Nat) (fun _ => True) (fun b => (mapV b).v) (fun b => [MapR b sE iE (firstN eqs (fun a : SMeterConf => a.name) l.ms l.ms.length)]) en137 (.cons (.t rfl) (.cons .f .nil)) (fun w I => first_9_134 138 [] _ _ l.ms w en138 (hc.keep0 I.keeps).ms (of4_at _ _)) (fun n4 _ => ?_))))
  refine hdn (al1 14 rfl ((calln (X := Nat) (fun _ => True) (fun b => (mapV b).v) (fun b => [MapR b sE iE (firstN eqs (fun a : SMirrorConf => a.name) l.xs l.xs.length)]) en139 (.cons (.t rfl) (.cons .f .nil)) (fun w I => first_9_136 140 [] _ _ l.xs w en140 (hc.keep0 I.keeps).xs (of5_at _ _)) (fun n5 _ => ?_))))
  refine hdn (tk 15 rfl (Ev.buildS (fs := _) (places := [(0, 1), (1, 1), (2, 1), (3, 1), (4, 1)]) z206 rfl Tryz.underlying206 zk (.cons (.t rfl) (.cons (.t rfl) (.cons (.t rfl) (.cons (.t rfl) (.cons (.t rfl) .nil))))) (Fills.cons SConfKnown.l_ports rfl (Fills.cons SConfKnown.l_routes rfl (Fills.cons SConfKnown.l_rules rfl (Fills.cons SConfKnown.l_meters rfl (Fills.cons SConfKnown.l_mirrors rfl Fills.nil)))))) ?_)
  refine al1 16 rfl ((stv ty206 (Lens.id _) (.t rfl) (.t rfl) ?_))
  refine hdn (ovr (pN (ret (done rfl (.cell rfl (fun w I => run_loadVar_pts ty206 (ptsVar zm (Lens.id _) w I)) .nil) (fun w I => ?_)))))
  exact retN (⟨n1, n2, n3, n4, n5⟩ : KB) trivial rfl (by exact zs) w I
def len8Tab : ByteArray := (ByteArray.mk (List.toArray (List.append (List.append [0, 1, 2, 2, 3, 3, 3, 3, 4, 4, 4, 4, 4, 4, 4, 4, 5, 5, 5, 5, 5, 5, 5, 5, 5, 5, 5, 5, 5, 5, 5, 5, 6, 6, 6, 6, 6, 6, 6, 6, 6, 6, 6, 6, 6, 6, 6, 6, 6, 6, 6, 6, 6, 6, 6, 6, 6, 6, 6, 6, 6, 6, 6, 6] [7, 7, 7, 7, 7, 7, 7, 7, 7, 7, 7, 7, 7, 7, 7, 7, 7, 7, 7, 7, 7, 7, 7, 7, 7, 7, 7, 7, 7, 7, 7, 7, 7, 7, 7, 7, 7, 7, 7, 7, 7, 7, 7, 7, 7, 7, 7, 7, 7, 7, 7, 7, 7, 7, 7, 7, 7, 7, 7, 7, 7, 7, 7, 7]) (List.append [8, 8, 8, 8, 8, 8, 8, 8, 8, 8, 8, 8, 8, 8, 8, 8, 8, 8, 8, 8, 8, 8, 8, 8, 8, 8, 8, 8, 8, 8, 8, 8, 8, 8, 8, 8, 8, 8, 8, 8, 8, 8, 8, 8, 8, 8, 8, 8, 8, 8, 8, 8, 8, 8, 8, 8, 8, 8, 8, 8, 8, 8, 8, 8] [8, 8, 8, 8, 8, 8, 8, 8, 8, 8, 8, 8, 8, 8, 8, 8, 8, 8, 8, 8, 8, 8, 8, 8, 8, 8, 8, 8, 8, 8, 8, 8, 8, 8, 8, 8, 8, 8, 8, 8, 8, 8, 8, 8, 8, 8, 8, 8, 8, 8, 8, 8, 8, 8, 8, 8, 8, 8, 8, 8, 8, 8, 8, 8]))))
def len8 (x : UInt8) : UInt8 := (len8Tab[x.toNat]?).getD 0
set_option maxRecDepth 100000 in
theorem len8_get (x : UInt8) : len8Tab[x.toNat]? = some (len8 x) := by
  have h : ∀ n : Fin 256, len8Tab[(UInt8.ofNat n.val).toNat]? = some (len8 (UInt8.ofNat n.val)) := by decide +kernel
  have := h ⟨x.toNat, x.toNat_lt⟩
  simpa using this
theorem len8_at (x : UInt8) : 0 ≤ (x.toNat : Int) ∧ len8Tab[(x.toNat : Int).toNat]? = some (len8 x) := ⟨by omega, len8_get x⟩
def bitU (b : List UInt8) (i : Int) : UInt8 := shr8 (b.getD (i / 8).toNat 0) (7 - i % 8).toNat &&& 1
def bitsV (b : List UInt8) (f : Int) : Nat → UInt64
  | 0 => 0
  | n + 1 => shl64 (bitsV b f n) 1 ||| (bitU b (f + n)).toUInt64
def bitsB (b : List UInt8) (f n : Int) : UInt64 × Int := if n < 0 ∨ 64 < n then (0, 2) else if f < 0 ∨ 8 * b.length - n < f then (0, 5) else (bitsV b f n.toNat, 0)
theorem getD_take (l : List UInt8) (m i : Nat) (h : i < m) : (l.take m).getD i 0 = l.getD i 0 := by
  simp [List.getD, List.getElem?_take, h]
def comI : List UInt8 → List UInt8 → Nat
  | x :: a, y :: b => if x = y then comI a b + 1 else 0
  | _, _ => 0
theorem comI_step (a b : List UInt8) (i : Nat) (h1 : i < a.length) (h2 : i < b.length) : comI (a.drop i) (b.drop i) = if a.getD i 0 = b.getD i 0 then comI (a.drop (i + 1)) (b.drop (i + 1)) + 1 else 0 := by
  rw [List.drop_eq_getElem_cons h1, List.drop_eq_getElem_cons h2]
  simp [comI, List.getD, h1, h2]
theorem comI_end (a b : List UInt8) (i : Nat) (h : a.length ≤ i ∨ b.length ≤ i) : comI (a.drop i) (b.drop i) = 0 := by
  rcases h with h | h
  · rw [List.drop_eq_nil_of_le h]
    simp [comI]
  · rw [List.drop_eq_nil_of_le h]
    cases a.drop i <;> simp [comI]
def commonB (a b : List UInt8) : Int := if (comI a b : Int) = min (a.length : Int) b.length then 8 * min (a.length : Int) b.length else 8 * (comI a b : Int) + (8 - ((len8 (a.getD (comI a b) 0 ^^^ b.getD (comI a b) 0)).toNat : Int))
theorem len8_ok (x : UInt8) (w : World) : Calls Tryz.prog 159 #[U8 x] w (RetV w (I (len8 x).toNat)) := by
  refine en0 6 Tryz.func159 ?_
  refine sg (co (Ev.assign (.c (v := I 0) rfl)) ?_)
  refine nP (sg (mv rfl (co (Ev.indexS (b := len8 x) (s := len8Tab) Tryz.underlying9 (.c rfl) (.t rfl) (fun _ => len8_at x)) ?_)))
  refine co (Ev.conv_u8_i Tryz.underlying3 Tryz.underlying5 (.t rfl)) ?_
  refine asn rfl (nP (ret (done rfl (.tmp rfl .nil) (retE ?_))))
  rfl
theorem len8_le (x : UInt8) : (len8 x).toNat ≤ 8 := by
      have h : ∀ n : Fin 256, (len8 (UInt8.ofNat n.val)).toNat ≤ 8 := by decide +kernel
      have := h ⟨x.toNat, x.toNat_lt⟩
      simpa using this
theorem en159 : Gx.Enters Tryz.prog 159 := Gx.Enters.mk' zk
theorem lz8_ok (x : UInt8) (w : World) : Calls Tryz.prog 155 #[U8 x] w (RetV w (I (8 - ((len8 x).toNat : Int)))) := by
  have hx := len8_le x
  refine en0 6 Tryz.func155 ?_
  refine sg (co (Ev.assign (.c (v := I 0) rfl)) ?_)
  refine nP (sg (mv rfl (cons (callv en159 (.cons (.t rfl) .nil) (fun w I => len8_ok _ w) ?_))))
  refine co (Ev.sub_i (.c (v := I 8) rfl) (.t rfl) (fun _ => zo)) ?_
  refine asn rfl (nP (ret (done rfl (.tmp rfl .nil) (retE ?_))))
  rfl
theorem en155 : Gx.Enters Tryz.prog 155 := Gx.Enters.mk' zk
theorem common_ok (u v : Value) (a b : List UInt8) (w : World) (ha : IsSl u8E w u a) (hb : IsSl u8E w v b) (hl : a.length ≤ 1152921504606846974) : Calls Tryz.prog 146 #[u, v] w (RetV w (I (commonB a b))) := by
  have hal := ha.le
  have hbl := hb.le
  obtain ⟨m, hm⟩ : ∃ m : Nat, (min (a.length : Int) b.length) = (m : Int) := ⟨min a.length b.length, by omega⟩
  have hsa : IsSl u8E w (subS u8E.size u 0 m) (a.take m) := by
    have := ha.sub (l := 0) (k := m) (by omega) (by omega)
    simpa using this
  have hsb : IsSl u8E w (subS u8E.size v 0 m) (b.take m) := by
    have := hb.sub (l := 0) (k := m) (by omega) (by omega)
    simpa using this
  have hla : (a.take m).length = m := by simp; omega
  have hlb : (b.take m).length = m := by simp; omega
  refine en0 52 Tryz.func146 ?_
  refine sg (co (Ev.assign (.c (v := I 0) rfl)) ?_)
  refine nP (sg (mv rfl (co (Ev.len Tryz.underlying63 (.t rfl) zf) ?_)))
  refine mv rfl (co (Ev.len Tryz.underlying63 (.t rfl) zf) ?_)
  refine co (Ev.to (v' := I ((m : Nat) : Int)) (Ev.min_i (.t rfl) (.t rfl)) (by rw [hm])) ?_
  refine asn rfl (nP (seq (draw' zk ?_)))
  refine tk 0 rfl (Ev.move (.t rfl)) ?_
  refine tk 1 rfl (Ev.move (.t rfl)) ?_
  refine tk 2 rfl (Ev.sliceH Tryz.underlying63 ty5 (.t rfl) (.t rfl) zf (fun _ => zo)) ?_
  refine tk 3 rfl (Ev.move (.t rfl)) ?_
  refine tk 4 rfl (Ev.move (.t rfl)) ?_
  refine tk 5 rfl (Ev.sliceH Tryz.underlying63 ty5 (.t rfl) (.t rfl) zf (fun _ => zo)) ?_
  refine tk 6 rfl (Ev.assign (.t rfl)) ?_
  refine tk 7 rfl (Ev.assign (.t rfl)) ?_
  refine ovr (pN (sg (co (Ev.assign (.c (v := I 0) rfl)) ?_)))
  refine nP (seq (block (lp (X := Int) (fun x : Int => (0 ≤ x ∧ x ≤ m) ∧ ((comI a b : Int) = x + comI (a.drop x.toNat) (b.drop x.toNat))) (fun x : Int => [dz, (0, true, subS u8E.size u 0 m), (1, true, subS u8E.size v 0 m), (5, true, I m), (6, true, I x)]) (fun x : Int => []) (fun x : Int => (m - x).toNat) (0) ⟨?_, ?_⟩ (fun x hx => ?_))))
  · omega
  · simp
  obtain ⟨i, rfl⟩ : ∃ y, y = x := ⟨x, rfl⟩
  obtain ⟨hi, hc⟩ : (0 ≤ i ∧ i ≤ m) ∧ ((comI a b : Int) = i + comI (a.drop i.toNat) (b.drop i.toNat)) := hx
  show Sat _ _ [dz, (0, true, subS u8E.size u 0 m), (1, true, subS u8E.size v 0 m), (5, true, I m), (6, true, I i)] []
  refine seq (seq (draw' zk ?_))
  refine tk 0 rfl (Ev.move (.t rfl)) ?_
  refine tk 1 rfl (Ev.move (.t rfl)) ?_
  refine tk 2 rfl (Ev.lss_i (.t rfl) (.t rfl)) ?_
  refine tk 3 rfl (Ev.move (.t rfl)) ?_
  refine tkg 4 rfl rfl rfl (Ev.move (.t rfl)) ?_
  refine tkg 5 rfl rfl rfl (Ev.move (.t rfl)) ?_
  refine tkg 6 rfl rfl rfl (Ev.indexAddr Tryz.underlying63 ty5 (.g rfl id) (.g rfl id) (fun w I => hsa.keep0 I.keeps) (fun _ => by first | omega | (rename_i hg; simp at hg; omega))) ?_
  refine tkg 7 rfl rfl rfl (Ev.loadS0 ty5 (.g rfl id) (fun w I => hsa.keep0 I.keeps) (fun _ => by first | omega | (rename_i hg; simp at hg; omega))) ?_
  refine tkg 8 rfl rfl rfl (Ev.move (.t rfl)) ?_
  refine tkg 9 rfl rfl rfl (Ev.move (.t rfl)) ?_
  refine tkg 10 rfl rfl rfl (Ev.indexAddr Tryz.underlying63 ty5 (.g rfl id) (.g rfl id) (fun w I => hsb.keep0 I.keeps) (fun _ => by first | omega | (rename_i hg; simp at hg; omega))) ?_
  refine tkg 11 rfl rfl rfl (Ev.loadS0 ty5 (.g rfl id) (fun w I => hsb.keep0 I.keeps) (fun _ => by first | omega | (rename_i hg; simp at hg; omega))) ?_
  refine tkg 12 rfl rfl rfl (Ev.eql_u8 (.g rfl id) (.g rfl id)) ?_
  refine tk 13 rfl (Ev.pkA (.t rfl) rfl) ?_
  refine ovr (pN ?_)
  first | refine condD rfl (fun hlt => ?_) (fun hge => ?_) | refine cond rfl (fun hlt => ?_) (fun hge => ?_)
  · try simp only [Gx.nb] at hlt
    refine skip (pN (block (region (mv rfl (co (Ev.add_i (.t rfl) (.c (v := I 1) rfl) (fun _ => zo)) ?_)))))
    refine asn rfl (nil (bN (pN (nx (X := Int) (i + 1) ⟨?_, ?_⟩ ?_))))
    · try dsimp only
      omega
    · try dsimp only
      have hst := comI_step a b i.toNat (by omega) (by omega)
      have ga := getD_take a m i.toNat (by omega)
      have gb := getD_take b m i.toNat (by omega)
      have hq : a.getD i.toNat 0 = b.getD i.toNat 0 := ga.symm.trans (hlt.2.trans gb)
      rw [if_pos hq] at hst
      have e : (i + 1).toNat = i.toNat + 1 := by omega
      rw [e]; omega
    · try dsimp only
      omega
  · try simp only [Gx.nb] at hge
    refine exit (pX (pX (bX (pN (seq (sg (mv rfl (mv rfl (co (Ev.eql_i (.t rfl) (.t rfl)) ?_)))))))))
    refine nP ?_
    first | refine condD rfl (fun heq => ?_) (fun hne => ?_) | refine cond rfl (fun heq => ?_) (fun hne => ?_)
    · try simp only [Gx.nb] at heq
      refine sg (mv rfl (co (Ev.mul_i (.c (v := I 8) rfl) (.t rfl) (fun _ => zo)) ?_))
      refine asn rfl (nP (ret (pR (done rfl (.tmp rfl .nil) (retE ?_)))))
      have hst := comI_end a b i.toNat (by omega)
      unfold commonB
      rw [if_pos (by omega), ← hm]; rfl
    · try simp only [Gx.nb] at hne
      have hq : ¬ a.getD i.toNat 0 = b.getD i.toNat 0 := fun hq => by
        have ga := getD_take a m i.toNat (by omega)
        have gb := getD_take b m i.toNat (by omega)
        have hq2 := ga.trans (hq.trans gb.symm)
        rcases hge with h | h
        · omega
        · exact h hq2
      have hst := comI_step a b i.toNat (by omega) (by omega)
      rw [if_neg hq] at hst
      have hci : comI a b = i.toNat := by omega
      refine skip (pN (seq (draw' zk ?_)))
      refine tk 0 rfl (Ev.move (.t rfl)) ?_
      refine tk 1 rfl (Ev.mul_i (.c (v := I 8) rfl) (.t rfl) (fun _ => zo)) ?_
      refine tk 2 rfl (Ev.move (.t rfl)) ?_
      refine tk 3 rfl (Ev.move (.t rfl)) ?_
      refine tk 4 rfl (Ev.indexAddr Tryz.underlying63 ty5 (.t rfl) (.t rfl) (fun w I => hsa.keep0 I.keeps) (fun _ => zo)) ?_
      refine tk 5 rfl (Ev.loadS0 ty5 (.t rfl) (fun w I => hsa.keep0 I.keeps) (fun _ => zo)) ?_
      refine tk 6 rfl (Ev.move (.t rfl)) ?_
      refine tk 7 rfl (Ev.move (.t rfl)) ?_
      refine tk 8 rfl (Ev.indexAddr Tryz.underlying63 ty5 (.t rfl) (.t rfl) (fun w I => hsb.keep0 I.keeps) (fun _ => zo)) ?_
      refine tk 9 rfl (Ev.loadS0 ty5 (.t rfl) (fun w I => hsb.keep0 I.keeps) (fun _ => zo)) ?_
      refine tk 10 rfl (Ev.xor_u8 (.t rfl) (.t rfl)) ?_
      refine al1 11 rfl ((callv en155 (.cons (.t rfl) .nil) (fun w I => lz8_ok _ w) ?_))
      refine hdn (tk 12 rfl (Ev.add_i (.t rfl) (.t rfl) (fun _ => by have h8 := len8_le ((List.take m a).getD i.toNat u8E.zero ^^^ (List.take m b).getD i.toNat u8E.zero); omega)) ?_)
      refine tk 13 rfl (Ev.assign (.t rfl)) ?_
      refine ovr (pN (ret (done rfl (.tmp rfl .nil) (retE ?_))))
      unfold commonB
      rw [if_neg (by omega), hci]
      have ga := getD_take a m i.toNat (by omega)
      have gb := getD_take b m i.toNat (by omega)
      have ei : (i.toNat : Int) = i := by omega
      rw [ei, ← ga, ← gb]; rfl
def bn (x k : Nat) : Nat := x / 2 ^ k % 2
theorem bn_xor (x y k : Nat) : bn (x ^^^ y) k = (bn x k + bn y k) % 2 := by
  have h := Nat.testBit_xor x y k
  simp only [Nat.testBit_eq_decide_div_mod_eq] at h
  unfold bn
  have h1 : x / 2 ^ k % 2 < 2 := Nat.mod_lt _ (by decide)
  have h2 : y / 2 ^ k % 2 < 2 := Nat.mod_lt _ (by decide)
  have h3 : (x ^^^ y) / 2 ^ k % 2 < 2 := Nat.mod_lt _ (by decide)
  generalize x / 2 ^ k % 2 = p at *
  generalize y / 2 ^ k % 2 = q at *
  generalize (x ^^^ y) / 2 ^ k % 2 = r at *
  have hp : p = 0 ∨ p = 1 := by omega
  have hq : q = 0 ∨ q = 1 := by omega
  have hr : r = 0 ∨ r = 1 := by omega
  rcases hp with rfl | rfl <;> rcases hq with rfl | rfl <;> rcases hr with rfl | rfl <;> simp_all
theorem bitU_toNat (b : List UInt8) (i : Int) : (bitU b i).toNat = bn (b.getD (i / 8).toNat 0).toNat (7 - i % 8).toNat := by
  unfold bitU bn
  rw [UInt8.toNat_and, toNat_shr8]
  have e : UInt8.toNat 1 = 1 := rfl
  rw [e, Nat.and_one_is_mod]
set_option maxRecDepth 100000 in
theorem len8_bits (x : UInt8) (h : x ≠ 0) : 1 ≤ (len8 x).toNat ∧ (len8 x).toNat ≤ 8 ∧ (∀ s, s < 8 - (len8 x).toNat → bn x.toNat (7 - s) = 0) ∧ bn x.toNat (7 - (8 - (len8 x).toNat)) = 1 := by
  have h1 : ∀ n : Fin 256, n.val ≠ 0 → 1 ≤ (len8 (UInt8.ofNat n.val)).toNat ∧ (len8 (UInt8.ofNat n.val)).toNat ≤ 8 ∧ (∀ s : Fin 8, s.val < 8 - (len8 (UInt8.ofNat n.val)).toNat → bn n.val (7 - s.val) = 0) ∧ bn n.val (7 - (8 - (len8 (UInt8.ofNat n.val)).toNat)) = 1 := by decide +kernel
  have h2 := h1 ⟨x.toNat, x.toNat_lt⟩ (fun e => h (UInt8.toNat_inj.1 e))
  simp only [UInt8.ofNat_toNat] at h2
  exact ⟨h2.1, h2.2.1, fun s hs => h2.2.2.1 ⟨s, by omega⟩ hs, h2.2.2.2⟩
theorem comI_le : ∀ a b : List UInt8, comI a b ≤ a.length ∧ comI a b ≤ b.length
  | [], b => by simp [comI]
  | x :: a, [] => by simp [comI]
  | x :: a, y :: b => by
    have := comI_le a b
    simp only [comI, List.length_cons]
    split <;> omega
theorem comI_eq : ∀ (a b : List UInt8) (j : Nat), j < comI a b → a.getD j 0 = b.getD j 0
  | [], b, j, h => by simp [comI] at h
  | x :: a, [], j, h => by simp [comI] at h
  | x :: a, y :: b, j, h => by
    simp only [comI] at h
    split at h
    · rename_i e
      cases j with
      | zero => simpa using e
      | succ j => simpa [List.getD] using comI_eq a b j (by omega)
    · omega
theorem comI_ne : ∀ (a b : List UInt8), comI a b < a.length → comI a b < b.length → a.getD (comI a b) 0 ≠ b.getD (comI a b) 0
  | [], b, h, _ => by simp at h
  | x :: a, [], _, h => by simp at h
  | x :: a, y :: b, h1, h2 => by
    simp only [comI, List.length_cons] at h1 h2 ⊢
    split
    · rename_i e
      rw [if_pos e] at h1 h2
      simpa [List.getD] using comI_ne a b (by omega) (by omega)
    · rename_i e
      simpa using e
structure IsCom (a b : List UInt8) (n : Int) : Prop where
  p : 0 ≤ n
  la : n ≤ 8 * a.length
  lb : n ≤ 8 * b.length
  eq : ∀ i : Int, 0 ≤ i → i < n → bitU a i = bitU b i
  ne : n < 8 * a.length → n < 8 * b.length → bitU a n ≠ bitU b n
theorem commonB_is (a b : List UInt8) : IsCom a b (commonB a b) := by
  obtain ⟨h1, h2⟩ := comI_le a b
  have heq := comI_eq a b
  have hne := comI_ne a b
  unfold commonB
  generalize comI a b = c at *
  split
  · rename_i hc
    refine ⟨by omega, by omega, by omega, fun i h0 hi => ?_, fun h3 h4 => by omega⟩
    unfold bitU
    rw [heq (i / 8).toNat (by omega)]
  · rename_i hc
    have hx := hne (by omega) (by omega)
    have hx2 : a.getD c 0 ^^^ b.getD c 0 ≠ 0 := fun e => hx (by
      have e2 := congrArg UInt8.toNat e
      rw [UInt8.toNat_xor] at e2
      exact UInt8.toNat_inj.1 (xor_zero e2))
    obtain ⟨l1, l2, l3, l4⟩ := len8_bits _ hx2
    generalize hl : len8 (a.getD c 0 ^^^ b.getD c 0) = l at *
    have hlo : ∀ s : Nat, s < 8 - l.toNat → bn (a.getD c 0).toNat (7 - s) = bn (b.getD c 0).toNat (7 - s) := fun s hs => by
      have e := l3 s hs
      rw [UInt8.toNat_xor, bn_xor] at e
      have ha : bn (a.getD c 0).toNat (7 - s) < 2 := Nat.mod_lt _ (by decide)
      have hb : bn (b.getD c 0).toNat (7 - s) < 2 := Nat.mod_lt _ (by decide)
      omega
    have hhi : bn (a.getD c 0).toNat (7 - (8 - l.toNat)) ≠ bn (b.getD c 0).toNat (7 - (8 - l.toNat)) := fun e => by
      rw [UInt8.toNat_xor, bn_xor, e] at l4
      omega
    refine ⟨by omega, by omega, by omega, fun i h0 hi => ?_, fun h3 h4 => fun e => ?_⟩
    · by_cases hic : i / 8 < c
      · unfold bitU
        rw [heq (i / 8).toNat (by omega)]
      · have e1 : (i / 8).toNat = c := by omega
        apply UInt8.toNat_inj.1
        rw [bitU_toNat, bitU_toNat, e1]
        have e2 : (7 - i % 8).toNat = 7 - (i % 8).toNat := by omega
        rw [e2]
        exact hlo _ (by omega)
    · have e3 := congrArg UInt8.toNat e
      have e1 : ((8 * (c : Int) + (8 - (l.toNat : Int))) / 8).toNat = c := by omega
      have e2 : (7 - (8 * (c : Int) + (8 - (l.toNat : Int))) % 8).toNat = 7 - (8 - l.toNat) := by omega
      rw [bitU_toNat, bitU_toNat, e1, e2] at e3
      exact hhi e3
theorem IsCom.symm {a b : List UInt8} {n : Int} (h : IsCom a b n) : IsCom b a n := ⟨h.p, h.lb, h.la, fun i h0 hi => (h.eq i h0 hi).symm, fun h1 h2 e => h.ne h2 h1 e.symm⟩
def wd (a : SAddr) : Int := bif a.v6 then 128 else 32
theorem wd_le (a : SAddr) : 32 ≤ wd a ∧ wd a ≤ 128 := by unfold wd; cases a.v6 <;> decide
def mk1 (left : Int) (x : UInt8) : UInt8 := if left ≤ 0 then 0 else if left < 8 then x &&& shl8 255 (8 - left).toNat else x
def maskV (bits : Int) (b : Vector UInt8 16) : Vector UInt8 16 := Vector.ofFn fun i => mk1 (bits - 8 * (i.val : Int)) b[i]
def maskTo (bits : Int) (b : Vector UInt8 16) (k : Int) : Vector UInt8 16 := Vector.ofFn fun i => if (i.val : Int) < k then mk1 (bits - 8 * (i.val : Int)) b[i] else b[i]
theorem maskTo_zero (bits : Int) (b : Vector UInt8 16) : maskTo bits b 0 = b := by
  apply Vector.ext
  intro i hi
  have : ¬ (i : Int) < 0 := by omega
  simp only [maskTo, Vector.getElem_ofFn, if_neg this, Fin.getElem_fin]
theorem maskTo_all (bits : Int) (b : Vector UInt8 16) (k : Int) (h : 16 ≤ k) : maskTo bits b k = maskV bits b := by
  apply Vector.ext
  intro i hi
  have : (i : Int) < k := by omega
  simp [maskTo, maskV, this]
theorem maskTo_step (bits : Int) (b : Vector UInt8 16) (k : Int) (h0 : 0 ≤ k) (h1 : k < 16) (hk : k.toNat < 16) : (maskTo bits b k).set k.toNat (mk1 (bits - 8 * k) b[k.toNat]) hk = maskTo bits b (k + 1) := by
  apply Vector.ext
  intro i hi
  rw [Vector.getElem_set]
  by_cases e : k.toNat = i
  · subst e
    have e2 : ((k.toNat : Nat) : Int) = k := by omega
    have e3 : (k.toNat : Int) < k + 1 := by omega
    simp [maskTo, e2]
    omega
  · rw [if_neg e]
    by_cases e4 : (i : Int) < k
    · have e5 : (i : Int) < k + 1 := by omega
      simp [maskTo, e4, e5]
    · have e5 : ¬ (i : Int) < k + 1 := by omega
      simp [maskTo, e4, e5]
theorem maskTo_skip (bits : Int) (b : Vector UInt8 16) (k : Int) (h0 : 0 ≤ k) (h1 : k < 16) (hk : k.toNat < 16) (h : mk1 (bits - 8 * k) b[k.toNat] = b[k.toNat]) : maskTo bits b k = maskTo bits b (k + 1) := by
  rw [← maskTo_step bits b k h0 h1 hk, h]
  apply Vector.ext
  intro i hi
  rw [Vector.getElem_set]
  split
  · rename_i e
    subst e
    have e2 : ¬ ((k.toNat : Nat) : Int) < k := by omega
    simp only [maskTo, Vector.getElem_ofFn, if_neg e2, Fin.getElem_fin]
  · rfl
theorem maskTo_get (bits : Int) (b : Vector UInt8 16) (k : Int) (h0 : 0 ≤ k) (hk : k.toNat < 16) : (maskTo bits b k)[k.toNat] = b[k.toNat] := by
  have e2 : ¬ ((k.toNat : Nat) : Int) < k := by omega
  simp only [maskTo, Vector.getElem_ofFn, if_neg e2, Fin.getElem_fin]
def checkA (a : SAddr) : Int := if maskV (wd a) a.b = a.b then 0 else 150
def checkP (p : SPrefix) : Int := if p.bits < 0 ∨ wd p.addr < p.bits ∨ maskV p.bits p.addr.b ≠ p.addr.b then 151 else 0
def hasP (p : SPrefix) (a : SAddr) : Bool := decide (checkP p = 0) && decide (checkA a = 0) && decide (a.v6 = p.addr.v6) && decide (p.bits ≤ commonB a.b.toList p.addr.b.toList)
def coversP (p q : SPrefix) : Bool := decide (checkP q = 0) && decide (p.bits ≤ q.bits) && hasP p q.addr
theorem width_ok (a : SAddr) (w : World) : Calls Tryz.prog 103 #[eAddr.val a] w (RetV w (I (wd a))) := by
  refine en0 5 Tryz.func103 ?_
  refine sg (cons (box (E := eAddr) (.t rfl) (fun b1 => ?_)))
  refine co (Ev.assign (.c (v := I 0) rfl)) ?_
  refine nP (seq (sg (co (fA 0 (.t rfl)) ?_)))
  refine co (Ev.ldx a.v6 ty4 (.t rfl) SAddr.l_v6) ?_
  refine nP ?_
  first | refine condD rfl (fun h0 => ?_) (fun h0 => ?_) | refine cond rfl (fun h0 => ?_) (fun h0 => ?_)
  · try simp only [Gx.nb] at h0
    refine sg (co (Ev.assign (.c (v := I 128) rfl)) ?_)
    refine nP (ret (pR (done rfl (.tmp rfl .nil) (retE ?_))))
    simp [wd, h0, tupV]
  · try simp only [Gx.nb] at h0
    refine skip (pN (sg (co (Ev.assign (.c (v := I 32) rfl)) ?_)))
    refine nP (ret (done rfl (.tmp rfl .nil) (retE ?_)))
    simp [wd, h0, tupV]
theorem z45 : (Tryz.prog.info? 45).bind (·.zero) = some (eAddr.val eAddr.zero) := by kernel_rfl
theorem masked_ok (a : SAddr) (n : Int) (w : World) (hn : 0 ≤ n ∧ n ≤ 128) : Calls Tryz.prog 104 #[eAddr.val a, I n] w (RetV w (eAddr.val { a with b := maskV n a.b })) := by
  refine en0 35 Tryz.func104 ?_
  refine sg (cons (box (E := eAddr) (.t rfl) (fun b1 => ?_)))
  refine cons (alloc z45 (fun b2 => ?_))
  refine nP (seq (sg (co (Ev.move (.c (v := I 0) rfl)) ?_)))
  refine nP (block (lp (X := Int × (Vector UInt8 16)) (fun x : Int × (Vector UInt8 16) => (0 ≤ x.1 ∧ x.1 ≤ 16) ∧ (x.2 = maskTo n a.b x.1)) (fun x : Int × (Vector UInt8 16) => [dz, (1, true, I n), (2, true, .pointer (some ⟨b1, 0, none⟩)), (4, true, .pointer (some ⟨b2, 0, none⟩)), (7, true, I x.1)]) (fun x : Int × (Vector UInt8 16) => [Var b2 eAddr eAddr.zero 45, Var b1 eAddr { a with b := x.2 } 45]) (fun x : Int × (Vector UInt8 16) => (16 - x.1).toNat) (0, a.b) ⟨?_, ?_⟩ (fun x hx => ?_) (hL := (by repeat first | exact List.Sublist.refl _ | apply List.Sublist.cons_cons | apply List.Sublist.cons))))
  · omega
  · exact (maskTo_zero n a.b).symm
  obtain ⟨k, v⟩ := x
  obtain ⟨hk, hv⟩ : (0 ≤ k ∧ k ≤ 16) ∧ (v = maskTo n a.b k) := hx
  show Sat _ _ [dz, (1, true, I n), (2, true, .pointer (some ⟨b1, 0, none⟩)), (4, true, .pointer (some ⟨b2, 0, none⟩)), (7, true, I k)] [Var b2 eAddr eAddr.zero 45, Var b1 eAddr { a with b := v } 45]
  refine sg (co (Ev.lss_i (.t rfl) (.c (v := I 16) rfl)) ?_)
  refine nP (seq ?_)
  first | refine condD rfl (fun hlt => ?_) (fun hge => ?_) | refine cond rfl (fun hlt => ?_) (fun hge => ?_)
  · try simp only [Gx.nb] at hlt
    refine skip (pN (seq (block (sg (mv rfl (asn rfl (nP (sg (mv rfl (mv rfl (co (Ev.mul_i (.c (v := I 8) rfl) (.t rfl) (fun _ => zo)) ?_)))))))))))
    refine co (Ev.sub_i (.t rfl) (.t rfl) (fun _ => zo)) ?_
    refine asn rfl (nP (block (sg ?_)))
    have hk16 : k.toNat < 16 := by omega
    refine mv rfl (co (Ev.leq_i (.t rfl) (.c (v := I 0) rfl)) ?_)
    refine asn rfl (nP ?_)
    first | refine condD rfl (fun hz => ?_) (fun hnz => ?_) | refine cond rfl (fun hz => ?_) (fun hnz => ?_)
    · try simp only [Gx.nb] at hz
      have hst : v.set k.toNat 0 hk16 = maskTo n a.b (k + 1) := by
        rw [hv, ← maskTo_step n a.b k hk.1 (by omega) hk16]
        congr 1
        unfold mk1
        rw [if_pos hz]
      refine region (mv rfl (co (fA 1 (.t rfl)) ?_))
      refine co (Ev.indexAddrA Tryz.underlying43 ty5 (.t rfl) (.t rfl) (fun _ => zo)) ?_
      refine cons (stv ty5 (Lens.comp SAddr.l_b (lArr (n := 16) u8E _ (by omega))) (.t rfl) (.c (v := U8 0) rfl) ?_)
      refine nil (bN (bN (pN (region (co (Ev.add_i (.t rfl) (.c (v := I 1) rfl) (fun _ => zo)) ?_)))))
      refine mv rfl (nP (nx (X := Int × (Vector UInt8 16)) (k + 1, _) ⟨?_, ?_⟩ ?_))
      · try dsimp only
        omega
      · try dsimp only
        exact hst
      · try dsimp only
        omega
    · try simp only [Gx.nb] at hnz
      refine sg (mv rfl (co (Ev.lss_i (.t rfl) (.c (v := I 8) rfl)) ?_))
      refine asn rfl (nP ?_)
      first | refine condD rfl (fun h8 => ?_) (fun hn8 => ?_) | refine cond rfl (fun h8 => ?_) (fun hn8 => ?_)
      · try simp only [Gx.nb] at h8
        have hst : v.set k.toNat (v[k.toNat] &&& shl8 255 (8 - (n - 8 * k)).toNat) hk16 = maskTo n a.b (k + 1) := by
          rw [← maskTo_step n a.b k hk.1 (by omega) hk16, ← hv]
          congr 1
          unfold mk1
          rw [if_neg hnz, if_pos h8, hv, maskTo_get n a.b k hk.1 hk16]
        refine drawS 2 rfl zr zk ?_
        refine tk 0 rfl (Ev.move (.t rfl)) ?_
        refine tk 1 rfl (fA 1 (.t rfl)) ?_
        refine tk 2 rfl (Ev.indexAddrA Tryz.underlying43 ty5 (.t rfl) (.t rfl) (fun _ => zo)) ?_
        refine tk 4 rfl (Ev.move (.t rfl)) ?_
        refine tk 5 rfl (Ev.sub_i (.c (v := I 8) rfl) (.t rfl) (fun _ => zo)) ?_
        refine tk 6 rfl (Ev.shl_u8 (.c (v := U8 255) rfl) (.t rfl) (fun _ => zo)) ?_
        refine tk 8 rfl (fA 1 (.t rfl)) ?_
        refine al1 3 rfl ((opv (Ev.ldv ty5 (.t rfl) (Lens.comp SAddr.l_b (lArr (n := 16) u8E _ (by omega)))) ?_))
        refine hdn (tk 7 rfl (Ev.and_u8 (.t rfl) (.t rfl)) ?_)
        refine tk 9 rfl (Ev.indexAddrA Tryz.underlying43 ty5 (.t rfl) (.t rfl) (fun _ => zo)) ?_
        refine al1 10 rfl ((stv ty5 (Lens.comp SAddr.l_b (lArr (n := 16) u8E _ (by omega))) (.t rfl) (.t rfl) ?_))
        refine hdn (ovr (bN (bN (pN (region (co (Ev.add_i (.t rfl) (.c (v := I 1) rfl) (fun _ => zo)) ?_))))))
        refine mv rfl (nP (nx (X := Int × (Vector UInt8 16)) (k + 1, _) ⟨?_, ?_⟩ ?_))
        · try dsimp only
          omega
        · try dsimp only
          exact hst
        · try dsimp only
          omega
      · try simp only [Gx.nb] at hn8
        have hst : v = maskTo n a.b (k + 1) := by
          rw [hv]
          exact maskTo_skip n a.b k hk.1 (by omega) hk16 (by unfold mk1; rw [if_neg hnz, if_neg hn8])
        refine skip (bN (bN (pN (region (co (Ev.add_i (.t rfl) (.c (v := I 1) rfl) (fun _ => zo)) ?_)))))
        refine mv rfl (nP (nx (X := Int × (Vector UInt8 16)) (k + 1, _) ⟨?_, ?_⟩ ?_))
        · try dsimp only
          omega
        · try dsimp only
          exact hst
        · try dsimp only
          omega
  · try simp only [Gx.nb] at hge
    refine exit (pX (pX (bX (pN (sg (co (Ev.ldv ty45 (.t rfl) (Lens.id _)) ?_))))))
    refine cons (stv ty45 (Lens.id _) (.t rfl) (.t rfl) ?_)
    refine nP (ret (done rfl (.cell rfl (fun w I => run_loadVar_pts ty45 (ptsVar zm (Lens.id _) w I)) .nil) (retE ?_)))
    rw [maskTo_all n a.b k (by omega)] at hv
    rw [← hv]; rfl
theorem en103 : Gx.Enters Tryz.prog 103 := Gx.Enters.mk' zk
theorem en104 : Gx.Enters Tryz.prog 104 := Gx.Enters.mk' zk
theorem checkA_ok (a : SAddr) (w : World) : Calls Tryz.prog 85 #[eAddr.val a] w (RetV w (I (checkA a))) := by
  have hw := wd_le a
  refine en0 11 Tryz.func85 ?_
  refine sg (cons (box (E := eAddr) (.t rfl) (fun b1 => ?_)))
  refine co (Ev.assign (.c (v := I 0) rfl)) ?_
  refine nP (seq (seq (draw' zk ?_)))
  refine tk 0 rfl (Ev.ldx a ty45 (.t rfl) (Lens.id _)) ?_
  refine tk 1 rfl (Ev.ldx a ty45 (.t rfl) (Lens.id _)) ?_
  refine tk 5 rfl (fA 1 (.t rfl)) ?_
  refine tk 6 rfl (Ev.ldx a.b ty43 (.t rfl) SAddr.l_b) ?_
  refine al1 2 rfl ((callv en103 (.cons (.t rfl) .nil) (fun w I => width_ok _ w) ?_))
  refine hdn (al1 3 rfl ((callv en104 (.cons (.t rfl) (.cons (.t rfl) .nil)) (fun w I => masked_ok _ _ w (by first | omega | (simp; omega))) ?_)))
  refine hdn (tk 4 rfl (Ev.fieldS (o := 1) (e := 43) rfl zk ty43 SAddr.l_b (.t rfl)) ?_)
  refine tk 7 rfl (Ev.neqS rfl (eqok_arr Tryz.underlying43 ty5 (eqok_u8 Tryz.underlying5)) rfl zk (.t rfl) (.t rfl)) ?_
  refine ovr (pN ?_)
  first | refine condD rfl (fun h0 => ?_) (fun h0 => ?_) | refine cond rfl (fun h0 => ?_) (fun h0 => ?_)
  · try simp only [Gx.nb] at h0
    refine sg (co (Ev.assign (.c (v := I 150) rfl)) ?_)
    refine nP (ret (pR (done rfl (.tmp rfl .nil) (retE ?_))))
    have hne : maskV (wd a) a.b ≠ a.b := by simpa using h0
    unfold checkA; rw [if_neg hne]; rfl
  · try simp only [Gx.nb] at h0
    refine skip (pN (sg (co (Ev.assign (.c (v := I 0) rfl)) ?_)))
    refine nP (ret (done rfl (.tmp rfl .nil) (retE ?_)))
    have he : maskV (wd a) a.b = a.b := by simpa using h0
    unfold checkA; rw [if_pos he]; rfl
theorem checkP_ok (p : SPrefix) (w : World) : Calls Tryz.prog 71 #[ePrefix.val p] w (RetV w (I (checkP p))) := by
  have hw := wd_le p.addr
  refine en0 26 Tryz.func71 ?_
  refine sg (cons (box (E := ePrefix) (.t rfl) (fun b1 => ?_)))
  refine co (Ev.assign (.c (v := I 0) rfl)) ?_
  refine nP (seq (seq (draw' zk ?_)))
  refine tk 0 rfl (fA 17 (.t rfl)) ?_
  refine tk 1 rfl (Ev.ldx p.bits ty3 (.t rfl) SPrefix.l_bits) ?_
  refine tk 2 rfl (Ev.lss_i (.t rfl) (.c (v := I 0) rfl)) ?_
  refine tk 3 rfl (Ev.move (.t rfl)) ?_
  refine tkg 4 rfl rfl rfl (fA 17 (.t rfl)) ?_
  refine tkg 5 rfl rfl rfl (Ev.ldx p.bits ty3 (.g rfl id) SPrefix.l_bits) ?_
  refine tkg 6 rfl rfl rfl (fA 0 (.t rfl)) ?_
  refine tkg 7 rfl rfl rfl (Ev.ldx p.addr ty45 (.g rfl id) SPrefix.l_addr) ?_
  refine al1 8 rfl ((callg rfl rfl en103 (.cons (.g rfl id) .nil) (fun hg w I => width_ok _ w) ?_))
  refine hdn (tkg 9 rfl rfl rfl (Ev.gtr_i (.g rfl id) (.g rfl id)) ?_)
  refine tk 10 rfl (Ev.pkO (.t rfl) rfl) ?_
  refine tk 11 rfl (Ev.move (.t rfl)) ?_
  refine tkg 12 rfl rfl rfl (fA 0 (.t rfl)) ?_
  refine tkg 13 rfl rfl rfl (Ev.ldx p.addr ty45 (.g rfl id) SPrefix.l_addr) ?_
  refine tkg 14 rfl rfl rfl (fA 17 (.t rfl)) ?_
  refine tkg 15 rfl rfl rfl (Ev.ldx p.bits ty3 (.g rfl id) SPrefix.l_bits) ?_
  refine tkg 18 rfl rfl rfl (fA 0 (.t rfl)) ?_
  refine tkg 19 rfl rfl rfl (fA 1 (.g rfl id)) ?_
  refine tkg 20 rfl rfl rfl (Ev.ldx p.addr.b ty43 (.g rfl id) (Lens.comp SPrefix.l_addr SAddr.l_b)) ?_
  refine al1 16 rfl ((callg rfl rfl en104 (.cons (.g rfl id) (.cons (.g rfl id) .nil)) (fun hg w I => masked_ok _ _ w (by simp at hg ⊢; omega)) ?_))
  refine hdn (tkg 17 rfl rfl rfl (Ev.fieldS (o := 1) (e := 43) rfl zk ty43 SAddr.l_b (.g rfl id)) ?_)
  refine tkg 21 rfl rfl rfl (Ev.neqS rfl (eqok_arr Tryz.underlying43 ty5 (eqok_u8 Tryz.underlying5)) rfl zk (.g rfl id) (.g rfl id)) ?_
  refine tk 22 rfl (Ev.pkO (.t rfl) rfl) ?_
  refine ovr (pN ?_)
  first | refine condD rfl (fun h0 => ?_) (fun h0 => ?_) | refine cond rfl (fun h0 => ?_) (fun h0 => ?_)
  · refine sg (co (Ev.assign (.c (v := I 151) rfl)) ?_)
    refine nP (ret (pR (done rfl (.tmp rfl .nil) (retE ?_))))
    unfold checkP; rw [if_pos (by simpa [and_assoc, or_assoc] using h0)]; rfl
  · refine skip (pN (sg (co (Ev.assign (.c (v := I 0) rfl)) ?_)))
    refine nP (ret (done rfl (.tmp rfl .nil) (retE ?_)))
    unfold checkP; rw [if_neg (by simpa [and_assoc, or_assoc] using h0)]; rfl
theorem en71 : Gx.Enters Tryz.prog 71 := Gx.Enters.mk' zk
theorem en85 : Gx.Enters Tryz.prog 85 := Gx.Enters.mk' zk
theorem en146 : Gx.Enters Tryz.prog 146 := Gx.Enters.mk' zk
theorem hasP_ok (p : SPrefix) (a : SAddr) (w : World) : Calls Tryz.prog 113 #[ePrefix.val p, eAddr.val a] w (RetV w (.bool (hasP p a))) := by
  refine en0 32 Tryz.func113 ?_
  refine sg (cons (box (E := ePrefix) (.t rfl) (fun b1 => ?_)))
  refine cons (box (E := eAddr) (.t rfl) (fun b2 => ?_))
  refine co (Ev.assign (.c (v := .bool false) rfl)) ?_
  refine nP (seq (draw' zk ?_))
  refine tk 0 rfl (Ev.ldx p ty109 (.t rfl) (Lens.id _)) ?_
  refine al1 1 rfl ((callv en71 (.cons (.t rfl) .nil) (fun w I => checkP_ok _ w) ?_))
  refine hdn (tk 2 rfl (Ev.eql_i (.t rfl) (.c (v := I 0) rfl)) ?_)
  refine tk 3 rfl (Ev.move (.t rfl)) ?_
  refine tkg 4 rfl rfl rfl (Ev.ldx a ty45 (.t rfl) (Lens.id _)) ?_
  refine al1 5 rfl ((callg rfl rfl en85 (.cons (.g rfl id) .nil) (fun hg w I => checkA_ok _ w) ?_))
  refine hdn (tkg 6 rfl rfl rfl (Ev.eql_i (.g rfl id) (.c (v := I 0) rfl)) ?_)
  refine tk 7 rfl (Ev.pkA (.t rfl) rfl) ?_
  refine tk 8 rfl (Ev.move (.t rfl)) ?_
  refine tkg 9 rfl rfl rfl (fA 0 (.t rfl)) ?_
  refine tkg 10 rfl rfl rfl (Ev.ldx a.v6 ty4 (.g rfl id) SAddr.l_v6) ?_
  refine tkg 11 rfl rfl rfl (fA 0 (.t rfl)) ?_
  refine tkg 12 rfl rfl rfl (fA 0 (.g rfl id)) ?_
  refine tkg 13 rfl rfl rfl (Ev.ldx p.addr.v6 ty4 (.g rfl id) (Lens.comp SPrefix.l_addr SAddr.l_v6)) ?_
  refine tkg 14 rfl rfl rfl (Ev.eql_b Tryz.underlying4 (.g rfl id) (.g rfl id)) ?_
  refine tk 15 rfl (Ev.pkA (.t rfl) rfl) ?_
  refine tk 16 rfl (Ev.move (.t rfl)) ?_
  refine tkg 17 rfl rfl rfl (fA 1 (.t rfl)) ?_
  refine tkg 18 rfl rfl rfl (Ev.sliceArr (l := 0) (h := 16) Tryz.underlying43 ty5 (.g rfl id) rfl rfl (fun _ => by decide)) ?_
  refine tkg 19 rfl rfl rfl (fA 0 (.t rfl)) ?_
  refine tkg 20 rfl rfl rfl (fA 1 (.g rfl id)) ?_
  refine tkg 21 rfl rfl rfl (Ev.sliceArr (l := 0) (h := 16) Tryz.underlying43 ty5 (.g rfl id) rfl rfl (fun _ => by decide)) ?_
  refine tkg 23 rfl rfl rfl (fA 17 (.t rfl)) ?_
  refine tkg 24 rfl rfl rfl (Ev.ldx p.bits ty3 (.g rfl id) SPrefix.l_bits) ?_
  refine al1 22 rfl ((callg rfl rfl en146 (.cons (.g rfl id) (.cons (.g rfl id) .nil)) (fun hg w I => common_ok _ _ _ _ w (isSl_arr (ptsVar (by repeat first | exact mH | apply mT | apply mA) SAddr.l_b w I) (by decide) (by decide) (by decide)) (isSl_arr (ptsVar (by repeat first | exact mH | apply mT | apply mA) (Lens.comp SPrefix.l_addr SAddr.l_b) w I) (by decide) (by decide) (by decide)) (by first | omega | (simp; done))) ?_))
  refine hdn (tkg 25 rfl rfl rfl (Ev.geq_i (.g rfl id) (.g rfl id)) ?_)
  refine tk 26 rfl (Ev.pkA (.t rfl) rfl) ?_
  refine tk 27 rfl (Ev.assign (.t rfl)) ?_
  refine ovr (pN (ret (done rfl (.tmp rfl .nil) (retE ?_))))
  unfold hasP; simp [tupV, Bool.and_assoc, eqd]
theorem en113 : Gx.Enters Tryz.prog 113 := Gx.Enters.mk' zk
theorem coversP_ok (p q : SPrefix) (w : World) : Calls Tryz.prog 184 #[ePrefix.val p, ePrefix.val q] w (RetV w (.bool (coversP p q))) := by
  refine en0 21 Tryz.func184 ?_
  refine sg (cons (box (E := ePrefix) (.t rfl) (fun b1 => ?_)))
  refine cons (box (E := ePrefix) (.t rfl) (fun b2 => ?_))
  refine co (Ev.assign (.c (v := .bool false) rfl)) ?_
  refine nP (sg (co (Ev.ldx q ty109 (.t rfl) (Lens.id _)) ?_))
  refine cons (callv en71 (.cons (.t rfl) .nil) (fun w I => checkP_ok _ w) ?_)
  refine co (Ev.eql_i (.t rfl) (.c (v := I 0) rfl)) ?_
  refine mv rfl (cg rfl rfl (fA 17 (.t rfl)) ?_)
  refine cg rfl rfl (Ev.ldx p.bits ty3 (.g rfl id) SPrefix.l_bits) ?_
  refine cg rfl rfl (fA 17 (.t rfl)) ?_
  refine cg rfl rfl (Ev.ldx q.bits ty3 (.g rfl id) SPrefix.l_bits) ?_
  refine cg rfl rfl (Ev.leq_i (.g rfl id) (.g rfl id)) ?_
  refine co (Ev.pkA (.t rfl) rfl) ?_
  refine mv rfl (cg rfl rfl (Ev.ldx p ty109 (.t rfl) (Lens.id _)) ?_)
  refine cg rfl rfl (fA 0 (.t rfl)) ?_
  refine cg rfl rfl (Ev.ldx q.addr ty45 (.g rfl id) SPrefix.l_addr) ?_
  refine cons (callg rfl rfl en113 (.cons (.g rfl id) (.cons (.g rfl id) .nil)) (fun hg w I => hasP_ok _ _ w) ?_)
  refine co (Ev.pkA (.t rfl) rfl) ?_
  refine asn rfl (nP (ret (done rfl (.tmp rfl .nil) (retE ?_))))
  unfold coversP; simp [tupV, Bool.and_assoc]; done
def ckB (b : SBucket) : Int := if b.num < 1 ∨ 65536 < b.num ∨ b.den < 1 ∨ 65536 < b.den ∨ b.burst < 1 ∨ 1048576 < b.burst then 2 else 0
theorem bucket_ok (b : SBucket) (w : World) : Calls Tryz.prog 143 #[eBucket.val b] w (RetV w (I (ckB b))) := by
  refine en0 31 Tryz.func143 ?_
  refine sg (cons (box (E := eBucket) (.t rfl) (fun b1 => ?_)))
  refine co (Ev.assign (.c (v := I 0) rfl)) ?_
  refine nP (seq (sg (co (fA 0 (.t rfl)) ?_)))
  refine co (Ev.ldx b.num ty35 (.t rfl) SBucket.l_num) ?_
  refine co (Ev.lss_u64 (.t rfl) (.c (v := U64 1) rfl)) ?_
  refine mv rfl (cg rfl rfl (fA 0 (.t rfl)) ?_)
  refine cg rfl rfl (Ev.ldx b.num ty35 (.g rfl id) SBucket.l_num) ?_
  refine cg rfl rfl (Ev.gtr_u64 (.g rfl id) (.c (v := U64 65536) rfl)) ?_
  refine co (Ev.pkO (.t rfl) rfl) ?_
  refine mv rfl (cg rfl rfl (fA 1 (.t rfl)) ?_)
  refine cg rfl rfl (Ev.ldx b.den ty35 (.g rfl id) SBucket.l_den) ?_
  refine cg rfl rfl (Ev.lss_u64 (.g rfl id) (.c (v := U64 1) rfl)) ?_
  refine co (Ev.pkO (.t rfl) rfl) ?_
  refine mv rfl (cg rfl rfl (fA 1 (.t rfl)) ?_)
  refine cg rfl rfl (Ev.ldx b.den ty35 (.g rfl id) SBucket.l_den) ?_
  refine cg rfl rfl (Ev.gtr_u64 (.g rfl id) (.c (v := U64 65536) rfl)) ?_
  refine co (Ev.pkO (.t rfl) rfl) ?_
  refine mv rfl (cg rfl rfl (fA 2 (.t rfl)) ?_)
  refine cg rfl rfl (Ev.ldx b.burst ty35 (.g rfl id) SBucket.l_burst) ?_
  refine cg rfl rfl (Ev.lss_u64 (.g rfl id) (.c (v := U64 1) rfl)) ?_
  refine co (Ev.pkO (.t rfl) rfl) ?_
  refine mv rfl (cg rfl rfl (fA 2 (.t rfl)) ?_)
  refine cg rfl rfl (Ev.ldx b.burst ty35 (.g rfl id) SBucket.l_burst) ?_
  refine cg rfl rfl (Ev.gtr_u64 (.g rfl id) (.c (v := U64 1048576) rfl)) ?_
  refine co (Ev.pkO (.t rfl) rfl) ?_
  refine nP ?_
  first | refine condD rfl (fun h0 => ?_) (fun h0 => ?_) | refine cond rfl (fun h0 => ?_) (fun h0 => ?_)
  · try simp only [Gx.nb] at h0
    refine sg (co (Ev.assign (.c (v := I 2) rfl)) ?_)
    refine nP (ret (pR (done rfl (.tmp rfl .nil) (retE ?_))))
    have e : ckB b = 2 := by unfold ckB; rw [if_pos (by simpa [or_assoc] using h0)]
    rw [e]; rfl
  · try simp only [Gx.nb] at h0
    refine skip (pN (sg (co (Ev.assign (.c (v := I 0) rfl)) ?_)))
    refine nP (ret (done rfl (.tmp rfl .nil) (retE ?_)))
    have e : ckB b = 0 := by unfold ckB; rw [if_neg (by simpa [or_assoc, and_assoc] using h0)]
    rw [e]; rfl
theorem rbucket_ok (b : SBucket) (w : World) : Calls Tryz.prog 129 #[eBucket.val b] w (RetV w (I (ckB b))) := by
  refine en0 31 Tryz.func129 ?_
  refine sg (cons (box (E := eBucket) (.t rfl) (fun b1 => ?_)))
  refine co (Ev.assign (.c (v := I 0) rfl)) ?_
  refine nP (seq (sg (co (fA 0 (.t rfl)) ?_)))
  refine co (Ev.ldx b.num ty35 (.t rfl) SBucket.l_num) ?_
  refine co (Ev.lss_u64 (.t rfl) (.c (v := U64 1) rfl)) ?_
  refine mv rfl (cg rfl rfl (fA 0 (.t rfl)) ?_)
  refine cg rfl rfl (Ev.ldx b.num ty35 (.g rfl id) SBucket.l_num) ?_
  refine cg rfl rfl (Ev.gtr_u64 (.g rfl id) (.c (v := U64 65536) rfl)) ?_
  refine co (Ev.pkO (.t rfl) rfl) ?_
  refine mv rfl (cg rfl rfl (fA 1 (.t rfl)) ?_)
  refine cg rfl rfl (Ev.ldx b.den ty35 (.g rfl id) SBucket.l_den) ?_
  refine cg rfl rfl (Ev.lss_u64 (.g rfl id) (.c (v := U64 1) rfl)) ?_
  refine co (Ev.pkO (.t rfl) rfl) ?_
  refine mv rfl (cg rfl rfl (fA 1 (.t rfl)) ?_)
  refine cg rfl rfl (Ev.ldx b.den ty35 (.g rfl id) SBucket.l_den) ?_
  refine cg rfl rfl (Ev.gtr_u64 (.g rfl id) (.c (v := U64 65536) rfl)) ?_
  refine co (Ev.pkO (.t rfl) rfl) ?_
  refine mv rfl (cg rfl rfl (fA 2 (.t rfl)) ?_)
  refine cg rfl rfl (Ev.ldx b.burst ty35 (.g rfl id) SBucket.l_burst) ?_
  refine cg rfl rfl (Ev.lss_u64 (.g rfl id) (.c (v := U64 1) rfl)) ?_
  refine co (Ev.pkO (.t rfl) rfl) ?_
  refine mv rfl (cg rfl rfl (fA 2 (.t rfl)) ?_)
  refine cg rfl rfl (Ev.ldx b.burst ty35 (.g rfl id) SBucket.l_burst) ?_
  refine cg rfl rfl (Ev.gtr_u64 (.g rfl id) (.c (v := U64 1048576) rfl)) ?_
  refine co (Ev.pkO (.t rfl) rfl) ?_
  refine nP ?_
  first | refine condD rfl (fun h0 => ?_) (fun h0 => ?_) | refine cond rfl (fun h0 => ?_) (fun h0 => ?_)
  · try simp only [Gx.nb] at h0
    refine sg (co (Ev.assign (.c (v := I 2) rfl)) ?_)
    refine nP (ret (pR (done rfl (.tmp rfl .nil) (retE ?_))))
    have e : ckB b = 2 := by unfold ckB; rw [if_pos (by simpa [or_assoc] using h0)]
    rw [e]; rfl
  · try simp only [Gx.nb] at h0
    refine skip (pN (sg (co (Ev.assign (.c (v := I 0) rfl)) ?_)))
    refine nP (ret (done rfl (.tmp rfl .nil) (retE ?_)))
    have e : ckB b = 0 := by unfold ckB; rw [if_neg (by simpa [or_assoc, and_assoc] using h0)]
    rw [e]; rfl
structure KnownAt (w : World) (x : KB) (l : CL) : Prop where
  ps : MapAt w x.b1 iE iE (portsM l)
  rs : MapAt w x.b2 ePrefix iE (routesM l)
  us : MapAt w x.b3 sE iE (rulesM l)
  ms : MapAt w x.b4 sE iE (metersM l)
  xs : MapAt w x.b5 sE iE (mirrorsM l)
theorem KnownAt.keep0 {w w' : World} {x : KB} {l : CL} (h : KnownAt w x l) (k : Keeps Nope w w') : KnownAt w' x l := ⟨h.ps.keep0 k, h.rs.keep0 k, h.us.keep0 k, h.ms.keep0 k, h.xs.keep0 k⟩
theorem knownAt_own {K : Ctx} {L : List Res} {x : KB} {l : CL} (hs : ∀ r ∈ x.R l, r ∈ L) (w : World) (I : WInv K L w) : KnownAt w x l :=
  ⟨mapAt_own (hs _ (by simp [KB.R])) w I, mapAt_own (hs _ (by simp [KB.R])) w I, mapAt_own (hs _ (by simp [KB.R])) w I, mapAt_own (hs _ (by simp [KB.R])) w I, mapAt_own (hs _ (by simp [KB.R])) w I⟩
def portB (l : CL) (p : Int) : Bool := (findV eqd p (portsM l)).isSome
def routeE (l : CL) (r : SRoute) (i : Int) : Int := if checkP r.to_ ≠ 0 then 151 else if portB l r.out = false then 5 else if (findV SPrefix.eqb r.to_ (routesM l)).getD 0 < i then 2 else 0
theorem ty203 : TyOK Tryz.prog 203 (ovE nilMap) := TyOK.mk' zk zk
theorem port_ok (k : KB) (l : CL) (p : Int) (w : World) (hk : KnownAt w k l) : Calls Tryz.prog 141 #[eConfKnown.val k.k, I p] w (RetV w (.bool (portB l p))) := by
  refine en0 15 Tryz.func141 ?_
  refine sg (cons (box (E := eConfKnown) (.t rfl) (fun b1 => ?_)))
  refine co (Ev.assign (.c (v := .bool false) rfl)) ?_
  refine nP (sg (co (fA 0 (.t rfl)) ?_))
  refine co (Ev.ldv ty203 (.t rfl) SConfKnown.l_ports) ?_
  refine mv rfl (co (Ev.lookupT Tryz.underlying203 Tryz.underlying3 key3 z3 (.t rfl) (.t rfl) (fun _ => (fun w I => hk.ps.keep0 I.keeps))) ?_)
  refine mv rfl (co (Ev.extract (.t rfl) rfl) (co (Ev.extract (.t rfl) rfl) (asn rfl (asn rfl (nP (sg (mv rfl (asn rfl (nP (ret (done rfl (.tmp rfl .nil) (retE ?_))))))))))))
  rfl
theorem en141 : Gx.Enters Tryz.prog 141 := Gx.Enters.mk' zk
theorem ty204 : TyOK Tryz.prog 204 (ovE nilMap) := TyOK.mk' zk zk
theorem route_ok (k : KB) (l : CL) (r : SRoute) (i : Int) (w : World) (hk : KnownAt w k l) : Calls Tryz.prog 96 #[eConfKnown.val k.k, eRoute.val r, I i] w (RetV w (I (routeE l r i))) := by
  refine en0 26 Tryz.func96 ?_
  refine sg (cons (box (E := eConfKnown) (.t rfl) (fun b1 => ?_)))
  refine cons (box (E := eRoute) (.t rfl) (fun b2 => ?_))
  refine co (Ev.assign (.c (v := I 0) rfl)) ?_
  refine nP (seq (block (sg (co (fA 0 (.t rfl)) ?_))))
  refine co (Ev.ldx r.to_ ty109 (.t rfl) SRoute.l_to_) ?_
  refine cons (callv en71 (.cons (.t rfl) .nil) (fun w I => checkP_ok _ w) ?_)
  refine co (Ev.neq_i (.t rfl) (.c (v := I 0) rfl)) ?_
  refine asn rfl (nP ?_)
  first | refine condD rfl (fun h0 => ?_) (fun h0 => ?_) | refine cond rfl (fun h0 => ?_) (fun h0 => ?_)
  · try simp only [Gx.nb] at h0
    refine sg (co (Ev.assign (.c (v := I 151) rfl)) ?_)
    refine nP (ret (bR (pR (done rfl (.tmp rfl .nil) (retE ?_)))))
    unfold routeE; rw [if_pos (by simpa using h0)]; rfl
  · try simp only [Gx.nb] at h0
    refine sg (co (Ev.ldv ty206 (.t rfl) (Lens.id _)) ?_)
    refine co (fA 18 (.t rfl)) ?_
    refine co (Ev.ldx r.out ty3 (.t rfl) SRoute.l_out) ?_
    refine cons (callv en141 (.cons (.t rfl) (.cons (.t rfl) .nil)) (fun w I => port_ok _ l _ w (hk.keep0 I.keeps)) ?_)
    refine co (Ev.not (.t rfl)) ?_
    refine asn rfl (nP ?_)
    first | refine condD rfl (fun h1 => ?_) (fun h1 => ?_) | refine cond rfl (fun h1 => ?_) (fun h1 => ?_)
    · try simp only [Gx.nb] at h1
      refine sg (co (Ev.assign (.c (v := I 5) rfl)) ?_)
      refine nP (ret (bR (pR (done rfl (.tmp rfl .nil) (retE ?_)))))
      unfold routeE; rw [if_neg (by simpa using h0), if_pos (by simpa using h1)]; rfl
    · try simp only [Gx.nb] at h1
      refine sg (co (fA 1 (.t rfl)) ?_)
      refine co (Ev.ldv ty204 (.t rfl) SConfKnown.l_routes) ?_
      refine co (fA 0 (.t rfl)) ?_
      refine co (Ev.ldx r.to_ ty109 (.t rfl) SRoute.l_to_) ?_
      refine co (Ev.lookupF Tryz.underlying204 Tryz.underlying109 key109 z3 (.t rfl) (.t rfl) (fun _ => (fun w I => hk.rs.keep0 I.keeps))) ?_
      refine mv rfl (co (Ev.lss_i (.t rfl) (.t rfl)) ?_)
      refine asn rfl (nP ?_)
      first | refine condD rfl (fun h2 => ?_) (fun h2 => ?_) | refine cond rfl (fun h2 => ?_) (fun h2 => ?_)
      · try simp only [Gx.nb] at h2
        refine sg (co (Ev.assign (.c (v := I 2) rfl)) ?_)
        refine nP (ret (bR (pR (done rfl (.tmp rfl .nil) (retE ?_)))))
        unfold routeE; rw [if_neg (by simpa using h0), if_neg (by simpa using h1), if_pos (by simpa using h2)]; rfl
      · try simp only [Gx.nb] at h2
        refine skip (bN (pN (sg (co (Ev.assign (.c (v := I 0) rfl)) ?_))))
        refine nP (ret (done rfl (.tmp rfl .nil) (retE ?_)))
        unfold routeE; rw [if_neg (by simpa using h0), if_neg (by simpa using h1), if_neg (by simpa using h2)]; rfl
def nameC (c i : Int) : Bool := (decide (97 ≤ c) && decide (c ≤ 122)) || (decide (0 < i) && ((decide (48 ≤ c) && decide (c ≤ 57)) || decide (c = 45) || decide (c = 95)))
def nameB (s : ByteArray) : Bool := !(decide (s.size = 0) || decide (16 < s.size)) && (List.range s.size).all (fun k => nameC (s.get! k).toNat k)
theorem nameC_high {c i : Int} (h : 128 ≤ c) : nameC c i = false := by
  unfold nameC
  have h1 : decide (c ≤ 122) = false := by simp; omega
  have h2 : decide (c ≤ 57) = false := by simp; omega
  have h3 : decide (c = 45) = false := by simp; omega
  have h4 : decide (c = 95) = false := by simp; omega
  rw [h1, h2, h3, h4]
  simp
theorem name_step {s : ByteArray} {i : Nat} (hc : nameC (Utf8.decode s i).1 i = true) : (Utf8.decode s i).2 = 1 ∧ nameC (s.get! i).toNat i = true := by
  have hlt : (s.get! i).toNat < 128 := Nat.lt_of_not_le fun h => by
    have := Gx.decode_high s i h
    rw [nameC_high (by omega)] at hc
    cases hc
  have e : Utf8.decode s i = ((s.get! i).toNat, 1) := by
    unfold Utf8.decode
    simp only [Nat.add_zero]
    rw [if_pos hlt]
  rw [e] at hc ⊢
  exact ⟨rfl, hc⟩
theorem name_bad {s : ByteArray} {i : Nat} (hc : nameC (Utf8.decode s i).1 i = false) : nameC (s.get! i).toNat i = false := by
  by_cases hlt : (s.get! i).toNat < 128
  · have e : Utf8.decode s i = ((s.get! i).toNat, 1) := by
      unfold Utf8.decode
      simp only [Nat.add_zero]
      rw [if_pos hlt]
    rw [e] at hc
    exact hc
  · exact nameC_high (by omega)
theorem name_ok (s : ByteArray) (w : World) (hs : s.size ≤ 9223372036854775807) : Calls Tryz.prog 142 #[.string s] w (RetV w (.bool (nameB s))) := by
  refine en0 45 Tryz.func142 ?_
  refine sg (co (Ev.assign (.c (v := .bool false) rfl)) ?_)
  refine nP (seq (sg (mv rfl (co (Ev.lenS Tryz.underlying9 (.t rfl)) ?_))))
  refine co (Ev.eql_i (.t rfl) (.c (v := I 0) rfl)) ?_
  refine mv rfl (cg rfl rfl (Ev.move (.t rfl)) ?_)
  refine cg rfl rfl (Ev.lenS Tryz.underlying9 (.g rfl id)) ?_
  refine cg rfl rfl (Ev.gtr_i (.g rfl id) (.c (v := I 16) rfl)) ?_
  refine co (Ev.pkO (.t rfl) rfl) ?_
  refine nP ?_
  first | refine condD rfl (fun h0 => ?_) (fun h0 => ?_) | refine cond rfl (fun h0 => ?_) (fun h0 => ?_)
  · try simp only [Gx.nb] at h0
    refine sg (co (Ev.assign (.c (v := .bool false) rfl)) ?_)
    refine nP (ret (pR (done rfl (.tmp rfl .nil) (retE ?_))))
    have e : nameB s = false := by
      have h : (decide (s.size = 0) || decide (16 < s.size)) = true := by rw [Bool.or_eq_true, decide_eq_true_eq, decide_eq_true_eq]; omega
      unfold nameB
      rw [h]
      rfl
    rw [e]; rfl
  · try simp only [Gx.nb] at h0
    refine skip (pN (seq (sg (mv rfl (cons (startRangeS Tryz.underlying9 (.t rfl) (fun r1 => ?_)))))))
    refine nP (block (lp (X := Nat) (fun x : Nat => (x ≤ s.size) ∧ (∀ k : Nat, k < x → nameC (s.get! k).toNat k = true)) (fun x : Nat => [dz, (14, true, .pointer (some ⟨r1, 0, none⟩))]) (fun x : Nat => [StrIt r1 s x]) (fun x : Nat => s.size - x) (0) ⟨?_, ?_⟩ (fun x hx => ?_)))
    · omega
    · intro k h; omega
    obtain ⟨i, rfl⟩ : ∃ y, y = x := ⟨x, rfl⟩
    obtain ⟨hi, hq⟩ : (i ≤ s.size) ∧ (∀ k : Nat, k < i → nameC (s.get! k).toNat k = true) := hx
    show Sat _ _ [dz, (14, true, .pointer (some ⟨r1, 0, none⟩))] [StrIt r1 s i]
    refine sg (cons (nextStr (.t rfl) (fun _ => zu) (fun hs5 => ?_) (fun hs5 => ?_)))
    · refine co (Ev.extract (.t rfl) rfl) (nP (seq (condF rfl (rfl) ?_)))
      refine exit (pX (pX (bX (pN (sg (co (Ev.assign (.c (v := .bool true) rfl)) ?_))))))
      refine nP (ret (done rfl (.tmp rfl .nil) (retE ?_)))
      have e : nameB s = true := by
        have h : (decide (s.size = 0) || decide (16 < s.size)) = false := by rw [Bool.or_eq_false_iff, decide_eq_false_iff_not, decide_eq_false_iff_not]; omega
        unfold nameB
        rw [h]
        exact List.all_eq_true.2 fun k hk => hq k (by have := List.mem_range.1 hk; omega)
      rw [e]; rfl
    · refine co (Ev.extract (.t rfl) rfl) (nP (seq (condT rfl (rfl) ?_)))
      refine skip (pN (block (sg (co (Ev.extract (.t rfl) rfl) (co (Ev.extract (.t rfl) rfl) (asn rfl (asn rfl (nP (block (sg (mv rfl (co (Ev.geq_i32 (.t rfl) (.c (v := Value.int .i32 97) rfl)) ?_))))))))))))
      refine mv rfl (cg rfl rfl (Ev.move (.t rfl)) ?_)
      refine cg rfl rfl (Ev.leq_i32 (.g rfl id) (.c (v := Value.int .i32 122) rfl)) ?_
      refine co (Ev.pkA (.t rfl) rfl) ?_
      refine asn rfl (nP ?_)
      first | refine condD rfl (fun h2 => ?_) (fun h2 => ?_) | refine cond rfl (fun h2 => ?_) (fun h2 => ?_)
      · refine skip (bN (bN (pN (nx (X := Nat) (_) ⟨?_, ?_⟩ ?_))))
        · try dsimp only
          have hc : nameC (Utf8.decode s i).1 i = true := by
            unfold nameC
            first
              | (rw [h2]; rfl)
              | (rw [h3]; simp)
          have hst := name_step hc
          have hst1 := hst.1
          omega
        · try dsimp only
          have hc : nameC (Utf8.decode s i).1 i = true := by
            unfold nameC
            first
              | (rw [h2]; rfl)
              | (rw [h3]; simp)
          have hst := name_step hc
          have hst1 := hst.1
          intro k hk
          by_cases e : k < i
          · exact hq k e
          · obtain rfl : k = i := by omega
            exact hst.2
        · try dsimp only
          have hc : nameC (Utf8.decode s i).1 i = true := by
            unfold nameC
            first
              | (rw [h2]; rfl)
              | (rw [h3]; simp)
          have hst := name_step hc
          have hst1 := hst.1
          omega
      · refine sg (mv rfl (co (Ev.gtr_i (.t rfl) (.c (v := I 0) rfl)) ?_))
        refine mv rfl (cg rfl rfl (Ev.move (.t rfl)) ?_)
        refine cg rfl rfl (Ev.geq_i32 (.g rfl id) (.c (v := Value.int .i32 48) rfl)) ?_
        refine cg rfl rfl (Ev.move (.g rfl id)) ?_
        refine cg rfl rfl (Ev.move (.t rfl)) ?_
        refine cg rfl rfl (Ev.leq_i32 (.g rfl id) (.c (v := Value.int .i32 57) rfl)) ?_
        refine cg rfl rfl (Ev.pkA (.g rfl id) rfl) ?_
        refine cg rfl rfl (Ev.move (.g rfl id)) ?_
        refine cg rfl rfl (Ev.move (.t rfl)) ?_
        refine cg rfl rfl (Ev.eql_i32 (.g rfl id) (.c (v := Value.int .i32 45) rfl)) ?_
        refine cg rfl rfl (Ev.pkO (.g rfl id) rfl) ?_
        refine cg rfl rfl (Ev.move (.g rfl id)) ?_
        refine cg rfl rfl (Ev.move (.t rfl)) ?_
        refine cg rfl rfl (Ev.eql_i32 (.g rfl id) (.c (v := Value.int .i32 95) rfl)) ?_
        refine cg rfl rfl (Ev.pkO (.g rfl id) rfl) ?_
        refine co (Ev.pkA (.t rfl) rfl) ?_
        refine asn rfl (nP ?_)
        first | refine condD rfl (fun h3 => ?_) (fun h3 => ?_) | refine cond rfl (fun h3 => ?_) (fun h3 => ?_)
        · refine skip (bN (bN (pN (nx (X := Nat) (_) ⟨?_, ?_⟩ ?_))))
          · try dsimp only
            have hc : nameC (Utf8.decode s i).1 i = true := by
              unfold nameC
              first
                | (rw [h2]; rfl)
                | (rw [h3]; simp)
            have hst := name_step hc
            have hst1 := hst.1
            omega
          · try dsimp only
            have hc : nameC (Utf8.decode s i).1 i = true := by
              unfold nameC
              first
                | (rw [h2]; rfl)
                | (rw [h3]; simp)
            have hst := name_step hc
            have hst1 := hst.1
            intro k hk
            by_cases e : k < i
            · exact hq k e
            · obtain rfl : k = i := by omega
              exact hst.2
          · try dsimp only
            have hc : nameC (Utf8.decode s i).1 i = true := by
              unfold nameC
              first
                | (rw [h2]; rfl)
                | (rw [h3]; simp)
            have hst := name_step hc
            have hst1 := hst.1
            omega
        · refine sg (co (Ev.assign (.c (v := .bool false) rfl)) ?_)
          refine nP (ret (bR (bR (pR (bR (pR (done rfl (.tmp rfl .nil) (retE ?_))))))))
          have hb : nameC (s.get! i).toNat i = false := name_bad (by unfold nameC; rw [h2, h3]; rfl)
          have e : nameB s = false := by
            unfold nameB
            have : (List.range s.size).all (fun k => nameC (s.get! k).toNat k) = false := List.all_eq_false.2 ⟨i, List.mem_range.2 (by assumption), by simp [hb]⟩
            rw [this, Bool.and_false]
          rw [e]; rfl
def meterE (l : CL) (m : SMeterConf) (i : Int) : Int := if nameB m.name = false then 201 else if (findV eqs m.name (metersM l)).getD 0 < i ∨ ckB m.bucket ≠ 0 then 2 else 0
theorem en142 : Gx.Enters Tryz.prog 142 := Gx.Enters.mk' zk
theorem ty130 : TyOK Tryz.prog 130 (ovE nilMap) := TyOK.mk' zk zk
theorem en143 : Gx.Enters Tryz.prog 143 := Gx.Enters.mk' zk
theorem meter_ok (k : KB) (l : CL) (m : SMeterConf) (i : Int) (w : World) (hk : KnownAt w k l) (hs : m.name.size ≤ 9223372036854775807) : Calls Tryz.prog 100 #[eConfKnown.val k.k, eMeterConf.val m, I i] w (RetV w (I (meterE l m i))) := by
  refine en0 24 Tryz.func100 ?_
  refine sg (cons (box (E := eConfKnown) (.t rfl) (fun b1 => ?_)))
  refine cons (box (E := eMeterConf) (.t rfl) (fun b2 => ?_))
  refine co (Ev.assign (.c (v := I 0) rfl)) ?_
  refine nP (seq (block (sg (co (fA 0 (.t rfl)) ?_))))
  refine co (Ev.ldx m.name ty9 (.t rfl) SMeterConf.l_name) ?_
  refine cons (callv en142 (.cons (.t rfl) .nil) (fun w I => name_ok _ w hs) ?_)
  refine co (Ev.not (.t rfl)) ?_
  refine asn rfl (nP ?_)
  first | refine condD rfl (fun h0 => ?_) (fun h0 => ?_) | refine cond rfl (fun h0 => ?_) (fun h0 => ?_)
  · try simp only [Gx.nb] at h0
    refine sg (co (Ev.assign (.c (v := I 201) rfl)) ?_)
    refine nP (ret (bR (pR (done rfl (.tmp rfl .nil) (retE ?_)))))
    unfold meterE; first | (rw [if_pos (by simpa using h0)]; rfl) | (rw [if_neg (by simpa using h0), if_pos (by first | exact .inl (by simpa using h1) | exact .inr (by simpa using h2))]; rfl) | (rw [if_neg (by simpa using h0), if_neg (by simp_all; done)]; rfl)
  · try simp only [Gx.nb] at h0
    refine seq (sg (co (fA 3 (.t rfl)) ?_))
    refine co (Ev.ldv ty130 (.t rfl) SConfKnown.l_meters) ?_
    refine co (fA 0 (.t rfl)) ?_
    refine co (Ev.ldx m.name ty9 (.t rfl) SMeterConf.l_name) ?_
    refine co (Ev.lookupF Tryz.underlying130 Tryz.underlying9 key9 z3 (.t rfl) (.t rfl) (fun _ => (fun w I => hk.ms.keep0 I.keeps))) ?_
    refine mv rfl (co (Ev.lss_i (.t rfl) (.t rfl)) ?_)
    refine asn rfl (nP ?_)
    first | refine condD rfl (fun h1 => ?_) (fun h1 => ?_) | refine cond rfl (fun h1 => ?_) (fun h1 => ?_)
    · try simp only [Gx.nb] at h1
      refine skip (pN ?_)
      first | refine condD rfl (fun h2 => ?_) (fun h2 => ?_) | refine cond rfl (fun h2 => ?_) (fun h2 => ?_)
      · try simp only [Gx.nb] at h2
        refine sg (co (Ev.assign (.c (v := I 2) rfl)) ?_)
        refine nP (ret (bR (pR (done rfl (.tmp rfl .nil) (retE ?_)))))
        unfold meterE; first | (rw [if_pos (by simpa using h0)]; rfl) | (rw [if_neg (by simpa using h0), if_pos (by first | exact .inl (by simpa using h1) | exact .inr (by simpa using h2))]; rfl) | (rw [if_neg (by simpa using h0), if_neg (by simp_all; done)]; rfl)
      · try simp only [Gx.nb] at h2
        refine skip (bN (pN (sg (co (Ev.assign (.c (v := I 0) rfl)) ?_))))
        refine nP (ret (done rfl (.tmp rfl .nil) (retE ?_)))
        unfold meterE; first | (rw [if_pos (by simpa using h0)]; rfl) | (rw [if_neg (by simpa using h0), if_pos (by first | exact .inl (by simpa using h1) | exact .inr (by simpa using h2))]; rfl) | (rw [if_neg (by simpa using h0), if_neg (by simp_all; done)]; rfl)
    · try simp only [Gx.nb] at h1
      refine region (co (fA 1 (.t rfl)) ?_)
      refine co (Ev.ldx m.bucket ty132 (.t rfl) SMeterConf.l_bucket) ?_
      refine cons (callv en143 (.cons (.t rfl) .nil) (fun w I => bucket_ok _ w) ?_)
      refine co (Ev.neq_i (.t rfl) (.c (v := I 0) rfl)) ?_
      refine asn rfl (nP ?_)
      first | refine condD rfl (fun h2 => ?_) (fun h2 => ?_) | refine cond rfl (fun h2 => ?_) (fun h2 => ?_)
      · try simp only [Gx.nb] at h2
        refine sg (co (Ev.assign (.c (v := I 2) rfl)) ?_)
        refine nP (ret (bR (pR (done rfl (.tmp rfl .nil) (retE ?_)))))
        unfold meterE; first | (rw [if_pos (by simpa using h0)]; rfl) | (rw [if_neg (by simpa using h0), if_pos (by first | exact .inl (by simpa using h1) | exact .inr (by simpa using h2))]; rfl) | (rw [if_neg (by simpa using h0), if_neg (by simp_all; done)]; rfl)
      · try simp only [Gx.nb] at h2
        refine skip (bN (pN (sg (co (Ev.assign (.c (v := I 0) rfl)) ?_))))
        refine nP (ret (done rfl (.tmp rfl .nil) (retE ?_)))
        unfold meterE; first | (rw [if_pos (by simpa using h0)]; rfl) | (rw [if_neg (by simpa using h0), if_pos (by first | exact .inl (by simpa using h1) | exact .inr (by simpa using h2))]; rfl) | (rw [if_neg (by simpa using h0), if_neg (by simp_all; done)]; rfl)
structure CB where
  o1 : OV
  o2 : OV
  o3 : OV
  o4 : OV
  o5 : OV
def CB.c (x : CB) (d : Int) : SConf := ⟨x.o1, x.o2, x.o3, x.o4, x.o5, d⟩
def CB.R (x : CB) (l : CL) : List Res := [OwnS x.o5.v eMirrorConf l.xs 136, OwnS x.o4.v eMeterConf l.ms 134, OwnS x.o3.v eRule l.us 113, OwnS x.o2.v eRoute l.rs 172, OwnS x.o1.v iE l.ps 3]
structure CL.Small (l : CL) : Prop where
  ps : l.ps.length ≤ 1048576
  rs : l.rs.length ≤ 1048576
  us : l.us.length ≤ 1048576
  ms : l.ms.length ≤ 1048576
  xs : l.xs.length ≤ 1048576
theorem z28 : (Tryz.prog.info? 28).bind (·.zero) = some (eConf.val eConf.zero) := by kernel_rfl
theorem en66 : Gx.Enters Tryz.prog 66 := Gx.Enters.mk' zk
theorem en67 : Gx.Enters Tryz.prog 67 := Gx.Enters.mk' zk
theorem en68 : Gx.Enters Tryz.prog 68 := Gx.Enters.mk' zk
theorem en69 : Gx.Enters Tryz.prog 69 := Gx.Enters.mk' zk
theorem en70 : Gx.Enters Tryz.prog 70 := Gx.Enters.mk' zk
theorem ty28 : TyOK Tryz.prog 28 eConf := TyOK.mk' zk zk
theorem copy_ok (c : SConf) (l : CL) (w : World) (hc : ConfAt w c l) (hs : l.Small) : Calls Tryz.prog 42 #[eConf.val c] w (RetN w (fun _ : CB => True) (fun x => eConf.val (x.c c.default)) (fun x => x.R l)) := by
  refine en0 21 Tryz.func42 ?_
  refine sg (cons (box (E := eConf) (.t rfl) (fun b1 => ?_)))
  refine cons (alloc z28 (fun b2 => ?_))
  refine nP (seq (drawS 2 rfl zr zk ?_))
  refine tk 0 rfl (fA 0 (.t rfl)) ?_
  refine tk 1 rfl (Ev.ldx c.ports ty22 (.t rfl) SConf.l_ports) ?_
  refine tk 3 rfl (fA 1 (.t rfl)) ?_
  refine tk 4 rfl (Ev.ldx c.routes ty23 (.t rfl) SConf.l_routes) ?_
  refine tk 6 rfl (fA 2 (.t rfl)) ?_
  refine tk 7 rfl (Ev.ldx c.rules ty24 (.t rfl) SConf.l_rules) ?_
  refine tk 9 rfl (fA 3 (.t rfl)) ?_
  refine tk 10 rfl (Ev.ldx c.meters ty25 (.t rfl) SConf.l_meters) ?_
  refine tk 12 rfl (fA 4 (.t rfl)) ?_
  refine tk 13 rfl (Ev.ldx c.mirrors ty26 (.t rfl) SConf.l_mirrors) ?_
  refine tk 15 rfl (fA 5 (.t rfl)) ?_
  refine tk 16 rfl (Ev.ldx c.default ty3 (.t rfl) SConf.l_default) ?_
  refine al1 2 rfl ((callo en66 (.cons (.t rfl) .nil) (fun w I => clone_3 _ _ w (hc.keep0 I.keeps).ps (by have := hs.ps; omega)) (fun v3 => ?_)))
  refine hdn (al1 5 rfl ((callo en67 (.cons (.t rfl) .nil) (fun w I => clone_172 _ _ w (hc.keep0 I.keeps).rs (by have := hs.rs; omega)) (fun v4 => ?_))))
  refine hdn (al1 8 rfl ((callo en68 (.cons (.t rfl) .nil) (fun w I => clone_113 _ _ w (hc.keep0 I.keeps).us (by have := hs.us; omega)) (fun v5 => ?_))))
  refine hdn (al1 11 rfl ((callo en69 (.cons (.t rfl) .nil) (fun w I => clone_134 _ _ w (hc.keep0 I.keeps).ms (by have := hs.ms; omega)) (fun v6 => ?_))))
  refine hdn (al1 14 rfl ((callo en70 (.cons (.t rfl) .nil) (fun w I => clone_136 _ _ w (hc.keep0 I.keeps).xs (by have := hs.xs; omega)) (fun v7 => ?_))))
  refine hdn (tk 17 rfl (Ev.buildS (fs := _) (places := [(0, 1), (1, 1), (2, 1), (3, 1), (4, 1), (5, 1)]) z28 rfl Tryz.underlying28 zk (.cons (.t rfl) (.cons (.t rfl) (.cons (.t rfl) (.cons (.t rfl) (.cons (.t rfl) (.cons (.t rfl) .nil)))))) (Fills.cons SConf.l_ports rfl (Fills.cons SConf.l_routes rfl (Fills.cons SConf.l_rules rfl (Fills.cons SConf.l_meters rfl (Fills.cons SConf.l_mirrors rfl (Fills.cons SConf.l_default rfl Fills.nil))))))) ?_)
  refine al1 18 rfl ((stv ty28 (Lens.id _) (.t rfl) (.t rfl) ?_))
  refine hdn (ovr (pN (ret (done rfl (.cell rfl (fun w I => run_loadVar_pts ty28 (ptsVar zm (Lens.id _) w I)) .nil) (fun w I => ?_)))))
  exact retN (⟨v3, v4, v5, v6, v7⟩ : CB) trivial rfl (by exact zs) w I
def portE (ps : List Int) (p i : Int) : Int := if p < 0 ∨ 255 < p then 5 else if 0 < i ∧ p ≤ ps.getD (i - 1).toNat 0 then 2 else 0
theorem port1_ok (c : SConf) (ps : List Int) (b : Nat) (p i : Int) (w : World) (hc : PtsTo eConf w b 0 c) (hp : IsSl iE w c.ports.v ps) (hi : 0 ≤ i ∧ i < ps.length) : Calls Tryz.prog 94 #[I p, I i, .pointer (some ⟨b, 0, none⟩)] w (RetV w (I (portE ps p i))) := by
  have hle := hp.le
  refine en0 26 Tryz.func94 ?_
  refine sg (co (Ev.assign (.c (v := I 0) rfl)) ?_)
  refine nP (seq (block (sg (mv rfl (co (Ev.lss_i (.t rfl) (.c (v := I 0) rfl)) ?_)))))
  refine mv rfl (cg rfl rfl (Ev.move (.t rfl)) ?_)
  refine cg rfl rfl (Ev.gtr_i (.g rfl id) (.c (v := I 255) rfl)) ?_
  refine co (Ev.pkO (.t rfl) rfl) ?_
  refine asn rfl (nP ?_)
  first | refine condD rfl (fun h0 => ?_) (fun h0 => ?_) | refine cond rfl (fun h0 => ?_) (fun h0 => ?_)
  · try simp only [Gx.nb] at h0
    refine sg (co (Ev.assign (.c (v := I 5) rfl)) ?_)
    refine nP (ret (bR (pR (done rfl (.tmp rfl .nil) (retE ?_)))))
    unfold portE; rw [if_pos (by simpa using h0)]; rfl
  · try simp only [Gx.nb] at h0
    refine sg (mv rfl (co (Ev.gtr_i (.t rfl) (.c (v := I 0) rfl)) ?_))
    refine mv rfl (cg rfl rfl (Ev.move (.t rfl)) ?_)
    refine cg rfl rfl (fA 0 (.t rfl)) ?_
    refine cg rfl rfl (Ev.load ty22 (.g rfl id) (ptsL (fun w I => hc.keep I.keeps) SConf.l_ports)) ?_
    refine cg rfl rfl (Ev.move (.t rfl)) ?_
    refine cg rfl rfl (Ev.sub_i (.g rfl id) (.c (v := I 1) rfl) (fun _ => by first | omega | (rename_i hg; simp at hg; omega))) ?_
    refine cg rfl rfl (Ev.indexAddr Tryz.underlying22 ty3 (.g rfl id) (.g rfl id) (fun w I => hp.keep0 I.keeps) (fun _ => by first | omega | (rename_i hg; simp at hg; omega))) ?_
    refine cg rfl rfl (Ev.loadS0 ty3 (.g rfl id) (fun w I => hp.keep0 I.keeps) (fun _ => by first | omega | (rename_i hg; simp at hg; omega))) ?_
    refine cg rfl rfl (Ev.leq_i (.g rfl id) (.g rfl id)) ?_
    refine co (Ev.pkA (.t rfl) rfl) ?_
    refine asn rfl (nP ?_)
    first | refine condD rfl (fun h1 => ?_) (fun h1 => ?_) | refine cond rfl (fun h1 => ?_) (fun h1 => ?_)
    · try simp only [Gx.nb] at h1
      refine sg (co (Ev.assign (.c (v := I 2) rfl)) ?_)
      refine nP (ret (bR (pR (done rfl (.tmp rfl .nil) (retE ?_)))))
      unfold portE; rw [if_neg (by omega), if_pos ⟨h1.1, h1.2⟩]; rfl
    · try simp only [Gx.nb] at h1
      refine skip (bN (pN (sg (co (Ev.assign (.c (v := I 0) rfl)) ?_))))
      refine nP (ret (done rfl (.tmp rfl .nil) (retE ?_)))
      unfold portE; rw [if_neg (by omega), if_neg (fun hh => h1.elim (fun e => e hh.1) (fun e => e hh.2))]; rfl
structure SHeader where
  src : SAddr
  dst : SAddr
  proto : UInt8
  srcPort : UInt16
  dstPort : UInt16
  tTL : UInt8
  class_ : UInt8
  id : UInt32
  flags : UInt8
  seq : UInt32
  data : OV
def SHeader.to : (SAddr × (SAddr × (UInt8 × (UInt16 × (UInt16 × (UInt8 × (UInt8 × (UInt32 × (UInt8 × (UInt32 × OV)))))))))) → SHeader := fun x => ⟨x.1, x.2.1, x.2.2.1, x.2.2.2.1, x.2.2.2.2.1, x.2.2.2.2.2.1, x.2.2.2.2.2.2.1, x.2.2.2.2.2.2.2.1, x.2.2.2.2.2.2.2.2.1, x.2.2.2.2.2.2.2.2.2.1, x.2.2.2.2.2.2.2.2.2.2⟩
def SHeader.of : SHeader → (SAddr × (SAddr × (UInt8 × (UInt16 × (UInt16 × (UInt8 × (UInt8 × (UInt32 × (UInt8 × (UInt32 × OV)))))))))) := fun x => (x.src, x.dst, x.proto, x.srcPort, x.dstPort, x.tTL, x.class_, x.id, x.flags, x.seq, x.data)
def eHeader : Enc SHeader := isoE (prodE eAddr (prodE eAddr (prodE u8E (prodE u16E (prodE u16E (prodE u8E (prodE u8E (prodE u32E (prodE u8E (prodE u32E (ovE nilSl))))))))))) SHeader.to SHeader.of
def SHeader.l_src : Lens eHeader eAddr 0 := lIso _ SHeader.to SHeader.of (fun _ => rfl) (lFst eAddr (prodE eAddr (prodE u8E (prodE u16E (prodE u16E (prodE u8E (prodE u8E (prodE u32E (prodE u8E (prodE u32E (ovE nilSl)))))))))))
@[simp] theorem SHeader.get_src (x : SHeader) : SHeader.l_src.get x = x.src := rfl
@[simp] theorem SHeader.set_src (x : SHeader) (y : SAddr) : SHeader.l_src.set x y = { x with src := y } := rfl
def SHeader.l_dst : Lens eHeader eAddr 17 := lIso _ SHeader.to SHeader.of (fun _ => rfl) (Lens.comp (lSnd eAddr (prodE eAddr (prodE u8E (prodE u16E (prodE u16E (prodE u8E (prodE u8E (prodE u32E (prodE u8E (prodE u32E (ovE nilSl))))))))))) (lFst eAddr (prodE u8E (prodE u16E (prodE u16E (prodE u8E (prodE u8E (prodE u32E (prodE u8E (prodE u32E (ovE nilSl)))))))))))
@[simp] theorem SHeader.get_dst (x : SHeader) : SHeader.l_dst.get x = x.dst := rfl
@[simp] theorem SHeader.set_dst (x : SHeader) (y : SAddr) : SHeader.l_dst.set x y = { x with dst := y } := rfl
def SHeader.l_proto : Lens eHeader u8E 34 := lIso _ SHeader.to SHeader.of (fun _ => rfl) (Lens.comp (lSnd eAddr (prodE eAddr (prodE u8E (prodE u16E (prodE u16E (prodE u8E (prodE u8E (prodE u32E (prodE u8E (prodE u32E (ovE nilSl))))))))))) (Lens.comp (lSnd eAddr (prodE u8E (prodE u16E (prodE u16E (prodE u8E (prodE u8E (prodE u32E (prodE u8E (prodE u32E (ovE nilSl)))))))))) (lFst u8E (prodE u16E (prodE u16E (prodE u8E (prodE u8E (prodE u32E (prodE u8E (prodE u32E (ovE nilSl)))))))))))
@[simp] theorem SHeader.get_proto (x : SHeader) : SHeader.l_proto.get x = x.proto := rfl
@[simp] theorem SHeader.set_proto (x : SHeader) (y : UInt8) : SHeader.l_proto.set x y = { x with proto := y } := rfl
def SHeader.l_srcPort : Lens eHeader u16E 35 := lIso _ SHeader.to SHeader.of (fun _ => rfl) (Lens.comp (lSnd eAddr (prodE eAddr (prodE u8E (prodE u16E (prodE u16E (prodE u8E (prodE u8E (prodE u32E (prodE u8E (prodE u32E (ovE nilSl))))))))))) (Lens.comp (lSnd eAddr (prodE u8E (prodE u16E (prodE u16E (prodE u8E (prodE u8E (prodE u32E (prodE u8E (prodE u32E (ovE nilSl)))))))))) (Lens.comp (lSnd u8E (prodE u16E (prodE u16E (prodE u8E (prodE u8E (prodE u32E (prodE u8E (prodE u32E (ovE nilSl))))))))) (lFst u16E (prodE u16E (prodE u8E (prodE u8E (prodE u32E (prodE u8E (prodE u32E (ovE nilSl)))))))))))
@[simp] theorem SHeader.get_srcPort (x : SHeader) : SHeader.l_srcPort.get x = x.srcPort := rfl
@[simp] theorem SHeader.set_srcPort (x : SHeader) (y : UInt16) : SHeader.l_srcPort.set x y = { x with srcPort := y } := rfl
def SHeader.l_dstPort : Lens eHeader u16E 36 := lIso _ SHeader.to SHeader.of (fun _ => rfl) (Lens.comp (lSnd eAddr (prodE eAddr (prodE u8E (prodE u16E (prodE u16E (prodE u8E (prodE u8E (prodE u32E (prodE u8E (prodE u32E (ovE nilSl))))))))))) (Lens.comp (lSnd eAddr (prodE u8E (prodE u16E (prodE u16E (prodE u8E (prodE u8E (prodE u32E (prodE u8E (prodE u32E (ovE nilSl)))))))))) (Lens.comp (lSnd u8E (prodE u16E (prodE u16E (prodE u8E (prodE u8E (prodE u32E (prodE u8E (prodE u32E (ovE nilSl))))))))) (Lens.comp (lSnd u16E (prodE u16E (prodE u8E (prodE u8E (prodE u32E (prodE u8E (prodE u32E (ovE nilSl)))))))) (lFst u16E (prodE u8E (prodE u8E (prodE u32E (prodE u8E (prodE u32E (ovE nilSl)))))))))))
@[simp] theorem SHeader.get_dstPort (x : SHeader) : SHeader.l_dstPort.get x = x.dstPort := rfl
@[simp] theorem SHeader.set_dstPort (x : SHeader) (y : UInt16) : SHeader.l_dstPort.set x y = { x with dstPort := y } := rfl
def SHeader.l_tTL : Lens eHeader u8E 37 := lIso _ SHeader.to SHeader.of (fun _ => rfl) (Lens.comp (lSnd eAddr (prodE eAddr (prodE u8E (prodE u16E (prodE u16E (prodE u8E (prodE u8E (prodE u32E (prodE u8E (prodE u32E (ovE nilSl))))))))))) (Lens.comp (lSnd eAddr (prodE u8E (prodE u16E (prodE u16E (prodE u8E (prodE u8E (prodE u32E (prodE u8E (prodE u32E (ovE nilSl)))))))))) (Lens.comp (lSnd u8E (prodE u16E (prodE u16E (prodE u8E (prodE u8E (prodE u32E (prodE u8E (prodE u32E (ovE nilSl))))))))) (Lens.comp (lSnd u16E (prodE u16E (prodE u8E (prodE u8E (prodE u32E (prodE u8E (prodE u32E (ovE nilSl)))))))) (Lens.comp (lSnd u16E (prodE u8E (prodE u8E (prodE u32E (prodE u8E (prodE u32E (ovE nilSl))))))) (lFst u8E (prodE u8E (prodE u32E (prodE u8E (prodE u32E (ovE nilSl)))))))))))
@[simp] theorem SHeader.get_tTL (x : SHeader) : SHeader.l_tTL.get x = x.tTL := rfl
@[simp] theorem SHeader.set_tTL (x : SHeader) (y : UInt8) : SHeader.l_tTL.set x y = { x with tTL := y } := rfl
def SHeader.l_class_ : Lens eHeader u8E 38 := lIso _ SHeader.to SHeader.of (fun _ => rfl) (Lens.comp (lSnd eAddr (prodE eAddr (prodE u8E (prodE u16E (prodE u16E (prodE u8E (prodE u8E (prodE u32E (prodE u8E (prodE u32E (ovE nilSl))))))))))) (Lens.comp (lSnd eAddr (prodE u8E (prodE u16E (prodE u16E (prodE u8E (prodE u8E (prodE u32E (prodE u8E (prodE u32E (ovE nilSl)))))))))) (Lens.comp (lSnd u8E (prodE u16E (prodE u16E (prodE u8E (prodE u8E (prodE u32E (prodE u8E (prodE u32E (ovE nilSl))))))))) (Lens.comp (lSnd u16E (prodE u16E (prodE u8E (prodE u8E (prodE u32E (prodE u8E (prodE u32E (ovE nilSl)))))))) (Lens.comp (lSnd u16E (prodE u8E (prodE u8E (prodE u32E (prodE u8E (prodE u32E (ovE nilSl))))))) (Lens.comp (lSnd u8E (prodE u8E (prodE u32E (prodE u8E (prodE u32E (ovE nilSl)))))) (lFst u8E (prodE u32E (prodE u8E (prodE u32E (ovE nilSl)))))))))))
@[simp] theorem SHeader.get_class_ (x : SHeader) : SHeader.l_class_.get x = x.class_ := rfl
@[simp] theorem SHeader.set_class_ (x : SHeader) (y : UInt8) : SHeader.l_class_.set x y = { x with class_ := y } := rfl
def SHeader.l_id : Lens eHeader u32E 39 := lIso _ SHeader.to SHeader.of (fun _ => rfl) (Lens.comp (lSnd eAddr (prodE eAddr (prodE u8E (prodE u16E (prodE u16E (prodE u8E (prodE u8E (prodE u32E (prodE u8E (prodE u32E (ovE nilSl))))))))))) (Lens.comp (lSnd eAddr (prodE u8E (prodE u16E (prodE u16E (prodE u8E (prodE u8E (prodE u32E (prodE u8E (prodE u32E (ovE nilSl)))))))))) (Lens.comp (lSnd u8E (prodE u16E (prodE u16E (prodE u8E (prodE u8E (prodE u32E (prodE u8E (prodE u32E (ovE nilSl))))))))) (Lens.comp (lSnd u16E (prodE u16E (prodE u8E (prodE u8E (prodE u32E (prodE u8E (prodE u32E (ovE nilSl)))))))) (Lens.comp (lSnd u16E (prodE u8E (prodE u8E (prodE u32E (prodE u8E (prodE u32E (ovE nilSl))))))) (Lens.comp (lSnd u8E (prodE u8E (prodE u32E (prodE u8E (prodE u32E (ovE nilSl)))))) (Lens.comp (lSnd u8E (prodE u32E (prodE u8E (prodE u32E (ovE nilSl))))) (lFst u32E (prodE u8E (prodE u32E (ovE nilSl)))))))))))
@[simp] theorem SHeader.get_id (x : SHeader) : SHeader.l_id.get x = x.id := rfl
@[simp] theorem SHeader.set_id (x : SHeader) (y : UInt32) : SHeader.l_id.set x y = { x with id := y } := rfl
def SHeader.l_flags : Lens eHeader u8E 40 := lIso _ SHeader.to SHeader.of (fun _ => rfl) (Lens.comp (lSnd eAddr (prodE eAddr (prodE u8E (prodE u16E (prodE u16E (prodE u8E (prodE u8E (prodE u32E (prodE u8E (prodE u32E (ovE nilSl))))))))))) (Lens.comp (lSnd eAddr (prodE u8E (prodE u16E (prodE u16E (prodE u8E (prodE u8E (prodE u32E (prodE u8E (prodE u32E (ovE nilSl)))))))))) (Lens.comp (lSnd u8E (prodE u16E (prodE u16E (prodE u8E (prodE u8E (prodE u32E (prodE u8E (prodE u32E (ovE nilSl))))))))) (Lens.comp (lSnd u16E (prodE u16E (prodE u8E (prodE u8E (prodE u32E (prodE u8E (prodE u32E (ovE nilSl)))))))) (Lens.comp (lSnd u16E (prodE u8E (prodE u8E (prodE u32E (prodE u8E (prodE u32E (ovE nilSl))))))) (Lens.comp (lSnd u8E (prodE u8E (prodE u32E (prodE u8E (prodE u32E (ovE nilSl)))))) (Lens.comp (lSnd u8E (prodE u32E (prodE u8E (prodE u32E (ovE nilSl))))) (Lens.comp (lSnd u32E (prodE u8E (prodE u32E (ovE nilSl)))) (lFst u8E (prodE u32E (ovE nilSl)))))))))))
@[simp] theorem SHeader.get_flags (x : SHeader) : SHeader.l_flags.get x = x.flags := rfl
@[simp] theorem SHeader.set_flags (x : SHeader) (y : UInt8) : SHeader.l_flags.set x y = { x with flags := y } := rfl
def SHeader.l_seq : Lens eHeader u32E 41 := lIso _ SHeader.to SHeader.of (fun _ => rfl) (Lens.comp (lSnd eAddr (prodE eAddr (prodE u8E (prodE u16E (prodE u16E (prodE u8E (prodE u8E (prodE u32E (prodE u8E (prodE u32E (ovE nilSl))))))))))) (Lens.comp (lSnd eAddr (prodE u8E (prodE u16E (prodE u16E (prodE u8E (prodE u8E (prodE u32E (prodE u8E (prodE u32E (ovE nilSl)))))))))) (Lens.comp (lSnd u8E (prodE u16E (prodE u16E (prodE u8E (prodE u8E (prodE u32E (prodE u8E (prodE u32E (ovE nilSl))))))))) (Lens.comp (lSnd u16E (prodE u16E (prodE u8E (prodE u8E (prodE u32E (prodE u8E (prodE u32E (ovE nilSl)))))))) (Lens.comp (lSnd u16E (prodE u8E (prodE u8E (prodE u32E (prodE u8E (prodE u32E (ovE nilSl))))))) (Lens.comp (lSnd u8E (prodE u8E (prodE u32E (prodE u8E (prodE u32E (ovE nilSl)))))) (Lens.comp (lSnd u8E (prodE u32E (prodE u8E (prodE u32E (ovE nilSl))))) (Lens.comp (lSnd u32E (prodE u8E (prodE u32E (ovE nilSl)))) (Lens.comp (lSnd u8E (prodE u32E (ovE nilSl))) (lFst u32E (ovE nilSl)))))))))))
@[simp] theorem SHeader.get_seq (x : SHeader) : SHeader.l_seq.get x = x.seq := rfl
@[simp] theorem SHeader.set_seq (x : SHeader) (y : UInt32) : SHeader.l_seq.set x y = { x with seq := y } := rfl
def SHeader.l_data : Lens eHeader (ovE nilSl) 42 := lIso _ SHeader.to SHeader.of (fun _ => rfl) (Lens.comp (lSnd eAddr (prodE eAddr (prodE u8E (prodE u16E (prodE u16E (prodE u8E (prodE u8E (prodE u32E (prodE u8E (prodE u32E (ovE nilSl))))))))))) (Lens.comp (lSnd eAddr (prodE u8E (prodE u16E (prodE u16E (prodE u8E (prodE u8E (prodE u32E (prodE u8E (prodE u32E (ovE nilSl)))))))))) (Lens.comp (lSnd u8E (prodE u16E (prodE u16E (prodE u8E (prodE u8E (prodE u32E (prodE u8E (prodE u32E (ovE nilSl))))))))) (Lens.comp (lSnd u16E (prodE u16E (prodE u8E (prodE u8E (prodE u32E (prodE u8E (prodE u32E (ovE nilSl)))))))) (Lens.comp (lSnd u16E (prodE u8E (prodE u8E (prodE u32E (prodE u8E (prodE u32E (ovE nilSl))))))) (Lens.comp (lSnd u8E (prodE u8E (prodE u32E (prodE u8E (prodE u32E (ovE nilSl)))))) (Lens.comp (lSnd u8E (prodE u32E (prodE u8E (prodE u32E (ovE nilSl))))) (Lens.comp (lSnd u32E (prodE u8E (prodE u32E (ovE nilSl)))) (Lens.comp (lSnd u8E (prodE u32E (ovE nilSl))) (Lens.comp (lSnd u32E (ovE nilSl)) (Lens.id (ovE nilSl))))))))))))
@[simp] theorem SHeader.get_data (x : SHeader) : SHeader.l_data.get x = x.data := rfl
@[simp] theorem SHeader.set_data (x : SHeader) (y : OV) : SHeader.l_data.set x y = { x with data := y } := rfl
def bitOf (x : UInt8) (j : Nat) : UInt8 := shr8 x (7 - j) &&& 1
theorem bitOf_toNat (x : UInt8) (j : Nat) : (bitOf x j).toNat = bn x.toNat (7 - j) := by
  unfold bitOf bn
  rw [UInt8.toNat_and, toNat_shr8]
  have e : UInt8.toNat 1 = 1 := rfl
  rw [e, Nat.and_one_is_mod]
theorem bitU_at (xs : List UInt8) (q j : Nat) (hj : j < 8) : bitU xs (8 * (q : Int) + j) = bitOf (xs.getD q 0) j := by
  unfold bitU bitOf
  have e1 : ((8 * (q : Int) + j) / 8).toNat = q := by omega
  have e2 : (7 - (8 * (q : Int) + j) % 8).toNat = 7 - j := by omega
  rw [e1, e2]
set_option maxRecDepth 100000 in
theorem mk1_dec : ∀ n : Fin 256, ∀ l : Fin 9, (mk1 (l.val : Int) (UInt8.ofNat n.val) = UInt8.ofNat n.val ↔ ∀ j : Fin 8, l.val ≤ j.val → bn n.val (7 - j.val) = 0) := by decide +kernel
theorem mk1_iff (x : UInt8) (left : Int) : mk1 left x = x ↔ ∀ j : Nat, j < 8 → left ≤ j → bitOf x j = 0 := by
  have key : ∀ l : Nat, l < 9 → (mk1 (l : Int) x = x ↔ ∀ j : Nat, j < 8 → l ≤ j → bitOf x j = 0) := fun l hl => by
    have h := mk1_dec ⟨x.toNat, x.toNat_lt⟩ ⟨l, hl⟩
    simp only [UInt8.ofNat_toNat] at h
    rw [h]
    constructor
    · intro h1 j hj hlj
      apply UInt8.toNat_inj.1
      rw [bitOf_toNat]
      exact h1 ⟨j, hj⟩ hlj
    · intro h1 j hlj
      rw [← bitOf_toNat, h1 j.val j.isLt hlj]
      rfl
  by_cases h0 : left ≤ 0
  · have e : mk1 left x = mk1 ((0 : Nat) : Int) x := by
      unfold mk1
      rw [if_pos h0, if_pos (by omega)]
    rw [e, key 0 (by omega)]
    exact ⟨fun h j hj _ => h j hj (Nat.zero_le _), fun h j hj _ => h j hj (by omega)⟩
  · by_cases h8 : left < 8
    · have e : left = (left.toNat : Int) := by omega
      rw [e, key left.toNat (by omega)]
      exact ⟨fun h j hj hl => h j hj (by omega), fun h j hj hl => h j hj (by omega)⟩
    · have e : mk1 left x = x := by
        unfold mk1
        rw [if_neg h0, if_neg h8]
      exact ⟨fun _ j hj hl => by omega, fun _ => e⟩
theorem vec_getD (b : Vector UInt8 16) (k : Nat) (h : k < 16) : b.toList.getD k 0 = b[k] := by simp [List.getD, h]
theorem mask_bits (n : Int) (b : Vector UInt8 16) (h0 : 0 ≤ n) : maskV n b = b ↔ ∀ i : Int, n ≤ i → i < 128 → bitU b.toList i = 0 := by
  have step : maskV n b = b ↔ ∀ (k : Nat) (hk : k < 16), mk1 (n - 8 * (k : Int)) b[k] = b[k] := by
    constructor
    · intro h k hk
      have := congrArg (fun v : Vector UInt8 16 => v[k]) h
      simpa [maskV] using this
    · intro h
      apply Vector.ext
      intro k hk
      have := h k hk
      simpa [maskV] using this
  rw [step]
  constructor
  · intro h i h1 h2
    have hk : (i / 8).toNat < 16 := by omega
    have h3 := (mk1_iff _ _).1 (h (i / 8).toNat hk) (i % 8).toNat (by omega) (by omega)
    have e : i = 8 * ((i / 8).toNat : Int) + ((i % 8).toNat : Int) := by omega
    rw [e, bitU_at _ _ _ (by omega), vec_getD b _ hk]
    exact h3
  · intro h k hk
    refine (mk1_iff _ _).2 (fun j hj hl => ?_)
    have h3 := h (8 * (k : Int) + j) (by omega) (by omega)
    rw [bitU_at _ _ _ hj, vec_getD b _ hk] at h3
    exact h3
theorem checkA_zero (a : SAddr) : checkA a = 0 ↔ ∀ i : Int, wd a ≤ i → i < 128 → bitU a.b.toList i = 0 := by
  have := wd_le a
  rw [← mask_bits (wd a) a.b (by omega)]
  unfold checkA
  split <;> simp_all
theorem checkP_zero (p : SPrefix) : checkP p = 0 ↔ 0 ≤ p.bits ∧ p.bits ≤ wd p.addr ∧ ∀ i : Int, p.bits ≤ i → i < 128 → bitU p.addr.b.toList i = 0 := by
  unfold checkP
  by_cases h0 : 0 ≤ p.bits
  · rw [← mask_bits p.bits p.addr.b h0]
    split
    · rename_i h
      constructor
      · intro h; cases h
      · intro h2; exfalso; rcases h with h | h | h
        · omega
        · omega
        · exact h h2.2.2
    · rename_i h
      simp only [not_or, Decidable.not_not] at h
      exact ⟨fun _ => ⟨h0, (by omega), h.2.2⟩, fun _ => rfl⟩
  · rw [if_pos (.inl (by omega))]
    exact ⟨fun h => (by cases h), fun h => absurd h.1 h0⟩
theorem checkP_addr (p : SPrefix) (h : checkP p = 0) : checkA p.addr = 0 := by
  obtain ⟨h0, h1, h2⟩ := (checkP_zero p).1 h
  exact (checkA_zero p.addr).2 (fun i hi h3 => h2 i (by omega) h3)
theorem common_ge (a b : List UInt8) (n : Int) (ha : a.length = 16) (hb : b.length = 16) (h1 : n ≤ 128) : n ≤ commonB a b ↔ ∀ i : Int, 0 ≤ i → i < n → bitU a i = bitU b i := by
  have h := commonB_is a b
  constructor
  · intro h2 i h3 h4
    exact h.eq i h3 (by omega)
  · intro h2
    rcases Int.lt_or_le (commonB a b) n with h3 | h3
    · exact absurd (h2 _ h.p h3) (h.ne (by omega) (by omega))
    · exact h3
theorem vec_len (b : Vector UInt8 16) : b.toList.length = 16 := by simp
theorem hasP_iff (p : SPrefix) (a : SAddr) : hasP p a = true ↔ checkP p = 0 ∧ checkA a = 0 ∧ a.v6 = p.addr.v6 ∧ ∀ i : Int, 0 ≤ i → i < p.bits → bitU a.b.toList i = bitU p.addr.b.toList i := by
  unfold hasP
  simp only [Bool.and_eq_true, decide_eq_true_eq, and_assoc]
  constructor
  · rintro ⟨h1, h2, h3, h4⟩
    obtain ⟨g0, g1, _⟩ := (checkP_zero p).1 h1
    have := wd_le p.addr
    exact ⟨h1, h2, h3, (common_ge _ _ _ (vec_len _) (vec_len _) (by omega)).1 h4⟩
  · rintro ⟨h1, h2, h3, h4⟩
    obtain ⟨g0, g1, _⟩ := (checkP_zero p).1 h1
    have := wd_le p.addr
    exact ⟨h1, h2, h3, (common_ge _ _ _ (vec_len _) (vec_len _) (by omega)).2 h4⟩
def asksB (m : SMatch) (w : UInt8) : Bool := decide (¬ m.asks &&& w = 0)
set_option maxRecDepth 100000 in
theorem asks_dec : ∀ w ∈ ([1, 2, 4, 8, 16, 32] : List UInt8), ∀ n : Fin 256, decide (UInt8.ofNat n.val / w % 2 = 1) = decide (¬ UInt8.ofNat n.val &&& w = 0) := by decide +kernel
theorem asks_eq (w x : UInt8) (h : w ∈ ([1, 2, 4, 8, 16, 32] : List UInt8)) : decide (x / w % 2 = 1) = decide (¬ x &&& w = 0) := by
  have := asks_dec w h ⟨x.toNat, x.toNat_lt⟩
  simpa only [UInt8.ofNat_toNat] using this
theorem rbit_ok (a : SAddr) (i : Int) (w : World) (h : 0 ≤ i ∧ i < 128) : Calls Tryz.prog 158 #[eAddr.val a, I i] w (RetV w (U8 (bitU a.b.toList i))) := by
  refine en0 15 Tryz.func158 ?_
  refine sg (cons (box (E := eAddr) (.t rfl) (fun b1 => ?_)))
  refine co (Ev.assign (.c (v := U8 0) rfl)) ?_
  refine nP (sg (mv rfl (co (Ev.quo_n (.t rfl) (.c (v := I 8) rfl) (fun _ => zo) (fun _ => zo) (fun _ => zo)) ?_)))
  refine co (fA 1 (.t rfl)) ?_
  refine co (Ev.indexAddrA Tryz.underlying43 ty5 (.t rfl) (.t rfl) (fun _ => zo)) ?_
  refine co (Ev.ldv ty5 (.t rfl) (Lens.comp SAddr.l_b (lArr (n := 16) u8E _ (by omega)))) ?_
  refine mv rfl (co (Ev.rem_n (.t rfl) (.c (v := I 8) rfl) (fun _ => zo) (fun _ => zo)) ?_)
  refine co (Ev.sub_i (.c (v := I 7) rfl) (.t rfl) (fun _ => zo)) ?_
  refine co (Ev.shr_u8 (.t rfl) (.t rfl) (fun _ => zo)) ?_
  refine co (Ev.and_u8 (.t rfl) (.c (v := U8 1) rfl)) ?_
  refine asn rfl (nP (ret (done rfl (.tmp rfl .nil) (retE ?_))))
  unfold bitU
  rw [vec_getD a.b _ (by omega)]
  rfl
theorem rmost_ok (v : Bool) (w : World) : Calls Tryz.prog 157 #[.bool v] w (RetV w (I (bif v then 128 else 32))) := by
  refine en0 4 Tryz.func157 ?_
  refine sg (co (Ev.assign (.c (v := I 0) rfl)) ?_)
  refine nP (seq (sg (mv rfl (nP ?_))))
  first | refine condD rfl (fun h0 => ?_) (fun h0 => ?_) | refine cond rfl (fun h0 => ?_) (fun h0 => ?_)
  · try simp only [Gx.nb] at h0
    refine sg (co (Ev.assign (.c (v := I 128) rfl)) ?_)
    refine nP (ret (pR (done rfl (.tmp rfl .nil) (retE ?_))))
    rw [h0]; rfl
  · try simp only [Gx.nb] at h0
    refine skip (pN (sg (co (Ev.assign (.c (v := I 32) rfl)) ?_)))
    refine nP (ret (done rfl (.tmp rfl .nil) (retE ?_)))
    rw [h0]; rfl
theorem en158 : Gx.Enters Tryz.prog 158 := Gx.Enters.mk' zk
theorem raddr_ok (a : SAddr) (w : World) : Calls Tryz.prog 156 #[eAddr.val a] w (RetV w (.bool (decide (checkA a = 0)))) := by
  refine en0 17 Tryz.func156 ?_
  refine sg (cons (box (E := eAddr) (.t rfl) (fun b1 => ?_)))
  refine co (Ev.assign (.c (v := .bool false) rfl)) ?_
  refine nP (seq (sg (co (Ev.assign (.c (v := I 32) rfl)) ?_)))
  refine nP (block (lp (X := Int) (fun x : Int => (32 ≤ x ∧ x ≤ 128) ∧ (∀ j : Int, 32 ≤ j → j < x → bitU a.b.toList j = 0) ∧ (32 < x → a.v6 = false)) (fun x : Int => [dz, (1, true, .pointer (some ⟨b1, 0, none⟩)), (3, true, I x)]) (fun x : Int => [Var b1 eAddr a 45]) (fun x : Int => (128 - x).toNat) (32) ⟨?_, ?_, ?_⟩ (fun x hx => ?_)))
  · omega
  · intro j h1 h2; omega
  · intro h; omega
  obtain ⟨i, rfl⟩ : ∃ y, y = x := ⟨x, rfl⟩
  obtain ⟨hi, hz, hv⟩ : (32 ≤ i ∧ i ≤ 128) ∧ (∀ j : Int, 32 ≤ j → j < i → bitU a.b.toList j = 0) ∧ (32 < i → a.v6 = false) := hx
  show Sat _ _ [dz, (1, true, .pointer (some ⟨b1, 0, none⟩)), (3, true, I i)] [Var b1 eAddr a 45]
  refine seq (sg (mv rfl (co (Ev.lss_i (.t rfl) (.c (v := I 128) rfl)) ?_)))
  refine mv rfl (cg rfl rfl (fA 0 (.t rfl)) ?_)
  refine cg rfl rfl (Ev.ldx a.v6 ty4 (.g rfl id) SAddr.l_v6) ?_
  refine cg rfl rfl (Ev.not (.g rfl id)) ?_
  refine co (Ev.pkA (.t rfl) rfl) ?_
  refine nP ?_
  first | refine condD rfl (fun hlt => ?_) (fun hge => ?_) | refine cond rfl (fun hlt => ?_) (fun hge => ?_)
  · try simp only [Gx.nb] at hlt
    refine skip (pN (seq (block (sg (co (Ev.ldx a ty45 (.t rfl) (Lens.id _)) ?_)))))
    refine mv rfl (cons (callv en158 (.cons (.t rfl) (.cons (.t rfl) .nil)) (fun w I => rbit_ok _ _ w (by omega)) ?_))
    refine co (Ev.neq_u8 (.t rfl) (.c (v := U8 0) rfl)) ?_
    refine nP ?_
    first | refine condD rfl (fun hne => ?_) (fun heq => ?_) | refine cond rfl (fun hne => ?_) (fun heq => ?_)
    · try simp only [Gx.nb] at hne
      refine sg (co (Ev.assign (.c (v := .bool false) rfl)) ?_)
      refine nP (ret (bR (pR (pR (bR (pR (done rfl (.tmp rfl .nil) (retE ?_))))))))
      refine bF (fun h => ?_)
      have h6 : a.v6 = false := by simpa using hlt.2
      exact hne ((checkA_zero a).1 h i (by simp [wd, h6]; omega) (by omega))
    · try simp only [Gx.nb] at heq
      have h1z : bitU a.b.toList i = 0 := by simpa using heq
      refine skip (bN (pN (region (mv rfl (co (Ev.add_i (.t rfl) (.c (v := I 1) rfl) (fun _ => zo)) ?_)))))
      refine asn rfl (nP (nx (X := Int) (i + 1) ⟨?_, ?_, ?_⟩ ?_))
      · try dsimp only
        omega
      · try dsimp only
        intro j h1 h2
        by_cases e : j = i
        · rw [e]; exact h1z
        · exact hz j h1 (by omega)
      · try dsimp only
        intro _; simpa using hlt.2
      · try dsimp only
        omega
  · try simp only [Gx.nb] at hge
    refine exit (pX (pX (bX (pN (sg (co (Ev.assign (.c (v := .bool true) rfl)) ?_))))))
    refine nP (ret (done rfl (.tmp rfl .nil) (retE ?_)))
    refine bT ((checkA_zero a).2 (fun j h1 h2 => ?_))
    by_cases h6 : a.v6 = true
    · simp [wd, h6] at h1; omega
    · have h6 : a.v6 = false := by simpa using h6
      have hi128 : i = 128 := by
        rcases hge with h | h
        · omega
        · simp [h6] at h
      exact hz j (by simp [wd, h6] at h1; omega) (by omega)
theorem en156 : Gx.Enters Tryz.prog 156 := Gx.Enters.mk' zk
theorem en157 : Gx.Enters Tryz.prog 157 := Gx.Enters.mk' zk
theorem rprefix_ok (p : SPrefix) (w : World) : Calls Tryz.prog 152 #[ePrefix.val p] w (RetV w (.bool (decide (checkP p = 0)))) := by
  have hw := wd_le p.addr
  refine en0 33 Tryz.func152 ?_
  refine sg (cons (box (E := ePrefix) (.t rfl) (fun b1 => ?_)))
  refine co (Ev.assign (.c (v := .bool false) rfl)) ?_
  refine nP (seq (seq (draw' zk ?_)))
  refine tk 0 rfl (fA 0 (.t rfl)) ?_
  refine tk 1 rfl (Ev.ldx p.addr ty45 (.t rfl) SPrefix.l_addr) ?_
  refine al1 2 rfl ((callv en156 (.cons (.t rfl) .nil) (fun w I => raddr_ok _ w) ?_))
  refine hdn (tk 3 rfl (Ev.not (.t rfl)) ?_)
  refine tk 4 rfl (Ev.move (.t rfl)) ?_
  refine tkg 5 rfl rfl rfl (fA 17 (.t rfl)) ?_
  refine tkg 6 rfl rfl rfl (Ev.ldx p.bits ty3 (.g rfl id) SPrefix.l_bits) ?_
  refine tkg 7 rfl rfl rfl (Ev.lss_i (.g rfl id) (.c (v := I 0) rfl)) ?_
  refine tk 8 rfl (Ev.pkO (.t rfl) rfl) ?_
  refine tk 9 rfl (Ev.move (.t rfl)) ?_
  refine tkg 10 rfl rfl rfl (fA 17 (.t rfl)) ?_
  refine tkg 11 rfl rfl rfl (Ev.ldx p.bits ty3 (.g rfl id) SPrefix.l_bits) ?_
  refine tkg 12 rfl rfl rfl (fA 0 (.t rfl)) ?_
  refine tkg 13 rfl rfl rfl (fA 0 (.g rfl id)) ?_
  refine tkg 14 rfl rfl rfl (Ev.ldx p.addr.v6 ty4 (.g rfl id) (Lens.comp SPrefix.l_addr SAddr.l_v6)) ?_
  refine al1 15 rfl ((callg rfl rfl en157 (.cons (.g rfl id) .nil) (fun hg w I => rmost_ok _ w) ?_))
  refine hdn (tkg 16 rfl rfl rfl (Ev.gtr_i (.g rfl id) (.g rfl id)) ?_)
  refine tk 17 rfl (Ev.pkO (.t rfl) rfl) ?_
  refine ovr (pN ?_)
  first | refine condD rfl (fun h0 => ?_) (fun h0 => ?_) | refine cond rfl (fun h0 => ?_) (fun h0 => ?_)
  · refine sg (co (Ev.assign (.c (v := .bool false) rfl)) ?_)
    refine nP (ret (pR (done rfl (.tmp rfl .nil) (retE ?_))))
    refine bF (fun h => ?_)
    obtain ⟨g0, g1, g2⟩ := (checkP_zero p).1 h
    have g3 := checkP_addr p h
    have g4 : p.bits ≤ (bif p.addr.v6 then 128 else 32) := g1
    simp [g3] at h0
    omega
  · have hr : 0 ≤ p.bits ∧ p.bits ≤ wd p.addr := by simp [and_assoc] at h0; exact ⟨h0.2.1, h0.2.2⟩
    refine skip (pN (seq (sg (co (fA 17 (.t rfl)) ?_))))
    refine co (Ev.ldx p.bits ty3 (.t rfl) SPrefix.l_bits) ?_
    refine asn rfl (nP (block (lp (X := Int) (fun x : Int => (p.bits ≤ x ∧ x ≤ 128) ∧ (∀ j : Int, p.bits ≤ j → j < x → bitU p.addr.b.toList j = 0)) (fun x : Int => [dz, (1, true, .pointer (some ⟨b1, 0, none⟩)), (3, true, I x)]) (fun x : Int => [Var b1 ePrefix p 109]) (fun x : Int => (128 - x).toNat) (p.bits) ⟨?_, ?_⟩ (fun x hx => ?_))))
    · omega
    · intro j h1 h2; omega
    obtain ⟨i, rfl⟩ : ∃ y, y = x := ⟨x, rfl⟩
    obtain ⟨hi, hz⟩ : (p.bits ≤ i ∧ i ≤ 128) ∧ (∀ j : Int, p.bits ≤ j → j < i → bitU p.addr.b.toList j = 0) := hx
    show Sat _ _ [dz, (1, true, .pointer (some ⟨b1, 0, none⟩)), (3, true, I i)] [Var b1 ePrefix p 109]
    refine seq (sg (mv rfl (co (Ev.lss_i (.t rfl) (.c (v := I 128) rfl)) ?_)))
    refine nP ?_
    first | refine condD rfl (fun hlt => ?_) (fun hge => ?_) | refine cond rfl (fun hlt => ?_) (fun hge => ?_)
    · try simp only [Gx.nb] at hlt
      refine skip (pN (seq (block (sg (co (fA 0 (.t rfl)) ?_)))))
      refine co (Ev.ldx p.addr ty45 (.t rfl) SPrefix.l_addr) ?_
      refine mv rfl (cons (callv en158 (.cons (.t rfl) (.cons (.t rfl) .nil)) (fun w I => rbit_ok _ _ w (by omega)) ?_))
      refine co (Ev.neq_u8 (.t rfl) (.c (v := U8 0) rfl)) ?_
      refine nP ?_
      first | refine condD rfl (fun hne => ?_) (fun heq => ?_) | refine cond rfl (fun hne => ?_) (fun heq => ?_)
      · try simp only [Gx.nb] at hne
        refine sg (co (Ev.assign (.c (v := .bool false) rfl)) ?_)
        refine nP (ret (bR (pR (pR (bR (pR (done rfl (.tmp rfl .nil) (retE ?_))))))))
        refine bF (fun h => ?_)
        exact hne (((checkP_zero p).1 h).2.2 i (by omega) (by omega))
      · try simp only [Gx.nb] at heq
        have h1z : bitU p.addr.b.toList i = 0 := by simpa using heq
        refine skip (bN (pN (region (mv rfl (co (Ev.add_i (.t rfl) (.c (v := I 1) rfl) (fun _ => zo)) ?_)))))
        refine asn rfl (nP (nx (X := Int) (i + 1) ⟨?_, ?_⟩ ?_))
        · try dsimp only
          omega
        · try dsimp only
          intro j h1 h2
          by_cases e : j = i
          · rw [e]; exact h1z
          · exact hz j h1 (by omega)
        · try dsimp only
          omega
    · try simp only [Gx.nb] at hge
      refine exit (pX (pX (bX (pN (sg (co (Ev.assign (.c (v := .bool true) rfl)) ?_))))))
      refine nP (ret (done rfl (.tmp rfl .nil) (retE ?_)))
      exact bT ((checkP_zero p).2 ⟨hr.1, hr.2, fun j h1 h2 => hz j h1 (by omega)⟩)
theorem rasks_ok (m : SMatch) (q : UInt8) (w : World) (h : q ∈ ([1, 2, 4, 8, 16, 32] : List UInt8)) : Calls Tryz.prog 151 #[eMatch.val m, U8 q] w (RetV w (.bool (asksB m q))) := by
  refine en0 11 Tryz.func151 ?_
  refine sg (cons (box (E := eMatch) (.t rfl) (fun b1 => ?_)))
  refine co (Ev.assign (.c (v := .bool false) rfl)) ?_
  refine nP (sg (co (fA 0 (.t rfl)) ?_))
  refine co (Ev.ldx m.asks ty5 (.t rfl) SMatch.l_asks) ?_
  refine mv rfl (co (Ev.quo_u8 (.t rfl) (.t rfl) (fun _ => by intro e; rw [e] at h; revert h; decide)) ?_)
  refine co (Ev.rem_u8 (.t rfl) (.c (v := U8 2) rfl) (fun _ => by decide)) ?_
  refine co (Ev.eql_u8 (.t rfl) (.c (v := U8 1) rfl)) ?_
  refine asn rfl (nP (ret (done rfl (.tmp rfl .nil) (retE ?_))))
  exact congrArg Value.bool (asks_eq q m.asks h)
theorem asks_ok (m : SMatch) (q : UInt8) (w : World) : Calls Tryz.prog 108 #[eMatch.val m, U8 q] w (RetV w (.bool (asksB m q))) := by
  refine en0 10 Tryz.func108 ?_
  refine sg (cons (box (E := eMatch) (.t rfl) (fun b1 => ?_)))
  refine co (Ev.assign (.c (v := .bool false) rfl)) ?_
  refine nP (sg (co (fA 0 (.t rfl)) ?_))
  refine co (Ev.ldx m.asks ty5 (.t rfl) SMatch.l_asks) ?_
  refine mv rfl (co (Ev.and_u8 (.t rfl) (.t rfl)) ?_)
  refine co (Ev.neq_u8 (.t rfl) (.c (v := U8 0) rfl)) ?_
  refine asn rfl (nP (ret (done rfl (.tmp rfl .nil) (retE ?_))))
  rfl
def portsB (p : UInt8) : Bool := decide (p = 6) || decide (p = 17)
def withinB (s : SSpan) (n : Int) : Bool := decide ((s.from_.toNat : Int) ≤ n) && decide (n ≤ (s.to_.toNat : Int))
theorem rports_ok (p : UInt8) (w : World) : Calls Tryz.prog 153 #[U8 p] w (RetV w (.bool (portsB p))) := by
  refine en0 9 Tryz.func153 ?_
  refine sg (co (Ev.assign (.c (v := .bool false) rfl)) ?_)
  refine nP (sg (mv rfl (co (Ev.eql_u8 (.t rfl) (.c (v := U8 6) rfl)) ?_)))
  refine mv rfl (cg rfl rfl (Ev.move (.t rfl)) ?_)
  refine cg rfl rfl (Ev.eql_u8 (.g rfl id) (.c (v := U8 17) rfl)) ?_
  refine co (Ev.pkO (.t rfl) rfl) ?_
  refine asn rfl (nP (ret (done rfl (.tmp rfl .nil) (retE ?_))))
  rfl
theorem within_ok (s : SSpan) (n : Int) (w : World) : Calls Tryz.prog 110 #[eSpan.val s, I n] w (RetV w (.bool (withinB s n))) := by
  refine en0 17 Tryz.func110 ?_
  refine sg (cons (box (E := eSpan) (.t rfl) (fun b1 => ?_)))
  refine co (Ev.assign (.c (v := .bool false) rfl)) ?_
  refine nP (sg (mv rfl (co (fA 0 (.t rfl)) ?_)))
  refine co (Ev.ldx s.from_ ty46 (.t rfl) SSpan.l_from_) ?_
  refine co (Ev.conv_u16_i Tryz.underlying3 Tryz.underlying46 (.t rfl)) ?_
  refine co (Ev.geq_i (.t rfl) (.t rfl)) ?_
  refine mv rfl (cg rfl rfl (Ev.move (.t rfl)) ?_)
  refine cg rfl rfl (fA 1 (.t rfl)) ?_
  refine cg rfl rfl (Ev.ldx s.to_ ty46 (.g rfl id) SSpan.l_to_) ?_
  refine cg rfl rfl (Ev.conv_u16_i Tryz.underlying3 Tryz.underlying46 (.g rfl id)) ?_
  refine cg rfl rfl (Ev.leq_i (.g rfl id) (.g rfl id)) ?_
  refine co (Ev.pkA (.t rfl) rfl) ?_
  refine asn rfl (nP (ret (done rfl (.tmp rfl .nil) (retE ?_))))
  rfl
theorem take_snoc {α : Type} (l : List α) (i : Int) (h0 : 0 ≤ i) (h1 : i < l.length) (z : α) : l.take (i + 1).toNat = l.take i.toNat ++ [l.getD i.toNat z] := by
  have e : (i + 1).toNat = i.toNat + 1 := by omega
  have h2 : i.toNat < l.length := by omega
  rw [e, List.take_succ_eq_append_getElem h2]
  simp [List.getD, h2]
def bad0 (m : SMatch) : Bool := decide (63 < m.asks) || (!asksB m 1 && !decide (m.in_ = eSpan.zero)) || (!asksB m 2 && !decide (m.src = ePrefix.zero)) || (!asksB m 4 && !decide (m.dst = ePrefix.zero)) || (!asksB m 8 && decide (¬ m.proto = 0)) || (!asksB m 16 && !decide (m.srcPort = eSpan.zero)) || (!asksB m 32 && !decide (m.dstPort = eSpan.zero))
def bad1 (m : SMatch) : Bool := decide (m.in_.to_ < m.in_.from_) || decide (255 < m.in_.to_) || decide (m.srcPort.to_ < m.srcPort.from_) || decide (m.dstPort.to_ < m.dstPort.from_)
def bad2 (m : SMatch) : Bool := (asksB m 2 && !decide (checkP m.src = 0)) || (asksB m 4 && !decide (checkP m.dst = 0)) || (asksB m 2 && asksB m 4 && decide (¬ m.src.addr.v6 = m.dst.addr.v6))
def good3 (m : SMatch) : Bool := (!asksB m 16 && !asksB m 32) || (asksB m 8 && portsB m.proto)
def okM (m : SMatch) : Bool := !bad0 m && !bad1 m && !bad2 m && good3 m
def ckM (m : SMatch) : Int := bif okM m then 0 else 190
theorem ckM_zero (m : SMatch) : decide (ckM m = 0) = okM m := by unfold ckM; cases okM m <;> rfl
def addF (c : Bool) (f h : UInt8) : UInt8 := bif c then h ||| f else h
theorem u8_or_zero (x y : UInt8) : x ||| y = 0 ↔ x = 0 ∧ y = 0 := by
  constructor
  · intro h
    have h1 := congrArg UInt8.toNat h
    rw [UInt8.toNat_or] at h1
    have h2 : UInt8.toNat 0 = 0 := rfl
    rw [h2] at h1
    have h3 : x.toNat ≤ x.toNat ||| y.toNat := Nat.left_le_or
    have h4 : y.toNat ≤ x.toNat ||| y.toNat := Nat.right_le_or
    exact ⟨UInt8.toNat_inj.1 (by rw [h2]; omega), UInt8.toNat_inj.1 (by rw [h2]; omega)⟩
  · rintro ⟨rfl, rfl⟩
    rfl
theorem addF_and (c : Bool) (f h a : UInt8) : addF c f h &&& a = 0 ↔ (c = true → f &&& a = 0) ∧ h &&& a = 0 := by
  unfold addF
  cases c
  · simp
  · simp only [cond_true, forall_const]
    have e : (h ||| f) &&& a = h &&& a ||| f &&& a := by
      apply UInt8.toNat_inj.1
      simp only [UInt8.toNat_and, UInt8.toNat_or, Nat.and_or_distrib_right]
    rw [e, u8_or_zero]
    exact and_comm
set_option maxRecDepth 100000 in
theorem not_dec : ∀ w ∈ ([1, 2, 4, 8, 16, 32] : List UInt8), ∀ n : Fin 256, (w &&& ~~~ (UInt8.ofNat n.val) = 0) = (¬ UInt8.ofNat n.val &&& w = 0) := by
  intro w hw n
  have h : ∀ w ∈ ([1, 2, 4, 8, 16, 32] : List UInt8), ∀ n : Fin 256, decide (w &&& ~~~ (UInt8.ofNat n.val) = 0) = decide (¬ UInt8.ofNat n.val &&& w = 0) := by decide +kernel
  have := h w hw n
  rw [Bool.eq_iff_iff, decide_eq_true_iff, decide_eq_true_iff] at this
  exact propext this
theorem not_asks (m : SMatch) (w : UInt8) (h : w ∈ ([1, 2, 4, 8, 16, 32] : List UInt8)) : (w &&& ~~~ m.asks = 0) ↔ asksB m w = true := by
  have := not_dec w h ⟨m.asks.toNat, m.asks.toNat_lt⟩
  simp only [UInt8.ofNat_toNat] at this
  unfold asksB
  rw [this, decide_eq_true_iff]
set_option maxRecDepth 100000 in
theorem big_dec : ∀ n : Fin 256, decide (¬ UInt8.ofNat n.val &&& ~~~ 63 = 0) = decide (63 < UInt8.ofNat n.val) := by decide +kernel
theorem big_asks (x : UInt8) : decide (¬ x &&& ~~~ 63 = 0) = decide (63 < x) := by
  have := big_dec ⟨x.toNat, x.toNat_lt⟩
  simpa only [UInt8.ofNat_toNat] using this
set_option maxRecDepth 100000 in
theorem p48_dec : ∀ n : Fin 256, decide (¬ UInt8.ofNat n.val &&& 48 = 0) = (decide (¬ UInt8.ofNat n.val &&& 16 = 0) || decide (¬ UInt8.ofNat n.val &&& 32 = 0)) := by decide +kernel
theorem asks48 (m : SMatch) : asksB m 48 = (asksB m 16 || asksB m 32) := by
  have := p48_dec ⟨m.asks.toNat, m.asks.toNat_lt⟩
  unfold asksB
  simpa only [UInt8.ofNat_toNat] using this
theorem addF_dec (c : Bool) (f h : UInt8) (m : SMatch) (hf : f ∈ ([1, 2, 4, 8, 16, 32] : List UInt8)) : decide (¬ addF c f h &&& ~~~ m.asks = 0) = ((!asksB m f && c) || decide (¬ h &&& ~~~ m.asks = 0)) := by
  have h1 := addF_and c f h (~~~ m.asks)
  have h2 := not_asks m f hf
  rw [Bool.eq_iff_iff]
  rw [h2] at h1
  cases c <;> cases hq : asksB m f <;> rw [hq] at h1 <;> simp [h1]
theorem good3_of (m : SMatch) (h : asksB m 16 = true ∨ asksB m 32 = true → ¬m.proto = 6 → m.proto = 17) (hp : asksB m 8 = false → m.proto = 0) : good3 m = true := by
  unfold good3 portsB
  by_cases p6 : m.proto = 6 <;> by_cases p17 : m.proto = 17 <;> cases h16 : asksB m 16 <;> cases h32 : asksB m 32 <;> cases h8 : asksB m 8 <;> simp_all
theorem has_bad (m : SMatch) (c1 c2 c3 c4 c5 c6 : Bool) : (decide (¬ m.asks &&& ~~~ 63 = 0) || decide (¬ addF c6 32 (addF c5 16 (addF c4 8 (addF c3 4 (addF c2 2 (addF c1 1 0))))) &&& ~~~ m.asks = 0)) =
    (decide (63 < m.asks) || (!asksB m 1 && c1) || (!asksB m 2 && c2) || (!asksB m 4 && c3) || (!asksB m 8 && c4) || (!asksB m 16 && c5) || (!asksB m 32 && c6)) := by
  rw [big_asks, addF_dec _ _ _ _ (by decide), addF_dec _ _ _ _ (by decide), addF_dec _ _ _ _ (by decide), addF_dec _ _ _ _ (by decide), addF_dec _ _ _ _ (by decide), addF_dec _ _ _ _ (by decide)]
  have e : decide (¬ (0 : UInt8) &&& ~~~ m.asks = 0) = false := by simp
  rw [e]
  ac_rfl
theorem z107 : (Tryz.prog.info? 107).bind (·.zero) = some (eSpan.val eSpan.zero) := by kernel_rfl
theorem en151 : Gx.Enters Tryz.prog 151 := Gx.Enters.mk' zk
theorem en152 : Gx.Enters Tryz.prog 152 := Gx.Enters.mk' zk
theorem en153 : Gx.Enters Tryz.prog 153 := Gx.Enters.mk' zk
set_option maxRecDepth 8000 in
theorem rcheck_ok (m : SMatch) (w : World) : Calls Tryz.prog 126 #[eMatch.val m] w (RetV w (.bool (okM m))) := by
  refine en0 163 Tryz.func126 ?_
  refine sg (cons (box (E := eMatch) (.t rfl) (fun b1 => ?_)))
  refine co (Ev.assign (.c (v := .bool false) rfl)) ?_
  refine nP (sg (co (Ev.buildS (fs := _) (places := [(0, 1), (1, 1)]) z107 rfl Tryz.underlying107 zk .nil Fills.nil) ?_))
  refine cons (alloc z107 (fun b2 => ?_))
  refine cons (stv ty107 (Lens.id _) (.t rfl) (.t rfl) ?_)
  refine nP (seq (draw' zk ?_))
  refine tk 0 rfl (Ev.ldx m ty111 (.t rfl) (Lens.id _)) ?_
  refine tk 2 rfl (Ev.ldx m ty111 (.t rfl) (Lens.id _)) ?_
  refine tk 4 rfl (Ev.ldx m ty111 (.t rfl) (Lens.id _)) ?_
  refine tk 6 rfl (Ev.ldx m ty111 (.t rfl) (Lens.id _)) ?_
  refine tk 8 rfl (Ev.ldx m ty111 (.t rfl) (Lens.id _)) ?_
  refine tk 10 rfl (Ev.ldx m ty111 (.t rfl) (Lens.id _)) ?_
  refine al1 1 rfl ((callv en151 (.cons (.t rfl) (.cons (.c (v := U8 1) rfl) .nil)) (fun w I => rasks_ok _ _ w (by decide)) ?_))
  refine hdn (al1 3 rfl ((callv en151 (.cons (.t rfl) (.cons (.c (v := U8 2) rfl) .nil)) (fun w I => rasks_ok _ _ w (by decide)) ?_)))
  refine hdn (al1 5 rfl ((callv en151 (.cons (.t rfl) (.cons (.c (v := U8 4) rfl) .nil)) (fun w I => rasks_ok _ _ w (by decide)) ?_)))
  refine hdn (al1 7 rfl ((callv en151 (.cons (.t rfl) (.cons (.c (v := U8 8) rfl) .nil)) (fun w I => rasks_ok _ _ w (by decide)) ?_)))
  refine hdn (al1 9 rfl ((callv en151 (.cons (.t rfl) (.cons (.c (v := U8 16) rfl) .nil)) (fun w I => rasks_ok _ _ w (by decide)) ?_)))
  refine hdn (al1 11 rfl ((callv en151 (.cons (.t rfl) (.cons (.c (v := U8 32) rfl) .nil)) (fun w I => rasks_ok _ _ w (by decide)) ?_)))
  refine hdn (tk 12 rfl (Ev.assign (.t rfl)) ?_)
  refine tk 13 rfl (Ev.assign (.t rfl)) ?_
  refine tk 14 rfl (Ev.assign (.t rfl)) ?_
  refine tk 15 rfl (Ev.assign (.t rfl)) ?_
  refine tk 16 rfl (Ev.assign (.t rfl)) ?_
  refine tk 17 rfl (Ev.assign (.t rfl)) ?_
  refine ovr (pN (seq (sg (co (fA 0 (.t rfl)) ?_))))
  refine co (Ev.ldx m.asks ty5 (.t rfl) SMatch.l_asks) ?_
  refine co (Ev.gtr_u8 (.t rfl) (.c (v := U8 63) rfl)) ?_
  refine mv rfl (cg rfl rfl (Ev.move (.t rfl)) ?_)
  refine cg rfl rfl (Ev.not (.g rfl id)) ?_
  refine cg rfl rfl (Ev.move (.g rfl id)) ?_
  refine cg rfl rfl (fA 1 (.t rfl)) ?_
  refine cg rfl rfl (Ev.ldx m.in_ ty107 (.g rfl id) SMatch.l_in_) ?_
  refine cg rfl rfl (Ev.ldv ty107 (.t rfl) (Lens.id _)) ?_
  refine cg rfl rfl (Ev.neqS rfl eqok107 rfl zk (.g rfl id) (.g rfl id)) ?_
  refine cg rfl rfl (Ev.pkA (.g rfl id) rfl) ?_
  refine co (Ev.pkO (.t rfl) rfl) ?_
  refine mv rfl (cg rfl rfl (Ev.move (.t rfl)) ?_)
  refine cg rfl rfl (Ev.not (.g rfl id)) ?_
  refine cg rfl rfl (Ev.move (.g rfl id)) ?_
  refine cg rfl rfl (fA 3 (.t rfl)) ?_
  refine cg rfl rfl (Ev.ldx m.src ty109 (.g rfl id) SMatch.l_src) ?_
  refine cg rfl rfl (Ev.buildS (fs := _) (places := [(0, 17), (17, 1)]) z109 rfl Tryz.underlying109 zk .nil Fills.nil) ?_
  refine cg rfl rfl (Ev.neqS rfl eqok109 rfl zk (.g rfl id) (.g rfl id)) ?_
  refine cg rfl rfl (Ev.pkA (.g rfl id) rfl) ?_
  refine co (Ev.pkO (.t rfl) rfl) ?_
  refine mv rfl (cg rfl rfl (Ev.move (.t rfl)) ?_)
  refine cg rfl rfl (Ev.not (.g rfl id)) ?_
  refine cg rfl rfl (Ev.move (.g rfl id)) ?_
  refine cg rfl rfl (fA 21 (.t rfl)) ?_
  refine cg rfl rfl (Ev.ldx m.dst ty109 (.g rfl id) SMatch.l_dst) ?_
  refine cg rfl rfl (Ev.buildS (fs := _) (places := [(0, 17), (17, 1)]) z109 rfl Tryz.underlying109 zk .nil Fills.nil) ?_
  refine cg rfl rfl (Ev.neqS rfl eqok109 rfl zk (.g rfl id) (.g rfl id)) ?_
  refine cg rfl rfl (Ev.pkA (.g rfl id) rfl) ?_
  refine co (Ev.pkO (.t rfl) rfl) ?_
  refine mv rfl (cg rfl rfl (Ev.move (.t rfl)) ?_)
  refine cg rfl rfl (Ev.not (.g rfl id)) ?_
  refine cg rfl rfl (Ev.move (.g rfl id)) ?_
  refine cg rfl rfl (fA 39 (.t rfl)) ?_
  refine cg rfl rfl (Ev.ldx m.proto ty5 (.g rfl id) SMatch.l_proto) ?_
  refine cg rfl rfl (Ev.neq_u8 (.g rfl id) (.c (v := U8 0) rfl)) ?_
  refine cg rfl rfl (Ev.pkA (.g rfl id) rfl) ?_
  refine co (Ev.pkO (.t rfl) rfl) ?_
  refine mv rfl (cg rfl rfl (Ev.move (.t rfl)) ?_)
  refine cg rfl rfl (Ev.not (.g rfl id)) ?_
  refine cg rfl rfl (Ev.move (.g rfl id)) ?_
  refine cg rfl rfl (fA 40 (.t rfl)) ?_
  refine cg rfl rfl (Ev.ldx m.srcPort ty107 (.g rfl id) SMatch.l_srcPort) ?_
  refine cg rfl rfl (Ev.ldv ty107 (.t rfl) (Lens.id _)) ?_
  refine cg rfl rfl (Ev.neqS rfl eqok107 rfl zk (.g rfl id) (.g rfl id)) ?_
  refine cg rfl rfl (Ev.pkA (.g rfl id) rfl) ?_
  refine co (Ev.pkO (.t rfl) rfl) ?_
  refine mv rfl (cg rfl rfl (Ev.move (.t rfl)) ?_)
  refine cg rfl rfl (Ev.not (.g rfl id)) ?_
  refine cg rfl rfl (Ev.move (.g rfl id)) ?_
  refine cg rfl rfl (fA 42 (.t rfl)) ?_
  refine cg rfl rfl (Ev.ldx m.dstPort ty107 (.g rfl id) SMatch.l_dstPort) ?_
  refine cg rfl rfl (Ev.ldv ty107 (.t rfl) (Lens.id _)) ?_
  refine cg rfl rfl (Ev.neqS rfl eqok107 rfl zk (.g rfl id) (.g rfl id)) ?_
  refine cg rfl rfl (Ev.pkA (.g rfl id) rfl) ?_
  refine co (Ev.pkO (.t rfl) rfl) ?_
  refine nP ?_
  first | refine condD rfl (fun h0 => ?_) (fun h0 => ?_) | refine cond rfl (fun h0 => ?_) (fun h0 => ?_)
  · refine sg (co (Ev.assign (.c (v := .bool false) rfl)) ?_)
    refine nP (ret (pR (done rfl (.tmp rfl .nil) (retE ?_))))
    have hb : bad0 m = true := by simpa [bad0, Bool.or_assoc] using h0
    unfold okM; rw [hb]; rfl
  · refine skip (pN (seq (sg (co (fA 1 (.t rfl)) ?_))))
    refine co (fA 0 (.t rfl)) ?_
    refine co (Ev.ldx m.in_.from_ ty46 (.t rfl) (Lens.comp SMatch.l_in_ SSpan.l_from_)) ?_
    refine co (fA 1 (.t rfl)) ?_
    refine co (fA 1 (.t rfl)) ?_
    refine co (Ev.ldx m.in_.to_ ty46 (.t rfl) (Lens.comp SMatch.l_in_ SSpan.l_to_)) ?_
    refine co (Ev.gtr_u16 (.t rfl) (.t rfl)) ?_
    refine mv rfl (cg rfl rfl (fA 1 (.t rfl)) ?_)
    refine cg rfl rfl (fA 1 (.g rfl id)) ?_
    refine cg rfl rfl (Ev.ldx m.in_.to_ ty46 (.g rfl id) (Lens.comp SMatch.l_in_ SSpan.l_to_)) ?_
    refine cg rfl rfl (Ev.gtr_u16 (.g rfl id) (.c (v := U16 255) rfl)) ?_
    refine co (Ev.pkO (.t rfl) rfl) ?_
    refine mv rfl (cg rfl rfl (fA 40 (.t rfl)) ?_)
    refine cg rfl rfl (fA 0 (.g rfl id)) ?_
    refine cg rfl rfl (Ev.ldx m.srcPort.from_ ty46 (.g rfl id) (Lens.comp SMatch.l_srcPort SSpan.l_from_)) ?_
    refine cg rfl rfl (fA 40 (.t rfl)) ?_
    refine cg rfl rfl (fA 1 (.g rfl id)) ?_
    refine cg rfl rfl (Ev.ldx m.srcPort.to_ ty46 (.g rfl id) (Lens.comp SMatch.l_srcPort SSpan.l_to_)) ?_
    refine cg rfl rfl (Ev.gtr_u16 (.g rfl id) (.g rfl id)) ?_
    refine co (Ev.pkO (.t rfl) rfl) ?_
    refine mv rfl (cg rfl rfl (fA 42 (.t rfl)) ?_)
    refine cg rfl rfl (fA 0 (.g rfl id)) ?_
    refine cg rfl rfl (Ev.ldx m.dstPort.from_ ty46 (.g rfl id) (Lens.comp SMatch.l_dstPort SSpan.l_from_)) ?_
    refine cg rfl rfl (fA 42 (.t rfl)) ?_
    refine cg rfl rfl (fA 1 (.g rfl id)) ?_
    refine cg rfl rfl (Ev.ldx m.dstPort.to_ ty46 (.g rfl id) (Lens.comp SMatch.l_dstPort SSpan.l_to_)) ?_
    refine cg rfl rfl (Ev.gtr_u16 (.g rfl id) (.g rfl id)) ?_
    refine co (Ev.pkO (.t rfl) rfl) ?_
    refine nP ?_
    first | refine condD rfl (fun h1 => ?_) (fun h1 => ?_) | refine cond rfl (fun h1 => ?_) (fun h1 => ?_)
    · refine sg (co (Ev.assign (.c (v := .bool false) rfl)) ?_)
      refine nP (ret (pR (done rfl (.tmp rfl .nil) (retE ?_))))
      have hb : bad1 m = true := by simpa [bad1, or_assoc] using h1
      unfold okM; rw [hb]; simp [tupV]
    · refine skip (pN (seq (sg (mv rfl (mv rfl (cg rfl rfl (fA 3 (.t rfl)) ?_))))))
      refine cg rfl rfl (Ev.ldx m.src ty109 (.g rfl id) SMatch.l_src) ?_
      refine cons (callg rfl rfl en152 (.cons (.g rfl id) .nil) (fun hg w I => rprefix_ok _ w) ?_)
      refine cg rfl rfl (Ev.not (.g rfl id)) ?_
      refine co (Ev.pkA (.t rfl) rfl) ?_
      refine mv rfl (cg rfl rfl (Ev.move (.t rfl)) ?_)
      refine cg rfl rfl (Ev.move (.g rfl id)) ?_
      refine cg rfl rfl (fA 21 (.t rfl)) ?_
      refine cg rfl rfl (Ev.ldx m.dst ty109 (.g rfl id) SMatch.l_dst) ?_
      refine cons (callg rfl rfl en152 (.cons (.g rfl id) .nil) (fun hg w I => rprefix_ok _ w) ?_)
      refine cg rfl rfl (Ev.not (.g rfl id)) ?_
      refine cg rfl rfl (Ev.pkA (.g rfl id) rfl) ?_
      refine co (Ev.pkO (.t rfl) rfl) ?_
      refine mv rfl (cg rfl rfl (Ev.move (.t rfl)) ?_)
      refine cg rfl rfl (Ev.move (.g rfl id)) ?_
      refine cg rfl rfl (Ev.move (.t rfl)) ?_
      refine cg rfl rfl (Ev.pkA (.g rfl id) rfl) ?_
      refine cg rfl rfl (Ev.move (.g rfl id)) ?_
      refine cg rfl rfl (fA 3 (.t rfl)) ?_
      refine cg rfl rfl (fA 0 (.g rfl id)) ?_
      refine cg rfl rfl (fA 0 (.g rfl id)) ?_
      refine cg rfl rfl (Ev.ldx m.src.addr.v6 ty4 (.g rfl id) (Lens.comp (Lens.comp SMatch.l_src SPrefix.l_addr) SAddr.l_v6)) ?_
      refine cg rfl rfl (fA 21 (.t rfl)) ?_
      refine cg rfl rfl (fA 0 (.g rfl id)) ?_
      refine cg rfl rfl (fA 0 (.g rfl id)) ?_
      refine cg rfl rfl (Ev.ldx m.dst.addr.v6 ty4 (.g rfl id) (Lens.comp (Lens.comp SMatch.l_dst SPrefix.l_addr) SAddr.l_v6)) ?_
      refine cg rfl rfl (Ev.neq_b Tryz.underlying4 (.g rfl id) (.g rfl id)) ?_
      refine cg rfl rfl (Ev.pkA (.g rfl id) rfl) ?_
      refine co (Ev.pkO (.t rfl) rfl) ?_
      refine nP ?_
      first | refine condD rfl (fun h2 => ?_) (fun h2 => ?_) | refine cond rfl (fun h2 => ?_) (fun h2 => ?_)
      · refine sg (co (Ev.assign (.c (v := .bool false) rfl)) ?_)
        refine nP (ret (pR (done rfl (.tmp rfl .nil) (retE ?_))))
        have hb : bad2 m = true := by simpa [bad2, or_assoc, and_assoc] using h2
        unfold okM; rw [hb]; simp [tupV]
      · refine skip (pN (sg (mv rfl (co (Ev.not (.t rfl)) ?_))))
        refine mv rfl (cg rfl rfl (Ev.move (.t rfl)) ?_)
        refine cg rfl rfl (Ev.not (.g rfl id)) ?_
        refine co (Ev.pkA (.t rfl) rfl) ?_
        refine mv rfl (cg rfl rfl (Ev.move (.t rfl)) ?_)
        refine cg rfl rfl (Ev.move (.g rfl id)) ?_
        refine cg rfl rfl (fA 39 (.t rfl)) ?_
        refine cg rfl rfl (Ev.ldx m.proto ty5 (.g rfl id) SMatch.l_proto) ?_
        refine cons (callg rfl rfl en153 (.cons (.g rfl id) .nil) (fun hg w I => rports_ok _ w) ?_)
        refine cg rfl rfl (Ev.pkA (.g rfl id) rfl) ?_
        refine co (Ev.pkO (.t rfl) rfl) ?_
        refine asn rfl (nP (ret (done rfl (.tmp rfl .nil) (retE ?_))))
        have b0 : bad0 m = false := by unfold bad0; simpa using h0
        have b1 : bad1 m = false := h1
        have b2 : bad2 m = false := h2
        unfold okM; rw [b0, b1, b2]; simp [good3, tupV]
theorem en108 : Gx.Enters Tryz.prog 108 := Gx.Enters.mk' zk
set_option maxRecDepth 8000 in
theorem check_ok (m : SMatch) (w : World) : Calls Tryz.prog 74 #[eMatch.val m] w (RetV w (I (ckM m))) := by
  refine en0 136 Tryz.func74 ?_
  refine sg (cons (box (E := eMatch) (.t rfl) (fun b1 => ?_)))
  refine co (Ev.assign (.c (v := I 0) rfl)) ?_
  refine nP (sg (co (Ev.assign (.c (v := U8 0) rfl)) ?_))
  refine nP (cut (X := UInt8) (fun x : UInt8 => (x = addF (!decide (m.in_ = eSpan.zero)) 1 0)) (fun x : UInt8 => [dz, (1, true, .pointer (some ⟨b1, 0, none⟩)), (3, true, U8 x)]) (fun x : UInt8 => [Var b1 eMatch m 111]) ?_ (fun x hx => ?_))
  · refine sg (co (fA 1 (.t rfl)) ?_)
    refine co (Ev.ldx m.in_ ty107 (.t rfl) SMatch.l_in_) ?_
    refine co (Ev.buildS (fs := _) (places := [(0, 1), (1, 1)]) z107 rfl Tryz.underlying107 zk .nil Fills.nil) ?_
    refine co (Ev.neqS rfl eqok107 rfl zk (.t rfl) (.t rfl)) ?_
    refine nP ?_
    first | refine condD rfl (fun h0 => ?_) (fun h0 => ?_) | refine cond rfl (fun h0 => ?_) (fun h0 => ?_)
    · refine region (mv rfl (co (Ev.or_u8 (.t rfl) (.c (v := U8 1) rfl)) ?_))
      refine asn rfl (nP (mt (X := UInt8) (_) ?_))
      · try dsimp only
        all_goals (unfold addF; first | (simp_all; done) | rfl)
    · refine skip (pN (mt (X := UInt8) (_) ?_))
      · try dsimp only
        all_goals (unfold addF; first | (simp_all; done) | rfl)
  obtain ⟨k1, rfl⟩ : ∃ y, y = x := ⟨x, rfl⟩
  have hk1 : k1 = addF (!decide (m.in_ = eSpan.zero)) 1 0 := hx
  clear hx
  show Sat _ _ [dz, (1, true, .pointer (some ⟨b1, 0, none⟩)), (3, true, U8 k1)] [Var b1 eMatch m 111]
  refine cut (X := UInt8) (fun x : UInt8 => (x = addF (!decide (m.src = ePrefix.zero)) 2 k1)) (fun x : UInt8 => [dz, (1, true, .pointer (some ⟨b1, 0, none⟩)), (3, true, U8 x)]) (fun x : UInt8 => [Var b1 eMatch m 111]) ?_ (fun x hx => ?_)
  · refine sg (co (fA 3 (.t rfl)) ?_)
    refine co (Ev.ldx m.src ty109 (.t rfl) SMatch.l_src) ?_
    refine co (Ev.buildS (fs := _) (places := [(0, 17), (17, 1)]) z109 rfl Tryz.underlying109 zk .nil Fills.nil) ?_
    refine co (Ev.neqS rfl eqok109 rfl zk (.t rfl) (.t rfl)) ?_
    refine nP ?_
    first | refine condD rfl (fun h1 => ?_) (fun h1 => ?_) | refine cond rfl (fun h1 => ?_) (fun h1 => ?_)
    · refine region (mv rfl (co (Ev.or_u8 (.t rfl) (.c (v := U8 2) rfl)) ?_))
      refine asn rfl (nP (mt (X := UInt8) (_) ?_))
      · try dsimp only
        all_goals (unfold addF; first | (simp_all; done) | rfl)
    · refine skip (pN (mt (X := UInt8) (_) ?_))
      · try dsimp only
        all_goals (unfold addF; first | (simp_all; done) | rfl)
  obtain ⟨k2, rfl⟩ : ∃ y, y = x := ⟨x, rfl⟩
  have hk2 : k2 = addF (!decide (m.src = ePrefix.zero)) 2 k1 := hx
  clear hx
  show Sat _ _ [dz, (1, true, .pointer (some ⟨b1, 0, none⟩)), (3, true, U8 k2)] [Var b1 eMatch m 111]
  refine cut (X := UInt8) (fun x : UInt8 => (x = addF (!decide (m.dst = ePrefix.zero)) 4 k2)) (fun x : UInt8 => [dz, (1, true, .pointer (some ⟨b1, 0, none⟩)), (3, true, U8 x)]) (fun x : UInt8 => [Var b1 eMatch m 111]) ?_ (fun x hx => ?_)
  · refine sg (co (fA 21 (.t rfl)) ?_)
    refine co (Ev.ldx m.dst ty109 (.t rfl) SMatch.l_dst) ?_
    refine co (Ev.buildS (fs := _) (places := [(0, 17), (17, 1)]) z109 rfl Tryz.underlying109 zk .nil Fills.nil) ?_
    refine co (Ev.neqS rfl eqok109 rfl zk (.t rfl) (.t rfl)) ?_
    refine nP ?_
    first | refine condD rfl (fun h2 => ?_) (fun h2 => ?_) | refine cond rfl (fun h2 => ?_) (fun h2 => ?_)
    · refine region (mv rfl (co (Ev.or_u8 (.t rfl) (.c (v := U8 4) rfl)) ?_))
      refine asn rfl (nP (mt (X := UInt8) (_) ?_))
      · try dsimp only
        all_goals (unfold addF; first | (simp_all; done) | rfl)
    · refine skip (pN (mt (X := UInt8) (_) ?_))
      · try dsimp only
        all_goals (unfold addF; first | (simp_all; done) | rfl)
  obtain ⟨k3, rfl⟩ : ∃ y, y = x := ⟨x, rfl⟩
  have hk3 : k3 = addF (!decide (m.dst = ePrefix.zero)) 4 k2 := hx
  clear hx
  show Sat _ _ [dz, (1, true, .pointer (some ⟨b1, 0, none⟩)), (3, true, U8 k3)] [Var b1 eMatch m 111]
  refine cut (X := UInt8) (fun x : UInt8 => (x = addF (decide (¬ m.proto = 0)) 8 k3)) (fun x : UInt8 => [dz, (1, true, .pointer (some ⟨b1, 0, none⟩)), (3, true, U8 x)]) (fun x : UInt8 => [Var b1 eMatch m 111]) ?_ (fun x hx => ?_)
  · refine sg (co (fA 39 (.t rfl)) ?_)
    refine co (Ev.ldx m.proto ty5 (.t rfl) SMatch.l_proto) ?_
    refine co (Ev.neq_u8 (.t rfl) (.c (v := U8 0) rfl)) ?_
    refine nP ?_
    first | refine condD rfl (fun h3 => ?_) (fun h3 => ?_) | refine cond rfl (fun h3 => ?_) (fun h3 => ?_)
    · refine region (mv rfl (co (Ev.or_u8 (.t rfl) (.c (v := U8 8) rfl)) ?_))
      refine asn rfl (nP (mt (X := UInt8) (_) ?_))
      · try dsimp only
        all_goals (unfold addF; first | (simp_all; done) | rfl)
    · refine skip (pN (mt (X := UInt8) (_) ?_))
      · try dsimp only
        all_goals (unfold addF; first | (simp_all; done) | rfl)
  obtain ⟨k4, rfl⟩ : ∃ y, y = x := ⟨x, rfl⟩
  have hk4 : k4 = addF (decide (¬ m.proto = 0)) 8 k3 := hx
  clear hx
  show Sat _ _ [dz, (1, true, .pointer (some ⟨b1, 0, none⟩)), (3, true, U8 k4)] [Var b1 eMatch m 111]
  refine cut (X := UInt8) (fun x : UInt8 => (x = addF (!decide (m.srcPort = eSpan.zero)) 16 k4)) (fun x : UInt8 => [dz, (1, true, .pointer (some ⟨b1, 0, none⟩)), (3, true, U8 x)]) (fun x : UInt8 => [Var b1 eMatch m 111]) ?_ (fun x hx => ?_)
  · refine sg (co (fA 40 (.t rfl)) ?_)
    refine co (Ev.ldx m.srcPort ty107 (.t rfl) SMatch.l_srcPort) ?_
    refine co (Ev.buildS (fs := _) (places := [(0, 1), (1, 1)]) z107 rfl Tryz.underlying107 zk .nil Fills.nil) ?_
    refine co (Ev.neqS rfl eqok107 rfl zk (.t rfl) (.t rfl)) ?_
    refine nP ?_
    first | refine condD rfl (fun h4 => ?_) (fun h4 => ?_) | refine cond rfl (fun h4 => ?_) (fun h4 => ?_)
    · refine region (mv rfl (co (Ev.or_u8 (.t rfl) (.c (v := U8 16) rfl)) ?_))
      refine asn rfl (nP (mt (X := UInt8) (_) ?_))
      · try dsimp only
        all_goals (unfold addF; first | (simp_all; done) | rfl)
    · refine skip (pN (mt (X := UInt8) (_) ?_))
      · try dsimp only
        all_goals (unfold addF; first | (simp_all; done) | rfl)
  obtain ⟨k5, rfl⟩ : ∃ y, y = x := ⟨x, rfl⟩
  have hk5 : k5 = addF (!decide (m.srcPort = eSpan.zero)) 16 k4 := hx
  clear hx
  show Sat _ _ [dz, (1, true, .pointer (some ⟨b1, 0, none⟩)), (3, true, U8 k5)] [Var b1 eMatch m 111]
  refine cut (X := UInt8) (fun x : UInt8 => (x = addF (!decide (m.dstPort = eSpan.zero)) 32 k5)) (fun x : UInt8 => [dz, (1, true, .pointer (some ⟨b1, 0, none⟩)), (3, true, U8 x)]) (fun x : UInt8 => [Var b1 eMatch m 111]) ?_ (fun x hx => ?_)
  · refine sg (co (fA 42 (.t rfl)) ?_)
    refine co (Ev.ldx m.dstPort ty107 (.t rfl) SMatch.l_dstPort) ?_
    refine co (Ev.buildS (fs := _) (places := [(0, 1), (1, 1)]) z107 rfl Tryz.underlying107 zk .nil Fills.nil) ?_
    refine co (Ev.neqS rfl eqok107 rfl zk (.t rfl) (.t rfl)) ?_
    refine nP ?_
    first | refine condD rfl (fun h5 => ?_) (fun h5 => ?_) | refine cond rfl (fun h5 => ?_) (fun h5 => ?_)
    · refine region (mv rfl (co (Ev.or_u8 (.t rfl) (.c (v := U8 32) rfl)) ?_))
      refine asn rfl (nP (mt (X := UInt8) (_) ?_))
      · try dsimp only
        all_goals (unfold addF; first | (simp_all; done) | rfl)
    · refine skip (pN (mt (X := UInt8) (_) ?_))
      · try dsimp only
        all_goals (unfold addF; first | (simp_all; done) | rfl)
  obtain ⟨k6, rfl⟩ : ∃ y, y = x := ⟨x, rfl⟩
  have hk6 : k6 = addF (!decide (m.dstPort = eSpan.zero)) 32 k5 := hx
  clear hx
  show Sat _ _ [dz, (1, true, .pointer (some ⟨b1, 0, none⟩)), (3, true, U8 k6)] [Var b1 eMatch m 111]
  refine sg (mv rfl (co (fA 0 (.t rfl)) ?_))
  refine co (Ev.ldx m.asks ty5 (.t rfl) SMatch.l_asks) ?_
  refine co (Ev.andNot_u8 (.t rfl) (.t rfl)) ?_
  refine asn rfl (nP (sg (co (Ev.ldx m ty111 (.t rfl) (Lens.id _)) ?_)))
  refine cons (callv en108 (.cons (.t rfl) (.cons (.c (v := U8 48) rfl) .nil)) (fun w I => asks_ok _ _ w) ?_)
  refine asn rfl (nP (seq (block (sg ?_))))
  have hhb := has_bad m (!decide (m.in_ = eSpan.zero)) (!decide (m.src = ePrefix.zero)) (!decide (m.dst = ePrefix.zero)) (decide (¬ m.proto = 0)) (!decide (m.srcPort = eSpan.zero)) (!decide (m.dstPort = eSpan.zero))
  rw [← hk1, ← hk2, ← hk3, ← hk4, ← hk5, ← hk6] at hhb
  refine co (fA 0 (.t rfl)) ?_
  refine co (Ev.ldx m.asks ty5 (.t rfl) SMatch.l_asks) ?_
  refine co (Ev.andNot_u8 (.t rfl) (.c (v := U8 63) rfl)) ?_
  refine co (Ev.neq_u8 (.t rfl) (.c (v := U8 0) rfl)) ?_
  refine mv rfl (cg rfl rfl (Ev.move (.t rfl)) ?_)
  refine cg rfl rfl (Ev.neq_u8 (.g rfl id) (.c (v := U8 0) rfl)) ?_
  refine co (Ev.pkO (.t rfl) rfl) ?_
  refine asn rfl (nP ?_)
  first | refine condD rfl (fun h6 => ?_) (fun h6 => ?_) | refine cond rfl (fun h6 => ?_) (fun h6 => ?_)
  · refine sg (co (Ev.assign (.c (v := I 190) rfl)) ?_)
    refine nP (ret (bR (pR (done rfl (.tmp rfl .nil) (retE ?_)))))
    have hb : bad0 m = true := hhb.symm.trans h6
    unfold ckM okM; rw [hb]; rfl
  · refine sg (co (fA 1 (.t rfl)) ?_)
    refine co (fA 0 (.t rfl)) ?_
    refine co (Ev.ldx m.in_.from_ ty46 (.t rfl) (Lens.comp SMatch.l_in_ SSpan.l_from_)) ?_
    refine co (fA 1 (.t rfl)) ?_
    refine co (fA 1 (.t rfl)) ?_
    refine co (Ev.ldx m.in_.to_ ty46 (.t rfl) (Lens.comp SMatch.l_in_ SSpan.l_to_)) ?_
    refine co (Ev.gtr_u16 (.t rfl) (.t rfl)) ?_
    refine mv rfl (cg rfl rfl (fA 1 (.t rfl)) ?_)
    refine cg rfl rfl (fA 1 (.g rfl id)) ?_
    refine cg rfl rfl (Ev.ldx m.in_.to_ ty46 (.g rfl id) (Lens.comp SMatch.l_in_ SSpan.l_to_)) ?_
    refine cg rfl rfl (Ev.gtr_u16 (.g rfl id) (.c (v := U16 255) rfl)) ?_
    refine co (Ev.pkO (.t rfl) rfl) ?_
    refine mv rfl (cg rfl rfl (fA 40 (.t rfl)) ?_)
    refine cg rfl rfl (fA 0 (.g rfl id)) ?_
    refine cg rfl rfl (Ev.ldx m.srcPort.from_ ty46 (.g rfl id) (Lens.comp SMatch.l_srcPort SSpan.l_from_)) ?_
    refine cg rfl rfl (fA 40 (.t rfl)) ?_
    refine cg rfl rfl (fA 1 (.g rfl id)) ?_
    refine cg rfl rfl (Ev.ldx m.srcPort.to_ ty46 (.g rfl id) (Lens.comp SMatch.l_srcPort SSpan.l_to_)) ?_
    refine cg rfl rfl (Ev.gtr_u16 (.g rfl id) (.g rfl id)) ?_
    refine co (Ev.pkO (.t rfl) rfl) ?_
    refine mv rfl (cg rfl rfl (fA 42 (.t rfl)) ?_)
    refine cg rfl rfl (fA 0 (.g rfl id)) ?_
    refine cg rfl rfl (Ev.ldx m.dstPort.from_ ty46 (.g rfl id) (Lens.comp SMatch.l_dstPort SSpan.l_from_)) ?_
    refine cg rfl rfl (fA 42 (.t rfl)) ?_
    refine cg rfl rfl (fA 1 (.g rfl id)) ?_
    refine cg rfl rfl (Ev.ldx m.dstPort.to_ ty46 (.g rfl id) (Lens.comp SMatch.l_dstPort SSpan.l_to_)) ?_
    refine cg rfl rfl (Ev.gtr_u16 (.g rfl id) (.g rfl id)) ?_
    refine co (Ev.pkO (.t rfl) rfl) ?_
    refine asn rfl (nP ?_)
    first | refine condD rfl (fun h7 => ?_) (fun h7 => ?_) | refine cond rfl (fun h7 => ?_) (fun h7 => ?_)
    · refine sg (co (Ev.assign (.c (v := I 190) rfl)) ?_)
      refine nP (ret (bR (pR (done rfl (.tmp rfl .nil) (retE ?_)))))
      have hb : bad1 m = true := h7
      unfold ckM okM; rw [hb]; simp [tupV]
    · refine sg (co (Ev.ldx m ty111 (.t rfl) (Lens.id _)) ?_)
      refine cons (callv en108 (.cons (.t rfl) (.cons (.c (v := U8 2) rfl) .nil)) (fun w I => asks_ok _ _ w) ?_)
      refine mv rfl (cg rfl rfl (fA 3 (.t rfl)) ?_)
      refine cg rfl rfl (Ev.ldx m.src ty109 (.g rfl id) SMatch.l_src) ?_
      refine cons (callg rfl rfl en71 (.cons (.g rfl id) .nil) (fun hg w I => checkP_ok _ w) ?_)
      refine cg rfl rfl (Ev.neq_i (.g rfl id) (.c (v := I 0) rfl)) ?_
      refine co (Ev.pkA (.t rfl) rfl) ?_
      refine mv rfl (cg rfl rfl (Ev.ldx m ty111 (.t rfl) (Lens.id _)) ?_)
      refine cons (callg rfl rfl en108 (.cons (.g rfl id) (.cons (.c (v := U8 4) rfl) .nil)) (fun hg w I => asks_ok _ _ w) ?_)
      refine cg rfl rfl (Ev.move (.g rfl id)) ?_
      refine cg rfl rfl (fA 21 (.t rfl)) ?_
      refine cg rfl rfl (Ev.ldx m.dst ty109 (.g rfl id) SMatch.l_dst) ?_
      refine cons (callg rfl rfl en71 (.cons (.g rfl id) .nil) (fun hg w I => checkP_ok _ w) ?_)
      refine cg rfl rfl (Ev.neq_i (.g rfl id) (.c (v := I 0) rfl)) ?_
      refine cg rfl rfl (Ev.pkA (.g rfl id) rfl) ?_
      refine co (Ev.pkO (.t rfl) rfl) ?_
      refine asn rfl (nP ?_)
      first | refine condD rfl (fun h8 => ?_) (fun h8 => ?_) | refine cond rfl (fun h8 => ?_) (fun h8 => ?_)
      · refine sg (co (Ev.assign (.c (v := I 190) rfl)) ?_)
        refine nP (ret (bR (pR (done rfl (.tmp rfl .nil) (retE ?_)))))
        have hb : bad2 m = true := by unfold bad2; simp only [Bool.or_eq_true] at h8 ⊢; left; simpa using h8
        unfold ckM okM; rw [hb]; simp [tupV]
      · refine sg (co (Ev.ldx m ty111 (.t rfl) (Lens.id _)) ?_)
        refine cons (callv en108 (.cons (.t rfl) (.cons (.c (v := U8 2) rfl) .nil)) (fun w I => asks_ok _ _ w) ?_)
        refine mv rfl (cg rfl rfl (Ev.ldx m ty111 (.t rfl) (Lens.id _)) ?_)
        refine cons (callg rfl rfl en108 (.cons (.g rfl id) (.cons (.c (v := U8 4) rfl) .nil)) (fun hg w I => asks_ok _ _ w) ?_)
        refine co (Ev.pkA (.t rfl) rfl) ?_
        refine mv rfl (cg rfl rfl (fA 3 (.t rfl)) ?_)
        refine cg rfl rfl (fA 0 (.g rfl id)) ?_
        refine cg rfl rfl (fA 0 (.g rfl id)) ?_
        refine cg rfl rfl (Ev.ldx m.src.addr.v6 ty4 (.g rfl id) (Lens.comp (Lens.comp SMatch.l_src SPrefix.l_addr) SAddr.l_v6)) ?_
        refine cg rfl rfl (fA 21 (.t rfl)) ?_
        refine cg rfl rfl (fA 0 (.g rfl id)) ?_
        refine cg rfl rfl (fA 0 (.g rfl id)) ?_
        refine cg rfl rfl (Ev.ldx m.dst.addr.v6 ty4 (.g rfl id) (Lens.comp (Lens.comp SMatch.l_dst SPrefix.l_addr) SAddr.l_v6)) ?_
        refine cg rfl rfl (Ev.neq_b Tryz.underlying4 (.g rfl id) (.g rfl id)) ?_
        refine co (Ev.pkA (.t rfl) rfl) ?_
        refine asn rfl (nP ?_)
        first | refine condD rfl (fun h9 => ?_) (fun h9 => ?_) | refine cond rfl (fun h9 => ?_) (fun h9 => ?_)
        · refine sg (co (Ev.assign (.c (v := I 190) rfl)) ?_)
          refine nP (ret (bR (pR (done rfl (.tmp rfl .nil) (retE ?_)))))
          have hb : bad2 m = true := by unfold bad2; simp only [Bool.or_eq_true] at h9 ⊢; right; exact h9
          unfold ckM okM; rw [hb]; simp [tupV]
        · refine sg (mv rfl (mv rfl (cg rfl rfl (fA 39 (.t rfl)) ?_)))
          refine cg rfl rfl (Ev.ldx m.proto ty5 (.g rfl id) SMatch.l_proto) ?_
          refine cg rfl rfl (Ev.neq_u8 (.g rfl id) (.c (v := U8 6) rfl)) ?_
          refine co (Ev.pkA (.t rfl) rfl) ?_
          refine mv rfl (cg rfl rfl (fA 39 (.t rfl)) ?_)
          refine cg rfl rfl (Ev.ldx m.proto ty5 (.g rfl id) SMatch.l_proto) ?_
          refine cg rfl rfl (Ev.neq_u8 (.g rfl id) (.c (v := U8 17) rfl)) ?_
          refine co (Ev.pkA (.t rfl) rfl) ?_
          refine asn rfl (nP ?_)
          first | refine condD rfl (fun h10 => ?_) (fun h10 => ?_) | refine cond rfl (fun h10 => ?_) (fun h10 => ?_)
          · refine sg (co (Ev.assign (.c (v := I 190) rfl)) ?_)
            refine nP (ret (bR (pR (done rfl (.tmp rfl .nil) (retE ?_)))))
            have hb : good3 m = false := by
              rw [asks48] at h10
              simp at h10
              obtain ⟨⟨ha, hb6⟩, hb17⟩ := h10
              unfold good3 portsB
              simp [hb6, hb17]
              intro h16
              simpa [h16] using ha
            unfold ckM okM; rw [hb]; simp [tupV]
          · refine skip (bN (pN (sg (co (Ev.assign (.c (v := I 0) rfl)) ?_))))
            refine nP (ret (done rfl (.tmp rfl .nil) (retE ?_)))
            have b0 : bad0 m = false := hhb.symm.trans h6
            have b1 : bad1 m = false := h7
            have b2 : bad2 m = false := by
              unfold bad2
              simp at h8 h9 ⊢
              exact ⟨h8, h9⟩
            have hp : asksB m 8 = false → m.proto = 0 := by
              unfold bad0 at b0
              simp at b0
              exact b0.1.1.2
            rw [asks48] at h10
            have hg : good3 m = true := good3_of m (by simpa using h10) hp
            unfold ckM okM
            rw [b0, b1, b2, hg]
            rfl
def inM (m : List (ByteArray × Int)) (s : ByteArray) : Bool := (findV eqs s m).isSome
def ruleO (l : CL) (r : SRule) : Bool := if r.action = 3 then !portB l r.out else decide (¬ r.out = 0)
def ruleE (l : CL) (r : SRule) (i : Int) : Int := if nameB r.name = false then 201 else if (findV eqs r.name (rulesM l)).getD 0 < i then 2 else if okM r.match_ = false then 190 else if r.action < 1 ∨ 4 < r.action then 2 else if ruleO l r = true then 5
  else if (r.meter ≠ ⟨#[]⟩ ∧ inM (metersM l) r.meter = false) ∨ (r.mirror ≠ ⟨#[]⟩ ∧ inM (mirrorsM l) r.mirror = false) then 210 else 0
def roomB (n : Int) : Bool := decide (2 ≤ n ∧ n ≤ 1024 ∧ n.toNat &&& (n.toNat - 1) = 0)
def mirrorE (l : CL) (m : SMirrorConf) (i : Int) : Int := if nameB m.name = false then 201 else if (findV eqs m.name (mirrorsM l)).getD 0 < i then 2 else if portB l m.out = false then 5 else if roomB m.room = false then 2 else 0
theorem mirror_ok (k : KB) (l : CL) (m : SMirrorConf) (i : Int) (w : World) (hk : KnownAt w k l) (hs : m.name.size ≤ 9223372036854775807) : Calls Tryz.prog 102 #[eConfKnown.val k.k, eMirrorConf.val m, I i] w (RetV w (I (mirrorE l m i))) := by
  refine en0 44 Tryz.func102 ?_
  refine sg (cons (box (E := eConfKnown) (.t rfl) (fun b1 => ?_)))
  refine cons (box (E := eMirrorConf) (.t rfl) (fun b2 => ?_))
  refine co (Ev.assign (.c (v := I 0) rfl)) ?_
  refine nP (seq (block (sg (co (fA 0 (.t rfl)) ?_))))
  refine co (Ev.ldx m.name ty9 (.t rfl) SMirrorConf.l_name) ?_
  refine cons (callv en142 (.cons (.t rfl) .nil) (fun w I => name_ok _ w hs) ?_)
  refine co (Ev.not (.t rfl)) ?_
  refine asn rfl (nP ?_)
  first | refine condD rfl (fun h0 => ?_) (fun h0 => ?_) | refine cond rfl (fun h0 => ?_) (fun h0 => ?_)
  · try simp only [Gx.nb] at h0
    refine sg (co (Ev.assign (.c (v := I 201) rfl)) ?_)
    refine nP (ret (bR (pR (done rfl (.tmp rfl .nil) (retE ?_)))))
    unfold mirrorE; rw [if_pos (by simpa using h0)]; rfl
  · try simp only [Gx.nb] at h0
    refine sg (co (fA 4 (.t rfl)) ?_)
    refine co (Ev.ldv ty130 (.t rfl) SConfKnown.l_mirrors) ?_
    refine co (fA 0 (.t rfl)) ?_
    refine co (Ev.ldx m.name ty9 (.t rfl) SMirrorConf.l_name) ?_
    refine co (Ev.lookupF Tryz.underlying130 Tryz.underlying9 key9 z3 (.t rfl) (.t rfl) (fun _ => (fun w I => hk.xs.keep0 I.keeps))) ?_
    refine mv rfl (co (Ev.lss_i (.t rfl) (.t rfl)) ?_)
    refine asn rfl (nP ?_)
    first | refine condD rfl (fun h1 => ?_) (fun h1 => ?_) | refine cond rfl (fun h1 => ?_) (fun h1 => ?_)
    · try simp only [Gx.nb] at h1
      refine sg (co (Ev.assign (.c (v := I 2) rfl)) ?_)
      refine nP (ret (bR (pR (done rfl (.tmp rfl .nil) (retE ?_)))))
      unfold mirrorE; rw [if_neg (by simpa using h0), if_pos (by simpa using h1)]; rfl
    · try simp only [Gx.nb] at h1
      refine sg (co (Ev.ldv ty206 (.t rfl) (Lens.id _)) ?_)
      refine co (fA 1 (.t rfl)) ?_
      refine co (Ev.ldx m.out ty3 (.t rfl) SMirrorConf.l_out) ?_
      refine cons (callv en141 (.cons (.t rfl) (.cons (.t rfl) .nil)) (fun w I => port_ok _ l _ w (hk.keep0 I.keeps)) ?_)
      refine co (Ev.not (.t rfl)) ?_
      refine asn rfl (nP ?_)
      first | refine condD rfl (fun h2 => ?_) (fun h2 => ?_) | refine cond rfl (fun h2 => ?_) (fun h2 => ?_)
      · try simp only [Gx.nb] at h2
        refine sg (co (Ev.assign (.c (v := I 5) rfl)) ?_)
        refine nP (ret (bR (pR (done rfl (.tmp rfl .nil) (retE ?_)))))
        unfold mirrorE; rw [if_neg (by simpa using h0), if_neg (by simpa using h1), if_pos (by simpa using h2)]; rfl
      · try simp only [Gx.nb] at h2
        refine sg (co (fA 2 (.t rfl)) ?_)
        refine co (Ev.ldx m.room ty3 (.t rfl) SMirrorConf.l_room) ?_
        refine co (Ev.lss_i (.t rfl) (.c (v := I 2) rfl)) ?_
        refine mv rfl (cg rfl rfl (fA 2 (.t rfl)) ?_)
        refine cg rfl rfl (Ev.ldx m.room ty3 (.g rfl id) SMirrorConf.l_room) ?_
        refine cg rfl rfl (Ev.gtr_i (.g rfl id) (.c (v := I 1024) rfl)) ?_
        refine co (Ev.pkO (.t rfl) rfl) ?_
        refine mv rfl (cg rfl rfl (fA 2 (.t rfl)) ?_)
        refine cg rfl rfl (Ev.ldx m.room ty3 (.g rfl id) SMirrorConf.l_room) ?_
        refine cg rfl rfl (fA 2 (.t rfl)) ?_
        refine cg rfl rfl (Ev.ldx m.room ty3 (.g rfl id) SMirrorConf.l_room) ?_
        refine cg rfl rfl (Ev.sub_i (.g rfl id) (.c (v := I 1) rfl) (fun _ => by first | omega | (rename_i hg; simp at hg; omega))) ?_
        refine cg rfl rfl (Ev.and_n (.g rfl id) (.g rfl id) (fun hg => by simp at hg; omega) (fun hg => by simp at hg; omega)) ?_
        refine cg rfl rfl (Ev.neq_i (.g rfl id) (.c (v := I 0) rfl)) ?_
        refine co (Ev.pkO (.t rfl) rfl) ?_
        refine asn rfl (nP ?_)
        first | refine condD rfl (fun h3 => ?_) (fun h3 => ?_) | refine cond rfl (fun h3 => ?_) (fun h3 => ?_)
        · refine sg (co (Ev.assign (.c (v := I 2) rfl)) ?_)
          refine nP (ret (bR (pR (done rfl (.tmp rfl .nil) (retE ?_)))))
          have hr : roomB m.room = false := by
            unfold roomB
            simp at h3 ⊢
            intro h1 h2
            rcases h3 with (h3 | h3) | h3
            · omega
            · omega
            · exact h3
          unfold mirrorE; rw [if_neg (by simpa using h0), if_neg (by simpa using h1), if_neg (by simpa using h2), if_pos hr]; rfl
        · refine skip (bN (pN (sg (co (Ev.assign (.c (v := I 0) rfl)) ?_))))
          refine nP (ret (done rfl (.tmp rfl .nil) (retE ?_)))
          have hr : roomB m.room = true := by
            unfold roomB
            simp at h3 ⊢
            exact ⟨h3.1.1, h3.1.2, h3.2⟩
          unfold mirrorE; rw [if_neg (by simpa using h0), if_neg (by simpa using h1), if_neg (by simpa using h2), if_neg (by rw [hr]; simp)]; rfl
theorem en74 : Gx.Enters Tryz.prog 74 := Gx.Enters.mk' zk
set_option maxRecDepth 8000 in
theorem rule_ok (k : KB) (l : CL) (r : SRule) (i : Int) (w : World) (hk : KnownAt w k l) (hs : r.name.size ≤ 9223372036854775807) : Calls Tryz.prog 98 #[eConfKnown.val k.k, eRule.val r, I i] w (RetV w (I (ruleE l r i))) := by
  refine en0 83 Tryz.func98 ?_
  refine sg (cons (box (E := eConfKnown) (.t rfl) (fun b1 => ?_)))
  refine cons (box (E := eRule) (.t rfl) (fun b2 => ?_))
  refine co (Ev.assign (.c (v := I 0) rfl)) ?_
  refine nP (sg (co (fA 46 (.t rfl)) ?_))
  refine co (Ev.ldx r.out ty3 (.t rfl) SRule.l_out) ?_
  refine co (Ev.eql_i (.t rfl) (.c (v := I 0) rfl)) ?_
  refine asn rfl (nP (cut (X := Bool) (fun x : Bool => ((!x) = ruleO l r)) (fun x : Bool => [dz, (2, true, I i), (3, true, .pointer (some ⟨b1, 0, none⟩)), (4, true, .pointer (some ⟨b2, 0, none⟩)), (7, true, .bool x)]) (fun x : Bool => [Var b2 eRule r 113, Var b1 eConfKnown k.k 206]) ?_ (fun x hx => ?_)))
  · refine sg (co (fA 45 (.t rfl)) ?_)
    refine co (Ev.ldx r.action ty3 (.t rfl) SRule.l_action) ?_
    refine co (Ev.eql_i (.t rfl) (.c (v := I 3) rfl)) ?_
    refine nP ?_
    first | refine condD rfl (fun h0 => ?_) (fun h0 => ?_) | refine cond rfl (fun h0 => ?_) (fun h0 => ?_)
    · refine region (co (Ev.ldv ty206 (.t rfl) (Lens.id _)) ?_)
      refine co (fA 46 (.t rfl)) ?_
      refine co (Ev.ldx r.out ty3 (.t rfl) SRule.l_out) ?_
      refine cons (callv en141 (.cons (.t rfl) (.cons (.t rfl) .nil)) (fun w I => port_ok _ l _ w (hk.keep0 I.keeps)) ?_)
      refine asn rfl (nP (mt (X := Bool) (_) ?_))
      · try dsimp only
        unfold ruleO; simp_all
    · refine skip (pN (mt (X := Bool) (_) ?_))
      · try dsimp only
        unfold ruleO; simp_all
  obtain ⟨out, rfl⟩ : ∃ y, y = x := ⟨x, rfl⟩
  have hout : (!out) = ruleO l r := hx
  clear hx
  show Sat _ _ [dz, (2, true, I i), (3, true, .pointer (some ⟨b1, 0, none⟩)), (4, true, .pointer (some ⟨b2, 0, none⟩)), (7, true, .bool out)] [Var b2 eRule r 113, Var b1 eConfKnown k.k 206]
  refine sg (co (fA 3 (.t rfl)) ?_)
  refine co (Ev.ldv ty130 (.t rfl) SConfKnown.l_meters) ?_
  refine co (fA 47 (.t rfl)) ?_
  refine co (Ev.ldx r.meter ty9 (.t rfl) SRule.l_meter) ?_
  refine co (Ev.lookupT Tryz.underlying130 Tryz.underlying9 key9 z3 (.t rfl) (.t rfl) (fun _ => (fun w I => hk.ms.keep0 I.keeps))) ?_
  refine mv rfl (co (Ev.extract (.t rfl) rfl) (co (Ev.extract (.t rfl) rfl) (asn rfl (asn rfl (nP (sg (co (fA 4 (.t rfl)) ?_)))))))
  refine co (Ev.ldv ty130 (.t rfl) SConfKnown.l_mirrors) ?_
  refine co (fA 48 (.t rfl)) ?_
  refine co (Ev.ldx r.mirror ty9 (.t rfl) SRule.l_mirror) ?_
  refine co (Ev.lookupT Tryz.underlying130 Tryz.underlying9 key9 z3 (.t rfl) (.t rfl) (fun _ => (fun w I => hk.xs.keep0 I.keeps))) ?_
  refine mv rfl (co (Ev.extract (.t rfl) rfl) (co (Ev.extract (.t rfl) rfl) (asn rfl (asn rfl (nP (seq (block (sg (co (fA 0 (.t rfl)) ?_)))))))))
  refine co (Ev.ldx r.name ty9 (.t rfl) SRule.l_name) ?_
  refine cons (callv en142 (.cons (.t rfl) .nil) (fun w I => name_ok _ w hs) ?_)
  refine co (Ev.not (.t rfl)) ?_
  refine asn rfl (nP ?_)
  first | refine condD rfl (fun h1 => ?_) (fun h1 => ?_) | refine cond rfl (fun h1 => ?_) (fun h1 => ?_)
  · refine sg (co (Ev.assign (.c (v := I 201) rfl)) ?_)
    refine nP (ret (bR (pR (done rfl (.tmp rfl .nil) (retE ?_)))))
    have p1 : nameB r.name = false := by simpa using h1
    unfold ruleE
    rw [if_pos p1]
    rfl
  · refine sg (co (fA 2 (.t rfl)) ?_)
    refine co (Ev.ldv ty130 (.t rfl) SConfKnown.l_rules) ?_
    refine co (fA 0 (.t rfl)) ?_
    refine co (Ev.ldx r.name ty9 (.t rfl) SRule.l_name) ?_
    refine co (Ev.lookupF Tryz.underlying130 Tryz.underlying9 key9 z3 (.t rfl) (.t rfl) (fun _ => (fun w I => hk.us.keep0 I.keeps))) ?_
    refine mv rfl (co (Ev.lss_i (.t rfl) (.t rfl)) ?_)
    refine asn rfl (nP ?_)
    first | refine condD rfl (fun h2 => ?_) (fun h2 => ?_) | refine cond rfl (fun h2 => ?_) (fun h2 => ?_)
    · refine sg (co (Ev.assign (.c (v := I 2) rfl)) ?_)
      refine nP (ret (bR (pR (done rfl (.tmp rfl .nil) (retE ?_)))))
      have n1 : ¬ (nameB r.name = false) := by simpa using h1
      have p2 : (findV eqs r.name (rulesM l)).getD 0 < i := by simpa using h2
      unfold ruleE
      rw [if_neg n1, if_pos p2]
      rfl
    · refine sg (co (fA 1 (.t rfl)) ?_)
      refine co (Ev.ldx r.match_ ty111 (.t rfl) SRule.l_match_) ?_
      refine cons (callv en74 (.cons (.t rfl) .nil) (fun w I => check_ok _ w) ?_)
      refine co (Ev.neq_i (.t rfl) (.c (v := I 0) rfl)) ?_
      refine asn rfl (nP ?_)
      first | refine condD rfl (fun h3 => ?_) (fun h3 => ?_) | refine cond rfl (fun h3 => ?_) (fun h3 => ?_)
      · refine sg (co (Ev.assign (.c (v := I 190) rfl)) ?_)
        refine nP (ret (bR (pR (done rfl (.tmp rfl .nil) (retE ?_)))))
        have n1 : ¬ (nameB r.name = false) := by simpa using h1
        have n2 : ¬ ((findV eqs r.name (rulesM l)).getD 0 < i) := by simpa using h2
        have p3 : okM r.match_ = false := by
          have h3c : decide (ckM r.match_ = 0) = false := by simpa using h3
          rwa [ckM_zero] at h3c
        unfold ruleE
        rw [if_neg n1, if_neg n2, if_pos p3]
        rfl
      · refine sg (co (fA 45 (.t rfl)) ?_)
        refine co (Ev.ldx r.action ty3 (.t rfl) SRule.l_action) ?_
        refine co (Ev.lss_i (.t rfl) (.c (v := I 1) rfl)) ?_
        refine mv rfl (cg rfl rfl (fA 45 (.t rfl)) ?_)
        refine cg rfl rfl (Ev.ldx r.action ty3 (.g rfl id) SRule.l_action) ?_
        refine cg rfl rfl (Ev.gtr_i (.g rfl id) (.c (v := I 4) rfl)) ?_
        refine co (Ev.pkO (.t rfl) rfl) ?_
        refine asn rfl (nP ?_)
        first | refine condD rfl (fun h4 => ?_) (fun h4 => ?_) | refine cond rfl (fun h4 => ?_) (fun h4 => ?_)
        · refine sg (co (Ev.assign (.c (v := I 2) rfl)) ?_)
          refine nP (ret (bR (pR (done rfl (.tmp rfl .nil) (retE ?_)))))
          have n1 : ¬ (nameB r.name = false) := by simpa using h1
          have n2 : ¬ ((findV eqs r.name (rulesM l)).getD 0 < i) := by simpa using h2
          have n3 : ¬ okM r.match_ = false := by
            have h3c : decide (ckM r.match_ = 0) = true := by simpa using h3
            rw [ckM_zero] at h3c
            rw [h3c]; simp
          have p4 : r.action < 1 ∨ 4 < r.action := by simpa using h4
          unfold ruleE
          rw [if_neg n1, if_neg n2, if_neg n3, if_pos p4]
          rfl
        · refine sg (mv rfl (co (Ev.not (.t rfl)) ?_))
          refine asn rfl (nP ?_)
          first | refine condD rfl (fun h5 => ?_) (fun h5 => ?_) | refine cond rfl (fun h5 => ?_) (fun h5 => ?_)
          · refine sg (co (Ev.assign (.c (v := I 5) rfl)) ?_)
            refine nP (ret (bR (pR (done rfl (.tmp rfl .nil) (retE ?_)))))
            have n1 : ¬ (nameB r.name = false) := by simpa using h1
            have n2 : ¬ ((findV eqs r.name (rulesM l)).getD 0 < i) := by simpa using h2
            have n3 : ¬ okM r.match_ = false := by
              have h3c : decide (ckM r.match_ = 0) = true := by simpa using h3
              rw [ckM_zero] at h3c
              rw [h3c]; simp
            have n4 : ¬ (r.action < 1 ∨ 4 < r.action) := by simpa using h4
            have p5 : ruleO l r = true := by
              rw [← hout]; simpa using h5
            unfold ruleE
            rw [if_neg n1, if_neg n2, if_neg n3, if_neg n4, if_pos p5]
            rfl
          · refine seq (sg (co (fA 47 (.t rfl)) ?_))
            refine co (Ev.ldx r.meter ty9 (.t rfl) SRule.l_meter) ?_
            refine co (Ev.neq_s (.t rfl) (.c (v := (Go.Value.string (ByteArray.mk #[]))) rfl)) ?_
            refine mv rfl (cg rfl rfl (Ev.move (.t rfl)) ?_)
            refine cg rfl rfl (Ev.not (.g rfl id)) ?_
            refine co (Ev.pkA (.t rfl) rfl) ?_
            refine asn rfl (nP ?_)
            first | refine condD rfl (fun h6 => ?_) (fun h6 => ?_) | refine cond rfl (fun h6 => ?_) (fun h6 => ?_)
            · refine skip (pN ?_)
              first | refine condD rfl (fun h7 => ?_) (fun h7 => ?_) | refine cond rfl (fun h7 => ?_) (fun h7 => ?_)
              · refine sg (co (Ev.assign (.c (v := I 210) rfl)) ?_)
                refine nP (ret (bR (pR (done rfl (.tmp rfl .nil) (retE ?_)))))
                have n1 : ¬ (nameB r.name = false) := by simpa using h1
                have n2 : ¬ ((findV eqs r.name (rulesM l)).getD 0 < i) := by simpa using h2
                have n3 : ¬ okM r.match_ = false := by
                  have h3c : decide (ckM r.match_ = 0) = true := by simpa using h3
                  rw [ckM_zero] at h3c
                  rw [h3c]; simp
                have n4 : ¬ (r.action < 1 ∨ 4 < r.action) := by simpa using h4
                have n5 : ¬ ruleO l r = true := by
                  rw [← hout]; simpa using h5
                have p6 : (r.meter ≠ ⟨#[]⟩ ∧ inM (metersM l) r.meter = false) ∨ (r.mirror ≠ ⟨#[]⟩ ∧ inM (mirrorsM l) r.mirror = false) := by
                  unfold inM
                  simp_all
                unfold ruleE
                rw [if_neg n1, if_neg n2, if_neg n3, if_neg n4, if_neg n5, if_pos p6]
                rfl
              · refine skip (bN (pN (sg (co (Ev.assign (.c (v := I 0) rfl)) ?_))))
                refine nP (ret (done rfl (.tmp rfl .nil) (retE ?_)))
                have n1 : ¬ (nameB r.name = false) := by simpa using h1
                have n2 : ¬ ((findV eqs r.name (rulesM l)).getD 0 < i) := by simpa using h2
                have n3 : ¬ okM r.match_ = false := by
                  have h3c : decide (ckM r.match_ = 0) = true := by simpa using h3
                  rw [ckM_zero] at h3c
                  rw [h3c]; simp
                have n4 : ¬ (r.action < 1 ∨ 4 < r.action) := by simpa using h4
                have n5 : ¬ ruleO l r = true := by
                  rw [← hout]; simpa using h5
                have n6 : ¬ ((r.meter ≠ ⟨#[]⟩ ∧ inM (metersM l) r.meter = false) ∨ (r.mirror ≠ ⟨#[]⟩ ∧ inM (mirrorsM l) r.mirror = false)) := by
                  unfold inM
                  first
                    | (exfalso; simp_all; done)
                    | (simp at h6 h7
                       rintro (⟨a, b⟩ | ⟨a, b⟩)
                       · rw [h6 a] at b; cases b
                       · rw [h7 a] at b; cases b)
                unfold ruleE
                rw [if_neg n1, if_neg n2, if_neg n3, if_neg n4, if_neg n5, if_neg n6]
                rfl
            · refine region (co (fA 48 (.t rfl)) ?_)
              refine co (Ev.ldx r.mirror ty9 (.t rfl) SRule.l_mirror) ?_
              refine co (Ev.neq_s (.t rfl) (.c (v := (Go.Value.string (ByteArray.mk #[]))) rfl)) ?_
              refine mv rfl (cg rfl rfl (Ev.move (.t rfl)) ?_)
              refine cg rfl rfl (Ev.not (.g rfl id)) ?_
              refine co (Ev.pkA (.t rfl) rfl) ?_
              refine asn rfl (nP ?_)
              first | refine condD rfl (fun h7 => ?_) (fun h7 => ?_) | refine cond rfl (fun h7 => ?_) (fun h7 => ?_)
              · refine sg (co (Ev.assign (.c (v := I 210) rfl)) ?_)
                refine nP (ret (bR (pR (done rfl (.tmp rfl .nil) (retE ?_)))))
                have n1 : ¬ (nameB r.name = false) := by simpa using h1
                have n2 : ¬ ((findV eqs r.name (rulesM l)).getD 0 < i) := by simpa using h2
                have n3 : ¬ okM r.match_ = false := by
                  have h3c : decide (ckM r.match_ = 0) = true := by simpa using h3
                  rw [ckM_zero] at h3c
                  rw [h3c]; simp
                have n4 : ¬ (r.action < 1 ∨ 4 < r.action) := by simpa using h4
                have n5 : ¬ ruleO l r = true := by
                  rw [← hout]; simpa using h5
                have p6 : (r.meter ≠ ⟨#[]⟩ ∧ inM (metersM l) r.meter = false) ∨ (r.mirror ≠ ⟨#[]⟩ ∧ inM (mirrorsM l) r.mirror = false) := by
                  unfold inM
                  simp_all
                unfold ruleE
                rw [if_neg n1, if_neg n2, if_neg n3, if_neg n4, if_neg n5, if_pos p6]
                rfl
              · refine skip (bN (pN (sg (co (Ev.assign (.c (v := I 0) rfl)) ?_))))
                refine nP (ret (done rfl (.tmp rfl .nil) (retE ?_)))
                have n1 : ¬ (nameB r.name = false) := by simpa using h1
                have n2 : ¬ ((findV eqs r.name (rulesM l)).getD 0 < i) := by simpa using h2
                have n3 : ¬ okM r.match_ = false := by
                  have h3c : decide (ckM r.match_ = 0) = true := by simpa using h3
                  rw [ckM_zero] at h3c
                  rw [h3c]; simp
                have n4 : ¬ (r.action < 1 ∨ 4 < r.action) := by simpa using h4
                have n5 : ¬ ruleO l r = true := by
                  rw [← hout]; simpa using h5
                have n6 : ¬ ((r.meter ≠ ⟨#[]⟩ ∧ inM (metersM l) r.meter = false) ∨ (r.mirror ≠ ⟨#[]⟩ ∧ inM (mirrorsM l) r.mirror = false)) := by
                  unfold inM
                  first
                    | (exfalso; simp_all; done)
                    | (simp at h6 h7
                       rintro (⟨a, b⟩ | ⟨a, b⟩)
                       · rw [h6 a] at b; cases b
                       · rw [h7 a] at b; cases b)
                unfold ruleE
                rw [if_neg n1, if_neg n2, if_neg n3, if_neg n4, if_neg n5, if_neg n6]
                rfl
end Go.Proofs.YtakmoeladkajdaaGreat
