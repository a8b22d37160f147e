/- Part. -/
import Derived.Test.YtnoobdijbpmjkaaGreatRows
import Derived.Test.YtnoobdijbpmjkaaGreatHxW
import Derived.Test.YtnoobdijbpmjkaaGreatHxT
set_option linter.unusedVariables false
set_option linter.unusedSimpArgs false
set_option linter.unusedSectionVars false
namespace Go.Gx
open Go Go.RowKit
section
variable {α β γ : Type} {P : Program}
variable {K : Ctx} {F : Fr} {L : List Res} {g : Bool} {Q : Exit → Act → World → Prop} {N : Act → World → Prop} {ops : Array Oper} {rest : List Oper}
  {op : Op} {ty t t' : TypeId} {pos : String} {af : Array Edge} {d : Nat} {x y z : Operand} {v : Value}
theorem co (h : Ev P K F L true op ty v) (next : Sat K (wpList P ops Q rest) ((d, true, v) :: F) L) (hd : Nat.blt d K.n = true := by rfl) : Sat K (wpList P ops Q (⟨some d, op, ty, pos, af, none⟩ :: rest)) F L := cons (opv h next hd)
theorem mv {s : Nat} (h : look F s = some (true, v)) (next : Sat K (wpList P ops Q rest) ((d, true, v) :: F) L) (hd : Nat.blt d K.n = true := by rfl) : Sat K (wpList P ops Q (⟨some d, .move (.tmp s), ty, pos, af, none⟩ :: rest)) F L := cons (opv (Ev.move (.t h)) next hd)
theorem asn {s : Nat} (h : look F s = some (true, v)) (next : Sat K (wpList P ops Q rest) ((d, true, v) :: F) L) (hd : Nat.blt d K.n = true := by rfl) : Sat K (wpList P ops Q (⟨some d, .assign (.tmp s), ty, pos, af, none⟩ :: rest)) F L := cons (opv (Ev.assign (.t h)) next hd)
theorem sg {id : Nat} {l : List Oper} {y : Code} (h : Sat K (wpList P l.toArray (Exit.then (y.wp P Q) Q) l) F L) : Sat K ((Code.seq (Code.region id l.toArray false) y).wp P Q) F L := seq (region h)
theorem nP (h : Sat K N F L) : Sat K (wpList P ops (Exit.then N Q) []) F L := nil (pN h)
theorem cg {j tg : Nat} {want c1 c2 : Bool} (hj : (ops[j]?).bind (·.dst) = some tg) (hg : look F tg = some (c1, .bool c2))
    (h : Ev P K F L (c1 && (c2 == want)) op ty v) (next : Sat K (wpList P ops Q rest) ((d, (c1 && (c2 == want)), v) :: F) L) (hd : Nat.blt d K.n = true := by rfl) :
    Sat K (wpList P ops Q (⟨some d, op, ty, pos, af, some (j, want)⟩ :: rest)) F L := cons (opg hj hg h next hd)
theorem Ev.pkA {s : Nat} {b c gz : Bool} (hx : Opd F g x (.bool b)) (hy : look F s = some (gz, .bool c)) (hgz : g = true → b = true → gz = true := by intro h1 h; first | (rw [h] <;> rfl) | (rw [h1, h] <;> rfl) | (rw [h, h1] <;> rfl) | simp_all) :
    Ev P K F L g (.pick x (.tmp s) (.const (.bool false))) ty (.bool (b && c)) := Ev.pickA hx (fun {_} h => by cases h; exact hy) ⟨_, rfl⟩ hgz (.c rfl)
theorem Ev.pkO {s : Nat} {b c gz : Bool} (hx : Opd F g x (.bool b)) (hy : look F s = some (gz, .bool c)) (hgz : g = true → b = false → gz = true := by intro h1 h; first | (rw [h] <;> rfl) | (rw [h1, h] <;> rfl) | (rw [h, h1] <;> rfl) | simp_all) :
    Ev P K F L g (.pick x (.const (.bool true)) (.tmp s)) ty (.bool (b || c)) := Ev.pickO hx (.c rfl) (fun {_} h => by cases h; exact hy) ⟨_, rfl⟩ hgz
theorem io {E : Enc α} {v : Value} {xs : List α} {T : TypeId} (w : World) (h : WInv K L w) (hm : OwnS v E xs T ∈ L := by repeat first | exact mH | apply mT | apply mA) : IsSl E w v xs := isSl_own hm w h
theorem am {r : Res} (w : World) (I : WInv K L w) (h : r ∈ L := by repeat first | exact mH | apply mT | apply mA) : At r w := at_mem h w I
theorem fA (o : Nat) {b off s f : Nat} (hx : Opd F g x (.pointer (some ⟨b, off, none⟩)))
    (hf : (P.underlying s).bind (fun d => match d with | .struct fs => (fs[f]?).bind (fun fd => (P.info? fd.type).map (fun i => (fd.offset, Nat.beq i.size 0))) | _ => none) = some (o, false) := by kernel_rfl) :
    Ev P K F L g (.fieldAddr s x f) ty (.pointer (some ⟨b, off + o, none⟩)) := Ev.fieldAddr hx hf
theorem en0 {f : FuncId} {fn : Func} {c : Code} {args : Array Value} {w : World} {R : Ending → World → Prop} (n : Nat)
    (hf : P.funcs[f]? = some fn) (h : Sat ⟨n, w, Nope⟩ (c.wp P (bodyPost P fn R)) (enumF 0 args.toList) []) (hb : fn.body = some c := by rfl) (hn : fn.ntmps = n := by rfl) (hsz : args.size ≤ n := by exact Nat.le_of_ble_eq_true rfl) : Calls P f args w R := enter0 n hf hb hn hsz h
theorem zf {E : Enc α} {v : Value} {xs : List α} (h : ∀ w, WInv K L w → IsSl E w v xs := by first | exact isSl_own (by repeat first | exact mH | apply mT | apply mA) | exact fun w I => IsSl.keep0 (by assumption) I.keeps) : ∀ w, WInv K L w → IsSl E w v xs := h
end
theorem zm {p : Prop} (h : p := by repeat first | exact mH | apply mT | apply mA) : p := h
theorem zr {p : Prop} (h : p := by repeat first | exact Rem.head | apply Rem.tail) : p := h
theorem zu {p : Prop} (h : p := by repeat first | exact Upd.head | apply Upd.tail | apply Upd.right) : p := h
theorem zs {p : Prop} (h : p := by repeat first | exact sR | exact sN | apply sC | apply sS | apply sA) : p := h
theorem zl {p : Prop} (h : p := by simp only [List.length_append, List.length_cons, List.length_nil]; omega) : p := h
theorem zk {p : Prop} (h : p := by kernel_rfl) : p := h
theorem zo {p : Prop} (h : p := by omega) : p := h
end Go.Gx
namespace Go.Proofs.YtnoobdijbpmjkaaGreat
open Go Go.Gx
structure SAddr where
  v6 : Bool
  b : (Vector UInt8 16)
def SAddr.to : (Bool × (Vector UInt8 16)) → SAddr := fun x => ⟨x.1, x.2⟩
def SAddr.of : SAddr → (Bool × (Vector UInt8 16)) := fun x => (x.v6, x.b)
def eAddr : Enc SAddr := isoE (prodE bE (arrE 16 u8E)) SAddr.to SAddr.of
def SAddr.l_v6 : Lens eAddr bE 0 := lIso _ SAddr.to SAddr.of (fun _ => rfl) (lFst bE (arrE 16 u8E))
@[simp] theorem SAddr.get_v6 (x : SAddr) : SAddr.l_v6.get x = x.v6 := rfl
@[simp] theorem SAddr.set_v6 (x : SAddr) (y : Bool) : SAddr.l_v6.set x y = { x with v6 := y } := rfl
def SAddr.l_b : Lens eAddr (arrE 16 u8E) 1 := lIso _ SAddr.to SAddr.of (fun _ => rfl) (Lens.comp (lSnd bE (arrE 16 u8E)) (Lens.id (arrE 16 u8E)))
@[simp] theorem SAddr.get_b (x : SAddr) : SAddr.l_b.get x = x.b := rfl
@[simp] theorem SAddr.set_b (x : SAddr) (y : (Vector UInt8 16)) : SAddr.l_b.set x y = { x with b := y } := rfl
structure SPrefix where
  addr : SAddr
  bits : Int
def SPrefix.to : (SAddr × Int) → SPrefix := fun x => ⟨x.1, x.2⟩
def SPrefix.of : SPrefix → (SAddr × Int) := fun x => (x.addr, x.bits)
def ePrefix : Enc SPrefix := isoE (prodE eAddr iE) SPrefix.to SPrefix.of
def SPrefix.l_addr : Lens ePrefix eAddr 0 := lIso _ SPrefix.to SPrefix.of (fun _ => rfl) (lFst eAddr iE)
@[simp] theorem SPrefix.get_addr (x : SPrefix) : SPrefix.l_addr.get x = x.addr := rfl
@[simp] theorem SPrefix.set_addr (x : SPrefix) (y : SAddr) : SPrefix.l_addr.set x y = { x with addr := y } := rfl
def SPrefix.l_bits : Lens ePrefix iE 17 := lIso _ SPrefix.to SPrefix.of (fun _ => rfl) (Lens.comp (lSnd eAddr iE) (Lens.id iE))
@[simp] theorem SPrefix.get_bits (x : SPrefix) : SPrefix.l_bits.get x = x.bits := rfl
@[simp] theorem SPrefix.set_bits (x : SPrefix) (y : Int) : SPrefix.l_bits.set x y = { x with bits := y } := rfl
structure SRoute where
  to_ : SPrefix
  out : Int
def SRoute.to : (SPrefix × Int) → SRoute := fun x => ⟨x.1, x.2⟩
def SRoute.of : SRoute → (SPrefix × Int) := fun x => (x.to_, x.out)
def eRoute : Enc SRoute := isoE (prodE ePrefix iE) SRoute.to SRoute.of
def SRoute.l_to_ : Lens eRoute ePrefix 0 := lIso _ SRoute.to SRoute.of (fun _ => rfl) (lFst ePrefix iE)
@[simp] theorem SRoute.get_to_ (x : SRoute) : SRoute.l_to_.get x = x.to_ := rfl
@[simp] theorem SRoute.set_to_ (x : SRoute) (y : SPrefix) : SRoute.l_to_.set x y = { x with to_ := y } := rfl
def SRoute.l_out : Lens eRoute iE 18 := lIso _ SRoute.to SRoute.of (fun _ => rfl) (Lens.comp (lSnd ePrefix iE) (Lens.id iE))
@[simp] theorem SRoute.get_out (x : SRoute) : SRoute.l_out.get x = x.out := rfl
@[simp] theorem SRoute.set_out (x : SRoute) (y : Int) : SRoute.l_out.set x y = { x with out := y } := rfl
theorem ty5 : TyOK Tryz.prog 5 u8E := TyOK.mk' zk zk
def SAddr.eqb (x y : SAddr) : Bool := eqd x.v6 y.v6 && ((eqA 16 eqd) x.b y.b && (true))
theorem SAddr.eqb_iff (x y : SAddr) : SAddr.eqb x y = true ↔ x = y := by
  obtain ⟨a0, a1⟩ := x
  obtain ⟨b0, b1⟩ := y
  simp only [SAddr.eqb, Bool.and_eq_true, eqd_iff, (eqA_iff eqd_iff), SAddr.mk.injEq, and_true]
theorem ty46 : TyOK Tryz.prog 46 (arrE 16 u8E) := TyOK.mk' zk zk
theorem ty4 : TyOK Tryz.prog 4 bE := TyOK.mk' zk zk
theorem eqok48 : EqOK Tryz.prog 48 eAddr SAddr.eqb 3 := eqok_struct (fs := _) Tryz.underlying48 zk rfl (EqF.cons (by decide) rfl SAddr.l_v6 ty4 (fun d hd => (eqok_b Tryz.underlying4) d (by omega)) (EqF.cons (by decide) rfl SAddr.l_b ty46 (eqok_arr Tryz.underlying46 ty5 (eqok_u8 Tryz.underlying5)) EqF.nil)) (fun _ _ => rfl)
instance : DecidableEq SAddr := fun x y => decidable_of_iff (SAddr.eqb x y = true) (SAddr.eqb_iff x y)
@[simp] theorem SAddr.eqb_dec (x y : SAddr) : SAddr.eqb x y = decide (x = y) := by
  rw [Bool.eq_iff_iff, decide_eq_true_iff]
  exact SAddr.eqb_iff x y
theorem SAddr.eqb_self (x : SAddr) : SAddr.eqb x x = true := (SAddr.eqb_iff x x).2 rfl
def SPrefix.eqb (x y : SPrefix) : Bool := SAddr.eqb x.addr y.addr && (eqd x.bits y.bits && (true))
theorem SPrefix.eqb_iff (x y : SPrefix) : SPrefix.eqb x y = true ↔ x = y := by
  obtain ⟨a0, a1⟩ := x
  obtain ⟨b0, b1⟩ := y
  simp only [SPrefix.eqb, Bool.and_eq_true, SAddr.eqb_iff, eqd_iff, SPrefix.mk.injEq, and_true]
theorem ty3 : TyOK Tryz.prog 3 iE := TyOK.mk' zk zk
theorem ty48 : TyOK Tryz.prog 48 eAddr := TyOK.mk' zk zk
theorem eqok50 : EqOK Tryz.prog 50 ePrefix SPrefix.eqb 4 := eqok_struct (fs := _) Tryz.underlying50 zk rfl (EqF.cons (by decide) rfl SPrefix.l_addr ty48 eqok48 (EqF.cons (by decide) rfl SPrefix.l_bits ty3 (fun d hd => (eqok_i Tryz.underlying3) d (by omega)) EqF.nil)) (fun _ _ => rfl)
instance : DecidableEq SPrefix := fun x y => decidable_of_iff (SPrefix.eqb x y = true) (SPrefix.eqb_iff x y)
@[simp] theorem SPrefix.eqb_dec (x y : SPrefix) : SPrefix.eqb x y = decide (x = y) := by
  rw [Bool.eq_iff_iff, decide_eq_true_iff]
  exact SPrefix.eqb_iff x y
theorem SPrefix.eqb_self (x : SPrefix) : SPrefix.eqb x x = true := (SPrefix.eqb_iff x x).2 rfl
def SRoute.eqb (x y : SRoute) : Bool := SPrefix.eqb x.to_ y.to_ && (eqd x.out y.out && (true))
theorem SRoute.eqb_iff (x y : SRoute) : SRoute.eqb x y = true ↔ x = y := by
  obtain ⟨a0, a1⟩ := x
  obtain ⟨b0, b1⟩ := y
  simp only [SRoute.eqb, Bool.and_eq_true, SPrefix.eqb_iff, eqd_iff, SRoute.mk.injEq, and_true]
theorem ty50 : TyOK Tryz.prog 50 ePrefix := TyOK.mk' zk zk
theorem eqok52 : EqOK Tryz.prog 52 eRoute SRoute.eqb 5 := eqok_struct (fs := _) Tryz.underlying52 zk rfl (EqF.cons (by decide) rfl SRoute.l_to_ ty50 eqok50 (EqF.cons (by decide) rfl SRoute.l_out ty3 (fun d hd => (eqok_i Tryz.underlying3) d (by omega)) EqF.nil)) (fun _ _ => rfl)
instance : DecidableEq SRoute := fun x y => decidable_of_iff (SRoute.eqb x y = true) (SRoute.eqb_iff x y)
@[simp] theorem SRoute.eqb_dec (x y : SRoute) : SRoute.eqb x y = decide (x = y) := by
  rw [Bool.eq_iff_iff, decide_eq_true_iff]
  exact SRoute.eqb_iff x y
theorem SRoute.eqb_self (x : SRoute) : SRoute.eqb x x = true := (SRoute.eqb_iff x x).2 rfl
structure SBucket where
  num : UInt64
  den : UInt64
  burst : UInt64
def SBucket.to : (UInt64 × (UInt64 × UInt64)) → SBucket := fun x => ⟨x.1, x.2.1, x.2.2⟩
def SBucket.of : SBucket → (UInt64 × (UInt64 × UInt64)) := fun x => (x.num, x.den, x.burst)
def eBucket : Enc SBucket := isoE (prodE u64E (prodE u64E u64E)) SBucket.to SBucket.of
def SBucket.l_num : Lens eBucket u64E 0 := lIso _ SBucket.to SBucket.of (fun _ => rfl) (lFst u64E (prodE u64E u64E))
@[simp] theorem SBucket.get_num (x : SBucket) : SBucket.l_num.get x = x.num := rfl
@[simp] theorem SBucket.set_num (x : SBucket) (y : UInt64) : SBucket.l_num.set x y = { x with num := y } := rfl
def SBucket.l_den : Lens eBucket u64E 1 := lIso _ SBucket.to SBucket.of (fun _ => rfl) (Lens.comp (lSnd u64E (prodE u64E u64E)) (lFst u64E u64E))
@[simp] theorem SBucket.get_den (x : SBucket) : SBucket.l_den.get x = x.den := rfl
@[simp] theorem SBucket.set_den (x : SBucket) (y : UInt64) : SBucket.l_den.set x y = { x with den := y } := rfl
def SBucket.l_burst : Lens eBucket u64E 2 := lIso _ SBucket.to SBucket.of (fun _ => rfl) (Lens.comp (lSnd u64E (prodE u64E u64E)) (Lens.comp (lSnd u64E u64E) (Lens.id u64E)))
@[simp] theorem SBucket.get_burst (x : SBucket) : SBucket.l_burst.get x = x.burst := rfl
@[simp] theorem SBucket.set_burst (x : SBucket) (y : UInt64) : SBucket.l_burst.set x y = { x with burst := y } := rfl
structure SMeterConf where
  name : ByteArray
  bucket : SBucket
def SMeterConf.to : (ByteArray × SBucket) → SMeterConf := fun x => ⟨x.1, x.2⟩
def SMeterConf.of : SMeterConf → (ByteArray × SBucket) := fun x => (x.name, x.bucket)
def eMeterConf : Enc SMeterConf := isoE (prodE sE eBucket) SMeterConf.to SMeterConf.of
def SMeterConf.l_name : Lens eMeterConf sE 0 := lIso _ SMeterConf.to SMeterConf.of (fun _ => rfl) (lFst sE eBucket)
@[simp] theorem SMeterConf.get_name (x : SMeterConf) : SMeterConf.l_name.get x = x.name := rfl
@[simp] theorem SMeterConf.set_name (x : SMeterConf) (y : ByteArray) : SMeterConf.l_name.set x y = { x with name := y } := rfl
def SMeterConf.l_bucket : Lens eMeterConf eBucket 1 := lIso _ SMeterConf.to SMeterConf.of (fun _ => rfl) (Lens.comp (lSnd sE eBucket) (Lens.id eBucket))
@[simp] theorem SMeterConf.get_bucket (x : SMeterConf) : SMeterConf.l_bucket.get x = x.bucket := rfl
@[simp] theorem SMeterConf.set_bucket (x : SMeterConf) (y : SBucket) : SMeterConf.l_bucket.set x y = { x with bucket := y } := rfl
def SBucket.eqb (x y : SBucket) : Bool := eqd x.num y.num && (eqd x.den y.den && (eqd x.burst y.burst && (true)))
theorem SBucket.eqb_iff (x y : SBucket) : SBucket.eqb x y = true ↔ x = y := by
  obtain ⟨a0, a1, a2⟩ := x
  obtain ⟨b0, b1, b2⟩ := y
  simp only [SBucket.eqb, Bool.and_eq_true, eqd_iff, eqd_iff, eqd_iff, SBucket.mk.injEq, and_true]
theorem ty53 : TyOK Tryz.prog 53 u64E := TyOK.mk' zk zk
theorem eqok55 : EqOK Tryz.prog 55 eBucket SBucket.eqb 2 := eqok_struct (fs := _) Tryz.underlying55 zk rfl (EqF.cons (by decide) rfl SBucket.l_num ty53 (eqok_u64 Tryz.underlying53) (EqF.cons (by decide) rfl SBucket.l_den ty53 (eqok_u64 Tryz.underlying53) (EqF.cons (by decide) rfl SBucket.l_burst ty53 (eqok_u64 Tryz.underlying53) EqF.nil))) (fun _ _ => rfl)
instance : DecidableEq SBucket := fun x y => decidable_of_iff (SBucket.eqb x y = true) (SBucket.eqb_iff x y)
@[simp] theorem SBucket.eqb_dec (x y : SBucket) : SBucket.eqb x y = decide (x = y) := by
  rw [Bool.eq_iff_iff, decide_eq_true_iff]
  exact SBucket.eqb_iff x y
theorem SBucket.eqb_self (x : SBucket) : SBucket.eqb x x = true := (SBucket.eqb_iff x x).2 rfl
def SMeterConf.eqb (x y : SMeterConf) : Bool := eqs x.name y.name && (SBucket.eqb x.bucket y.bucket && (true))
theorem SMeterConf.eqb_iff (x y : SMeterConf) : SMeterConf.eqb x y = true ↔ x = y := by
  obtain ⟨a0, a1⟩ := x
  obtain ⟨b0, b1⟩ := y
  simp only [SMeterConf.eqb, Bool.and_eq_true, eqs_iff, SBucket.eqb_iff, SMeterConf.mk.injEq, and_true]
theorem ty55 : TyOK Tryz.prog 55 eBucket := TyOK.mk' zk zk
theorem ty9 : TyOK Tryz.prog 9 sE := TyOK.mk' zk zk
theorem eqok57 : EqOK Tryz.prog 57 eMeterConf SMeterConf.eqb 3 := eqok_struct (fs := _) Tryz.underlying57 zk rfl (EqF.cons (by decide) rfl SMeterConf.l_name ty9 (fun d hd => (eqok_s Tryz.underlying9) d (by omega)) (EqF.cons (by decide) rfl SMeterConf.l_bucket ty55 eqok55 EqF.nil)) (fun _ _ => rfl)
instance : DecidableEq SMeterConf := fun x y => decidable_of_iff (SMeterConf.eqb x y = true) (SMeterConf.eqb_iff x y)
@[simp] theorem SMeterConf.eqb_dec (x y : SMeterConf) : SMeterConf.eqb x y = decide (x = y) := by
  rw [Bool.eq_iff_iff, decide_eq_true_iff]
  exact SMeterConf.eqb_iff x y
theorem SMeterConf.eqb_self (x : SMeterConf) : SMeterConf.eqb x x = true := (SMeterConf.eqb_iff x x).2 rfl
structure SMirrorConf where
  name : ByteArray
  out : Int
  room : Int
def SMirrorConf.to : (ByteArray × (Int × Int)) → SMirrorConf := fun x => ⟨x.1, x.2.1, x.2.2⟩
def SMirrorConf.of : SMirrorConf → (ByteArray × (Int × Int)) := fun x => (x.name, x.out, x.room)
def eMirrorConf : Enc SMirrorConf := isoE (prodE sE (prodE iE iE)) SMirrorConf.to SMirrorConf.of
def SMirrorConf.l_name : Lens eMirrorConf sE 0 := lIso _ SMirrorConf.to SMirrorConf.of (fun _ => rfl) (lFst sE (prodE iE iE))
@[simp] theorem SMirrorConf.get_name (x : SMirrorConf) : SMirrorConf.l_name.get x = x.name := rfl
@[simp] theorem SMirrorConf.set_name (x : SMirrorConf) (y : ByteArray) : SMirrorConf.l_name.set x y = { x with name := y } := rfl
def SMirrorConf.l_out : Lens eMirrorConf iE 1 := lIso _ SMirrorConf.to SMirrorConf.of (fun _ => rfl) (Lens.comp (lSnd sE (prodE iE iE)) (lFst iE iE))
@[simp] theorem SMirrorConf.get_out (x : SMirrorConf) : SMirrorConf.l_out.get x = x.out := rfl
@[simp] theorem SMirrorConf.set_out (x : SMirrorConf) (y : Int) : SMirrorConf.l_out.set x y = { x with out := y } := rfl
def SMirrorConf.l_room : Lens eMirrorConf iE 2 := lIso _ SMirrorConf.to SMirrorConf.of (fun _ => rfl) (Lens.comp (lSnd sE (prodE iE iE)) (Lens.comp (lSnd iE iE) (Lens.id iE)))
@[simp] theorem SMirrorConf.get_room (x : SMirrorConf) : SMirrorConf.l_room.get x = x.room := rfl
@[simp] theorem SMirrorConf.set_room (x : SMirrorConf) (y : Int) : SMirrorConf.l_room.set x y = { x with room := y } := rfl
def SMirrorConf.eqb (x y : SMirrorConf) : Bool := eqs x.name y.name && (eqd x.out y.out && (eqd x.room y.room && (true)))
theorem SMirrorConf.eqb_iff (x y : SMirrorConf) : SMirrorConf.eqb x y = true ↔ x = y := by
  obtain ⟨a0, a1, a2⟩ := x
  obtain ⟨b0, b1, b2⟩ := y
  simp only [SMirrorConf.eqb, Bool.and_eq_true, eqs_iff, eqd_iff, eqd_iff, SMirrorConf.mk.injEq, and_true]
theorem eqok59 : EqOK Tryz.prog 59 eMirrorConf SMirrorConf.eqb 2 := eqok_struct (fs := _) Tryz.underlying59 zk rfl (EqF.cons (by decide) rfl SMirrorConf.l_name ty9 (eqok_s Tryz.underlying9) (EqF.cons (by decide) rfl SMirrorConf.l_out ty3 (eqok_i Tryz.underlying3) (EqF.cons (by decide) rfl SMirrorConf.l_room ty3 (eqok_i Tryz.underlying3) EqF.nil))) (fun _ _ => rfl)
instance : DecidableEq SMirrorConf := fun x y => decidable_of_iff (SMirrorConf.eqb x y = true) (SMirrorConf.eqb_iff x y)
@[simp] theorem SMirrorConf.eqb_dec (x y : SMirrorConf) : SMirrorConf.eqb x y = decide (x = y) := by
  rw [Bool.eq_iff_iff, decide_eq_true_iff]
  exact SMirrorConf.eqb_iff x y
theorem SMirrorConf.eqb_self (x : SMirrorConf) : SMirrorConf.eqb x x = true := (SMirrorConf.eqb_iff x x).2 rfl
structure SSpan where
  from_ : UInt16
  to_ : UInt16
def SSpan.to : (UInt16 × UInt16) → SSpan := fun x => ⟨x.1, x.2⟩
def SSpan.of : SSpan → (UInt16 × UInt16) := fun x => (x.from_, x.to_)
def eSpan : Enc SSpan := isoE (prodE u16E u16E) SSpan.to SSpan.of
def SSpan.l_from_ : Lens eSpan u16E 0 := lIso _ SSpan.to SSpan.of (fun _ => rfl) (lFst u16E u16E)
@[simp] theorem SSpan.get_from_ (x : SSpan) : SSpan.l_from_.get x = x.from_ := rfl
@[simp] theorem SSpan.set_from_ (x : SSpan) (y : UInt16) : SSpan.l_from_.set x y = { x with from_ := y } := rfl
def SSpan.l_to_ : Lens eSpan u16E 1 := lIso _ SSpan.to SSpan.of (fun _ => rfl) (Lens.comp (lSnd u16E u16E) (Lens.id u16E))
@[simp] theorem SSpan.get_to_ (x : SSpan) : SSpan.l_to_.get x = x.to_ := rfl
@[simp] theorem SSpan.set_to_ (x : SSpan) (y : UInt16) : SSpan.l_to_.set x y = { x with to_ := y } := rfl
structure SMatch where
  asks : UInt8
  in_ : SSpan
  src : SPrefix
  dst : SPrefix
  proto : UInt8
  srcPort : SSpan
  dstPort : SSpan
def SMatch.to : (UInt8 × (SSpan × (SPrefix × (SPrefix × (UInt8 × (SSpan × SSpan)))))) → SMatch := fun x => ⟨x.1, x.2.1, x.2.2.1, x.2.2.2.1, x.2.2.2.2.1, x.2.2.2.2.2.1, x.2.2.2.2.2.2⟩
def SMatch.of : SMatch → (UInt8 × (SSpan × (SPrefix × (SPrefix × (UInt8 × (SSpan × SSpan)))))) := fun x => (x.asks, x.in_, x.src, x.dst, x.proto, x.srcPort, x.dstPort)
def eMatch : Enc SMatch := isoE (prodE u8E (prodE eSpan (prodE ePrefix (prodE ePrefix (prodE u8E (prodE eSpan eSpan)))))) SMatch.to SMatch.of
def SMatch.l_asks : Lens eMatch u8E 0 := lIso _ SMatch.to SMatch.of (fun _ => rfl) (lFst u8E (prodE eSpan (prodE ePrefix (prodE ePrefix (prodE u8E (prodE eSpan eSpan))))))
@[simp] theorem SMatch.get_asks (x : SMatch) : SMatch.l_asks.get x = x.asks := rfl
@[simp] theorem SMatch.set_asks (x : SMatch) (y : UInt8) : SMatch.l_asks.set x y = { x with asks := y } := rfl
def SMatch.l_in_ : Lens eMatch eSpan 1 := lIso _ SMatch.to SMatch.of (fun _ => rfl) (Lens.comp (lSnd u8E (prodE eSpan (prodE ePrefix (prodE ePrefix (prodE u8E (prodE eSpan eSpan)))))) (lFst eSpan (prodE ePrefix (prodE ePrefix (prodE u8E (prodE eSpan eSpan))))))
@[simp] theorem SMatch.get_in_ (x : SMatch) : SMatch.l_in_.get x = x.in_ := rfl
@[simp] theorem SMatch.set_in_ (x : SMatch) (y : SSpan) : SMatch.l_in_.set x y = { x with in_ := y } := rfl
def SMatch.l_src : Lens eMatch ePrefix 3 := lIso _ SMatch.to SMatch.of (fun _ => rfl) (Lens.comp (lSnd u8E (prodE eSpan (prodE ePrefix (prodE ePrefix (prodE u8E (prodE eSpan eSpan)))))) (Lens.comp (lSnd eSpan (prodE ePrefix (prodE ePrefix (prodE u8E (prodE eSpan eSpan))))) (lFst ePrefix (prodE ePrefix (prodE u8E (prodE eSpan eSpan))))))
@[simp] theorem SMatch.get_src (x : SMatch) : SMatch.l_src.get x = x.src := rfl
@[simp] theorem SMatch.set_src (x : SMatch) (y : SPrefix) : SMatch.l_src.set x y = { x with src := y } := rfl
def SMatch.l_dst : Lens eMatch ePrefix 21 := lIso _ SMatch.to SMatch.of (fun _ => rfl) (Lens.comp (lSnd u8E (prodE eSpan (prodE ePrefix (prodE ePrefix (prodE u8E (prodE eSpan eSpan)))))) (Lens.comp (lSnd eSpan (prodE ePrefix (prodE ePrefix (prodE u8E (prodE eSpan eSpan))))) (Lens.comp (lSnd ePrefix (prodE ePrefix (prodE u8E (prodE eSpan eSpan)))) (lFst ePrefix (prodE u8E (prodE eSpan eSpan))))))
@[simp] theorem SMatch.get_dst (x : SMatch) : SMatch.l_dst.get x = x.dst := rfl
@[simp] theorem SMatch.set_dst (x : SMatch) (y : SPrefix) : SMatch.l_dst.set x y = { x with dst := y } := rfl
def SMatch.l_proto : Lens eMatch u8E 39 := lIso _ SMatch.to SMatch.of (fun _ => rfl) (Lens.comp (lSnd u8E (prodE eSpan (prodE ePrefix (prodE ePrefix (prodE u8E (prodE eSpan eSpan)))))) (Lens.comp (lSnd eSpan (prodE ePrefix (prodE ePrefix (prodE u8E (prodE eSpan eSpan))))) (Lens.comp (lSnd ePrefix (prodE ePrefix (prodE u8E (prodE eSpan eSpan)))) (Lens.comp (lSnd ePrefix (prodE u8E (prodE eSpan eSpan))) (lFst u8E (prodE eSpan eSpan))))))
@[simp] theorem SMatch.get_proto (x : SMatch) : SMatch.l_proto.get x = x.proto := rfl
@[simp] theorem SMatch.set_proto (x : SMatch) (y : UInt8) : SMatch.l_proto.set x y = { x with proto := y } := rfl
def SMatch.l_srcPort : Lens eMatch eSpan 40 := lIso _ SMatch.to SMatch.of (fun _ => rfl) (Lens.comp (lSnd u8E (prodE eSpan (prodE ePrefix (prodE ePrefix (prodE u8E (prodE eSpan eSpan)))))) (Lens.comp (lSnd eSpan (prodE ePrefix (prodE ePrefix (prodE u8E (prodE eSpan eSpan))))) (Lens.comp (lSnd ePrefix (prodE ePrefix (prodE u8E (prodE eSpan eSpan)))) (Lens.comp (lSnd ePrefix (prodE u8E (prodE eSpan eSpan))) (Lens.comp (lSnd u8E (prodE eSpan eSpan)) (lFst eSpan eSpan))))))
@[simp] theorem SMatch.get_srcPort (x : SMatch) : SMatch.l_srcPort.get x = x.srcPort := rfl
@[simp] theorem SMatch.set_srcPort (x : SMatch) (y : SSpan) : SMatch.l_srcPort.set x y = { x with srcPort := y } := rfl
def SMatch.l_dstPort : Lens eMatch eSpan 42 := lIso _ SMatch.to SMatch.of (fun _ => rfl) (Lens.comp (lSnd u8E (prodE eSpan (prodE ePrefix (prodE ePrefix (prodE u8E (prodE eSpan eSpan)))))) (Lens.comp (lSnd eSpan (prodE ePrefix (prodE ePrefix (prodE u8E (prodE eSpan eSpan))))) (Lens.comp (lSnd ePrefix (prodE ePrefix (prodE u8E (prodE eSpan eSpan)))) (Lens.comp (lSnd ePrefix (prodE u8E (prodE eSpan eSpan))) (Lens.comp (lSnd u8E (prodE eSpan eSpan)) (Lens.comp (lSnd eSpan eSpan) (Lens.id eSpan)))))))
@[simp] theorem SMatch.get_dstPort (x : SMatch) : SMatch.l_dstPort.get x = x.dstPort := rfl
@[simp] theorem SMatch.set_dstPort (x : SMatch) (y : SSpan) : SMatch.l_dstPort.set x y = { x with dstPort := y } := rfl
structure SRule where
  name : ByteArray
  match_ : SMatch
  action : Int
  out : Int
  meter : ByteArray
  mirror : ByteArray
def SRule.to : (ByteArray × (SMatch × (Int × (Int × (ByteArray × ByteArray))))) → SRule := fun x => ⟨x.1, x.2.1, x.2.2.1, x.2.2.2.1, x.2.2.2.2.1, x.2.2.2.2.2⟩
def SRule.of : SRule → (ByteArray × (SMatch × (Int × (Int × (ByteArray × ByteArray))))) := fun x => (x.name, x.match_, x.action, x.out, x.meter, x.mirror)
def eRule : Enc SRule := isoE (prodE sE (prodE eMatch (prodE iE (prodE iE (prodE sE sE))))) SRule.to SRule.of
def SRule.l_name : Lens eRule sE 0 := lIso _ SRule.to SRule.of (fun _ => rfl) (lFst sE (prodE eMatch (prodE iE (prodE iE (prodE sE sE)))))
@[simp] theorem SRule.get_name (x : SRule) : SRule.l_name.get x = x.name := rfl
@[simp] theorem SRule.set_name (x : SRule) (y : ByteArray) : SRule.l_name.set x y = { x with name := y } := rfl
def SRule.l_match_ : Lens eRule eMatch 1 := lIso _ SRule.to SRule.of (fun _ => rfl) (Lens.comp (lSnd sE (prodE eMatch (prodE iE (prodE iE (prodE sE sE))))) (lFst eMatch (prodE iE (prodE iE (prodE sE sE)))))
@[simp] theorem SRule.get_match_ (x : SRule) : SRule.l_match_.get x = x.match_ := rfl
@[simp] theorem SRule.set_match_ (x : SRule) (y : SMatch) : SRule.l_match_.set x y = { x with match_ := y } := rfl
def SRule.l_action : Lens eRule iE 45 := lIso _ SRule.to SRule.of (fun _ => rfl) (Lens.comp (lSnd sE (prodE eMatch (prodE iE (prodE iE (prodE sE sE))))) (Lens.comp (lSnd eMatch (prodE iE (prodE iE (prodE sE sE)))) (lFst iE (prodE iE (prodE sE sE)))))
@[simp] theorem SRule.get_action (x : SRule) : SRule.l_action.get x = x.action := rfl
@[simp] theorem SRule.set_action (x : SRule) (y : Int) : SRule.l_action.set x y = { x with action := y } := rfl
def SRule.l_out : Lens eRule iE 46 := lIso _ SRule.to SRule.of (fun _ => rfl) (Lens.comp (lSnd sE (prodE eMatch (prodE iE (prodE iE (prodE sE sE))))) (Lens.comp (lSnd eMatch (prodE iE (prodE iE (prodE sE sE)))) (Lens.comp (lSnd iE (prodE iE (prodE sE sE))) (lFst iE (prodE sE sE)))))
@[simp] theorem SRule.get_out (x : SRule) : SRule.l_out.get x = x.out := rfl
@[simp] theorem SRule.set_out (x : SRule) (y : Int) : SRule.l_out.set x y = { x with out := y } := rfl
def SRule.l_meter : Lens eRule sE 47 := lIso _ SRule.to SRule.of (fun _ => rfl) (Lens.comp (lSnd sE (prodE eMatch (prodE iE (prodE iE (prodE sE sE))))) (Lens.comp (lSnd eMatch (prodE iE (prodE iE (prodE sE sE)))) (Lens.comp (lSnd iE (prodE iE (prodE sE sE))) (Lens.comp (lSnd iE (prodE sE sE)) (lFst sE sE)))))
@[simp] theorem SRule.get_meter (x : SRule) : SRule.l_meter.get x = x.meter := rfl
@[simp] theorem SRule.set_meter (x : SRule) (y : ByteArray) : SRule.l_meter.set x y = { x with meter := y } := rfl
def SRule.l_mirror : Lens eRule sE 48 := lIso _ SRule.to SRule.of (fun _ => rfl) (Lens.comp (lSnd sE (prodE eMatch (prodE iE (prodE iE (prodE sE sE))))) (Lens.comp (lSnd eMatch (prodE iE (prodE iE (prodE sE sE)))) (Lens.comp (lSnd iE (prodE iE (prodE sE sE))) (Lens.comp (lSnd iE (prodE sE sE)) (Lens.comp (lSnd sE sE) (Lens.id sE))))))
@[simp] theorem SRule.get_mirror (x : SRule) : SRule.l_mirror.get x = x.mirror := rfl
@[simp] theorem SRule.set_mirror (x : SRule) (y : ByteArray) : SRule.l_mirror.set x y = { x with mirror := y } := rfl
def SSpan.eqb (x y : SSpan) : Bool := eqd x.from_ y.from_ && (eqd x.to_ y.to_ && (true))
theorem SSpan.eqb_iff (x y : SSpan) : SSpan.eqb x y = true ↔ x = y := by
  obtain ⟨a0, a1⟩ := x
  obtain ⟨b0, b1⟩ := y
  simp only [SSpan.eqb, Bool.and_eq_true, eqd_iff, eqd_iff, SSpan.mk.injEq, and_true]
theorem ty70 : TyOK Tryz.prog 70 u16E := TyOK.mk' zk zk
theorem eqok72 : EqOK Tryz.prog 72 eSpan SSpan.eqb 2 := eqok_struct (fs := _) Tryz.underlying72 zk rfl (EqF.cons (by decide) rfl SSpan.l_from_ ty70 (eqok_u16 Tryz.underlying70) (EqF.cons (by decide) rfl SSpan.l_to_ ty70 (eqok_u16 Tryz.underlying70) EqF.nil)) (fun _ _ => rfl)
instance : DecidableEq SSpan := fun x y => decidable_of_iff (SSpan.eqb x y = true) (SSpan.eqb_iff x y)
@[simp] theorem SSpan.eqb_dec (x y : SSpan) : SSpan.eqb x y = decide (x = y) := by
  rw [Bool.eq_iff_iff, decide_eq_true_iff]
  exact SSpan.eqb_iff x y
theorem SSpan.eqb_self (x : SSpan) : SSpan.eqb x x = true := (SSpan.eqb_iff x x).2 rfl
def SMatch.eqb (x y : SMatch) : Bool := eqd x.asks y.asks && (SSpan.eqb x.in_ y.in_ && (SPrefix.eqb x.src y.src && (SPrefix.eqb x.dst y.dst && (eqd x.proto y.proto && (SSpan.eqb x.srcPort y.srcPort && (SSpan.eqb x.dstPort y.dstPort && (true)))))))
theorem SMatch.eqb_iff (x y : SMatch) : SMatch.eqb x y = true ↔ x = y := by
  obtain ⟨a0, a1, a2, a3, a4, a5, a6⟩ := x
  obtain ⟨b0, b1, b2, b3, b4, b5, b6⟩ := y
  simp only [SMatch.eqb, Bool.and_eq_true, eqd_iff, SSpan.eqb_iff, SPrefix.eqb_iff, SPrefix.eqb_iff, eqd_iff, SSpan.eqb_iff, SSpan.eqb_iff, SMatch.mk.injEq, and_true]
theorem ty72 : TyOK Tryz.prog 72 eSpan := TyOK.mk' zk zk
theorem eqok74 : EqOK Tryz.prog 74 eMatch SMatch.eqb 5 := eqok_struct (fs := _) Tryz.underlying74 zk rfl (EqF.cons (by decide) rfl SMatch.l_asks ty5 (fun d hd => (eqok_u8 Tryz.underlying5) d (by omega)) (EqF.cons (by decide) rfl SMatch.l_in_ ty72 (fun d hd => eqok72 d (by omega)) (EqF.cons (by decide) rfl SMatch.l_src ty50 eqok50 (EqF.cons (by decide) rfl SMatch.l_dst ty50 eqok50 (EqF.cons (by decide) rfl SMatch.l_proto ty5 (fun d hd => (eqok_u8 Tryz.underlying5) d (by omega)) (EqF.cons (by decide) rfl SMatch.l_srcPort ty72 (fun d hd => eqok72 d (by omega)) (EqF.cons (by decide) rfl SMatch.l_dstPort ty72 (fun d hd => eqok72 d (by omega)) EqF.nil))))))) (fun _ _ => rfl)
instance : DecidableEq SMatch := fun x y => decidable_of_iff (SMatch.eqb x y = true) (SMatch.eqb_iff x y)
@[simp] theorem SMatch.eqb_dec (x y : SMatch) : SMatch.eqb x y = decide (x = y) := by
  rw [Bool.eq_iff_iff, decide_eq_true_iff]
  exact SMatch.eqb_iff x y
theorem SMatch.eqb_self (x : SMatch) : SMatch.eqb x x = true := (SMatch.eqb_iff x x).2 rfl
def SRule.eqb (x y : SRule) : Bool := eqs x.name y.name && (SMatch.eqb x.match_ y.match_ && (eqd x.action y.action && (eqd x.out y.out && (eqs x.meter y.meter && (eqs x.mirror y.mirror && (true))))))
theorem SRule.eqb_iff (x y : SRule) : SRule.eqb x y = true ↔ x = y := by
  obtain ⟨a0, a1, a2, a3, a4, a5⟩ := x
  obtain ⟨b0, b1, b2, b3, b4, b5⟩ := y
  simp only [SRule.eqb, Bool.and_eq_true, eqs_iff, SMatch.eqb_iff, eqd_iff, eqd_iff, eqs_iff, eqs_iff, SRule.mk.injEq, and_true]
theorem ty74 : TyOK Tryz.prog 74 eMatch := TyOK.mk' zk zk
theorem eqok76 : EqOK Tryz.prog 76 eRule SRule.eqb 6 := eqok_struct (fs := _) Tryz.underlying76 zk rfl (EqF.cons (by decide) rfl SRule.l_name ty9 (fun d hd => (eqok_s Tryz.underlying9) d (by omega)) (EqF.cons (by decide) rfl SRule.l_match_ ty74 eqok74 (EqF.cons (by decide) rfl SRule.l_action ty3 (fun d hd => (eqok_i Tryz.underlying3) d (by omega)) (EqF.cons (by decide) rfl SRule.l_out ty3 (fun d hd => (eqok_i Tryz.underlying3) d (by omega)) (EqF.cons (by decide) rfl SRule.l_meter ty9 (fun d hd => (eqok_s Tryz.underlying9) d (by omega)) (EqF.cons (by decide) rfl SRule.l_mirror ty9 (fun d hd => (eqok_s Tryz.underlying9) d (by omega)) EqF.nil)))))) (fun _ _ => rfl)
instance : DecidableEq SRule := fun x y => decidable_of_iff (SRule.eqb x y = true) (SRule.eqb_iff x y)
@[simp] theorem SRule.eqb_dec (x y : SRule) : SRule.eqb x y = decide (x = y) := by
  rw [Bool.eq_iff_iff, decide_eq_true_iff]
  exact SRule.eqb_iff x y
theorem SRule.eqb_self (x : SRule) : SRule.eqb x x = true := (SRule.eqb_iff x x).2 rfl
theorem ck48 : CkOK Tryz.prog 48 eAddr 3 := ck_struct Tryz.underlying48 rfl (CkF.cons (by decide) rfl SAddr.l_v6 ty4 ((ck_b Tryz.underlying4).up (by decide)) (CkF.cons (by decide) rfl SAddr.l_b ty46 (ck_arr Tryz.underlying46 ty5 (ck_int u8E (fun _ => rfl) Tryz.underlying5)) CkF.nil))
theorem ck50 : CkOK Tryz.prog 50 ePrefix 4 := ck_struct Tryz.underlying50 rfl (CkF.cons (by decide) rfl SPrefix.l_addr ty48 ck48 (CkF.cons (by decide) rfl SPrefix.l_bits ty3 ((ck_int iE (fun _ => rfl) Tryz.underlying3).up (by decide)) CkF.nil))
theorem ck52 : CkOK Tryz.prog 52 eRoute 5 := ck_struct Tryz.underlying52 rfl (CkF.cons (by decide) rfl SRoute.l_to_ ty50 ck50 (CkF.cons (by decide) rfl SRoute.l_out ty3 ((ck_int iE (fun _ => rfl) Tryz.underlying3).up (by decide)) CkF.nil))
theorem key52 : KeyOK Tryz.prog 52 eRoute SRoute.eqb := key_agg rfl eqok52 (by decide) ck52 (by decide) (bit_iso (bit_prod (bit_iso (bit_prod (bit_iso (bit_prod bit_b (bit_arr (bit_int u8E (fun _ => rfl))))) (bit_int iE (fun _ => rfl)))) (bit_int iE (fun _ => rfl)))) SRoute.eqb_iff
theorem ck55 : CkOK Tryz.prog 55 eBucket 2 := ck_struct Tryz.underlying55 rfl (CkF.cons (by decide) rfl SBucket.l_num ty53 (ck_int u64E (fun _ => rfl) Tryz.underlying53) (CkF.cons (by decide) rfl SBucket.l_den ty53 (ck_int u64E (fun _ => rfl) Tryz.underlying53) (CkF.cons (by decide) rfl SBucket.l_burst ty53 (ck_int u64E (fun _ => rfl) Tryz.underlying53) CkF.nil)))
theorem ck57 : CkOK Tryz.prog 57 eMeterConf 3 := ck_struct Tryz.underlying57 rfl (CkF.cons (by decide) rfl SMeterConf.l_name ty9 ((ck_s Tryz.underlying9).up (by decide)) (CkF.cons (by decide) rfl SMeterConf.l_bucket ty55 ck55 CkF.nil))
theorem key57 : KeyOK Tryz.prog 57 eMeterConf SMeterConf.eqb := key_agg rfl eqok57 (by decide) ck57 (by decide) (bit_iso (bit_prod bit_s (bit_iso (bit_prod (bit_int u64E (fun _ => rfl)) (bit_prod (bit_int u64E (fun _ => rfl)) (bit_int u64E (fun _ => rfl))))))) SMeterConf.eqb_iff
theorem ck59 : CkOK Tryz.prog 59 eMirrorConf 2 := ck_struct Tryz.underlying59 rfl (CkF.cons (by decide) rfl SMirrorConf.l_name ty9 (ck_s Tryz.underlying9) (CkF.cons (by decide) rfl SMirrorConf.l_out ty3 (ck_int iE (fun _ => rfl) Tryz.underlying3) (CkF.cons (by decide) rfl SMirrorConf.l_room ty3 (ck_int iE (fun _ => rfl) Tryz.underlying3) CkF.nil)))
theorem key59 : KeyOK Tryz.prog 59 eMirrorConf SMirrorConf.eqb := key_agg rfl eqok59 (by decide) ck59 (by decide) (bit_iso (bit_prod bit_s (bit_prod (bit_int iE (fun _ => rfl)) (bit_int iE (fun _ => rfl))))) SMirrorConf.eqb_iff
theorem key50 : KeyOK Tryz.prog 50 ePrefix SPrefix.eqb := key_agg rfl eqok50 (by decide) ck50 (by decide) (bit_iso (bit_prod (bit_iso (bit_prod bit_b (bit_arr (bit_int u8E (fun _ => rfl))))) (bit_int iE (fun _ => rfl)))) SPrefix.eqb_iff
theorem key3 : KeyOK Tryz.prog 3 iE eqd := key_i Tryz.underlying3
theorem key9 : KeyOK Tryz.prog 9 sE eqs := key_s Tryz.underlying9
def firstN {α κ : Type} (q : κ → κ → Bool) (f : α → κ) (l : List α) : Nat → List (κ × Int)
  | 0 => []
  | n + 1 => match l[n]? with
    | none => firstN q f l n
    | some x => if (findV q (f x) (firstN q f l n)).isSome then firstN q f l n else putL q (f x) (n : Int) (firstN q f l n)
theorem firstN_has {α κ : Type} (q : κ → κ → Bool) (f : α → κ) (l : List α) (z : α) {n : Nat} (h : n < l.length) (hs : (findV q (f (l.getD n z)) (firstN q f l n)).isSome = true) : firstN q f l (n + 1) = firstN q f l n := by
  have e : l[n]? = some (l.getD n z) := by simp [List.getD, List.getElem?_eq_getElem h]
  rw [firstN, e]
  simp only [hs, if_true]
theorem firstN_new {α κ : Type} (q : κ → κ → Bool) (f : α → κ) (l : List α) (z : α) {n : Nat} (h : n < l.length) (hs : ¬ (findV q (f (l.getD n z)) (firstN q f l n)).isSome = true) : firstN q f l (n + 1) = putL q (f (l.getD n z)) (n : Int) (firstN q f l n) := by
  have e : l[n]? = some (l.getD n z) := by simp [List.getD, List.getElem?_eq_getElem h]
  rw [firstN, e]
  simp only [hs, Bool.false_eq_true, if_false]
theorem firstN_hasI {α κ : Type} (q : κ → κ → Bool) (f : α → κ) (l : List α) (z : α) {i : Int} (h : 0 ≤ i ∧ i < l.length) (hs : (findV q (f (l.getD i.toNat z)) (firstN q f l i.toNat)).isSome = true) : firstN q f l (i + 1).toNat = firstN q f l i.toNat := by
  have e : (i + 1).toNat = i.toNat + 1 := by omega
  rw [e]
  exact firstN_has q f l z (by omega) hs
theorem firstN_newI {α κ : Type} (q : κ → κ → Bool) (f : α → κ) (l : List α) (z : α) {i : Int} (h : 0 ≤ i ∧ i < l.length) (hs : (findV q (f (l.getD i.toNat z)) (firstN q f l i.toNat)).isSome = false) : firstN q f l (i + 1).toNat = putL q (f (l.getD i.toNat z)) i (firstN q f l i.toNat) := by
  have e : (i + 1).toNat = i.toNat + 1 := by omega
  have e2 : ((i.toNat : Nat) : Int) = i := by omega
  rw [e, firstN_new q f l z (by omega) (by rw [hs]; exact Bool.false_ne_true), e2]
theorem ty52 : TyOK Tryz.prog 52 eRoute := TyOK.mk' zk zk
theorem z52 : (Tryz.prog.info? 52).bind (·.zero) = some (eRoute.val eRoute.zero) := by kernel_rfl
theorem z3 : (Tryz.prog.info? 3).bind (·.zero) = some (iE.val iE.zero) := by kernel_rfl
theorem first_50_52 (f : Nat) (cap : List Value) (kf : SRoute → SPrefix) (u : Value) (xs : List SRoute) (w : World) (hen : Enters Tryz.prog f) (hl : IsSl eRoute w u xs) (hk : FnAt Tryz.prog f cap Nope w eRoute ePrefix (fun _ => True) kf) : Calls Tryz.prog 107 #[u, (clo f cap).v] w (RetN w (fun _ : Nat => True) (fun b => .map (some b)) (fun b => [MapR b ePrefix iE (firstN SPrefix.eqb kf xs xs.length)])) := by
  have hle := hl.le
  refine en0 35 Tryz.func107 ?_
  refine sg (co (Ev.assign (.c (v := (Go.Value.map none)) rfl)) ?_)
  refine nP (sg (cons (makeMap (E := ePrefix) (V := iE) (fun b1 => ?_))))
  refine asn rfl (nP (seq (sg (mv rfl (co (Ev.len Tryz.underlying23 (.t rfl) zf) ?_)))))
  refine co (Ev.move (.c (v := I 0) rfl)) ?_
  refine nP (block (lp (X := Int) (fun x : Int => (0 ≤ x ∧ x ≤ xs.length)) (fun x : Int => [(1, true, (clo f cap).v), (5, true, .map (some b1)), (11, true, u), (12, true, I xs.length), (13, true, I x)]) (fun x : Int => [MapR b1 ePrefix iE (firstN SPrefix.eqb kf xs x.toNat)]) (fun x : Int => ((xs.length : Int) - x).toNat) (0) ?_ (fun x hx => ?_)))
  · omega
  obtain ⟨i, rfl⟩ : ∃ y, y = x := ⟨x, rfl⟩
  have hi : 0 ≤ i ∧ i ≤ xs.length := hx
  clear hx
  show Sat _ _ [(1, true, (clo f cap).v), (5, true, .map (some b1)), (11, true, u), (12, true, I xs.length), (13, true, I i)] [MapR b1 ePrefix iE (firstN SPrefix.eqb kf xs i.toNat)]
  refine sg (co (Ev.lss_i (.t rfl) (.t rfl)) ?_)
  refine nP (seq ?_)
  first | refine condD rfl (fun h0 => ?_) (fun h0 => ?_) | refine cond rfl (fun h0 => ?_) (fun h0 => ?_)
  · try simp only [nb] at h0
    refine skip (pN (seq (block (sg (mv rfl (co (Ev.indexAddr Tryz.underlying23 ty52 (.t rfl) (.t rfl) (fun w I => hl.keep0 I.keeps) (fun _ => zo)) ?_))))))
    refine co (Ev.loadS0 ty52 (.t rfl) (fun w I => hl.keep0 I.keeps) (fun _ => zo)) ?_
    refine cons (alloc z52 (fun b2 => ?_))
    refine asn rfl (cons (stv ty52 (Lens.id _) (.t rfl) (.t rfl) ?_))
    refine nP (sg (mv rfl (mv rfl (co (Ev.ldv ty52 (.t rfl) (Lens.id _)) ?_))))
    refine cons (callcv (.t rfl) hen (.cons (.t rfl) .nil) (fun w I => hk.call trivial w I) ?_)
    refine co (Ev.lookupT Tryz.underlying81 Tryz.underlying50 key50 z3 (.t rfl) (.t rfl) (fun _ => (by first | exact mapAt_own (by repeat first | exact mH | apply mT | apply mA) | exact mapAt_stamp (by repeat first | exact mH | apply mT | apply mA) | exact fun w I => MapAt.keep0 (by assumption) I.keeps))) ?_
    refine mv rfl (co (Ev.extract (.t rfl) rfl) (co (Ev.extract (.t rfl) rfl) (asn rfl (asn rfl (nP (sg (mv rfl (co (Ev.not (.t rfl)) ?_))))))))
    refine nP ?_
    first | refine condD rfl (fun h1 => ?_) (fun h1 => ?_) | refine cond rfl (fun h1 => ?_) (fun h1 => ?_)
    · try simp only [nb] at h1
      refine region (mv rfl (mv rfl (co (Ev.ldv ty52 (.t rfl) (Lens.id _)) ?_)))
      refine cons (callcv (.t rfl) hen (.cons (.t rfl) .nil) (fun w I => hk.call trivial w I) ?_)
      refine mv rfl (cons (mapUpdate Tryz.underlying81 Tryz.underlying50 key50 (.t rfl) (.t rfl) (.t rfl) zu ?_))
      refine nil (bN (pN (region (co (Ev.add_i (.t rfl) (.c (v := I 1) rfl) (fun _ => zo)) ?_))))
      refine mv rfl (nP (nx (X := Int) (i + 1) ?_ ?_ (hL := (by (first | rw [firstN_hasI _ _ _ eRoute.zero (by omega) h1] | rw [firstN_newI _ _ _ eRoute.zero (by omega) h1]); exact zs))))
      · try dsimp only
        omega
      · try dsimp only
        first | omega | (simp; omega)
    · try simp only [nb] at h1
      refine skip (bN (pN (region (co (Ev.add_i (.t rfl) (.c (v := I 1) rfl) (fun _ => zo)) ?_))))
      refine mv rfl (nP (nx (X := Int) (i + 1) ?_ ?_ (hL := (by (first | rw [firstN_hasI _ _ _ eRoute.zero (by omega) h1] | rw [firstN_newI _ _ _ eRoute.zero (by omega) h1]); exact zs))))
      · try dsimp only
        omega
      · try dsimp only
        first | omega | (simp; omega)
  · try simp only [nb] at h0
    refine exit (pX (pX (bX (pN (sg (mv rfl (asn rfl (nP (ret (done rfl (.tmp rfl .nil) (fun w I => ?_)))))))))))
    have hil : i.toNat = xs.length := by omega
    rw [hil] at I
    exact retN b1 trivial rfl zs w I
theorem first_3_3 (f : Nat) (cap : List Value) (kf : Int → Int) (u : Value) (xs : List Int) (w : World) (hen : Enters Tryz.prog f) (hl : IsSl iE w u xs) (hk : FnAt Tryz.prog f cap Nope w iE iE (fun _ => True) kf) : Calls Tryz.prog 105 #[u, (clo f cap).v] w (RetN w (fun _ : Nat => True) (fun b => .map (some b)) (fun b => [MapR b iE iE (firstN eqd kf xs xs.length)])) := by
  have hle := hl.le
  refine en0 35 Tryz.func105 ?_
  refine sg (co (Ev.assign (.c (v := (Go.Value.map none)) rfl)) ?_)
  refine nP (sg (cons (makeMap (E := iE) (V := iE) (fun b1 => ?_))))
  refine asn rfl (nP (seq (sg (mv rfl (co (Ev.len Tryz.underlying22 (.t rfl) zf) ?_)))))
  refine co (Ev.move (.c (v := I 0) rfl)) ?_
  refine nP (block (lp (X := Int) (fun x : Int => (0 ≤ x ∧ x ≤ xs.length)) (fun x : Int => [(1, true, (clo f cap).v), (5, true, .map (some b1)), (11, true, u), (12, true, I xs.length), (13, true, I x)]) (fun x : Int => [MapR b1 iE iE (firstN eqd kf xs x.toNat)]) (fun x : Int => ((xs.length : Int) - x).toNat) (0) ?_ (fun x hx => ?_)))
  · omega
  obtain ⟨i, rfl⟩ : ∃ y, y = x := ⟨x, rfl⟩
  have hi : 0 ≤ i ∧ i ≤ xs.length := hx
  clear hx
  show Sat _ _ [(1, true, (clo f cap).v), (5, true, .map (some b1)), (11, true, u), (12, true, I xs.length), (13, true, I i)] [MapR b1 iE iE (firstN eqd kf xs i.toNat)]
  refine sg (co (Ev.lss_i (.t rfl) (.t rfl)) ?_)
  refine nP (seq ?_)
  first | refine condD rfl (fun h0 => ?_) (fun h0 => ?_) | refine cond rfl (fun h0 => ?_) (fun h0 => ?_)
  · try simp only [nb] at h0
    refine skip (pN (seq (block (sg (mv rfl (co (Ev.indexAddr Tryz.underlying22 ty3 (.t rfl) (.t rfl) (fun w I => hl.keep0 I.keeps) (fun _ => zo)) ?_))))))
    refine co (Ev.loadS0 ty3 (.t rfl) (fun w I => hl.keep0 I.keeps) (fun _ => zo)) ?_
    refine asn rfl (asn rfl (nP (sg (mv rfl (mv rfl (mv rfl (cons (callcv (.t rfl) hen (.cons (.t rfl) .nil) (fun w I => hk.call trivial w I) ?_))))))))
    refine co (Ev.lookupT Tryz.underlying80 Tryz.underlying3 key3 z3 (.t rfl) (.t rfl) (fun _ => (by first | exact mapAt_own (by repeat first | exact mH | apply mT | apply mA) | exact mapAt_stamp (by repeat first | exact mH | apply mT | apply mA) | exact fun w I => MapAt.keep0 (by assumption) I.keeps))) ?_
    refine mv rfl (co (Ev.extract (.t rfl) rfl) (co (Ev.extract (.t rfl) rfl) (asn rfl (asn rfl (nP (sg (mv rfl (co (Ev.not (.t rfl)) ?_))))))))
    refine nP ?_
    first | refine condD rfl (fun h1 => ?_) (fun h1 => ?_) | refine cond rfl (fun h1 => ?_) (fun h1 => ?_)
    · try simp only [nb] at h1
      refine region (mv rfl (mv rfl (mv rfl (cons (callcv (.t rfl) hen (.cons (.t rfl) .nil) (fun w I => hk.call trivial w I) ?_)))))
      refine mv rfl (cons (mapUpdate Tryz.underlying80 Tryz.underlying3 key3 (.t rfl) (.t rfl) (.t rfl) zu ?_))
      refine nil (bN (pN (region (co (Ev.add_i (.t rfl) (.c (v := I 1) rfl) (fun _ => zo)) ?_))))
      refine mv rfl (nP (nx (X := Int) (i + 1) ?_ ?_ (hL := (by (first | rw [firstN_hasI _ _ _ iE.zero (by omega) h1] | rw [firstN_newI _ _ _ iE.zero (by omega) h1]); exact zs))))
      · try dsimp only
        omega
      · try dsimp only
        first | omega | (simp; omega)
    · try simp only [nb] at h1
      refine skip (bN (pN (region (co (Ev.add_i (.t rfl) (.c (v := I 1) rfl) (fun _ => zo)) ?_))))
      refine mv rfl (nP (nx (X := Int) (i + 1) ?_ ?_ (hL := (by (first | rw [firstN_hasI _ _ _ iE.zero (by omega) h1] | rw [firstN_newI _ _ _ iE.zero (by omega) h1]); exact zs))))
      · try dsimp only
        omega
      · try dsimp only
        first | omega | (simp; omega)
  · try simp only [nb] at h0
    refine exit (pX (pX (bX (pN (sg (mv rfl (asn rfl (nP (ret (done rfl (.tmp rfl .nil) (fun w I => ?_)))))))))))
    have hil : i.toNat = xs.length := by omega
    rw [hil] at I
    exact retN b1 trivial rfl zs w I
theorem ty76 : TyOK Tryz.prog 76 eRule := TyOK.mk' zk zk
theorem z76 : (Tryz.prog.info? 76).bind (·.zero) = some (eRule.val eRule.zero) := by kernel_rfl
theorem first_9_76 (f : Nat) (cap : List Value) (kf : SRule → ByteArray) (u : Value) (xs : List SRule) (w : World) (hen : Enters Tryz.prog f) (hl : IsSl eRule w u xs) (hk : FnAt Tryz.prog f cap Nope w eRule sE (fun _ => True) kf) : Calls Tryz.prog 97 #[u, (clo f cap).v] w (RetN w (fun _ : Nat => True) (fun b => .map (some b)) (fun b => [MapR b sE iE (firstN eqs kf xs xs.length)])) := by
  have hle := hl.le
  refine en0 35 Tryz.func97 ?_
  refine sg (co (Ev.assign (.c (v := (Go.Value.map none)) rfl)) ?_)
  refine nP (sg (cons (makeMap (E := sE) (V := iE) (fun b1 => ?_))))
  refine asn rfl (nP (seq (sg (mv rfl (co (Ev.len Tryz.underlying24 (.t rfl) zf) ?_)))))
  refine co (Ev.move (.c (v := I 0) rfl)) ?_
  refine nP (block (lp (X := Int) (fun x : Int => (0 ≤ x ∧ x ≤ xs.length)) (fun x : Int => [(1, true, (clo f cap).v), (5, true, .map (some b1)), (11, true, u), (12, true, I xs.length), (13, true, I x)]) (fun x : Int => [MapR b1 sE iE (firstN eqs kf xs x.toNat)]) (fun x : Int => ((xs.length : Int) - x).toNat) (0) ?_ (fun x hx => ?_)))
  · omega
  obtain ⟨i, rfl⟩ : ∃ y, y = x := ⟨x, rfl⟩
  have hi : 0 ≤ i ∧ i ≤ xs.length := hx
  clear hx
  show Sat _ _ [(1, true, (clo f cap).v), (5, true, .map (some b1)), (11, true, u), (12, true, I xs.length), (13, true, I i)] [MapR b1 sE iE (firstN eqs kf xs i.toNat)]
  refine sg (co (Ev.lss_i (.t rfl) (.t rfl)) ?_)
  refine nP (seq ?_)
  first | refine condD rfl (fun h0 => ?_) (fun h0 => ?_) | refine cond rfl (fun h0 => ?_) (fun h0 => ?_)
  · try simp only [nb] at h0
    refine skip (pN (seq (block (sg (mv rfl (co (Ev.indexAddr Tryz.underlying24 ty76 (.t rfl) (.t rfl) (fun w I => hl.keep0 I.keeps) (fun _ => zo)) ?_))))))
    refine co (Ev.loadS0 ty76 (.t rfl) (fun w I => hl.keep0 I.keeps) (fun _ => zo)) ?_
    refine cons (alloc z76 (fun b2 => ?_))
    refine asn rfl (cons (stv ty76 (Lens.id _) (.t rfl) (.t rfl) ?_))
    refine nP (sg (mv rfl (mv rfl (co (Ev.ldv ty76 (.t rfl) (Lens.id _)) ?_))))
    refine cons (callcv (.t rfl) hen (.cons (.t rfl) .nil) (fun w I => hk.call trivial w I) ?_)
    refine co (Ev.lookupT Tryz.underlying82 Tryz.underlying9 key9 z3 (.t rfl) (.t rfl) (fun _ => (by first | exact mapAt_own (by repeat first | exact mH | apply mT | apply mA) | exact mapAt_stamp (by repeat first | exact mH | apply mT | apply mA) | exact fun w I => MapAt.keep0 (by assumption) I.keeps))) ?_
    refine mv rfl (co (Ev.extract (.t rfl) rfl) (co (Ev.extract (.t rfl) rfl) (asn rfl (asn rfl (nP (sg (mv rfl (co (Ev.not (.t rfl)) ?_))))))))
    refine nP ?_
    first | refine condD rfl (fun h1 => ?_) (fun h1 => ?_) | refine cond rfl (fun h1 => ?_) (fun h1 => ?_)
    · try simp only [nb] at h1
      refine region (mv rfl (mv rfl (co (Ev.ldv ty76 (.t rfl) (Lens.id _)) ?_)))
      refine cons (callcv (.t rfl) hen (.cons (.t rfl) .nil) (fun w I => hk.call trivial w I) ?_)
      refine mv rfl (cons (mapUpdate Tryz.underlying82 Tryz.underlying9 key9 (.t rfl) (.t rfl) (.t rfl) zu ?_))
      refine nil (bN (pN (region (co (Ev.add_i (.t rfl) (.c (v := I 1) rfl) (fun _ => zo)) ?_))))
      refine mv rfl (nP (nx (X := Int) (i + 1) ?_ ?_ (hL := (by (first | rw [firstN_hasI _ _ _ eRule.zero (by omega) h1] | rw [firstN_newI _ _ _ eRule.zero (by omega) h1]); exact zs))))
      · try dsimp only
        omega
      · try dsimp only
        first | omega | (simp; omega)
    · try simp only [nb] at h1
      refine skip (bN (pN (region (co (Ev.add_i (.t rfl) (.c (v := I 1) rfl) (fun _ => zo)) ?_))))
      refine mv rfl (nP (nx (X := Int) (i + 1) ?_ ?_ (hL := (by (first | rw [firstN_hasI _ _ _ eRule.zero (by omega) h1] | rw [firstN_newI _ _ _ eRule.zero (by omega) h1]); exact zs))))
      · try dsimp only
        omega
      · try dsimp only
        first | omega | (simp; omega)
  · try simp only [nb] at h0
    refine exit (pX (pX (bX (pN (sg (mv rfl (asn rfl (nP (ret (done rfl (.tmp rfl .nil) (fun w I => ?_)))))))))))
    have hil : i.toNat = xs.length := by omega
    rw [hil] at I
    exact retN b1 trivial rfl zs w I
theorem ty57 : TyOK Tryz.prog 57 eMeterConf := TyOK.mk' zk zk
theorem z57 : (Tryz.prog.info? 57).bind (·.zero) = some (eMeterConf.val eMeterConf.zero) := by kernel_rfl
theorem first_9_57 (f : Nat) (cap : List Value) (kf : SMeterConf → ByteArray) (u : Value) (xs : List SMeterConf) (w : World) (hen : Enters Tryz.prog f) (hl : IsSl eMeterConf w u xs) (hk : FnAt Tryz.prog f cap Nope w eMeterConf sE (fun _ => True) kf) : Calls Tryz.prog 110 #[u, (clo f cap).v] w (RetN w (fun _ : Nat => True) (fun b => .map (some b)) (fun b => [MapR b sE iE (firstN eqs kf xs xs.length)])) := by
  have hle := hl.le
  refine en0 35 Tryz.func110 ?_
  refine sg (co (Ev.assign (.c (v := (Go.Value.map none)) rfl)) ?_)
  refine nP (sg (cons (makeMap (E := sE) (V := iE) (fun b1 => ?_))))
  refine asn rfl (nP (seq (sg (mv rfl (co (Ev.len Tryz.underlying25 (.t rfl) zf) ?_)))))
  refine co (Ev.move (.c (v := I 0) rfl)) ?_
  refine nP (block (lp (X := Int) (fun x : Int => (0 ≤ x ∧ x ≤ xs.length)) (fun x : Int => [(1, true, (clo f cap).v), (5, true, .map (some b1)), (11, true, u), (12, true, I xs.length), (13, true, I x)]) (fun x : Int => [MapR b1 sE iE (firstN eqs kf xs x.toNat)]) (fun x : Int => ((xs.length : Int) - x).toNat) (0) ?_ (fun x hx => ?_)))
  · omega
  obtain ⟨i, rfl⟩ : ∃ y, y = x := ⟨x, rfl⟩
  have hi : 0 ≤ i ∧ i ≤ xs.length := hx
  clear hx
  show Sat _ _ [(1, true, (clo f cap).v), (5, true, .map (some b1)), (11, true, u), (12, true, I xs.length), (13, true, I i)] [MapR b1 sE iE (firstN eqs kf xs i.toNat)]
  refine sg (co (Ev.lss_i (.t rfl) (.t rfl)) ?_)
  refine nP (seq ?_)
  first | refine condD rfl (fun h0 => ?_) (fun h0 => ?_) | refine cond rfl (fun h0 => ?_) (fun h0 => ?_)
  · try simp only [nb] at h0
    refine skip (pN (seq (block (sg (mv rfl (co (Ev.indexAddr Tryz.underlying25 ty57 (.t rfl) (.t rfl) (fun w I => hl.keep0 I.keeps) (fun _ => zo)) ?_))))))
    refine co (Ev.loadS0 ty57 (.t rfl) (fun w I => hl.keep0 I.keeps) (fun _ => zo)) ?_
    refine cons (alloc z57 (fun b2 => ?_))
    refine asn rfl (cons (stv ty57 (Lens.id _) (.t rfl) (.t rfl) ?_))
    refine nP (sg (mv rfl (mv rfl (co (Ev.ldv ty57 (.t rfl) (Lens.id _)) ?_))))
    refine cons (callcv (.t rfl) hen (.cons (.t rfl) .nil) (fun w I => hk.call trivial w I) ?_)
    refine co (Ev.lookupT Tryz.underlying82 Tryz.underlying9 key9 z3 (.t rfl) (.t rfl) (fun _ => (by first | exact mapAt_own (by repeat first | exact mH | apply mT | apply mA) | exact mapAt_stamp (by repeat first | exact mH | apply mT | apply mA) | exact fun w I => MapAt.keep0 (by assumption) I.keeps))) ?_
    refine mv rfl (co (Ev.extract (.t rfl) rfl) (co (Ev.extract (.t rfl) rfl) (asn rfl (asn rfl (nP (sg (mv rfl (co (Ev.not (.t rfl)) ?_))))))))
    refine nP ?_
    first | refine condD rfl (fun h1 => ?_) (fun h1 => ?_) | refine cond rfl (fun h1 => ?_) (fun h1 => ?_)
    · try simp only [nb] at h1
      refine region (mv rfl (mv rfl (co (Ev.ldv ty57 (.t rfl) (Lens.id _)) ?_)))
      refine cons (callcv (.t rfl) hen (.cons (.t rfl) .nil) (fun w I => hk.call trivial w I) ?_)
      refine mv rfl (cons (mapUpdate Tryz.underlying82 Tryz.underlying9 key9 (.t rfl) (.t rfl) (.t rfl) zu ?_))
      refine nil (bN (pN (region (co (Ev.add_i (.t rfl) (.c (v := I 1) rfl) (fun _ => zo)) ?_))))
      refine mv rfl (nP (nx (X := Int) (i + 1) ?_ ?_ (hL := (by (first | rw [firstN_hasI _ _ _ eMeterConf.zero (by omega) h1] | rw [firstN_newI _ _ _ eMeterConf.zero (by omega) h1]); exact zs))))
      · try dsimp only
        omega
      · try dsimp only
        first | omega | (simp; omega)
    · try simp only [nb] at h1
      refine skip (bN (pN (region (co (Ev.add_i (.t rfl) (.c (v := I 1) rfl) (fun _ => zo)) ?_))))
      refine mv rfl (nP (nx (X := Int) (i + 1) ?_ ?_ (hL := (by (first | rw [firstN_hasI _ _ _ eMeterConf.zero (by omega) h1] | rw [firstN_newI _ _ _ eMeterConf.zero (by omega) h1]); exact zs))))
      · try dsimp only
        omega
      · try dsimp only
        first | omega | (simp; omega)
  · try simp only [nb] at h0
    refine exit (pX (pX (bX (pN (sg (mv rfl (asn rfl (nP (ret (done rfl (.tmp rfl .nil) (fun w I => ?_)))))))))))
    have hil : i.toNat = xs.length := by omega
    rw [hil] at I
    exact retN b1 trivial rfl zs w I
theorem ty59 : TyOK Tryz.prog 59 eMirrorConf := TyOK.mk' zk zk
theorem z59 : (Tryz.prog.info? 59).bind (·.zero) = some (eMirrorConf.val eMirrorConf.zero) := by kernel_rfl
theorem first_9_59 (f : Nat) (cap : List Value) (kf : SMirrorConf → ByteArray) (u : Value) (xs : List SMirrorConf) (w : World) (hen : Enters Tryz.prog f) (hl : IsSl eMirrorConf w u xs) (hk : FnAt Tryz.prog f cap Nope w eMirrorConf sE (fun _ => True) kf) : Calls Tryz.prog 112 #[u, (clo f cap).v] w (RetN w (fun _ : Nat => True) (fun b => .map (some b)) (fun b => [MapR b sE iE (firstN eqs kf xs xs.length)])) := by
  have hle := hl.le
  refine en0 35 Tryz.func112 ?_
  refine sg (co (Ev.assign (.c (v := (Go.Value.map none)) rfl)) ?_)
  refine nP (sg (cons (makeMap (E := sE) (V := iE) (fun b1 => ?_))))
  refine asn rfl (nP (seq (sg (mv rfl (co (Ev.len Tryz.underlying26 (.t rfl) zf) ?_)))))
  refine co (Ev.move (.c (v := I 0) rfl)) ?_
  refine nP (block (lp (X := Int) (fun x : Int => (0 ≤ x ∧ x ≤ xs.length)) (fun x : Int => [(1, true, (clo f cap).v), (5, true, .map (some b1)), (11, true, u), (12, true, I xs.length), (13, true, I x)]) (fun x : Int => [MapR b1 sE iE (firstN eqs kf xs x.toNat)]) (fun x : Int => ((xs.length : Int) - x).toNat) (0) ?_ (fun x hx => ?_)))
  · omega
  obtain ⟨i, rfl⟩ : ∃ y, y = x := ⟨x, rfl⟩
  have hi : 0 ≤ i ∧ i ≤ xs.length := hx
  clear hx
  show Sat _ _ [(1, true, (clo f cap).v), (5, true, .map (some b1)), (11, true, u), (12, true, I xs.length), (13, true, I i)] [MapR b1 sE iE (firstN eqs kf xs i.toNat)]
  refine sg (co (Ev.lss_i (.t rfl) (.t rfl)) ?_)
  refine nP (seq ?_)
  first | refine condD rfl (fun h0 => ?_) (fun h0 => ?_) | refine cond rfl (fun h0 => ?_) (fun h0 => ?_)
  · try simp only [nb] at h0
    refine skip (pN (seq (block (sg (mv rfl (co (Ev.indexAddr Tryz.underlying26 ty59 (.t rfl) (.t rfl) (fun w I => hl.keep0 I.keeps) (fun _ => zo)) ?_))))))
    refine co (Ev.loadS0 ty59 (.t rfl) (fun w I => hl.keep0 I.keeps) (fun _ => zo)) ?_
    refine cons (alloc z59 (fun b2 => ?_))
    refine asn rfl (cons (stv ty59 (Lens.id _) (.t rfl) (.t rfl) ?_))
    refine nP (sg (mv rfl (mv rfl (co (Ev.ldv ty59 (.t rfl) (Lens.id _)) ?_))))
    refine cons (callcv (.t rfl) hen (.cons (.t rfl) .nil) (fun w I => hk.call trivial w I) ?_)
    refine co (Ev.lookupT Tryz.underlying82 Tryz.underlying9 key9 z3 (.t rfl) (.t rfl) (fun _ => (by first | exact mapAt_own (by repeat first | exact mH | apply mT | apply mA) | exact mapAt_stamp (by repeat first | exact mH | apply mT | apply mA) | exact fun w I => MapAt.keep0 (by assumption) I.keeps))) ?_
    refine mv rfl (co (Ev.extract (.t rfl) rfl) (co (Ev.extract (.t rfl) rfl) (asn rfl (asn rfl (nP (sg (mv rfl (co (Ev.not (.t rfl)) ?_))))))))
    refine nP ?_
    first | refine condD rfl (fun h1 => ?_) (fun h1 => ?_) | refine cond rfl (fun h1 => ?_) (fun h1 => ?_)
    · try simp only [nb] at h1
      refine region (mv rfl (mv rfl (co (Ev.ldv ty59 (.t rfl) (Lens.id _)) ?_)))
      refine cons (callcv (.t rfl) hen (.cons (.t rfl) .nil) (fun w I => hk.call trivial w I) ?_)
      refine mv rfl (cons (mapUpdate Tryz.underlying82 Tryz.underlying9 key9 (.t rfl) (.t rfl) (.t rfl) zu ?_))
      refine nil (bN (pN (region (co (Ev.add_i (.t rfl) (.c (v := I 1) rfl) (fun _ => zo)) ?_))))
      refine mv rfl (nP (nx (X := Int) (i + 1) ?_ ?_ (hL := (by (first | rw [firstN_hasI _ _ _ eMirrorConf.zero (by omega) h1] | rw [firstN_newI _ _ _ eMirrorConf.zero (by omega) h1]); exact zs))))
      · try dsimp only
        omega
      · try dsimp only
        first | omega | (simp; omega)
    · try simp only [nb] at h1
      refine skip (bN (pN (region (co (Ev.add_i (.t rfl) (.c (v := I 1) rfl) (fun _ => zo)) ?_))))
      refine mv rfl (nP (nx (X := Int) (i + 1) ?_ ?_ (hL := (by (first | rw [firstN_hasI _ _ _ eMirrorConf.zero (by omega) h1] | rw [firstN_newI _ _ _ eMirrorConf.zero (by omega) h1]); exact zs))))
      · try dsimp only
        omega
      · try dsimp only
        first | omega | (simp; omega)
  · try simp only [nb] at h0
    refine exit (pX (pX (bX (pN (sg (mv rfl (asn rfl (nP (ret (done rfl (.tmp rfl .nil) (fun w I => ?_)))))))))))
    have hil : i.toNat = xs.length := by omega
    rw [hil] at I
    exact retN b1 trivial rfl zs w I
theorem first_57_57 (f : Nat) (cap : List Value) (kf : SMeterConf → SMeterConf) (u : Value) (xs : List SMeterConf) (w : World) (hen : Enters Tryz.prog f) (hl : IsSl eMeterConf w u xs) (hk : FnAt Tryz.prog f cap Nope w eMeterConf eMeterConf (fun _ => True) kf) : Calls Tryz.prog 68 #[u, (clo f cap).v] w (RetN w (fun _ : Nat => True) (fun b => .map (some b)) (fun b => [MapR b eMeterConf iE (firstN SMeterConf.eqb kf xs xs.length)])) := by
  have hle := hl.le
  refine en0 35 Tryz.func68 ?_
  refine sg (co (Ev.assign (.c (v := (Go.Value.map none)) rfl)) ?_)
  refine nP (sg (cons (makeMap (E := eMeterConf) (V := iE) (fun b1 => ?_))))
  refine asn rfl (nP (seq (sg (mv rfl (co (Ev.len Tryz.underlying25 (.t rfl) zf) ?_)))))
  refine co (Ev.move (.c (v := I 0) rfl)) ?_
  refine nP (block (lp (X := Int) (fun x : Int => (0 ≤ x ∧ x ≤ xs.length)) (fun x : Int => [(1, true, (clo f cap).v), (5, true, .map (some b1)), (11, true, u), (12, true, I xs.length), (13, true, I x)]) (fun x : Int => [MapR b1 eMeterConf iE (firstN SMeterConf.eqb kf xs x.toNat)]) (fun x : Int => ((xs.length : Int) - x).toNat) (0) ?_ (fun x hx => ?_)))
  · omega
  obtain ⟨i, rfl⟩ : ∃ y, y = x := ⟨x, rfl⟩
  have hi : 0 ≤ i ∧ i ≤ xs.length := hx
  clear hx
  show Sat _ _ [(1, true, (clo f cap).v), (5, true, .map (some b1)), (11, true, u), (12, true, I xs.length), (13, true, I i)] [MapR b1 eMeterConf iE (firstN SMeterConf.eqb kf xs i.toNat)]
  refine sg (co (Ev.lss_i (.t rfl) (.t rfl)) ?_)
  refine nP (seq ?_)
  first | refine condD rfl (fun h0 => ?_) (fun h0 => ?_) | refine cond rfl (fun h0 => ?_) (fun h0 => ?_)
  · try simp only [nb] at h0
    refine skip (pN (seq (block (sg (mv rfl (co (Ev.indexAddr Tryz.underlying25 ty57 (.t rfl) (.t rfl) (fun w I => hl.keep0 I.keeps) (fun _ => zo)) ?_))))))
    refine co (Ev.loadS0 ty57 (.t rfl) (fun w I => hl.keep0 I.keeps) (fun _ => zo)) ?_
    refine cons (alloc z57 (fun b2 => ?_))
    refine asn rfl (cons (stv ty57 (Lens.id _) (.t rfl) (.t rfl) ?_))
    refine nP (sg (mv rfl (mv rfl (co (Ev.ldv ty57 (.t rfl) (Lens.id _)) ?_))))
    refine cons (callcv (.t rfl) hen (.cons (.t rfl) .nil) (fun w I => hk.call trivial w I) ?_)
    refine co (Ev.lookupT Tryz.underlying118 Tryz.underlying57 key57 z3 (.t rfl) (.t rfl) (fun _ => (by first | exact mapAt_own (by repeat first | exact mH | apply mT | apply mA) | exact mapAt_stamp (by repeat first | exact mH | apply mT | apply mA) | exact fun w I => MapAt.keep0 (by assumption) I.keeps))) ?_
    refine mv rfl (co (Ev.extract (.t rfl) rfl) (co (Ev.extract (.t rfl) rfl) (asn rfl (asn rfl (nP (sg (mv rfl (co (Ev.not (.t rfl)) ?_))))))))
    refine nP ?_
    first | refine condD rfl (fun h1 => ?_) (fun h1 => ?_) | refine cond rfl (fun h1 => ?_) (fun h1 => ?_)
    · try simp only [nb] at h1
      refine region (mv rfl (mv rfl (co (Ev.ldv ty57 (.t rfl) (Lens.id _)) ?_)))
      refine cons (callcv (.t rfl) hen (.cons (.t rfl) .nil) (fun w I => hk.call trivial w I) ?_)
      refine mv rfl (cons (mapUpdate Tryz.underlying118 Tryz.underlying57 key57 (.t rfl) (.t rfl) (.t rfl) zu ?_))
      refine nil (bN (pN (region (co (Ev.add_i (.t rfl) (.c (v := I 1) rfl) (fun _ => zo)) ?_))))
      refine mv rfl (nP (nx (X := Int) (i + 1) ?_ ?_ (hL := (by (first | rw [firstN_hasI _ _ _ eMeterConf.zero (by omega) h1] | rw [firstN_newI _ _ _ eMeterConf.zero (by omega) h1]); exact zs))))
      · try dsimp only
        omega
      · try dsimp only
        first | omega | (simp; omega)
    · try simp only [nb] at h1
      refine skip (bN (pN (region (co (Ev.add_i (.t rfl) (.c (v := I 1) rfl) (fun _ => zo)) ?_))))
      refine mv rfl (nP (nx (X := Int) (i + 1) ?_ ?_ (hL := (by (first | rw [firstN_hasI _ _ _ eMeterConf.zero (by omega) h1] | rw [firstN_newI _ _ _ eMeterConf.zero (by omega) h1]); exact zs))))
      · try dsimp only
        omega
      · try dsimp only
        first | omega | (simp; omega)
  · try simp only [nb] at h0
    refine exit (pX (pX (bX (pN (sg (mv rfl (asn rfl (nP (ret (done rfl (.tmp rfl .nil) (fun w I => ?_)))))))))))
    have hil : i.toNat = xs.length := by omega
    rw [hil] at I
    exact retN b1 trivial rfl zs w I
theorem first_59_59 (f : Nat) (cap : List Value) (kf : SMirrorConf → SMirrorConf) (u : Value) (xs : List SMirrorConf) (w : World) (hen : Enters Tryz.prog f) (hl : IsSl eMirrorConf w u xs) (hk : FnAt Tryz.prog f cap Nope w eMirrorConf eMirrorConf (fun _ => True) kf) : Calls Tryz.prog 72 #[u, (clo f cap).v] w (RetN w (fun _ : Nat => True) (fun b => .map (some b)) (fun b => [MapR b eMirrorConf iE (firstN SMirrorConf.eqb kf xs xs.length)])) := by
  have hle := hl.le
  refine en0 35 Tryz.func72 ?_
  refine sg (co (Ev.assign (.c (v := (Go.Value.map none)) rfl)) ?_)
  refine nP (sg (cons (makeMap (E := eMirrorConf) (V := iE) (fun b1 => ?_))))
  refine asn rfl (nP (seq (sg (mv rfl (co (Ev.len Tryz.underlying26 (.t rfl) zf) ?_)))))
  refine co (Ev.move (.c (v := I 0) rfl)) ?_
  refine nP (block (lp (X := Int) (fun x : Int => (0 ≤ x ∧ x ≤ xs.length)) (fun x : Int => [(1, true, (clo f cap).v), (5, true, .map (some b1)), (11, true, u), (12, true, I xs.length), (13, true, I x)]) (fun x : Int => [MapR b1 eMirrorConf iE (firstN SMirrorConf.eqb kf xs x.toNat)]) (fun x : Int => ((xs.length : Int) - x).toNat) (0) ?_ (fun x hx => ?_)))
  · omega
  obtain ⟨i, rfl⟩ : ∃ y, y = x := ⟨x, rfl⟩
  have hi : 0 ≤ i ∧ i ≤ xs.length := hx
  clear hx
  show Sat _ _ [(1, true, (clo f cap).v), (5, true, .map (some b1)), (11, true, u), (12, true, I xs.length), (13, true, I i)] [MapR b1 eMirrorConf iE (firstN SMirrorConf.eqb kf xs i.toNat)]
  refine sg (co (Ev.lss_i (.t rfl) (.t rfl)) ?_)
  refine nP (seq ?_)
  first | refine condD rfl (fun h0 => ?_) (fun h0 => ?_) | refine cond rfl (fun h0 => ?_) (fun h0 => ?_)
  · try simp only [nb] at h0
    refine skip (pN (seq (block (sg (mv rfl (co (Ev.indexAddr Tryz.underlying26 ty59 (.t rfl) (.t rfl) (fun w I => hl.keep0 I.keeps) (fun _ => zo)) ?_))))))
    refine co (Ev.loadS0 ty59 (.t rfl) (fun w I => hl.keep0 I.keeps) (fun _ => zo)) ?_
    refine cons (alloc z59 (fun b2 => ?_))
    refine asn rfl (cons (stv ty59 (Lens.id _) (.t rfl) (.t rfl) ?_))
    refine nP (sg (mv rfl (mv rfl (co (Ev.ldv ty59 (.t rfl) (Lens.id _)) ?_))))
    refine cons (callcv (.t rfl) hen (.cons (.t rfl) .nil) (fun w I => hk.call trivial w I) ?_)
    refine co (Ev.lookupT Tryz.underlying123 Tryz.underlying59 key59 z3 (.t rfl) (.t rfl) (fun _ => (by first | exact mapAt_own (by repeat first | exact mH | apply mT | apply mA) | exact mapAt_stamp (by repeat first | exact mH | apply mT | apply mA) | exact fun w I => MapAt.keep0 (by assumption) I.keeps))) ?_
    refine mv rfl (co (Ev.extract (.t rfl) rfl) (co (Ev.extract (.t rfl) rfl) (asn rfl (asn rfl (nP (sg (mv rfl (co (Ev.not (.t rfl)) ?_))))))))
    refine nP ?_
    first | refine condD rfl (fun h1 => ?_) (fun h1 => ?_) | refine cond rfl (fun h1 => ?_) (fun h1 => ?_)
    · try simp only [nb] at h1
      refine region (mv rfl (mv rfl (co (Ev.ldv ty59 (.t rfl) (Lens.id _)) ?_)))
      refine cons (callcv (.t rfl) hen (.cons (.t rfl) .nil) (fun w I => hk.call trivial w I) ?_)
      refine mv rfl (cons (mapUpdate Tryz.underlying123 Tryz.underlying59 key59 (.t rfl) (.t rfl) (.t rfl) zu ?_))
      refine nil (bN (pN (region (co (Ev.add_i (.t rfl) (.c (v := I 1) rfl) (fun _ => zo)) ?_))))
      refine mv rfl (nP (nx (X := Int) (i + 1) ?_ ?_ (hL := (by (first | rw [firstN_hasI _ _ _ eMirrorConf.zero (by omega) h1] | rw [firstN_newI _ _ _ eMirrorConf.zero (by omega) h1]); exact zs))))
      · try dsimp only
        omega
      · try dsimp only
        first | omega | (simp; omega)
    · try simp only [nb] at h1
      refine skip (bN (pN (region (co (Ev.add_i (.t rfl) (.c (v := I 1) rfl) (fun _ => zo)) ?_))))
      refine mv rfl (nP (nx (X := Int) (i + 1) ?_ ?_ (hL := (by (first | rw [firstN_hasI _ _ _ eMirrorConf.zero (by omega) h1] | rw [firstN_newI _ _ _ eMirrorConf.zero (by omega) h1]); exact zs))))
      · try dsimp only
        omega
      · try dsimp only
        first | omega | (simp; omega)
  · try simp only [nb] at h0
    refine exit (pX (pX (bX (pN (sg (mv rfl (asn rfl (nP (ret (done rfl (.tmp rfl .nil) (fun w I => ?_)))))))))))
    have hil : i.toNat = xs.length := by omega
    rw [hil] at I
    exact retN b1 trivial rfl zs w I
theorem first_52_52 (f : Nat) (cap : List Value) (kf : SRoute → SRoute) (u : Value) (xs : List SRoute) (w : World) (hen : Enters Tryz.prog f) (hl : IsSl eRoute w u xs) (hk : FnAt Tryz.prog f cap Nope w eRoute eRoute (fun _ => True) kf) : Calls Tryz.prog 76 #[u, (clo f cap).v] w (RetN w (fun _ : Nat => True) (fun b => .map (some b)) (fun b => [MapR b eRoute iE (firstN SRoute.eqb kf xs xs.length)])) := by
  have hle := hl.le
  refine en0 35 Tryz.func76 ?_
  refine sg (co (Ev.assign (.c (v := (Go.Value.map none)) rfl)) ?_)
  refine nP (sg (cons (makeMap (E := eRoute) (V := iE) (fun b1 => ?_))))
  refine asn rfl (nP (seq (sg (mv rfl (co (Ev.len Tryz.underlying23 (.t rfl) zf) ?_)))))
  refine co (Ev.move (.c (v := I 0) rfl)) ?_
  refine nP (block (lp (X := Int) (fun x : Int => (0 ≤ x ∧ x ≤ xs.length)) (fun x : Int => [(1, true, (clo f cap).v), (5, true, .map (some b1)), (11, true, u), (12, true, I xs.length), (13, true, I x)]) (fun x : Int => [MapR b1 eRoute iE (firstN SRoute.eqb kf xs x.toNat)]) (fun x : Int => ((xs.length : Int) - x).toNat) (0) ?_ (fun x hx => ?_)))
  · omega
  obtain ⟨i, rfl⟩ : ∃ y, y = x := ⟨x, rfl⟩
  have hi : 0 ≤ i ∧ i ≤ xs.length := hx
  clear hx
  show Sat _ _ [(1, true, (clo f cap).v), (5, true, .map (some b1)), (11, true, u), (12, true, I xs.length), (13, true, I i)] [MapR b1 eRoute iE (firstN SRoute.eqb kf xs i.toNat)]
  refine sg (co (Ev.lss_i (.t rfl) (.t rfl)) ?_)
  refine nP (seq ?_)
  first | refine condD rfl (fun h0 => ?_) (fun h0 => ?_) | refine cond rfl (fun h0 => ?_) (fun h0 => ?_)
  · try simp only [nb] at h0
    refine skip (pN (seq (block (sg (mv rfl (co (Ev.indexAddr Tryz.underlying23 ty52 (.t rfl) (.t rfl) (fun w I => hl.keep0 I.keeps) (fun _ => zo)) ?_))))))
    refine co (Ev.loadS0 ty52 (.t rfl) (fun w I => hl.keep0 I.keeps) (fun _ => zo)) ?_
    refine cons (alloc z52 (fun b2 => ?_))
    refine asn rfl (cons (stv ty52 (Lens.id _) (.t rfl) (.t rfl) ?_))
    refine nP (sg (mv rfl (mv rfl (co (Ev.ldv ty52 (.t rfl) (Lens.id _)) ?_))))
    refine cons (callcv (.t rfl) hen (.cons (.t rfl) .nil) (fun w I => hk.call trivial w I) ?_)
    refine co (Ev.lookupT Tryz.underlying128 Tryz.underlying52 key52 z3 (.t rfl) (.t rfl) (fun _ => (by first | exact mapAt_own (by repeat first | exact mH | apply mT | apply mA) | exact mapAt_stamp (by repeat first | exact mH | apply mT | apply mA) | exact fun w I => MapAt.keep0 (by assumption) I.keeps))) ?_
    refine mv rfl (co (Ev.extract (.t rfl) rfl) (co (Ev.extract (.t rfl) rfl) (asn rfl (asn rfl (nP (sg (mv rfl (co (Ev.not (.t rfl)) ?_))))))))
    refine nP ?_
    first | refine condD rfl (fun h1 => ?_) (fun h1 => ?_) | refine cond rfl (fun h1 => ?_) (fun h1 => ?_)
    · try simp only [nb] at h1
      refine region (mv rfl (mv rfl (co (Ev.ldv ty52 (.t rfl) (Lens.id _)) ?_)))
      refine cons (callcv (.t rfl) hen (.cons (.t rfl) .nil) (fun w I => hk.call trivial w I) ?_)
      refine mv rfl (cons (mapUpdate Tryz.underlying128 Tryz.underlying52 key52 (.t rfl) (.t rfl) (.t rfl) zu ?_))
      refine nil (bN (pN (region (co (Ev.add_i (.t rfl) (.c (v := I 1) rfl) (fun _ => zo)) ?_))))
      refine mv rfl (nP (nx (X := Int) (i + 1) ?_ ?_ (hL := (by (first | rw [firstN_hasI _ _ _ eRoute.zero (by omega) h1] | rw [firstN_newI _ _ _ eRoute.zero (by omega) h1]); exact zs))))
      · try dsimp only
        omega
      · try dsimp only
        first | omega | (simp; omega)
    · try simp only [nb] at h1
      refine skip (bN (pN (region (co (Ev.add_i (.t rfl) (.c (v := I 1) rfl) (fun _ => zo)) ?_))))
      refine mv rfl (nP (nx (X := Int) (i + 1) ?_ ?_ (hL := (by (first | rw [firstN_hasI _ _ _ eRoute.zero (by omega) h1] | rw [firstN_newI _ _ _ eRoute.zero (by omega) h1]); exact zs))))
      · try dsimp only
        omega
      · try dsimp only
        first | omega | (simp; omega)
  · try simp only [nb] at h0
    refine exit (pX (pX (bX (pN (sg (mv rfl (asn rfl (nP (ret (done rfl (.tmp rfl .nil) (fun w I => ?_)))))))))))
    have hil : i.toNat = xs.length := by omega
    rw [hil] at I
    exact retN b1 trivial rfl zs w I
def incN {α : Type} (q : α → α → Bool) (d : Int) (l : List α) (m : List (α × Int)) : Nat → List (α × Int)
  | 0 => m
  | n + 1 => match l[n]? with
    | none => incN q d l m n
    | some x => putL q x ((findV q x (incN q d l m n)).getD 0 + d) (incN q d l m n)
theorem incN_stepI {α : Type} (q : α → α → Bool) (d : Int) (l : List α) (m : List (α × Int)) (z : α) {i : Int} (h : 0 ≤ i ∧ i < l.length) : incN q d l m (i + 1).toNat = putL q (l.getD i.toNat z) ((findV q (l.getD i.toNat z) (incN q d l m i.toNat)).getD 0 + d) (incN q d l m i.toNat) := by
  have e : (i + 1).toNat = i.toNat + 1 := by omega
  have e2 : l[i.toNat]? = some (l.getD i.toNat z) := by
    have : i.toNat < l.length := by omega
    simp [List.getD, List.getElem?_eq_getElem this]
  rw [e, incN, e2]
theorem incN_val {α : Type} {q : α → α → Bool} (hi : ∀ x y, q x y = true ↔ x = y) (d : Int) (l : List α) (m : List (α × Int)) (x : α) : ∀ n, (findV q x (incN q d l m n)).getD 0 = (findV q x m).getD 0 + d * ((l.take n).countP (q x) : Nat)
  | 0 => by simp [incN]
  | n + 1 => by
    have ih := incN_val hi d l m x n
    rw [List.take_add_one, incN]
    cases h : l[n]? with
    | none => simp [ih]
    | some y =>
      simp only [Option.toList_some, List.countP_append, List.countP_singleton]
      rw [findV_put hi]
      by_cases hq : q x y = true
      · have e := (hi _ _).1 hq
        subst e
        rw [if_pos hq, if_pos hq]
        simp only [Option.getD_some, ih, Int.natCast_add, Int.mul_add]
        omega
      · rw [if_neg hq, if_neg hq]
        simpa using ih
theorem incN_bd {α : Type} {q : α → α → Bool} (hi : ∀ x y, q x y = true ↔ x = y) (l k : List α) (x : α) (n : Nat) : 0 ≤ (findV q x (incN q 1 l [] n)).getD 0 ∧ (findV q x (incN q 1 l [] n)).getD 0 ≤ l.length ∧
    (findV q x (incN q 1 l [] l.length)).getD 0 - k.length ≤ (findV q x (incN q (-1) k (incN q 1 l [] l.length) n)).getD 0 ∧ (findV q x (incN q (-1) k (incN q 1 l [] l.length) n)).getD 0 ≤ l.length := by
  have h1 := incN_val hi 1 l [] x n
  have h2 := incN_val hi (-1) k (incN q 1 l [] l.length) x n
  have h3 := incN_val hi 1 l [] x l.length
  have b1 : (l.take n).countP (q x) ≤ l.length := Nat.le_trans List.countP_le_length (by simp; omega)
  have b2 : (k.take n).countP (q x) ≤ k.length := Nat.le_trans List.countP_le_length (by simp; omega)
  have b3 : (l.take l.length).countP (q x) ≤ l.length := Nat.le_trans List.countP_le_length (by simp)
  have e0 : (findV q x ([] : List (α × Int))).getD 0 = 0 := rfl
  rw [e0] at h1 h3
  omega
theorem put_same {α : Type} {q : α → α → Bool} (hi : ∀ x y, q x y = true ↔ x = y) (k : α) (l : List (α × Int)) : (findV q k (putL q k ((findV q k l).getD 0) l)).getD 0 = (findV q k l).getD 0 := by
  rw [findV_self hi]
  rfl
def alikeM {α : Type} (q : α → α → Bool) (l k : List α) : List (α × Int) := incN q (-1) k (incN q 1 l [] l.length) k.length
def alikeB {α : Type} (q : α → α → Bool) (l k : List α) : Bool := (alikeM q l k).all (fun p => decide (p.2 = 0))
theorem alike_52 (u v : Value) (xs ys : List SRoute) (w : World) (hx : IsSl eRoute w u xs) (hy : IsSl eRoute w v ys) (hlx : xs.length ≤ 4611686018427387903) (hly : ys.length ≤ 4611686018427387903) : Calls Tryz.prog 55 #[u, v] w (RetV w (.bool (alikeB SRoute.eqb xs ys))) := by
  have hle := hx.le
  have hle2 := hy.le
  refine en0 47 Tryz.func55 ?_
  refine sg (co (Ev.assign (.c (v := .bool false) rfl)) ?_)
  refine nP (sg (cons (makeMap (E := eRoute) (V := iE) (fun b1 => ?_))))
  refine asn rfl (nP (seq (sg (mv rfl (co (Ev.len Tryz.underlying23 (.t rfl) zf) ?_)))))
  refine co (Ev.move (.c (v := I 0) rfl)) ?_
  refine nP (block (lp (X := Int) (fun x : Int => (0 ≤ x ∧ x ≤ xs.length)) (fun x : Int => [(1, true, v), (5, true, .map (some b1)), (13, true, u), (14, true, I xs.length), (15, true, I x)]) (fun x : Int => [MapR b1 eRoute iE (incN SRoute.eqb 1 xs [] x.toNat)]) (fun x : Int => ((xs.length : Int) - x).toNat) (0) ?_ (fun x hx => ?_)))
  · omega
  obtain ⟨i, rfl⟩ : ∃ y, y = x := ⟨x, rfl⟩
  have hi : 0 ≤ i ∧ i ≤ xs.length := hx
  clear hx
  show Sat _ _ [(1, true, v), (5, true, .map (some b1)), (13, true, u), (14, true, I xs.length), (15, true, I i)] [MapR b1 eRoute iE (incN SRoute.eqb 1 xs [] i.toNat)]
  refine sg (co (Ev.lss_i (.t rfl) (.t rfl)) ?_)
  refine nP (seq ?_)
  first | refine condD rfl (fun h0 => ?_) (fun h0 => ?_) | refine cond rfl (fun h0 => ?_) (fun h0 => ?_)
  · try simp only [nb] at h0
    refine skip (pN (seq (block (sg (co (Ev.indexAddr Tryz.underlying23 ty52 (.t rfl) (.t rfl) (fun w I => hx.keep0 I.keeps) (fun _ => zo)) ?_)))))
    refine co (Ev.loadS0 ty52 (.t rfl) (fun w I => hx.keep0 I.keeps) (fun _ => zo)) ?_
    refine cons (alloc z52 (fun b2 => ?_))
    refine cons (stv ty52 (Lens.id _) (.t rfl) (.t rfl) ?_)
    refine nP (drawR (.tail .head) zk ?_)
    refine tk 0 rfl (Ev.move (.t rfl)) ?_
    refine tk 1 rfl (Ev.ldv ty52 (.t rfl) (Lens.id _)) ?_
    refine all [2, 4] zk (by decide) (.cons rfl ?_ (.cons rfl ?_ .nil))
    · refine (opv (Ev.to (v' := I ((findV SRoute.eqb (xs.getD i.toNat eRoute.zero) (incN SRoute.eqb 1 xs [] i.toNat)).getD 0)) (Ev.lookupF Tryz.underlying128 Tryz.underlying52 key52 z3 (.t rfl) (.t rfl) (fun _ => (by first | exact mapAt_own (by repeat first | exact mH | apply mT | apply mA) | exact mapAt_stamp (by repeat first | exact mH | apply mT | apply mA) | exact fun w I => MapAt.keep0 (by assumption) I.keeps))) (by first | rfl | exact congrArg I (put_same SRoute.eqb_iff _ _))) ?_)
      refine hdn (tk 3 rfl (Ev.add_i (.t rfl) (.c (v := I 1) rfl) (fun _ => by have := incN_bd SRoute.eqb_iff xs ys (xs.getD i.toNat eRoute.zero) i.toNat; omega)) ?_)
      refine al1 4 rfl ((mapEntry Tryz.underlying128 Tryz.underlying52 key52 z3 (.t rfl) (.t rfl) (fun _ => zu) (fun s3 => ?_)))
      refine hdn (tk 5 rfl (Ev.extract (.t rfl) rfl) ?_)
      refine al1 6 rfl ((entryStore (.t rfl) (.t rfl) (.t rfl) zu ?_))
      refine hdn (ovr (bN (pN (region (co (Ev.add_i (.t rfl) (.c (v := I 1) rfl) (fun _ => zo)) ?_)))))
      refine mv rfl (nP (nx (X := Int) (i + 1) ?_ ?_ (hL := (by rw [incN_stepI _ _ _ _ eRoute.zero (by omega)]; exact zs))))
      · try dsimp only
        omega
      · try dsimp only
        first | omega | (simp; omega)
    · refine (mapEntry Tryz.underlying128 Tryz.underlying52 key52 z3 (.t rfl) (.t rfl) (fun _ => zu) (fun s4 => ?_))
      refine hdn (tk 5 rfl (Ev.extract (.t rfl) rfl) ?_)
      refine al1 2 rfl ((opv (Ev.to (v' := I ((findV SRoute.eqb (xs.getD i.toNat eRoute.zero) (incN SRoute.eqb 1 xs [] i.toNat)).getD 0)) (Ev.lookupF Tryz.underlying128 Tryz.underlying52 key52 z3 (.t rfl) (.t rfl) (fun _ => (by first | exact mapAt_own (by repeat first | exact mH | apply mT | apply mA) | exact mapAt_stamp (by repeat first | exact mH | apply mT | apply mA) | exact fun w I => MapAt.keep0 (by assumption) I.keeps))) (by first | rfl | exact congrArg I (put_same SRoute.eqb_iff _ _))) ?_))
      refine hdn (tk 3 rfl (Ev.add_i (.t rfl) (.c (v := I 1) rfl) (fun _ => by have := incN_bd SRoute.eqb_iff xs ys (xs.getD i.toNat eRoute.zero) i.toNat; omega)) ?_)
      refine al1 6 rfl ((entryStore (.t rfl) (.t rfl) (.t rfl) zu ?_))
      refine hdn (ovr (bN (pN (region (co (Ev.add_i (.t rfl) (.c (v := I 1) rfl) (fun _ => zo)) ?_)))))
      refine mv rfl (nP (nx (X := Int) (i + 1) ?_ ?_ (hL := (by rw [incN_stepI _ _ _ _ eRoute.zero (by omega)]; exact zs))))
      · try dsimp only
        omega
      · try dsimp only
        first | omega | (simp; omega)
  · try simp only [nb] at h0
    refine exit (pX (pX (bX (pN (seq (sg ?_))))))
    have hil : i.toNat = xs.length := by omega
    rw [hil]
    refine mv rfl (co (Ev.len Tryz.underlying23 (.t rfl) (fun w I => hy.keep0 I.keeps)) ?_)
    refine co (Ev.move (.c (v := I 0) rfl)) ?_
    refine nP (block (lp (X := Int) (fun x : Int => (0 ≤ x ∧ x ≤ ys.length)) (fun x : Int => [(5, true, .map (some b1)), (26, true, v), (27, true, I ys.length), (28, true, I x)]) (fun x : Int => [MapR b1 eRoute iE (incN SRoute.eqb (-1) ys (incN SRoute.eqb 1 xs [] xs.length) x.toNat)]) (fun x : Int => ((ys.length : Int) - x).toNat) (0) ?_ (fun x hx => ?_)))
    · omega
    obtain ⟨k, rfl⟩ : ∃ y, y = x := ⟨x, rfl⟩
    have hk : 0 ≤ k ∧ k ≤ ys.length := hx
    clear hx
    show Sat _ _ [(5, true, .map (some b1)), (26, true, v), (27, true, I ys.length), (28, true, I k)] [MapR b1 eRoute iE (incN SRoute.eqb (-1) ys (incN SRoute.eqb 1 xs [] xs.length) k.toNat)]
    refine sg (co (Ev.lss_i (.t rfl) (.t rfl)) ?_)
    refine nP (seq ?_)
    first | refine condD rfl (fun h1 => ?_) (fun h1 => ?_) | refine cond rfl (fun h1 => ?_) (fun h1 => ?_)
    · try simp only [nb] at h1
      refine skip (pN (seq (block (sg (co (Ev.indexAddr Tryz.underlying23 ty52 (.t rfl) (.t rfl) (fun w I => hy.keep0 I.keeps) (fun _ => zo)) ?_)))))
      refine co (Ev.loadS0 ty52 (.t rfl) (fun w I => hy.keep0 I.keeps) (fun _ => zo)) ?_
      refine cons (alloc z52 (fun b5 => ?_))
      refine cons (stv ty52 (Lens.id _) (.t rfl) (.t rfl) ?_)
      refine nP (drawR (.tail .head) zk ?_)
      refine tk 0 rfl (Ev.move (.t rfl)) ?_
      refine tk 1 rfl (Ev.ldv ty52 (.t rfl) (Lens.id _)) ?_
      refine all [2, 4] zk (by decide) (.cons rfl ?_ (.cons rfl ?_ .nil))
      · refine (opv (Ev.to (v' := I ((findV SRoute.eqb (ys.getD k.toNat eRoute.zero) (incN SRoute.eqb (-1) ys (incN SRoute.eqb 1 xs [] xs.length) k.toNat)).getD 0)) (Ev.lookupF Tryz.underlying128 Tryz.underlying52 key52 z3 (.t rfl) (.t rfl) (fun _ => (by first | exact mapAt_own (by repeat first | exact mH | apply mT | apply mA) | exact mapAt_stamp (by repeat first | exact mH | apply mT | apply mA) | exact fun w I => MapAt.keep0 (by assumption) I.keeps))) (by first | rfl | exact congrArg I (put_same SRoute.eqb_iff _ _))) ?_)
        refine hdn (tk 3 rfl (Ev.sub_i (.t rfl) (.c (v := I 1) rfl) (fun _ => by have := incN_bd SRoute.eqb_iff xs ys (ys.getD k.toNat eRoute.zero) k.toNat; have := incN_bd SRoute.eqb_iff xs ys (ys.getD k.toNat eRoute.zero) xs.length; omega)) ?_)
        refine al1 4 rfl ((mapEntry Tryz.underlying128 Tryz.underlying52 key52 z3 (.t rfl) (.t rfl) (fun _ => zu) (fun s6 => ?_)))
        refine hdn (tk 5 rfl (Ev.extract (.t rfl) rfl) ?_)
        refine al1 6 rfl ((entryStore (.t rfl) (.t rfl) (.t rfl) zu ?_))
        refine hdn (ovr (bN (pN (region (co (Ev.add_i (.t rfl) (.c (v := I 1) rfl) (fun _ => zo)) ?_)))))
        refine mv rfl (nP (nx (X := Int) (k + 1) ?_ ?_ (hL := (by rw [incN_stepI _ _ _ _ eRoute.zero (by omega)]; exact zs))))
        · try dsimp only
          omega
        · try dsimp only
          first | omega | (simp; omega)
      · refine (mapEntry Tryz.underlying128 Tryz.underlying52 key52 z3 (.t rfl) (.t rfl) (fun _ => zu) (fun s7 => ?_))
        refine hdn (tk 5 rfl (Ev.extract (.t rfl) rfl) ?_)
        refine al1 2 rfl ((opv (Ev.to (v' := I ((findV SRoute.eqb (ys.getD k.toNat eRoute.zero) (incN SRoute.eqb (-1) ys (incN SRoute.eqb 1 xs [] xs.length) k.toNat)).getD 0)) (Ev.lookupF Tryz.underlying128 Tryz.underlying52 key52 z3 (.t rfl) (.t rfl) (fun _ => (by first | exact mapAt_own (by repeat first | exact mH | apply mT | apply mA) | exact mapAt_stamp (by repeat first | exact mH | apply mT | apply mA) | exact fun w I => MapAt.keep0 (by assumption) I.keeps))) (by first | rfl | exact congrArg I (put_same SRoute.eqb_iff _ _))) ?_))
        refine hdn (tk 3 rfl (Ev.sub_i (.t rfl) (.c (v := I 1) rfl) (fun _ => by have := incN_bd SRoute.eqb_iff xs ys (ys.getD k.toNat eRoute.zero) k.toNat; have := incN_bd SRoute.eqb_iff xs ys (ys.getD k.toNat eRoute.zero) xs.length; omega)) ?_)
        refine al1 6 rfl ((entryStore (.t rfl) (.t rfl) (.t rfl) zu ?_))
        refine hdn (ovr (bN (pN (region (co (Ev.add_i (.t rfl) (.c (v := I 1) rfl) (fun _ => zo)) ?_)))))
        refine mv rfl (nP (nx (X := Int) (k + 1) ?_ ?_ (hL := (by rw [incN_stepI _ _ _ _ eRoute.zero (by omega)]; exact zs))))
        · try dsimp only
          omega
        · try dsimp only
          first | omega | (simp; omega)
    · try simp only [nb] at h1
      refine exit (pX (pX (bX (pN (seq (sg ?_))))))
      have hkl : k.toNat = ys.length := by omega
      rw [hkl]
      show Sat _ _ _ [MapR b1 eRoute iE (alikeM SRoute.eqb xs ys)]
      refine mv rfl (cons (startRange Tryz.underlying128 (.t rfl) (fun _ => zu) (fun r8 => ?_)))
      refine nP (block (lp (X := (List (SRoute × Int)) × (Option (SRoute × Int))) (fun x : (List (SRoute × Int)) × (Option (SRoute × Int)) => (∀ z ∈ alikeM SRoute.eqb xs ys, z ∈ x.1 ∨ z.2 = 0) ∧ (∀ z ∈ x.1, z ∈ alikeM SRoute.eqb xs ys)) (fun x : (List (SRoute × Int)) × (Option (SRoute × Int)) => [(40, true, .pointer (some ⟨r8, 0, none⟩))]) (fun x : (List (SRoute × Int)) × (Option (SRoute × Int)) => [RangeR r8 b1 eRoute iE (alikeM SRoute.eqb xs ys) x.1 x.2]) (fun x : (List (SRoute × Int)) × (Option (SRoute × Int)) => x.1.length) (alikeM SRoute.eqb xs ys, none) ⟨?_, ?_⟩ (fun x hx => ?_)))
      · exact fun z hz => .inl hz
      · exact fun z hz => hz
      obtain ⟨rem, cur⟩ := x
      obtain ⟨hr, hr2⟩ : (∀ z ∈ alikeM SRoute.eqb xs ys, z ∈ rem ∨ z.2 = 0) ∧ (∀ z ∈ rem, z ∈ alikeM SRoute.eqb xs ys) := hx
      show Sat _ _ [(40, true, .pointer (some ⟨r8, 0, none⟩))] [RangeR r8 b1 eRoute iE (alikeM SRoute.eqb xs ys) rem cur]
      refine sg (cons (nextRange (.t rfl) (fun _ => zu) (fun hs12 => ?_) (fun l9 p10 l11 hs12 => ?_)))
      · refine co (Ev.extract (.t rfl) rfl) (nP (seq (condF rfl (rfl) ?_)))
        refine exit (pX (pX (bX (pN (sg (co (Ev.assign (.c (v := .bool true) rfl)) ?_))))))
        refine nP (ret (done rfl (.tmp rfl .nil) (retE ?_)))
        have hz : alikeB SRoute.eqb xs ys = true := by
          refine List.all_eq_true.2 fun z hz => ?_
          rcases hr z hz with h | h
          · rw [hs12] at h; cases h
          · simpa using h
        rw [hz]; rfl
      · refine co (Ev.extract (.t rfl) rfl) (nP (seq (condT rfl (rfl) ?_)))
        refine skip (pN (block (sg (co (Ev.entry (.t rfl) zm) ?_))))
        refine co (Ev.extract (.t rfl) rfl) (asn rfl (nP (sg (mv rfl (co (Ev.neq_i (.t rfl) (.c (v := I 0) rfl)) ?_)))))
        refine nP ?_
        first | refine condD rfl (fun h3 => ?_) (fun h3 => ?_) | refine cond rfl (fun h3 => ?_) (fun h3 => ?_)
        · try simp only [nb] at h3
          refine sg (co (Ev.assign (.c (v := .bool false) rfl)) ?_)
          refine nP (ret (bR (pR (bR (pR (done rfl (.tmp rfl .nil) (retE ?_)))))))
          have hz : alikeB SRoute.eqb xs ys = false := by
            refine List.all_eq_false.2 ⟨p10, hr2 _ (by rw [hs12]; simp), ?_⟩
            simpa using h3
          rw [hz]; rfl
        · try simp only [nb] at h3
          refine skip (bN (pN (nx (X := (List (SRoute × Int)) × (Option (SRoute × Int))) (l9 ++ l11, some p10) ⟨?_, ?_⟩ ?_)))
          · try dsimp only
            intro z hz
            rcases hr z hz with h | h
            · rw [hs12] at h
              rcases List.mem_append.1 h with h | h
              · exact .inl (List.mem_append_left _ h)
              · rcases List.mem_cons.1 h with rfl | h
                · exact .inr (by simpa using h3)
                · exact .inl (List.mem_append_right _ h)
            · exact .inr h
          · try dsimp only
            intro z hz
            refine hr2 z ?_
            rw [hs12]
            rcases List.mem_append.1 hz with h | h
            · exact List.mem_append_left _ h
            · exact List.mem_append_right _ (List.mem_cons_of_mem _ h)
          · try dsimp only
            rw [hs12]; simp
theorem alike_57 (u v : Value) (xs ys : List SMeterConf) (w : World) (hx : IsSl eMeterConf w u xs) (hy : IsSl eMeterConf w v ys) (hlx : xs.length ≤ 4611686018427387903) (hly : ys.length ≤ 4611686018427387903) : Calls Tryz.prog 56 #[u, v] w (RetV w (.bool (alikeB SMeterConf.eqb xs ys))) := by
  have hle := hx.le
  have hle2 := hy.le
  refine en0 47 Tryz.func56 ?_
  refine sg (co (Ev.assign (.c (v := .bool false) rfl)) ?_)
  refine nP (sg (cons (makeMap (E := eMeterConf) (V := iE) (fun b1 => ?_))))
  refine asn rfl (nP (seq (sg (mv rfl (co (Ev.len Tryz.underlying25 (.t rfl) zf) ?_)))))
  refine co (Ev.move (.c (v := I 0) rfl)) ?_
  refine nP (block (lp (X := Int) (fun x : Int => (0 ≤ x ∧ x ≤ xs.length)) (fun x : Int => [(1, true, v), (5, true, .map (some b1)), (13, true, u), (14, true, I xs.length), (15, true, I x)]) (fun x : Int => [MapR b1 eMeterConf iE (incN SMeterConf.eqb 1 xs [] x.toNat)]) (fun x : Int => ((xs.length : Int) - x).toNat) (0) ?_ (fun x hx => ?_)))
  · omega
  obtain ⟨i, rfl⟩ : ∃ y, y = x := ⟨x, rfl⟩
  have hi : 0 ≤ i ∧ i ≤ xs.length := hx
  clear hx
  show Sat _ _ [(1, true, v), (5, true, .map (some b1)), (13, true, u), (14, true, I xs.length), (15, true, I i)] [MapR b1 eMeterConf iE (incN SMeterConf.eqb 1 xs [] i.toNat)]
  refine sg (co (Ev.lss_i (.t rfl) (.t rfl)) ?_)
  refine nP (seq ?_)
  first | refine condD rfl (fun h0 => ?_) (fun h0 => ?_) | refine cond rfl (fun h0 => ?_) (fun h0 => ?_)
  · try simp only [nb] at h0
    refine skip (pN (seq (block (sg (co (Ev.indexAddr Tryz.underlying25 ty57 (.t rfl) (.t rfl) (fun w I => hx.keep0 I.keeps) (fun _ => zo)) ?_)))))
    refine co (Ev.loadS0 ty57 (.t rfl) (fun w I => hx.keep0 I.keeps) (fun _ => zo)) ?_
    refine cons (alloc z57 (fun b2 => ?_))
    refine cons (stv ty57 (Lens.id _) (.t rfl) (.t rfl) ?_)
    refine nP (drawR (.tail .head) zk ?_)
    refine tk 0 rfl (Ev.move (.t rfl)) ?_
    refine tk 1 rfl (Ev.ldv ty57 (.t rfl) (Lens.id _)) ?_
    refine all [2, 4] zk (by decide) (.cons rfl ?_ (.cons rfl ?_ .nil))
    · refine (opv (Ev.to (v' := I ((findV SMeterConf.eqb (xs.getD i.toNat eMeterConf.zero) (incN SMeterConf.eqb 1 xs [] i.toNat)).getD 0)) (Ev.lookupF Tryz.underlying118 Tryz.underlying57 key57 z3 (.t rfl) (.t rfl) (fun _ => (by first | exact mapAt_own (by repeat first | exact mH | apply mT | apply mA) | exact mapAt_stamp (by repeat first | exact mH | apply mT | apply mA) | exact fun w I => MapAt.keep0 (by assumption) I.keeps))) (by first | rfl | exact congrArg I (put_same SMeterConf.eqb_iff _ _))) ?_)
      refine hdn (tk 3 rfl (Ev.add_i (.t rfl) (.c (v := I 1) rfl) (fun _ => by have := incN_bd SMeterConf.eqb_iff xs ys (xs.getD i.toNat eMeterConf.zero) i.toNat; omega)) ?_)
      refine al1 4 rfl ((mapEntry Tryz.underlying118 Tryz.underlying57 key57 z3 (.t rfl) (.t rfl) (fun _ => zu) (fun s3 => ?_)))
      refine hdn (tk 5 rfl (Ev.extract (.t rfl) rfl) ?_)
      refine al1 6 rfl ((entryStore (.t rfl) (.t rfl) (.t rfl) zu ?_))
      refine hdn (ovr (bN (pN (region (co (Ev.add_i (.t rfl) (.c (v := I 1) rfl) (fun _ => zo)) ?_)))))
      refine mv rfl (nP (nx (X := Int) (i + 1) ?_ ?_ (hL := (by rw [incN_stepI _ _ _ _ eMeterConf.zero (by omega)]; exact zs))))
      · try dsimp only
        omega
      · try dsimp only
        first | omega | (simp; omega)
    · refine (mapEntry Tryz.underlying118 Tryz.underlying57 key57 z3 (.t rfl) (.t rfl) (fun _ => zu) (fun s4 => ?_))
      refine hdn (tk 5 rfl (Ev.extract (.t rfl) rfl) ?_)
      refine al1 2 rfl ((opv (Ev.to (v' := I ((findV SMeterConf.eqb (xs.getD i.toNat eMeterConf.zero) (incN SMeterConf.eqb 1 xs [] i.toNat)).getD 0)) (Ev.lookupF Tryz.underlying118 Tryz.underlying57 key57 z3 (.t rfl) (.t rfl) (fun _ => (by first | exact mapAt_own (by repeat first | exact mH | apply mT | apply mA) | exact mapAt_stamp (by repeat first | exact mH | apply mT | apply mA) | exact fun w I => MapAt.keep0 (by assumption) I.keeps))) (by first | rfl | exact congrArg I (put_same SMeterConf.eqb_iff _ _))) ?_))
      refine hdn (tk 3 rfl (Ev.add_i (.t rfl) (.c (v := I 1) rfl) (fun _ => by have := incN_bd SMeterConf.eqb_iff xs ys (xs.getD i.toNat eMeterConf.zero) i.toNat; omega)) ?_)
      refine al1 6 rfl ((entryStore (.t rfl) (.t rfl) (.t rfl) zu ?_))
      refine hdn (ovr (bN (pN (region (co (Ev.add_i (.t rfl) (.c (v := I 1) rfl) (fun _ => zo)) ?_)))))
      refine mv rfl (nP (nx (X := Int) (i + 1) ?_ ?_ (hL := (by rw [incN_stepI _ _ _ _ eMeterConf.zero (by omega)]; exact zs))))
      · try dsimp only
        omega
      · try dsimp only
        first | omega | (simp; omega)
  · try simp only [nb] at h0
    refine exit (pX (pX (bX (pN (seq (sg ?_))))))
    have hil : i.toNat = xs.length := by omega
    rw [hil]
    refine mv rfl (co (Ev.len Tryz.underlying25 (.t rfl) (fun w I => hy.keep0 I.keeps)) ?_)
    refine co (Ev.move (.c (v := I 0) rfl)) ?_
    refine nP (block (lp (X := Int) (fun x : Int => (0 ≤ x ∧ x ≤ ys.length)) (fun x : Int => [(5, true, .map (some b1)), (26, true, v), (27, true, I ys.length), (28, true, I x)]) (fun x : Int => [MapR b1 eMeterConf iE (incN SMeterConf.eqb (-1) ys (incN SMeterConf.eqb 1 xs [] xs.length) x.toNat)]) (fun x : Int => ((ys.length : Int) - x).toNat) (0) ?_ (fun x hx => ?_)))
    · omega
    obtain ⟨k, rfl⟩ : ∃ y, y = x := ⟨x, rfl⟩
    have hk : 0 ≤ k ∧ k ≤ ys.length := hx
    clear hx
    show Sat _ _ [(5, true, .map (some b1)), (26, true, v), (27, true, I ys.length), (28, true, I k)] [MapR b1 eMeterConf iE (incN SMeterConf.eqb (-1) ys (incN SMeterConf.eqb 1 xs [] xs.length) k.toNat)]
    refine sg (co (Ev.lss_i (.t rfl) (.t rfl)) ?_)
    refine nP (seq ?_)
    first | refine condD rfl (fun h1 => ?_) (fun h1 => ?_) | refine cond rfl (fun h1 => ?_) (fun h1 => ?_)
    · try simp only [nb] at h1
      refine skip (pN (seq (block (sg (co (Ev.indexAddr Tryz.underlying25 ty57 (.t rfl) (.t rfl) (fun w I => hy.keep0 I.keeps) (fun _ => zo)) ?_)))))
      refine co (Ev.loadS0 ty57 (.t rfl) (fun w I => hy.keep0 I.keeps) (fun _ => zo)) ?_
      refine cons (alloc z57 (fun b5 => ?_))
      refine cons (stv ty57 (Lens.id _) (.t rfl) (.t rfl) ?_)
      refine nP (drawR (.tail .head) zk ?_)
      refine tk 0 rfl (Ev.move (.t rfl)) ?_
      refine tk 1 rfl (Ev.ldv ty57 (.t rfl) (Lens.id _)) ?_
      refine all [2, 4] zk (by decide) (.cons rfl ?_ (.cons rfl ?_ .nil))
      · refine (opv (Ev.to (v' := I ((findV SMeterConf.eqb (ys.getD k.toNat eMeterConf.zero) (incN SMeterConf.eqb (-1) ys (incN SMeterConf.eqb 1 xs [] xs.length) k.toNat)).getD 0)) (Ev.lookupF Tryz.underlying118 Tryz.underlying57 key57 z3 (.t rfl) (.t rfl) (fun _ => (by first | exact mapAt_own (by repeat first | exact mH | apply mT | apply mA) | exact mapAt_stamp (by repeat first | exact mH | apply mT | apply mA) | exact fun w I => MapAt.keep0 (by assumption) I.keeps))) (by first | rfl | exact congrArg I (put_same SMeterConf.eqb_iff _ _))) ?_)
        refine hdn (tk 3 rfl (Ev.sub_i (.t rfl) (.c (v := I 1) rfl) (fun _ => by have := incN_bd SMeterConf.eqb_iff xs ys (ys.getD k.toNat eMeterConf.zero) k.toNat; have := incN_bd SMeterConf.eqb_iff xs ys (ys.getD k.toNat eMeterConf.zero) xs.length; omega)) ?_)
        refine al1 4 rfl ((mapEntry Tryz.underlying118 Tryz.underlying57 key57 z3 (.t rfl) (.t rfl) (fun _ => zu) (fun s6 => ?_)))
        refine hdn (tk 5 rfl (Ev.extract (.t rfl) rfl) ?_)
        refine al1 6 rfl ((entryStore (.t rfl) (.t rfl) (.t rfl) zu ?_))
        refine hdn (ovr (bN (pN (region (co (Ev.add_i (.t rfl) (.c (v := I 1) rfl) (fun _ => zo)) ?_)))))
        refine mv rfl (nP (nx (X := Int) (k + 1) ?_ ?_ (hL := (by rw [incN_stepI _ _ _ _ eMeterConf.zero (by omega)]; exact zs))))
        · try dsimp only
          omega
        · try dsimp only
          first | omega | (simp; omega)
      · refine (mapEntry Tryz.underlying118 Tryz.underlying57 key57 z3 (.t rfl) (.t rfl) (fun _ => zu) (fun s7 => ?_))
        refine hdn (tk 5 rfl (Ev.extract (.t rfl) rfl) ?_)
        refine al1 2 rfl ((opv (Ev.to (v' := I ((findV SMeterConf.eqb (ys.getD k.toNat eMeterConf.zero) (incN SMeterConf.eqb (-1) ys (incN SMeterConf.eqb 1 xs [] xs.length) k.toNat)).getD 0)) (Ev.lookupF Tryz.underlying118 Tryz.underlying57 key57 z3 (.t rfl) (.t rfl) (fun _ => (by first | exact mapAt_own (by repeat first | exact mH | apply mT | apply mA) | exact mapAt_stamp (by repeat first | exact mH | apply mT | apply mA) | exact fun w I => MapAt.keep0 (by assumption) I.keeps))) (by first | rfl | exact congrArg I (put_same SMeterConf.eqb_iff _ _))) ?_))
        refine hdn (tk 3 rfl (Ev.sub_i (.t rfl) (.c (v := I 1) rfl) (fun _ => by have := incN_bd SMeterConf.eqb_iff xs ys (ys.getD k.toNat eMeterConf.zero) k.toNat; have := incN_bd SMeterConf.eqb_iff xs ys (ys.getD k.toNat eMeterConf.zero) xs.length; omega)) ?_)
        refine al1 6 rfl ((entryStore (.t rfl) (.t rfl) (.t rfl) zu ?_))
        refine hdn (ovr (bN (pN (region (co (Ev.add_i (.t rfl) (.c (v := I 1) rfl) (fun _ => zo)) ?_)))))
        refine mv rfl (nP (nx (X := Int) (k + 1) ?_ ?_ (hL := (by rw [incN_stepI _ _ _ _ eMeterConf.zero (by omega)]; exact zs))))
        · try dsimp only
          omega
        · try dsimp only
          first | omega | (simp; omega)
    · try simp only [nb] at h1
      refine exit (pX (pX (bX (pN (seq (sg ?_))))))
      have hkl : k.toNat = ys.length := by omega
      rw [hkl]
      show Sat _ _ _ [MapR b1 eMeterConf iE (alikeM SMeterConf.eqb xs ys)]
      refine mv rfl (cons (startRange Tryz.underlying118 (.t rfl) (fun _ => zu) (fun r8 => ?_)))
      refine nP (block (lp (X := (List (SMeterConf × Int)) × (Option (SMeterConf × Int))) (fun x : (List (SMeterConf × Int)) × (Option (SMeterConf × Int)) => (∀ z ∈ alikeM SMeterConf.eqb xs ys, z ∈ x.1 ∨ z.2 = 0) ∧ (∀ z ∈ x.1, z ∈ alikeM SMeterConf.eqb xs ys)) (fun x : (List (SMeterConf × Int)) × (Option (SMeterConf × Int)) => [(40, true, .pointer (some ⟨r8, 0, none⟩))]) (fun x : (List (SMeterConf × Int)) × (Option (SMeterConf × Int)) => [RangeR r8 b1 eMeterConf iE (alikeM SMeterConf.eqb xs ys) x.1 x.2]) (fun x : (List (SMeterConf × Int)) × (Option (SMeterConf × Int)) => x.1.length) (alikeM SMeterConf.eqb xs ys, none) ⟨?_, ?_⟩ (fun x hx => ?_)))
      · exact fun z hz => .inl hz
      · exact fun z hz => hz
      obtain ⟨rem, cur⟩ := x
      obtain ⟨hr, hr2⟩ : (∀ z ∈ alikeM SMeterConf.eqb xs ys, z ∈ rem ∨ z.2 = 0) ∧ (∀ z ∈ rem, z ∈ alikeM SMeterConf.eqb xs ys) := hx
      show Sat _ _ [(40, true, .pointer (some ⟨r8, 0, none⟩))] [RangeR r8 b1 eMeterConf iE (alikeM SMeterConf.eqb xs ys) rem cur]
      refine sg (cons (nextRange (.t rfl) (fun _ => zu) (fun hs12 => ?_) (fun l9 p10 l11 hs12 => ?_)))
      · refine co (Ev.extract (.t rfl) rfl) (nP (seq (condF rfl (rfl) ?_)))
        refine exit (pX (pX (bX (pN (sg (co (Ev.assign (.c (v := .bool true) rfl)) ?_))))))
        refine nP (ret (done rfl (.tmp rfl .nil) (retE ?_)))
        have hz : alikeB SMeterConf.eqb xs ys = true := by
          refine List.all_eq_true.2 fun z hz => ?_
          rcases hr z hz with h | h
          · rw [hs12] at h; cases h
          · simpa using h
        rw [hz]; rfl
      · refine co (Ev.extract (.t rfl) rfl) (nP (seq (condT rfl (rfl) ?_)))
        refine skip (pN (block (sg (co (Ev.entry (.t rfl) zm) ?_))))
        refine co (Ev.extract (.t rfl) rfl) (asn rfl (nP (sg (mv rfl (co (Ev.neq_i (.t rfl) (.c (v := I 0) rfl)) ?_)))))
        refine nP ?_
        first | refine condD rfl (fun h3 => ?_) (fun h3 => ?_) | refine cond rfl (fun h3 => ?_) (fun h3 => ?_)
        · try simp only [nb] at h3
          refine sg (co (Ev.assign (.c (v := .bool false) rfl)) ?_)
          refine nP (ret (bR (pR (bR (pR (done rfl (.tmp rfl .nil) (retE ?_)))))))
          have hz : alikeB SMeterConf.eqb xs ys = false := by
            refine List.all_eq_false.2 ⟨p10, hr2 _ (by rw [hs12]; simp), ?_⟩
            simpa using h3
          rw [hz]; rfl
        · try simp only [nb] at h3
          refine skip (bN (pN (nx (X := (List (SMeterConf × Int)) × (Option (SMeterConf × Int))) (l9 ++ l11, some p10) ⟨?_, ?_⟩ ?_)))
          · try dsimp only
            intro z hz
            rcases hr z hz with h | h
            · rw [hs12] at h
              rcases List.mem_append.1 h with h | h
              · exact .inl (List.mem_append_left _ h)
              · rcases List.mem_cons.1 h with rfl | h
                · exact .inr (by simpa using h3)
                · exact .inl (List.mem_append_right _ h)
            · exact .inr h
          · try dsimp only
            intro z hz
            refine hr2 z ?_
            rw [hs12]
            rcases List.mem_append.1 hz with h | h
            · exact List.mem_append_left _ h
            · exact List.mem_append_right _ (List.mem_cons_of_mem _ h)
          · try dsimp only
            rw [hs12]; simp
theorem alike_59 (u v : Value) (xs ys : List SMirrorConf) (w : World) (hx : IsSl eMirrorConf w u xs) (hy : IsSl eMirrorConf w v ys) (hlx : xs.length ≤ 4611686018427387903) (hly : ys.length ≤ 4611686018427387903) : Calls Tryz.prog 57 #[u, v] w (RetV w (.bool (alikeB SMirrorConf.eqb xs ys))) := by
  have hle := hx.le
  have hle2 := hy.le
  refine en0 47 Tryz.func57 ?_
  refine sg (co (Ev.assign (.c (v := .bool false) rfl)) ?_)
  refine nP (sg (cons (makeMap (E := eMirrorConf) (V := iE) (fun b1 => ?_))))
  refine asn rfl (nP (seq (sg (mv rfl (co (Ev.len Tryz.underlying26 (.t rfl) zf) ?_)))))
  refine co (Ev.move (.c (v := I 0) rfl)) ?_
  refine nP (block (lp (X := Int) (fun x : Int => (0 ≤ x ∧ x ≤ xs.length)) (fun x : Int => [(1, true, v), (5, true, .map (some b1)), (13, true, u), (14, true, I xs.length), (15, true, I x)]) (fun x : Int => [MapR b1 eMirrorConf iE (incN SMirrorConf.eqb 1 xs [] x.toNat)]) (fun x : Int => ((xs.length : Int) - x).toNat) (0) ?_ (fun x hx => ?_)))
  · omega
  obtain ⟨i, rfl⟩ : ∃ y, y = x := ⟨x, rfl⟩
  have hi : 0 ≤ i ∧ i ≤ xs.length := hx
  clear hx
  show Sat _ _ [(1, true, v), (5, true, .map (some b1)), (13, true, u), (14, true, I xs.length), (15, true, I i)] [MapR b1 eMirrorConf iE (incN SMirrorConf.eqb 1 xs [] i.toNat)]
  refine sg (co (Ev.lss_i (.t rfl) (.t rfl)) ?_)
  refine nP (seq ?_)
  first | refine condD rfl (fun h0 => ?_) (fun h0 => ?_) | refine cond rfl (fun h0 => ?_) (fun h0 => ?_)
  · try simp only [nb] at h0
    refine skip (pN (seq (block (sg (co (Ev.indexAddr Tryz.underlying26 ty59 (.t rfl) (.t rfl) (fun w I => hx.keep0 I.keeps) (fun _ => zo)) ?_)))))
    refine co (Ev.loadS0 ty59 (.t rfl) (fun w I => hx.keep0 I.keeps) (fun _ => zo)) ?_
    refine cons (alloc z59 (fun b2 => ?_))
    refine cons (stv ty59 (Lens.id _) (.t rfl) (.t rfl) ?_)
    refine nP (drawR (.tail .head) zk ?_)
    refine tk 0 rfl (Ev.move (.t rfl)) ?_
    refine tk 1 rfl (Ev.ldv ty59 (.t rfl) (Lens.id _)) ?_
    refine all [2, 4] zk (by decide) (.cons rfl ?_ (.cons rfl ?_ .nil))
    · refine (opv (Ev.to (v' := I ((findV SMirrorConf.eqb (xs.getD i.toNat eMirrorConf.zero) (incN SMirrorConf.eqb 1 xs [] i.toNat)).getD 0)) (Ev.lookupF Tryz.underlying123 Tryz.underlying59 key59 z3 (.t rfl) (.t rfl) (fun _ => (by first | exact mapAt_own (by repeat first | exact mH | apply mT | apply mA) | exact mapAt_stamp (by repeat first | exact mH | apply mT | apply mA) | exact fun w I => MapAt.keep0 (by assumption) I.keeps))) (by first | rfl | exact congrArg I (put_same SMirrorConf.eqb_iff _ _))) ?_)
      refine hdn (tk 3 rfl (Ev.add_i (.t rfl) (.c (v := I 1) rfl) (fun _ => by have := incN_bd SMirrorConf.eqb_iff xs ys (xs.getD i.toNat eMirrorConf.zero) i.toNat; omega)) ?_)
      refine al1 4 rfl ((mapEntry Tryz.underlying123 Tryz.underlying59 key59 z3 (.t rfl) (.t rfl) (fun _ => zu) (fun s3 => ?_)))
      refine hdn (tk 5 rfl (Ev.extract (.t rfl) rfl) ?_)
      refine al1 6 rfl ((entryStore (.t rfl) (.t rfl) (.t rfl) zu ?_))
      refine hdn (ovr (bN (pN (region (co (Ev.add_i (.t rfl) (.c (v := I 1) rfl) (fun _ => zo)) ?_)))))
      refine mv rfl (nP (nx (X := Int) (i + 1) ?_ ?_ (hL := (by rw [incN_stepI _ _ _ _ eMirrorConf.zero (by omega)]; exact zs))))
      · try dsimp only
        omega
      · try dsimp only
        first | omega | (simp; omega)
    · refine (mapEntry Tryz.underlying123 Tryz.underlying59 key59 z3 (.t rfl) (.t rfl) (fun _ => zu) (fun s4 => ?_))
      refine hdn (tk 5 rfl (Ev.extract (.t rfl) rfl) ?_)
      refine al1 2 rfl ((opv (Ev.to (v' := I ((findV SMirrorConf.eqb (xs.getD i.toNat eMirrorConf.zero) (incN SMirrorConf.eqb 1 xs [] i.toNat)).getD 0)) (Ev.lookupF Tryz.underlying123 Tryz.underlying59 key59 z3 (.t rfl) (.t rfl) (fun _ => (by first | exact mapAt_own (by repeat first | exact mH | apply mT | apply mA) | exact mapAt_stamp (by repeat first | exact mH | apply mT | apply mA) | exact fun w I => MapAt.keep0 (by assumption) I.keeps))) (by first | rfl | exact congrArg I (put_same SMirrorConf.eqb_iff _ _))) ?_))
      refine hdn (tk 3 rfl (Ev.add_i (.t rfl) (.c (v := I 1) rfl) (fun _ => by have := incN_bd SMirrorConf.eqb_iff xs ys (xs.getD i.toNat eMirrorConf.zero) i.toNat; omega)) ?_)
      refine al1 6 rfl ((entryStore (.t rfl) (.t rfl) (.t rfl) zu ?_))
      refine hdn (ovr (bN (pN (region (co (Ev.add_i (.t rfl) (.c (v := I 1) rfl) (fun _ => zo)) ?_)))))
      refine mv rfl (nP (nx (X := Int) (i + 1) ?_ ?_ (hL := (by rw [incN_stepI _ _ _ _ eMirrorConf.zero (by omega)]; exact zs))))
      · try dsimp only
        omega
      · try dsimp only
        first | omega | (simp; omega)
  · try simp only [nb] at h0
    refine exit (pX (pX (bX (pN (seq (sg ?_))))))
    have hil : i.toNat = xs.length := by omega
    rw [hil]
    refine mv rfl (co (Ev.len Tryz.underlying26 (.t rfl) (fun w I => hy.keep0 I.keeps)) ?_)
    refine co (Ev.move (.c (v := I 0) rfl)) ?_
    refine nP (block (lp (X := Int) (fun x : Int => (0 ≤ x ∧ x ≤ ys.length)) (fun x : Int => [(5, true, .map (some b1)), (26, true, v), (27, true, I ys.length), (28, true, I x)]) (fun x : Int => [MapR b1 eMirrorConf iE (incN SMirrorConf.eqb (-1) ys (incN SMirrorConf.eqb 1 xs [] xs.length) x.toNat)]) (fun x : Int => ((ys.length : Int) - x).toNat) (0) ?_ (fun x hx => ?_)))
    · omega
    obtain ⟨k, rfl⟩ : ∃ y, y = x := ⟨x, rfl⟩
    have hk : 0 ≤ k ∧ k ≤ ys.length := hx
    clear hx
    show Sat _ _ [(5, true, .map (some b1)), (26, true, v), (27, true, I ys.length), (28, true, I k)] [MapR b1 eMirrorConf iE (incN SMirrorConf.eqb (-1) ys (incN SMirrorConf.eqb 1 xs [] xs.length) k.toNat)]
    refine sg (co (Ev.lss_i (.t rfl) (.t rfl)) ?_)
    refine nP (seq ?_)
    first | refine condD rfl (fun h1 => ?_) (fun h1 => ?_) | refine cond rfl (fun h1 => ?_) (fun h1 => ?_)
    · try simp only [nb] at h1
      refine skip (pN (seq (block (sg (co (Ev.indexAddr Tryz.underlying26 ty59 (.t rfl) (.t rfl) (fun w I => hy.keep0 I.keeps) (fun _ => zo)) ?_)))))
      refine co (Ev.loadS0 ty59 (.t rfl) (fun w I => hy.keep0 I.keeps) (fun _ => zo)) ?_
      refine cons (alloc z59 (fun b5 => ?_))
      refine cons (stv ty59 (Lens.id _) (.t rfl) (.t rfl) ?_)
      refine nP (drawR (.tail .head) zk ?_)
      refine tk 0 rfl (Ev.move (.t rfl)) ?_
      refine tk 1 rfl (Ev.ldv ty59 (.t rfl) (Lens.id _)) ?_
      refine all [2, 4] zk (by decide) (.cons rfl ?_ (.cons rfl ?_ .nil))
      · refine (opv (Ev.to (v' := I ((findV SMirrorConf.eqb (ys.getD k.toNat eMirrorConf.zero) (incN SMirrorConf.eqb (-1) ys (incN SMirrorConf.eqb 1 xs [] xs.length) k.toNat)).getD 0)) (Ev.lookupF Tryz.underlying123 Tryz.underlying59 key59 z3 (.t rfl) (.t rfl) (fun _ => (by first | exact mapAt_own (by repeat first | exact mH | apply mT | apply mA) | exact mapAt_stamp (by repeat first | exact mH | apply mT | apply mA) | exact fun w I => MapAt.keep0 (by assumption) I.keeps))) (by first | rfl | exact congrArg I (put_same SMirrorConf.eqb_iff _ _))) ?_)
        refine hdn (tk 3 rfl (Ev.sub_i (.t rfl) (.c (v := I 1) rfl) (fun _ => by have := incN_bd SMirrorConf.eqb_iff xs ys (ys.getD k.toNat eMirrorConf.zero) k.toNat; have := incN_bd SMirrorConf.eqb_iff xs ys (ys.getD k.toNat eMirrorConf.zero) xs.length; omega)) ?_)
        refine al1 4 rfl ((mapEntry Tryz.underlying123 Tryz.underlying59 key59 z3 (.t rfl) (.t rfl) (fun _ => zu) (fun s6 => ?_)))
        refine hdn (tk 5 rfl (Ev.extract (.t rfl) rfl) ?_)
        refine al1 6 rfl ((entryStore (.t rfl) (.t rfl) (.t rfl) zu ?_))
        refine hdn (ovr (bN (pN (region (co (Ev.add_i (.t rfl) (.c (v := I 1) rfl) (fun _ => zo)) ?_)))))
        refine mv rfl (nP (nx (X := Int) (k + 1) ?_ ?_ (hL := (by rw [incN_stepI _ _ _ _ eMirrorConf.zero (by omega)]; exact zs))))
        · try dsimp only
          omega
        · try dsimp only
          first | omega | (simp; omega)
      · refine (mapEntry Tryz.underlying123 Tryz.underlying59 key59 z3 (.t rfl) (.t rfl) (fun _ => zu) (fun s7 => ?_))
        refine hdn (tk 5 rfl (Ev.extract (.t rfl) rfl) ?_)
        refine al1 2 rfl ((opv (Ev.to (v' := I ((findV SMirrorConf.eqb (ys.getD k.toNat eMirrorConf.zero) (incN SMirrorConf.eqb (-1) ys (incN SMirrorConf.eqb 1 xs [] xs.length) k.toNat)).getD 0)) (Ev.lookupF Tryz.underlying123 Tryz.underlying59 key59 z3 (.t rfl) (.t rfl) (fun _ => (by first | exact mapAt_own (by repeat first | exact mH | apply mT | apply mA) | exact mapAt_stamp (by repeat first | exact mH | apply mT | apply mA) | exact fun w I => MapAt.keep0 (by assumption) I.keeps))) (by first | rfl | exact congrArg I (put_same SMirrorConf.eqb_iff _ _))) ?_))
        refine hdn (tk 3 rfl (Ev.sub_i (.t rfl) (.c (v := I 1) rfl) (fun _ => by have := incN_bd SMirrorConf.eqb_iff xs ys (ys.getD k.toNat eMirrorConf.zero) k.toNat; have := incN_bd SMirrorConf.eqb_iff xs ys (ys.getD k.toNat eMirrorConf.zero) xs.length; omega)) ?_)
        refine al1 6 rfl ((entryStore (.t rfl) (.t rfl) (.t rfl) zu ?_))
        refine hdn (ovr (bN (pN (region (co (Ev.add_i (.t rfl) (.c (v := I 1) rfl) (fun _ => zo)) ?_)))))
        refine mv rfl (nP (nx (X := Int) (k + 1) ?_ ?_ (hL := (by rw [incN_stepI _ _ _ _ eMirrorConf.zero (by omega)]; exact zs))))
        · try dsimp only
          omega
        · try dsimp only
          first | omega | (simp; omega)
    · try simp only [nb] at h1
      refine exit (pX (pX (bX (pN (seq (sg ?_))))))
      have hkl : k.toNat = ys.length := by omega
      rw [hkl]
      show Sat _ _ _ [MapR b1 eMirrorConf iE (alikeM SMirrorConf.eqb xs ys)]
      refine mv rfl (cons (startRange Tryz.underlying123 (.t rfl) (fun _ => zu) (fun r8 => ?_)))
      refine nP (block (lp (X := (List (SMirrorConf × Int)) × (Option (SMirrorConf × Int))) (fun x : (List (SMirrorConf × Int)) × (Option (SMirrorConf × Int)) => (∀ z ∈ alikeM SMirrorConf.eqb xs ys, z ∈ x.1 ∨ z.2 = 0) ∧ (∀ z ∈ x.1, z ∈ alikeM SMirrorConf.eqb xs ys)) (fun x : (List (SMirrorConf × Int)) × (Option (SMirrorConf × Int)) => [(40, true, .pointer (some ⟨r8, 0, none⟩))]) (fun x : (List (SMirrorConf × Int)) × (Option (SMirrorConf × Int)) => [RangeR r8 b1 eMirrorConf iE (alikeM SMirrorConf.eqb xs ys) x.1 x.2]) (fun x : (List (SMirrorConf × Int)) × (Option (SMirrorConf × Int)) => x.1.length) (alikeM SMirrorConf.eqb xs ys, none) ⟨?_, ?_⟩ (fun x hx => ?_)))
      · exact fun z hz => .inl hz
      · exact fun z hz => hz
      obtain ⟨rem, cur⟩ := x
      obtain ⟨hr, hr2⟩ : (∀ z ∈ alikeM SMirrorConf.eqb xs ys, z ∈ rem ∨ z.2 = 0) ∧ (∀ z ∈ rem, z ∈ alikeM SMirrorConf.eqb xs ys) := hx
      show Sat _ _ [(40, true, .pointer (some ⟨r8, 0, none⟩))] [RangeR r8 b1 eMirrorConf iE (alikeM SMirrorConf.eqb xs ys) rem cur]
      refine sg (cons (nextRange (.t rfl) (fun _ => zu) (fun hs12 => ?_) (fun l9 p10 l11 hs12 => ?_)))
      · refine co (Ev.extract (.t rfl) rfl) (nP (seq (condF rfl (rfl) ?_)))
        refine exit (pX (pX (bX (pN (sg (co (Ev.assign (.c (v := .bool true) rfl)) ?_))))))
        refine nP (ret (done rfl (.tmp rfl .nil) (retE ?_)))
        have hz : alikeB SMirrorConf.eqb xs ys = true := by
          refine List.all_eq_true.2 fun z hz => ?_
          rcases hr z hz with h | h
          · rw [hs12] at h; cases h
          · simpa using h
        rw [hz]; rfl
      · refine co (Ev.extract (.t rfl) rfl) (nP (seq (condT rfl (rfl) ?_)))
        refine skip (pN (block (sg (co (Ev.entry (.t rfl) zm) ?_))))
        refine co (Ev.extract (.t rfl) rfl) (asn rfl (nP (sg (mv rfl (co (Ev.neq_i (.t rfl) (.c (v := I 0) rfl)) ?_)))))
        refine nP ?_
        first | refine condD rfl (fun h3 => ?_) (fun h3 => ?_) | refine cond rfl (fun h3 => ?_) (fun h3 => ?_)
        · try simp only [nb] at h3
          refine sg (co (Ev.assign (.c (v := .bool false) rfl)) ?_)
          refine nP (ret (bR (pR (bR (pR (done rfl (.tmp rfl .nil) (retE ?_)))))))
          have hz : alikeB SMirrorConf.eqb xs ys = false := by
            refine List.all_eq_false.2 ⟨p10, hr2 _ (by rw [hs12]; simp), ?_⟩
            simpa using h3
          rw [hz]; rfl
        · try simp only [nb] at h3
          refine skip (bN (pN (nx (X := (List (SMirrorConf × Int)) × (Option (SMirrorConf × Int))) (l9 ++ l11, some p10) ⟨?_, ?_⟩ ?_)))
          · try dsimp only
            intro z hz
            rcases hr z hz with h | h
            · rw [hs12] at h
              rcases List.mem_append.1 h with h | h
              · exact .inl (List.mem_append_left _ h)
              · rcases List.mem_cons.1 h with rfl | h
                · exact .inr (by simpa using h3)
                · exact .inl (List.mem_append_right _ h)
            · exact .inr h
          · try dsimp only
            intro z hz
            refine hr2 z ?_
            rw [hs12]
            rcases List.mem_append.1 hz with h | h
            · exact List.mem_append_left _ h
            · exact List.mem_append_right _ (List.mem_cons_of_mem _ h)
          · try dsimp only
            rw [hs12]; simp
theorem zb3 : (Tryz.prog.info? 3).map (fun i => (i.zero, i.bytes)) = some (some (iE.val iE.zero), 8) := by kernel_rfl
theorem zs3 : (iE.val iE.zero).cells.size = iE.size := by rw [Enc.cells_val, List.size_toArray, Enc.len]
theorem clone_3 (u : Value) (xs : List Int) (w : World) (hl : IsSl iE w u xs) (hn : xs.length * 8 ≤ 140737488355328) : Calls Tryz.prog 48 #[u] w (RetO w iE xs 3) := by
  have hle := hl.le
  have hl2 := hl
  obtain ⟨sa, cap, rfl, hc1, hc2, hc3, hc4⟩ := hl2
  replace hc3 : sa = none → [] = xs := fun e => (hc3 e).1.symm
  refine en0 8 Tryz.func48 ?_
  refine sg (co (Ev.assign (.c (v := (Go.Value.slice none 0 0)) rfl)) ?_)
  refine nP (seq (sg (mv rfl (co (Ev.eql_slnil Tryz.underlying22 (.t rfl) (.c rfl)) ?_))))
  refine nP ?_
  first | refine condD rfl (fun h0 => ?_) (fun h0 => ?_) | refine cond rfl (fun h0 => ?_) (fun h0 => ?_)
  · try simp only [nb] at h0
    refine sg (takeNil iE 3 ?_)
    refine co (Ev.assign (.c (v := (Go.Value.slice none 0 0)) rfl)) ?_
    refine nP (ret (pR (done rfl (.tmp rfl .nil) (retOE zm ?_))))
    first | exact hc3 (by simpa using h0) | (symm; exact hc3 (by simpa using h0))
  · try simp only [nb] at h0
    refine skip (pN (sg (cons (buildSlice (E := iE) Tryz.underlying22 ty3 z3 .nil rfl rfl (fun v1 => ?_)))))
    refine mv rfl (cons (app (E := iE) Tryz.underlying22 ty3 zb3 zs3 (.t rfl) (.t rfl) (fun v2 => ?_) (hsrc := (fun w I => hl.keep0 I.keeps)) (hby := ⟨by (show _ ≤ 9223372036854775807); first | omega | (simp; done) | (simp; omega), by first | omega | (simp; done) | (simp; omega)⟩)))
    refine asn rfl (nP (ret (done rfl (.tmp rfl .nil) (retOE zm ?_))))
    simp
theorem zb52 : (Tryz.prog.info? 52).map (fun i => (i.zero, i.bytes)) = some (some (eRoute.val eRoute.zero), 40) := by kernel_rfl
theorem zs52 : (eRoute.val eRoute.zero).cells.size = eRoute.size := by rw [Enc.cells_val, List.size_toArray, Enc.len]
theorem clone_52 (u : Value) (xs : List SRoute) (w : World) (hl : IsSl eRoute w u xs) (hn : xs.length * 40 ≤ 140737488355328) : Calls Tryz.prog 49 #[u] w (RetO w eRoute xs 52) := by
  have hle := hl.le
  have hl2 := hl
  obtain ⟨sa, cap, rfl, hc1, hc2, hc3, hc4⟩ := hl2
  replace hc3 : sa = none → [] = xs := fun e => (hc3 e).1.symm
  refine en0 8 Tryz.func49 ?_
  refine sg (co (Ev.assign (.c (v := (Go.Value.slice none 0 0)) rfl)) ?_)
  refine nP (seq (sg (mv rfl (co (Ev.eql_slnil Tryz.underlying23 (.t rfl) (.c rfl)) ?_))))
  refine nP ?_
  first | refine condD rfl (fun h0 => ?_) (fun h0 => ?_) | refine cond rfl (fun h0 => ?_) (fun h0 => ?_)
  · try simp only [nb] at h0
    refine sg (takeNil eRoute 52 ?_)
    refine co (Ev.assign (.c (v := (Go.Value.slice none 0 0)) rfl)) ?_
    refine nP (ret (pR (done rfl (.tmp rfl .nil) (retOE zm ?_))))
    first | exact hc3 (by simpa using h0) | (symm; exact hc3 (by simpa using h0))
  · try simp only [nb] at h0
    refine skip (pN (sg (cons (buildSlice (E := eRoute) Tryz.underlying23 ty52 z52 .nil rfl rfl (fun v1 => ?_)))))
    refine mv rfl (cons (app (E := eRoute) Tryz.underlying23 ty52 zb52 zs52 (.t rfl) (.t rfl) (fun v2 => ?_) (hsrc := (fun w I => hl.keep0 I.keeps)) (hby := ⟨by (show _ ≤ 9223372036854775807); first | omega | (simp; done) | (simp; omega), by first | omega | (simp; done) | (simp; omega)⟩)))
    refine asn rfl (nP (ret (done rfl (.tmp rfl .nil) (retOE zm ?_))))
    simp
theorem zb76 : (Tryz.prog.info? 76).map (fun i => (i.zero, i.bytes)) = some (some (eRule.val eRule.zero), 152) := by kernel_rfl
theorem zs76 : (eRule.val eRule.zero).cells.size = eRule.size := by rw [Enc.cells_val, List.size_toArray, Enc.len]
theorem clone_76 (u : Value) (xs : List SRule) (w : World) (hl : IsSl eRule w u xs) (hn : xs.length * 152 ≤ 140737488355328) : Calls Tryz.prog 50 #[u] w (RetO w eRule xs 76) := by
  have hle := hl.le
  have hl2 := hl
  obtain ⟨sa, cap, rfl, hc1, hc2, hc3, hc4⟩ := hl2
  replace hc3 : sa = none → [] = xs := fun e => (hc3 e).1.symm
  refine en0 8 Tryz.func50 ?_
  refine sg (co (Ev.assign (.c (v := (Go.Value.slice none 0 0)) rfl)) ?_)
  refine nP (seq (sg (mv rfl (co (Ev.eql_slnil Tryz.underlying24 (.t rfl) (.c rfl)) ?_))))
  refine nP ?_
  first | refine condD rfl (fun h0 => ?_) (fun h0 => ?_) | refine cond rfl (fun h0 => ?_) (fun h0 => ?_)
  · try simp only [nb] at h0
    refine sg (takeNil eRule 76 ?_)
    refine co (Ev.assign (.c (v := (Go.Value.slice none 0 0)) rfl)) ?_
    refine nP (ret (pR (done rfl (.tmp rfl .nil) (retOE zm ?_))))
    first | exact hc3 (by simpa using h0) | (symm; exact hc3 (by simpa using h0))
  · try simp only [nb] at h0
    refine skip (pN (sg (cons (buildSlice (E := eRule) Tryz.underlying24 ty76 z76 .nil rfl rfl (fun v1 => ?_)))))
    refine mv rfl (cons (app (E := eRule) Tryz.underlying24 ty76 zb76 zs76 (.t rfl) (.t rfl) (fun v2 => ?_) (hsrc := (fun w I => hl.keep0 I.keeps)) (hby := ⟨by (show _ ≤ 9223372036854775807); first | omega | (simp; done) | (simp; omega), by first | omega | (simp; done) | (simp; omega)⟩)))
    refine asn rfl (nP (ret (done rfl (.tmp rfl .nil) (retOE zm ?_))))
    simp
theorem zb57 : (Tryz.prog.info? 57).map (fun i => (i.zero, i.bytes)) = some (some (eMeterConf.val eMeterConf.zero), 40) := by kernel_rfl
theorem zs57 : (eMeterConf.val eMeterConf.zero).cells.size = eMeterConf.size := by rw [Enc.cells_val, List.size_toArray, Enc.len]
theorem clone_57 (u : Value) (xs : List SMeterConf) (w : World) (hl : IsSl eMeterConf w u xs) (hn : xs.length * 40 ≤ 140737488355328) : Calls Tryz.prog 51 #[u] w (RetO w eMeterConf xs 57) := by
  have hle := hl.le
  have hl2 := hl
  obtain ⟨sa, cap, rfl, hc1, hc2, hc3, hc4⟩ := hl2
  replace hc3 : sa = none → [] = xs := fun e => (hc3 e).1.symm
  refine en0 8 Tryz.func51 ?_
  refine sg (co (Ev.assign (.c (v := (Go.Value.slice none 0 0)) rfl)) ?_)
  refine nP (seq (sg (mv rfl (co (Ev.eql_slnil Tryz.underlying25 (.t rfl) (.c rfl)) ?_))))
  refine nP ?_
  first | refine condD rfl (fun h0 => ?_) (fun h0 => ?_) | refine cond rfl (fun h0 => ?_) (fun h0 => ?_)
  · try simp only [nb] at h0
    refine sg (takeNil eMeterConf 57 ?_)
    refine co (Ev.assign (.c (v := (Go.Value.slice none 0 0)) rfl)) ?_
    refine nP (ret (pR (done rfl (.tmp rfl .nil) (retOE zm ?_))))
    first | exact hc3 (by simpa using h0) | (symm; exact hc3 (by simpa using h0))
  · try simp only [nb] at h0
    refine skip (pN (sg (cons (buildSlice (E := eMeterConf) Tryz.underlying25 ty57 z57 .nil rfl rfl (fun v1 => ?_)))))
    refine mv rfl (cons (app (E := eMeterConf) Tryz.underlying25 ty57 zb57 zs57 (.t rfl) (.t rfl) (fun v2 => ?_) (hsrc := (fun w I => hl.keep0 I.keeps)) (hby := ⟨by (show _ ≤ 9223372036854775807); first | omega | (simp; done) | (simp; omega), by first | omega | (simp; done) | (simp; omega)⟩)))
    refine asn rfl (nP (ret (done rfl (.tmp rfl .nil) (retOE zm ?_))))
    simp
theorem zb59 : (Tryz.prog.info? 59).map (fun i => (i.zero, i.bytes)) = some (some (eMirrorConf.val eMirrorConf.zero), 32) := by kernel_rfl
theorem zs59 : (eMirrorConf.val eMirrorConf.zero).cells.size = eMirrorConf.size := by rw [Enc.cells_val, List.size_toArray, Enc.len]
theorem clone_59 (u : Value) (xs : List SMirrorConf) (w : World) (hl : IsSl eMirrorConf w u xs) (hn : xs.length * 32 ≤ 140737488355328) : Calls Tryz.prog 52 #[u] w (RetO w eMirrorConf xs 59) := by
  have hle := hl.le
  have hl2 := hl
  obtain ⟨sa, cap, rfl, hc1, hc2, hc3, hc4⟩ := hl2
  replace hc3 : sa = none → [] = xs := fun e => (hc3 e).1.symm
  refine en0 8 Tryz.func52 ?_
  refine sg (co (Ev.assign (.c (v := (Go.Value.slice none 0 0)) rfl)) ?_)
  refine nP (seq (sg (mv rfl (co (Ev.eql_slnil Tryz.underlying26 (.t rfl) (.c rfl)) ?_))))
  refine nP ?_
  first | refine condD rfl (fun h0 => ?_) (fun h0 => ?_) | refine cond rfl (fun h0 => ?_) (fun h0 => ?_)
  · try simp only [nb] at h0
    refine sg (takeNil eMirrorConf 59 ?_)
    refine co (Ev.assign (.c (v := (Go.Value.slice none 0 0)) rfl)) ?_
    refine nP (ret (pR (done rfl (.tmp rfl .nil) (retOE zm ?_))))
    first | exact hc3 (by simpa using h0) | (symm; exact hc3 (by simpa using h0))
  · try simp only [nb] at h0
    refine skip (pN (sg (cons (buildSlice (E := eMirrorConf) Tryz.underlying26 ty59 z59 .nil rfl rfl (fun v1 => ?_)))))
    refine mv rfl (cons (app (E := eMirrorConf) Tryz.underlying26 ty59 zb59 zs59 (.t rfl) (.t rfl) (fun v2 => ?_) (hsrc := (fun w I => hl.keep0 I.keeps)) (hby := ⟨by (show _ ≤ 9223372036854775807); first | omega | (simp; done) | (simp; omega), by first | omega | (simp; done) | (simp; omega)⟩)))
    refine asn rfl (nP (ret (done rfl (.tmp rfl .nil) (retOE zm ?_))))
    simp
theorem equal_3 (u v : Value) (xs ys : List Int) (w : World) (hx : IsSl iE w u xs) (hy : IsSl iE w v ys) : Calls Tryz.prog 53 #[u, v] w (RetV w (.bool (decide (xs = ys)))) := by
  have hle := hx.le
  have hle2 := hy.le
  refine en0 26 Tryz.func53 ?_
  refine sg (co (Ev.assign (.c (v := .bool false) rfl)) ?_)
  refine nP (seq (sg (mv rfl (co (Ev.len Tryz.underlying22 (.t rfl) (fun w I => hx.keep0 I.keeps)) ?_))))
  refine mv rfl (co (Ev.len Tryz.underlying22 (.t rfl) (fun w I => hy.keep0 I.keeps)) ?_)
  refine co (Ev.neq_i (.t rfl) (.t rfl)) ?_
  refine nP ?_
  first | refine condD rfl (fun h0 => ?_) (fun h0 => ?_) | refine cond rfl (fun h0 => ?_) (fun h0 => ?_)
  · try simp only [nb] at h0
    refine sg (co (Ev.assign (.c (v := .bool false) rfl)) ?_)
    refine nP (ret (pR (done rfl (.tmp rfl .nil) (retE ?_))))
    have hz : ¬ xs = ys := fun e => h0 (by rw [e])
    rw [decide_eq_false hz]; rfl
  · try simp only [nb] at h0
    refine skip (pN (seq (sg (mv rfl (co (Ev.len Tryz.underlying22 (.t rfl) (fun w I => hx.keep0 I.keeps)) ?_)))))
    refine co (Ev.move (.c (v := I 0) rfl)) ?_
    refine nP (block (lp (X := Int) (fun x : Int => (0 ≤ x ∧ x ≤ xs.length) ∧ (∀ k : Nat, k < x → xs.getD k iE.zero = ys.getD k iE.zero)) (fun x : Int => [(0, true, u), (1, true, v), (12, true, I xs.length), (13, true, I x)]) (fun x : Int => []) (fun x : Int => ((xs.length : Int) - x).toNat) (0) ⟨?_, ?_⟩ (fun x hx => ?_)))
    · omega
    · intro k h; omega
    obtain ⟨i, rfl⟩ : ∃ y, y = x := ⟨x, rfl⟩
    obtain ⟨hi, hq⟩ : (0 ≤ i ∧ i ≤ xs.length) ∧ (∀ k : Nat, k < i → xs.getD k iE.zero = ys.getD k iE.zero) := hx
    show Sat _ _ [(0, true, u), (1, true, v), (12, true, I xs.length), (13, true, I i)] []
    refine sg (co (Ev.lss_i (.t rfl) (.t rfl)) ?_)
    refine nP (seq ?_)
    first | refine condD rfl (fun h1 => ?_) (fun h1 => ?_) | refine cond rfl (fun h1 => ?_) (fun h1 => ?_)
    · try simp only [nb] at h1
      refine skip (pN (seq (block (sg (mv rfl (asn rfl (nP (seq (draw' zk ?_)))))))))
      refine tk 0 rfl (Ev.move (.t rfl)) ?_
      refine tk 1 rfl (Ev.move (.t rfl)) ?_
      refine tk 2 rfl (Ev.indexAddr Tryz.underlying22 ty3 (.t rfl) (.t rfl) (fun w I => hx.keep0 I.keeps) (fun _ => zo)) ?_
      refine tk 3 rfl (Ev.loadS0 ty3 (.t rfl) (fun w I => hx.keep0 I.keeps) (fun _ => zo)) ?_
      refine tk 4 rfl (Ev.move (.t rfl)) ?_
      refine tk 5 rfl (Ev.move (.t rfl)) ?_
      refine tk 6 rfl (Ev.indexAddr Tryz.underlying22 ty3 (.t rfl) (.t rfl) (fun w I => hy.keep0 I.keeps) (fun _ => zo)) ?_
      refine tk 7 rfl (Ev.loadS0 ty3 (.t rfl) (fun w I => hy.keep0 I.keeps) (fun _ => zo)) ?_
      refine tk 8 rfl (Ev.neq_i (.t rfl) (.t rfl)) ?_
      refine ovr (pN ?_)
      first | refine condD rfl (fun h2 => ?_) (fun h2 => ?_) | refine cond rfl (fun h2 => ?_) (fun h2 => ?_)
      · try simp only [nb] at h2
        refine sg (co (Ev.assign (.c (v := .bool false) rfl)) ?_)
        refine nP (ret (bR (pR (pR (bR (pR (done rfl (.tmp rfl .nil) (retE ?_))))))))
        have hz : ¬ xs = ys := fun e => by rw [e] at h2; simp at h2
        rw [decide_eq_false hz]; rfl
      · try simp only [nb] at h2
        refine skip (bN (pN (region (co (Ev.add_i (.t rfl) (.c (v := I 1) rfl) (fun _ => zo)) ?_))))
        refine mv rfl (nP (nx (X := Int) (i + 1) ⟨?_, ?_⟩ ?_))
        · try dsimp only
          omega
        · try dsimp only
          intro k h
          by_cases e : (k : Int) < i
          · exact hq k e
          · obtain rfl : k = i.toNat := by omega
            simpa using h2
        · try dsimp only
          first | omega | (simp; omega)
    · try simp only [nb] at h1
      refine exit (pX (pX (bX (pN (sg (co (Ev.assign (.c (v := .bool true) rfl)) ?_))))))
      refine nP (ret (done rfl (.tmp rfl .nil) (retE ?_)))
      have hle' : xs.length = ys.length := by omega
      have hz : xs = ys := by
        refine List.ext_getElem hle' fun k h1 h2 => ?_
        have := hq k (by omega)
        simpa [List.getD, h1, h2] using this
      rw [decide_eq_true hz]; rfl
theorem equal_76 (u v : Value) (xs ys : List SRule) (w : World) (hx : IsSl eRule w u xs) (hy : IsSl eRule w v ys) : Calls Tryz.prog 54 #[u, v] w (RetV w (.bool (decide (xs = ys)))) := by
  have hle := hx.le
  have hle2 := hy.le
  refine en0 26 Tryz.func54 ?_
  refine sg (co (Ev.assign (.c (v := .bool false) rfl)) ?_)
  refine nP (seq (sg (mv rfl (co (Ev.len Tryz.underlying24 (.t rfl) (fun w I => hx.keep0 I.keeps)) ?_))))
  refine mv rfl (co (Ev.len Tryz.underlying24 (.t rfl) (fun w I => hy.keep0 I.keeps)) ?_)
  refine co (Ev.neq_i (.t rfl) (.t rfl)) ?_
  refine nP ?_
  first | refine condD rfl (fun h0 => ?_) (fun h0 => ?_) | refine cond rfl (fun h0 => ?_) (fun h0 => ?_)
  · try simp only [nb] at h0
    refine sg (co (Ev.assign (.c (v := .bool false) rfl)) ?_)
    refine nP (ret (pR (done rfl (.tmp rfl .nil) (retE ?_))))
    have hz : ¬ xs = ys := fun e => h0 (by rw [e])
    rw [decide_eq_false hz]; rfl
  · try simp only [nb] at h0
    refine skip (pN (seq (sg (mv rfl (co (Ev.len Tryz.underlying24 (.t rfl) (fun w I => hx.keep0 I.keeps)) ?_)))))
    refine co (Ev.move (.c (v := I 0) rfl)) ?_
    refine nP (block (lp (X := Int) (fun x : Int => (0 ≤ x ∧ x ≤ xs.length) ∧ (∀ k : Nat, k < x → xs.getD k eRule.zero = ys.getD k eRule.zero)) (fun x : Int => [(0, true, u), (1, true, v), (12, true, I xs.length), (13, true, I x)]) (fun x : Int => []) (fun x : Int => ((xs.length : Int) - x).toNat) (0) ⟨?_, ?_⟩ (fun x hx => ?_)))
    · omega
    · intro k h; omega
    obtain ⟨i, rfl⟩ : ∃ y, y = x := ⟨x, rfl⟩
    obtain ⟨hi, hq⟩ : (0 ≤ i ∧ i ≤ xs.length) ∧ (∀ k : Nat, k < i → xs.getD k eRule.zero = ys.getD k eRule.zero) := hx
    show Sat _ _ [(0, true, u), (1, true, v), (12, true, I xs.length), (13, true, I i)] []
    refine sg (co (Ev.lss_i (.t rfl) (.t rfl)) ?_)
    refine nP (seq ?_)
    first | refine condD rfl (fun h1 => ?_) (fun h1 => ?_) | refine cond rfl (fun h1 => ?_) (fun h1 => ?_)
    · try simp only [nb] at h1
      refine skip (pN (seq (block (sg (mv rfl (asn rfl (nP (seq (draw' zk ?_)))))))))
      refine tk 0 rfl (Ev.move (.t rfl)) ?_
      refine tk 1 rfl (Ev.move (.t rfl)) ?_
      refine tk 2 rfl (Ev.indexAddr Tryz.underlying24 ty76 (.t rfl) (.t rfl) (fun w I => hx.keep0 I.keeps) (fun _ => zo)) ?_
      refine tk 3 rfl (Ev.loadS0 ty76 (.t rfl) (fun w I => hx.keep0 I.keeps) (fun _ => zo)) ?_
      refine tk 4 rfl (Ev.move (.t rfl)) ?_
      refine tk 5 rfl (Ev.move (.t rfl)) ?_
      refine tk 6 rfl (Ev.indexAddr Tryz.underlying24 ty76 (.t rfl) (.t rfl) (fun w I => hy.keep0 I.keeps) (fun _ => zo)) ?_
      refine tk 7 rfl (Ev.loadS0 ty76 (.t rfl) (fun w I => hy.keep0 I.keeps) (fun _ => zo)) ?_
      refine tk 8 rfl (Ev.neqS rfl eqok76 rfl zk (.t rfl) (.t rfl)) ?_
      refine ovr (pN ?_)
      first | refine condD rfl (fun h2 => ?_) (fun h2 => ?_) | refine cond rfl (fun h2 => ?_) (fun h2 => ?_)
      · try simp only [nb] at h2
        refine sg (co (Ev.assign (.c (v := .bool false) rfl)) ?_)
        refine nP (ret (bR (pR (pR (bR (pR (done rfl (.tmp rfl .nil) (retE ?_))))))))
        have hz : ¬ xs = ys := fun e => by rw [e] at h2; simp at h2
        rw [decide_eq_false hz]; rfl
      · try simp only [nb] at h2
        refine skip (bN (pN (region (co (Ev.add_i (.t rfl) (.c (v := I 1) rfl) (fun _ => zo)) ?_))))
        refine mv rfl (nP (nx (X := Int) (i + 1) ⟨?_, ?_⟩ ?_))
        · try dsimp only
          omega
        · try dsimp only
          intro k h
          by_cases e : (k : Int) < i
          · exact hq k e
          · obtain rfl : k = i.toNat := by omega
            simpa using h2
        · try dsimp only
          first | omega | (simp; omega)
    · try simp only [nb] at h1
      refine exit (pX (pX (bX (pN (sg (co (Ev.assign (.c (v := .bool true) rfl)) ?_))))))
      refine nP (ret (done rfl (.tmp rfl .nil) (retE ?_)))
      have hle' : xs.length = ys.length := by omega
      have hz : xs = ys := by
        refine List.ext_getElem hle' fun k h1 h2 => ?_
        have := hq k (by omega)
        simpa [List.getD, h1, h2] using this
      rw [decide_eq_true hz]; rfl
def idxF {α : Type} (p : α → Bool) (l : List α) : Int := match l.findIdx? p with
  | some i => (i : Int)
  | none => -1
theorem idx_at {α : Type} {p : α → Bool} {l : List α} (z : α) {i : Int} (hi : 0 ≤ i ∧ i < l.length) (hq : ∀ k : Nat, k < i → p (l.getD k z) = false) (hp : p (l.getD i.toNat z) = true) : idxF p l = i := by
  have hlt : i.toNat < l.length := by omega
  have h : l.findIdx? p = some i.toNat := by
    rw [List.findIdx?_eq_some_iff_getElem]
    refine ⟨hlt, by simpa [List.getD, hlt] using hp, fun j hj => ?_⟩
    have := hq j (by omega)
    have hj2 : j < l.length := by omega
    simpa [List.getD, hj2] using this
  unfold idxF
  rw [h]
  show ((i.toNat : Nat) : Int) = i
  omega
theorem idx_none {α : Type} {p : α → Bool} {l : List α} (z : α) (hq : ∀ k : Nat, k < l.length → p (l.getD k z) = false) : idxF p l = -1 := by
  have h : l.findIdx? p = none := by
    rw [List.findIdx?_eq_none_iff]
    intro x hx
    obtain ⟨k, hk, rfl⟩ := List.mem_iff_getElem.1 hx
    simpa [List.getD, hk] using hq k hk
  unfold idxF
  rw [h]
def setL {α : Type} (l : List α) (i : Int) (x : α) : List α := if i < 0 then l ++ [x] else l.set i.toNat x
def lowB (l : List Int) (x : Int) : Int := (l.countP (fun y => decide (y < x)) : Nat)
theorem lowB_of {l : List Int} {x : Int} {n : Nat} (hn : n ≤ l.length) (h1 : ∀ k : Nat, k < n → l.getD k 0 < x) (h2 : ∀ k : Nat, n ≤ k → k < l.length → ¬ l.getD k 0 < x) : lowB l x = n := by
  unfold lowB
  have e : l.countP (fun y => decide (y < x)) = n := by
    rw [← List.take_append_drop n l, List.countP_append]
    have a1 : (l.take n).countP (fun y => decide (y < x)) = (l.take n).length := by
      rw [List.countP_eq_length]
      intro y hy
      obtain ⟨k, hk, rfl⟩ := List.mem_iff_getElem.1 hy
      have hk2 : k < n ∧ k < l.length := by simp at hk; omega
      have := h1 k hk2.1
      simpa [List.getD, hk2.2] using this
    have a2 : (l.drop n).countP (fun y => decide (y < x)) = 0 := by
      rw [List.countP_eq_zero]
      intro y hy
      obtain ⟨k, hk, rfl⟩ := List.mem_iff_getElem.1 hy
      have hk2 : n + k < l.length := by simp at hk; omega
      have := h2 (n + k) (by omega) hk2
      simpa [List.getD, hk2] using this
    rw [a1, a2, List.length_take]
    omega
  rw [e]
theorem up_lt {l : List Int} {a : Int} (hs : l.Pairwise (· < ·)) {m : Int} {k : Nat} (hm : 0 ≤ m ∧ m < l.length) (hk : (k : Int) < m + 1) (h : l.getD m.toNat 0 < a) : l.getD k 0 < a := by
  have hm2 : m.toNat < l.length := by omega
  have hk2 : k < l.length := by omega
  by_cases e : k = m.toNat
  · rw [e]; exact h
  · have := List.pairwise_iff_getElem.1 hs k m.toNat hk2 hm2 (by omega)
    simp only [List.getD, List.getElem?_eq_getElem hm2, List.getElem?_eq_getElem hk2, Option.getD_some] at h ⊢
    omega
theorem up_ge {l : List Int} {a : Int} (hs : l.Pairwise (· < ·)) {m : Int} {k : Nat} (hm : 0 ≤ m ∧ m ≤ k) (hk : k < l.length) (h : ¬ l.getD m.toNat 0 < a) : ¬ l.getD k 0 < a := by
  have hm2 : m.toNat < l.length := by omega
  by_cases e : k = m.toNat
  · rw [e]; exact h
  · have := List.pairwise_iff_getElem.1 hs m.toNat k hm2 hk (by omega)
    simp only [List.getD, List.getElem?_eq_getElem hm2, List.getElem?_eq_getElem hk, Option.getD_some] at h ⊢
    omega
theorem mid_nat {i j : Int} (h : 0 ≤ i ∧ i ≤ j ∧ j ≤ 1048576) : ((shr64 (UInt64.ofInt (i + j)) (Int.toNat 1)).toNat : Int) = (i + j) / 2 := by
  obtain ⟨n, rfl⟩ := Int.eq_ofNat_of_zero_le h.1
  obtain ⟨m, rfl⟩ := Int.eq_ofNat_of_zero_le (Int.le_trans h.1 h.2.1)
  have e : ((n : Int) + (m : Int)) = ((n + m : Nat) : Int) := by omega
  rw [e]
  rw [toNat_shr64]
  have e3 : (UInt64.ofInt ((n + m : Nat) : Int)).toNat = n + m := by
    simp [UInt64.ofInt]
    omega
  rw [e3]
  show (((n + m) / 2 ^ 1 : Nat) : Int) = _
  omega
theorem index_ok (u : Value) (xs : List Int) (a : Int) (w : World) (hx : IsSl iE w u xs) : Calls Tryz.prog 128 #[u, I a] w (RetV w (I (idxF (fun y => decide (a = y)) xs))) := by
  have hle := hx.le
  refine en0 19 Tryz.func128 ?_
  refine sg (co (Ev.assign (.c (v := I 0) rfl)) ?_)
  refine nP (seq (sg (mv rfl (co (Ev.len Tryz.underlying22 (.t rfl) (fun w I => hx.keep0 I.keeps)) ?_))))
  refine co (Ev.move (.c (v := I 0) rfl)) ?_
  refine nP (block (lp (X := Int) (fun x : Int => (0 ≤ x ∧ x ≤ xs.length) ∧ (∀ k : Nat, k < x → decide (a = xs.getD k iE.zero) = false)) (fun x : Int => [(0, true, u), (1, true, I a), (7, true, I xs.length), (8, true, I x)]) (fun x : Int => []) (fun x : Int => ((xs.length : Int) - x).toNat) (0) ⟨?_, ?_⟩ (fun x hx => ?_)))
  · omega
  · intro k h; omega
  obtain ⟨i, rfl⟩ : ∃ y, y = x := ⟨x, rfl⟩
  obtain ⟨hi, hq⟩ : (0 ≤ i ∧ i ≤ xs.length) ∧ (∀ k : Nat, k < i → decide (a = xs.getD k iE.zero) = false) := hx
  show Sat _ _ [(0, true, u), (1, true, I a), (7, true, I xs.length), (8, true, I i)] []
  refine sg (co (Ev.lss_i (.t rfl) (.t rfl)) ?_)
  refine nP (seq ?_)
  first | refine condD rfl (fun h0 => ?_) (fun h0 => ?_) | refine cond rfl (fun h0 => ?_) (fun h0 => ?_)
  · try simp only [nb] at h0
    refine skip (pN (seq (block (sg (mv rfl (asn rfl (nP (sg (mv rfl (mv rfl (mv rfl (co (Ev.indexAddr Tryz.underlying22 ty3 (.t rfl) (.t rfl) (fun w I => hx.keep0 I.keeps) (fun _ => zo)) ?_))))))))))))
    refine co (Ev.loadS0 ty3 (.t rfl) (fun w I => hx.keep0 I.keeps) (fun _ => zo)) ?_
    refine co (Ev.eql_i (.t rfl) (.t rfl)) ?_
    refine nP ?_
    first | refine condD rfl (fun h1 => ?_) (fun h1 => ?_) | refine cond rfl (fun h1 => ?_) (fun h1 => ?_)
    · try simp only [nb] at h1
      refine sg (mv rfl (asn rfl (nP (ret (bR (pR (pR (bR (pR (done rfl (.tmp rfl .nil) (retE ?_)))))))))))
      rw [idx_at iE.zero (by omega) hq (by simpa using h1)]; rfl
    · try simp only [nb] at h1
      refine skip (bN (pN (region (co (Ev.add_i (.t rfl) (.c (v := I 1) rfl) (fun _ => zo)) ?_))))
      refine mv rfl (nP (nx (X := Int) (i + 1) ⟨?_, ?_⟩ ?_))
      · try dsimp only
        omega
      · try dsimp only
        intro k h
        by_cases e : (k : Int) < i
        · exact hq k e
        · obtain rfl : k = i.toNat := by omega
          simpa using h1
      · try dsimp only
        first | omega | (simp; omega)
  · try simp only [nb] at h0
    refine exit (pX (pX (bX (pN (sg (co (Ev.assign (.c (v := I (-1)) rfl)) ?_))))))
    refine nP (ret (done rfl (.tmp rfl .nil) (retE ?_)))
    rw [idx_none iE.zero (fun k hk => hq k (by omega))]; rfl
theorem indexf_52 (f : Nat) (cap : List Value) (p : SRoute → Bool) (u : Value) (xs : List SRoute) (w : World) (hen : Enters Tryz.prog f) (hx : IsSl eRoute w u xs) (hk : FnAt Tryz.prog f cap Nope w eRoute bE (fun _ => True) p) : Calls Tryz.prog 129 #[u, (clo f cap).v] w (RetV w (I (idxF p xs))) := by
  have hle := hx.le
  refine en0 19 Tryz.func129 ?_
  refine sg (co (Ev.assign (.c (v := I 0) rfl)) ?_)
  refine nP (seq (sg (mv rfl (co (Ev.len Tryz.underlying23 (.t rfl) (fun w I => hx.keep0 I.keeps)) ?_))))
  refine co (Ev.move (.c (v := I 0) rfl)) ?_
  refine nP (block (lp (X := Int) (fun x : Int => (0 ≤ x ∧ x ≤ xs.length) ∧ (∀ k : Nat, k < x → p (xs.getD k eRoute.zero) = false)) (fun x : Int => [(0, true, u), (1, true, (clo f cap).v), (7, true, I xs.length), (8, true, I x)]) (fun x : Int => []) (fun x : Int => ((xs.length : Int) - x).toNat) (0) ⟨?_, ?_⟩ (fun x hx => ?_)))
  · omega
  · intro k h; omega
  obtain ⟨i, rfl⟩ : ∃ y, y = x := ⟨x, rfl⟩
  obtain ⟨hi, hq⟩ : (0 ≤ i ∧ i ≤ xs.length) ∧ (∀ k : Nat, k < i → p (xs.getD k eRoute.zero) = false) := hx
  show Sat _ _ [(0, true, u), (1, true, (clo f cap).v), (7, true, I xs.length), (8, true, I i)] []
  refine sg (co (Ev.lss_i (.t rfl) (.t rfl)) ?_)
  refine nP (seq ?_)
  first | refine condD rfl (fun h0 => ?_) (fun h0 => ?_) | refine cond rfl (fun h0 => ?_) (fun h0 => ?_)
  · try simp only [nb] at h0
    refine skip (pN (seq (block (sg (mv rfl (asn rfl (nP (sg (mv rfl (mv rfl (mv rfl (co (Ev.indexAddr Tryz.underlying23 ty52 (.t rfl) (.t rfl) (fun w I => hx.keep0 I.keeps) (fun _ => zo)) ?_))))))))))))
    refine co (Ev.loadS0 ty52 (.t rfl) (fun w I => hx.keep0 I.keeps) (fun _ => zo)) ?_
    refine cons (callcv (.t rfl) hen (.cons (.t rfl) .nil) (fun w I => hk.call trivial w I) ?_)
    refine nP ?_
    first | refine condD rfl (fun h1 => ?_) (fun h1 => ?_) | refine cond rfl (fun h1 => ?_) (fun h1 => ?_)
    · refine sg (mv rfl (asn rfl (nP (ret (bR (pR (pR (bR (pR (done rfl (.tmp rfl .nil) (retE ?_)))))))))))
      rw [idx_at eRoute.zero (by omega) hq h1]; rfl
    · refine skip (bN (pN (region (co (Ev.add_i (.t rfl) (.c (v := I 1) rfl) (fun _ => zo)) ?_))))
      refine mv rfl (nP (nx (X := Int) (i + 1) ⟨?_, ?_⟩ ?_))
      · try dsimp only
        omega
      · try dsimp only
        intro k h
        by_cases e : (k : Int) < i
        · exact hq k e
        · obtain rfl : k = i.toNat := by omega
          exact h1
      · try dsimp only
        first | omega | (simp; omega)
  · try simp only [nb] at h0
    refine exit (pX (pX (bX (pN (sg (co (Ev.assign (.c (v := I (-1)) rfl)) ?_))))))
    refine nP (ret (done rfl (.tmp rfl .nil) (retE ?_)))
    rw [idx_none eRoute.zero (fun k hk => hq k (by omega))]; rfl
theorem indexf_57 (f : Nat) (cap : List Value) (p : SMeterConf → Bool) (u : Value) (xs : List SMeterConf) (w : World) (hen : Enters Tryz.prog f) (hx : IsSl eMeterConf w u xs) (hk : FnAt Tryz.prog f cap Nope w eMeterConf bE (fun _ => True) p) : Calls Tryz.prog 131 #[u, (clo f cap).v] w (RetV w (I (idxF p xs))) := by
  have hle := hx.le
  refine en0 19 Tryz.func131 ?_
  refine sg (co (Ev.assign (.c (v := I 0) rfl)) ?_)
  refine nP (seq (sg (mv rfl (co (Ev.len Tryz.underlying25 (.t rfl) (fun w I => hx.keep0 I.keeps)) ?_))))
  refine co (Ev.move (.c (v := I 0) rfl)) ?_
  refine nP (block (lp (X := Int) (fun x : Int => (0 ≤ x ∧ x ≤ xs.length) ∧ (∀ k : Nat, k < x → p (xs.getD k eMeterConf.zero) = false)) (fun x : Int => [(0, true, u), (1, true, (clo f cap).v), (7, true, I xs.length), (8, true, I x)]) (fun x : Int => []) (fun x : Int => ((xs.length : Int) - x).toNat) (0) ⟨?_, ?_⟩ (fun x hx => ?_)))
  · omega
  · intro k h; omega
  obtain ⟨i, rfl⟩ : ∃ y, y = x := ⟨x, rfl⟩
  obtain ⟨hi, hq⟩ : (0 ≤ i ∧ i ≤ xs.length) ∧ (∀ k : Nat, k < i → p (xs.getD k eMeterConf.zero) = false) := hx
  show Sat _ _ [(0, true, u), (1, true, (clo f cap).v), (7, true, I xs.length), (8, true, I i)] []
  refine sg (co (Ev.lss_i (.t rfl) (.t rfl)) ?_)
  refine nP (seq ?_)
  first | refine condD rfl (fun h0 => ?_) (fun h0 => ?_) | refine cond rfl (fun h0 => ?_) (fun h0 => ?_)
  · try simp only [nb] at h0
    refine skip (pN (seq (block (sg (mv rfl (asn rfl (nP (sg (mv rfl (mv rfl (mv rfl (co (Ev.indexAddr Tryz.underlying25 ty57 (.t rfl) (.t rfl) (fun w I => hx.keep0 I.keeps) (fun _ => zo)) ?_))))))))))))
    refine co (Ev.loadS0 ty57 (.t rfl) (fun w I => hx.keep0 I.keeps) (fun _ => zo)) ?_
    refine cons (callcv (.t rfl) hen (.cons (.t rfl) .nil) (fun w I => hk.call trivial w I) ?_)
    refine nP ?_
    first | refine condD rfl (fun h1 => ?_) (fun h1 => ?_) | refine cond rfl (fun h1 => ?_) (fun h1 => ?_)
    · refine sg (mv rfl (asn rfl (nP (ret (bR (pR (pR (bR (pR (done rfl (.tmp rfl .nil) (retE ?_)))))))))))
      rw [idx_at eMeterConf.zero (by omega) hq h1]; rfl
    · refine skip (bN (pN (region (co (Ev.add_i (.t rfl) (.c (v := I 1) rfl) (fun _ => zo)) ?_))))
      refine mv rfl (nP (nx (X := Int) (i + 1) ⟨?_, ?_⟩ ?_))
      · try dsimp only
        omega
      · try dsimp only
        intro k h
        by_cases e : (k : Int) < i
        · exact hq k e
        · obtain rfl : k = i.toNat := by omega
          exact h1
      · try dsimp only
        first | omega | (simp; omega)
  · try simp only [nb] at h0
    refine exit (pX (pX (bX (pN (sg (co (Ev.assign (.c (v := I (-1)) rfl)) ?_))))))
    refine nP (ret (done rfl (.tmp rfl .nil) (retE ?_)))
    rw [idx_none eMeterConf.zero (fun k hk => hq k (by omega))]; rfl
theorem indexf_59 (f : Nat) (cap : List Value) (p : SMirrorConf → Bool) (u : Value) (xs : List SMirrorConf) (w : World) (hen : Enters Tryz.prog f) (hx : IsSl eMirrorConf w u xs) (hk : FnAt Tryz.prog f cap Nope w eMirrorConf bE (fun _ => True) p) : Calls Tryz.prog 133 #[u, (clo f cap).v] w (RetV w (I (idxF p xs))) := by
  have hle := hx.le
  refine en0 19 Tryz.func133 ?_
  refine sg (co (Ev.assign (.c (v := I 0) rfl)) ?_)
  refine nP (seq (sg (mv rfl (co (Ev.len Tryz.underlying26 (.t rfl) (fun w I => hx.keep0 I.keeps)) ?_))))
  refine co (Ev.move (.c (v := I 0) rfl)) ?_
  refine nP (block (lp (X := Int) (fun x : Int => (0 ≤ x ∧ x ≤ xs.length) ∧ (∀ k : Nat, k < x → p (xs.getD k eMirrorConf.zero) = false)) (fun x : Int => [(0, true, u), (1, true, (clo f cap).v), (7, true, I xs.length), (8, true, I x)]) (fun x : Int => []) (fun x : Int => ((xs.length : Int) - x).toNat) (0) ⟨?_, ?_⟩ (fun x hx => ?_)))
  · omega
  · intro k h; omega
  obtain ⟨i, rfl⟩ : ∃ y, y = x := ⟨x, rfl⟩
  obtain ⟨hi, hq⟩ : (0 ≤ i ∧ i ≤ xs.length) ∧ (∀ k : Nat, k < i → p (xs.getD k eMirrorConf.zero) = false) := hx
  show Sat _ _ [(0, true, u), (1, true, (clo f cap).v), (7, true, I xs.length), (8, true, I i)] []
  refine sg (co (Ev.lss_i (.t rfl) (.t rfl)) ?_)
  refine nP (seq ?_)
  first | refine condD rfl (fun h0 => ?_) (fun h0 => ?_) | refine cond rfl (fun h0 => ?_) (fun h0 => ?_)
  · try simp only [nb] at h0
    refine skip (pN (seq (block (sg (mv rfl (asn rfl (nP (sg (mv rfl (mv rfl (mv rfl (co (Ev.indexAddr Tryz.underlying26 ty59 (.t rfl) (.t rfl) (fun w I => hx.keep0 I.keeps) (fun _ => zo)) ?_))))))))))))
    refine co (Ev.loadS0 ty59 (.t rfl) (fun w I => hx.keep0 I.keeps) (fun _ => zo)) ?_
    refine cons (callcv (.t rfl) hen (.cons (.t rfl) .nil) (fun w I => hk.call trivial w I) ?_)
    refine nP ?_
    first | refine condD rfl (fun h1 => ?_) (fun h1 => ?_) | refine cond rfl (fun h1 => ?_) (fun h1 => ?_)
    · refine sg (mv rfl (asn rfl (nP (ret (bR (pR (pR (bR (pR (done rfl (.tmp rfl .nil) (retE ?_)))))))))))
      rw [idx_at eMirrorConf.zero (by omega) hq h1]; rfl
    · refine skip (bN (pN (region (co (Ev.add_i (.t rfl) (.c (v := I 1) rfl) (fun _ => zo)) ?_))))
      refine mv rfl (nP (nx (X := Int) (i + 1) ⟨?_, ?_⟩ ?_))
      · try dsimp only
        omega
      · try dsimp only
        intro k h
        by_cases e : (k : Int) < i
        · exact hq k e
        · obtain rfl : k = i.toNat := by omega
          exact h1
      · try dsimp only
        first | omega | (simp; omega)
  · try simp only [nb] at h0
    refine exit (pX (pX (bX (pN (sg (co (Ev.assign (.c (v := I (-1)) rfl)) ?_))))))
    refine nP (ret (done rfl (.tmp rfl .nil) (retE ?_)))
    rw [idx_none eMirrorConf.zero (fun k hk => hq k (by omega))]; rfl
theorem set_52 (o : OV) (xs : List SRoute) (i : Int) (x : SRoute) (w : World) (h : At (OwnS o.v eRoute xs 52) w) (hn : xs.length ≤ 1048576) (hi : i < xs.length) : Calls Tryz.prog 138 #[o.v, I i, eRoute.val x] w (RetR w (OwnS o.v eRoute xs 52) (fun _ : OV => True) (fun o => o.v) (fun o => OwnS o.v eRoute (setL xs i x) 52)) := by
  refine enter (OwnS o.v eRoute xs 52).foot 18 [OwnS o.v eRoute xs 52] Tryz.func138 rfl rfl (Nat.le_of_ble_eq_true rfl) (start_at h) ?_
  refine sg (cons (box (E := eRoute) (.t rfl) (fun b1 => ?_)))
  refine co (Ev.assign (.c (v := (Go.Value.slice none 0 0)) rfl)) ?_
  refine nP (seq (sg (mv rfl (co (Ev.lss_i (.t rfl) (.c (v := I 0) rfl)) ?_))))
  refine nP ?_
  first | refine condD rfl (fun h0 => ?_) (fun h0 => ?_) | refine cond rfl (fun h0 => ?_) (fun h0 => ?_)
  · try simp only [nb] at h0
    refine sg (mv rfl (co (Ev.ldv ty52 (.t rfl) (Lens.id _)) ?_))
    refine cons (buildSlice (E := eRoute) Tryz.underlying23 ty52 z52 (.cons (.t rfl) .nil) rfl rfl (fun v2 => ?_))
    refine cons (app (E := eRoute) Tryz.underlying23 ty52 zb52 zs52 (.t rfl) (.t rfl) (fun v3 => ?_) (hby := ⟨by (show _ ≤ 9223372036854775807); first | omega | (simp; done) | (simp; omega), by first | omega | (simp; done) | (simp; omega)⟩))
    refine asn rfl (nP (ret (pR (done rfl (.tmp rfl .nil) (fun w I => ?_)))))
    have e : setL xs i x = xs ++ [x] := by unfold setL; rw [if_pos h0]
    rw [e]
    exact retR v3 trivial rfl zm w I
  · try simp only [nb] at h0
    refine skip (pN (sg (mv rfl (mv rfl (co (Ev.ldv ty52 (.t rfl) (Lens.id _)) ?_)))))
    refine co (Ev.indexAddr Tryz.underlying23 ty52 (.t rfl) (.t rfl) zf (fun _ => zo)) ?_
    refine cons (storeS0 ty52 (.t rfl) (.t rfl) zu (by omega) ?_)
    refine nP (sg (mv rfl (asn rfl (nP (ret (done rfl (.tmp rfl .nil) (fun w I => ?_)))))))
    have e : setL xs i x = xs.set i.toNat x := by unfold setL; rw [if_neg h0]
    rw [e]
    exact retR o trivial rfl zm w I
theorem set_57 (o : OV) (xs : List SMeterConf) (i : Int) (x : SMeterConf) (w : World) (h : At (OwnS o.v eMeterConf xs 57) w) (hn : xs.length ≤ 1048576) (hi : i < xs.length) : Calls Tryz.prog 140 #[o.v, I i, eMeterConf.val x] w (RetR w (OwnS o.v eMeterConf xs 57) (fun _ : OV => True) (fun o => o.v) (fun o => OwnS o.v eMeterConf (setL xs i x) 57)) := by
  refine enter (OwnS o.v eMeterConf xs 57).foot 18 [OwnS o.v eMeterConf xs 57] Tryz.func140 rfl rfl (Nat.le_of_ble_eq_true rfl) (start_at h) ?_
  refine sg (cons (box (E := eMeterConf) (.t rfl) (fun b1 => ?_)))
  refine co (Ev.assign (.c (v := (Go.Value.slice none 0 0)) rfl)) ?_
  refine nP (seq (sg (mv rfl (co (Ev.lss_i (.t rfl) (.c (v := I 0) rfl)) ?_))))
  refine nP ?_
  first | refine condD rfl (fun h0 => ?_) (fun h0 => ?_) | refine cond rfl (fun h0 => ?_) (fun h0 => ?_)
  · try simp only [nb] at h0
    refine sg (mv rfl (co (Ev.ldv ty57 (.t rfl) (Lens.id _)) ?_))
    refine cons (buildSlice (E := eMeterConf) Tryz.underlying25 ty57 z57 (.cons (.t rfl) .nil) rfl rfl (fun v2 => ?_))
    refine cons (app (E := eMeterConf) Tryz.underlying25 ty57 zb57 zs57 (.t rfl) (.t rfl) (fun v3 => ?_) (hby := ⟨by (show _ ≤ 9223372036854775807); first | omega | (simp; done) | (simp; omega), by first | omega | (simp; done) | (simp; omega)⟩))
    refine asn rfl (nP (ret (pR (done rfl (.tmp rfl .nil) (fun w I => ?_)))))
    have e : setL xs i x = xs ++ [x] := by unfold setL; rw [if_pos h0]
    rw [e]
    exact retR v3 trivial rfl zm w I
  · try simp only [nb] at h0
    refine skip (pN (sg (mv rfl (mv rfl (co (Ev.ldv ty57 (.t rfl) (Lens.id _)) ?_)))))
    refine co (Ev.indexAddr Tryz.underlying25 ty57 (.t rfl) (.t rfl) zf (fun _ => zo)) ?_
    refine cons (storeS0 ty57 (.t rfl) (.t rfl) zu (by omega) ?_)
    refine nP (sg (mv rfl (asn rfl (nP (ret (done rfl (.tmp rfl .nil) (fun w I => ?_)))))))
    have e : setL xs i x = xs.set i.toNat x := by unfold setL; rw [if_neg h0]
    rw [e]
    exact retR o trivial rfl zm w I
theorem set_59 (o : OV) (xs : List SMirrorConf) (i : Int) (x : SMirrorConf) (w : World) (h : At (OwnS o.v eMirrorConf xs 59) w) (hn : xs.length ≤ 1048576) (hi : i < xs.length) : Calls Tryz.prog 142 #[o.v, I i, eMirrorConf.val x] w (RetR w (OwnS o.v eMirrorConf xs 59) (fun _ : OV => True) (fun o => o.v) (fun o => OwnS o.v eMirrorConf (setL xs i x) 59)) := by
  refine enter (OwnS o.v eMirrorConf xs 59).foot 18 [OwnS o.v eMirrorConf xs 59] Tryz.func142 rfl rfl (Nat.le_of_ble_eq_true rfl) (start_at h) ?_
  refine sg (cons (box (E := eMirrorConf) (.t rfl) (fun b1 => ?_)))
  refine co (Ev.assign (.c (v := (Go.Value.slice none 0 0)) rfl)) ?_
  refine nP (seq (sg (mv rfl (co (Ev.lss_i (.t rfl) (.c (v := I 0) rfl)) ?_))))
  refine nP ?_
  first | refine condD rfl (fun h0 => ?_) (fun h0 => ?_) | refine cond rfl (fun h0 => ?_) (fun h0 => ?_)
  · try simp only [nb] at h0
    refine sg (mv rfl (co (Ev.ldv ty59 (.t rfl) (Lens.id _)) ?_))
    refine cons (buildSlice (E := eMirrorConf) Tryz.underlying26 ty59 z59 (.cons (.t rfl) .nil) rfl rfl (fun v2 => ?_))
    refine cons (app (E := eMirrorConf) Tryz.underlying26 ty59 zb59 zs59 (.t rfl) (.t rfl) (fun v3 => ?_) (hby := ⟨by (show _ ≤ 9223372036854775807); first | omega | (simp; done) | (simp; omega), by first | omega | (simp; done) | (simp; omega)⟩))
    refine asn rfl (nP (ret (pR (done rfl (.tmp rfl .nil) (fun w I => ?_)))))
    have e : setL xs i x = xs ++ [x] := by unfold setL; rw [if_pos h0]
    rw [e]
    exact retR v3 trivial rfl zm w I
  · try simp only [nb] at h0
    refine skip (pN (sg (mv rfl (mv rfl (co (Ev.ldv ty59 (.t rfl) (Lens.id _)) ?_)))))
    refine co (Ev.indexAddr Tryz.underlying26 ty59 (.t rfl) (.t rfl) zf (fun _ => zo)) ?_
    refine cons (storeS0 ty59 (.t rfl) (.t rfl) zu (by omega) ?_)
    refine nP (sg (mv rfl (asn rfl (nP (ret (done rfl (.tmp rfl .nil) (fun w I => ?_)))))))
    have e : setL xs i x = xs.set i.toNat x := by unfold setL; rw [if_neg h0]
    rw [e]
    exact retR o trivial rfl zm w I
theorem nan_c (x : Int) (w : World) : Calls Tryz.prog 187 #[I x] w (RetV w (.bool false)) := by
  refine en0 6 Tryz.func187 ?_
  refine sg (co (Ev.assign (.c (v := .bool false) rfl)) ?_)
  refine nP (sg (mv rfl (mv rfl (co (Ev.neq_i (.t rfl) (.t rfl)) ?_))))
  refine asn rfl (nP (ret (done rfl (.tmp rfl .nil) (retE ?_))))
  simp
theorem nan_s (x : Int) (w : World) : Calls Tryz.prog 161 #[I x] w (RetV w (.bool false)) := by
  refine en0 6 Tryz.func161 ?_
  refine sg (co (Ev.assign (.c (v := .bool false) rfl)) ?_)
  refine nP (sg (mv rfl (mv rfl (co (Ev.neq_i (.t rfl) (.t rfl)) ?_))))
  refine asn rfl (nP (ret (done rfl (.tmp rfl .nil) (retE ?_))))
  simp
theorem en187 : Gx.Enters Tryz.prog 187 := Gx.Enters.mk' zk
theorem less_ok (x y : Int) (w : World) : Calls Tryz.prog 160 #[I x, I y] w (RetV w (.bool (decide (x < y)))) := by
  refine en0 17 Tryz.func160 ?_
  refine sg (co (Ev.assign (.c (v := .bool false) rfl)) ?_)
  refine nP (sg (mv rfl (cons (callv en187 (.cons (.t rfl) .nil) (fun w I => nan_c _ w) ?_))))
  refine mv rfl (cg rfl rfl (Ev.move (.t rfl)) ?_)
  refine cons (callg rfl rfl en187 (.cons (.g rfl id) .nil) (fun hg w I => nan_c _ w) ?_)
  refine cg rfl rfl (Ev.not (.g rfl id)) ?_
  refine co (Ev.pkA (.t rfl) rfl) ?_
  refine mv rfl (cg rfl rfl (Ev.move (.t rfl)) ?_)
  refine cg rfl rfl (Ev.move (.t rfl)) ?_
  refine cg rfl rfl (Ev.lss_i (.g rfl id) (.g rfl id)) ?_
  refine co (Ev.pkO (.t rfl) rfl) ?_
  refine asn rfl (nP (ret (done rfl (.tmp rfl .nil) (retE ?_))))
  simp
theorem en160 : Gx.Enters Tryz.prog 160 := Gx.Enters.mk' zk
theorem en161 : Gx.Enters Tryz.prog 161 := Gx.Enters.mk' zk
theorem search_ok (u : Value) (xs : List Int) (a : Int) (w : World) (hx : IsSl iE w u xs) (hs : xs.Pairwise (· < ·)) (hn : xs.length ≤ 1048576) : Calls Tryz.prog 135 #[u, I a] w (RetV w (.tuple #[I (lowB xs a), .bool (decide (lowB xs a < xs.length) && decide (xs.getD (lowB xs a).toNat 0 = a))])) := by
  have hle := hx.le
  refine en0 54 Tryz.func135 ?_
  refine sg (co (Ev.assign (.c (v := I 0) rfl)) ?_)
  refine co (Ev.assign (.c (v := .bool false) rfl)) ?_
  refine nP (sg (mv rfl (co (Ev.len Tryz.underlying22 (.t rfl) (fun w I => hx.keep0 I.keeps)) ?_)))
  refine asn rfl (nP (sg (mv rfl (co (Ev.assign (.c (v := I 0) rfl)) ?_))))
  refine asn rfl (nP (seq (block (lp (X := Int × Int) (fun x : Int × Int => (0 ≤ x.1 ∧ x.1 ≤ x.2 ∧ x.2 ≤ xs.length) ∧ (∀ k : Nat, k < x.1 → xs.getD k 0 < a) ∧ (∀ k : Nat, x.2 ≤ k → k < xs.length → ¬ xs.getD k 0 < a)) (fun x : Int × Int => [(0, true, u), (1, true, I a), (6, true, I xs.length), (7, true, I x.1), (8, true, I x.2)]) (fun x : Int × Int => []) (fun x : Int × Int => (x.2 - x.1).toNat) (0, xs.length) ⟨?_, ?_, ?_⟩ (fun x hx => ?_)))))
  · omega
  · intro k h; omega
  · intro k h h3; omega
  obtain ⟨i, j⟩ := x
  obtain ⟨hi, hl, hg⟩ : (0 ≤ i ∧ i ≤ j ∧ j ≤ xs.length) ∧ (∀ k : Nat, k < i → xs.getD k 0 < a) ∧ (∀ k : Nat, j ≤ k → k < xs.length → ¬ xs.getD k 0 < a) := hx
  show Sat _ _ [(0, true, u), (1, true, I a), (6, true, I xs.length), (7, true, I i), (8, true, I j)] []
  refine seq (sg (mv rfl (mv rfl (co (Ev.lss_i (.t rfl) (.t rfl)) ?_))))
  refine nP ?_
  first | refine condD rfl (fun h0 => ?_) (fun h0 => ?_) | refine cond rfl (fun h0 => ?_) (fun h0 => ?_)
  · try simp only [nb] at h0
    refine skip (pN (block (sg (mv rfl (mv rfl (co (Ev.add_i (.t rfl) (.t rfl) (fun _ => zo)) ?_))))))
    refine co (Ev.conv_i_u64 Tryz.underlying199 Tryz.underlying3 (.t rfl)) ?_
    refine co (Ev.shr_u64 (.t rfl) (.c rfl) (fun _ => by decide)) ?_
    refine co (Ev.to (v' := I ((i + j) / 2)) (Ev.conv_u64_i Tryz.underlying3 Tryz.underlying199 (.t rfl) (fun _ => by have := mid_nat (i := i) (j := j) ⟨hi.1, hi.2.1, by omega⟩; omega)) (congrArg I (mid_nat ⟨hi.1, hi.2.1, by omega⟩))) ?_
    refine asn rfl (nP (sg (mv rfl (mv rfl (co (Ev.indexAddr Tryz.underlying22 ty3 (.t rfl) (.t rfl) (fun w I => hx.keep0 I.keeps) (fun _ => zo)) ?_)))))
    refine co (Ev.loadS0 ty3 (.t rfl) (fun w I => hx.keep0 I.keeps) (fun _ => zo)) ?_
    refine mv rfl (cons (callv en160 (.cons (.t rfl) (.cons (.t rfl) .nil)) (fun w I => less_ok _ _ w) ?_))
    refine nP ?_
    first | refine condD rfl (fun h1 => ?_) (fun h1 => ?_) | refine cond rfl (fun h1 => ?_) (fun h1 => ?_)
    · try simp only [nb] at h1
      refine region (mv rfl (co (Ev.add_i (.t rfl) (.c (v := I 1) rfl) (fun _ => zo)) ?_))
      refine asn rfl (nil (bN (pN (nx (X := Int × Int) (((i + j) / 2) + 1, j) ⟨?_, ?_, ?_⟩ ?_))))
      · try dsimp only
        omega
      · try dsimp only
        intro k h
        exact up_lt hs (by omega) (by omega) h1
      · try dsimp only
        exact hg
      · try dsimp only
        first | omega | (simp; omega)
    · try simp only [nb] at h1
      refine region (mv rfl (asn rfl (nil (bN (pN (nx (X := Int × Int) (i, ((i + j) / 2)) ⟨?_, ?_, ?_⟩ ?_))))))
      · try dsimp only
        omega
      · try dsimp only
        exact hl
      · try dsimp only
        intro k h h3
        exact up_ge hs (by omega) h3 h1
      · try dsimp only
        first | omega | (simp; omega)
  · try simp only [nb] at h0
    refine exit (pX (pX (bX (pN (sg (mv rfl (mv rfl (mv rfl (co (Ev.lss_i (.t rfl) (.t rfl)) ?_)))))))))
    refine mv rfl (cg rfl rfl (Ev.move (.t rfl)) ?_)
    refine cg rfl rfl (Ev.move (.t rfl)) ?_
    refine cg rfl rfl (Ev.indexAddr Tryz.underlying22 ty3 (.g rfl id) (.g rfl id) (fun w I => hx.keep0 I.keeps) (fun _ => by first | omega | (rename_i hg; simp at hg; omega))) ?_
    refine cg rfl rfl (Ev.loadS0 ty3 (.g rfl id) (fun w I => hx.keep0 I.keeps) (fun _ => by first | omega | (rename_i hg; simp at hg; omega))) ?_
    refine cg rfl rfl (Ev.move (.t rfl)) ?_
    refine cg rfl rfl (Ev.eql_i (.g rfl id) (.g rfl id)) ?_
    refine cg rfl rfl (Ev.move (.g rfl id)) ?_
    refine cg rfl rfl (Ev.move (.t rfl)) ?_
    refine cg rfl rfl (Ev.move (.t rfl)) ?_
    refine cg rfl rfl (Ev.indexAddr Tryz.underlying22 ty3 (.g rfl id) (.g rfl id) (fun w I => hx.keep0 I.keeps) (fun _ => by first | omega | (rename_i hg; simp at hg; omega))) ?_
    refine cg rfl rfl (Ev.loadS0 ty3 (.g rfl id) (fun w I => hx.keep0 I.keeps) (fun _ => by first | omega | (rename_i hg; simp at hg; omega))) ?_
    refine cons (callg rfl rfl en161 (.cons (.g rfl id) .nil) (fun hg w I => nan_s _ w) ?_)
    refine cg rfl rfl (Ev.move (.g rfl id)) ?_
    refine cg rfl rfl (Ev.move (.t rfl)) ?_
    refine cons (callg rfl rfl en161 (.cons (.g rfl id) .nil) (fun hg w I => nan_s _ w) ?_)
    refine cg rfl rfl (Ev.pkA (.g rfl id) rfl) ?_
    refine cg rfl rfl (Ev.pkO (.g rfl id) rfl) ?_
    refine co (Ev.pkA (.t rfl) rfl) ?_
    refine asn rfl (asn rfl (nP (ret (done rfl (.tmp rfl (.tmp rfl .nil)) (retE ?_)))))
    have e : lowB xs a = i := by
      have := lowB_of (l := xs) (x := a) (n := i.toNat) (by omega) (fun k h => hl k (by omega)) (fun k h h2 => hg k (by omega) h2)
      omega
    rw [e]
    simp
    rfl
def cutL {α : Type} (l : List α) (i j : Int) : List α := l.take i.toNat ++ l.drop j.toNat
theorem cut_take {α : Type} (l R : List α) {i j : Int} {m k : Nat} (h : 0 ≤ i ∧ i ≤ j ∧ j ≤ l.length) (hm : m = i.toNat + (l.length - j.toNat)) : ((l.take i.toNat ++ l.drop j.toNat ++ l.drop m).take m ++ R ++ (l.take i.toNat ++ l.drop j.toNat ++ l.drop m).drop k).take m = cutL l i j := by
  have e : (l.take i.toNat ++ l.drop j.toNat ++ l.drop m).take m = cutL l i j := by
    have hl : (l.take i.toNat ++ l.drop j.toNat).length = m := by simp; omega
    rw [← hl]
    exact List.take_left
  have hc : (cutL l i j).length = m := by unfold cutL; simp; omega
  rw [e, List.append_assoc, ← hc]
  exact List.take_left
theorem delete_3 (o : OV) (xs : List Int) (i j : Int) (w : World) (h : At (OwnS o.v iE xs 3) w) (hb : 0 ≤ i ∧ i ≤ j ∧ j ≤ xs.length) : Calls Tryz.prog 164 #[o.v, I i, I j] w (RetR w (OwnS o.v iE xs 3) (fun _ : OV => True) (fun o => o.v) (fun o => OwnS o.v iE (cutL xs i j) 3)) := by
  have hsh : Shq o.v xs.length := (IsSl.of_own h.1).shq
  have hle := (IsSl.of_own h.1).le
  refine enter (OwnS o.v iE xs 3).foot 33 [OwnS o.v iE xs 3] Tryz.func164 rfl rfl (Nat.le_of_ble_eq_true rfl) (start_at h) ?_
  refine sg (co (Ev.assign (.c (v := (Go.Value.slice none 0 0)) rfl)) ?_)
  refine nP (sg (mv rfl (mv rfl (mv rfl (mv rfl (co (Ev.len Tryz.underlying22 (.t rfl) (isSl_own zm)) ?_))))))
  refine co (Ev.slice3 Tryz.underlying22 ty3 (.t rfl) (.t rfl) (.t rfl) (.t rfl) (isSl_own zm) (fun _ => zo)) ?_
  refine nP (seq (sg (mv rfl (mv rfl (co (Ev.eql_i (.t rfl) (.t rfl)) ?_)))))
  refine nP ?_
  first | refine condD rfl (fun h0 => ?_) (fun h0 => ?_) | refine cond rfl (fun h0 => ?_) (fun h0 => ?_)
  · try simp only [nb] at h0
    refine sg (mv rfl (asn rfl (nP (ret (pR (done rfl (.tmp rfl .nil) (fun w I => ?_)))))))
    have e : cutL xs i j = xs := by
      unfold cutL
      rw [h0, List.take_append_drop]
    rw [e]
    exact retR o trivial rfl zm w I
  · try simp only [nb] at h0
    refine skip (pN (sg (mv rfl (co (Ev.len Tryz.underlying22 (.t rfl) (isSl_own zm)) ?_))))
    refine asn rfl (nP (seq (drawR .head zk ?_)))
    refine tk 0 rfl (Ev.move (.t rfl)) ?_
    refine tk 1 rfl (Ev.move (.t rfl)) ?_
    refine tk 2 rfl (Ev.sliceHS Tryz.underlying22 ty3 (.t rfl) (.t rfl) hsh (fun _ => zo)) ?_
    refine tk 3 rfl (Ev.move (.t rfl)) ?_
    refine tk 4 rfl (Ev.move (.t rfl)) ?_
    refine tk 5 rfl (Ev.sliceLS Tryz.underlying22 ty3 (.t rfl) (.t rfl) hsh (fun _ => zo)) ?_
    refine al1 6 rfl ((appendCut (E := iE) Tryz.underlying22 ty3 (.t rfl) (.t rfl) zu ⟨by omega, by omega⟩ ?_))
    refine hdn (tk 7 rfl (Ev.assign (.t rfl)) ?_)
    refine ovr (pN (sg (mv rfl (mv rfl (co (Ev.to (v' := I (((i.toNat + (xs.length - j.toNat)) : Nat) : Int)) (Ev.len Tryz.underlying22 (.t rfl) (fun w I => IsSl.sub (xs := (xs.take i.toNat ++ xs.drop j.toNat ++ xs.drop (i.toNat + (xs.length - j.toNat)))) (io w I) (l := 0) (k := (i.toNat + (xs.length - j.toNat))) (Nat.zero_le _) (by simp; omega))) (congrArg (fun n : Nat => I (n : Int)) (by simp; omega))) ?_)))))
    refine mv rfl (co (Ev.sliceUp2 (xs := (xs.take i.toNat ++ xs.drop j.toNat ++ xs.drop (i.toNat + (xs.length - j.toNat)))) (l := ((i.toNat + (xs.length - j.toNat)) : Nat)) (k := xs.length) Tryz.underlying22 ty3 (.t rfl) (.t rfl) (.t rfl) (isSl_own (by repeat first | exact mH | apply mT | apply mA)) (fun _ => by simp; omega)) ?_)
    refine cons (clearO (E := iE) (xs := (xs.take i.toNat ++ xs.drop j.toNat ++ xs.drop (i.toNat + (xs.length - j.toNat)))) (l := (i.toNat + (xs.length - j.toNat))) (k := xs.length) Tryz.underlying22 z3 rfl (.t rfl) zu ⟨by omega, by simp; omega⟩ ?_)
    refine nP (sg (cutOwn (E := iE) (i.toNat + (xs.length - j.toNat)) zu (by simp; omega) ?_))
    rw [cut_take xs _ hb rfl]
    refine mv rfl (asn rfl (nP (ret (done rfl (.tmp rfl .nil) (fun w I => ?_)))))
    exact retR (OV.sub iE.size o 0 (i.toNat + (xs.length - j.toNat))) trivial rfl zm w I
theorem en164 : Gx.Enters Tryz.prog 164 := Gx.Enters.mk' zk
theorem cut_3 (o : OV) (xs : List Int) (i : Int) (w : World) (h : At (OwnS o.v iE xs 3) w) (hi : i < xs.length) : Calls Tryz.prog 137 #[o.v, I i] w (RetR w (OwnS o.v iE xs 3) (fun _ : OV => True) (fun o => .tuple #[o.v, .bool (decide (¬ i < 0))]) (fun o => OwnS o.v iE (if i < 0 then xs else cutL xs i (i + 1)) 3)) := by
  have hle := (IsSl.of_own h.1).le
  refine enter (OwnS o.v iE xs 3).foot 14 [OwnS o.v iE xs 3] Tryz.func137 rfl rfl (Nat.le_of_ble_eq_true rfl) (start_at h) ?_
  refine sg (co (Ev.assign (.c (v := (Go.Value.slice none 0 0)) rfl)) ?_)
  refine co (Ev.assign (.c (v := .bool false) rfl)) ?_
  refine nP (seq (sg (mv rfl (co (Ev.lss_i (.t rfl) (.c (v := I 0) rfl)) ?_))))
  refine nP ?_
  first | refine condD rfl (fun h0 => ?_) (fun h0 => ?_) | refine cond rfl (fun h0 => ?_) (fun h0 => ?_)
  · try simp only [nb] at h0
    refine sg (mv rfl (asn rfl (co (Ev.assign (.c (v := .bool false) rfl)) ?_)))
    refine nP (ret (pR (done rfl (.tmp rfl (.tmp rfl .nil)) (fun w I => ?_))))
    rw [if_pos h0]
    exact retR o trivial (by simp [h0]) (by repeat first | exact mH | apply mT | apply mA) w I
  · try simp only [nb] at h0
    refine skip (pN (sg (mv rfl (mv rfl (mv rfl (co (Ev.add_i (.t rfl) (.c (v := I 1) rfl) (fun _ => zo)) ?_))))))
    refine cons (callr (X := OV) (fun _ => True) (fun o => o.v) (fun _ => zu) zm en164 (.cons (.t rfl) (.cons (.t rfl) (.cons (.t rfl) .nil))) (fun w I => delete_3 o xs i (i + 1) w (am w I) ⟨by omega, by omega, by omega⟩) (fun o2 _ => ?_))
    refine asn rfl (co (Ev.assign (.c (v := .bool true) rfl)) ?_)
    refine nP (ret (done rfl (.tmp rfl (.tmp rfl .nil)) (fun w I => ?_)))
    rw [if_neg h0]
    exact retR o2 trivial (by simp [h0]) (by repeat first | exact mH | apply mT | apply mA) w I
theorem delete_52 (o : OV) (xs : List SRoute) (i j : Int) (w : World) (h : At (OwnS o.v eRoute xs 52) w) (hb : 0 ≤ i ∧ i ≤ j ∧ j ≤ xs.length) : Calls Tryz.prog 165 #[o.v, I i, I j] w (RetR w (OwnS o.v eRoute xs 52) (fun _ : OV => True) (fun o => o.v) (fun o => OwnS o.v eRoute (cutL xs i j) 52)) := by
  have hsh : Shq o.v xs.length := (IsSl.of_own h.1).shq
  have hle := (IsSl.of_own h.1).le
  refine enter (OwnS o.v eRoute xs 52).foot 33 [OwnS o.v eRoute xs 52] Tryz.func165 rfl rfl (Nat.le_of_ble_eq_true rfl) (start_at h) ?_
  refine sg (co (Ev.assign (.c (v := (Go.Value.slice none 0 0)) rfl)) ?_)
  refine nP (sg (mv rfl (mv rfl (mv rfl (mv rfl (co (Ev.len Tryz.underlying23 (.t rfl) (isSl_own zm)) ?_))))))
  refine co (Ev.slice3 Tryz.underlying23 ty52 (.t rfl) (.t rfl) (.t rfl) (.t rfl) (isSl_own zm) (fun _ => zo)) ?_
  refine nP (seq (sg (mv rfl (mv rfl (co (Ev.eql_i (.t rfl) (.t rfl)) ?_)))))
  refine nP ?_
  first | refine condD rfl (fun h0 => ?_) (fun h0 => ?_) | refine cond rfl (fun h0 => ?_) (fun h0 => ?_)
  · try simp only [nb] at h0
    refine sg (mv rfl (asn rfl (nP (ret (pR (done rfl (.tmp rfl .nil) (fun w I => ?_)))))))
    have e : cutL xs i j = xs := by
      unfold cutL
      rw [h0, List.take_append_drop]
    rw [e]
    exact retR o trivial rfl zm w I
  · try simp only [nb] at h0
    refine skip (pN (sg (mv rfl (co (Ev.len Tryz.underlying23 (.t rfl) (isSl_own zm)) ?_))))
    refine asn rfl (nP (seq (drawR .head zk ?_)))
    refine tk 0 rfl (Ev.move (.t rfl)) ?_
    refine tk 1 rfl (Ev.move (.t rfl)) ?_
    refine tk 2 rfl (Ev.sliceHS Tryz.underlying23 ty52 (.t rfl) (.t rfl) hsh (fun _ => zo)) ?_
    refine tk 3 rfl (Ev.move (.t rfl)) ?_
    refine tk 4 rfl (Ev.move (.t rfl)) ?_
    refine tk 5 rfl (Ev.sliceLS Tryz.underlying23 ty52 (.t rfl) (.t rfl) hsh (fun _ => zo)) ?_
    refine al1 6 rfl ((appendCut (E := eRoute) Tryz.underlying23 ty52 (.t rfl) (.t rfl) zu ⟨by omega, by omega⟩ ?_))
    refine hdn (tk 7 rfl (Ev.assign (.t rfl)) ?_)
    refine ovr (pN (sg (mv rfl (mv rfl (co (Ev.to (v' := I (((i.toNat + (xs.length - j.toNat)) : Nat) : Int)) (Ev.len Tryz.underlying23 (.t rfl) (fun w I => IsSl.sub (xs := (xs.take i.toNat ++ xs.drop j.toNat ++ xs.drop (i.toNat + (xs.length - j.toNat)))) (io w I) (l := 0) (k := (i.toNat + (xs.length - j.toNat))) (Nat.zero_le _) (by simp; omega))) (congrArg (fun n : Nat => I (n : Int)) (by simp; omega))) ?_)))))
    refine mv rfl (co (Ev.sliceUp2 (xs := (xs.take i.toNat ++ xs.drop j.toNat ++ xs.drop (i.toNat + (xs.length - j.toNat)))) (l := ((i.toNat + (xs.length - j.toNat)) : Nat)) (k := xs.length) Tryz.underlying23 ty52 (.t rfl) (.t rfl) (.t rfl) (isSl_own (by repeat first | exact mH | apply mT | apply mA)) (fun _ => by simp; omega)) ?_)
    refine cons (clearO (E := eRoute) (xs := (xs.take i.toNat ++ xs.drop j.toNat ++ xs.drop (i.toNat + (xs.length - j.toNat)))) (l := (i.toNat + (xs.length - j.toNat))) (k := xs.length) Tryz.underlying23 z52 rfl (.t rfl) zu ⟨by omega, by simp; omega⟩ ?_)
    refine nP (sg (cutOwn (E := eRoute) (i.toNat + (xs.length - j.toNat)) zu (by simp; omega) ?_))
    rw [cut_take xs _ hb rfl]
    refine mv rfl (asn rfl (nP (ret (done rfl (.tmp rfl .nil) (fun w I => ?_)))))
    exact retR (OV.sub eRoute.size o 0 (i.toNat + (xs.length - j.toNat))) trivial rfl zm w I
theorem en165 : Gx.Enters Tryz.prog 165 := Gx.Enters.mk' zk
theorem cut_52 (o : OV) (xs : List SRoute) (i : Int) (w : World) (h : At (OwnS o.v eRoute xs 52) w) (hi : i < xs.length) : Calls Tryz.prog 139 #[o.v, I i] w (RetR w (OwnS o.v eRoute xs 52) (fun _ : OV => True) (fun o => .tuple #[o.v, .bool (decide (¬ i < 0))]) (fun o => OwnS o.v eRoute (if i < 0 then xs else cutL xs i (i + 1)) 52)) := by
  have hle := (IsSl.of_own h.1).le
  refine enter (OwnS o.v eRoute xs 52).foot 14 [OwnS o.v eRoute xs 52] Tryz.func139 rfl rfl (Nat.le_of_ble_eq_true rfl) (start_at h) ?_
  refine sg (co (Ev.assign (.c (v := (Go.Value.slice none 0 0)) rfl)) ?_)
  refine co (Ev.assign (.c (v := .bool false) rfl)) ?_
  refine nP (seq (sg (mv rfl (co (Ev.lss_i (.t rfl) (.c (v := I 0) rfl)) ?_))))
  refine nP ?_
  first | refine condD rfl (fun h0 => ?_) (fun h0 => ?_) | refine cond rfl (fun h0 => ?_) (fun h0 => ?_)
  · try simp only [nb] at h0
    refine sg (mv rfl (asn rfl (co (Ev.assign (.c (v := .bool false) rfl)) ?_)))
    refine nP (ret (pR (done rfl (.tmp rfl (.tmp rfl .nil)) (fun w I => ?_))))
    rw [if_pos h0]
    exact retR o trivial (by simp [h0]) (by repeat first | exact mH | apply mT | apply mA) w I
  · try simp only [nb] at h0
    refine skip (pN (sg (mv rfl (mv rfl (mv rfl (co (Ev.add_i (.t rfl) (.c (v := I 1) rfl) (fun _ => zo)) ?_))))))
    refine cons (callr (X := OV) (fun _ => True) (fun o => o.v) (fun _ => zu) zm en165 (.cons (.t rfl) (.cons (.t rfl) (.cons (.t rfl) .nil))) (fun w I => delete_52 o xs i (i + 1) w (am w I) ⟨by omega, by omega, by omega⟩) (fun o2 _ => ?_))
    refine asn rfl (co (Ev.assign (.c (v := .bool true) rfl)) ?_)
    refine nP (ret (done rfl (.tmp rfl (.tmp rfl .nil)) (fun w I => ?_)))
    rw [if_neg h0]
    exact retR o2 trivial (by simp [h0]) (by repeat first | exact mH | apply mT | apply mA) w I
theorem delete_57 (o : OV) (xs : List SMeterConf) (i j : Int) (w : World) (h : At (OwnS o.v eMeterConf xs 57) w) (hb : 0 ≤ i ∧ i ≤ j ∧ j ≤ xs.length) : Calls Tryz.prog 166 #[o.v, I i, I j] w (RetR w (OwnS o.v eMeterConf xs 57) (fun _ : OV => True) (fun o => o.v) (fun o => OwnS o.v eMeterConf (cutL xs i j) 57)) := by
  have hsh : Shq o.v xs.length := (IsSl.of_own h.1).shq
  have hle := (IsSl.of_own h.1).le
  refine enter (OwnS o.v eMeterConf xs 57).foot 33 [OwnS o.v eMeterConf xs 57] Tryz.func166 rfl rfl (Nat.le_of_ble_eq_true rfl) (start_at h) ?_
  refine sg (co (Ev.assign (.c (v := (Go.Value.slice none 0 0)) rfl)) ?_)
  refine nP (sg (mv rfl (mv rfl (mv rfl (mv rfl (co (Ev.len Tryz.underlying25 (.t rfl) (isSl_own zm)) ?_))))))
  refine co (Ev.slice3 Tryz.underlying25 ty57 (.t rfl) (.t rfl) (.t rfl) (.t rfl) (isSl_own zm) (fun _ => zo)) ?_
  refine nP (seq (sg (mv rfl (mv rfl (co (Ev.eql_i (.t rfl) (.t rfl)) ?_)))))
  refine nP ?_
  first | refine condD rfl (fun h0 => ?_) (fun h0 => ?_) | refine cond rfl (fun h0 => ?_) (fun h0 => ?_)
  · try simp only [nb] at h0
    refine sg (mv rfl (asn rfl (nP (ret (pR (done rfl (.tmp rfl .nil) (fun w I => ?_)))))))
    have e : cutL xs i j = xs := by
      unfold cutL
      rw [h0, List.take_append_drop]
    rw [e]
    exact retR o trivial rfl zm w I
  · try simp only [nb] at h0
    refine skip (pN (sg (mv rfl (co (Ev.len Tryz.underlying25 (.t rfl) (isSl_own zm)) ?_))))
    refine asn rfl (nP (seq (drawR .head zk ?_)))
    refine tk 0 rfl (Ev.move (.t rfl)) ?_
    refine tk 1 rfl (Ev.move (.t rfl)) ?_
    refine tk 2 rfl (Ev.sliceHS Tryz.underlying25 ty57 (.t rfl) (.t rfl) hsh (fun _ => zo)) ?_
    refine tk 3 rfl (Ev.move (.t rfl)) ?_
    refine tk 4 rfl (Ev.move (.t rfl)) ?_
    refine tk 5 rfl (Ev.sliceLS Tryz.underlying25 ty57 (.t rfl) (.t rfl) hsh (fun _ => zo)) ?_
    refine al1 6 rfl ((appendCut (E := eMeterConf) Tryz.underlying25 ty57 (.t rfl) (.t rfl) zu ⟨by omega, by omega⟩ ?_))
    refine hdn (tk 7 rfl (Ev.assign (.t rfl)) ?_)
    refine ovr (pN (sg (mv rfl (mv rfl (co (Ev.to (v' := I (((i.toNat + (xs.length - j.toNat)) : Nat) : Int)) (Ev.len Tryz.underlying25 (.t rfl) (fun w I => IsSl.sub (xs := (xs.take i.toNat ++ xs.drop j.toNat ++ xs.drop (i.toNat + (xs.length - j.toNat)))) (io w I) (l := 0) (k := (i.toNat + (xs.length - j.toNat))) (Nat.zero_le _) (by simp; omega))) (congrArg (fun n : Nat => I (n : Int)) (by simp; omega))) ?_)))))
    refine mv rfl (co (Ev.sliceUp2 (xs := (xs.take i.toNat ++ xs.drop j.toNat ++ xs.drop (i.toNat + (xs.length - j.toNat)))) (l := ((i.toNat + (xs.length - j.toNat)) : Nat)) (k := xs.length) Tryz.underlying25 ty57 (.t rfl) (.t rfl) (.t rfl) (isSl_own (by repeat first | exact mH | apply mT | apply mA)) (fun _ => by simp; omega)) ?_)
    refine cons (clearO (E := eMeterConf) (xs := (xs.take i.toNat ++ xs.drop j.toNat ++ xs.drop (i.toNat + (xs.length - j.toNat)))) (l := (i.toNat + (xs.length - j.toNat))) (k := xs.length) Tryz.underlying25 z57 rfl (.t rfl) zu ⟨by omega, by simp; omega⟩ ?_)
    refine nP (sg (cutOwn (E := eMeterConf) (i.toNat + (xs.length - j.toNat)) zu (by simp; omega) ?_))
    rw [cut_take xs _ hb rfl]
    refine mv rfl (asn rfl (nP (ret (done rfl (.tmp rfl .nil) (fun w I => ?_)))))
    exact retR (OV.sub eMeterConf.size o 0 (i.toNat + (xs.length - j.toNat))) trivial rfl zm w I
theorem en166 : Gx.Enters Tryz.prog 166 := Gx.Enters.mk' zk
theorem cut_57 (o : OV) (xs : List SMeterConf) (i : Int) (w : World) (h : At (OwnS o.v eMeterConf xs 57) w) (hi : i < xs.length) : Calls Tryz.prog 141 #[o.v, I i] w (RetR w (OwnS o.v eMeterConf xs 57) (fun _ : OV => True) (fun o => .tuple #[o.v, .bool (decide (¬ i < 0))]) (fun o => OwnS o.v eMeterConf (if i < 0 then xs else cutL xs i (i + 1)) 57)) := by
  have hle := (IsSl.of_own h.1).le
  refine enter (OwnS o.v eMeterConf xs 57).foot 14 [OwnS o.v eMeterConf xs 57] Tryz.func141 rfl rfl (Nat.le_of_ble_eq_true rfl) (start_at h) ?_
  refine sg (co (Ev.assign (.c (v := (Go.Value.slice none 0 0)) rfl)) ?_)
  refine co (Ev.assign (.c (v := .bool false) rfl)) ?_
  refine nP (seq (sg (mv rfl (co (Ev.lss_i (.t rfl) (.c (v := I 0) rfl)) ?_))))
  refine nP ?_
  first | refine condD rfl (fun h0 => ?_) (fun h0 => ?_) | refine cond rfl (fun h0 => ?_) (fun h0 => ?_)
  · try simp only [nb] at h0
    refine sg (mv rfl (asn rfl (co (Ev.assign (.c (v := .bool false) rfl)) ?_)))
    refine nP (ret (pR (done rfl (.tmp rfl (.tmp rfl .nil)) (fun w I => ?_))))
    rw [if_pos h0]
    exact retR o trivial (by simp [h0]) (by repeat first | exact mH | apply mT | apply mA) w I
  · try simp only [nb] at h0
    refine skip (pN (sg (mv rfl (mv rfl (mv rfl (co (Ev.add_i (.t rfl) (.c (v := I 1) rfl) (fun _ => zo)) ?_))))))
    refine cons (callr (X := OV) (fun _ => True) (fun o => o.v) (fun _ => zu) zm en166 (.cons (.t rfl) (.cons (.t rfl) (.cons (.t rfl) .nil))) (fun w I => delete_57 o xs i (i + 1) w (am w I) ⟨by omega, by omega, by omega⟩) (fun o2 _ => ?_))
    refine asn rfl (co (Ev.assign (.c (v := .bool true) rfl)) ?_)
    refine nP (ret (done rfl (.tmp rfl (.tmp rfl .nil)) (fun w I => ?_)))
    rw [if_neg h0]
    exact retR o2 trivial (by simp [h0]) (by repeat first | exact mH | apply mT | apply mA) w I
theorem delete_59 (o : OV) (xs : List SMirrorConf) (i j : Int) (w : World) (h : At (OwnS o.v eMirrorConf xs 59) w) (hb : 0 ≤ i ∧ i ≤ j ∧ j ≤ xs.length) : Calls Tryz.prog 167 #[o.v, I i, I j] w (RetR w (OwnS o.v eMirrorConf xs 59) (fun _ : OV => True) (fun o => o.v) (fun o => OwnS o.v eMirrorConf (cutL xs i j) 59)) := by
  have hsh : Shq o.v xs.length := (IsSl.of_own h.1).shq
  have hle := (IsSl.of_own h.1).le
  refine enter (OwnS o.v eMirrorConf xs 59).foot 33 [OwnS o.v eMirrorConf xs 59] Tryz.func167 rfl rfl (Nat.le_of_ble_eq_true rfl) (start_at h) ?_
  refine sg (co (Ev.assign (.c (v := (Go.Value.slice none 0 0)) rfl)) ?_)
  refine nP (sg (mv rfl (mv rfl (mv rfl (mv rfl (co (Ev.len Tryz.underlying26 (.t rfl) (isSl_own zm)) ?_))))))
  refine co (Ev.slice3 Tryz.underlying26 ty59 (.t rfl) (.t rfl) (.t rfl) (.t rfl) (isSl_own zm) (fun _ => zo)) ?_
  refine nP (seq (sg (mv rfl (mv rfl (co (Ev.eql_i (.t rfl) (.t rfl)) ?_)))))
  refine nP ?_
  first | refine condD rfl (fun h0 => ?_) (fun h0 => ?_) | refine cond rfl (fun h0 => ?_) (fun h0 => ?_)
  · try simp only [nb] at h0
    refine sg (mv rfl (asn rfl (nP (ret (pR (done rfl (.tmp rfl .nil) (fun w I => ?_)))))))
    have e : cutL xs i j = xs := by
      unfold cutL
      rw [h0, List.take_append_drop]
    rw [e]
    exact retR o trivial rfl zm w I
  · try simp only [nb] at h0
    refine skip (pN (sg (mv rfl (co (Ev.len Tryz.underlying26 (.t rfl) (isSl_own zm)) ?_))))
    refine asn rfl (nP (seq (drawR .head zk ?_)))
    refine tk 0 rfl (Ev.move (.t rfl)) ?_
    refine tk 1 rfl (Ev.move (.t rfl)) ?_
    refine tk 2 rfl (Ev.sliceHS Tryz.underlying26 ty59 (.t rfl) (.t rfl) hsh (fun _ => zo)) ?_
    refine tk 3 rfl (Ev.move (.t rfl)) ?_
    refine tk 4 rfl (Ev.move (.t rfl)) ?_
    refine tk 5 rfl (Ev.sliceLS Tryz.underlying26 ty59 (.t rfl) (.t rfl) hsh (fun _ => zo)) ?_
    refine al1 6 rfl ((appendCut (E := eMirrorConf) Tryz.underlying26 ty59 (.t rfl) (.t rfl) zu ⟨by omega, by omega⟩ ?_))
    refine hdn (tk 7 rfl (Ev.assign (.t rfl)) ?_)
    refine ovr (pN (sg (mv rfl (mv rfl (co (Ev.to (v' := I (((i.toNat + (xs.length - j.toNat)) : Nat) : Int)) (Ev.len Tryz.underlying26 (.t rfl) (fun w I => IsSl.sub (xs := (xs.take i.toNat ++ xs.drop j.toNat ++ xs.drop (i.toNat + (xs.length - j.toNat)))) (io w I) (l := 0) (k := (i.toNat + (xs.length - j.toNat))) (Nat.zero_le _) (by simp; omega))) (congrArg (fun n : Nat => I (n : Int)) (by simp; omega))) ?_)))))
    refine mv rfl (co (Ev.sliceUp2 (xs := (xs.take i.toNat ++ xs.drop j.toNat ++ xs.drop (i.toNat + (xs.length - j.toNat)))) (l := ((i.toNat + (xs.length - j.toNat)) : Nat)) (k := xs.length) Tryz.underlying26 ty59 (.t rfl) (.t rfl) (.t rfl) (isSl_own (by repeat first | exact mH | apply mT | apply mA)) (fun _ => by simp; omega)) ?_)
    refine cons (clearO (E := eMirrorConf) (xs := (xs.take i.toNat ++ xs.drop j.toNat ++ xs.drop (i.toNat + (xs.length - j.toNat)))) (l := (i.toNat + (xs.length - j.toNat))) (k := xs.length) Tryz.underlying26 z59 rfl (.t rfl) zu ⟨by omega, by simp; omega⟩ ?_)
    refine nP (sg (cutOwn (E := eMirrorConf) (i.toNat + (xs.length - j.toNat)) zu (by simp; omega) ?_))
    rw [cut_take xs _ hb rfl]
    refine mv rfl (asn rfl (nP (ret (done rfl (.tmp rfl .nil) (fun w I => ?_)))))
    exact retR (OV.sub eMirrorConf.size o 0 (i.toNat + (xs.length - j.toNat))) trivial rfl zm w I
theorem en167 : Gx.Enters Tryz.prog 167 := Gx.Enters.mk' zk
theorem cut_59 (o : OV) (xs : List SMirrorConf) (i : Int) (w : World) (h : At (OwnS o.v eMirrorConf xs 59) w) (hi : i < xs.length) : Calls Tryz.prog 143 #[o.v, I i] w (RetR w (OwnS o.v eMirrorConf xs 59) (fun _ : OV => True) (fun o => .tuple #[o.v, .bool (decide (¬ i < 0))]) (fun o => OwnS o.v eMirrorConf (if i < 0 then xs else cutL xs i (i + 1)) 59)) := by
  have hle := (IsSl.of_own h.1).le
  refine enter (OwnS o.v eMirrorConf xs 59).foot 14 [OwnS o.v eMirrorConf xs 59] Tryz.func143 rfl rfl (Nat.le_of_ble_eq_true rfl) (start_at h) ?_
  refine sg (co (Ev.assign (.c (v := (Go.Value.slice none 0 0)) rfl)) ?_)
  refine co (Ev.assign (.c (v := .bool false) rfl)) ?_
  refine nP (seq (sg (mv rfl (co (Ev.lss_i (.t rfl) (.c (v := I 0) rfl)) ?_))))
  refine nP ?_
  first | refine condD rfl (fun h0 => ?_) (fun h0 => ?_) | refine cond rfl (fun h0 => ?_) (fun h0 => ?_)
  · try simp only [nb] at h0
    refine sg (mv rfl (asn rfl (co (Ev.assign (.c (v := .bool false) rfl)) ?_)))
    refine nP (ret (pR (done rfl (.tmp rfl (.tmp rfl .nil)) (fun w I => ?_))))
    rw [if_pos h0]
    exact retR o trivial (by simp [h0]) (by repeat first | exact mH | apply mT | apply mA) w I
  · try simp only [nb] at h0
    refine skip (pN (sg (mv rfl (mv rfl (mv rfl (co (Ev.add_i (.t rfl) (.c (v := I 1) rfl) (fun _ => zo)) ?_))))))
    refine cons (callr (X := OV) (fun _ => True) (fun o => o.v) (fun _ => zu) zm en167 (.cons (.t rfl) (.cons (.t rfl) (.cons (.t rfl) .nil))) (fun w I => delete_59 o xs i (i + 1) w (am w I) ⟨by omega, by omega, by omega⟩) (fun o2 _ => ?_))
    refine asn rfl (co (Ev.assign (.c (v := .bool true) rfl)) ?_)
    refine nP (ret (done rfl (.tmp rfl (.tmp rfl .nil)) (fun w I => ?_)))
    rw [if_neg h0]
    exact retR o2 trivial (by simp [h0]) (by repeat first | exact mH | apply mT | apply mA) w I
end Go.Proofs.YtnoobdijbpmjkaaGreat
