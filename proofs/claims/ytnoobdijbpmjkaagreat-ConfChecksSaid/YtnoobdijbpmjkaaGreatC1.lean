/- conf -/
import Derived.Test.YtnoobdijbpmjkaaGreatRows
import Derived.Test.YtnoobdijbpmjkaaGreatGxW
set_option linter.unusedVariables false
set_option linter.unusedSimpArgs false
namespace Go.Proofs.YtnoobdijbpmjkaaGreat
open Go Go.Gx

structure SAddr where
  v6 : Bool
  b : (Vector UInt8 16)

def SAddr.to : (Bool × (Vector UInt8 16)) → SAddr := fun x => ⟨x.1, x.2⟩

def SAddr.of : SAddr → (Bool × (Vector UInt8 16)) := fun x => (x.v6, x.b)

def eAddr : Enc SAddr := isoE (prodE bE (arrE 16 u8E)) SAddr.to SAddr.of

def SAddr.l_v6 : Lens eAddr bE 0 := lIso _ SAddr.to SAddr.of (fun _ => rfl) (lFst bE (arrE 16 u8E))

@[simp] theorem SAddr.get_v6 (x : SAddr) : SAddr.l_v6.get x = x.v6 := rfl

@[simp] theorem SAddr.set_v6 (x : SAddr) (y : Bool) : SAddr.l_v6.set x y = { x with v6 := y } := rfl

def SAddr.l_b : Lens eAddr (arrE 16 u8E) 1 := lIso _ SAddr.to SAddr.of (fun _ => rfl) (Lens.comp (lSnd bE (arrE 16 u8E)) (Lens.id (arrE 16 u8E)))

@[simp] theorem SAddr.get_b (x : SAddr) : SAddr.l_b.get x = x.b := rfl

@[simp] theorem SAddr.set_b (x : SAddr) (y : (Vector UInt8 16)) : SAddr.l_b.set x y = { x with b := y } := rfl

structure SPrefix where
  addr : SAddr
  bits : Int

def SPrefix.to : (SAddr × Int) → SPrefix := fun x => ⟨x.1, x.2⟩

def SPrefix.of : SPrefix → (SAddr × Int) := fun x => (x.addr, x.bits)

def ePrefix : Enc SPrefix := isoE (prodE eAddr iE) SPrefix.to SPrefix.of

def SPrefix.l_addr : Lens ePrefix eAddr 0 := lIso _ SPrefix.to SPrefix.of (fun _ => rfl) (lFst eAddr iE)

@[simp] theorem SPrefix.get_addr (x : SPrefix) : SPrefix.l_addr.get x = x.addr := rfl

@[simp] theorem SPrefix.set_addr (x : SPrefix) (y : SAddr) : SPrefix.l_addr.set x y = { x with addr := y } := rfl

def SPrefix.l_bits : Lens ePrefix iE 17 := lIso _ SPrefix.to SPrefix.of (fun _ => rfl) (Lens.comp (lSnd eAddr iE) (Lens.id iE))

@[simp] theorem SPrefix.get_bits (x : SPrefix) : SPrefix.l_bits.get x = x.bits := rfl

@[simp] theorem SPrefix.set_bits (x : SPrefix) (y : Int) : SPrefix.l_bits.set x y = { x with bits := y } := rfl

structure SRoute where
  to_ : SPrefix
  out : Int

def SRoute.to : (SPrefix × Int) → SRoute := fun x => ⟨x.1, x.2⟩

def SRoute.of : SRoute → (SPrefix × Int) := fun x => (x.to_, x.out)

def eRoute : Enc SRoute := isoE (prodE ePrefix iE) SRoute.to SRoute.of

def SRoute.l_to_ : Lens eRoute ePrefix 0 := lIso _ SRoute.to SRoute.of (fun _ => rfl) (lFst ePrefix iE)

@[simp] theorem SRoute.get_to_ (x : SRoute) : SRoute.l_to_.get x = x.to_ := rfl

@[simp] theorem SRoute.set_to_ (x : SRoute) (y : SPrefix) : SRoute.l_to_.set x y = { x with to_ := y } := rfl

def SRoute.l_out : Lens eRoute iE 18 := lIso _ SRoute.to SRoute.of (fun _ => rfl) (Lens.comp (lSnd ePrefix iE) (Lens.id iE))

@[simp] theorem SRoute.get_out (x : SRoute) : SRoute.l_out.get x = x.out := rfl

@[simp] theorem SRoute.set_out (x : SRoute) (y : Int) : SRoute.l_out.set x y = { x with out := y } := rfl

theorem ty5 : TyOK Tryz.prog 5 u8E := TyOK.mk' (by kernel_rfl) (by kernel_rfl)

def SAddr.eqb (x y : SAddr) : Bool := eqd x.v6 y.v6 && ((eqA 16 eqd) x.b y.b && (true))

theorem SAddr.eqb_iff (x y : SAddr) : SAddr.eqb x y = true ↔ x = y := by
  obtain ⟨a0, a1⟩ := x
  obtain ⟨b0, b1⟩ := y
  simp only [SAddr.eqb, Bool.and_eq_true, eqd_iff, (eqA_iff eqd_iff), SAddr.mk.injEq, and_true]

theorem ty46 : TyOK Tryz.prog 46 (arrE 16 u8E) := TyOK.mk' (by kernel_rfl) (by kernel_rfl)

theorem ty4 : TyOK Tryz.prog 4 bE := TyOK.mk' (by kernel_rfl) (by kernel_rfl)

theorem eqok48 : EqOK Tryz.prog 48 eAddr SAddr.eqb 3 := eqok_struct (fs := _) Tryz.underlying48 (by kernel_rfl) rfl (EqF.cons (by decide) rfl SAddr.l_v6 ty4 (fun d hd => (eqok_b Tryz.underlying4) d (by omega)) (EqF.cons (by decide) rfl SAddr.l_b ty46 (eqok_arr Tryz.underlying46 ty5 (eqok_u8 Tryz.underlying5)) EqF.nil)) (fun _ _ => rfl)

instance : DecidableEq SAddr := fun x y => decidable_of_iff (SAddr.eqb x y = true) (SAddr.eqb_iff x y)

@[simp] theorem SAddr.eqb_dec (x y : SAddr) : SAddr.eqb x y = decide (x = y) := by
  rw [Bool.eq_iff_iff, decide_eq_true_iff]
  exact SAddr.eqb_iff x y

theorem SAddr.eqb_self (x : SAddr) : SAddr.eqb x x = true := (SAddr.eqb_iff x x).2 rfl

def SPrefix.eqb (x y : SPrefix) : Bool := SAddr.eqb x.addr y.addr && (eqd x.bits y.bits && (true))

theorem SPrefix.eqb_iff (x y : SPrefix) : SPrefix.eqb x y = true ↔ x = y := by
  obtain ⟨a0, a1⟩ := x
  obtain ⟨b0, b1⟩ := y
  simp only [SPrefix.eqb, Bool.and_eq_true, SAddr.eqb_iff, eqd_iff, SPrefix.mk.injEq, and_true]

theorem ty3 : TyOK Tryz.prog 3 iE := TyOK.mk' (by kernel_rfl) (by kernel_rfl)

theorem ty48 : TyOK Tryz.prog 48 eAddr := TyOK.mk' (by kernel_rfl) (by kernel_rfl)

theorem eqok50 : EqOK Tryz.prog 50 ePrefix SPrefix.eqb 4 := eqok_struct (fs := _) Tryz.underlying50 (by kernel_rfl) rfl (EqF.cons (by decide) rfl SPrefix.l_addr ty48 eqok48 (EqF.cons (by decide) rfl SPrefix.l_bits ty3 (fun d hd => (eqok_i Tryz.underlying3) d (by omega)) EqF.nil)) (fun _ _ => rfl)

instance : DecidableEq SPrefix := fun x y => decidable_of_iff (SPrefix.eqb x y = true) (SPrefix.eqb_iff x y)

@[simp] theorem SPrefix.eqb_dec (x y : SPrefix) : SPrefix.eqb x y = decide (x = y) := by
  rw [Bool.eq_iff_iff, decide_eq_true_iff]
  exact SPrefix.eqb_iff x y

theorem SPrefix.eqb_self (x : SPrefix) : SPrefix.eqb x x = true := (SPrefix.eqb_iff x x).2 rfl

def SRoute.eqb (x y : SRoute) : Bool := SPrefix.eqb x.to_ y.to_ && (eqd x.out y.out && (true))

theorem SRoute.eqb_iff (x y : SRoute) : SRoute.eqb x y = true ↔ x = y := by
  obtain ⟨a0, a1⟩ := x
  obtain ⟨b0, b1⟩ := y
  simp only [SRoute.eqb, Bool.and_eq_true, SPrefix.eqb_iff, eqd_iff, SRoute.mk.injEq, and_true]

theorem ty50 : TyOK Tryz.prog 50 ePrefix := TyOK.mk' (by kernel_rfl) (by kernel_rfl)

theorem eqok52 : EqOK Tryz.prog 52 eRoute SRoute.eqb 5 := eqok_struct (fs := _) Tryz.underlying52 (by kernel_rfl) rfl (EqF.cons (by decide) rfl SRoute.l_to_ ty50 eqok50 (EqF.cons (by decide) rfl SRoute.l_out ty3 (fun d hd => (eqok_i Tryz.underlying3) d (by omega)) EqF.nil)) (fun _ _ => rfl)

instance : DecidableEq SRoute := fun x y => decidable_of_iff (SRoute.eqb x y = true) (SRoute.eqb_iff x y)

@[simp] theorem SRoute.eqb_dec (x y : SRoute) : SRoute.eqb x y = decide (x = y) := by
  rw [Bool.eq_iff_iff, decide_eq_true_iff]
  exact SRoute.eqb_iff x y

theorem SRoute.eqb_self (x : SRoute) : SRoute.eqb x x = true := (SRoute.eqb_iff x x).2 rfl

structure SBucket where
  num : UInt64
  den : UInt64
  burst : UInt64

def SBucket.to : (UInt64 × (UInt64 × UInt64)) → SBucket := fun x => ⟨x.1, x.2.1, x.2.2⟩

def SBucket.of : SBucket → (UInt64 × (UInt64 × UInt64)) := fun x => (x.num, x.den, x.burst)

def eBucket : Enc SBucket := isoE (prodE u64E (prodE u64E u64E)) SBucket.to SBucket.of

def SBucket.l_num : Lens eBucket u64E 0 := lIso _ SBucket.to SBucket.of (fun _ => rfl) (lFst u64E (prodE u64E u64E))

@[simp] theorem SBucket.get_num (x : SBucket) : SBucket.l_num.get x = x.num := rfl

@[simp] theorem SBucket.set_num (x : SBucket) (y : UInt64) : SBucket.l_num.set x y = { x with num := y } := rfl

def SBucket.l_den : Lens eBucket u64E 1 := lIso _ SBucket.to SBucket.of (fun _ => rfl) (Lens.comp (lSnd u64E (prodE u64E u64E)) (lFst u64E u64E))

@[simp] theorem SBucket.get_den (x : SBucket) : SBucket.l_den.get x = x.den := rfl

@[simp] theorem SBucket.set_den (x : SBucket) (y : UInt64) : SBucket.l_den.set x y = { x with den := y } := rfl

def SBucket.l_burst : Lens eBucket u64E 2 := lIso _ SBucket.to SBucket.of (fun _ => rfl) (Lens.comp (lSnd u64E (prodE u64E u64E)) (Lens.comp (lSnd u64E u64E) (Lens.id u64E)))

@[simp] theorem SBucket.get_burst (x : SBucket) : SBucket.l_burst.get x = x.burst := rfl

@[simp] theorem SBucket.set_burst (x : SBucket) (y : UInt64) : SBucket.l_burst.set x y = { x with burst := y } := rfl

structure SMeterConf where
  name : ByteArray
  bucket : SBucket

def SMeterConf.to : (ByteArray × SBucket) → SMeterConf := fun x => ⟨x.1, x.2⟩

def SMeterConf.of : SMeterConf → (ByteArray × SBucket) := fun x => (x.name, x.bucket)

def eMeterConf : Enc SMeterConf := isoE (prodE sE eBucket) SMeterConf.to SMeterConf.of

def SMeterConf.l_name : Lens eMeterConf sE 0 := lIso _ SMeterConf.to SMeterConf.of (fun _ => rfl) (lFst sE eBucket)

@[simp] theorem SMeterConf.get_name (x : SMeterConf) : SMeterConf.l_name.get x = x.name := rfl

@[simp] theorem SMeterConf.set_name (x : SMeterConf) (y : ByteArray) : SMeterConf.l_name.set x y = { x with name := y } := rfl

def SMeterConf.l_bucket : Lens eMeterConf eBucket 1 := lIso _ SMeterConf.to SMeterConf.of (fun _ => rfl) (Lens.comp (lSnd sE eBucket) (Lens.id eBucket))

@[simp] theorem SMeterConf.get_bucket (x : SMeterConf) : SMeterConf.l_bucket.get x = x.bucket := rfl

@[simp] theorem SMeterConf.set_bucket (x : SMeterConf) (y : SBucket) : SMeterConf.l_bucket.set x y = { x with bucket := y } := rfl

def SBucket.eqb (x y : SBucket) : Bool := eqd x.num y.num && (eqd x.den y.den && (eqd x.burst y.burst && (true)))

theorem SBucket.eqb_iff (x y : SBucket) : SBucket.eqb x y = true ↔ x = y := by
  obtain ⟨a0, a1, a2⟩ := x
  obtain ⟨b0, b1, b2⟩ := y
  simp only [SBucket.eqb, Bool.and_eq_true, eqd_iff, eqd_iff, eqd_iff, SBucket.mk.injEq, and_true]

theorem ty53 : TyOK Tryz.prog 53 u64E := TyOK.mk' (by kernel_rfl) (by kernel_rfl)

theorem eqok55 : EqOK Tryz.prog 55 eBucket SBucket.eqb 2 := eqok_struct (fs := _) Tryz.underlying55 (by kernel_rfl) rfl (EqF.cons (by decide) rfl SBucket.l_num ty53 (eqok_u64 Tryz.underlying53) (EqF.cons (by decide) rfl SBucket.l_den ty53 (eqok_u64 Tryz.underlying53) (EqF.cons (by decide) rfl SBucket.l_burst ty53 (eqok_u64 Tryz.underlying53) EqF.nil))) (fun _ _ => rfl)

instance : DecidableEq SBucket := fun x y => decidable_of_iff (SBucket.eqb x y = true) (SBucket.eqb_iff x y)

@[simp] theorem SBucket.eqb_dec (x y : SBucket) : SBucket.eqb x y = decide (x = y) := by
  rw [Bool.eq_iff_iff, decide_eq_true_iff]
  exact SBucket.eqb_iff x y

theorem SBucket.eqb_self (x : SBucket) : SBucket.eqb x x = true := (SBucket.eqb_iff x x).2 rfl

def SMeterConf.eqb (x y : SMeterConf) : Bool := eqs x.name y.name && (SBucket.eqb x.bucket y.bucket && (true))

theorem SMeterConf.eqb_iff (x y : SMeterConf) : SMeterConf.eqb x y = true ↔ x = y := by
  obtain ⟨a0, a1⟩ := x
  obtain ⟨b0, b1⟩ := y
  simp only [SMeterConf.eqb, Bool.and_eq_true, eqs_iff, SBucket.eqb_iff, SMeterConf.mk.injEq, and_true]

theorem ty55 : TyOK Tryz.prog 55 eBucket := TyOK.mk' (by kernel_rfl) (by kernel_rfl)

theorem ty9 : TyOK Tryz.prog 9 sE := TyOK.mk' (by kernel_rfl) (by kernel_rfl)

theorem eqok57 : EqOK Tryz.prog 57 eMeterConf SMeterConf.eqb 3 := eqok_struct (fs := _) Tryz.underlying57 (by kernel_rfl) rfl (EqF.cons (by decide) rfl SMeterConf.l_name ty9 (fun d hd => (eqok_s Tryz.underlying9) d (by omega)) (EqF.cons (by decide) rfl SMeterConf.l_bucket ty55 eqok55 EqF.nil)) (fun _ _ => rfl)

instance : DecidableEq SMeterConf := fun x y => decidable_of_iff (SMeterConf.eqb x y = true) (SMeterConf.eqb_iff x y)

@[simp] theorem SMeterConf.eqb_dec (x y : SMeterConf) : SMeterConf.eqb x y = decide (x = y) := by
  rw [Bool.eq_iff_iff, decide_eq_true_iff]
  exact SMeterConf.eqb_iff x y

theorem SMeterConf.eqb_self (x : SMeterConf) : SMeterConf.eqb x x = true := (SMeterConf.eqb_iff x x).2 rfl

structure SMirrorConf where
  name : ByteArray
  out : Int
  room : Int

def SMirrorConf.to : (ByteArray × (Int × Int)) → SMirrorConf := fun x => ⟨x.1, x.2.1, x.2.2⟩

def SMirrorConf.of : SMirrorConf → (ByteArray × (Int × Int)) := fun x => (x.name, x.out, x.room)

def eMirrorConf : Enc SMirrorConf := isoE (prodE sE (prodE iE iE)) SMirrorConf.to SMirrorConf.of

def SMirrorConf.l_name : Lens eMirrorConf sE 0 := lIso _ SMirrorConf.to SMirrorConf.of (fun _ => rfl) (lFst sE (prodE iE iE))

@[simp] theorem SMirrorConf.get_name (x : SMirrorConf) : SMirrorConf.l_name.get x = x.name := rfl

@[simp] theorem SMirrorConf.set_name (x : SMirrorConf) (y : ByteArray) : SMirrorConf.l_name.set x y = { x with name := y } := rfl

def SMirrorConf.l_out : Lens eMirrorConf iE 1 := lIso _ SMirrorConf.to SMirrorConf.of (fun _ => rfl) (Lens.comp (lSnd sE (prodE iE iE)) (lFst iE iE))

@[simp] theorem SMirrorConf.get_out (x : SMirrorConf) : SMirrorConf.l_out.get x = x.out := rfl

@[simp] theorem SMirrorConf.set_out (x : SMirrorConf) (y : Int) : SMirrorConf.l_out.set x y = { x with out := y } := rfl

def SMirrorConf.l_room : Lens eMirrorConf iE 2 := lIso _ SMirrorConf.to SMirrorConf.of (fun _ => rfl) (Lens.comp (lSnd sE (prodE iE iE)) (Lens.comp (lSnd iE iE) (Lens.id iE)))

@[simp] theorem SMirrorConf.get_room (x : SMirrorConf) : SMirrorConf.l_room.get x = x.room := rfl

@[simp] theorem SMirrorConf.set_room (x : SMirrorConf) (y : Int) : SMirrorConf.l_room.set x y = { x with room := y } := rfl

def SMirrorConf.eqb (x y : SMirrorConf) : Bool := eqs x.name y.name && (eqd x.out y.out && (eqd x.room y.room && (true)))

theorem SMirrorConf.eqb_iff (x y : SMirrorConf) : SMirrorConf.eqb x y = true ↔ x = y := by
  obtain ⟨a0, a1, a2⟩ := x
  obtain ⟨b0, b1, b2⟩ := y
  simp only [SMirrorConf.eqb, Bool.and_eq_true, eqs_iff, eqd_iff, eqd_iff, SMirrorConf.mk.injEq, and_true]

theorem eqok59 : EqOK Tryz.prog 59 eMirrorConf SMirrorConf.eqb 2 := eqok_struct (fs := _) Tryz.underlying59 (by kernel_rfl) rfl (EqF.cons (by decide) rfl SMirrorConf.l_name ty9 (eqok_s Tryz.underlying9) (EqF.cons (by decide) rfl SMirrorConf.l_out ty3 (eqok_i Tryz.underlying3) (EqF.cons (by decide) rfl SMirrorConf.l_room ty3 (eqok_i Tryz.underlying3) EqF.nil))) (fun _ _ => rfl)

instance : DecidableEq SMirrorConf := fun x y => decidable_of_iff (SMirrorConf.eqb x y = true) (SMirrorConf.eqb_iff x y)

@[simp] theorem SMirrorConf.eqb_dec (x y : SMirrorConf) : SMirrorConf.eqb x y = decide (x = y) := by
  rw [Bool.eq_iff_iff, decide_eq_true_iff]
  exact SMirrorConf.eqb_iff x y

theorem SMirrorConf.eqb_self (x : SMirrorConf) : SMirrorConf.eqb x x = true := (SMirrorConf.eqb_iff x x).2 rfl

structure SSpan where
  from_ : UInt16
  to_ : UInt16

def SSpan.to : (UInt16 × UInt16) → SSpan := fun x => ⟨x.1, x.2⟩

def SSpan.of : SSpan → (UInt16 × UInt16) := fun x => (x.from_, x.to_)

def eSpan : Enc SSpan := isoE (prodE u16E u16E) SSpan.to SSpan.of

def SSpan.l_from_ : Lens eSpan u16E 0 := lIso _ SSpan.to SSpan.of (fun _ => rfl) (lFst u16E u16E)

@[simp] theorem SSpan.get_from_ (x : SSpan) : SSpan.l_from_.get x = x.from_ := rfl

@[simp] theorem SSpan.set_from_ (x : SSpan) (y : UInt16) : SSpan.l_from_.set x y = { x with from_ := y } := rfl

def SSpan.l_to_ : Lens eSpan u16E 1 := lIso _ SSpan.to SSpan.of (fun _ => rfl) (Lens.comp (lSnd u16E u16E) (Lens.id u16E))

@[simp] theorem SSpan.get_to_ (x : SSpan) : SSpan.l_to_.get x = x.to_ := rfl

@[simp] theorem SSpan.set_to_ (x : SSpan) (y : UInt16) : SSpan.l_to_.set x y = { x with to_ := y } := rfl

structure SMatch where
  asks : UInt8
  in_ : SSpan
  src : SPrefix
  dst : SPrefix
  proto : UInt8
  srcPort : SSpan
  dstPort : SSpan

def SMatch.to : (UInt8 × (SSpan × (SPrefix × (SPrefix × (UInt8 × (SSpan × SSpan)))))) → SMatch := fun x => ⟨x.1, x.2.1, x.2.2.1, x.2.2.2.1, x.2.2.2.2.1, x.2.2.2.2.2.1, x.2.2.2.2.2.2⟩

def SMatch.of : SMatch → (UInt8 × (SSpan × (SPrefix × (SPrefix × (UInt8 × (SSpan × SSpan)))))) := fun x => (x.asks, x.in_, x.src, x.dst, x.proto, x.srcPort, x.dstPort)

def eMatch : Enc SMatch := isoE (prodE u8E (prodE eSpan (prodE ePrefix (prodE ePrefix (prodE u8E (prodE eSpan eSpan)))))) SMatch.to SMatch.of

def SMatch.l_asks : Lens eMatch u8E 0 := lIso _ SMatch.to SMatch.of (fun _ => rfl) (lFst u8E (prodE eSpan (prodE ePrefix (prodE ePrefix (prodE u8E (prodE eSpan eSpan))))))

@[simp] theorem SMatch.get_asks (x : SMatch) : SMatch.l_asks.get x = x.asks := rfl

@[simp] theorem SMatch.set_asks (x : SMatch) (y : UInt8) : SMatch.l_asks.set x y = { x with asks := y } := rfl

def SMatch.l_in_ : Lens eMatch eSpan 1 := lIso _ SMatch.to SMatch.of (fun _ => rfl) (Lens.comp (lSnd u8E (prodE eSpan (prodE ePrefix (prodE ePrefix (prodE u8E (prodE eSpan eSpan)))))) (lFst eSpan (prodE ePrefix (prodE ePrefix (prodE u8E (prodE eSpan eSpan))))))

@[simp] theorem SMatch.get_in_ (x : SMatch) : SMatch.l_in_.get x = x.in_ := rfl

@[simp] theorem SMatch.set_in_ (x : SMatch) (y : SSpan) : SMatch.l_in_.set x y = { x with in_ := y } := rfl

def SMatch.l_src : Lens eMatch ePrefix 3 := lIso _ SMatch.to SMatch.of (fun _ => rfl) (Lens.comp (lSnd u8E (prodE eSpan (prodE ePrefix (prodE ePrefix (prodE u8E (prodE eSpan eSpan)))))) (Lens.comp (lSnd eSpan (prodE ePrefix (prodE ePrefix (prodE u8E (prodE eSpan eSpan))))) (lFst ePrefix (prodE ePrefix (prodE u8E (prodE eSpan eSpan))))))

@[simp] theorem SMatch.get_src (x : SMatch) : SMatch.l_src.get x = x.src := rfl

@[simp] theorem SMatch.set_src (x : SMatch) (y : SPrefix) : SMatch.l_src.set x y = { x with src := y } := rfl

def SMatch.l_dst : Lens eMatch ePrefix 21 := lIso _ SMatch.to SMatch.of (fun _ => rfl) (Lens.comp (lSnd u8E (prodE eSpan (prodE ePrefix (prodE ePrefix (prodE u8E (prodE eSpan eSpan)))))) (Lens.comp (lSnd eSpan (prodE ePrefix (prodE ePrefix (prodE u8E (prodE eSpan eSpan))))) (Lens.comp (lSnd ePrefix (prodE ePrefix (prodE u8E (prodE eSpan eSpan)))) (lFst ePrefix (prodE u8E (prodE eSpan eSpan))))))

@[simp] theorem SMatch.get_dst (x : SMatch) : SMatch.l_dst.get x = x.dst := rfl

@[simp] theorem SMatch.set_dst (x : SMatch) (y : SPrefix) : SMatch.l_dst.set x y = { x with dst := y } := rfl

def SMatch.l_proto : Lens eMatch u8E 39 := lIso _ SMatch.to SMatch.of (fun _ => rfl) (Lens.comp (lSnd u8E (prodE eSpan (prodE ePrefix (prodE ePrefix (prodE u8E (prodE eSpan eSpan)))))) (Lens.comp (lSnd eSpan (prodE ePrefix (prodE ePrefix (prodE u8E (prodE eSpan eSpan))))) (Lens.comp (lSnd ePrefix (prodE ePrefix (prodE u8E (prodE eSpan eSpan)))) (Lens.comp (lSnd ePrefix (prodE u8E (prodE eSpan eSpan))) (lFst u8E (prodE eSpan eSpan))))))

@[simp] theorem SMatch.get_proto (x : SMatch) : SMatch.l_proto.get x = x.proto := rfl

@[simp] theorem SMatch.set_proto (x : SMatch) (y : UInt8) : SMatch.l_proto.set x y = { x with proto := y } := rfl

def SMatch.l_srcPort : Lens eMatch eSpan 40 := lIso _ SMatch.to SMatch.of (fun _ => rfl) (Lens.comp (lSnd u8E (prodE eSpan (prodE ePrefix (prodE ePrefix (prodE u8E (prodE eSpan eSpan)))))) (Lens.comp (lSnd eSpan (prodE ePrefix (prodE ePrefix (prodE u8E (prodE eSpan eSpan))))) (Lens.comp (lSnd ePrefix (prodE ePrefix (prodE u8E (prodE eSpan eSpan)))) (Lens.comp (lSnd ePrefix (prodE u8E (prodE eSpan eSpan))) (Lens.comp (lSnd u8E (prodE eSpan eSpan)) (lFst eSpan eSpan))))))

@[simp] theorem SMatch.get_srcPort (x : SMatch) : SMatch.l_srcPort.get x = x.srcPort := rfl

@[simp] theorem SMatch.set_srcPort (x : SMatch) (y : SSpan) : SMatch.l_srcPort.set x y = { x with srcPort := y } := rfl

def SMatch.l_dstPort : Lens eMatch eSpan 42 := lIso _ SMatch.to SMatch.of (fun _ => rfl) (Lens.comp (lSnd u8E (prodE eSpan (prodE ePrefix (prodE ePrefix (prodE u8E (prodE eSpan eSpan)))))) (Lens.comp (lSnd eSpan (prodE ePrefix (prodE ePrefix (prodE u8E (prodE eSpan eSpan))))) (Lens.comp (lSnd ePrefix (prodE ePrefix (prodE u8E (prodE eSpan eSpan)))) (Lens.comp (lSnd ePrefix (prodE u8E (prodE eSpan eSpan))) (Lens.comp (lSnd u8E (prodE eSpan eSpan)) (Lens.comp (lSnd eSpan eSpan) (Lens.id eSpan)))))))

@[simp] theorem SMatch.get_dstPort (x : SMatch) : SMatch.l_dstPort.get x = x.dstPort := rfl

@[simp] theorem SMatch.set_dstPort (x : SMatch) (y : SSpan) : SMatch.l_dstPort.set x y = { x with dstPort := y } := rfl

structure SRule where
  name : ByteArray
  match_ : SMatch
  action : Int
  out : Int
  meter : ByteArray
  mirror : ByteArray

def SRule.to : (ByteArray × (SMatch × (Int × (Int × (ByteArray × ByteArray))))) → SRule := fun x => ⟨x.1, x.2.1, x.2.2.1, x.2.2.2.1, x.2.2.2.2.1, x.2.2.2.2.2⟩

def SRule.of : SRule → (ByteArray × (SMatch × (Int × (Int × (ByteArray × ByteArray))))) := fun x => (x.name, x.match_, x.action, x.out, x.meter, x.mirror)

def eRule : Enc SRule := isoE (prodE sE (prodE eMatch (prodE iE (prodE iE (prodE sE sE))))) SRule.to SRule.of

def SRule.l_name : Lens eRule sE 0 := lIso _ SRule.to SRule.of (fun _ => rfl) (lFst sE (prodE eMatch (prodE iE (prodE iE (prodE sE sE)))))

@[simp] theorem SRule.get_name (x : SRule) : SRule.l_name.get x = x.name := rfl

@[simp] theorem SRule.set_name (x : SRule) (y : ByteArray) : SRule.l_name.set x y = { x with name := y } := rfl

def SRule.l_match_ : Lens eRule eMatch 1 := lIso _ SRule.to SRule.of (fun _ => rfl) (Lens.comp (lSnd sE (prodE eMatch (prodE iE (prodE iE (prodE sE sE))))) (lFst eMatch (prodE iE (prodE iE (prodE sE sE)))))

@[simp] theorem SRule.get_match_ (x : SRule) : SRule.l_match_.get x = x.match_ := rfl

@[simp] theorem SRule.set_match_ (x : SRule) (y : SMatch) : SRule.l_match_.set x y = { x with match_ := y } := rfl

def SRule.l_action : Lens eRule iE 45 := lIso _ SRule.to SRule.of (fun _ => rfl) (Lens.comp (lSnd sE (prodE eMatch (prodE iE (prodE iE (prodE sE sE))))) (Lens.comp (lSnd eMatch (prodE iE (prodE iE (prodE sE sE)))) (lFst iE (prodE iE (prodE sE sE)))))

@[simp] theorem SRule.get_action (x : SRule) : SRule.l_action.get x = x.action := rfl

@[simp] theorem SRule.set_action (x : SRule) (y : Int) : SRule.l_action.set x y = { x with action := y } := rfl

def SRule.l_out : Lens eRule iE 46 := lIso _ SRule.to SRule.of (fun _ => rfl) (Lens.comp (lSnd sE (prodE eMatch (prodE iE (prodE iE (prodE sE sE))))) (Lens.comp (lSnd eMatch (prodE iE (prodE iE (prodE sE sE)))) (Lens.comp (lSnd iE (prodE iE (prodE sE sE))) (lFst iE (prodE sE sE)))))

@[simp] theorem SRule.get_out (x : SRule) : SRule.l_out.get x = x.out := rfl

@[simp] theorem SRule.set_out (x : SRule) (y : Int) : SRule.l_out.set x y = { x with out := y } := rfl

def SRule.l_meter : Lens eRule sE 47 := lIso _ SRule.to SRule.of (fun _ => rfl) (Lens.comp (lSnd sE (prodE eMatch (prodE iE (prodE iE (prodE sE sE))))) (Lens.comp (lSnd eMatch (prodE iE (prodE iE (prodE sE sE)))) (Lens.comp (lSnd iE (prodE iE (prodE sE sE))) (Lens.comp (lSnd iE (prodE sE sE)) (lFst sE sE)))))

@[simp] theorem SRule.get_meter (x : SRule) : SRule.l_meter.get x = x.meter := rfl

@[simp] theorem SRule.set_meter (x : SRule) (y : ByteArray) : SRule.l_meter.set x y = { x with meter := y } := rfl

def SRule.l_mirror : Lens eRule sE 48 := lIso _ SRule.to SRule.of (fun _ => rfl) (Lens.comp (lSnd sE (prodE eMatch (prodE iE (prodE iE (prodE sE sE))))) (Lens.comp (lSnd eMatch (prodE iE (prodE iE (prodE sE sE)))) (Lens.comp (lSnd iE (prodE iE (prodE sE sE))) (Lens.comp (lSnd iE (prodE sE sE)) (Lens.comp (lSnd sE sE) (Lens.id sE))))))

@[simp] theorem SRule.get_mirror (x : SRule) : SRule.l_mirror.get x = x.mirror := rfl

@[simp] theorem SRule.set_mirror (x : SRule) (y : ByteArray) : SRule.l_mirror.set x y = { x with mirror := y } := rfl

def SSpan.eqb (x y : SSpan) : Bool := eqd x.from_ y.from_ && (eqd x.to_ y.to_ && (true))

theorem SSpan.eqb_iff (x y : SSpan) : SSpan.eqb x y = true ↔ x = y := by
  obtain ⟨a0, a1⟩ := x
  obtain ⟨b0, b1⟩ := y
  simp only [SSpan.eqb, Bool.and_eq_true, eqd_iff, eqd_iff, SSpan.mk.injEq, and_true]

theorem ty70 : TyOK Tryz.prog 70 u16E := TyOK.mk' (by kernel_rfl) (by kernel_rfl)

theorem eqok72 : EqOK Tryz.prog 72 eSpan SSpan.eqb 2 := eqok_struct (fs := _) Tryz.underlying72 (by kernel_rfl) rfl (EqF.cons (by decide) rfl SSpan.l_from_ ty70 (eqok_u16 Tryz.underlying70) (EqF.cons (by decide) rfl SSpan.l_to_ ty70 (eqok_u16 Tryz.underlying70) EqF.nil)) (fun _ _ => rfl)

instance : DecidableEq SSpan := fun x y => decidable_of_iff (SSpan.eqb x y = true) (SSpan.eqb_iff x y)

@[simp] theorem SSpan.eqb_dec (x y : SSpan) : SSpan.eqb x y = decide (x = y) := by
  rw [Bool.eq_iff_iff, decide_eq_true_iff]
  exact SSpan.eqb_iff x y

theorem SSpan.eqb_self (x : SSpan) : SSpan.eqb x x = true := (SSpan.eqb_iff x x).2 rfl

def SMatch.eqb (x y : SMatch) : Bool := eqd x.asks y.asks && (SSpan.eqb x.in_ y.in_ && (SPrefix.eqb x.src y.src && (SPrefix.eqb x.dst y.dst && (eqd x.proto y.proto && (SSpan.eqb x.srcPort y.srcPort && (SSpan.eqb x.dstPort y.dstPort && (true)))))))

theorem SMatch.eqb_iff (x y : SMatch) : SMatch.eqb x y = true ↔ x = y := by
  obtain ⟨a0, a1, a2, a3, a4, a5, a6⟩ := x
  obtain ⟨b0, b1, b2, b3, b4, b5, b6⟩ := y
  simp only [SMatch.eqb, Bool.and_eq_true, eqd_iff, SSpan.eqb_iff, SPrefix.eqb_iff, SPrefix.eqb_iff, eqd_iff, SSpan.eqb_iff, SSpan.eqb_iff, SMatch.mk.injEq, and_true]

theorem ty72 : TyOK Tryz.prog 72 eSpan := TyOK.mk' (by kernel_rfl) (by kernel_rfl)

theorem eqok74 : EqOK Tryz.prog 74 eMatch SMatch.eqb 5 := eqok_struct (fs := _) Tryz.underlying74 (by kernel_rfl) rfl (EqF.cons (by decide) rfl SMatch.l_asks ty5 (fun d hd => (eqok_u8 Tryz.underlying5) d (by omega)) (EqF.cons (by decide) rfl SMatch.l_in_ ty72 (fun d hd => eqok72 d (by omega)) (EqF.cons (by decide) rfl SMatch.l_src ty50 eqok50 (EqF.cons (by decide) rfl SMatch.l_dst ty50 eqok50 (EqF.cons (by decide) rfl SMatch.l_proto ty5 (fun d hd => (eqok_u8 Tryz.underlying5) d (by omega)) (EqF.cons (by decide) rfl SMatch.l_srcPort ty72 (fun d hd => eqok72 d (by omega)) (EqF.cons (by decide) rfl SMatch.l_dstPort ty72 (fun d hd => eqok72 d (by omega)) EqF.nil))))))) (fun _ _ => rfl)

instance : DecidableEq SMatch := fun x y => decidable_of_iff (SMatch.eqb x y = true) (SMatch.eqb_iff x y)

@[simp] theorem SMatch.eqb_dec (x y : SMatch) : SMatch.eqb x y = decide (x = y) := by
  rw [Bool.eq_iff_iff, decide_eq_true_iff]
  exact SMatch.eqb_iff x y

theorem SMatch.eqb_self (x : SMatch) : SMatch.eqb x x = true := (SMatch.eqb_iff x x).2 rfl

def SRule.eqb (x y : SRule) : Bool := eqs x.name y.name && (SMatch.eqb x.match_ y.match_ && (eqd x.action y.action && (eqd x.out y.out && (eqs x.meter y.meter && (eqs x.mirror y.mirror && (true))))))

theorem SRule.eqb_iff (x y : SRule) : SRule.eqb x y = true ↔ x = y := by
  obtain ⟨a0, a1, a2, a3, a4, a5⟩ := x
  obtain ⟨b0, b1, b2, b3, b4, b5⟩ := y
  simp only [SRule.eqb, Bool.and_eq_true, eqs_iff, SMatch.eqb_iff, eqd_iff, eqd_iff, eqs_iff, eqs_iff, SRule.mk.injEq, and_true]

theorem ty74 : TyOK Tryz.prog 74 eMatch := TyOK.mk' (by kernel_rfl) (by kernel_rfl)

theorem eqok76 : EqOK Tryz.prog 76 eRule SRule.eqb 6 := eqok_struct (fs := _) Tryz.underlying76 (by kernel_rfl) rfl (EqF.cons (by decide) rfl SRule.l_name ty9 (fun d hd => (eqok_s Tryz.underlying9) d (by omega)) (EqF.cons (by decide) rfl SRule.l_match_ ty74 eqok74 (EqF.cons (by decide) rfl SRule.l_action ty3 (fun d hd => (eqok_i Tryz.underlying3) d (by omega)) (EqF.cons (by decide) rfl SRule.l_out ty3 (fun d hd => (eqok_i Tryz.underlying3) d (by omega)) (EqF.cons (by decide) rfl SRule.l_meter ty9 (fun d hd => (eqok_s Tryz.underlying9) d (by omega)) (EqF.cons (by decide) rfl SRule.l_mirror ty9 (fun d hd => (eqok_s Tryz.underlying9) d (by omega)) EqF.nil)))))) (fun _ _ => rfl)

instance : DecidableEq SRule := fun x y => decidable_of_iff (SRule.eqb x y = true) (SRule.eqb_iff x y)

@[simp] theorem SRule.eqb_dec (x y : SRule) : SRule.eqb x y = decide (x = y) := by
  rw [Bool.eq_iff_iff, decide_eq_true_iff]
  exact SRule.eqb_iff x y

theorem SRule.eqb_self (x : SRule) : SRule.eqb x x = true := (SRule.eqb_iff x x).2 rfl

theorem ck48 : CkOK Tryz.prog 48 eAddr 3 := ck_struct Tryz.underlying48 rfl (CkF.cons (by decide) rfl SAddr.l_v6 ty4 ((ck_b Tryz.underlying4).up (by decide)) (CkF.cons (by decide) rfl SAddr.l_b ty46 (ck_arr Tryz.underlying46 ty5 (ck_int u8E (fun _ => rfl) Tryz.underlying5)) CkF.nil))

theorem ck50 : CkOK Tryz.prog 50 ePrefix 4 := ck_struct Tryz.underlying50 rfl (CkF.cons (by decide) rfl SPrefix.l_addr ty48 ck48 (CkF.cons (by decide) rfl SPrefix.l_bits ty3 ((ck_int iE (fun _ => rfl) Tryz.underlying3).up (by decide)) CkF.nil))

theorem ck52 : CkOK Tryz.prog 52 eRoute 5 := ck_struct Tryz.underlying52 rfl (CkF.cons (by decide) rfl SRoute.l_to_ ty50 ck50 (CkF.cons (by decide) rfl SRoute.l_out ty3 ((ck_int iE (fun _ => rfl) Tryz.underlying3).up (by decide)) CkF.nil))

theorem key52 : KeyOK Tryz.prog 52 eRoute SRoute.eqb := key_agg rfl eqok52 (by decide) ck52 (by decide) (bit_iso (bit_prod (bit_iso (bit_prod (bit_iso (bit_prod bit_b (bit_arr (bit_int u8E (fun _ => rfl))))) (bit_int iE (fun _ => rfl)))) (bit_int iE (fun _ => rfl)))) SRoute.eqb_iff

theorem ck55 : CkOK Tryz.prog 55 eBucket 2 := ck_struct Tryz.underlying55 rfl (CkF.cons (by decide) rfl SBucket.l_num ty53 (ck_int u64E (fun _ => rfl) Tryz.underlying53) (CkF.cons (by decide) rfl SBucket.l_den ty53 (ck_int u64E (fun _ => rfl) Tryz.underlying53) (CkF.cons (by decide) rfl SBucket.l_burst ty53 (ck_int u64E (fun _ => rfl) Tryz.underlying53) CkF.nil)))

theorem ck57 : CkOK Tryz.prog 57 eMeterConf 3 := ck_struct Tryz.underlying57 rfl (CkF.cons (by decide) rfl SMeterConf.l_name ty9 ((ck_s Tryz.underlying9).up (by decide)) (CkF.cons (by decide) rfl SMeterConf.l_bucket ty55 ck55 CkF.nil))

theorem key57 : KeyOK Tryz.prog 57 eMeterConf SMeterConf.eqb := key_agg rfl eqok57 (by decide) ck57 (by decide) (bit_iso (bit_prod bit_s (bit_iso (bit_prod (bit_int u64E (fun _ => rfl)) (bit_prod (bit_int u64E (fun _ => rfl)) (bit_int u64E (fun _ => rfl))))))) SMeterConf.eqb_iff

theorem ck59 : CkOK Tryz.prog 59 eMirrorConf 2 := ck_struct Tryz.underlying59 rfl (CkF.cons (by decide) rfl SMirrorConf.l_name ty9 (ck_s Tryz.underlying9) (CkF.cons (by decide) rfl SMirrorConf.l_out ty3 (ck_int iE (fun _ => rfl) Tryz.underlying3) (CkF.cons (by decide) rfl SMirrorConf.l_room ty3 (ck_int iE (fun _ => rfl) Tryz.underlying3) CkF.nil)))

theorem key59 : KeyOK Tryz.prog 59 eMirrorConf SMirrorConf.eqb := key_agg rfl eqok59 (by decide) ck59 (by decide) (bit_iso (bit_prod bit_s (bit_prod (bit_int iE (fun _ => rfl)) (bit_int iE (fun _ => rfl))))) SMirrorConf.eqb_iff

theorem key50 : KeyOK Tryz.prog 50 ePrefix SPrefix.eqb := key_agg rfl eqok50 (by decide) ck50 (by decide) (bit_iso (bit_prod (bit_iso (bit_prod bit_b (bit_arr (bit_int u8E (fun _ => rfl))))) (bit_int iE (fun _ => rfl)))) SPrefix.eqb_iff

theorem key3 : KeyOK Tryz.prog 3 iE eqd := key_i Tryz.underlying3

theorem key9 : KeyOK Tryz.prog 9 sE eqs := key_s Tryz.underlying9

/-- The place of the first of each key, of so many. -/
def firstN {α κ : Type} (q : κ → κ → Bool) (f : α → κ) (l : List α) : Nat → List (κ × Int)
  | 0 => []
  | n + 1 => match l[n]? with
    | none => firstN q f l n
    | some x => if (findV q (f x) (firstN q f l n)).isSome then firstN q f l n else putL q (f x) (n : Int) (firstN q f l n)
theorem firstN_has {α κ : Type} (q : κ → κ → Bool) (f : α → κ) (l : List α) (z : α) {n : Nat} (h : n < l.length) (hs : (findV q (f (l.getD n z)) (firstN q f l n)).isSome = true) : firstN q f l (n + 1) = firstN q f l n := by
  have e : l[n]? = some (l.getD n z) := by simp [List.getD, List.getElem?_eq_getElem h]
  rw [firstN, e]
  simp only [hs, if_true]
theorem firstN_new {α κ : Type} (q : κ → κ → Bool) (f : α → κ) (l : List α) (z : α) {n : Nat} (h : n < l.length) (hs : ¬ (findV q (f (l.getD n z)) (firstN q f l n)).isSome = true) : firstN q f l (n + 1) = putL q (f (l.getD n z)) (n : Int) (firstN q f l n) := by
  have e : l[n]? = some (l.getD n z) := by simp [List.getD, List.getElem?_eq_getElem h]
  rw [firstN, e]
  simp only [hs, Bool.false_eq_true, if_false]
theorem firstN_hasI {α κ : Type} (q : κ → κ → Bool) (f : α → κ) (l : List α) (z : α) {i : Int} (h : 0 ≤ i ∧ i < l.length) (hs : (findV q (f (l.getD i.toNat z)) (firstN q f l i.toNat)).isSome = true) : firstN q f l (i + 1).toNat = firstN q f l i.toNat := by
  have e : (i + 1).toNat = i.toNat + 1 := by omega
  rw [e]
  exact firstN_has q f l z (by omega) hs
theorem firstN_newI {α κ : Type} (q : κ → κ → Bool) (f : α → κ) (l : List α) (z : α) {i : Int} (h : 0 ≤ i ∧ i < l.length) (hs : (findV q (f (l.getD i.toNat z)) (firstN q f l i.toNat)).isSome = false) : firstN q f l (i + 1).toNat = putL q (f (l.getD i.toNat z)) i (firstN q f l i.toNat) := by
  have e : (i + 1).toNat = i.toNat + 1 := by omega
  have e2 : ((i.toNat : Nat) : Int) = i := by omega
  rw [e, firstN_new q f l z (by omega) (by rw [hs]; exact Bool.false_ne_true), e2]

theorem ty52 : TyOK Tryz.prog 52 eRoute := TyOK.mk' (by kernel_rfl) (by kernel_rfl)

theorem z52 : (Tryz.prog.info? 52).bind (·.zero) = some (eRoute.val eRoute.zero) := by kernel_rfl

theorem z3 : (Tryz.prog.info? 3).bind (·.zero) = some (iE.val iE.zero) := by kernel_rfl

theorem first_50_52 (f : Nat) (cap : List Value) (kf : SRoute → SPrefix) (u : Value) (xs : List SRoute) (w : World) (hen : Enters Tryz.prog f) (hl : IsSl eRoute w u xs) (hk : FnAt Tryz.prog f cap Nope w eRoute ePrefix (fun _ => True) kf) : Calls Tryz.prog 107 #[u, (clo f cap).v] w (RetN w (fun _ : Nat => True) (fun b => .map (some b)) (fun b => [MapR b ePrefix iE (firstN SPrefix.eqb kf xs xs.length)])) := by
  have hle := hl.le
  refine enter0 35 Tryz.func107 rfl rfl (Nat.le_of_ble_eq_true rfl) ?_
  refine seq (region (cons (opv (Ev.assign (.c (v := (Go.Value.map none)) rfl)) ?_)))
  refine nil (pN (seq (region (cons (makeMap (E := ePrefix) (V := iE) (fun b1 => ?_))))))
  refine cons (opv (Ev.assign (.t rfl)) (nil (pN (seq (seq (region (cons (opv (Ev.move (.t rfl)) (cons (opv (Ev.len Tryz.underlying23 (.t rfl) (by first | exact isSl_own (by repeat first | exact mH | apply mT | apply mA) | exact fun w I => IsSl.keep0 (by assumption) I.keeps)) ?_))))))))))
  refine cons (opv (Ev.move (.c (v := I 0) rfl)) ?_)
  refine nil (pN (block (loop (X := Int) (fun x : Int => (0 ≤ x ∧ x ≤ xs.length)) (fun x : Int => [(1, true, (clo f cap).v), (5, true, .map (some b1)), (11, true, u), (12, true, I xs.length), (13, true, I x)]) (fun x : Int => [MapR b1 ePrefix iE (firstN SPrefix.eqb kf xs x.toNat)]) (fun x : Int => ((xs.length : Int) - x).toNat) (0) ?_ (by repeat first | exact Sub.nil | refine Sub.cons rfl ?_) (by repeat first | exact sR | exact sN | apply sC | apply sS | apply sA) (fun x hx => ?_))))
  · omega
  obtain ⟨i, rfl⟩ : ∃ y, y = x := ⟨x, rfl⟩
  have hi : 0 ≤ i ∧ i ≤ xs.length := hx
  clear hx
  show Sat _ _ [(1, true, (clo f cap).v), (5, true, .map (some b1)), (11, true, u), (12, true, I xs.length), (13, true, I i)] [MapR b1 ePrefix iE (firstN SPrefix.eqb kf xs i.toNat)]
  refine seq (region (cons (opv (Ev.lss_i (.t rfl) (.t rfl)) ?_)))
  refine nil (pN (seq ?_))
  first | refine condD rfl (fun h0 => ?_) (fun h0 => ?_) | refine cond rfl (fun h0 => ?_) (fun h0 => ?_)
  · try simp only [nb] at h0
    refine skip (pN (seq (block (seq (region (cons (opv (Ev.move (.t rfl)) (cons (opv (Ev.indexAddr Tryz.underlying23 ty52 (.t rfl) (.t rfl) (fun w I => hl.keep0 I.keeps) (fun _ => by omega)) ?_)))))))))
    refine cons (opv (Ev.loadS0 ty52 (.t rfl) (fun w I => hl.keep0 I.keeps) (fun _ => by omega)) ?_)
    refine cons (alloc z52 (fun b2 => ?_))
    refine cons (opv (Ev.assign (.t rfl)) (cons (stv ty52 (Lens.id _) (.t rfl) (.t rfl) ?_)))
    refine nil (pN (seq (region (cons (opv (Ev.move (.t rfl)) (cons (opv (Ev.move (.t rfl)) (cons (opv (Ev.ldv ty52 (.t rfl) (Lens.id _)) ?_)))))))))
    refine cons (callcv (.t rfl) hen (.cons (.t rfl) .nil) (fun w I => hk.call trivial w I) ?_)
    refine cons (opv (Ev.lookupT Tryz.underlying81 Tryz.underlying50 key50 z3 (.t rfl) (.t rfl) (fun _ => (by first | exact mapAt_own (by repeat first | exact mH | apply mT | apply mA) | exact mapAt_stamp (by repeat first | exact mH | apply mT | apply mA) | exact fun w I => MapAt.keep0 (by assumption) I.keeps))) ?_)
    refine cons (opv (Ev.move (.t rfl)) (cons (opv (Ev.extract (.t rfl) rfl) (cons (opv (Ev.extract (.t rfl) rfl) (cons (opv (Ev.assign (.t rfl)) (cons (opv (Ev.assign (.t rfl)) (nil (pN (seq (region (cons (opv (Ev.move (.t rfl)) (cons (opv (Ev.not (.t rfl)) ?_)))))))))))))))))
    refine nil (pN ?_)
    first | refine condD rfl (fun h1 => ?_) (fun h1 => ?_) | refine cond rfl (fun h1 => ?_) (fun h1 => ?_)
    · try simp only [nb] at h1
      refine region (cons (opv (Ev.move (.t rfl)) (cons (opv (Ev.move (.t rfl)) (cons (opv (Ev.ldv ty52 (.t rfl) (Lens.id _)) ?_))))))
      refine cons (callcv (.t rfl) hen (.cons (.t rfl) .nil) (fun w I => hk.call trivial w I) ?_)
      refine cons (opv (Ev.move (.t rfl)) (cons (mapUpdate Tryz.underlying81 Tryz.underlying50 key50 (.t rfl) (.t rfl) (.t rfl) (by repeat first | exact Upd.head | apply Upd.tail | apply Upd.right) ?_)))
      refine nil (bN (pN (region (cons (opv (Ev.add_i (.t rfl) (.c (v := I 1) rfl) (fun _ => by omega)) ?_)))))
      refine cons (opv (Ev.move (.t rfl)) (nil (pN (next (X := Int) (i + 1) ?_ ?_ (by repeat first | exact Sub.nil | refine Sub.cons rfl ?_) (by (first | rw [firstN_hasI _ _ _ eRoute.zero (by omega) h1] | rw [firstN_newI _ _ _ eRoute.zero (by omega) h1]); exact (by repeat first | exact sR | exact sN | apply sC | apply sS | apply sA))))))
      · try dsimp only
        omega
      · try dsimp only
        first | omega | (simp; omega)
    · try simp only [nb] at h1
      refine skip (bN (pN (region (cons (opv (Ev.add_i (.t rfl) (.c (v := I 1) rfl) (fun _ => by omega)) ?_)))))
      refine cons (opv (Ev.move (.t rfl)) (nil (pN (next (X := Int) (i + 1) ?_ ?_ (by repeat first | exact Sub.nil | refine Sub.cons rfl ?_) (by (first | rw [firstN_hasI _ _ _ eRoute.zero (by omega) h1] | rw [firstN_newI _ _ _ eRoute.zero (by omega) h1]); exact (by repeat first | exact sR | exact sN | apply sC | apply sS | apply sA))))))
      · try dsimp only
        omega
      · try dsimp only
        first | omega | (simp; omega)
  · try simp only [nb] at h0
    refine exit (pX (pX (bX (pN (seq (region (cons (opv (Ev.move (.t rfl)) (cons (opv (Ev.assign (.t rfl)) (nil (pN (ret (done rfl (.tmp rfl .nil) (fun w I => ?_)))))))))))))))
    have hil : i.toNat = xs.length := by omega
    rw [hil] at I
    exact retN b1 trivial rfl (by repeat first | exact sR | exact sN | apply sC | apply sS | apply sA) w I

theorem first_3_3 (f : Nat) (cap : List Value) (kf : Int → Int) (u : Value) (xs : List Int) (w : World) (hen : Enters Tryz.prog f) (hl : IsSl iE w u xs) (hk : FnAt Tryz.prog f cap Nope w iE iE (fun _ => True) kf) : Calls Tryz.prog 105 #[u, (clo f cap).v] w (RetN w (fun _ : Nat => True) (fun b => .map (some b)) (fun b => [MapR b iE iE (firstN eqd kf xs xs.length)])) := by
  have hle := hl.le
  refine enter0 35 Tryz.func105 rfl rfl (Nat.le_of_ble_eq_true rfl) ?_
  refine seq (region (cons (opv (Ev.assign (.c (v := (Go.Value.map none)) rfl)) ?_)))
  refine nil (pN (seq (region (cons (makeMap (E := iE) (V := iE) (fun b1 => ?_))))))
  refine cons (opv (Ev.assign (.t rfl)) (nil (pN (seq (seq (region (cons (opv (Ev.move (.t rfl)) (cons (opv (Ev.len Tryz.underlying22 (.t rfl) (by first | exact isSl_own (by repeat first | exact mH | apply mT | apply mA) | exact fun w I => IsSl.keep0 (by assumption) I.keeps)) ?_))))))))))
  refine cons (opv (Ev.move (.c (v := I 0) rfl)) ?_)
  refine nil (pN (block (loop (X := Int) (fun x : Int => (0 ≤ x ∧ x ≤ xs.length)) (fun x : Int => [(1, true, (clo f cap).v), (5, true, .map (some b1)), (11, true, u), (12, true, I xs.length), (13, true, I x)]) (fun x : Int => [MapR b1 iE iE (firstN eqd kf xs x.toNat)]) (fun x : Int => ((xs.length : Int) - x).toNat) (0) ?_ (by repeat first | exact Sub.nil | refine Sub.cons rfl ?_) (by repeat first | exact sR | exact sN | apply sC | apply sS | apply sA) (fun x hx => ?_))))
  · omega
  obtain ⟨i, rfl⟩ : ∃ y, y = x := ⟨x, rfl⟩
  have hi : 0 ≤ i ∧ i ≤ xs.length := hx
  clear hx
  show Sat _ _ [(1, true, (clo f cap).v), (5, true, .map (some b1)), (11, true, u), (12, true, I xs.length), (13, true, I i)] [MapR b1 iE iE (firstN eqd kf xs i.toNat)]
  refine seq (region (cons (opv (Ev.lss_i (.t rfl) (.t rfl)) ?_)))
  refine nil (pN (seq ?_))
  first | refine condD rfl (fun h0 => ?_) (fun h0 => ?_) | refine cond rfl (fun h0 => ?_) (fun h0 => ?_)
  · try simp only [nb] at h0
    refine skip (pN (seq (block (seq (region (cons (opv (Ev.move (.t rfl)) (cons (opv (Ev.indexAddr Tryz.underlying22 ty3 (.t rfl) (.t rfl) (fun w I => hl.keep0 I.keeps) (fun _ => by omega)) ?_)))))))))
    refine cons (opv (Ev.loadS0 ty3 (.t rfl) (fun w I => hl.keep0 I.keeps) (fun _ => by omega)) ?_)
    refine cons (opv (Ev.assign (.t rfl)) (cons (opv (Ev.assign (.t rfl)) (nil (pN (seq (region (cons (opv (Ev.move (.t rfl)) (cons (opv (Ev.move (.t rfl)) (cons (opv (Ev.move (.t rfl)) (cons (callcv (.t rfl) hen (.cons (.t rfl) .nil) (fun w I => hk.call trivial w I) ?_)))))))))))))))
    refine cons (opv (Ev.lookupT Tryz.underlying80 Tryz.underlying3 key3 z3 (.t rfl) (.t rfl) (fun _ => (by first | exact mapAt_own (by repeat first | exact mH | apply mT | apply mA) | exact mapAt_stamp (by repeat first | exact mH | apply mT | apply mA) | exact fun w I => MapAt.keep0 (by assumption) I.keeps))) ?_)
    refine cons (opv (Ev.move (.t rfl)) (cons (opv (Ev.extract (.t rfl) rfl) (cons (opv (Ev.extract (.t rfl) rfl) (cons (opv (Ev.assign (.t rfl)) (cons (opv (Ev.assign (.t rfl)) (nil (pN (seq (region (cons (opv (Ev.move (.t rfl)) (cons (opv (Ev.not (.t rfl)) ?_)))))))))))))))))
    refine nil (pN ?_)
    first | refine condD rfl (fun h1 => ?_) (fun h1 => ?_) | refine cond rfl (fun h1 => ?_) (fun h1 => ?_)
    · try simp only [nb] at h1
      refine region (cons (opv (Ev.move (.t rfl)) (cons (opv (Ev.move (.t rfl)) (cons (opv (Ev.move (.t rfl)) (cons (callcv (.t rfl) hen (.cons (.t rfl) .nil) (fun w I => hk.call trivial w I) ?_))))))))
      refine cons (opv (Ev.move (.t rfl)) (cons (mapUpdate Tryz.underlying80 Tryz.underlying3 key3 (.t rfl) (.t rfl) (.t rfl) (by repeat first | exact Upd.head | apply Upd.tail | apply Upd.right) ?_)))
      refine nil (bN (pN (region (cons (opv (Ev.add_i (.t rfl) (.c (v := I 1) rfl) (fun _ => by omega)) ?_)))))
      refine cons (opv (Ev.move (.t rfl)) (nil (pN (next (X := Int) (i + 1) ?_ ?_ (by repeat first | exact Sub.nil | refine Sub.cons rfl ?_) (by (first | rw [firstN_hasI _ _ _ iE.zero (by omega) h1] | rw [firstN_newI _ _ _ iE.zero (by omega) h1]); exact (by repeat first | exact sR | exact sN | apply sC | apply sS | apply sA))))))
      · try dsimp only
        omega
      · try dsimp only
        first | omega | (simp; omega)
    · try simp only [nb] at h1
      refine skip (bN (pN (region (cons (opv (Ev.add_i (.t rfl) (.c (v := I 1) rfl) (fun _ => by omega)) ?_)))))
      refine cons (opv (Ev.move (.t rfl)) (nil (pN (next (X := Int) (i + 1) ?_ ?_ (by repeat first | exact Sub.nil | refine Sub.cons rfl ?_) (by (first | rw [firstN_hasI _ _ _ iE.zero (by omega) h1] | rw [firstN_newI _ _ _ iE.zero (by omega) h1]); exact (by repeat first | exact sR | exact sN | apply sC | apply sS | apply sA))))))
      · try dsimp only
        omega
      · try dsimp only
        first | omega | (simp; omega)
  · try simp only [nb] at h0
    refine exit (pX (pX (bX (pN (seq (region (cons (opv (Ev.move (.t rfl)) (cons (opv (Ev.assign (.t rfl)) (nil (pN (ret (done rfl (.tmp rfl .nil) (fun w I => ?_)))))))))))))))
    have hil : i.toNat = xs.length := by omega
    rw [hil] at I
    exact retN b1 trivial rfl (by repeat first | exact sR | exact sN | apply sC | apply sS | apply sA) w I

theorem ty76 : TyOK Tryz.prog 76 eRule := TyOK.mk' (by kernel_rfl) (by kernel_rfl)

theorem z76 : (Tryz.prog.info? 76).bind (·.zero) = some (eRule.val eRule.zero) := by kernel_rfl

theorem first_9_76 (f : Nat) (cap : List Value) (kf : SRule → ByteArray) (u : Value) (xs : List SRule) (w : World) (hen : Enters Tryz.prog f) (hl : IsSl eRule w u xs) (hk : FnAt Tryz.prog f cap Nope w eRule sE (fun _ => True) kf) : Calls Tryz.prog 97 #[u, (clo f cap).v] w (RetN w (fun _ : Nat => True) (fun b => .map (some b)) (fun b => [MapR b sE iE (firstN eqs kf xs xs.length)])) := by
  have hle := hl.le
  refine enter0 35 Tryz.func97 rfl rfl (Nat.le_of_ble_eq_true rfl) ?_
  refine seq (region (cons (opv (Ev.assign (.c (v := (Go.Value.map none)) rfl)) ?_)))
  refine nil (pN (seq (region (cons (makeMap (E := sE) (V := iE) (fun b1 => ?_))))))
  refine cons (opv (Ev.assign (.t rfl)) (nil (pN (seq (seq (region (cons (opv (Ev.move (.t rfl)) (cons (opv (Ev.len Tryz.underlying24 (.t rfl) (by first | exact isSl_own (by repeat first | exact mH | apply mT | apply mA) | exact fun w I => IsSl.keep0 (by assumption) I.keeps)) ?_))))))))))
  refine cons (opv (Ev.move (.c (v := I 0) rfl)) ?_)
  refine nil (pN (block (loop (X := Int) (fun x : Int => (0 ≤ x ∧ x ≤ xs.length)) (fun x : Int => [(1, true, (clo f cap).v), (5, true, .map (some b1)), (11, true, u), (12, true, I xs.length), (13, true, I x)]) (fun x : Int => [MapR b1 sE iE (firstN eqs kf xs x.toNat)]) (fun x : Int => ((xs.length : Int) - x).toNat) (0) ?_ (by repeat first | exact Sub.nil | refine Sub.cons rfl ?_) (by repeat first | exact sR | exact sN | apply sC | apply sS | apply sA) (fun x hx => ?_))))
  · omega
  obtain ⟨i, rfl⟩ : ∃ y, y = x := ⟨x, rfl⟩
  have hi : 0 ≤ i ∧ i ≤ xs.length := hx
  clear hx
  show Sat _ _ [(1, true, (clo f cap).v), (5, true, .map (some b1)), (11, true, u), (12, true, I xs.length), (13, true, I i)] [MapR b1 sE iE (firstN eqs kf xs i.toNat)]
  refine seq (region (cons (opv (Ev.lss_i (.t rfl) (.t rfl)) ?_)))
  refine nil (pN (seq ?_))
  first | refine condD rfl (fun h0 => ?_) (fun h0 => ?_) | refine cond rfl (fun h0 => ?_) (fun h0 => ?_)
  · try simp only [nb] at h0
    refine skip (pN (seq (block (seq (region (cons (opv (Ev.move (.t rfl)) (cons (opv (Ev.indexAddr Tryz.underlying24 ty76 (.t rfl) (.t rfl) (fun w I => hl.keep0 I.keeps) (fun _ => by omega)) ?_)))))))))
    refine cons (opv (Ev.loadS0 ty76 (.t rfl) (fun w I => hl.keep0 I.keeps) (fun _ => by omega)) ?_)
    refine cons (alloc z76 (fun b2 => ?_))
    refine cons (opv (Ev.assign (.t rfl)) (cons (stv ty76 (Lens.id _) (.t rfl) (.t rfl) ?_)))
    refine nil (pN (seq (region (cons (opv (Ev.move (.t rfl)) (cons (opv (Ev.move (.t rfl)) (cons (opv (Ev.ldv ty76 (.t rfl) (Lens.id _)) ?_)))))))))
    refine cons (callcv (.t rfl) hen (.cons (.t rfl) .nil) (fun w I => hk.call trivial w I) ?_)
    refine cons (opv (Ev.lookupT Tryz.underlying82 Tryz.underlying9 key9 z3 (.t rfl) (.t rfl) (fun _ => (by first | exact mapAt_own (by repeat first | exact mH | apply mT | apply mA) | exact mapAt_stamp (by repeat first | exact mH | apply mT | apply mA) | exact fun w I => MapAt.keep0 (by assumption) I.keeps))) ?_)
    refine cons (opv (Ev.move (.t rfl)) (cons (opv (Ev.extract (.t rfl) rfl) (cons (opv (Ev.extract (.t rfl) rfl) (cons (opv (Ev.assign (.t rfl)) (cons (opv (Ev.assign (.t rfl)) (nil (pN (seq (region (cons (opv (Ev.move (.t rfl)) (cons (opv (Ev.not (.t rfl)) ?_)))))))))))))))))
    refine nil (pN ?_)
    first | refine condD rfl (fun h1 => ?_) (fun h1 => ?_) | refine cond rfl (fun h1 => ?_) (fun h1 => ?_)
    · try simp only [nb] at h1
      refine region (cons (opv (Ev.move (.t rfl)) (cons (opv (Ev.move (.t rfl)) (cons (opv (Ev.ldv ty76 (.t rfl) (Lens.id _)) ?_))))))
      refine cons (callcv (.t rfl) hen (.cons (.t rfl) .nil) (fun w I => hk.call trivial w I) ?_)
      refine cons (opv (Ev.move (.t rfl)) (cons (mapUpdate Tryz.underlying82 Tryz.underlying9 key9 (.t rfl) (.t rfl) (.t rfl) (by repeat first | exact Upd.head | apply Upd.tail | apply Upd.right) ?_)))
      refine nil (bN (pN (region (cons (opv (Ev.add_i (.t rfl) (.c (v := I 1) rfl) (fun _ => by omega)) ?_)))))
      refine cons (opv (Ev.move (.t rfl)) (nil (pN (next (X := Int) (i + 1) ?_ ?_ (by repeat first | exact Sub.nil | refine Sub.cons rfl ?_) (by (first | rw [firstN_hasI _ _ _ eRule.zero (by omega) h1] | rw [firstN_newI _ _ _ eRule.zero (by omega) h1]); exact (by repeat first | exact sR | exact sN | apply sC | apply sS | apply sA))))))
      · try dsimp only
        omega
      · try dsimp only
        first | omega | (simp; omega)
    · try simp only [nb] at h1
      refine skip (bN (pN (region (cons (opv (Ev.add_i (.t rfl) (.c (v := I 1) rfl) (fun _ => by omega)) ?_)))))
      refine cons (opv (Ev.move (.t rfl)) (nil (pN (next (X := Int) (i + 1) ?_ ?_ (by repeat first | exact Sub.nil | refine Sub.cons rfl ?_) (by (first | rw [firstN_hasI _ _ _ eRule.zero (by omega) h1] | rw [firstN_newI _ _ _ eRule.zero (by omega) h1]); exact (by repeat first | exact sR | exact sN | apply sC | apply sS | apply sA))))))
      · try dsimp only
        omega
      · try dsimp only
        first | omega | (simp; omega)
  · try simp only [nb] at h0
    refine exit (pX (pX (bX (pN (seq (region (cons (opv (Ev.move (.t rfl)) (cons (opv (Ev.assign (.t rfl)) (nil (pN (ret (done rfl (.tmp rfl .nil) (fun w I => ?_)))))))))))))))
    have hil : i.toNat = xs.length := by omega
    rw [hil] at I
    exact retN b1 trivial rfl (by repeat first | exact sR | exact sN | apply sC | apply sS | apply sA) w I

theorem ty57 : TyOK Tryz.prog 57 eMeterConf := TyOK.mk' (by kernel_rfl) (by kernel_rfl)

theorem z57 : (Tryz.prog.info? 57).bind (·.zero) = some (eMeterConf.val eMeterConf.zero) := by kernel_rfl

theorem first_9_57 (f : Nat) (cap : List Value) (kf : SMeterConf → ByteArray) (u : Value) (xs : List SMeterConf) (w : World) (hen : Enters Tryz.prog f) (hl : IsSl eMeterConf w u xs) (hk : FnAt Tryz.prog f cap Nope w eMeterConf sE (fun _ => True) kf) : Calls Tryz.prog 110 #[u, (clo f cap).v] w (RetN w (fun _ : Nat => True) (fun b => .map (some b)) (fun b => [MapR b sE iE (firstN eqs kf xs xs.length)])) := by
  have hle := hl.le
  refine enter0 35 Tryz.func110 rfl rfl (Nat.le_of_ble_eq_true rfl) ?_
  refine seq (region (cons (opv (Ev.assign (.c (v := (Go.Value.map none)) rfl)) ?_)))
  refine nil (pN (seq (region (cons (makeMap (E := sE) (V := iE) (fun b1 => ?_))))))
  refine cons (opv (Ev.assign (.t rfl)) (nil (pN (seq (seq (region (cons (opv (Ev.move (.t rfl)) (cons (opv (Ev.len Tryz.underlying25 (.t rfl) (by first | exact isSl_own (by repeat first | exact mH | apply mT | apply mA) | exact fun w I => IsSl.keep0 (by assumption) I.keeps)) ?_))))))))))
  refine cons (opv (Ev.move (.c (v := I 0) rfl)) ?_)
  refine nil (pN (block (loop (X := Int) (fun x : Int => (0 ≤ x ∧ x ≤ xs.length)) (fun x : Int => [(1, true, (clo f cap).v), (5, true, .map (some b1)), (11, true, u), (12, true, I xs.length), (13, true, I x)]) (fun x : Int => [MapR b1 sE iE (firstN eqs kf xs x.toNat)]) (fun x : Int => ((xs.length : Int) - x).toNat) (0) ?_ (by repeat first | exact Sub.nil | refine Sub.cons rfl ?_) (by repeat first | exact sR | exact sN | apply sC | apply sS | apply sA) (fun x hx => ?_))))
  · omega
  obtain ⟨i, rfl⟩ : ∃ y, y = x := ⟨x, rfl⟩
  have hi : 0 ≤ i ∧ i ≤ xs.length := hx
  clear hx
  show Sat _ _ [(1, true, (clo f cap).v), (5, true, .map (some b1)), (11, true, u), (12, true, I xs.length), (13, true, I i)] [MapR b1 sE iE (firstN eqs kf xs i.toNat)]
  refine seq (region (cons (opv (Ev.lss_i (.t rfl) (.t rfl)) ?_)))
  refine nil (pN (seq ?_))
  first | refine condD rfl (fun h0 => ?_) (fun h0 => ?_) | refine cond rfl (fun h0 => ?_) (fun h0 => ?_)
  · try simp only [nb] at h0
    refine skip (pN (seq (block (seq (region (cons (opv (Ev.move (.t rfl)) (cons (opv (Ev.indexAddr Tryz.underlying25 ty57 (.t rfl) (.t rfl) (fun w I => hl.keep0 I.keeps) (fun _ => by omega)) ?_)))))))))
    refine cons (opv (Ev.loadS0 ty57 (.t rfl) (fun w I => hl.keep0 I.keeps) (fun _ => by omega)) ?_)
    refine cons (alloc z57 (fun b2 => ?_))
    refine cons (opv (Ev.assign (.t rfl)) (cons (stv ty57 (Lens.id _) (.t rfl) (.t rfl) ?_)))
    refine nil (pN (seq (region (cons (opv (Ev.move (.t rfl)) (cons (opv (Ev.move (.t rfl)) (cons (opv (Ev.ldv ty57 (.t rfl) (Lens.id _)) ?_)))))))))
    refine cons (callcv (.t rfl) hen (.cons (.t rfl) .nil) (fun w I => hk.call trivial w I) ?_)
    refine cons (opv (Ev.lookupT Tryz.underlying82 Tryz.underlying9 key9 z3 (.t rfl) (.t rfl) (fun _ => (by first | exact mapAt_own (by repeat first | exact mH | apply mT | apply mA) | exact mapAt_stamp (by repeat first | exact mH | apply mT | apply mA) | exact fun w I => MapAt.keep0 (by assumption) I.keeps))) ?_)
    refine cons (opv (Ev.move (.t rfl)) (cons (opv (Ev.extract (.t rfl) rfl) (cons (opv (Ev.extract (.t rfl) rfl) (cons (opv (Ev.assign (.t rfl)) (cons (opv (Ev.assign (.t rfl)) (nil (pN (seq (region (cons (opv (Ev.move (.t rfl)) (cons (opv (Ev.not (.t rfl)) ?_)))))))))))))))))
    refine nil (pN ?_)
    first | refine condD rfl (fun h1 => ?_) (fun h1 => ?_) | refine cond rfl (fun h1 => ?_) (fun h1 => ?_)
    · try simp only [nb] at h1
      refine region (cons (opv (Ev.move (.t rfl)) (cons (opv (Ev.move (.t rfl)) (cons (opv (Ev.ldv ty57 (.t rfl) (Lens.id _)) ?_))))))
      refine cons (callcv (.t rfl) hen (.cons (.t rfl) .nil) (fun w I => hk.call trivial w I) ?_)
      refine cons (opv (Ev.move (.t rfl)) (cons (mapUpdate Tryz.underlying82 Tryz.underlying9 key9 (.t rfl) (.t rfl) (.t rfl) (by repeat first | exact Upd.head | apply Upd.tail | apply Upd.right) ?_)))
      refine nil (bN (pN (region (cons (opv (Ev.add_i (.t rfl) (.c (v := I 1) rfl) (fun _ => by omega)) ?_)))))
      refine cons (opv (Ev.move (.t rfl)) (nil (pN (next (X := Int) (i + 1) ?_ ?_ (by repeat first | exact Sub.nil | refine Sub.cons rfl ?_) (by (first | rw [firstN_hasI _ _ _ eMeterConf.zero (by omega) h1] | rw [firstN_newI _ _ _ eMeterConf.zero (by omega) h1]); exact (by repeat first | exact sR | exact sN | apply sC | apply sS | apply sA))))))
      · try dsimp only
        omega
      · try dsimp only
        first | omega | (simp; omega)
    · try simp only [nb] at h1
      refine skip (bN (pN (region (cons (opv (Ev.add_i (.t rfl) (.c (v := I 1) rfl) (fun _ => by omega)) ?_)))))
      refine cons (opv (Ev.move (.t rfl)) (nil (pN (next (X := Int) (i + 1) ?_ ?_ (by repeat first | exact Sub.nil | refine Sub.cons rfl ?_) (by (first | rw [firstN_hasI _ _ _ eMeterConf.zero (by omega) h1] | rw [firstN_newI _ _ _ eMeterConf.zero (by omega) h1]); exact (by repeat first | exact sR | exact sN | apply sC | apply sS | apply sA))))))
      · try dsimp only
        omega
      · try dsimp only
        first | omega | (simp; omega)
  · try simp only [nb] at h0
    refine exit (pX (pX (bX (pN (seq (region (cons (opv (Ev.move (.t rfl)) (cons (opv (Ev.assign (.t rfl)) (nil (pN (ret (done rfl (.tmp rfl .nil) (fun w I => ?_)))))))))))))))
    have hil : i.toNat = xs.length := by omega
    rw [hil] at I
    exact retN b1 trivial rfl (by repeat first | exact sR | exact sN | apply sC | apply sS | apply sA) w I

theorem ty59 : TyOK Tryz.prog 59 eMirrorConf := TyOK.mk' (by kernel_rfl) (by kernel_rfl)

theorem z59 : (Tryz.prog.info? 59).bind (·.zero) = some (eMirrorConf.val eMirrorConf.zero) := by kernel_rfl

theorem first_9_59 (f : Nat) (cap : List Value) (kf : SMirrorConf → ByteArray) (u : Value) (xs : List SMirrorConf) (w : World) (hen : Enters Tryz.prog f) (hl : IsSl eMirrorConf w u xs) (hk : FnAt Tryz.prog f cap Nope w eMirrorConf sE (fun _ => True) kf) : Calls Tryz.prog 112 #[u, (clo f cap).v] w (RetN w (fun _ : Nat => True) (fun b => .map (some b)) (fun b => [MapR b sE iE (firstN eqs kf xs xs.length)])) := by
  have hle := hl.le
  refine enter0 35 Tryz.func112 rfl rfl (Nat.le_of_ble_eq_true rfl) ?_
  refine seq (region (cons (opv (Ev.assign (.c (v := (Go.Value.map none)) rfl)) ?_)))
  refine nil (pN (seq (region (cons (makeMap (E := sE) (V := iE) (fun b1 => ?_))))))
  refine cons (opv (Ev.assign (.t rfl)) (nil (pN (seq (seq (region (cons (opv (Ev.move (.t rfl)) (cons (opv (Ev.len Tryz.underlying26 (.t rfl) (by first | exact isSl_own (by repeat first | exact mH | apply mT | apply mA) | exact fun w I => IsSl.keep0 (by assumption) I.keeps)) ?_))))))))))
  refine cons (opv (Ev.move (.c (v := I 0) rfl)) ?_)
  refine nil (pN (block (loop (X := Int) (fun x : Int => (0 ≤ x ∧ x ≤ xs.length)) (fun x : Int => [(1, true, (clo f cap).v), (5, true, .map (some b1)), (11, true, u), (12, true, I xs.length), (13, true, I x)]) (fun x : Int => [MapR b1 sE iE (firstN eqs kf xs x.toNat)]) (fun x : Int => ((xs.length : Int) - x).toNat) (0) ?_ (by repeat first | exact Sub.nil | refine Sub.cons rfl ?_) (by repeat first | exact sR | exact sN | apply sC | apply sS | apply sA) (fun x hx => ?_))))
  · omega
  obtain ⟨i, rfl⟩ : ∃ y, y = x := ⟨x, rfl⟩
  have hi : 0 ≤ i ∧ i ≤ xs.length := hx
  clear hx
  show Sat _ _ [(1, true, (clo f cap).v), (5, true, .map (some b1)), (11, true, u), (12, true, I xs.length), (13, true, I i)] [MapR b1 sE iE (firstN eqs kf xs i.toNat)]
  refine seq (region (cons (opv (Ev.lss_i (.t rfl) (.t rfl)) ?_)))
  refine nil (pN (seq ?_))
  first | refine condD rfl (fun h0 => ?_) (fun h0 => ?_) | refine cond rfl (fun h0 => ?_) (fun h0 => ?_)
  · try simp only [nb] at h0
    refine skip (pN (seq (block (seq (region (cons (opv (Ev.move (.t rfl)) (cons (opv (Ev.indexAddr Tryz.underlying26 ty59 (.t rfl) (.t rfl) (fun w I => hl.keep0 I.keeps) (fun _ => by omega)) ?_)))))))))
    refine cons (opv (Ev.loadS0 ty59 (.t rfl) (fun w I => hl.keep0 I.keeps) (fun _ => by omega)) ?_)
    refine cons (alloc z59 (fun b2 => ?_))
    refine cons (opv (Ev.assign (.t rfl)) (cons (stv ty59 (Lens.id _) (.t rfl) (.t rfl) ?_)))
    refine nil (pN (seq (region (cons (opv (Ev.move (.t rfl)) (cons (opv (Ev.move (.t rfl)) (cons (opv (Ev.ldv ty59 (.t rfl) (Lens.id _)) ?_)))))))))
    refine cons (callcv (.t rfl) hen (.cons (.t rfl) .nil) (fun w I => hk.call trivial w I) ?_)
    refine cons (opv (Ev.lookupT Tryz.underlying82 Tryz.underlying9 key9 z3 (.t rfl) (.t rfl) (fun _ => (by first | exact mapAt_own (by repeat first | exact mH | apply mT | apply mA) | exact mapAt_stamp (by repeat first | exact mH | apply mT | apply mA) | exact fun w I => MapAt.keep0 (by assumption) I.keeps))) ?_)
    refine cons (opv (Ev.move (.t rfl)) (cons (opv (Ev.extract (.t rfl) rfl) (cons (opv (Ev.extract (.t rfl) rfl) (cons (opv (Ev.assign (.t rfl)) (cons (opv (Ev.assign (.t rfl)) (nil (pN (seq (region (cons (opv (Ev.move (.t rfl)) (cons (opv (Ev.not (.t rfl)) ?_)))))))))))))))))
    refine nil (pN ?_)
    first | refine condD rfl (fun h1 => ?_) (fun h1 => ?_) | refine cond rfl (fun h1 => ?_) (fun h1 => ?_)
    · try simp only [nb] at h1
      refine region (cons (opv (Ev.move (.t rfl)) (cons (opv (Ev.move (.t rfl)) (cons (opv (Ev.ldv ty59 (.t rfl) (Lens.id _)) ?_))))))
      refine cons (callcv (.t rfl) hen (.cons (.t rfl) .nil) (fun w I => hk.call trivial w I) ?_)
      refine cons (opv (Ev.move (.t rfl)) (cons (mapUpdate Tryz.underlying82 Tryz.underlying9 key9 (.t rfl) (.t rfl) (.t rfl) (by repeat first | exact Upd.head | apply Upd.tail | apply Upd.right) ?_)))
      refine nil (bN (pN (region (cons (opv (Ev.add_i (.t rfl) (.c (v := I 1) rfl) (fun _ => by omega)) ?_)))))
      refine cons (opv (Ev.move (.t rfl)) (nil (pN (next (X := Int) (i + 1) ?_ ?_ (by repeat first | exact Sub.nil | refine Sub.cons rfl ?_) (by (first | rw [firstN_hasI _ _ _ eMirrorConf.zero (by omega) h1] | rw [firstN_newI _ _ _ eMirrorConf.zero (by omega) h1]); exact (by repeat first | exact sR | exact sN | apply sC | apply sS | apply sA))))))
      · try dsimp only
        omega
      · try dsimp only
        first | omega | (simp; omega)
    · try simp only [nb] at h1
      refine skip (bN (pN (region (cons (opv (Ev.add_i (.t rfl) (.c (v := I 1) rfl) (fun _ => by omega)) ?_)))))
      refine cons (opv (Ev.move (.t rfl)) (nil (pN (next (X := Int) (i + 1) ?_ ?_ (by repeat first | exact Sub.nil | refine Sub.cons rfl ?_) (by (first | rw [firstN_hasI _ _ _ eMirrorConf.zero (by omega) h1] | rw [firstN_newI _ _ _ eMirrorConf.zero (by omega) h1]); exact (by repeat first | exact sR | exact sN | apply sC | apply sS | apply sA))))))
      · try dsimp only
        omega
      · try dsimp only
        first | omega | (simp; omega)
  · try simp only [nb] at h0
    refine exit (pX (pX (bX (pN (seq (region (cons (opv (Ev.move (.t rfl)) (cons (opv (Ev.assign (.t rfl)) (nil (pN (ret (done rfl (.tmp rfl .nil) (fun w I => ?_)))))))))))))))
    have hil : i.toNat = xs.length := by omega
    rw [hil] at I
    exact retN b1 trivial rfl (by repeat first | exact sR | exact sN | apply sC | apply sS | apply sA) w I

theorem first_57_57 (f : Nat) (cap : List Value) (kf : SMeterConf → SMeterConf) (u : Value) (xs : List SMeterConf) (w : World) (hen : Enters Tryz.prog f) (hl : IsSl eMeterConf w u xs) (hk : FnAt Tryz.prog f cap Nope w eMeterConf eMeterConf (fun _ => True) kf) : Calls Tryz.prog 68 #[u, (clo f cap).v] w (RetN w (fun _ : Nat => True) (fun b => .map (some b)) (fun b => [MapR b eMeterConf iE (firstN SMeterConf.eqb kf xs xs.length)])) := by
  have hle := hl.le
  refine enter0 35 Tryz.func68 rfl rfl (Nat.le_of_ble_eq_true rfl) ?_
  refine seq (region (cons (opv (Ev.assign (.c (v := (Go.Value.map none)) rfl)) ?_)))
  refine nil (pN (seq (region (cons (makeMap (E := eMeterConf) (V := iE) (fun b1 => ?_))))))
  refine cons (opv (Ev.assign (.t rfl)) (nil (pN (seq (seq (region (cons (opv (Ev.move (.t rfl)) (cons (opv (Ev.len Tryz.underlying25 (.t rfl) (by first | exact isSl_own (by repeat first | exact mH | apply mT | apply mA) | exact fun w I => IsSl.keep0 (by assumption) I.keeps)) ?_))))))))))
  refine cons (opv (Ev.move (.c (v := I 0) rfl)) ?_)
  refine nil (pN (block (loop (X := Int) (fun x : Int => (0 ≤ x ∧ x ≤ xs.length)) (fun x : Int => [(1, true, (clo f cap).v), (5, true, .map (some b1)), (11, true, u), (12, true, I xs.length), (13, true, I x)]) (fun x : Int => [MapR b1 eMeterConf iE (firstN SMeterConf.eqb kf xs x.toNat)]) (fun x : Int => ((xs.length : Int) - x).toNat) (0) ?_ (by repeat first | exact Sub.nil | refine Sub.cons rfl ?_) (by repeat first | exact sR | exact sN | apply sC | apply sS | apply sA) (fun x hx => ?_))))
  · omega
  obtain ⟨i, rfl⟩ : ∃ y, y = x := ⟨x, rfl⟩
  have hi : 0 ≤ i ∧ i ≤ xs.length := hx
  clear hx
  show Sat _ _ [(1, true, (clo f cap).v), (5, true, .map (some b1)), (11, true, u), (12, true, I xs.length), (13, true, I i)] [MapR b1 eMeterConf iE (firstN SMeterConf.eqb kf xs i.toNat)]
  refine seq (region (cons (opv (Ev.lss_i (.t rfl) (.t rfl)) ?_)))
  refine nil (pN (seq ?_))
  first | refine condD rfl (fun h0 => ?_) (fun h0 => ?_) | refine cond rfl (fun h0 => ?_) (fun h0 => ?_)
  · try simp only [nb] at h0
    refine skip (pN (seq (block (seq (region (cons (opv (Ev.move (.t rfl)) (cons (opv (Ev.indexAddr Tryz.underlying25 ty57 (.t rfl) (.t rfl) (fun w I => hl.keep0 I.keeps) (fun _ => by omega)) ?_)))))))))
    refine cons (opv (Ev.loadS0 ty57 (.t rfl) (fun w I => hl.keep0 I.keeps) (fun _ => by omega)) ?_)
    refine cons (alloc z57 (fun b2 => ?_))
    refine cons (opv (Ev.assign (.t rfl)) (cons (stv ty57 (Lens.id _) (.t rfl) (.t rfl) ?_)))
    refine nil (pN (seq (region (cons (opv (Ev.move (.t rfl)) (cons (opv (Ev.move (.t rfl)) (cons (opv (Ev.ldv ty57 (.t rfl) (Lens.id _)) ?_)))))))))
    refine cons (callcv (.t rfl) hen (.cons (.t rfl) .nil) (fun w I => hk.call trivial w I) ?_)
    refine cons (opv (Ev.lookupT Tryz.underlying118 Tryz.underlying57 key57 z3 (.t rfl) (.t rfl) (fun _ => (by first | exact mapAt_own (by repeat first | exact mH | apply mT | apply mA) | exact mapAt_stamp (by repeat first | exact mH | apply mT | apply mA) | exact fun w I => MapAt.keep0 (by assumption) I.keeps))) ?_)
    refine cons (opv (Ev.move (.t rfl)) (cons (opv (Ev.extract (.t rfl) rfl) (cons (opv (Ev.extract (.t rfl) rfl) (cons (opv (Ev.assign (.t rfl)) (cons (opv (Ev.assign (.t rfl)) (nil (pN (seq (region (cons (opv (Ev.move (.t rfl)) (cons (opv (Ev.not (.t rfl)) ?_)))))))))))))))))
    refine nil (pN ?_)
    first | refine condD rfl (fun h1 => ?_) (fun h1 => ?_) | refine cond rfl (fun h1 => ?_) (fun h1 => ?_)
    · try simp only [nb] at h1
      refine region (cons (opv (Ev.move (.t rfl)) (cons (opv (Ev.move (.t rfl)) (cons (opv (Ev.ldv ty57 (.t rfl) (Lens.id _)) ?_))))))
      refine cons (callcv (.t rfl) hen (.cons (.t rfl) .nil) (fun w I => hk.call trivial w I) ?_)
      refine cons (opv (Ev.move (.t rfl)) (cons (mapUpdate Tryz.underlying118 Tryz.underlying57 key57 (.t rfl) (.t rfl) (.t rfl) (by repeat first | exact Upd.head | apply Upd.tail | apply Upd.right) ?_)))
      refine nil (bN (pN (region (cons (opv (Ev.add_i (.t rfl) (.c (v := I 1) rfl) (fun _ => by omega)) ?_)))))
      refine cons (opv (Ev.move (.t rfl)) (nil (pN (next (X := Int) (i + 1) ?_ ?_ (by repeat first | exact Sub.nil | refine Sub.cons rfl ?_) (by (first | rw [firstN_hasI _ _ _ eMeterConf.zero (by omega) h1] | rw [firstN_newI _ _ _ eMeterConf.zero (by omega) h1]); exact (by repeat first | exact sR | exact sN | apply sC | apply sS | apply sA))))))
      · try dsimp only
        omega
      · try dsimp only
        first | omega | (simp; omega)
    · try simp only [nb] at h1
      refine skip (bN (pN (region (cons (opv (Ev.add_i (.t rfl) (.c (v := I 1) rfl) (fun _ => by omega)) ?_)))))
      refine cons (opv (Ev.move (.t rfl)) (nil (pN (next (X := Int) (i + 1) ?_ ?_ (by repeat first | exact Sub.nil | refine Sub.cons rfl ?_) (by (first | rw [firstN_hasI _ _ _ eMeterConf.zero (by omega) h1] | rw [firstN_newI _ _ _ eMeterConf.zero (by omega) h1]); exact (by repeat first | exact sR | exact sN | apply sC | apply sS | apply sA))))))
      · try dsimp only
        omega
      · try dsimp only
        first | omega | (simp; omega)
  · try simp only [nb] at h0
    refine exit (pX (pX (bX (pN (seq (region (cons (opv (Ev.move (.t rfl)) (cons (opv (Ev.assign (.t rfl)) (nil (pN (ret (done rfl (.tmp rfl .nil) (fun w I => ?_)))))))))))))))
    have hil : i.toNat = xs.length := by omega
    rw [hil] at I
    exact retN b1 trivial rfl (by repeat first | exact sR | exact sN | apply sC | apply sS | apply sA) w I

theorem first_59_59 (f : Nat) (cap : List Value) (kf : SMirrorConf → SMirrorConf) (u : Value) (xs : List SMirrorConf) (w : World) (hen : Enters Tryz.prog f) (hl : IsSl eMirrorConf w u xs) (hk : FnAt Tryz.prog f cap Nope w eMirrorConf eMirrorConf (fun _ => True) kf) : Calls Tryz.prog 72 #[u, (clo f cap).v] w (RetN w (fun _ : Nat => True) (fun b => .map (some b)) (fun b => [MapR b eMirrorConf iE (firstN SMirrorConf.eqb kf xs xs.length)])) := by
  have hle := hl.le
  refine enter0 35 Tryz.func72 rfl rfl (Nat.le_of_ble_eq_true rfl) ?_
  refine seq (region (cons (opv (Ev.assign (.c (v := (Go.Value.map none)) rfl)) ?_)))
  refine nil (pN (seq (region (cons (makeMap (E := eMirrorConf) (V := iE) (fun b1 => ?_))))))
  refine cons (opv (Ev.assign (.t rfl)) (nil (pN (seq (seq (region (cons (opv (Ev.move (.t rfl)) (cons (opv (Ev.len Tryz.underlying26 (.t rfl) (by first | exact isSl_own (by repeat first | exact mH | apply mT | apply mA) | exact fun w I => IsSl.keep0 (by assumption) I.keeps)) ?_))))))))))
  refine cons (opv (Ev.move (.c (v := I 0) rfl)) ?_)
  refine nil (pN (block (loop (X := Int) (fun x : Int => (0 ≤ x ∧ x ≤ xs.length)) (fun x : Int => [(1, true, (clo f cap).v), (5, true, .map (some b1)), (11, true, u), (12, true, I xs.length), (13, true, I x)]) (fun x : Int => [MapR b1 eMirrorConf iE (firstN SMirrorConf.eqb kf xs x.toNat)]) (fun x : Int => ((xs.length : Int) - x).toNat) (0) ?_ (by repeat first | exact Sub.nil | refine Sub.cons rfl ?_) (by repeat first | exact sR | exact sN | apply sC | apply sS | apply sA) (fun x hx => ?_))))
  · omega
  obtain ⟨i, rfl⟩ : ∃ y, y = x := ⟨x, rfl⟩
  have hi : 0 ≤ i ∧ i ≤ xs.length := hx
  clear hx
  show Sat _ _ [(1, true, (clo f cap).v), (5, true, .map (some b1)), (11, true, u), (12, true, I xs.length), (13, true, I i)] [MapR b1 eMirrorConf iE (firstN SMirrorConf.eqb kf xs i.toNat)]
  refine seq (region (cons (opv (Ev.lss_i (.t rfl) (.t rfl)) ?_)))
  refine nil (pN (seq ?_))
  first | refine condD rfl (fun h0 => ?_) (fun h0 => ?_) | refine cond rfl (fun h0 => ?_) (fun h0 => ?_)
  · try simp only [nb] at h0
    refine skip (pN (seq (block (seq (region (cons (opv (Ev.move (.t rfl)) (cons (opv (Ev.indexAddr Tryz.underlying26 ty59 (.t rfl) (.t rfl) (fun w I => hl.keep0 I.keeps) (fun _ => by omega)) ?_)))))))))
    refine cons (opv (Ev.loadS0 ty59 (.t rfl) (fun w I => hl.keep0 I.keeps) (fun _ => by omega)) ?_)
    refine cons (alloc z59 (fun b2 => ?_))
    refine cons (opv (Ev.assign (.t rfl)) (cons (stv ty59 (Lens.id _) (.t rfl) (.t rfl) ?_)))
    refine nil (pN (seq (region (cons (opv (Ev.move (.t rfl)) (cons (opv (Ev.move (.t rfl)) (cons (opv (Ev.ldv ty59 (.t rfl) (Lens.id _)) ?_)))))))))
    refine cons (callcv (.t rfl) hen (.cons (.t rfl) .nil) (fun w I => hk.call trivial w I) ?_)
    refine cons (opv (Ev.lookupT Tryz.underlying123 Tryz.underlying59 key59 z3 (.t rfl) (.t rfl) (fun _ => (by first | exact mapAt_own (by repeat first | exact mH | apply mT | apply mA) | exact mapAt_stamp (by repeat first | exact mH | apply mT | apply mA) | exact fun w I => MapAt.keep0 (by assumption) I.keeps))) ?_)
    refine cons (opv (Ev.move (.t rfl)) (cons (opv (Ev.extract (.t rfl) rfl) (cons (opv (Ev.extract (.t rfl) rfl) (cons (opv (Ev.assign (.t rfl)) (cons (opv (Ev.assign (.t rfl)) (nil (pN (seq (region (cons (opv (Ev.move (.t rfl)) (cons (opv (Ev.not (.t rfl)) ?_)))))))))))))))))
    refine nil (pN ?_)
    first | refine condD rfl (fun h1 => ?_) (fun h1 => ?_) | refine cond rfl (fun h1 => ?_) (fun h1 => ?_)
    · try simp only [nb] at h1
      refine region (cons (opv (Ev.move (.t rfl)) (cons (opv (Ev.move (.t rfl)) (cons (opv (Ev.ldv ty59 (.t rfl) (Lens.id _)) ?_))))))
      refine cons (callcv (.t rfl) hen (.cons (.t rfl) .nil) (fun w I => hk.call trivial w I) ?_)
      refine cons (opv (Ev.move (.t rfl)) (cons (mapUpdate Tryz.underlying123 Tryz.underlying59 key59 (.t rfl) (.t rfl) (.t rfl) (by repeat first | exact Upd.head | apply Upd.tail | apply Upd.right) ?_)))
      refine nil (bN (pN (region (cons (opv (Ev.add_i (.t rfl) (.c (v := I 1) rfl) (fun _ => by omega)) ?_)))))
      refine cons (opv (Ev.move (.t rfl)) (nil (pN (next (X := Int) (i + 1) ?_ ?_ (by repeat first | exact Sub.nil | refine Sub.cons rfl ?_) (by (first | rw [firstN_hasI _ _ _ eMirrorConf.zero (by omega) h1] | rw [firstN_newI _ _ _ eMirrorConf.zero (by omega) h1]); exact (by repeat first | exact sR | exact sN | apply sC | apply sS | apply sA))))))
      · try dsimp only
        omega
      · try dsimp only
        first | omega | (simp; omega)
    · try simp only [nb] at h1
      refine skip (bN (pN (region (cons (opv (Ev.add_i (.t rfl) (.c (v := I 1) rfl) (fun _ => by omega)) ?_)))))
      refine cons (opv (Ev.move (.t rfl)) (nil (pN (next (X := Int) (i + 1) ?_ ?_ (by repeat first | exact Sub.nil | refine Sub.cons rfl ?_) (by (first | rw [firstN_hasI _ _ _ eMirrorConf.zero (by omega) h1] | rw [firstN_newI _ _ _ eMirrorConf.zero (by omega) h1]); exact (by repeat first | exact sR | exact sN | apply sC | apply sS | apply sA))))))
      · try dsimp only
        omega
      · try dsimp only
        first | omega | (simp; omega)
  · try simp only [nb] at h0
    refine exit (pX (pX (bX (pN (seq (region (cons (opv (Ev.move (.t rfl)) (cons (opv (Ev.assign (.t rfl)) (nil (pN (ret (done rfl (.tmp rfl .nil) (fun w I => ?_)))))))))))))))
    have hil : i.toNat = xs.length := by omega
    rw [hil] at I
    exact retN b1 trivial rfl (by repeat first | exact sR | exact sN | apply sC | apply sS | apply sA) w I

theorem first_52_52 (f : Nat) (cap : List Value) (kf : SRoute → SRoute) (u : Value) (xs : List SRoute) (w : World) (hen : Enters Tryz.prog f) (hl : IsSl eRoute w u xs) (hk : FnAt Tryz.prog f cap Nope w eRoute eRoute (fun _ => True) kf) : Calls Tryz.prog 76 #[u, (clo f cap).v] w (RetN w (fun _ : Nat => True) (fun b => .map (some b)) (fun b => [MapR b eRoute iE (firstN SRoute.eqb kf xs xs.length)])) := by
  have hle := hl.le
  refine enter0 35 Tryz.func76 rfl rfl (Nat.le_of_ble_eq_true rfl) ?_
  refine seq (region (cons (opv (Ev.assign (.c (v := (Go.Value.map none)) rfl)) ?_)))
  refine nil (pN (seq (region (cons (makeMap (E := eRoute) (V := iE) (fun b1 => ?_))))))
  refine cons (opv (Ev.assign (.t rfl)) (nil (pN (seq (seq (region (cons (opv (Ev.move (.t rfl)) (cons (opv (Ev.len Tryz.underlying23 (.t rfl) (by first | exact isSl_own (by repeat first | exact mH | apply mT | apply mA) | exact fun w I => IsSl.keep0 (by assumption) I.keeps)) ?_))))))))))
  refine cons (opv (Ev.move (.c (v := I 0) rfl)) ?_)
  refine nil (pN (block (loop (X := Int) (fun x : Int => (0 ≤ x ∧ x ≤ xs.length)) (fun x : Int => [(1, true, (clo f cap).v), (5, true, .map (some b1)), (11, true, u), (12, true, I xs.length), (13, true, I x)]) (fun x : Int => [MapR b1 eRoute iE (firstN SRoute.eqb kf xs x.toNat)]) (fun x : Int => ((xs.length : Int) - x).toNat) (0) ?_ (by repeat first | exact Sub.nil | refine Sub.cons rfl ?_) (by repeat first | exact sR | exact sN | apply sC | apply sS | apply sA) (fun x hx => ?_))))
  · omega
  obtain ⟨i, rfl⟩ : ∃ y, y = x := ⟨x, rfl⟩
  have hi : 0 ≤ i ∧ i ≤ xs.length := hx
  clear hx
  show Sat _ _ [(1, true, (clo f cap).v), (5, true, .map (some b1)), (11, true, u), (12, true, I xs.length), (13, true, I i)] [MapR b1 eRoute iE (firstN SRoute.eqb kf xs i.toNat)]
  refine seq (region (cons (opv (Ev.lss_i (.t rfl) (.t rfl)) ?_)))
  refine nil (pN (seq ?_))
  first | refine condD rfl (fun h0 => ?_) (fun h0 => ?_) | refine cond rfl (fun h0 => ?_) (fun h0 => ?_)
  · try simp only [nb] at h0
    refine skip (pN (seq (block (seq (region (cons (opv (Ev.move (.t rfl)) (cons (opv (Ev.indexAddr Tryz.underlying23 ty52 (.t rfl) (.t rfl) (fun w I => hl.keep0 I.keeps) (fun _ => by omega)) ?_)))))))))
    refine cons (opv (Ev.loadS0 ty52 (.t rfl) (fun w I => hl.keep0 I.keeps) (fun _ => by omega)) ?_)
    refine cons (alloc z52 (fun b2 => ?_))
    refine cons (opv (Ev.assign (.t rfl)) (cons (stv ty52 (Lens.id _) (.t rfl) (.t rfl) ?_)))
    refine nil (pN (seq (region (cons (opv (Ev.move (.t rfl)) (cons (opv (Ev.move (.t rfl)) (cons (opv (Ev.ldv ty52 (.t rfl) (Lens.id _)) ?_)))))))))
    refine cons (callcv (.t rfl) hen (.cons (.t rfl) .nil) (fun w I => hk.call trivial w I) ?_)
    refine cons (opv (Ev.lookupT Tryz.underlying128 Tryz.underlying52 key52 z3 (.t rfl) (.t rfl) (fun _ => (by first | exact mapAt_own (by repeat first | exact mH | apply mT | apply mA) | exact mapAt_stamp (by repeat first | exact mH | apply mT | apply mA) | exact fun w I => MapAt.keep0 (by assumption) I.keeps))) ?_)
    refine cons (opv (Ev.move (.t rfl)) (cons (opv (Ev.extract (.t rfl) rfl) (cons (opv (Ev.extract (.t rfl) rfl) (cons (opv (Ev.assign (.t rfl)) (cons (opv (Ev.assign (.t rfl)) (nil (pN (seq (region (cons (opv (Ev.move (.t rfl)) (cons (opv (Ev.not (.t rfl)) ?_)))))))))))))))))
    refine nil (pN ?_)
    first | refine condD rfl (fun h1 => ?_) (fun h1 => ?_) | refine cond rfl (fun h1 => ?_) (fun h1 => ?_)
    · try simp only [nb] at h1
      refine region (cons (opv (Ev.move (.t rfl)) (cons (opv (Ev.move (.t rfl)) (cons (opv (Ev.ldv ty52 (.t rfl) (Lens.id _)) ?_))))))
      refine cons (callcv (.t rfl) hen (.cons (.t rfl) .nil) (fun w I => hk.call trivial w I) ?_)
      refine cons (opv (Ev.move (.t rfl)) (cons (mapUpdate Tryz.underlying128 Tryz.underlying52 key52 (.t rfl) (.t rfl) (.t rfl) (by repeat first | exact Upd.head | apply Upd.tail | apply Upd.right) ?_)))
      refine nil (bN (pN (region (cons (opv (Ev.add_i (.t rfl) (.c (v := I 1) rfl) (fun _ => by omega)) ?_)))))
      refine cons (opv (Ev.move (.t rfl)) (nil (pN (next (X := Int) (i + 1) ?_ ?_ (by repeat first | exact Sub.nil | refine Sub.cons rfl ?_) (by (first | rw [firstN_hasI _ _ _ eRoute.zero (by omega) h1] | rw [firstN_newI _ _ _ eRoute.zero (by omega) h1]); exact (by repeat first | exact sR | exact sN | apply sC | apply sS | apply sA))))))
      · try dsimp only
        omega
      · try dsimp only
        first | omega | (simp; omega)
    · try simp only [nb] at h1
      refine skip (bN (pN (region (cons (opv (Ev.add_i (.t rfl) (.c (v := I 1) rfl) (fun _ => by omega)) ?_)))))
      refine cons (opv (Ev.move (.t rfl)) (nil (pN (next (X := Int) (i + 1) ?_ ?_ (by repeat first | exact Sub.nil | refine Sub.cons rfl ?_) (by (first | rw [firstN_hasI _ _ _ eRoute.zero (by omega) h1] | rw [firstN_newI _ _ _ eRoute.zero (by omega) h1]); exact (by repeat first | exact sR | exact sN | apply sC | apply sS | apply sA))))))
      · try dsimp only
        omega
      · try dsimp only
        first | omega | (simp; omega)
  · try simp only [nb] at h0
    refine exit (pX (pX (bX (pN (seq (region (cons (opv (Ev.move (.t rfl)) (cons (opv (Ev.assign (.t rfl)) (nil (pN (ret (done rfl (.tmp rfl .nil) (fun w I => ?_)))))))))))))))
    have hil : i.toNat = xs.length := by omega
    rw [hil] at I
    exact retN b1 trivial rfl (by repeat first | exact sR | exact sN | apply sC | apply sS | apply sA) w I
end Go.Proofs.YtnoobdijbpmjkaaGreat
