/- test -/
import Derived.Test.YtpdanbpipabboaaRows
import Derived.Test.YtpdanbpipabboaaGxE
set_option linter.unusedVariables false
set_option linter.unusedSimpArgs false
namespace Go.Proofs.Ytpdanbpipabboaa
open Go Go.Gx

structure SAddr where
  v6 : Bool
  b : (Vector UInt8 16)

def SAddr.to : (Bool × (Vector UInt8 16)) → SAddr := fun x => ⟨x.1, x.2⟩

def SAddr.of : SAddr → (Bool × (Vector UInt8 16)) := fun x => (x.v6, x.b)

def eAddr : Enc SAddr := isoE (prodE bE (arrE 16 u8E)) SAddr.to SAddr.of

def SAddr.l_v6 : Lens eAddr bE 0 := lIso _ SAddr.to SAddr.of (fun _ => rfl) (lFst bE (arrE 16 u8E))

@[simp] theorem SAddr.get_v6 (x : SAddr) : SAddr.l_v6.get x = x.v6 := rfl

@[simp] theorem SAddr.set_v6 (x : SAddr) (y : Bool) : SAddr.l_v6.set x y = { x with v6 := y } := rfl

def SAddr.l_b : Lens eAddr (arrE 16 u8E) 1 := lIso _ SAddr.to SAddr.of (fun _ => rfl) (Lens.comp (lSnd bE (arrE 16 u8E)) (Lens.id (arrE 16 u8E)))

@[simp] theorem SAddr.get_b (x : SAddr) : SAddr.l_b.get x = x.b := rfl

@[simp] theorem SAddr.set_b (x : SAddr) (y : (Vector UInt8 16)) : SAddr.l_b.set x y = { x with b := y } := rfl

structure SKey where
  src : SAddr
  dst : SAddr
  proto : UInt8
  srcPort : UInt16
  dstPort : UInt16

def SKey.to : (SAddr × (SAddr × (UInt8 × (UInt16 × UInt16)))) → SKey := fun x => ⟨x.1, x.2.1, x.2.2.1, x.2.2.2.1, x.2.2.2.2⟩

def SKey.of : SKey → (SAddr × (SAddr × (UInt8 × (UInt16 × UInt16)))) := fun x => (x.src, x.dst, x.proto, x.srcPort, x.dstPort)

def eKey : Enc SKey := isoE (prodE eAddr (prodE eAddr (prodE u8E (prodE u16E u16E)))) SKey.to SKey.of

def SKey.l_src : Lens eKey eAddr 0 := lIso _ SKey.to SKey.of (fun _ => rfl) (lFst eAddr (prodE eAddr (prodE u8E (prodE u16E u16E))))

@[simp] theorem SKey.get_src (x : SKey) : SKey.l_src.get x = x.src := rfl

@[simp] theorem SKey.set_src (x : SKey) (y : SAddr) : SKey.l_src.set x y = { x with src := y } := rfl

def SKey.l_dst : Lens eKey eAddr 17 := lIso _ SKey.to SKey.of (fun _ => rfl) (Lens.comp (lSnd eAddr (prodE eAddr (prodE u8E (prodE u16E u16E)))) (lFst eAddr (prodE u8E (prodE u16E u16E))))

@[simp] theorem SKey.get_dst (x : SKey) : SKey.l_dst.get x = x.dst := rfl

@[simp] theorem SKey.set_dst (x : SKey) (y : SAddr) : SKey.l_dst.set x y = { x with dst := y } := rfl

def SKey.l_proto : Lens eKey u8E 34 := lIso _ SKey.to SKey.of (fun _ => rfl) (Lens.comp (lSnd eAddr (prodE eAddr (prodE u8E (prodE u16E u16E)))) (Lens.comp (lSnd eAddr (prodE u8E (prodE u16E u16E))) (lFst u8E (prodE u16E u16E))))

@[simp] theorem SKey.get_proto (x : SKey) : SKey.l_proto.get x = x.proto := rfl

@[simp] theorem SKey.set_proto (x : SKey) (y : UInt8) : SKey.l_proto.set x y = { x with proto := y } := rfl

def SKey.l_srcPort : Lens eKey u16E 35 := lIso _ SKey.to SKey.of (fun _ => rfl) (Lens.comp (lSnd eAddr (prodE eAddr (prodE u8E (prodE u16E u16E)))) (Lens.comp (lSnd eAddr (prodE u8E (prodE u16E u16E))) (Lens.comp (lSnd u8E (prodE u16E u16E)) (lFst u16E u16E))))

@[simp] theorem SKey.get_srcPort (x : SKey) : SKey.l_srcPort.get x = x.srcPort := rfl

@[simp] theorem SKey.set_srcPort (x : SKey) (y : UInt16) : SKey.l_srcPort.set x y = { x with srcPort := y } := rfl

def SKey.l_dstPort : Lens eKey u16E 36 := lIso _ SKey.to SKey.of (fun _ => rfl) (Lens.comp (lSnd eAddr (prodE eAddr (prodE u8E (prodE u16E u16E)))) (Lens.comp (lSnd eAddr (prodE u8E (prodE u16E u16E))) (Lens.comp (lSnd u8E (prodE u16E u16E)) (Lens.comp (lSnd u16E u16E) (Lens.id u16E)))))

@[simp] theorem SKey.get_dstPort (x : SKey) : SKey.l_dstPort.get x = x.dstPort := rfl

@[simp] theorem SKey.set_dstPort (x : SKey) (y : UInt16) : SKey.l_dstPort.set x y = { x with dstPort := y } := rfl

structure SHeader where
  src : SAddr
  dst : SAddr
  proto : UInt8
  srcPort : UInt16
  dstPort : UInt16
  tTL : UInt8
  class_ : UInt8
  id : UInt32
  flags : UInt8
  seq : UInt32
  data : OV

def SHeader.to : (SAddr × (SAddr × (UInt8 × (UInt16 × (UInt16 × (UInt8 × (UInt8 × (UInt32 × (UInt8 × (UInt32 × OV)))))))))) → SHeader := fun x => ⟨x.1, x.2.1, x.2.2.1, x.2.2.2.1, x.2.2.2.2.1, x.2.2.2.2.2.1, x.2.2.2.2.2.2.1, x.2.2.2.2.2.2.2.1, x.2.2.2.2.2.2.2.2.1, x.2.2.2.2.2.2.2.2.2.1, x.2.2.2.2.2.2.2.2.2.2⟩

def SHeader.of : SHeader → (SAddr × (SAddr × (UInt8 × (UInt16 × (UInt16 × (UInt8 × (UInt8 × (UInt32 × (UInt8 × (UInt32 × OV)))))))))) := fun x => (x.src, x.dst, x.proto, x.srcPort, x.dstPort, x.tTL, x.class_, x.id, x.flags, x.seq, x.data)

def eHeader : Enc SHeader := isoE (prodE eAddr (prodE eAddr (prodE u8E (prodE u16E (prodE u16E (prodE u8E (prodE u8E (prodE u32E (prodE u8E (prodE u32E (ovE nilSl))))))))))) SHeader.to SHeader.of

def SHeader.l_src : Lens eHeader eAddr 0 := lIso _ SHeader.to SHeader.of (fun _ => rfl) (lFst eAddr (prodE eAddr (prodE u8E (prodE u16E (prodE u16E (prodE u8E (prodE u8E (prodE u32E (prodE u8E (prodE u32E (ovE nilSl)))))))))))

@[simp] theorem SHeader.get_src (x : SHeader) : SHeader.l_src.get x = x.src := rfl

@[simp] theorem SHeader.set_src (x : SHeader) (y : SAddr) : SHeader.l_src.set x y = { x with src := y } := rfl

def SHeader.l_dst : Lens eHeader eAddr 17 := lIso _ SHeader.to SHeader.of (fun _ => rfl) (Lens.comp (lSnd eAddr (prodE eAddr (prodE u8E (prodE u16E (prodE u16E (prodE u8E (prodE u8E (prodE u32E (prodE u8E (prodE u32E (ovE nilSl))))))))))) (lFst eAddr (prodE u8E (prodE u16E (prodE u16E (prodE u8E (prodE u8E (prodE u32E (prodE u8E (prodE u32E (ovE nilSl)))))))))))

@[simp] theorem SHeader.get_dst (x : SHeader) : SHeader.l_dst.get x = x.dst := rfl

@[simp] theorem SHeader.set_dst (x : SHeader) (y : SAddr) : SHeader.l_dst.set x y = { x with dst := y } := rfl

def SHeader.l_proto : Lens eHeader u8E 34 := lIso _ SHeader.to SHeader.of (fun _ => rfl) (Lens.comp (lSnd eAddr (prodE eAddr (prodE u8E (prodE u16E (prodE u16E (prodE u8E (prodE u8E (prodE u32E (prodE u8E (prodE u32E (ovE nilSl))))))))))) (Lens.comp (lSnd eAddr (prodE u8E (prodE u16E (prodE u16E (prodE u8E (prodE u8E (prodE u32E (prodE u8E (prodE u32E (ovE nilSl)))))))))) (lFst u8E (prodE u16E (prodE u16E (prodE u8E (prodE u8E (prodE u32E (prodE u8E (prodE u32E (ovE nilSl)))))))))))

@[simp] theorem SHeader.get_proto (x : SHeader) : SHeader.l_proto.get x = x.proto := rfl

@[simp] theorem SHeader.set_proto (x : SHeader) (y : UInt8) : SHeader.l_proto.set x y = { x with proto := y } := rfl

def SHeader.l_srcPort : Lens eHeader u16E 35 := lIso _ SHeader.to SHeader.of (fun _ => rfl) (Lens.comp (lSnd eAddr (prodE eAddr (prodE u8E (prodE u16E (prodE u16E (prodE u8E (prodE u8E (prodE u32E (prodE u8E (prodE u32E (ovE nilSl))))))))))) (Lens.comp (lSnd eAddr (prodE u8E (prodE u16E (prodE u16E (prodE u8E (prodE u8E (prodE u32E (prodE u8E (prodE u32E (ovE nilSl)))))))))) (Lens.comp (lSnd u8E (prodE u16E (prodE u16E (prodE u8E (prodE u8E (prodE u32E (prodE u8E (prodE u32E (ovE nilSl))))))))) (lFst u16E (prodE u16E (prodE u8E (prodE u8E (prodE u32E (prodE u8E (prodE u32E (ovE nilSl)))))))))))

@[simp] theorem SHeader.get_srcPort (x : SHeader) : SHeader.l_srcPort.get x = x.srcPort := rfl

@[simp] theorem SHeader.set_srcPort (x : SHeader) (y : UInt16) : SHeader.l_srcPort.set x y = { x with srcPort := y } := rfl

def SHeader.l_dstPort : Lens eHeader u16E 36 := lIso _ SHeader.to SHeader.of (fun _ => rfl) (Lens.comp (lSnd eAddr (prodE eAddr (prodE u8E (prodE u16E (prodE u16E (prodE u8E (prodE u8E (prodE u32E (prodE u8E (prodE u32E (ovE nilSl))))))))))) (Lens.comp (lSnd eAddr (prodE u8E (prodE u16E (prodE u16E (prodE u8E (prodE u8E (prodE u32E (prodE u8E (prodE u32E (ovE nilSl)))))))))) (Lens.comp (lSnd u8E (prodE u16E (prodE u16E (prodE u8E (prodE u8E (prodE u32E (prodE u8E (prodE u32E (ovE nilSl))))))))) (Lens.comp (lSnd u16E (prodE u16E (prodE u8E (prodE u8E (prodE u32E (prodE u8E (prodE u32E (ovE nilSl)))))))) (lFst u16E (prodE u8E (prodE u8E (prodE u32E (prodE u8E (prodE u32E (ovE nilSl)))))))))))

@[simp] theorem SHeader.get_dstPort (x : SHeader) : SHeader.l_dstPort.get x = x.dstPort := rfl

@[simp] theorem SHeader.set_dstPort (x : SHeader) (y : UInt16) : SHeader.l_dstPort.set x y = { x with dstPort := y } := rfl

def SHeader.l_tTL : Lens eHeader u8E 37 := lIso _ SHeader.to SHeader.of (fun _ => rfl) (Lens.comp (lSnd eAddr (prodE eAddr (prodE u8E (prodE u16E (prodE u16E (prodE u8E (prodE u8E (prodE u32E (prodE u8E (prodE u32E (ovE nilSl))))))))))) (Lens.comp (lSnd eAddr (prodE u8E (prodE u16E (prodE u16E (prodE u8E (prodE u8E (prodE u32E (prodE u8E (prodE u32E (ovE nilSl)))))))))) (Lens.comp (lSnd u8E (prodE u16E (prodE u16E (prodE u8E (prodE u8E (prodE u32E (prodE u8E (prodE u32E (ovE nilSl))))))))) (Lens.comp (lSnd u16E (prodE u16E (prodE u8E (prodE u8E (prodE u32E (prodE u8E (prodE u32E (ovE nilSl)))))))) (Lens.comp (lSnd u16E (prodE u8E (prodE u8E (prodE u32E (prodE u8E (prodE u32E (ovE nilSl))))))) (lFst u8E (prodE u8E (prodE u32E (prodE u8E (prodE u32E (ovE nilSl)))))))))))

@[simp] theorem SHeader.get_tTL (x : SHeader) : SHeader.l_tTL.get x = x.tTL := rfl

@[simp] theorem SHeader.set_tTL (x : SHeader) (y : UInt8) : SHeader.l_tTL.set x y = { x with tTL := y } := rfl

def SHeader.l_class_ : Lens eHeader u8E 38 := lIso _ SHeader.to SHeader.of (fun _ => rfl) (Lens.comp (lSnd eAddr (prodE eAddr (prodE u8E (prodE u16E (prodE u16E (prodE u8E (prodE u8E (prodE u32E (prodE u8E (prodE u32E (ovE nilSl))))))))))) (Lens.comp (lSnd eAddr (prodE u8E (prodE u16E (prodE u16E (prodE u8E (prodE u8E (prodE u32E (prodE u8E (prodE u32E (ovE nilSl)))))))))) (Lens.comp (lSnd u8E (prodE u16E (prodE u16E (prodE u8E (prodE u8E (prodE u32E (prodE u8E (prodE u32E (ovE nilSl))))))))) (Lens.comp (lSnd u16E (prodE u16E (prodE u8E (prodE u8E (prodE u32E (prodE u8E (prodE u32E (ovE nilSl)))))))) (Lens.comp (lSnd u16E (prodE u8E (prodE u8E (prodE u32E (prodE u8E (prodE u32E (ovE nilSl))))))) (Lens.comp (lSnd u8E (prodE u8E (prodE u32E (prodE u8E (prodE u32E (ovE nilSl)))))) (lFst u8E (prodE u32E (prodE u8E (prodE u32E (ovE nilSl)))))))))))

@[simp] theorem SHeader.get_class_ (x : SHeader) : SHeader.l_class_.get x = x.class_ := rfl

@[simp] theorem SHeader.set_class_ (x : SHeader) (y : UInt8) : SHeader.l_class_.set x y = { x with class_ := y } := rfl

def SHeader.l_id : Lens eHeader u32E 39 := lIso _ SHeader.to SHeader.of (fun _ => rfl) (Lens.comp (lSnd eAddr (prodE eAddr (prodE u8E (prodE u16E (prodE u16E (prodE u8E (prodE u8E (prodE u32E (prodE u8E (prodE u32E (ovE nilSl))))))))))) (Lens.comp (lSnd eAddr (prodE u8E (prodE u16E (prodE u16E (prodE u8E (prodE u8E (prodE u32E (prodE u8E (prodE u32E (ovE nilSl)))))))))) (Lens.comp (lSnd u8E (prodE u16E (prodE u16E (prodE u8E (prodE u8E (prodE u32E (prodE u8E (prodE u32E (ovE nilSl))))))))) (Lens.comp (lSnd u16E (prodE u16E (prodE u8E (prodE u8E (prodE u32E (prodE u8E (prodE u32E (ovE nilSl)))))))) (Lens.comp (lSnd u16E (prodE u8E (prodE u8E (prodE u32E (prodE u8E (prodE u32E (ovE nilSl))))))) (Lens.comp (lSnd u8E (prodE u8E (prodE u32E (prodE u8E (prodE u32E (ovE nilSl)))))) (Lens.comp (lSnd u8E (prodE u32E (prodE u8E (prodE u32E (ovE nilSl))))) (lFst u32E (prodE u8E (prodE u32E (ovE nilSl)))))))))))

@[simp] theorem SHeader.get_id (x : SHeader) : SHeader.l_id.get x = x.id := rfl

@[simp] theorem SHeader.set_id (x : SHeader) (y : UInt32) : SHeader.l_id.set x y = { x with id := y } := rfl

def SHeader.l_flags : Lens eHeader u8E 40 := lIso _ SHeader.to SHeader.of (fun _ => rfl) (Lens.comp (lSnd eAddr (prodE eAddr (prodE u8E (prodE u16E (prodE u16E (prodE u8E (prodE u8E (prodE u32E (prodE u8E (prodE u32E (ovE nilSl))))))))))) (Lens.comp (lSnd eAddr (prodE u8E (prodE u16E (prodE u16E (prodE u8E (prodE u8E (prodE u32E (prodE u8E (prodE u32E (ovE nilSl)))))))))) (Lens.comp (lSnd u8E (prodE u16E (prodE u16E (prodE u8E (prodE u8E (prodE u32E (prodE u8E (prodE u32E (ovE nilSl))))))))) (Lens.comp (lSnd u16E (prodE u16E (prodE u8E (prodE u8E (prodE u32E (prodE u8E (prodE u32E (ovE nilSl)))))))) (Lens.comp (lSnd u16E (prodE u8E (prodE u8E (prodE u32E (prodE u8E (prodE u32E (ovE nilSl))))))) (Lens.comp (lSnd u8E (prodE u8E (prodE u32E (prodE u8E (prodE u32E (ovE nilSl)))))) (Lens.comp (lSnd u8E (prodE u32E (prodE u8E (prodE u32E (ovE nilSl))))) (Lens.comp (lSnd u32E (prodE u8E (prodE u32E (ovE nilSl)))) (lFst u8E (prodE u32E (ovE nilSl)))))))))))

@[simp] theorem SHeader.get_flags (x : SHeader) : SHeader.l_flags.get x = x.flags := rfl

@[simp] theorem SHeader.set_flags (x : SHeader) (y : UInt8) : SHeader.l_flags.set x y = { x with flags := y } := rfl

def SHeader.l_seq : Lens eHeader u32E 41 := lIso _ SHeader.to SHeader.of (fun _ => rfl) (Lens.comp (lSnd eAddr (prodE eAddr (prodE u8E (prodE u16E (prodE u16E (prodE u8E (prodE u8E (prodE u32E (prodE u8E (prodE u32E (ovE nilSl))))))))))) (Lens.comp (lSnd eAddr (prodE u8E (prodE u16E (prodE u16E (prodE u8E (prodE u8E (prodE u32E (prodE u8E (prodE u32E (ovE nilSl)))))))))) (Lens.comp (lSnd u8E (prodE u16E (prodE u16E (prodE u8E (prodE u8E (prodE u32E (prodE u8E (prodE u32E (ovE nilSl))))))))) (Lens.comp (lSnd u16E (prodE u16E (prodE u8E (prodE u8E (prodE u32E (prodE u8E (prodE u32E (ovE nilSl)))))))) (Lens.comp (lSnd u16E (prodE u8E (prodE u8E (prodE u32E (prodE u8E (prodE u32E (ovE nilSl))))))) (Lens.comp (lSnd u8E (prodE u8E (prodE u32E (prodE u8E (prodE u32E (ovE nilSl)))))) (Lens.comp (lSnd u8E (prodE u32E (prodE u8E (prodE u32E (ovE nilSl))))) (Lens.comp (lSnd u32E (prodE u8E (prodE u32E (ovE nilSl)))) (Lens.comp (lSnd u8E (prodE u32E (ovE nilSl))) (lFst u32E (ovE nilSl)))))))))))

@[simp] theorem SHeader.get_seq (x : SHeader) : SHeader.l_seq.get x = x.seq := rfl

@[simp] theorem SHeader.set_seq (x : SHeader) (y : UInt32) : SHeader.l_seq.set x y = { x with seq := y } := rfl

def SHeader.l_data : Lens eHeader (ovE nilSl) 42 := lIso _ SHeader.to SHeader.of (fun _ => rfl) (Lens.comp (lSnd eAddr (prodE eAddr (prodE u8E (prodE u16E (prodE u16E (prodE u8E (prodE u8E (prodE u32E (prodE u8E (prodE u32E (ovE nilSl))))))))))) (Lens.comp (lSnd eAddr (prodE u8E (prodE u16E (prodE u16E (prodE u8E (prodE u8E (prodE u32E (prodE u8E (prodE u32E (ovE nilSl)))))))))) (Lens.comp (lSnd u8E (prodE u16E (prodE u16E (prodE u8E (prodE u8E (prodE u32E (prodE u8E (prodE u32E (ovE nilSl))))))))) (Lens.comp (lSnd u16E (prodE u16E (prodE u8E (prodE u8E (prodE u32E (prodE u8E (prodE u32E (ovE nilSl)))))))) (Lens.comp (lSnd u16E (prodE u8E (prodE u8E (prodE u32E (prodE u8E (prodE u32E (ovE nilSl))))))) (Lens.comp (lSnd u8E (prodE u8E (prodE u32E (prodE u8E (prodE u32E (ovE nilSl)))))) (Lens.comp (lSnd u8E (prodE u32E (prodE u8E (prodE u32E (ovE nilSl))))) (Lens.comp (lSnd u32E (prodE u8E (prodE u32E (ovE nilSl)))) (Lens.comp (lSnd u8E (prodE u32E (ovE nilSl))) (Lens.comp (lSnd u32E (ovE nilSl)) (Lens.id (ovE nilSl))))))))))))

@[simp] theorem SHeader.get_data (x : SHeader) : SHeader.l_data.get x = x.data := rfl

@[simp] theorem SHeader.set_data (x : SHeader) (y : OV) : SHeader.l_data.set x y = { x with data := y } := rfl

def backK (k : SKey) : SKey := { src := k.dst, dst := k.src, proto := k.proto, srcPort := k.dstPort, dstPort := k.srcPort }
def ofK (h : SHeader) : SKey :=
  if h.proto = 6 ∨ h.proto = 17 then { src := h.src, dst := h.dst, proto := h.proto, srcPort := h.srcPort, dstPort := h.dstPort }
  else { src := h.src, dst := h.dst, proto := h.proto, srcPort := 0, dstPort := 0 }

theorem z27 : (Try.prog.info? 27).bind (·.zero) = some (eKey.val eKey.zero) := by kernel_rfl

theorem ty24 : TyOK Try.prog 24 eAddr := TyOK.mk' (by kernel_rfl) (by kernel_rfl)

theorem ty25 : TyOK Try.prog 25 u16E := TyOK.mk' (by kernel_rfl) (by kernel_rfl)

theorem ty27 : TyOK Try.prog 27 eKey := TyOK.mk' (by kernel_rfl) (by kernel_rfl)

theorem back_ok (k : SKey) (w : World) : Calls Try.prog 15 #[eKey.val k] w (RetV w (eKey.val (backK k))) := by
  refine enter0 16 Try.func15 rfl rfl (Nat.le_of_ble_eq_true rfl) ?_
  refine seq ?_
  refine region ?_
  refine cons (box (E := eKey) (.t rfl) (fun b1 => ?_))
  refine cons (alloc z27 (fun b2 => ?_))
  refine nil ?_
  refine pN ?_
  refine seq ?_
  refine region ?_
  refine cons (opv (Ev.fieldAddr (o := 17) (.t rfl) (by kernel_rfl)) ?_)
  refine cons (opv (Ev.load ty24 (.t rfl) (ptsVar (by repeat first | exact List.Mem.head _ | apply List.Mem.tail) SKey.l_dst)) ?_)
  refine cons (opv (Ev.fieldAddr (o := 0) (.t rfl) (by kernel_rfl)) ?_)
  refine cons (opv (Ev.load ty24 (.t rfl) (ptsVar (by repeat first | exact List.Mem.head _ | apply List.Mem.tail) SKey.l_src)) ?_)
  refine cons (opv (Ev.fieldAddr (o := 0) (.t rfl) (by kernel_rfl)) ?_)
  refine cons (storeV ty24 SKey.l_src (.t rfl) (.t rfl) (by repeat first | exact Upd.head | apply Upd.tail) ?_)
  refine cons (opv (Ev.fieldAddr (o := 17) (.t rfl) (by kernel_rfl)) ?_)
  refine cons (storeV ty24 SKey.l_dst (.t rfl) (.t rfl) (by repeat first | exact Upd.head | apply Upd.tail) ?_)
  refine nil ?_
  refine pN ?_
  refine seq ?_
  refine region ?_
  refine cons (opv (Ev.fieldAddr (o := 36) (.t rfl) (by kernel_rfl)) ?_)
  refine cons (opv (Ev.load ty25 (.t rfl) (ptsVar (by repeat first | exact List.Mem.head _ | apply List.Mem.tail) SKey.l_dstPort)) ?_)
  refine cons (opv (Ev.fieldAddr (o := 35) (.t rfl) (by kernel_rfl)) ?_)
  refine cons (opv (Ev.load ty25 (.t rfl) (ptsVar (by repeat first | exact List.Mem.head _ | apply List.Mem.tail) SKey.l_srcPort)) ?_)
  refine cons (opv (Ev.fieldAddr (o := 35) (.t rfl) (by kernel_rfl)) ?_)
  refine cons (storeV ty25 SKey.l_srcPort (.t rfl) (.t rfl) (by repeat first | exact Upd.head | apply Upd.tail) ?_)
  refine cons (opv (Ev.fieldAddr (o := 36) (.t rfl) (by kernel_rfl)) ?_)
  refine cons (storeV ty25 SKey.l_dstPort (.t rfl) (.t rfl) (by repeat first | exact Upd.head | apply Upd.tail) ?_)
  refine nil ?_
  refine pN ?_
  refine seq ?_
  refine region ?_
  refine cons (opv (Ev.load ty27 (.t rfl) (ptsVar (by repeat first | exact List.Mem.head _ | apply List.Mem.tail) (Lens.id _))) ?_)
  refine cons (storeV ty27 (Lens.id _) (.t rfl) (.t rfl) (by repeat first | exact Upd.head | apply Upd.tail) ?_)
  refine nil ?_
  refine pN ?_
  refine ret ?_
  refine done rfl (.cell rfl (fun w I => run_loadVar_pts ty27 (ptsVar (by repeat first | exact List.Mem.head _ | apply List.Mem.tail) (Lens.id _) w I)) .nil) (retE ?_)
  first | rfl | (simp; done)

theorem ty5 : TyOK Try.prog 5 u8E := TyOK.mk' (by kernel_rfl) (by kernel_rfl)

theorem rback_ok (k : SKey) (w : World) : Calls Try.prog 16 #[eKey.val k] w (RetV w (eKey.val (backK k))) := by
  refine enter0 14 Try.func16 rfl rfl (Nat.le_of_ble_eq_true rfl) ?_
  refine seq ?_
  refine region ?_
  refine cons (box (E := eKey) (.t rfl) (fun b1 => ?_))
  refine cons (alloc z27 (fun b2 => ?_))
  refine nil ?_
  refine pN ?_
  refine seq ?_
  refine region ?_
  refine cons (opv (Ev.fieldAddr (o := 17) (.t rfl) (by kernel_rfl)) ?_)
  refine cons (opv (Ev.load ty24 (.t rfl) (ptsVar (by repeat first | exact List.Mem.head _ | apply List.Mem.tail) SKey.l_dst)) ?_)
  refine cons (opv (Ev.fieldAddr (o := 0) (.t rfl) (by kernel_rfl)) ?_)
  refine cons (opv (Ev.load ty24 (.t rfl) (ptsVar (by repeat first | exact List.Mem.head _ | apply List.Mem.tail) SKey.l_src)) ?_)
  refine cons (opv (Ev.fieldAddr (o := 34) (.t rfl) (by kernel_rfl)) ?_)
  refine cons (opv (Ev.load ty5 (.t rfl) (ptsVar (by repeat first | exact List.Mem.head _ | apply List.Mem.tail) SKey.l_proto)) ?_)
  refine cons (opv (Ev.fieldAddr (o := 36) (.t rfl) (by kernel_rfl)) ?_)
  refine cons (opv (Ev.load ty25 (.t rfl) (ptsVar (by repeat first | exact List.Mem.head _ | apply List.Mem.tail) SKey.l_dstPort)) ?_)
  refine cons (opv (Ev.fieldAddr (o := 35) (.t rfl) (by kernel_rfl)) ?_)
  refine cons (opv (Ev.load ty25 (.t rfl) (ptsVar (by repeat first | exact List.Mem.head _ | apply List.Mem.tail) SKey.l_srcPort)) ?_)
  refine cons (opv (Ev.buildS (fs := _) (places := [(0, 17), (17, 17), (34, 1), (35, 1), (36, 1)]) z27 rfl Try.underlying27 (by kernel_rfl) (.cons (.t rfl) (.cons (.t rfl) (.cons (.t rfl) (.cons (.t rfl) (.cons (.t rfl) .nil))))) (Fills.cons SKey.l_src rfl (Fills.cons SKey.l_dst rfl (Fills.cons SKey.l_proto rfl (Fills.cons SKey.l_srcPort rfl (Fills.cons SKey.l_dstPort rfl Fills.nil)))))) ?_)
  refine cons (storeV ty27 (Lens.id _) (.t rfl) (.t rfl) (by repeat first | exact Upd.head | apply Upd.tail) ?_)
  refine nil ?_
  refine pN ?_
  refine ret ?_
  refine done rfl (.cell rfl (fun w I => run_loadVar_pts ty27 (ptsVar (by repeat first | exact List.Mem.head _ | apply List.Mem.tail) (Lens.id _) w I)) .nil) (retE ?_)
  first | rfl | (simp; done)

theorem of_ok (h : SHeader) (w : World) : Calls Try.prog 14 #[eHeader.val h] w (RetV w (eKey.val (ofK h))) := by
  refine enter0 26 Try.func14 rfl rfl (Nat.le_of_ble_eq_true rfl) ?_
  refine seq ?_
  refine region ?_
  refine cons (box (E := eHeader) (.t rfl) (fun b1 => ?_))
  refine cons (alloc z27 (fun b2 => ?_))
  refine nil ?_
  refine pN ?_
  refine seq ?_
  refine region ?_
  refine cons (opv (Ev.fieldAddr (o := 0) (.t rfl) (by kernel_rfl)) ?_)
  refine cons (opv (Ev.load ty24 (.t rfl) (ptsVar (by repeat first | exact List.Mem.head _ | apply List.Mem.tail) SHeader.l_src)) ?_)
  refine cons (opv (Ev.fieldAddr (o := 17) (.t rfl) (by kernel_rfl)) ?_)
  refine cons (opv (Ev.load ty24 (.t rfl) (ptsVar (by repeat first | exact List.Mem.head _ | apply List.Mem.tail) SHeader.l_dst)) ?_)
  refine cons (opv (Ev.fieldAddr (o := 34) (.t rfl) (by kernel_rfl)) ?_)
  refine cons (opv (Ev.load ty5 (.t rfl) (ptsVar (by repeat first | exact List.Mem.head _ | apply List.Mem.tail) SHeader.l_proto)) ?_)
  refine cons (opv (Ev.buildS (fs := _) (places := [(0, 17), (17, 17), (34, 1), (35, 1), (36, 1)]) z27 rfl Try.underlying27 (by kernel_rfl) (.cons (.t rfl) (.cons (.t rfl) (.cons (.t rfl) .nil))) (Fills.cons SKey.l_src rfl (Fills.cons SKey.l_dst rfl (Fills.cons SKey.l_proto rfl Fills.nil)))) ?_)
  refine cons (alloc z27 (fun b3 => ?_))
  refine cons (storeV ty27 (Lens.id _) (.t rfl) (.t rfl) (by repeat first | exact Upd.head | apply Upd.tail) ?_)
  refine nil ?_
  refine pN ?_
  refine seq ?_
  refine seq ?_
  refine region ?_
  refine cons (opv (Ev.fieldAddr (o := 34) (.t rfl) (by kernel_rfl)) ?_)
  refine cons (opv (Ev.load ty5 (.t rfl) (ptsVar (by repeat first | exact List.Mem.head _ | apply List.Mem.tail) SHeader.l_proto)) ?_)
  refine cons (opv (Ev.eql_u8 (.t rfl) (.c (v := U8 6) rfl)) ?_)
  refine cons (opv (Ev.move (.t rfl)) ?_)
  refine cons (opg rfl rfl (Ev.fieldAddr (o := 34) (.t rfl) (by kernel_rfl)) ?_)
  refine cons (opg rfl rfl (Ev.load ty5 (.g rfl id) (ptsVar (by repeat first | exact List.Mem.head _ | apply List.Mem.tail) SHeader.l_proto)) ?_)
  refine cons (opg rfl rfl (Ev.eql_u8 (.g rfl id) (.c (v := U8 17) rfl)) ?_)
  refine cons (opv (Ev.pickO (.t rfl) (.c (v := .bool true) rfl) (fun {_} h => by cases h; rfl) ⟨_, rfl⟩ (by first | exact (fun _ h => by rw [h] <;> rfl) | simp_all)) ?_)
  refine nil ?_
  refine pN ?_
  first | refine condD rfl (fun h0 => ?_) (fun h0 => ?_) | refine cond rfl (fun h0 => ?_) (fun h0 => ?_)
  · try simp only [Bool.and_eq_true, Bool.or_eq_true, Bool.or_eq_false_iff, Bool.and_eq_false_iff, Bool.not_eq_true', Bool.not_eq_false', decide_eq_true_eq, decide_eq_false_iff_not, Decidable.not_not] at h0
    refine drawS 3 rfl (by repeat first | exact Rem.head | apply Rem.tail) (by kernel_rfl) ?_
    refine take 0 rfl (by kernel_rfl) (by kernel_rfl) (by kernel_rfl) (by repeat first | exact List.Sublist.refl _ | apply List.Sublist.cons_cons | apply List.Sublist.cons) (Ev.fieldAddr (o := 35) (.t rfl) (by kernel_rfl)) ?_
    refine take 1 rfl (by kernel_rfl) (by kernel_rfl) (by kernel_rfl) (by repeat first | exact List.Sublist.refl _ | apply List.Sublist.cons_cons | apply List.Sublist.cons) (Ev.load ty25 (.t rfl) (ptsVar (by repeat first | exact List.Mem.head _ | apply List.Mem.tail) SHeader.l_srcPort)) ?_
    refine take 2 rfl (by kernel_rfl) (by kernel_rfl) (by kernel_rfl) (by repeat first | exact List.Sublist.refl _ | apply List.Sublist.cons_cons | apply List.Sublist.cons) (Ev.fieldAddr (o := 36) (.t rfl) (by kernel_rfl)) ?_
    refine take 3 rfl (by kernel_rfl) (by kernel_rfl) (by kernel_rfl) (by repeat first | exact List.Sublist.refl _ | apply List.Sublist.cons_cons | apply List.Sublist.cons) (Ev.load ty25 (.t rfl) (ptsVar (by repeat first | exact List.Mem.head _ | apply List.Mem.tail) SHeader.l_dstPort)) ?_
    refine take 4 rfl (by kernel_rfl) (by kernel_rfl) (by kernel_rfl) (by repeat first | exact List.Sublist.refl _ | apply List.Sublist.cons_cons | apply List.Sublist.cons) (Ev.fieldAddr (o := 35) (.t rfl) (by kernel_rfl)) ?_
    refine all [5] (by kernel_rfl) (by decide) (.cons rfl ?_ .nil)
    refine (storeV ty25 SKey.l_srcPort (.t rfl) (.t rfl) (by repeat first | exact Upd.head | apply Upd.tail) ?_)
    refine heldN_of (by repeat first | exact List.Sublist.refl _ | apply List.Sublist.cons_cons | apply List.Sublist.cons) ?_
    refine take 6 rfl (by kernel_rfl) (by kernel_rfl) (by kernel_rfl) (by repeat first | exact List.Sublist.refl _ | apply List.Sublist.cons_cons | apply List.Sublist.cons) (Ev.fieldAddr (o := 36) (.t rfl) (by kernel_rfl)) ?_
    refine all [7] (by kernel_rfl) (by decide) (.cons rfl ?_ .nil)
    refine (storeV ty25 SKey.l_dstPort (.t rfl) (.t rfl) (by repeat first | exact Upd.head | apply Upd.tail) ?_)
    refine heldN_of (by repeat first | exact List.Sublist.refl _ | apply List.Sublist.cons_cons | apply List.Sublist.cons) ?_
    refine over (by kernel_rfl) ?_
    refine pN ?_
    refine seq ?_
    refine region ?_
    refine cons (opv (Ev.load ty27 (.t rfl) (ptsVar (by repeat first | exact List.Mem.head _ | apply List.Mem.tail) (Lens.id _))) ?_)
    refine cons (storeV ty27 (Lens.id _) (.t rfl) (.t rfl) (by repeat first | exact Upd.head | apply Upd.tail) ?_)
    refine nil ?_
    refine pN ?_
    refine ret ?_
    refine done rfl (.cell rfl (fun w I => run_loadVar_pts ty27 (ptsVar (by repeat first | exact List.Mem.head _ | apply List.Mem.tail) (Lens.id _) w I)) .nil) (retE ?_)
    simp at h0; simp [ofK, h0]; try rfl
  · try simp only [Bool.and_eq_true, Bool.or_eq_true, Bool.or_eq_false_iff, Bool.and_eq_false_iff, Bool.not_eq_true', Bool.not_eq_false', decide_eq_true_eq, decide_eq_false_iff_not, Decidable.not_not] at h0
    refine skip ?_
    refine pN ?_
    refine seq ?_
    refine region ?_
    refine cons (opv (Ev.load ty27 (.t rfl) (ptsVar (by repeat first | exact List.Mem.head _ | apply List.Mem.tail) (Lens.id _))) ?_)
    refine cons (storeV ty27 (Lens.id _) (.t rfl) (.t rfl) (by repeat first | exact Upd.head | apply Upd.tail) ?_)
    refine nil ?_
    refine pN ?_
    refine ret ?_
    refine done rfl (.cell rfl (fun w I => run_loadVar_pts ty27 (ptsVar (by repeat first | exact List.Mem.head _ | apply List.Mem.tail) (Lens.id _) w I)) .nil) (retE ?_)
    simp at h0; simp [ofK, h0]; try rfl

theorem rof_ok (h : SHeader) (w : World) : Calls Try.prog 13 #[eHeader.val h] w (RetV w (eKey.val (ofK h))) := by
  refine enter0 26 Try.func13 rfl rfl (Nat.le_of_ble_eq_true rfl) ?_
  refine seq ?_
  refine region ?_
  refine cons (box (E := eHeader) (.t rfl) (fun b1 => ?_))
  refine cons (alloc z27 (fun b2 => ?_))
  refine nil ?_
  refine pN ?_
  refine seq ?_
  refine region ?_
  refine cons (opv (Ev.fieldAddr (o := 0) (.t rfl) (by kernel_rfl)) ?_)
  refine cons (opv (Ev.load ty24 (.t rfl) (ptsVar (by repeat first | exact List.Mem.head _ | apply List.Mem.tail) SHeader.l_src)) ?_)
  refine cons (opv (Ev.fieldAddr (o := 17) (.t rfl) (by kernel_rfl)) ?_)
  refine cons (opv (Ev.load ty24 (.t rfl) (ptsVar (by repeat first | exact List.Mem.head _ | apply List.Mem.tail) SHeader.l_dst)) ?_)
  refine cons (opv (Ev.fieldAddr (o := 34) (.t rfl) (by kernel_rfl)) ?_)
  refine cons (opv (Ev.load ty5 (.t rfl) (ptsVar (by repeat first | exact List.Mem.head _ | apply List.Mem.tail) SHeader.l_proto)) ?_)
  refine cons (opv (Ev.buildS (fs := _) (places := [(0, 17), (17, 17), (34, 1), (35, 1), (36, 1)]) z27 rfl Try.underlying27 (by kernel_rfl) (.cons (.t rfl) (.cons (.t rfl) (.cons (.t rfl) .nil))) (Fills.cons SKey.l_src rfl (Fills.cons SKey.l_dst rfl (Fills.cons SKey.l_proto rfl Fills.nil)))) ?_)
  refine cons (alloc z27 (fun b3 => ?_))
  refine cons (storeV ty27 (Lens.id _) (.t rfl) (.t rfl) (by repeat first | exact Upd.head | apply Upd.tail) ?_)
  refine nil ?_
  refine pN ?_
  refine seq ?_
  refine seq ?_
  refine region ?_
  refine cons (opv (Ev.fieldAddr (o := 34) (.t rfl) (by kernel_rfl)) ?_)
  refine cons (opv (Ev.load ty5 (.t rfl) (ptsVar (by repeat first | exact List.Mem.head _ | apply List.Mem.tail) SHeader.l_proto)) ?_)
  refine cons (opv (Ev.eql_u8 (.t rfl) (.c (v := U8 6) rfl)) ?_)
  refine cons (opv (Ev.move (.t rfl)) ?_)
  refine cons (opg rfl rfl (Ev.fieldAddr (o := 34) (.t rfl) (by kernel_rfl)) ?_)
  refine cons (opg rfl rfl (Ev.load ty5 (.g rfl id) (ptsVar (by repeat first | exact List.Mem.head _ | apply List.Mem.tail) SHeader.l_proto)) ?_)
  refine cons (opg rfl rfl (Ev.eql_u8 (.g rfl id) (.c (v := U8 17) rfl)) ?_)
  refine cons (opv (Ev.pickO (.t rfl) (.c (v := .bool true) rfl) (fun {_} h => by cases h; rfl) ⟨_, rfl⟩ (by first | exact (fun _ h => by rw [h] <;> rfl) | simp_all)) ?_)
  refine nil ?_
  refine pN ?_
  first | refine condD rfl (fun h0 => ?_) (fun h0 => ?_) | refine cond rfl (fun h0 => ?_) (fun h0 => ?_)
  · try simp only [Bool.and_eq_true, Bool.or_eq_true, Bool.or_eq_false_iff, Bool.and_eq_false_iff, Bool.not_eq_true', Bool.not_eq_false', decide_eq_true_eq, decide_eq_false_iff_not, Decidable.not_not] at h0
    refine seq ?_
    refine region ?_
    refine cons (opv (Ev.fieldAddr (o := 35) (.t rfl) (by kernel_rfl)) ?_)
    refine cons (opv (Ev.load ty25 (.t rfl) (ptsVar (by repeat first | exact List.Mem.head _ | apply List.Mem.tail) SHeader.l_srcPort)) ?_)
    refine cons (opv (Ev.fieldAddr (o := 35) (.t rfl) (by kernel_rfl)) ?_)
    refine cons (storeV ty25 SKey.l_srcPort (.t rfl) (.t rfl) (by repeat first | exact Upd.head | apply Upd.tail) ?_)
    refine nil ?_
    refine pN ?_
    refine region ?_
    refine cons (opv (Ev.fieldAddr (o := 36) (.t rfl) (by kernel_rfl)) ?_)
    refine cons (opv (Ev.load ty25 (.t rfl) (ptsVar (by repeat first | exact List.Mem.head _ | apply List.Mem.tail) SHeader.l_dstPort)) ?_)
    refine cons (opv (Ev.fieldAddr (o := 36) (.t rfl) (by kernel_rfl)) ?_)
    refine cons (storeV ty25 SKey.l_dstPort (.t rfl) (.t rfl) (by repeat first | exact Upd.head | apply Upd.tail) ?_)
    refine nil ?_
    refine pN ?_
    refine seq ?_
    refine region ?_
    refine cons (opv (Ev.load ty27 (.t rfl) (ptsVar (by repeat first | exact List.Mem.head _ | apply List.Mem.tail) (Lens.id _))) ?_)
    refine cons (storeV ty27 (Lens.id _) (.t rfl) (.t rfl) (by repeat first | exact Upd.head | apply Upd.tail) ?_)
    refine nil ?_
    refine pN ?_
    refine ret ?_
    refine done rfl (.cell rfl (fun w I => run_loadVar_pts ty27 (ptsVar (by repeat first | exact List.Mem.head _ | apply List.Mem.tail) (Lens.id _) w I)) .nil) (retE ?_)
    simp at h0; simp [ofK, h0]; try rfl
  · try simp only [Bool.and_eq_true, Bool.or_eq_true, Bool.or_eq_false_iff, Bool.and_eq_false_iff, Bool.not_eq_true', Bool.not_eq_false', decide_eq_true_eq, decide_eq_false_iff_not, Decidable.not_not] at h0
    refine skip ?_
    refine pN ?_
    refine seq ?_
    refine region ?_
    refine cons (opv (Ev.load ty27 (.t rfl) (ptsVar (by repeat first | exact List.Mem.head _ | apply List.Mem.tail) (Lens.id _))) ?_)
    refine cons (storeV ty27 (Lens.id _) (.t rfl) (.t rfl) (by repeat first | exact Upd.head | apply Upd.tail) ?_)
    refine nil ?_
    refine pN ?_
    refine ret ?_
    refine done rfl (.cell rfl (fun w I => run_loadVar_pts ty27 (ptsVar (by repeat first | exact List.Mem.head _ | apply List.Mem.tail) (Lens.id _) w I)) .nil) (retE ?_)
    simp at h0; simp [ofK, h0]; try rfl
end Go.Proofs.Ytpdanbpipabboaa
