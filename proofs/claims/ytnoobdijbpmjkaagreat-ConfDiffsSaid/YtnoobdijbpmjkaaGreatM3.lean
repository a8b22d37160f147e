/- Part 3 of the texts. -/
import Derived.Test.YtnoobdijbpmjkaaGreatM2
set_option linter.unusedVariables false
set_option linter.unusedSimpArgs false

/- conf -/
namespace Go.Proofs.YtnoobdijbpmjkaaGreat
open Go Go.Gx

/-- Are they the same? -/
def sameB (a b : CL) (d e : Int) : Bool := decide (d = e) && (decide (a.ps = b.ps) && (decide (a.us = b.us) && (alikeB SRoute.eqb a.rs b.rs && (alikeB SMeterConf.eqb a.ms b.ms && alikeB SMirrorConf.eqb a.xs b.xs))))

theorem en53 : Gx.Enters Tryz.prog 53 := Gx.Enters.mk' (by kernel_rfl)

theorem en54 : Gx.Enters Tryz.prog 54 := Gx.Enters.mk' (by kernel_rfl)

theorem en55 : Gx.Enters Tryz.prog 55 := Gx.Enters.mk' (by kernel_rfl)

theorem en56 : Gx.Enters Tryz.prog 56 := Gx.Enters.mk' (by kernel_rfl)

theorem en57 : Gx.Enters Tryz.prog 57 := Gx.Enters.mk' (by kernel_rfl)

theorem same_ok (a b : SConf) (l k : CL) (w : World) (ha : ConfAt w a l) (hb : ConfAt w b k) (hl : l.Small) (hk : k.Small) : Calls Tryz.prog 21 #[eConf.val a, eConf.val b] w (RetV w (.bool (sameB l k a.default b.default))) := by
  refine enter0 45 Tryz.func21 rfl rfl (Nat.le_of_ble_eq_true rfl) ?_
  refine seq (region (cons (box (E := eConf) (.t rfl) (fun b1 => ?_))))
  refine cons (box (E := eConf) (.t rfl) (fun b2 => ?_))
  refine cons (opv (Ev.assign (.c (v := .bool false) rfl)) ?_)
  refine nil (pN (seq (region (cons (opv (Ev.fieldAddr (o := 5) (.t rfl) (by kernel_rfl)) ?_)))))
  refine cons (opv (Ev.ldx a.default ty3 (.t rfl) SConf.l_default) ?_)
  refine cons (opv (Ev.fieldAddr (o := 5) (.t rfl) (by kernel_rfl)) ?_)
  refine cons (opv (Ev.ldx b.default ty3 (.t rfl) SConf.l_default) ?_)
  refine cons (opv (Ev.eql_i (.t rfl) (.t rfl)) ?_)
  refine cons (opv (Ev.move (.t rfl)) (cons (opg rfl rfl (Ev.fieldAddr (o := 0) (.t rfl) (by kernel_rfl)) ?_)))
  refine cons (opg rfl rfl (Ev.ldx a.ports ty22 (.g rfl id) SConf.l_ports) ?_)
  refine cons (opg rfl rfl (Ev.fieldAddr (o := 0) (.t rfl) (by kernel_rfl)) ?_)
  refine cons (opg rfl rfl (Ev.ldx b.ports ty22 (.g rfl id) SConf.l_ports) ?_)
  refine cons (callg rfl rfl en53 (.cons (.g rfl id) (.cons (.g rfl id) .nil)) (fun hg w I => equal_3 _ _ _ _ w (ha.keep0 I.keeps).ps (hb.keep0 I.keeps).ps) ?_)
  refine cons (opv (Ev.pickA (.t rfl) (fun {_} h => by cases h; rfl) ⟨_, rfl⟩ (by intro h1 h; first | (rw [h] <;> rfl) | (rw [h1, h] <;> rfl) | (rw [h, h1] <;> rfl) | simp_all) (.c (v := .bool false) rfl)) ?_)
  refine cons (opv (Ev.move (.t rfl)) (cons (opg rfl rfl (Ev.fieldAddr (o := 2) (.t rfl) (by kernel_rfl)) ?_)))
  refine cons (opg rfl rfl (Ev.ldx a.rules ty24 (.g rfl id) SConf.l_rules) ?_)
  refine cons (opg rfl rfl (Ev.fieldAddr (o := 2) (.t rfl) (by kernel_rfl)) ?_)
  refine cons (opg rfl rfl (Ev.ldx b.rules ty24 (.g rfl id) SConf.l_rules) ?_)
  refine cons (callg rfl rfl en54 (.cons (.g rfl id) (.cons (.g rfl id) .nil)) (fun hg w I => equal_76 _ _ _ _ w (ha.keep0 I.keeps).us (hb.keep0 I.keeps).us) ?_)
  refine cons (opv (Ev.pickA (.t rfl) (fun {_} h => by cases h; rfl) ⟨_, rfl⟩ (by intro h1 h; first | (rw [h] <;> rfl) | (rw [h1, h] <;> rfl) | (rw [h, h1] <;> rfl) | simp_all) (.c (v := .bool false) rfl)) ?_)
  refine cons (opv (Ev.move (.t rfl)) (cons (opg rfl rfl (Ev.fieldAddr (o := 1) (.t rfl) (by kernel_rfl)) ?_)))
  refine cons (opg rfl rfl (Ev.ldx a.routes ty23 (.g rfl id) SConf.l_routes) ?_)
  refine cons (opg rfl rfl (Ev.fieldAddr (o := 1) (.t rfl) (by kernel_rfl)) ?_)
  refine cons (opg rfl rfl (Ev.ldx b.routes ty23 (.g rfl id) SConf.l_routes) ?_)
  refine cons (callg rfl rfl en55 (.cons (.g rfl id) (.cons (.g rfl id) .nil)) (fun hg w I => alike_52 _ _ _ _ w (ha.keep0 I.keeps).rs (hb.keep0 I.keeps).rs (by have := hl.rs; omega) (by have := hk.rs; omega)) ?_)
  refine cons (opv (Ev.pickA (.t rfl) (fun {_} h => by cases h; rfl) ⟨_, rfl⟩ (by intro h1 h; first | (rw [h] <;> rfl) | (rw [h1, h] <;> rfl) | (rw [h, h1] <;> rfl) | simp_all) (.c (v := .bool false) rfl)) ?_)
  refine cons (opv (Ev.move (.t rfl)) (cons (opg rfl rfl (Ev.fieldAddr (o := 3) (.t rfl) (by kernel_rfl)) ?_)))
  refine cons (opg rfl rfl (Ev.ldx a.meters ty25 (.g rfl id) SConf.l_meters) ?_)
  refine cons (opg rfl rfl (Ev.fieldAddr (o := 3) (.t rfl) (by kernel_rfl)) ?_)
  refine cons (opg rfl rfl (Ev.ldx b.meters ty25 (.g rfl id) SConf.l_meters) ?_)
  refine cons (callg rfl rfl en56 (.cons (.g rfl id) (.cons (.g rfl id) .nil)) (fun hg w I => alike_57 _ _ _ _ w (ha.keep0 I.keeps).ms (hb.keep0 I.keeps).ms (by have := hl.ms; omega) (by have := hk.ms; omega)) ?_)
  refine cons (opv (Ev.pickA (.t rfl) (fun {_} h => by cases h; rfl) ⟨_, rfl⟩ (by intro h1 h; first | (rw [h] <;> rfl) | (rw [h1, h] <;> rfl) | (rw [h, h1] <;> rfl) | simp_all) (.c (v := .bool false) rfl)) ?_)
  refine cons (opv (Ev.move (.t rfl)) (cons (opg rfl rfl (Ev.fieldAddr (o := 4) (.t rfl) (by kernel_rfl)) ?_)))
  refine cons (opg rfl rfl (Ev.ldx a.mirrors ty26 (.g rfl id) SConf.l_mirrors) ?_)
  refine cons (opg rfl rfl (Ev.fieldAddr (o := 4) (.t rfl) (by kernel_rfl)) ?_)
  refine cons (opg rfl rfl (Ev.ldx b.mirrors ty26 (.g rfl id) SConf.l_mirrors) ?_)
  refine cons (callg rfl rfl en57 (.cons (.g rfl id) (.cons (.g rfl id) .nil)) (fun hg w I => alike_59 _ _ _ _ w (ha.keep0 I.keeps).xs (hb.keep0 I.keeps).xs (by have := hl.xs; omega) (by have := hk.xs; omega)) ?_)
  refine cons (opv (Ev.pickA (.t rfl) (fun {_} h => by cases h; rfl) ⟨_, rfl⟩ (by intro h1 h; first | (rw [h] <;> rfl) | (rw [h1, h] <;> rfl) | (rw [h, h1] <;> rfl) | simp_all) (.c (v := .bool false) rfl)) ?_)
  refine cons (opv (Ev.assign (.t rfl)) (nil (pN (ret (done rfl (.tmp rfl .nil) (retE ?_))))))
  unfold sameB; simp [Bool.and_assoc]
end Go.Proofs.YtnoobdijbpmjkaaGreat

/- conf -/
namespace Go.Proofs.YtnoobdijbpmjkaaGreat
open Go Go.Gx

/-- What is wrong with a port. -/
def portE (ps : List Int) (p i : Int) : Int := if p < 0 ∨ 255 < p then 5 else if 0 < i ∧ p ≤ ps.getD (i - 1).toNat 0 then 2 else 0

theorem port1_ok (c : SConf) (ps : List Int) (b : Nat) (p i : Int) (w : World) (hc : PtsTo eConf w b 0 c) (hp : IsSl iE w c.ports.v ps) (hi : 0 ≤ i ∧ i < ps.length) : Calls Tryz.prog 38 #[I p, I i, .pointer (some ⟨b, 0, none⟩)] w (RetV w (I (portE ps p i))) := by
  have hle := hp.le
  refine enter0 26 Tryz.func38 rfl rfl (Nat.le_of_ble_eq_true rfl) ?_
  refine seq (region (cons (opv (Ev.assign (.c (v := I 0) rfl)) ?_)))
  refine nil (pN (seq (block (seq (region (cons (opv (Ev.move (.t rfl)) (cons (opv (Ev.lss_i (.t rfl) (.c (v := I 0) rfl)) ?_)))))))))
  refine cons (opv (Ev.move (.t rfl)) (cons (opg rfl rfl (Ev.move (.t rfl)) ?_)))
  refine cons (opg rfl rfl (Ev.gtr_i (.g rfl id) (.c (v := I 255) rfl)) ?_)
  refine cons (opv (Ev.pickO (.t rfl) (.c (v := .bool true) rfl) (fun {_} h => by cases h; rfl) ⟨_, rfl⟩ (by intro h1 h; first | (rw [h] <;> rfl) | (rw [h1, h] <;> rfl) | (rw [h, h1] <;> rfl) | simp_all)) ?_)
  refine cons (opv (Ev.assign (.t rfl)) (nil (pN ?_)))
  first | refine condD rfl (fun h0 => ?_) (fun h0 => ?_) | refine cond rfl (fun h0 => ?_) (fun h0 => ?_)
  · try simp only [nb] at h0
    refine seq (region (cons (opv (Ev.assign (.c (v := I 5) rfl)) ?_)))
    refine nil (pN (ret (bR (pR (done rfl (.tmp rfl .nil) (retE ?_))))))
    unfold portE; rw [if_pos (by simpa using h0)]; rfl
  · try simp only [nb] at h0
    refine seq (region (cons (opv (Ev.move (.t rfl)) (cons (opv (Ev.gtr_i (.t rfl) (.c (v := I 0) rfl)) ?_)))))
    refine cons (opv (Ev.move (.t rfl)) (cons (opg rfl rfl (Ev.move (.t rfl)) ?_)))
    refine cons (opg rfl rfl (Ev.fieldAddr (o := 0) (.t rfl) (by kernel_rfl)) ?_)
    refine cons (opg rfl rfl (Ev.load ty22 (.g rfl id) (ptsL (fun w I => hc.keep I.keeps) SConf.l_ports)) ?_)
    refine cons (opg rfl rfl (Ev.move (.t rfl)) ?_)
    refine cons (opg rfl rfl (Ev.sub_i (.g rfl id) (.c (v := I 1) rfl) (fun _ => by first | omega | (rename_i hg; simp at hg; omega))) ?_)
    refine cons (opg rfl rfl (Ev.indexAddr Tryz.underlying22 ty3 (.g rfl id) (.g rfl id) (fun w I => hp.keep0 I.keeps) (fun _ => by first | omega | (rename_i hg; simp at hg; omega))) ?_)
    refine cons (opg rfl rfl (Ev.loadS0 ty3 (.g rfl id) (fun w I => hp.keep0 I.keeps) (fun _ => by first | omega | (rename_i hg; simp at hg; omega))) ?_)
    refine cons (opg rfl rfl (Ev.leq_i (.g rfl id) (.g rfl id)) ?_)
    refine cons (opv (Ev.pickA (.t rfl) (fun {_} h => by cases h; rfl) ⟨_, rfl⟩ (by intro h1 h; first | (rw [h] <;> rfl) | (rw [h1, h] <;> rfl) | (rw [h, h1] <;> rfl) | simp_all) (.c (v := .bool false) rfl)) ?_)
    refine cons (opv (Ev.assign (.t rfl)) (nil (pN ?_)))
    first | refine condD rfl (fun h1 => ?_) (fun h1 => ?_) | refine cond rfl (fun h1 => ?_) (fun h1 => ?_)
    · try simp only [nb] at h1
      refine seq (region (cons (opv (Ev.assign (.c (v := I 2) rfl)) ?_)))
      refine nil (pN (ret (bR (pR (done rfl (.tmp rfl .nil) (retE ?_))))))
      unfold portE; rw [if_neg (by omega), if_pos ⟨h1.1, h1.2⟩]; rfl
    · try simp only [nb] at h1
      refine skip (bN (pN (seq (region (cons (opv (Ev.assign (.c (v := I 0) rfl)) ?_))))))
      refine nil (pN (ret (done rfl (.tmp rfl .nil) (retE ?_))))
      unfold portE; rw [if_neg (by omega), if_neg (fun hh => h1.elim (fun e => e hh.1) (fun e => e hh.2))]; rfl
end Go.Proofs.YtnoobdijbpmjkaaGreat

/- conf -/
namespace Go.Proofs.YtnoobdijbpmjkaaGreat
open Go Go.Gx

structure SHeader where
  src : SAddr
  dst : SAddr
  proto : UInt8
  srcPort : UInt16
  dstPort : UInt16
  tTL : UInt8
  class_ : UInt8
  id : UInt32
  flags : UInt8
  seq : UInt32
  data : OV

def SHeader.to : (SAddr × (SAddr × (UInt8 × (UInt16 × (UInt16 × (UInt8 × (UInt8 × (UInt32 × (UInt8 × (UInt32 × OV)))))))))) → SHeader := fun x => ⟨x.1, x.2.1, x.2.2.1, x.2.2.2.1, x.2.2.2.2.1, x.2.2.2.2.2.1, x.2.2.2.2.2.2.1, x.2.2.2.2.2.2.2.1, x.2.2.2.2.2.2.2.2.1, x.2.2.2.2.2.2.2.2.2.1, x.2.2.2.2.2.2.2.2.2.2⟩

def SHeader.of : SHeader → (SAddr × (SAddr × (UInt8 × (UInt16 × (UInt16 × (UInt8 × (UInt8 × (UInt32 × (UInt8 × (UInt32 × OV)))))))))) := fun x => (x.src, x.dst, x.proto, x.srcPort, x.dstPort, x.tTL, x.class_, x.id, x.flags, x.seq, x.data)

def eHeader : Enc SHeader := isoE (prodE eAddr (prodE eAddr (prodE u8E (prodE u16E (prodE u16E (prodE u8E (prodE u8E (prodE u32E (prodE u8E (prodE u32E (ovE nilSl))))))))))) SHeader.to SHeader.of

def SHeader.l_src : Lens eHeader eAddr 0 := lIso _ SHeader.to SHeader.of (fun _ => rfl) (lFst eAddr (prodE eAddr (prodE u8E (prodE u16E (prodE u16E (prodE u8E (prodE u8E (prodE u32E (prodE u8E (prodE u32E (ovE nilSl)))))))))))

@[simp] theorem SHeader.get_src (x : SHeader) : SHeader.l_src.get x = x.src := rfl

@[simp] theorem SHeader.set_src (x : SHeader) (y : SAddr) : SHeader.l_src.set x y = { x with src := y } := rfl

def SHeader.l_dst : Lens eHeader eAddr 17 := lIso _ SHeader.to SHeader.of (fun _ => rfl) (Lens.comp (lSnd eAddr (prodE eAddr (prodE u8E (prodE u16E (prodE u16E (prodE u8E (prodE u8E (prodE u32E (prodE u8E (prodE u32E (ovE nilSl))))))))))) (lFst eAddr (prodE u8E (prodE u16E (prodE u16E (prodE u8E (prodE u8E (prodE u32E (prodE u8E (prodE u32E (ovE nilSl)))))))))))

@[simp] theorem SHeader.get_dst (x : SHeader) : SHeader.l_dst.get x = x.dst := rfl

@[simp] theorem SHeader.set_dst (x : SHeader) (y : SAddr) : SHeader.l_dst.set x y = { x with dst := y } := rfl

def SHeader.l_proto : Lens eHeader u8E 34 := lIso _ SHeader.to SHeader.of (fun _ => rfl) (Lens.comp (lSnd eAddr (prodE eAddr (prodE u8E (prodE u16E (prodE u16E (prodE u8E (prodE u8E (prodE u32E (prodE u8E (prodE u32E (ovE nilSl))))))))))) (Lens.comp (lSnd eAddr (prodE u8E (prodE u16E (prodE u16E (prodE u8E (prodE u8E (prodE u32E (prodE u8E (prodE u32E (ovE nilSl)))))))))) (lFst u8E (prodE u16E (prodE u16E (prodE u8E (prodE u8E (prodE u32E (prodE u8E (prodE u32E (ovE nilSl)))))))))))

@[simp] theorem SHeader.get_proto (x : SHeader) : SHeader.l_proto.get x = x.proto := rfl

@[simp] theorem SHeader.set_proto (x : SHeader) (y : UInt8) : SHeader.l_proto.set x y = { x with proto := y } := rfl

def SHeader.l_srcPort : Lens eHeader u16E 35 := lIso _ SHeader.to SHeader.of (fun _ => rfl) (Lens.comp (lSnd eAddr (prodE eAddr (prodE u8E (prodE u16E (prodE u16E (prodE u8E (prodE u8E (prodE u32E (prodE u8E (prodE u32E (ovE nilSl))))))))))) (Lens.comp (lSnd eAddr (prodE u8E (prodE u16E (prodE u16E (prodE u8E (prodE u8E (prodE u32E (prodE u8E (prodE u32E (ovE nilSl)))))))))) (Lens.comp (lSnd u8E (prodE u16E (prodE u16E (prodE u8E (prodE u8E (prodE u32E (prodE u8E (prodE u32E (ovE nilSl))))))))) (lFst u16E (prodE u16E (prodE u8E (prodE u8E (prodE u32E (prodE u8E (prodE u32E (ovE nilSl)))))))))))

@[simp] theorem SHeader.get_srcPort (x : SHeader) : SHeader.l_srcPort.get x = x.srcPort := rfl

@[simp] theorem SHeader.set_srcPort (x : SHeader) (y : UInt16) : SHeader.l_srcPort.set x y = { x with srcPort := y } := rfl

def SHeader.l_dstPort : Lens eHeader u16E 36 := lIso _ SHeader.to SHeader.of (fun _ => rfl) (Lens.comp (lSnd eAddr (prodE eAddr (prodE u8E (prodE u16E (prodE u16E (prodE u8E (prodE u8E (prodE u32E (prodE u8E (prodE u32E (ovE nilSl))))))))))) (Lens.comp (lSnd eAddr (prodE u8E (prodE u16E (prodE u16E (prodE u8E (prodE u8E (prodE u32E (prodE u8E (prodE u32E (ovE nilSl)))))))))) (Lens.comp (lSnd u8E (prodE u16E (prodE u16E (prodE u8E (prodE u8E (prodE u32E (prodE u8E (prodE u32E (ovE nilSl))))))))) (Lens.comp (lSnd u16E (prodE u16E (prodE u8E (prodE u8E (prodE u32E (prodE u8E (prodE u32E (ovE nilSl)))))))) (lFst u16E (prodE u8E (prodE u8E (prodE u32E (prodE u8E (prodE u32E (ovE nilSl)))))))))))

@[simp] theorem SHeader.get_dstPort (x : SHeader) : SHeader.l_dstPort.get x = x.dstPort := rfl

@[simp] theorem SHeader.set_dstPort (x : SHeader) (y : UInt16) : SHeader.l_dstPort.set x y = { x with dstPort := y } := rfl

def SHeader.l_tTL : Lens eHeader u8E 37 := lIso _ SHeader.to SHeader.of (fun _ => rfl) (Lens.comp (lSnd eAddr (prodE eAddr (prodE u8E (prodE u16E (prodE u16E (prodE u8E (prodE u8E (prodE u32E (prodE u8E (prodE u32E (ovE nilSl))))))))))) (Lens.comp (lSnd eAddr (prodE u8E (prodE u16E (prodE u16E (prodE u8E (prodE u8E (prodE u32E (prodE u8E (prodE u32E (ovE nilSl)))))))))) (Lens.comp (lSnd u8E (prodE u16E (prodE u16E (prodE u8E (prodE u8E (prodE u32E (prodE u8E (prodE u32E (ovE nilSl))))))))) (Lens.comp (lSnd u16E (prodE u16E (prodE u8E (prodE u8E (prodE u32E (prodE u8E (prodE u32E (ovE nilSl)))))))) (Lens.comp (lSnd u16E (prodE u8E (prodE u8E (prodE u32E (prodE u8E (prodE u32E (ovE nilSl))))))) (lFst u8E (prodE u8E (prodE u32E (prodE u8E (prodE u32E (ovE nilSl)))))))))))

@[simp] theorem SHeader.get_tTL (x : SHeader) : SHeader.l_tTL.get x = x.tTL := rfl

@[simp] theorem SHeader.set_tTL (x : SHeader) (y : UInt8) : SHeader.l_tTL.set x y = { x with tTL := y } := rfl

def SHeader.l_class_ : Lens eHeader u8E 38 := lIso _ SHeader.to SHeader.of (fun _ => rfl) (Lens.comp (lSnd eAddr (prodE eAddr (prodE u8E (prodE u16E (prodE u16E (prodE u8E (prodE u8E (prodE u32E (prodE u8E (prodE u32E (ovE nilSl))))))))))) (Lens.comp (lSnd eAddr (prodE u8E (prodE u16E (prodE u16E (prodE u8E (prodE u8E (prodE u32E (prodE u8E (prodE u32E (ovE nilSl)))))))))) (Lens.comp (lSnd u8E (prodE u16E (prodE u16E (prodE u8E (prodE u8E (prodE u32E (prodE u8E (prodE u32E (ovE nilSl))))))))) (Lens.comp (lSnd u16E (prodE u16E (prodE u8E (prodE u8E (prodE u32E (prodE u8E (prodE u32E (ovE nilSl)))))))) (Lens.comp (lSnd u16E (prodE u8E (prodE u8E (prodE u32E (prodE u8E (prodE u32E (ovE nilSl))))))) (Lens.comp (lSnd u8E (prodE u8E (prodE u32E (prodE u8E (prodE u32E (ovE nilSl)))))) (lFst u8E (prodE u32E (prodE u8E (prodE u32E (ovE nilSl)))))))))))

@[simp] theorem SHeader.get_class_ (x : SHeader) : SHeader.l_class_.get x = x.class_ := rfl

@[simp] theorem SHeader.set_class_ (x : SHeader) (y : UInt8) : SHeader.l_class_.set x y = { x with class_ := y } := rfl

def SHeader.l_id : Lens eHeader u32E 39 := lIso _ SHeader.to SHeader.of (fun _ => rfl) (Lens.comp (lSnd eAddr (prodE eAddr (prodE u8E (prodE u16E (prodE u16E (prodE u8E (prodE u8E (prodE u32E (prodE u8E (prodE u32E (ovE nilSl))))))))))) (Lens.comp (lSnd eAddr (prodE u8E (prodE u16E (prodE u16E (prodE u8E (prodE u8E (prodE u32E (prodE u8E (prodE u32E (ovE nilSl)))))))))) (Lens.comp (lSnd u8E (prodE u16E (prodE u16E (prodE u8E (prodE u8E (prodE u32E (prodE u8E (prodE u32E (ovE nilSl))))))))) (Lens.comp (lSnd u16E (prodE u16E (prodE u8E (prodE u8E (prodE u32E (prodE u8E (prodE u32E (ovE nilSl)))))))) (Lens.comp (lSnd u16E (prodE u8E (prodE u8E (prodE u32E (prodE u8E (prodE u32E (ovE nilSl))))))) (Lens.comp (lSnd u8E (prodE u8E (prodE u32E (prodE u8E (prodE u32E (ovE nilSl)))))) (Lens.comp (lSnd u8E (prodE u32E (prodE u8E (prodE u32E (ovE nilSl))))) (lFst u32E (prodE u8E (prodE u32E (ovE nilSl)))))))))))

@[simp] theorem SHeader.get_id (x : SHeader) : SHeader.l_id.get x = x.id := rfl

@[simp] theorem SHeader.set_id (x : SHeader) (y : UInt32) : SHeader.l_id.set x y = { x with id := y } := rfl

def SHeader.l_flags : Lens eHeader u8E 40 := lIso _ SHeader.to SHeader.of (fun _ => rfl) (Lens.comp (lSnd eAddr (prodE eAddr (prodE u8E (prodE u16E (prodE u16E (prodE u8E (prodE u8E (prodE u32E (prodE u8E (prodE u32E (ovE nilSl))))))))))) (Lens.comp (lSnd eAddr (prodE u8E (prodE u16E (prodE u16E (prodE u8E (prodE u8E (prodE u32E (prodE u8E (prodE u32E (ovE nilSl)))))))))) (Lens.comp (lSnd u8E (prodE u16E (prodE u16E (prodE u8E (prodE u8E (prodE u32E (prodE u8E (prodE u32E (ovE nilSl))))))))) (Lens.comp (lSnd u16E (prodE u16E (prodE u8E (prodE u8E (prodE u32E (prodE u8E (prodE u32E (ovE nilSl)))))))) (Lens.comp (lSnd u16E (prodE u8E (prodE u8E (prodE u32E (prodE u8E (prodE u32E (ovE nilSl))))))) (Lens.comp (lSnd u8E (prodE u8E (prodE u32E (prodE u8E (prodE u32E (ovE nilSl)))))) (Lens.comp (lSnd u8E (prodE u32E (prodE u8E (prodE u32E (ovE nilSl))))) (Lens.comp (lSnd u32E (prodE u8E (prodE u32E (ovE nilSl)))) (lFst u8E (prodE u32E (ovE nilSl)))))))))))

@[simp] theorem SHeader.get_flags (x : SHeader) : SHeader.l_flags.get x = x.flags := rfl

@[simp] theorem SHeader.set_flags (x : SHeader) (y : UInt8) : SHeader.l_flags.set x y = { x with flags := y } := rfl

def SHeader.l_seq : Lens eHeader u32E 41 := lIso _ SHeader.to SHeader.of (fun _ => rfl) (Lens.comp (lSnd eAddr (prodE eAddr (prodE u8E (prodE u16E (prodE u16E (prodE u8E (prodE u8E (prodE u32E (prodE u8E (prodE u32E (ovE nilSl))))))))))) (Lens.comp (lSnd eAddr (prodE u8E (prodE u16E (prodE u16E (prodE u8E (prodE u8E (prodE u32E (prodE u8E (prodE u32E (ovE nilSl)))))))))) (Lens.comp (lSnd u8E (prodE u16E (prodE u16E (prodE u8E (prodE u8E (prodE u32E (prodE u8E (prodE u32E (ovE nilSl))))))))) (Lens.comp (lSnd u16E (prodE u16E (prodE u8E (prodE u8E (prodE u32E (prodE u8E (prodE u32E (ovE nilSl)))))))) (Lens.comp (lSnd u16E (prodE u8E (prodE u8E (prodE u32E (prodE u8E (prodE u32E (ovE nilSl))))))) (Lens.comp (lSnd u8E (prodE u8E (prodE u32E (prodE u8E (prodE u32E (ovE nilSl)))))) (Lens.comp (lSnd u8E (prodE u32E (prodE u8E (prodE u32E (ovE nilSl))))) (Lens.comp (lSnd u32E (prodE u8E (prodE u32E (ovE nilSl)))) (Lens.comp (lSnd u8E (prodE u32E (ovE nilSl))) (lFst u32E (ovE nilSl)))))))))))

@[simp] theorem SHeader.get_seq (x : SHeader) : SHeader.l_seq.get x = x.seq := rfl

@[simp] theorem SHeader.set_seq (x : SHeader) (y : UInt32) : SHeader.l_seq.set x y = { x with seq := y } := rfl

def SHeader.l_data : Lens eHeader (ovE nilSl) 42 := lIso _ SHeader.to SHeader.of (fun _ => rfl) (Lens.comp (lSnd eAddr (prodE eAddr (prodE u8E (prodE u16E (prodE u16E (prodE u8E (prodE u8E (prodE u32E (prodE u8E (prodE u32E (ovE nilSl))))))))))) (Lens.comp (lSnd eAddr (prodE u8E (prodE u16E (prodE u16E (prodE u8E (prodE u8E (prodE u32E (prodE u8E (prodE u32E (ovE nilSl)))))))))) (Lens.comp (lSnd u8E (prodE u16E (prodE u16E (prodE u8E (prodE u8E (prodE u32E (prodE u8E (prodE u32E (ovE nilSl))))))))) (Lens.comp (lSnd u16E (prodE u16E (prodE u8E (prodE u8E (prodE u32E (prodE u8E (prodE u32E (ovE nilSl)))))))) (Lens.comp (lSnd u16E (prodE u8E (prodE u8E (prodE u32E (prodE u8E (prodE u32E (ovE nilSl))))))) (Lens.comp (lSnd u8E (prodE u8E (prodE u32E (prodE u8E (prodE u32E (ovE nilSl)))))) (Lens.comp (lSnd u8E (prodE u32E (prodE u8E (prodE u32E (ovE nilSl))))) (Lens.comp (lSnd u32E (prodE u8E (prodE u32E (ovE nilSl)))) (Lens.comp (lSnd u8E (prodE u32E (ovE nilSl))) (Lens.comp (lSnd u32E (ovE nilSl)) (Lens.id (ovE nilSl))))))))))))

@[simp] theorem SHeader.get_data (x : SHeader) : SHeader.l_data.get x = x.data := rfl

@[simp] theorem SHeader.set_data (x : SHeader) (y : OV) : SHeader.l_data.set x y = { x with data := y } := rfl

def bitOf (x : UInt8) (j : Nat) : UInt8 := shr8 x (7 - j) &&& 1
theorem bitOf_toNat (x : UInt8) (j : Nat) : (bitOf x j).toNat = bn x.toNat (7 - j) := by
  unfold bitOf bn
  rw [UInt8.toNat_and, toNat_shr8]
  have e : UInt8.toNat 1 = 1 := rfl
  rw [e, Nat.and_one_is_mod]
theorem bitU_at (xs : List UInt8) (q j : Nat) (hj : j < 8) : bitU xs (8 * (q : Int) + j) = bitOf (xs.getD q 0) j := by
  unfold bitU bitOf
  have e1 : ((8 * (q : Int) + j) / 8).toNat = q := by omega
  have e2 : (7 - (8 * (q : Int) + j) % 8).toNat = 7 - j := by omega
  rw [e1, e2]
set_option maxRecDepth 100000 in
theorem mk1_dec : ∀ n : Fin 256, ∀ l : Fin 9, (mk1 (l.val : Int) (UInt8.ofNat n.val) = UInt8.ofNat n.val ↔ ∀ j : Fin 8, l.val ≤ j.val → bn n.val (7 - j.val) = 0) := by decide +kernel
theorem mk1_iff (x : UInt8) (left : Int) : mk1 left x = x ↔ ∀ j : Nat, j < 8 → left ≤ j → bitOf x j = 0 := by
  have key : ∀ l : Nat, l < 9 → (mk1 (l : Int) x = x ↔ ∀ j : Nat, j < 8 → l ≤ j → bitOf x j = 0) := fun l hl => by
    have h := mk1_dec ⟨x.toNat, x.toNat_lt⟩ ⟨l, hl⟩
    simp only [UInt8.ofNat_toNat] at h
    rw [h]
    constructor
    · intro h1 j hj hlj
      apply UInt8.toNat_inj.1
      rw [bitOf_toNat]
      exact h1 ⟨j, hj⟩ hlj
    · intro h1 j hlj
      rw [← bitOf_toNat, h1 j.val j.isLt hlj]
      rfl
  by_cases h0 : left ≤ 0
  · have e : mk1 left x = mk1 ((0 : Nat) : Int) x := by
      unfold mk1
      rw [if_pos h0, if_pos (by omega)]
    rw [e, key 0 (by omega)]
    exact ⟨fun h j hj _ => h j hj (Nat.zero_le _), fun h j hj _ => h j hj (by omega)⟩
  · by_cases h8 : left < 8
    · have e : left = (left.toNat : Int) := by omega
      rw [e, key left.toNat (by omega)]
      exact ⟨fun h j hj hl => h j hj (by omega), fun h j hj hl => h j hj (by omega)⟩
    · have e : mk1 left x = x := by
        unfold mk1
        rw [if_neg h0, if_neg h8]
      exact ⟨fun _ j hj hl => by omega, fun _ => e⟩
theorem vec_getD (b : Vector UInt8 16) (k : Nat) (h : k < 16) : b.toList.getD k 0 = b[k] := by simp [List.getD, h]
theorem mask_bits (n : Int) (b : Vector UInt8 16) (h0 : 0 ≤ n) : maskV n b = b ↔ ∀ i : Int, n ≤ i → i < 128 → bitU b.toList i = 0 := by
  have step : maskV n b = b ↔ ∀ (k : Nat) (hk : k < 16), mk1 (n - 8 * (k : Int)) b[k] = b[k] := by
    constructor
    · intro h k hk
      have := congrArg (fun v : Vector UInt8 16 => v[k]) h
      simpa [maskV] using this
    · intro h
      apply Vector.ext
      intro k hk
      have := h k hk
      simpa [maskV] using this
  rw [step]
  constructor
  · intro h i h1 h2
    have hk : (i / 8).toNat < 16 := by omega
    have h3 := (mk1_iff _ _).1 (h (i / 8).toNat hk) (i % 8).toNat (by omega) (by omega)
    have e : i = 8 * ((i / 8).toNat : Int) + ((i % 8).toNat : Int) := by omega
    rw [e, bitU_at _ _ _ (by omega), vec_getD b _ hk]
    exact h3
  · intro h k hk
    refine (mk1_iff _ _).2 (fun j hj hl => ?_)
    have h3 := h (8 * (k : Int) + j) (by omega) (by omega)
    rw [bitU_at _ _ _ hj, vec_getD b _ hk] at h3
    exact h3
theorem checkA_zero (a : SAddr) : checkA a = 0 ↔ ∀ i : Int, wd a ≤ i → i < 128 → bitU a.b.toList i = 0 := by
  have := wd_le a
  rw [← mask_bits (wd a) a.b (by omega)]
  unfold checkA
  split <;> simp_all
theorem checkP_zero (p : SPrefix) : checkP p = 0 ↔ 0 ≤ p.bits ∧ p.bits ≤ wd p.addr ∧ ∀ i : Int, p.bits ≤ i → i < 128 → bitU p.addr.b.toList i = 0 := by
  unfold checkP
  by_cases h0 : 0 ≤ p.bits
  · rw [← mask_bits p.bits p.addr.b h0]
    split
    · rename_i h
      constructor
      · intro h; cases h
      · intro h2; exfalso; rcases h with h | h | h
        · omega
        · omega
        · exact h h2.2.2
    · rename_i h
      simp only [not_or, Decidable.not_not] at h
      exact ⟨fun _ => ⟨h0, (by omega), h.2.2⟩, fun _ => rfl⟩
  · rw [if_pos (.inl (by omega))]
    exact ⟨fun h => (by cases h), fun h => absurd h.1 h0⟩
theorem checkP_addr (p : SPrefix) (h : checkP p = 0) : checkA p.addr = 0 := by
  obtain ⟨h0, h1, h2⟩ := (checkP_zero p).1 h
  exact (checkA_zero p.addr).2 (fun i hi h3 => h2 i (by omega) h3)
def asksB (m : SMatch) (w : UInt8) : Bool := decide (¬ m.asks &&& w = 0)
set_option maxRecDepth 100000 in
theorem asks_dec : ∀ w ∈ ([1, 2, 4, 8, 16, 32] : List UInt8), ∀ n : Fin 256, decide (UInt8.ofNat n.val / w % 2 = 1) = decide (¬ UInt8.ofNat n.val &&& w = 0) := by decide +kernel
theorem asks_eq (w x : UInt8) (h : w ∈ ([1, 2, 4, 8, 16, 32] : List UInt8)) : decide (x / w % 2 = 1) = decide (¬ x &&& w = 0) := by
  have := asks_dec w h ⟨x.toNat, x.toNat_lt⟩
  simpa only [UInt8.ofNat_toNat] using this

theorem rbit_ok (a : SAddr) (i : Int) (w : World) (h : 0 ≤ i ∧ i < 128) : Calls Tryz.prog 197 #[eAddr.val a, I i] w (RetV w (U8 (bitU a.b.toList i))) := by
  refine enter0 15 Tryz.func197 rfl rfl (Nat.le_of_ble_eq_true rfl) ?_
  refine seq (region (cons (box (E := eAddr) (.t rfl) (fun b1 => ?_))))
  refine cons (opv (Ev.assign (.c (v := U8 0) rfl)) ?_)
  refine nil (pN (seq (region (cons (opv (Ev.move (.t rfl)) (cons (opv (Ev.quo_n (.t rfl) (.c (v := I 8) rfl) (fun _ => by omega) (fun _ => by omega) (fun _ => by omega)) ?_)))))))
  refine cons (opv (Ev.fieldAddr (o := 1) (.t rfl) (by kernel_rfl)) ?_)
  refine cons (opv (Ev.indexAddrA Tryz.underlying46 ty5 (.t rfl) (.t rfl) (fun _ => by omega)) ?_)
  refine cons (opv (Ev.ldv ty5 (.t rfl) (Lens.comp SAddr.l_b (lArr (n := 16) u8E _ (by omega)))) ?_)
  refine cons (opv (Ev.move (.t rfl)) (cons (opv (Ev.rem_n (.t rfl) (.c (v := I 8) rfl) (fun _ => by omega) (fun _ => by omega)) ?_)))
  refine cons (opv (Ev.sub_i (.c (v := I 7) rfl) (.t rfl) (fun _ => by omega)) ?_)
  refine cons (opv (Ev.shr_u8 (.t rfl) (.t rfl) (fun _ => by omega)) ?_)
  refine cons (opv (Ev.and_u8 (.t rfl) (.c (v := U8 1) rfl)) ?_)
  refine cons (opv (Ev.assign (.t rfl)) (nil (pN (ret (done rfl (.tmp rfl .nil) (retE ?_))))))
  unfold bitU
  rw [vec_getD a.b _ (by omega)]
  rfl

theorem rmost_ok (v : Bool) (w : World) : Calls Tryz.prog 196 #[.bool v] w (RetV w (I (bif v then 128 else 32))) := by
  refine enter0 4 Tryz.func196 rfl rfl (Nat.le_of_ble_eq_true rfl) ?_
  refine seq (region (cons (opv (Ev.assign (.c (v := I 0) rfl)) ?_)))
  refine nil (pN (seq (seq (region (cons (opv (Ev.move (.t rfl)) (nil (pN ?_))))))))
  first | refine condD rfl (fun h0 => ?_) (fun h0 => ?_) | refine cond rfl (fun h0 => ?_) (fun h0 => ?_)
  · try simp only [nb] at h0
    refine seq (region (cons (opv (Ev.assign (.c (v := I 128) rfl)) ?_)))
    refine nil (pN (ret (pR (done rfl (.tmp rfl .nil) (retE ?_)))))
    rw [h0]; rfl
  · try simp only [nb] at h0
    refine skip (pN (seq (region (cons (opv (Ev.assign (.c (v := I 32) rfl)) ?_)))))
    refine nil (pN (ret (done rfl (.tmp rfl .nil) (retE ?_))))
    rw [h0]; rfl

theorem en197 : Gx.Enters Tryz.prog 197 := Gx.Enters.mk' (by kernel_rfl)

theorem raddr_ok (a : SAddr) (w : World) : Calls Tryz.prog 195 #[eAddr.val a] w (RetV w (.bool (decide (checkA a = 0)))) := by
  refine enter0 17 Tryz.func195 rfl rfl (Nat.le_of_ble_eq_true rfl) ?_
  refine seq (region (cons (box (E := eAddr) (.t rfl) (fun b1 => ?_))))
  refine cons (opv (Ev.assign (.c (v := .bool false) rfl)) ?_)
  refine nil (pN (seq (seq (region (cons (opv (Ev.assign (.c (v := I 32) rfl)) ?_))))))
  refine nil (pN (block (lp (X := Int) (fun x : Int => (32 ≤ x ∧ x ≤ 128) ∧ (∀ j : Int, 32 ≤ j → j < x → bitU a.b.toList j = 0) ∧ (32 < x → a.v6 = false)) (fun x : Int => [(1, true, .pointer (some ⟨b1, 0, none⟩)), (3, true, I x)]) (fun x : Int => [Var b1 eAddr a 48]) (fun x : Int => (128 - x).toNat) (32) ⟨?_, ?_, ?_⟩ (fun x hx => ?_))))
  · omega
  · intro j h1 h2; omega
  · intro h; omega
  obtain ⟨i, rfl⟩ : ∃ y, y = x := ⟨x, rfl⟩
  obtain ⟨hi, hz, hv⟩ : (32 ≤ i ∧ i ≤ 128) ∧ (∀ j : Int, 32 ≤ j → j < i → bitU a.b.toList j = 0) ∧ (32 < i → a.v6 = false) := hx
  show Sat _ _ [(1, true, .pointer (some ⟨b1, 0, none⟩)), (3, true, I i)] [Var b1 eAddr a 48]
  refine seq (seq (region (cons (opv (Ev.move (.t rfl)) (cons (opv (Ev.lss_i (.t rfl) (.c (v := I 128) rfl)) ?_))))))
  refine cons (opv (Ev.move (.t rfl)) (cons (opg rfl rfl (Ev.fieldAddr (o := 0) (.t rfl) (by kernel_rfl)) ?_)))
  refine cons (opg rfl rfl (Ev.ldx a.v6 ty4 (.g rfl id) SAddr.l_v6) ?_)
  refine cons (opg rfl rfl (Ev.not (.g rfl id)) ?_)
  refine cons (opv (Ev.pickA (.t rfl) (fun {_} h => by cases h; rfl) ⟨_, rfl⟩ (by intro h1 h; first | (rw [h] <;> rfl) | (rw [h1, h] <;> rfl) | (rw [h, h1] <;> rfl) | simp_all) (.c (v := .bool false) rfl)) ?_)
  refine nil (pN ?_)
  first | refine condD rfl (fun hlt => ?_) (fun hge => ?_) | refine cond rfl (fun hlt => ?_) (fun hge => ?_)
  · try simp only [nb] at hlt
    refine skip (pN (seq (block (seq (region (cons (opv (Ev.ldx a ty48 (.t rfl) (Lens.id _)) ?_)))))))
    refine cons (opv (Ev.move (.t rfl)) (cons (callv en197 (.cons (.t rfl) (.cons (.t rfl) .nil)) (fun w I => rbit_ok _ _ w (by omega)) ?_)))
    refine cons (opv (Ev.neq_u8 (.t rfl) (.c (v := U8 0) rfl)) ?_)
    refine nil (pN ?_)
    first | refine condD rfl (fun hne => ?_) (fun heq => ?_) | refine cond rfl (fun hne => ?_) (fun heq => ?_)
    · try simp only [nb] at hne
      refine seq (region (cons (opv (Ev.assign (.c (v := .bool false) rfl)) ?_)))
      refine nil (pN (ret (bR (pR (pR (bR (pR (done rfl (.tmp rfl .nil) (retE ?_)))))))))
      refine bF (fun h => ?_)
      have h6 : a.v6 = false := by simpa using hlt.2
      exact hne ((checkA_zero a).1 h i (by simp [wd, h6]; omega) (by omega))
    · try simp only [nb] at heq
      have h1z : bitU a.b.toList i = 0 := by simpa using heq
      refine skip (bN (pN (region (cons (opv (Ev.move (.t rfl)) (cons (opv (Ev.add_i (.t rfl) (.c (v := I 1) rfl) (fun _ => by omega)) ?_)))))))
      refine cons (opv (Ev.assign (.t rfl)) (nil (pN (nx (X := Int) (i + 1) ⟨?_, ?_, ?_⟩ ?_))))
      · try dsimp only
        omega
      · try dsimp only
        intro j h1 h2
        by_cases e : j = i
        · rw [e]; exact h1z
        · exact hz j h1 (by omega)
      · try dsimp only
        intro _; simpa using hlt.2
      · try dsimp only
        omega
  · try simp only [nb] at hge
    refine exit (pX (pX (bX (pN (seq (region (cons (opv (Ev.assign (.c (v := .bool true) rfl)) ?_))))))))
    refine nil (pN (ret (done rfl (.tmp rfl .nil) (retE ?_))))
    refine bT ((checkA_zero a).2 (fun j h1 h2 => ?_))
    by_cases h6 : a.v6 = true
    · simp [wd, h6] at h1; omega
    · have h6 : a.v6 = false := by simpa using h6
      have hi128 : i = 128 := by
        rcases hge with h | h
        · omega
        · simp [h6] at h
      exact hz j (by simp [wd, h6] at h1; omega) (by omega)

theorem en195 : Gx.Enters Tryz.prog 195 := Gx.Enters.mk' (by kernel_rfl)

theorem en196 : Gx.Enters Tryz.prog 196 := Gx.Enters.mk' (by kernel_rfl)

theorem rprefix_ok (p : SPrefix) (w : World) : Calls Tryz.prog 185 #[ePrefix.val p] w (RetV w (.bool (decide (checkP p = 0)))) := by
  have hw := wd_le p.addr
  refine enter0 33 Tryz.func185 rfl rfl (Nat.le_of_ble_eq_true rfl) ?_
  refine seq (region (cons (box (E := ePrefix) (.t rfl) (fun b1 => ?_))))
  refine cons (opv (Ev.assign (.c (v := .bool false) rfl)) ?_)
  refine nil (pN (seq (seq (draw' (by kernel_rfl) ?_))))
  refine tk 0 rfl (Ev.fieldAddr (o := 0) (.t rfl) (by kernel_rfl)) ?_
  refine tk 1 rfl (Ev.ldx p.addr ty48 (.t rfl) SPrefix.l_addr) ?_
  refine al1 2 rfl ((callv en195 (.cons (.t rfl) .nil) (fun w I => raddr_ok _ w) ?_))
  refine hdn (tk 3 rfl (Ev.not (.t rfl)) ?_)
  refine tk 4 rfl (Ev.move (.t rfl)) ?_
  refine tkg 5 rfl rfl rfl (Ev.fieldAddr (o := 17) (.t rfl) (by kernel_rfl)) ?_
  refine tkg 6 rfl rfl rfl (Ev.ldx p.bits ty3 (.g rfl id) SPrefix.l_bits) ?_
  refine tkg 7 rfl rfl rfl (Ev.lss_i (.g rfl id) (.c (v := I 0) rfl)) ?_
  refine tk 8 rfl (Ev.pickO (.t rfl) (.c (v := .bool true) rfl) (fun {_} h => by cases h; rfl) ⟨_, rfl⟩ (by intro h1 h; first | (rw [h] <;> rfl) | (rw [h1, h] <;> rfl) | (rw [h, h1] <;> rfl) | simp_all)) ?_
  refine tk 9 rfl (Ev.move (.t rfl)) ?_
  refine tkg 10 rfl rfl rfl (Ev.fieldAddr (o := 17) (.t rfl) (by kernel_rfl)) ?_
  refine tkg 11 rfl rfl rfl (Ev.ldx p.bits ty3 (.g rfl id) SPrefix.l_bits) ?_
  refine tkg 12 rfl rfl rfl (Ev.fieldAddr (o := 0) (.t rfl) (by kernel_rfl)) ?_
  refine tkg 13 rfl rfl rfl (Ev.fieldAddr (o := 0) (.g rfl id) (by kernel_rfl)) ?_
  refine tkg 14 rfl rfl rfl (Ev.ldx p.addr.v6 ty4 (.g rfl id) (Lens.comp SPrefix.l_addr SAddr.l_v6)) ?_
  refine al1 15 rfl ((callg rfl rfl en196 (.cons (.g rfl id) .nil) (fun hg w I => rmost_ok _ w) ?_))
  refine hdn (tkg 16 rfl rfl rfl (Ev.gtr_i (.g rfl id) (.g rfl id)) ?_)
  refine tk 17 rfl (Ev.pickO (.t rfl) (.c (v := .bool true) rfl) (fun {_} h => by cases h; rfl) ⟨_, rfl⟩ (by intro h1 h; first | (rw [h] <;> rfl) | (rw [h1, h] <;> rfl) | (rw [h, h1] <;> rfl) | simp_all)) ?_
  refine ovr (pN ?_)
  first | refine condD rfl (fun h0 => ?_) (fun h0 => ?_) | refine cond rfl (fun h0 => ?_) (fun h0 => ?_)
  · refine seq (region (cons (opv (Ev.assign (.c (v := .bool false) rfl)) ?_)))
    refine nil (pN (ret (pR (done rfl (.tmp rfl .nil) (retE ?_)))))
    refine bF (fun h => ?_)
    obtain ⟨g0, g1, g2⟩ := (checkP_zero p).1 h
    have g3 := checkP_addr p h
    have g4 : p.bits ≤ (bif p.addr.v6 then 128 else 32) := g1
    simp [g3] at h0
    omega
  · have hr : 0 ≤ p.bits ∧ p.bits ≤ wd p.addr := by simp [and_assoc] at h0; exact ⟨h0.2.1, h0.2.2⟩
    refine skip (pN (seq (seq (region (cons (opv (Ev.fieldAddr (o := 17) (.t rfl) (by kernel_rfl)) ?_))))))
    refine cons (opv (Ev.ldx p.bits ty3 (.t rfl) SPrefix.l_bits) ?_)
    refine cons (opv (Ev.assign (.t rfl)) (nil (pN (block (lp (X := Int) (fun x : Int => (p.bits ≤ x ∧ x ≤ 128) ∧ (∀ j : Int, p.bits ≤ j → j < x → bitU p.addr.b.toList j = 0)) (fun x : Int => [(1, true, .pointer (some ⟨b1, 0, none⟩)), (3, true, I x)]) (fun x : Int => [Var b1 ePrefix p 50]) (fun x : Int => (128 - x).toNat) (p.bits) ⟨?_, ?_⟩ (fun x hx => ?_))))))
    · omega
    · intro j h1 h2; omega
    obtain ⟨i, rfl⟩ : ∃ y, y = x := ⟨x, rfl⟩
    obtain ⟨hi, hz⟩ : (p.bits ≤ i ∧ i ≤ 128) ∧ (∀ j : Int, p.bits ≤ j → j < i → bitU p.addr.b.toList j = 0) := hx
    show Sat _ _ [(1, true, .pointer (some ⟨b1, 0, none⟩)), (3, true, I i)] [Var b1 ePrefix p 50]
    refine seq (seq (region (cons (opv (Ev.move (.t rfl)) (cons (opv (Ev.lss_i (.t rfl) (.c (v := I 128) rfl)) ?_))))))
    refine nil (pN ?_)
    first | refine condD rfl (fun hlt => ?_) (fun hge => ?_) | refine cond rfl (fun hlt => ?_) (fun hge => ?_)
    · try simp only [nb] at hlt
      refine skip (pN (seq (block (seq (region (cons (opv (Ev.fieldAddr (o := 0) (.t rfl) (by kernel_rfl)) ?_)))))))
      refine cons (opv (Ev.ldx p.addr ty48 (.t rfl) SPrefix.l_addr) ?_)
      refine cons (opv (Ev.move (.t rfl)) (cons (callv en197 (.cons (.t rfl) (.cons (.t rfl) .nil)) (fun w I => rbit_ok _ _ w (by omega)) ?_)))
      refine cons (opv (Ev.neq_u8 (.t rfl) (.c (v := U8 0) rfl)) ?_)
      refine nil (pN ?_)
      first | refine condD rfl (fun hne => ?_) (fun heq => ?_) | refine cond rfl (fun hne => ?_) (fun heq => ?_)
      · try simp only [nb] at hne
        refine seq (region (cons (opv (Ev.assign (.c (v := .bool false) rfl)) ?_)))
        refine nil (pN (ret (bR (pR (pR (bR (pR (done rfl (.tmp rfl .nil) (retE ?_)))))))))
        refine bF (fun h => ?_)
        exact hne (((checkP_zero p).1 h).2.2 i (by omega) (by omega))
      · try simp only [nb] at heq
        have h1z : bitU p.addr.b.toList i = 0 := by simpa using heq
        refine skip (bN (pN (region (cons (opv (Ev.move (.t rfl)) (cons (opv (Ev.add_i (.t rfl) (.c (v := I 1) rfl) (fun _ => by omega)) ?_)))))))
        refine cons (opv (Ev.assign (.t rfl)) (nil (pN (nx (X := Int) (i + 1) ⟨?_, ?_⟩ ?_))))
        · try dsimp only
          omega
        · try dsimp only
          intro j h1 h2
          by_cases e : j = i
          · rw [e]; exact h1z
          · exact hz j h1 (by omega)
        · try dsimp only
          omega
    · try simp only [nb] at hge
      refine exit (pX (pX (bX (pN (seq (region (cons (opv (Ev.assign (.c (v := .bool true) rfl)) ?_))))))))
      refine nil (pN (ret (done rfl (.tmp rfl .nil) (retE ?_))))
      exact bT ((checkP_zero p).2 ⟨hr.1, hr.2, fun j h1 h2 => hz j h1 (by omega)⟩)

theorem en185 : Gx.Enters Tryz.prog 185 := Gx.Enters.mk' (by kernel_rfl)

theorem rasks_ok (m : SMatch) (q : UInt8) (w : World) (h : q ∈ ([1, 2, 4, 8, 16, 32] : List UInt8)) : Calls Tryz.prog 179 #[eMatch.val m, U8 q] w (RetV w (.bool (asksB m q))) := by
  refine enter0 11 Tryz.func179 rfl rfl (Nat.le_of_ble_eq_true rfl) ?_
  refine seq (region (cons (box (E := eMatch) (.t rfl) (fun b1 => ?_))))
  refine cons (opv (Ev.assign (.c (v := .bool false) rfl)) ?_)
  refine nil (pN (seq (region (cons (opv (Ev.fieldAddr (o := 0) (.t rfl) (by kernel_rfl)) ?_)))))
  refine cons (opv (Ev.ldx m.asks ty5 (.t rfl) SMatch.l_asks) ?_)
  refine cons (opv (Ev.move (.t rfl)) (cons (opv (Ev.quo_u8 (.t rfl) (.t rfl) (fun _ => by intro e; rw [e] at h; revert h; decide)) ?_)))
  refine cons (opv (Ev.rem_u8 (.t rfl) (.c (v := U8 2) rfl) (fun _ => by decide)) ?_)
  refine cons (opv (Ev.eql_u8 (.t rfl) (.c (v := U8 1) rfl)) ?_)
  refine cons (opv (Ev.assign (.t rfl)) (nil (pN (ret (done rfl (.tmp rfl .nil) (retE ?_))))))
  exact congrArg Value.bool (asks_eq q m.asks h)

theorem asks_ok (m : SMatch) (q : UInt8) (w : World) : Calls Tryz.prog 153 #[eMatch.val m, U8 q] w (RetV w (.bool (asksB m q))) := by
  refine enter0 10 Tryz.func153 rfl rfl (Nat.le_of_ble_eq_true rfl) ?_
  refine seq (region (cons (box (E := eMatch) (.t rfl) (fun b1 => ?_))))
  refine cons (opv (Ev.assign (.c (v := .bool false) rfl)) ?_)
  refine nil (pN (seq (region (cons (opv (Ev.fieldAddr (o := 0) (.t rfl) (by kernel_rfl)) ?_)))))
  refine cons (opv (Ev.ldx m.asks ty5 (.t rfl) SMatch.l_asks) ?_)
  refine cons (opv (Ev.move (.t rfl)) (cons (opv (Ev.and_u8 (.t rfl) (.t rfl)) ?_)))
  refine cons (opv (Ev.neq_u8 (.t rfl) (.c (v := U8 0) rfl)) ?_)
  refine cons (opv (Ev.assign (.t rfl)) (nil (pN (ret (done rfl (.tmp rfl .nil) (retE ?_))))))
  rfl

def portsB (p : UInt8) : Bool := decide (p = 6) || decide (p = 17)
def withinB (s : SSpan) (n : Int) : Bool := decide ((s.from_.toNat : Int) ≤ n) && decide (n ≤ (s.to_.toNat : Int))

theorem rports_ok (p : UInt8) (w : World) : Calls Tryz.prog 186 #[U8 p] w (RetV w (.bool (portsB p))) := by
  refine enter0 9 Tryz.func186 rfl rfl (Nat.le_of_ble_eq_true rfl) ?_
  refine seq (region (cons (opv (Ev.assign (.c (v := .bool false) rfl)) ?_)))
  refine nil (pN (seq (region (cons (opv (Ev.move (.t rfl)) (cons (opv (Ev.eql_u8 (.t rfl) (.c (v := U8 6) rfl)) ?_)))))))
  refine cons (opv (Ev.move (.t rfl)) (cons (opg rfl rfl (Ev.move (.t rfl)) ?_)))
  refine cons (opg rfl rfl (Ev.eql_u8 (.g rfl id) (.c (v := U8 17) rfl)) ?_)
  refine cons (opv (Ev.pickO (.t rfl) (.c (v := .bool true) rfl) (fun {_} h => by cases h; rfl) ⟨_, rfl⟩ (by intro h1 h; first | (rw [h] <;> rfl) | (rw [h1, h] <;> rfl) | (rw [h, h1] <;> rfl) | simp_all)) ?_)
  refine cons (opv (Ev.assign (.t rfl)) (nil (pN (ret (done rfl (.tmp rfl .nil) (retE ?_))))))
  rfl

end Go.Proofs.YtnoobdijbpmjkaaGreat

/- conf -/
namespace Go.Proofs.YtnoobdijbpmjkaaGreat
open Go Go.Gx

theorem take_snoc {α : Type} (l : List α) (i : Int) (h0 : 0 ≤ i) (h1 : i < l.length) (z : α) : l.take (i + 1).toNat = l.take i.toNat ++ [l.getD i.toNat z] := by
  have e : (i + 1).toNat = i.toNat + 1 := by omega
  have h2 : i.toNat < l.length := by omega
  rw [e, List.take_succ_eq_append_getElem h2]
  simp [List.getD, h2]
/-- What has a value though it is not asked, or is asked though nobody knows it. -/
def bad0 (m : SMatch) : Bool := decide (63 < m.asks) || (!asksB m 1 && !decide (m.in_ = eSpan.zero)) || (!asksB m 2 && !decide (m.src = ePrefix.zero)) || (!asksB m 4 && !decide (m.dst = ePrefix.zero)) || (!asksB m 8 && decide (¬ m.proto = 0)) || (!asksB m 16 && !decide (m.srcPort = eSpan.zero)) || (!asksB m 32 && !decide (m.dstPort = eSpan.zero))
def bad1 (m : SMatch) : Bool := decide (m.in_.to_ < m.in_.from_) || decide (255 < m.in_.to_) || decide (m.srcPort.to_ < m.srcPort.from_) || decide (m.dstPort.to_ < m.dstPort.from_)
def bad2 (m : SMatch) : Bool := (asksB m 2 && !decide (checkP m.src = 0)) || (asksB m 4 && !decide (checkP m.dst = 0)) || (asksB m 2 && asksB m 4 && decide (¬ m.src.addr.v6 = m.dst.addr.v6))
def good3 (m : SMatch) : Bool := (!asksB m 16 && !asksB m 32) || (asksB m 8 && portsB m.proto)
/-- May the match be? -/
def okM (m : SMatch) : Bool := !bad0 m && !bad1 m && !bad2 m && good3 m
def ckM (m : SMatch) : Int := bif okM m then 0 else 190
theorem ckM_zero (m : SMatch) : decide (ckM m = 0) = okM m := by unfold ckM; cases okM m <;> rfl
def addF (c : Bool) (f h : UInt8) : UInt8 := bif c then h ||| f else h
theorem u8_or_zero (x y : UInt8) : x ||| y = 0 ↔ x = 0 ∧ y = 0 := by
  constructor
  · intro h
    have h1 := congrArg UInt8.toNat h
    rw [UInt8.toNat_or] at h1
    have h2 : UInt8.toNat 0 = 0 := rfl
    rw [h2] at h1
    have h3 : x.toNat ≤ x.toNat ||| y.toNat := Nat.left_le_or
    have h4 : y.toNat ≤ x.toNat ||| y.toNat := Nat.right_le_or
    exact ⟨UInt8.toNat_inj.1 (by rw [h2]; omega), UInt8.toNat_inj.1 (by rw [h2]; omega)⟩
  · rintro ⟨rfl, rfl⟩
    rfl
theorem addF_and (c : Bool) (f h a : UInt8) : addF c f h &&& a = 0 ↔ (c = true → f &&& a = 0) ∧ h &&& a = 0 := by
  unfold addF
  cases c
  · simp
  · simp only [cond_true, forall_const]
    have e : (h ||| f) &&& a = h &&& a ||| f &&& a := by
      apply UInt8.toNat_inj.1
      simp only [UInt8.toNat_and, UInt8.toNat_or, Nat.and_or_distrib_right]
    rw [e, u8_or_zero]
    exact and_comm
set_option maxRecDepth 100000 in
theorem not_dec : ∀ w ∈ ([1, 2, 4, 8, 16, 32] : List UInt8), ∀ n : Fin 256, (w &&& ~~~ (UInt8.ofNat n.val) = 0) = (¬ UInt8.ofNat n.val &&& w = 0) := by
  intro w hw n
  have h : ∀ w ∈ ([1, 2, 4, 8, 16, 32] : List UInt8), ∀ n : Fin 256, decide (w &&& ~~~ (UInt8.ofNat n.val) = 0) = decide (¬ UInt8.ofNat n.val &&& w = 0) := by decide +kernel
  have := h w hw n
  rw [Bool.eq_iff_iff, decide_eq_true_iff, decide_eq_true_iff] at this
  exact propext this
theorem not_asks (m : SMatch) (w : UInt8) (h : w ∈ ([1, 2, 4, 8, 16, 32] : List UInt8)) : (w &&& ~~~ m.asks = 0) ↔ asksB m w = true := by
  have := not_dec w h ⟨m.asks.toNat, m.asks.toNat_lt⟩
  simp only [UInt8.ofNat_toNat] at this
  unfold asksB
  rw [this, decide_eq_true_iff]
set_option maxRecDepth 100000 in
theorem big_dec : ∀ n : Fin 256, decide (¬ UInt8.ofNat n.val &&& ~~~ 63 = 0) = decide (63 < UInt8.ofNat n.val) := by decide +kernel
theorem big_asks (x : UInt8) : decide (¬ x &&& ~~~ 63 = 0) = decide (63 < x) := by
  have := big_dec ⟨x.toNat, x.toNat_lt⟩
  simpa only [UInt8.ofNat_toNat] using this
set_option maxRecDepth 100000 in
theorem p48_dec : ∀ n : Fin 256, decide (¬ UInt8.ofNat n.val &&& 48 = 0) = (decide (¬ UInt8.ofNat n.val &&& 16 = 0) || decide (¬ UInt8.ofNat n.val &&& 32 = 0)) := by decide +kernel
theorem asks48 (m : SMatch) : asksB m 48 = (asksB m 16 || asksB m 32) := by
  have := p48_dec ⟨m.asks.toNat, m.asks.toNat_lt⟩
  unfold asksB
  simpa only [UInt8.ofNat_toNat] using this
theorem addF_dec (c : Bool) (f h : UInt8) (m : SMatch) (hf : f ∈ ([1, 2, 4, 8, 16, 32] : List UInt8)) : decide (¬ addF c f h &&& ~~~ m.asks = 0) = ((!asksB m f && c) || decide (¬ h &&& ~~~ m.asks = 0)) := by
  have h1 := addF_and c f h (~~~ m.asks)
  have h2 := not_asks m f hf
  rw [Bool.eq_iff_iff]
  rw [h2] at h1
  cases c <;> cases hq : asksB m f <;> rw [hq] at h1 <;> simp [h1]
theorem good3_of (m : SMatch) (h : asksB m 16 = true ∨ asksB m 32 = true → ¬m.proto = 6 → m.proto = 17) (hp : asksB m 8 = false → m.proto = 0) : good3 m = true := by
  unfold good3 portsB
  by_cases p6 : m.proto = 6 <;> by_cases p17 : m.proto = 17 <;> cases h16 : asksB m 16 <;> cases h32 : asksB m 32 <;> cases h8 : asksB m 8 <;> simp_all
theorem has_bad (m : SMatch) (c1 c2 c3 c4 c5 c6 : Bool) : (decide (¬ m.asks &&& ~~~ 63 = 0) || decide (¬ addF c6 32 (addF c5 16 (addF c4 8 (addF c3 4 (addF c2 2 (addF c1 1 0))))) &&& ~~~ m.asks = 0)) =
    (decide (63 < m.asks) || (!asksB m 1 && c1) || (!asksB m 2 && c2) || (!asksB m 4 && c3) || (!asksB m 8 && c4) || (!asksB m 16 && c5) || (!asksB m 32 && c6)) := by
  rw [big_asks, addF_dec _ _ _ _ (by decide), addF_dec _ _ _ _ (by decide), addF_dec _ _ _ _ (by decide), addF_dec _ _ _ _ (by decide), addF_dec _ _ _ _ (by decide), addF_dec _ _ _ _ (by decide)]
  have e : decide (¬ (0 : UInt8) &&& ~~~ m.asks = 0) = false := by simp
  rw [e]
  ac_rfl

theorem z72 : (Tryz.prog.info? 72).bind (·.zero) = some (eSpan.val eSpan.zero) := by kernel_rfl

theorem en179 : Gx.Enters Tryz.prog 179 := Gx.Enters.mk' (by kernel_rfl)

theorem en186 : Gx.Enters Tryz.prog 186 := Gx.Enters.mk' (by kernel_rfl)

theorem rcheck_ok (m : SMatch) (w : World) : Calls Tryz.prog 157 #[eMatch.val m] w (RetV w (.bool (okM m))) := by
  refine enter0 163 Tryz.func157 rfl rfl (Nat.le_of_ble_eq_true rfl) ?_
  refine seq (region (cons (box (E := eMatch) (.t rfl) (fun b1 => ?_))))
  refine cons (opv (Ev.assign (.c (v := .bool false) rfl)) ?_)
  refine nil (pN (seq (region (cons (opv (Ev.buildS (fs := _) (places := [(0, 1), (1, 1)]) z72 rfl Tryz.underlying72 (by kernel_rfl) .nil Fills.nil) ?_)))))
  refine cons (alloc z72 (fun b2 => ?_))
  refine cons (stv ty72 (Lens.id _) (.t rfl) (.t rfl) ?_)
  refine nil (pN (seq (draw' (by kernel_rfl) ?_)))
  refine tk 0 rfl (Ev.ldx m ty74 (.t rfl) (Lens.id _)) ?_
  refine tk 2 rfl (Ev.ldx m ty74 (.t rfl) (Lens.id _)) ?_
  refine tk 4 rfl (Ev.ldx m ty74 (.t rfl) (Lens.id _)) ?_
  refine tk 6 rfl (Ev.ldx m ty74 (.t rfl) (Lens.id _)) ?_
  refine tk 8 rfl (Ev.ldx m ty74 (.t rfl) (Lens.id _)) ?_
  refine tk 10 rfl (Ev.ldx m ty74 (.t rfl) (Lens.id _)) ?_
  refine al1 1 rfl ((callv en179 (.cons (.t rfl) (.cons (.c (v := U8 1) rfl) .nil)) (fun w I => rasks_ok _ _ w (by decide)) ?_))
  refine hdn (al1 3 rfl ((callv en179 (.cons (.t rfl) (.cons (.c (v := U8 2) rfl) .nil)) (fun w I => rasks_ok _ _ w (by decide)) ?_)))
  refine hdn (al1 5 rfl ((callv en179 (.cons (.t rfl) (.cons (.c (v := U8 4) rfl) .nil)) (fun w I => rasks_ok _ _ w (by decide)) ?_)))
  refine hdn (al1 7 rfl ((callv en179 (.cons (.t rfl) (.cons (.c (v := U8 8) rfl) .nil)) (fun w I => rasks_ok _ _ w (by decide)) ?_)))
  refine hdn (al1 9 rfl ((callv en179 (.cons (.t rfl) (.cons (.c (v := U8 16) rfl) .nil)) (fun w I => rasks_ok _ _ w (by decide)) ?_)))
  refine hdn (al1 11 rfl ((callv en179 (.cons (.t rfl) (.cons (.c (v := U8 32) rfl) .nil)) (fun w I => rasks_ok _ _ w (by decide)) ?_)))
  refine hdn (tk 12 rfl (Ev.assign (.t rfl)) ?_)
  refine tk 13 rfl (Ev.assign (.t rfl)) ?_
  refine tk 14 rfl (Ev.assign (.t rfl)) ?_
  refine tk 15 rfl (Ev.assign (.t rfl)) ?_
  refine tk 16 rfl (Ev.assign (.t rfl)) ?_
  refine tk 17 rfl (Ev.assign (.t rfl)) ?_
  refine ovr (pN (seq (seq (region (cons (opv (Ev.fieldAddr (o := 0) (.t rfl) (by kernel_rfl)) ?_))))))
  refine cons (opv (Ev.ldx m.asks ty5 (.t rfl) SMatch.l_asks) ?_)
  refine cons (opv (Ev.gtr_u8 (.t rfl) (.c (v := U8 63) rfl)) ?_)
  refine cons (opv (Ev.move (.t rfl)) (cons (opg rfl rfl (Ev.move (.t rfl)) ?_)))
  refine cons (opg rfl rfl (Ev.not (.g rfl id)) ?_)
  refine cons (opg rfl rfl (Ev.move (.g rfl id)) ?_)
  refine cons (opg rfl rfl (Ev.fieldAddr (o := 1) (.t rfl) (by kernel_rfl)) ?_)
  refine cons (opg rfl rfl (Ev.ldx m.in_ ty72 (.g rfl id) SMatch.l_in_) ?_)
  refine cons (opg rfl rfl (Ev.ldv ty72 (.t rfl) (Lens.id _)) ?_)
  refine cons (opg rfl rfl (Ev.neqS rfl eqok72 rfl (by kernel_rfl) (.g rfl id) (.g rfl id)) ?_)
  refine cons (opg rfl rfl (Ev.pickA (.g rfl id) (fun {_} h => by cases h; rfl) ⟨_, rfl⟩ (by intro h1 h; first | (rw [h] <;> rfl) | (rw [h1, h] <;> rfl) | (rw [h, h1] <;> rfl) | simp_all) (.c (v := .bool false) rfl)) ?_)
  refine cons (opv (Ev.pickO (.t rfl) (.c (v := .bool true) rfl) (fun {_} h => by cases h; rfl) ⟨_, rfl⟩ (by intro h1 h; first | (rw [h] <;> rfl) | (rw [h1, h] <;> rfl) | (rw [h, h1] <;> rfl) | simp_all)) ?_)
  refine cons (opv (Ev.move (.t rfl)) (cons (opg rfl rfl (Ev.move (.t rfl)) ?_)))
  refine cons (opg rfl rfl (Ev.not (.g rfl id)) ?_)
  refine cons (opg rfl rfl (Ev.move (.g rfl id)) ?_)
  refine cons (opg rfl rfl (Ev.fieldAddr (o := 3) (.t rfl) (by kernel_rfl)) ?_)
  refine cons (opg rfl rfl (Ev.ldx m.src ty50 (.g rfl id) SMatch.l_src) ?_)
  refine cons (opg rfl rfl (Ev.buildS (fs := _) (places := [(0, 17), (17, 1)]) z50 rfl Tryz.underlying50 (by kernel_rfl) .nil Fills.nil) ?_)
  refine cons (opg rfl rfl (Ev.neqS rfl eqok50 rfl (by kernel_rfl) (.g rfl id) (.g rfl id)) ?_)
  refine cons (opg rfl rfl (Ev.pickA (.g rfl id) (fun {_} h => by cases h; rfl) ⟨_, rfl⟩ (by intro h1 h; first | (rw [h] <;> rfl) | (rw [h1, h] <;> rfl) | (rw [h, h1] <;> rfl) | simp_all) (.c (v := .bool false) rfl)) ?_)
  refine cons (opv (Ev.pickO (.t rfl) (.c (v := .bool true) rfl) (fun {_} h => by cases h; rfl) ⟨_, rfl⟩ (by intro h1 h; first | (rw [h] <;> rfl) | (rw [h1, h] <;> rfl) | (rw [h, h1] <;> rfl) | simp_all)) ?_)
  refine cons (opv (Ev.move (.t rfl)) (cons (opg rfl rfl (Ev.move (.t rfl)) ?_)))
  refine cons (opg rfl rfl (Ev.not (.g rfl id)) ?_)
  refine cons (opg rfl rfl (Ev.move (.g rfl id)) ?_)
  refine cons (opg rfl rfl (Ev.fieldAddr (o := 21) (.t rfl) (by kernel_rfl)) ?_)
  refine cons (opg rfl rfl (Ev.ldx m.dst ty50 (.g rfl id) SMatch.l_dst) ?_)
  refine cons (opg rfl rfl (Ev.buildS (fs := _) (places := [(0, 17), (17, 1)]) z50 rfl Tryz.underlying50 (by kernel_rfl) .nil Fills.nil) ?_)
  refine cons (opg rfl rfl (Ev.neqS rfl eqok50 rfl (by kernel_rfl) (.g rfl id) (.g rfl id)) ?_)
  refine cons (opg rfl rfl (Ev.pickA (.g rfl id) (fun {_} h => by cases h; rfl) ⟨_, rfl⟩ (by intro h1 h; first | (rw [h] <;> rfl) | (rw [h1, h] <;> rfl) | (rw [h, h1] <;> rfl) | simp_all) (.c (v := .bool false) rfl)) ?_)
  refine cons (opv (Ev.pickO (.t rfl) (.c (v := .bool true) rfl) (fun {_} h => by cases h; rfl) ⟨_, rfl⟩ (by intro h1 h; first | (rw [h] <;> rfl) | (rw [h1, h] <;> rfl) | (rw [h, h1] <;> rfl) | simp_all)) ?_)
  refine cons (opv (Ev.move (.t rfl)) (cons (opg rfl rfl (Ev.move (.t rfl)) ?_)))
  refine cons (opg rfl rfl (Ev.not (.g rfl id)) ?_)
  refine cons (opg rfl rfl (Ev.move (.g rfl id)) ?_)
  refine cons (opg rfl rfl (Ev.fieldAddr (o := 39) (.t rfl) (by kernel_rfl)) ?_)
  refine cons (opg rfl rfl (Ev.ldx m.proto ty5 (.g rfl id) SMatch.l_proto) ?_)
  refine cons (opg rfl rfl (Ev.neq_u8 (.g rfl id) (.c (v := U8 0) rfl)) ?_)
  refine cons (opg rfl rfl (Ev.pickA (.g rfl id) (fun {_} h => by cases h; rfl) ⟨_, rfl⟩ (by intro h1 h; first | (rw [h] <;> rfl) | (rw [h1, h] <;> rfl) | (rw [h, h1] <;> rfl) | simp_all) (.c (v := .bool false) rfl)) ?_)
  refine cons (opv (Ev.pickO (.t rfl) (.c (v := .bool true) rfl) (fun {_} h => by cases h; rfl) ⟨_, rfl⟩ (by intro h1 h; first | (rw [h] <;> rfl) | (rw [h1, h] <;> rfl) | (rw [h, h1] <;> rfl) | simp_all)) ?_)
  refine cons (opv (Ev.move (.t rfl)) (cons (opg rfl rfl (Ev.move (.t rfl)) ?_)))
  refine cons (opg rfl rfl (Ev.not (.g rfl id)) ?_)
  refine cons (opg rfl rfl (Ev.move (.g rfl id)) ?_)
  refine cons (opg rfl rfl (Ev.fieldAddr (o := 40) (.t rfl) (by kernel_rfl)) ?_)
  refine cons (opg rfl rfl (Ev.ldx m.srcPort ty72 (.g rfl id) SMatch.l_srcPort) ?_)
  refine cons (opg rfl rfl (Ev.ldv ty72 (.t rfl) (Lens.id _)) ?_)
  refine cons (opg rfl rfl (Ev.neqS rfl eqok72 rfl (by kernel_rfl) (.g rfl id) (.g rfl id)) ?_)
  refine cons (opg rfl rfl (Ev.pickA (.g rfl id) (fun {_} h => by cases h; rfl) ⟨_, rfl⟩ (by intro h1 h; first | (rw [h] <;> rfl) | (rw [h1, h] <;> rfl) | (rw [h, h1] <;> rfl) | simp_all) (.c (v := .bool false) rfl)) ?_)
  refine cons (opv (Ev.pickO (.t rfl) (.c (v := .bool true) rfl) (fun {_} h => by cases h; rfl) ⟨_, rfl⟩ (by intro h1 h; first | (rw [h] <;> rfl) | (rw [h1, h] <;> rfl) | (rw [h, h1] <;> rfl) | simp_all)) ?_)
  refine cons (opv (Ev.move (.t rfl)) (cons (opg rfl rfl (Ev.move (.t rfl)) ?_)))
  refine cons (opg rfl rfl (Ev.not (.g rfl id)) ?_)
  refine cons (opg rfl rfl (Ev.move (.g rfl id)) ?_)
  refine cons (opg rfl rfl (Ev.fieldAddr (o := 42) (.t rfl) (by kernel_rfl)) ?_)
  refine cons (opg rfl rfl (Ev.ldx m.dstPort ty72 (.g rfl id) SMatch.l_dstPort) ?_)
  refine cons (opg rfl rfl (Ev.ldv ty72 (.t rfl) (Lens.id _)) ?_)
  refine cons (opg rfl rfl (Ev.neqS rfl eqok72 rfl (by kernel_rfl) (.g rfl id) (.g rfl id)) ?_)
  refine cons (opg rfl rfl (Ev.pickA (.g rfl id) (fun {_} h => by cases h; rfl) ⟨_, rfl⟩ (by intro h1 h; first | (rw [h] <;> rfl) | (rw [h1, h] <;> rfl) | (rw [h, h1] <;> rfl) | simp_all) (.c (v := .bool false) rfl)) ?_)
  refine cons (opv (Ev.pickO (.t rfl) (.c (v := .bool true) rfl) (fun {_} h => by cases h; rfl) ⟨_, rfl⟩ (by intro h1 h; first | (rw [h] <;> rfl) | (rw [h1, h] <;> rfl) | (rw [h, h1] <;> rfl) | simp_all)) ?_)
  refine nil (pN ?_)
  first | refine condD rfl (fun h0 => ?_) (fun h0 => ?_) | refine cond rfl (fun h0 => ?_) (fun h0 => ?_)
  · refine seq (region (cons (opv (Ev.assign (.c (v := .bool false) rfl)) ?_)))
    refine nil (pN (ret (pR (done rfl (.tmp rfl .nil) (retE ?_)))))
    have hb : bad0 m = true := by simpa [bad0, Bool.or_assoc] using h0
    unfold okM; rw [hb]; rfl
  · refine skip (pN (seq (seq (region (cons (opv (Ev.fieldAddr (o := 1) (.t rfl) (by kernel_rfl)) ?_))))))
    refine cons (opv (Ev.fieldAddr (o := 0) (.t rfl) (by kernel_rfl)) ?_)
    refine cons (opv (Ev.ldx m.in_.from_ ty70 (.t rfl) (Lens.comp SMatch.l_in_ SSpan.l_from_)) ?_)
    refine cons (opv (Ev.fieldAddr (o := 1) (.t rfl) (by kernel_rfl)) ?_)
    refine cons (opv (Ev.fieldAddr (o := 1) (.t rfl) (by kernel_rfl)) ?_)
    refine cons (opv (Ev.ldx m.in_.to_ ty70 (.t rfl) (Lens.comp SMatch.l_in_ SSpan.l_to_)) ?_)
    refine cons (opv (Ev.gtr_u16 (.t rfl) (.t rfl)) ?_)
    refine cons (opv (Ev.move (.t rfl)) (cons (opg rfl rfl (Ev.fieldAddr (o := 1) (.t rfl) (by kernel_rfl)) ?_)))
    refine cons (opg rfl rfl (Ev.fieldAddr (o := 1) (.g rfl id) (by kernel_rfl)) ?_)
    refine cons (opg rfl rfl (Ev.ldx m.in_.to_ ty70 (.g rfl id) (Lens.comp SMatch.l_in_ SSpan.l_to_)) ?_)
    refine cons (opg rfl rfl (Ev.gtr_u16 (.g rfl id) (.c (v := U16 255) rfl)) ?_)
    refine cons (opv (Ev.pickO (.t rfl) (.c (v := .bool true) rfl) (fun {_} h => by cases h; rfl) ⟨_, rfl⟩ (by intro h1 h; first | (rw [h] <;> rfl) | (rw [h1, h] <;> rfl) | (rw [h, h1] <;> rfl) | simp_all)) ?_)
    refine cons (opv (Ev.move (.t rfl)) (cons (opg rfl rfl (Ev.fieldAddr (o := 40) (.t rfl) (by kernel_rfl)) ?_)))
    refine cons (opg rfl rfl (Ev.fieldAddr (o := 0) (.g rfl id) (by kernel_rfl)) ?_)
    refine cons (opg rfl rfl (Ev.ldx m.srcPort.from_ ty70 (.g rfl id) (Lens.comp SMatch.l_srcPort SSpan.l_from_)) ?_)
    refine cons (opg rfl rfl (Ev.fieldAddr (o := 40) (.t rfl) (by kernel_rfl)) ?_)
    refine cons (opg rfl rfl (Ev.fieldAddr (o := 1) (.g rfl id) (by kernel_rfl)) ?_)
    refine cons (opg rfl rfl (Ev.ldx m.srcPort.to_ ty70 (.g rfl id) (Lens.comp SMatch.l_srcPort SSpan.l_to_)) ?_)
    refine cons (opg rfl rfl (Ev.gtr_u16 (.g rfl id) (.g rfl id)) ?_)
    refine cons (opv (Ev.pickO (.t rfl) (.c (v := .bool true) rfl) (fun {_} h => by cases h; rfl) ⟨_, rfl⟩ (by intro h1 h; first | (rw [h] <;> rfl) | (rw [h1, h] <;> rfl) | (rw [h, h1] <;> rfl) | simp_all)) ?_)
    refine cons (opv (Ev.move (.t rfl)) (cons (opg rfl rfl (Ev.fieldAddr (o := 42) (.t rfl) (by kernel_rfl)) ?_)))
    refine cons (opg rfl rfl (Ev.fieldAddr (o := 0) (.g rfl id) (by kernel_rfl)) ?_)
    refine cons (opg rfl rfl (Ev.ldx m.dstPort.from_ ty70 (.g rfl id) (Lens.comp SMatch.l_dstPort SSpan.l_from_)) ?_)
    refine cons (opg rfl rfl (Ev.fieldAddr (o := 42) (.t rfl) (by kernel_rfl)) ?_)
    refine cons (opg rfl rfl (Ev.fieldAddr (o := 1) (.g rfl id) (by kernel_rfl)) ?_)
    refine cons (opg rfl rfl (Ev.ldx m.dstPort.to_ ty70 (.g rfl id) (Lens.comp SMatch.l_dstPort SSpan.l_to_)) ?_)
    refine cons (opg rfl rfl (Ev.gtr_u16 (.g rfl id) (.g rfl id)) ?_)
    refine cons (opv (Ev.pickO (.t rfl) (.c (v := .bool true) rfl) (fun {_} h => by cases h; rfl) ⟨_, rfl⟩ (by intro h1 h; first | (rw [h] <;> rfl) | (rw [h1, h] <;> rfl) | (rw [h, h1] <;> rfl) | simp_all)) ?_)
    refine nil (pN ?_)
    first | refine condD rfl (fun h1 => ?_) (fun h1 => ?_) | refine cond rfl (fun h1 => ?_) (fun h1 => ?_)
    · refine seq (region (cons (opv (Ev.assign (.c (v := .bool false) rfl)) ?_)))
      refine nil (pN (ret (pR (done rfl (.tmp rfl .nil) (retE ?_)))))
      have hb : bad1 m = true := by simpa [bad1, or_assoc] using h1
      unfold okM; rw [hb]; simp [tupV]
    · refine skip (pN (seq (seq (region (cons (opv (Ev.move (.t rfl)) (cons (opv (Ev.move (.t rfl)) (cons (opg rfl rfl (Ev.fieldAddr (o := 3) (.t rfl) (by kernel_rfl)) ?_))))))))))
      refine cons (opg rfl rfl (Ev.ldx m.src ty50 (.g rfl id) SMatch.l_src) ?_)
      refine cons (callg rfl rfl en185 (.cons (.g rfl id) .nil) (fun hg w I => rprefix_ok _ w) ?_)
      refine cons (opg rfl rfl (Ev.not (.g rfl id)) ?_)
      refine cons (opv (Ev.pickA (.t rfl) (fun {_} h => by cases h; rfl) ⟨_, rfl⟩ (by intro h1 h; first | (rw [h] <;> rfl) | (rw [h1, h] <;> rfl) | (rw [h, h1] <;> rfl) | simp_all) (.c (v := .bool false) rfl)) ?_)
      refine cons (opv (Ev.move (.t rfl)) (cons (opg rfl rfl (Ev.move (.t rfl)) ?_)))
      refine cons (opg rfl rfl (Ev.move (.g rfl id)) ?_)
      refine cons (opg rfl rfl (Ev.fieldAddr (o := 21) (.t rfl) (by kernel_rfl)) ?_)
      refine cons (opg rfl rfl (Ev.ldx m.dst ty50 (.g rfl id) SMatch.l_dst) ?_)
      refine cons (callg rfl rfl en185 (.cons (.g rfl id) .nil) (fun hg w I => rprefix_ok _ w) ?_)
      refine cons (opg rfl rfl (Ev.not (.g rfl id)) ?_)
      refine cons (opg rfl rfl (Ev.pickA (.g rfl id) (fun {_} h => by cases h; rfl) ⟨_, rfl⟩ (by intro h1 h; first | (rw [h] <;> rfl) | (rw [h1, h] <;> rfl) | (rw [h, h1] <;> rfl) | simp_all) (.c (v := .bool false) rfl)) ?_)
      refine cons (opv (Ev.pickO (.t rfl) (.c (v := .bool true) rfl) (fun {_} h => by cases h; rfl) ⟨_, rfl⟩ (by intro h1 h; first | (rw [h] <;> rfl) | (rw [h1, h] <;> rfl) | (rw [h, h1] <;> rfl) | simp_all)) ?_)
      refine cons (opv (Ev.move (.t rfl)) (cons (opg rfl rfl (Ev.move (.t rfl)) ?_)))
      refine cons (opg rfl rfl (Ev.move (.g rfl id)) ?_)
      refine cons (opg rfl rfl (Ev.move (.t rfl)) ?_)
      refine cons (opg rfl rfl (Ev.pickA (.g rfl id) (fun {_} h => by cases h; rfl) ⟨_, rfl⟩ (by intro h1 h; first | (rw [h] <;> rfl) | (rw [h1, h] <;> rfl) | (rw [h, h1] <;> rfl) | simp_all) (.c (v := .bool false) rfl)) ?_)
      refine cons (opg rfl rfl (Ev.move (.g rfl id)) ?_)
      refine cons (opg rfl rfl (Ev.fieldAddr (o := 3) (.t rfl) (by kernel_rfl)) ?_)
      refine cons (opg rfl rfl (Ev.fieldAddr (o := 0) (.g rfl id) (by kernel_rfl)) ?_)
      refine cons (opg rfl rfl (Ev.fieldAddr (o := 0) (.g rfl id) (by kernel_rfl)) ?_)
      refine cons (opg rfl rfl (Ev.ldx m.src.addr.v6 ty4 (.g rfl id) (Lens.comp (Lens.comp SMatch.l_src SPrefix.l_addr) SAddr.l_v6)) ?_)
      refine cons (opg rfl rfl (Ev.fieldAddr (o := 21) (.t rfl) (by kernel_rfl)) ?_)
      refine cons (opg rfl rfl (Ev.fieldAddr (o := 0) (.g rfl id) (by kernel_rfl)) ?_)
      refine cons (opg rfl rfl (Ev.fieldAddr (o := 0) (.g rfl id) (by kernel_rfl)) ?_)
      refine cons (opg rfl rfl (Ev.ldx m.dst.addr.v6 ty4 (.g rfl id) (Lens.comp (Lens.comp SMatch.l_dst SPrefix.l_addr) SAddr.l_v6)) ?_)
      refine cons (opg rfl rfl (Ev.neq_b Tryz.underlying4 (.g rfl id) (.g rfl id)) ?_)
      refine cons (opg rfl rfl (Ev.pickA (.g rfl id) (fun {_} h => by cases h; rfl) ⟨_, rfl⟩ (by intro h1 h; first | (rw [h] <;> rfl) | (rw [h1, h] <;> rfl) | (rw [h, h1] <;> rfl) | simp_all) (.c (v := .bool false) rfl)) ?_)
      refine cons (opv (Ev.pickO (.t rfl) (.c (v := .bool true) rfl) (fun {_} h => by cases h; rfl) ⟨_, rfl⟩ (by intro h1 h; first | (rw [h] <;> rfl) | (rw [h1, h] <;> rfl) | (rw [h, h1] <;> rfl) | simp_all)) ?_)
      refine nil (pN ?_)
      first | refine condD rfl (fun h2 => ?_) (fun h2 => ?_) | refine cond rfl (fun h2 => ?_) (fun h2 => ?_)
      · refine seq (region (cons (opv (Ev.assign (.c (v := .bool false) rfl)) ?_)))
        refine nil (pN (ret (pR (done rfl (.tmp rfl .nil) (retE ?_)))))
        have hb : bad2 m = true := by simpa [bad2, or_assoc, and_assoc] using h2
        unfold okM; rw [hb]; simp [tupV]
      · refine skip (pN (seq (region (cons (opv (Ev.move (.t rfl)) (cons (opv (Ev.not (.t rfl)) ?_)))))))
        refine cons (opv (Ev.move (.t rfl)) (cons (opg rfl rfl (Ev.move (.t rfl)) ?_)))
        refine cons (opg rfl rfl (Ev.not (.g rfl id)) ?_)
        refine cons (opv (Ev.pickA (.t rfl) (fun {_} h => by cases h; rfl) ⟨_, rfl⟩ (by intro h1 h; first | (rw [h] <;> rfl) | (rw [h1, h] <;> rfl) | (rw [h, h1] <;> rfl) | simp_all) (.c (v := .bool false) rfl)) ?_)
        refine cons (opv (Ev.move (.t rfl)) (cons (opg rfl rfl (Ev.move (.t rfl)) ?_)))
        refine cons (opg rfl rfl (Ev.move (.g rfl id)) ?_)
        refine cons (opg rfl rfl (Ev.fieldAddr (o := 39) (.t rfl) (by kernel_rfl)) ?_)
        refine cons (opg rfl rfl (Ev.ldx m.proto ty5 (.g rfl id) SMatch.l_proto) ?_)
        refine cons (callg rfl rfl en186 (.cons (.g rfl id) .nil) (fun hg w I => rports_ok _ w) ?_)
        refine cons (opg rfl rfl (Ev.pickA (.g rfl id) (fun {_} h => by cases h; rfl) ⟨_, rfl⟩ (by intro h1 h; first | (rw [h] <;> rfl) | (rw [h1, h] <;> rfl) | (rw [h, h1] <;> rfl) | simp_all) (.c (v := .bool false) rfl)) ?_)
        refine cons (opv (Ev.pickO (.t rfl) (.c (v := .bool true) rfl) (fun {_} h => by cases h; rfl) ⟨_, rfl⟩ (by intro h1 h; first | (rw [h] <;> rfl) | (rw [h1, h] <;> rfl) | (rw [h, h1] <;> rfl) | simp_all)) ?_)
        refine cons (opv (Ev.assign (.t rfl)) (nil (pN (ret (done rfl (.tmp rfl .nil) (retE ?_))))))
        have b0 : bad0 m = false := by unfold bad0; simpa using h0
        have b1 : bad1 m = false := h1
        have b2 : bad2 m = false := h2
        unfold okM; rw [b0, b1, b2]; simp [good3, tupV]

theorem en153 : Gx.Enters Tryz.prog 153 := Gx.Enters.mk' (by kernel_rfl)

theorem check_ok (m : SMatch) (w : World) : Calls Tryz.prog 117 #[eMatch.val m] w (RetV w (I (ckM m))) := by
  refine enter0 136 Tryz.func117 rfl rfl (Nat.le_of_ble_eq_true rfl) ?_
  refine seq (region (cons (box (E := eMatch) (.t rfl) (fun b1 => ?_))))
  refine cons (opv (Ev.assign (.c (v := I 0) rfl)) ?_)
  refine nil (pN (seq (region (cons (opv (Ev.assign (.c (v := U8 0) rfl)) ?_)))))
  refine nil (pN (cut (X := UInt8) (fun x : UInt8 => (x = addF (!decide (m.in_ = eSpan.zero)) 1 0)) (fun x : UInt8 => [(1, true, .pointer (some ⟨b1, 0, none⟩)), (3, true, U8 x)]) (fun x : UInt8 => [Var b1 eMatch m 74]) ?_ (fun x hx => ?_)))
  · refine seq (region (cons (opv (Ev.fieldAddr (o := 1) (.t rfl) (by kernel_rfl)) ?_)))
    refine cons (opv (Ev.ldx m.in_ ty72 (.t rfl) SMatch.l_in_) ?_)
    refine cons (opv (Ev.buildS (fs := _) (places := [(0, 1), (1, 1)]) z72 rfl Tryz.underlying72 (by kernel_rfl) .nil Fills.nil) ?_)
    refine cons (opv (Ev.neqS rfl eqok72 rfl (by kernel_rfl) (.t rfl) (.t rfl)) ?_)
    refine nil (pN ?_)
    first | refine condD rfl (fun h0 => ?_) (fun h0 => ?_) | refine cond rfl (fun h0 => ?_) (fun h0 => ?_)
    · refine region (cons (opv (Ev.move (.t rfl)) (cons (opv (Ev.or_u8 (.t rfl) (.c (v := U8 1) rfl)) ?_))))
      refine cons (opv (Ev.assign (.t rfl)) (nil (pN (mt (X := UInt8) (_) ?_))))
      · try dsimp only
        all_goals (unfold addF; first | (simp_all; done) | rfl)
    · refine skip (pN (mt (X := UInt8) (_) ?_))
      · try dsimp only
        all_goals (unfold addF; first | (simp_all; done) | rfl)
  obtain ⟨k1, rfl⟩ : ∃ y, y = x := ⟨x, rfl⟩
  have hk1 : k1 = addF (!decide (m.in_ = eSpan.zero)) 1 0 := hx
  clear hx
  show Sat _ _ [(1, true, .pointer (some ⟨b1, 0, none⟩)), (3, true, U8 k1)] [Var b1 eMatch m 74]
  refine cut (X := UInt8) (fun x : UInt8 => (x = addF (!decide (m.src = ePrefix.zero)) 2 k1)) (fun x : UInt8 => [(1, true, .pointer (some ⟨b1, 0, none⟩)), (3, true, U8 x)]) (fun x : UInt8 => [Var b1 eMatch m 74]) ?_ (fun x hx => ?_)
  · refine seq (region (cons (opv (Ev.fieldAddr (o := 3) (.t rfl) (by kernel_rfl)) ?_)))
    refine cons (opv (Ev.ldx m.src ty50 (.t rfl) SMatch.l_src) ?_)
    refine cons (opv (Ev.buildS (fs := _) (places := [(0, 17), (17, 1)]) z50 rfl Tryz.underlying50 (by kernel_rfl) .nil Fills.nil) ?_)
    refine cons (opv (Ev.neqS rfl eqok50 rfl (by kernel_rfl) (.t rfl) (.t rfl)) ?_)
    refine nil (pN ?_)
    first | refine condD rfl (fun h1 => ?_) (fun h1 => ?_) | refine cond rfl (fun h1 => ?_) (fun h1 => ?_)
    · refine region (cons (opv (Ev.move (.t rfl)) (cons (opv (Ev.or_u8 (.t rfl) (.c (v := U8 2) rfl)) ?_))))
      refine cons (opv (Ev.assign (.t rfl)) (nil (pN (mt (X := UInt8) (_) ?_))))
      · try dsimp only
        all_goals (unfold addF; first | (simp_all; done) | rfl)
    · refine skip (pN (mt (X := UInt8) (_) ?_))
      · try dsimp only
        all_goals (unfold addF; first | (simp_all; done) | rfl)
  obtain ⟨k2, rfl⟩ : ∃ y, y = x := ⟨x, rfl⟩
  have hk2 : k2 = addF (!decide (m.src = ePrefix.zero)) 2 k1 := hx
  clear hx
  show Sat _ _ [(1, true, .pointer (some ⟨b1, 0, none⟩)), (3, true, U8 k2)] [Var b1 eMatch m 74]
  refine cut (X := UInt8) (fun x : UInt8 => (x = addF (!decide (m.dst = ePrefix.zero)) 4 k2)) (fun x : UInt8 => [(1, true, .pointer (some ⟨b1, 0, none⟩)), (3, true, U8 x)]) (fun x : UInt8 => [Var b1 eMatch m 74]) ?_ (fun x hx => ?_)
  · refine seq (region (cons (opv (Ev.fieldAddr (o := 21) (.t rfl) (by kernel_rfl)) ?_)))
    refine cons (opv (Ev.ldx m.dst ty50 (.t rfl) SMatch.l_dst) ?_)
    refine cons (opv (Ev.buildS (fs := _) (places := [(0, 17), (17, 1)]) z50 rfl Tryz.underlying50 (by kernel_rfl) .nil Fills.nil) ?_)
    refine cons (opv (Ev.neqS rfl eqok50 rfl (by kernel_rfl) (.t rfl) (.t rfl)) ?_)
    refine nil (pN ?_)
    first | refine condD rfl (fun h2 => ?_) (fun h2 => ?_) | refine cond rfl (fun h2 => ?_) (fun h2 => ?_)
    · refine region (cons (opv (Ev.move (.t rfl)) (cons (opv (Ev.or_u8 (.t rfl) (.c (v := U8 4) rfl)) ?_))))
      refine cons (opv (Ev.assign (.t rfl)) (nil (pN (mt (X := UInt8) (_) ?_))))
      · try dsimp only
        all_goals (unfold addF; first | (simp_all; done) | rfl)
    · refine skip (pN (mt (X := UInt8) (_) ?_))
      · try dsimp only
        all_goals (unfold addF; first | (simp_all; done) | rfl)
  obtain ⟨k3, rfl⟩ : ∃ y, y = x := ⟨x, rfl⟩
  have hk3 : k3 = addF (!decide (m.dst = ePrefix.zero)) 4 k2 := hx
  clear hx
  show Sat _ _ [(1, true, .pointer (some ⟨b1, 0, none⟩)), (3, true, U8 k3)] [Var b1 eMatch m 74]
  refine cut (X := UInt8) (fun x : UInt8 => (x = addF (decide (¬ m.proto = 0)) 8 k3)) (fun x : UInt8 => [(1, true, .pointer (some ⟨b1, 0, none⟩)), (3, true, U8 x)]) (fun x : UInt8 => [Var b1 eMatch m 74]) ?_ (fun x hx => ?_)
  · refine seq (region (cons (opv (Ev.fieldAddr (o := 39) (.t rfl) (by kernel_rfl)) ?_)))
    refine cons (opv (Ev.ldx m.proto ty5 (.t rfl) SMatch.l_proto) ?_)
    refine cons (opv (Ev.neq_u8 (.t rfl) (.c (v := U8 0) rfl)) ?_)
    refine nil (pN ?_)
    first | refine condD rfl (fun h3 => ?_) (fun h3 => ?_) | refine cond rfl (fun h3 => ?_) (fun h3 => ?_)
    · refine region (cons (opv (Ev.move (.t rfl)) (cons (opv (Ev.or_u8 (.t rfl) (.c (v := U8 8) rfl)) ?_))))
      refine cons (opv (Ev.assign (.t rfl)) (nil (pN (mt (X := UInt8) (_) ?_))))
      · try dsimp only
        all_goals (unfold addF; first | (simp_all; done) | rfl)
    · refine skip (pN (mt (X := UInt8) (_) ?_))
      · try dsimp only
        all_goals (unfold addF; first | (simp_all; done) | rfl)
  obtain ⟨k4, rfl⟩ : ∃ y, y = x := ⟨x, rfl⟩
  have hk4 : k4 = addF (decide (¬ m.proto = 0)) 8 k3 := hx
  clear hx
  show Sat _ _ [(1, true, .pointer (some ⟨b1, 0, none⟩)), (3, true, U8 k4)] [Var b1 eMatch m 74]
  refine cut (X := UInt8) (fun x : UInt8 => (x = addF (!decide (m.srcPort = eSpan.zero)) 16 k4)) (fun x : UInt8 => [(1, true, .pointer (some ⟨b1, 0, none⟩)), (3, true, U8 x)]) (fun x : UInt8 => [Var b1 eMatch m 74]) ?_ (fun x hx => ?_)
  · refine seq (region (cons (opv (Ev.fieldAddr (o := 40) (.t rfl) (by kernel_rfl)) ?_)))
    refine cons (opv (Ev.ldx m.srcPort ty72 (.t rfl) SMatch.l_srcPort) ?_)
    refine cons (opv (Ev.buildS (fs := _) (places := [(0, 1), (1, 1)]) z72 rfl Tryz.underlying72 (by kernel_rfl) .nil Fills.nil) ?_)
    refine cons (opv (Ev.neqS rfl eqok72 rfl (by kernel_rfl) (.t rfl) (.t rfl)) ?_)
    refine nil (pN ?_)
    first | refine condD rfl (fun h4 => ?_) (fun h4 => ?_) | refine cond rfl (fun h4 => ?_) (fun h4 => ?_)
    · refine region (cons (opv (Ev.move (.t rfl)) (cons (opv (Ev.or_u8 (.t rfl) (.c (v := U8 16) rfl)) ?_))))
      refine cons (opv (Ev.assign (.t rfl)) (nil (pN (mt (X := UInt8) (_) ?_))))
      · try dsimp only
        all_goals (unfold addF; first | (simp_all; done) | rfl)
    · refine skip (pN (mt (X := UInt8) (_) ?_))
      · try dsimp only
        all_goals (unfold addF; first | (simp_all; done) | rfl)
  obtain ⟨k5, rfl⟩ : ∃ y, y = x := ⟨x, rfl⟩
  have hk5 : k5 = addF (!decide (m.srcPort = eSpan.zero)) 16 k4 := hx
  clear hx
  show Sat _ _ [(1, true, .pointer (some ⟨b1, 0, none⟩)), (3, true, U8 k5)] [Var b1 eMatch m 74]
  refine cut (X := UInt8) (fun x : UInt8 => (x = addF (!decide (m.dstPort = eSpan.zero)) 32 k5)) (fun x : UInt8 => [(1, true, .pointer (some ⟨b1, 0, none⟩)), (3, true, U8 x)]) (fun x : UInt8 => [Var b1 eMatch m 74]) ?_ (fun x hx => ?_)
  · refine seq (region (cons (opv (Ev.fieldAddr (o := 42) (.t rfl) (by kernel_rfl)) ?_)))
    refine cons (opv (Ev.ldx m.dstPort ty72 (.t rfl) SMatch.l_dstPort) ?_)
    refine cons (opv (Ev.buildS (fs := _) (places := [(0, 1), (1, 1)]) z72 rfl Tryz.underlying72 (by kernel_rfl) .nil Fills.nil) ?_)
    refine cons (opv (Ev.neqS rfl eqok72 rfl (by kernel_rfl) (.t rfl) (.t rfl)) ?_)
    refine nil (pN ?_)
    first | refine condD rfl (fun h5 => ?_) (fun h5 => ?_) | refine cond rfl (fun h5 => ?_) (fun h5 => ?_)
    · refine region (cons (opv (Ev.move (.t rfl)) (cons (opv (Ev.or_u8 (.t rfl) (.c (v := U8 32) rfl)) ?_))))
      refine cons (opv (Ev.assign (.t rfl)) (nil (pN (mt (X := UInt8) (_) ?_))))
      · try dsimp only
        all_goals (unfold addF; first | (simp_all; done) | rfl)
    · refine skip (pN (mt (X := UInt8) (_) ?_))
      · try dsimp only
        all_goals (unfold addF; first | (simp_all; done) | rfl)
  obtain ⟨k6, rfl⟩ : ∃ y, y = x := ⟨x, rfl⟩
  have hk6 : k6 = addF (!decide (m.dstPort = eSpan.zero)) 32 k5 := hx
  clear hx
  show Sat _ _ [(1, true, .pointer (some ⟨b1, 0, none⟩)), (3, true, U8 k6)] [Var b1 eMatch m 74]
  refine seq (region (cons (opv (Ev.move (.t rfl)) (cons (opv (Ev.fieldAddr (o := 0) (.t rfl) (by kernel_rfl)) ?_)))))
  refine cons (opv (Ev.ldx m.asks ty5 (.t rfl) SMatch.l_asks) ?_)
  refine cons (opv (Ev.andNot_u8 (.t rfl) (.t rfl)) ?_)
  refine cons (opv (Ev.assign (.t rfl)) (nil (pN (seq (region (cons (opv (Ev.ldx m ty74 (.t rfl) (Lens.id _)) ?_)))))))
  refine cons (callv en153 (.cons (.t rfl) (.cons (.c (v := U8 48) rfl) .nil)) (fun w I => asks_ok _ _ w) ?_)
  refine cons (opv (Ev.assign (.t rfl)) (nil (pN (seq (block (seq (region ?_)))))))
  have hhb := has_bad m (!decide (m.in_ = eSpan.zero)) (!decide (m.src = ePrefix.zero)) (!decide (m.dst = ePrefix.zero)) (decide (¬ m.proto = 0)) (!decide (m.srcPort = eSpan.zero)) (!decide (m.dstPort = eSpan.zero))
  rw [← hk1, ← hk2, ← hk3, ← hk4, ← hk5, ← hk6] at hhb
  refine cons (opv (Ev.fieldAddr (o := 0) (.t rfl) (by kernel_rfl)) ?_)
  refine cons (opv (Ev.ldx m.asks ty5 (.t rfl) SMatch.l_asks) ?_)
  refine cons (opv (Ev.andNot_u8 (.t rfl) (.c (v := U8 63) rfl)) ?_)
  refine cons (opv (Ev.neq_u8 (.t rfl) (.c (v := U8 0) rfl)) ?_)
  refine cons (opv (Ev.move (.t rfl)) (cons (opg rfl rfl (Ev.move (.t rfl)) ?_)))
  refine cons (opg rfl rfl (Ev.neq_u8 (.g rfl id) (.c (v := U8 0) rfl)) ?_)
  refine cons (opv (Ev.pickO (.t rfl) (.c (v := .bool true) rfl) (fun {_} h => by cases h; rfl) ⟨_, rfl⟩ (by intro h1 h; first | (rw [h] <;> rfl) | (rw [h1, h] <;> rfl) | (rw [h, h1] <;> rfl) | simp_all)) ?_)
  refine cons (opv (Ev.assign (.t rfl)) (nil (pN ?_)))
  first | refine condD rfl (fun h6 => ?_) (fun h6 => ?_) | refine cond rfl (fun h6 => ?_) (fun h6 => ?_)
  · refine seq (region (cons (opv (Ev.assign (.c (v := I 190) rfl)) ?_)))
    refine nil (pN (ret (bR (pR (done rfl (.tmp rfl .nil) (retE ?_))))))
    have hb : bad0 m = true := hhb.symm.trans h6
    unfold ckM okM; rw [hb]; rfl
  · refine seq (region (cons (opv (Ev.fieldAddr (o := 1) (.t rfl) (by kernel_rfl)) ?_)))
    refine cons (opv (Ev.fieldAddr (o := 0) (.t rfl) (by kernel_rfl)) ?_)
    refine cons (opv (Ev.ldx m.in_.from_ ty70 (.t rfl) (Lens.comp SMatch.l_in_ SSpan.l_from_)) ?_)
    refine cons (opv (Ev.fieldAddr (o := 1) (.t rfl) (by kernel_rfl)) ?_)
    refine cons (opv (Ev.fieldAddr (o := 1) (.t rfl) (by kernel_rfl)) ?_)
    refine cons (opv (Ev.ldx m.in_.to_ ty70 (.t rfl) (Lens.comp SMatch.l_in_ SSpan.l_to_)) ?_)
    refine cons (opv (Ev.gtr_u16 (.t rfl) (.t rfl)) ?_)
    refine cons (opv (Ev.move (.t rfl)) (cons (opg rfl rfl (Ev.fieldAddr (o := 1) (.t rfl) (by kernel_rfl)) ?_)))
    refine cons (opg rfl rfl (Ev.fieldAddr (o := 1) (.g rfl id) (by kernel_rfl)) ?_)
    refine cons (opg rfl rfl (Ev.ldx m.in_.to_ ty70 (.g rfl id) (Lens.comp SMatch.l_in_ SSpan.l_to_)) ?_)
    refine cons (opg rfl rfl (Ev.gtr_u16 (.g rfl id) (.c (v := U16 255) rfl)) ?_)
    refine cons (opv (Ev.pickO (.t rfl) (.c (v := .bool true) rfl) (fun {_} h => by cases h; rfl) ⟨_, rfl⟩ (by intro h1 h; first | (rw [h] <;> rfl) | (rw [h1, h] <;> rfl) | (rw [h, h1] <;> rfl) | simp_all)) ?_)
    refine cons (opv (Ev.move (.t rfl)) (cons (opg rfl rfl (Ev.fieldAddr (o := 40) (.t rfl) (by kernel_rfl)) ?_)))
    refine cons (opg rfl rfl (Ev.fieldAddr (o := 0) (.g rfl id) (by kernel_rfl)) ?_)
    refine cons (opg rfl rfl (Ev.ldx m.srcPort.from_ ty70 (.g rfl id) (Lens.comp SMatch.l_srcPort SSpan.l_from_)) ?_)
    refine cons (opg rfl rfl (Ev.fieldAddr (o := 40) (.t rfl) (by kernel_rfl)) ?_)
    refine cons (opg rfl rfl (Ev.fieldAddr (o := 1) (.g rfl id) (by kernel_rfl)) ?_)
    refine cons (opg rfl rfl (Ev.ldx m.srcPort.to_ ty70 (.g rfl id) (Lens.comp SMatch.l_srcPort SSpan.l_to_)) ?_)
    refine cons (opg rfl rfl (Ev.gtr_u16 (.g rfl id) (.g rfl id)) ?_)
    refine cons (opv (Ev.pickO (.t rfl) (.c (v := .bool true) rfl) (fun {_} h => by cases h; rfl) ⟨_, rfl⟩ (by intro h1 h; first | (rw [h] <;> rfl) | (rw [h1, h] <;> rfl) | (rw [h, h1] <;> rfl) | simp_all)) ?_)
    refine cons (opv (Ev.move (.t rfl)) (cons (opg rfl rfl (Ev.fieldAddr (o := 42) (.t rfl) (by kernel_rfl)) ?_)))
    refine cons (opg rfl rfl (Ev.fieldAddr (o := 0) (.g rfl id) (by kernel_rfl)) ?_)
    refine cons (opg rfl rfl (Ev.ldx m.dstPort.from_ ty70 (.g rfl id) (Lens.comp SMatch.l_dstPort SSpan.l_from_)) ?_)
    refine cons (opg rfl rfl (Ev.fieldAddr (o := 42) (.t rfl) (by kernel_rfl)) ?_)
    refine cons (opg rfl rfl (Ev.fieldAddr (o := 1) (.g rfl id) (by kernel_rfl)) ?_)
    refine cons (opg rfl rfl (Ev.ldx m.dstPort.to_ ty70 (.g rfl id) (Lens.comp SMatch.l_dstPort SSpan.l_to_)) ?_)
    refine cons (opg rfl rfl (Ev.gtr_u16 (.g rfl id) (.g rfl id)) ?_)
    refine cons (opv (Ev.pickO (.t rfl) (.c (v := .bool true) rfl) (fun {_} h => by cases h; rfl) ⟨_, rfl⟩ (by intro h1 h; first | (rw [h] <;> rfl) | (rw [h1, h] <;> rfl) | (rw [h, h1] <;> rfl) | simp_all)) ?_)
    refine cons (opv (Ev.assign (.t rfl)) (nil (pN ?_)))
    first | refine condD rfl (fun h7 => ?_) (fun h7 => ?_) | refine cond rfl (fun h7 => ?_) (fun h7 => ?_)
    · refine seq (region (cons (opv (Ev.assign (.c (v := I 190) rfl)) ?_)))
      refine nil (pN (ret (bR (pR (done rfl (.tmp rfl .nil) (retE ?_))))))
      have hb : bad1 m = true := h7
      unfold ckM okM; rw [hb]; simp [tupV]
    · refine seq (region (cons (opv (Ev.ldx m ty74 (.t rfl) (Lens.id _)) ?_)))
      refine cons (callv en153 (.cons (.t rfl) (.cons (.c (v := U8 2) rfl) .nil)) (fun w I => asks_ok _ _ w) ?_)
      refine cons (opv (Ev.move (.t rfl)) (cons (opg rfl rfl (Ev.fieldAddr (o := 3) (.t rfl) (by kernel_rfl)) ?_)))
      refine cons (opg rfl rfl (Ev.ldx m.src ty50 (.g rfl id) SMatch.l_src) ?_)
      refine cons (callg rfl rfl en114 (.cons (.g rfl id) .nil) (fun hg w I => checkP_ok _ w) ?_)
      refine cons (opg rfl rfl (Ev.neq_i (.g rfl id) (.c (v := I 0) rfl)) ?_)
      refine cons (opv (Ev.pickA (.t rfl) (fun {_} h => by cases h; rfl) ⟨_, rfl⟩ (by intro h1 h; first | (rw [h] <;> rfl) | (rw [h1, h] <;> rfl) | (rw [h, h1] <;> rfl) | simp_all) (.c (v := .bool false) rfl)) ?_)
      refine cons (opv (Ev.move (.t rfl)) (cons (opg rfl rfl (Ev.ldx m ty74 (.t rfl) (Lens.id _)) ?_)))
      refine cons (callg rfl rfl en153 (.cons (.g rfl id) (.cons (.c (v := U8 4) rfl) .nil)) (fun hg w I => asks_ok _ _ w) ?_)
      refine cons (opg rfl rfl (Ev.move (.g rfl id)) ?_)
      refine cons (opg rfl rfl (Ev.fieldAddr (o := 21) (.t rfl) (by kernel_rfl)) ?_)
      refine cons (opg rfl rfl (Ev.ldx m.dst ty50 (.g rfl id) SMatch.l_dst) ?_)
      refine cons (callg rfl rfl en114 (.cons (.g rfl id) .nil) (fun hg w I => checkP_ok _ w) ?_)
      refine cons (opg rfl rfl (Ev.neq_i (.g rfl id) (.c (v := I 0) rfl)) ?_)
      refine cons (opg rfl rfl (Ev.pickA (.g rfl id) (fun {_} h => by cases h; rfl) ⟨_, rfl⟩ (by intro h1 h; first | (rw [h] <;> rfl) | (rw [h1, h] <;> rfl) | (rw [h, h1] <;> rfl) | simp_all) (.c (v := .bool false) rfl)) ?_)
      refine cons (opv (Ev.pickO (.t rfl) (.c (v := .bool true) rfl) (fun {_} h => by cases h; rfl) ⟨_, rfl⟩ (by intro h1 h; first | (rw [h] <;> rfl) | (rw [h1, h] <;> rfl) | (rw [h, h1] <;> rfl) | simp_all)) ?_)
      refine cons (opv (Ev.assign (.t rfl)) (nil (pN ?_)))
      first | refine condD rfl (fun h8 => ?_) (fun h8 => ?_) | refine cond rfl (fun h8 => ?_) (fun h8 => ?_)
      · refine seq (region (cons (opv (Ev.assign (.c (v := I 190) rfl)) ?_)))
        refine nil (pN (ret (bR (pR (done rfl (.tmp rfl .nil) (retE ?_))))))
        have hb : bad2 m = true := by unfold bad2; simp only [Bool.or_eq_true] at h8 ⊢; left; simpa using h8
        unfold ckM okM; rw [hb]; simp [tupV]
      · refine seq (region (cons (opv (Ev.ldx m ty74 (.t rfl) (Lens.id _)) ?_)))
        refine cons (callv en153 (.cons (.t rfl) (.cons (.c (v := U8 2) rfl) .nil)) (fun w I => asks_ok _ _ w) ?_)
        refine cons (opv (Ev.move (.t rfl)) (cons (opg rfl rfl (Ev.ldx m ty74 (.t rfl) (Lens.id _)) ?_)))
        refine cons (callg rfl rfl en153 (.cons (.g rfl id) (.cons (.c (v := U8 4) rfl) .nil)) (fun hg w I => asks_ok _ _ w) ?_)
        refine cons (opv (Ev.pickA (.t rfl) (fun {_} h => by cases h; rfl) ⟨_, rfl⟩ (by intro h1 h; first | (rw [h] <;> rfl) | (rw [h1, h] <;> rfl) | (rw [h, h1] <;> rfl) | simp_all) (.c (v := .bool false) rfl)) ?_)
        refine cons (opv (Ev.move (.t rfl)) (cons (opg rfl rfl (Ev.fieldAddr (o := 3) (.t rfl) (by kernel_rfl)) ?_)))
        refine cons (opg rfl rfl (Ev.fieldAddr (o := 0) (.g rfl id) (by kernel_rfl)) ?_)
        refine cons (opg rfl rfl (Ev.fieldAddr (o := 0) (.g rfl id) (by kernel_rfl)) ?_)
        refine cons (opg rfl rfl (Ev.ldx m.src.addr.v6 ty4 (.g rfl id) (Lens.comp (Lens.comp SMatch.l_src SPrefix.l_addr) SAddr.l_v6)) ?_)
        refine cons (opg rfl rfl (Ev.fieldAddr (o := 21) (.t rfl) (by kernel_rfl)) ?_)
        refine cons (opg rfl rfl (Ev.fieldAddr (o := 0) (.g rfl id) (by kernel_rfl)) ?_)
        refine cons (opg rfl rfl (Ev.fieldAddr (o := 0) (.g rfl id) (by kernel_rfl)) ?_)
        refine cons (opg rfl rfl (Ev.ldx m.dst.addr.v6 ty4 (.g rfl id) (Lens.comp (Lens.comp SMatch.l_dst SPrefix.l_addr) SAddr.l_v6)) ?_)
        refine cons (opg rfl rfl (Ev.neq_b Tryz.underlying4 (.g rfl id) (.g rfl id)) ?_)
        refine cons (opv (Ev.pickA (.t rfl) (fun {_} h => by cases h; rfl) ⟨_, rfl⟩ (by intro h1 h; first | (rw [h] <;> rfl) | (rw [h1, h] <;> rfl) | (rw [h, h1] <;> rfl) | simp_all) (.c (v := .bool false) rfl)) ?_)
        refine cons (opv (Ev.assign (.t rfl)) (nil (pN ?_)))
        first | refine condD rfl (fun h9 => ?_) (fun h9 => ?_) | refine cond rfl (fun h9 => ?_) (fun h9 => ?_)
        · refine seq (region (cons (opv (Ev.assign (.c (v := I 190) rfl)) ?_)))
          refine nil (pN (ret (bR (pR (done rfl (.tmp rfl .nil) (retE ?_))))))
          have hb : bad2 m = true := by unfold bad2; simp only [Bool.or_eq_true] at h9 ⊢; right; exact h9
          unfold ckM okM; rw [hb]; simp [tupV]
        · refine seq (region (cons (opv (Ev.move (.t rfl)) (cons (opv (Ev.move (.t rfl)) (cons (opg rfl rfl (Ev.fieldAddr (o := 39) (.t rfl) (by kernel_rfl)) ?_)))))))
          refine cons (opg rfl rfl (Ev.ldx m.proto ty5 (.g rfl id) SMatch.l_proto) ?_)
          refine cons (opg rfl rfl (Ev.neq_u8 (.g rfl id) (.c (v := U8 6) rfl)) ?_)
          refine cons (opv (Ev.pickA (.t rfl) (fun {_} h => by cases h; rfl) ⟨_, rfl⟩ (by intro h1 h; first | (rw [h] <;> rfl) | (rw [h1, h] <;> rfl) | (rw [h, h1] <;> rfl) | simp_all) (.c (v := .bool false) rfl)) ?_)
          refine cons (opv (Ev.move (.t rfl)) (cons (opg rfl rfl (Ev.fieldAddr (o := 39) (.t rfl) (by kernel_rfl)) ?_)))
          refine cons (opg rfl rfl (Ev.ldx m.proto ty5 (.g rfl id) SMatch.l_proto) ?_)
          refine cons (opg rfl rfl (Ev.neq_u8 (.g rfl id) (.c (v := U8 17) rfl)) ?_)
          refine cons (opv (Ev.pickA (.t rfl) (fun {_} h => by cases h; rfl) ⟨_, rfl⟩ (by intro h1 h; first | (rw [h] <;> rfl) | (rw [h1, h] <;> rfl) | (rw [h, h1] <;> rfl) | simp_all) (.c (v := .bool false) rfl)) ?_)
          refine cons (opv (Ev.assign (.t rfl)) (nil (pN ?_)))
          first | refine condD rfl (fun h10 => ?_) (fun h10 => ?_) | refine cond rfl (fun h10 => ?_) (fun h10 => ?_)
          · refine seq (region (cons (opv (Ev.assign (.c (v := I 190) rfl)) ?_)))
            refine nil (pN (ret (bR (pR (done rfl (.tmp rfl .nil) (retE ?_))))))
            have hb : good3 m = false := by
              rw [asks48] at h10
              simp at h10
              obtain ⟨⟨ha, hb6⟩, hb17⟩ := h10
              unfold good3 portsB
              simp [hb6, hb17]
              intro h16
              simpa [h16] using ha
            unfold ckM okM; rw [hb]; simp [tupV]
          · refine skip (bN (pN (seq (region (cons (opv (Ev.assign (.c (v := I 0) rfl)) ?_))))))
            refine nil (pN (ret (done rfl (.tmp rfl .nil) (retE ?_))))
            have b0 : bad0 m = false := hhb.symm.trans h6
            have b1 : bad1 m = false := h7
            have b2 : bad2 m = false := by
              unfold bad2
              simp at h8 h9 ⊢
              exact ⟨h8, h9⟩
            have hp : asksB m 8 = false → m.proto = 0 := by
              unfold bad0 at b0
              simp at b0
              exact b0.1.1.2
            rw [asks48] at h10
            have hg : good3 m = true := good3_of m (by simpa using h10) hp
            unfold ckM okM
            rw [b0, b1, b2, hg]
            rfl
end Go.Proofs.YtnoobdijbpmjkaaGreat

/- conf -/
namespace Go.Proofs.YtnoobdijbpmjkaaGreat
open Go Go.Gx

def inM (m : List (ByteArray × Int)) (s : ByteArray) : Bool := (findV eqs s m).isSome
/-- Is a rule's port none that it may have? -/
def ruleO (l : CL) (r : SRule) : Bool := if r.action = 3 then !portB l r.out else decide (¬ r.out = 0)
/-- What is wrong with a rule. -/
def ruleE (l : CL) (r : SRule) (i : Int) : Int := if nameB r.name = false then 201 else if (findV eqs r.name (rulesM l)).getD 0 < i then 2 else if okM r.match_ = false then 190 else if r.action < 1 ∨ 4 < r.action then 2 else if ruleO l r = true then 5
  else if (r.meter ≠ ⟨#[]⟩ ∧ inM (metersM l) r.meter = false) ∨ (r.mirror ≠ ⟨#[]⟩ ∧ inM (mirrorsM l) r.mirror = false) then 210 else 0
/-- May a mirror have that room? -/
def roomB (n : Int) : Bool := decide (2 ≤ n ∧ n ≤ 1024 ∧ n.toNat &&& (n.toNat - 1) = 0)
def mirrorE (l : CL) (m : SMirrorConf) (i : Int) : Int := if nameB m.name = false then 201 else if (findV eqs m.name (mirrorsM l)).getD 0 < i then 2 else if portB l m.out = false then 5 else if roomB m.room = false then 2 else 0

theorem mirror_ok (k : KB) (l : CL) (m : SMirrorConf) (i : Int) (w : World) (hk : KnownAt w k l) (hs : m.name.size ≤ 9223372036854775807) : Calls Tryz.prog 46 #[eConfKnown.val k.k, eMirrorConf.val m, I i] w (RetV w (I (mirrorE l m i))) := by
  refine enter0 44 Tryz.func46 rfl rfl (Nat.le_of_ble_eq_true rfl) ?_
  refine seq (region (cons (box (E := eConfKnown) (.t rfl) (fun b1 => ?_))))
  refine cons (box (E := eMirrorConf) (.t rfl) (fun b2 => ?_))
  refine cons (opv (Ev.assign (.c (v := I 0) rfl)) ?_)
  refine nil (pN (seq (block (seq (region (cons (opv (Ev.fieldAddr (o := 0) (.t rfl) (by kernel_rfl)) ?_)))))))
  refine cons (opv (Ev.ldx m.name ty9 (.t rfl) SMirrorConf.l_name) ?_)
  refine cons (callv en116 (.cons (.t rfl) .nil) (fun w I => name_ok _ w hs) ?_)
  refine cons (opv (Ev.not (.t rfl)) ?_)
  refine cons (opv (Ev.assign (.t rfl)) (nil (pN ?_)))
  first | refine condD rfl (fun h0 => ?_) (fun h0 => ?_) | refine cond rfl (fun h0 => ?_) (fun h0 => ?_)
  · try simp only [nb] at h0
    refine seq (region (cons (opv (Ev.assign (.c (v := I 201) rfl)) ?_)))
    refine nil (pN (ret (bR (pR (done rfl (.tmp rfl .nil) (retE ?_))))))
    unfold mirrorE; rw [if_pos (by simpa using h0)]; rfl
  · try simp only [nb] at h0
    refine seq (region (cons (opv (Ev.fieldAddr (o := 4) (.t rfl) (by kernel_rfl)) ?_)))
    refine cons (opv (Ev.ldv ty82 (.t rfl) SConfKnown.l_mirrors) ?_)
    refine cons (opv (Ev.fieldAddr (o := 0) (.t rfl) (by kernel_rfl)) ?_)
    refine cons (opv (Ev.ldx m.name ty9 (.t rfl) SMirrorConf.l_name) ?_)
    refine cons (opv (Ev.lookupF Tryz.underlying82 Tryz.underlying9 key9 z3 (.t rfl) (.t rfl) (fun _ => (fun w I => hk.xs.keep0 I.keeps))) ?_)
    refine cons (opv (Ev.move (.t rfl)) (cons (opv (Ev.lss_i (.t rfl) (.t rfl)) ?_)))
    refine cons (opv (Ev.assign (.t rfl)) (nil (pN ?_)))
    first | refine condD rfl (fun h1 => ?_) (fun h1 => ?_) | refine cond rfl (fun h1 => ?_) (fun h1 => ?_)
    · try simp only [nb] at h1
      refine seq (region (cons (opv (Ev.assign (.c (v := I 2) rfl)) ?_)))
      refine nil (pN (ret (bR (pR (done rfl (.tmp rfl .nil) (retE ?_))))))
      unfold mirrorE; rw [if_neg (by simpa using h0), if_pos (by simpa using h1)]; rfl
    · try simp only [nb] at h1
      refine seq (region (cons (opv (Ev.ldv ty84 (.t rfl) (Lens.id _)) ?_)))
      refine cons (opv (Ev.fieldAddr (o := 1) (.t rfl) (by kernel_rfl)) ?_)
      refine cons (opv (Ev.ldx m.out ty3 (.t rfl) SMirrorConf.l_out) ?_)
      refine cons (callv en115 (.cons (.t rfl) (.cons (.t rfl) .nil)) (fun w I => port_ok _ l _ w (hk.keep0 I.keeps)) ?_)
      refine cons (opv (Ev.not (.t rfl)) ?_)
      refine cons (opv (Ev.assign (.t rfl)) (nil (pN ?_)))
      first | refine condD rfl (fun h2 => ?_) (fun h2 => ?_) | refine cond rfl (fun h2 => ?_) (fun h2 => ?_)
      · try simp only [nb] at h2
        refine seq (region (cons (opv (Ev.assign (.c (v := I 5) rfl)) ?_)))
        refine nil (pN (ret (bR (pR (done rfl (.tmp rfl .nil) (retE ?_))))))
        unfold mirrorE; rw [if_neg (by simpa using h0), if_neg (by simpa using h1), if_pos (by simpa using h2)]; rfl
      · try simp only [nb] at h2
        refine seq (region (cons (opv (Ev.fieldAddr (o := 2) (.t rfl) (by kernel_rfl)) ?_)))
        refine cons (opv (Ev.ldx m.room ty3 (.t rfl) SMirrorConf.l_room) ?_)
        refine cons (opv (Ev.lss_i (.t rfl) (.c (v := I 2) rfl)) ?_)
        refine cons (opv (Ev.move (.t rfl)) (cons (opg rfl rfl (Ev.fieldAddr (o := 2) (.t rfl) (by kernel_rfl)) ?_)))
        refine cons (opg rfl rfl (Ev.ldx m.room ty3 (.g rfl id) SMirrorConf.l_room) ?_)
        refine cons (opg rfl rfl (Ev.gtr_i (.g rfl id) (.c (v := I 1024) rfl)) ?_)
        refine cons (opv (Ev.pickO (.t rfl) (.c (v := .bool true) rfl) (fun {_} h => by cases h; rfl) ⟨_, rfl⟩ (by intro h1 h; first | (rw [h] <;> rfl) | (rw [h1, h] <;> rfl) | (rw [h, h1] <;> rfl) | simp_all)) ?_)
        refine cons (opv (Ev.move (.t rfl)) (cons (opg rfl rfl (Ev.fieldAddr (o := 2) (.t rfl) (by kernel_rfl)) ?_)))
        refine cons (opg rfl rfl (Ev.ldx m.room ty3 (.g rfl id) SMirrorConf.l_room) ?_)
        refine cons (opg rfl rfl (Ev.fieldAddr (o := 2) (.t rfl) (by kernel_rfl)) ?_)
        refine cons (opg rfl rfl (Ev.ldx m.room ty3 (.g rfl id) SMirrorConf.l_room) ?_)
        refine cons (opg rfl rfl (Ev.sub_i (.g rfl id) (.c (v := I 1) rfl) (fun _ => by first | omega | (rename_i hg; simp at hg; omega))) ?_)
        refine cons (opg rfl rfl (Ev.and_n (.g rfl id) (.g rfl id) (fun hg => by simp at hg; omega) (fun hg => by simp at hg; omega)) ?_)
        refine cons (opg rfl rfl (Ev.neq_i (.g rfl id) (.c (v := I 0) rfl)) ?_)
        refine cons (opv (Ev.pickO (.t rfl) (.c (v := .bool true) rfl) (fun {_} h => by cases h; rfl) ⟨_, rfl⟩ (by intro h1 h; first | (rw [h] <;> rfl) | (rw [h1, h] <;> rfl) | (rw [h, h1] <;> rfl) | simp_all)) ?_)
        refine cons (opv (Ev.assign (.t rfl)) (nil (pN ?_)))
        first | refine condD rfl (fun h3 => ?_) (fun h3 => ?_) | refine cond rfl (fun h3 => ?_) (fun h3 => ?_)
        · refine seq (region (cons (opv (Ev.assign (.c (v := I 2) rfl)) ?_)))
          refine nil (pN (ret (bR (pR (done rfl (.tmp rfl .nil) (retE ?_))))))
          have hr : roomB m.room = false := by
            unfold roomB
            simp at h3 ⊢
            intro h1 h2
            rcases h3 with (h3 | h3) | h3
            · omega
            · omega
            · exact h3
          unfold mirrorE; rw [if_neg (by simpa using h0), if_neg (by simpa using h1), if_neg (by simpa using h2), if_pos hr]; rfl
        · refine skip (bN (pN (seq (region (cons (opv (Ev.assign (.c (v := I 0) rfl)) ?_))))))
          refine nil (pN (ret (done rfl (.tmp rfl .nil) (retE ?_))))
          have hr : roomB m.room = true := by
            unfold roomB
            simp at h3 ⊢
            exact ⟨h3.1.1, h3.1.2, h3.2⟩
          unfold mirrorE; rw [if_neg (by simpa using h0), if_neg (by simpa using h1), if_neg (by simpa using h2), if_neg (by rw [hr]; simp)]; rfl

theorem en117 : Gx.Enters Tryz.prog 117 := Gx.Enters.mk' (by kernel_rfl)

theorem rule_ok (k : KB) (l : CL) (r : SRule) (i : Int) (w : World) (hk : KnownAt w k l) (hs : r.name.size ≤ 9223372036854775807) : Calls Tryz.prog 42 #[eConfKnown.val k.k, eRule.val r, I i] w (RetV w (I (ruleE l r i))) := by
  refine enter0 83 Tryz.func42 rfl rfl (Nat.le_of_ble_eq_true rfl) ?_
  refine seq (region (cons (box (E := eConfKnown) (.t rfl) (fun b1 => ?_))))
  refine cons (box (E := eRule) (.t rfl) (fun b2 => ?_))
  refine cons (opv (Ev.assign (.c (v := I 0) rfl)) ?_)
  refine nil (pN (seq (region (cons (opv (Ev.fieldAddr (o := 46) (.t rfl) (by kernel_rfl)) ?_)))))
  refine cons (opv (Ev.ldx r.out ty3 (.t rfl) SRule.l_out) ?_)
  refine cons (opv (Ev.eql_i (.t rfl) (.c (v := I 0) rfl)) ?_)
  refine cons (opv (Ev.assign (.t rfl)) (nil (pN (cut (X := Bool) (fun x : Bool => ((!x) = ruleO l r)) (fun x : Bool => [(2, true, I i), (3, true, .pointer (some ⟨b1, 0, none⟩)), (4, true, .pointer (some ⟨b2, 0, none⟩)), (7, true, .bool x)]) (fun x : Bool => [Var b2 eRule r 76, Var b1 eConfKnown k.k 84]) ?_ (fun x hx => ?_)))))
  · refine seq (region (cons (opv (Ev.fieldAddr (o := 45) (.t rfl) (by kernel_rfl)) ?_)))
    refine cons (opv (Ev.ldx r.action ty3 (.t rfl) SRule.l_action) ?_)
    refine cons (opv (Ev.eql_i (.t rfl) (.c (v := I 3) rfl)) ?_)
    refine nil (pN ?_)
    first | refine condD rfl (fun h0 => ?_) (fun h0 => ?_) | refine cond rfl (fun h0 => ?_) (fun h0 => ?_)
    · refine region (cons (opv (Ev.ldv ty84 (.t rfl) (Lens.id _)) ?_))
      refine cons (opv (Ev.fieldAddr (o := 46) (.t rfl) (by kernel_rfl)) ?_)
      refine cons (opv (Ev.ldx r.out ty3 (.t rfl) SRule.l_out) ?_)
      refine cons (callv en115 (.cons (.t rfl) (.cons (.t rfl) .nil)) (fun w I => port_ok _ l _ w (hk.keep0 I.keeps)) ?_)
      refine cons (opv (Ev.assign (.t rfl)) (nil (pN (mt (X := Bool) (_) ?_))))
      · try dsimp only
        unfold ruleO; simp_all
    · refine skip (pN (mt (X := Bool) (_) ?_))
      · try dsimp only
        unfold ruleO; simp_all
  obtain ⟨out, rfl⟩ : ∃ y, y = x := ⟨x, rfl⟩
  have hout : (!out) = ruleO l r := hx
  clear hx
  show Sat _ _ [(2, true, I i), (3, true, .pointer (some ⟨b1, 0, none⟩)), (4, true, .pointer (some ⟨b2, 0, none⟩)), (7, true, .bool out)] [Var b2 eRule r 76, Var b1 eConfKnown k.k 84]
  refine seq (region (cons (opv (Ev.fieldAddr (o := 3) (.t rfl) (by kernel_rfl)) ?_)))
  refine cons (opv (Ev.ldv ty82 (.t rfl) SConfKnown.l_meters) ?_)
  refine cons (opv (Ev.fieldAddr (o := 47) (.t rfl) (by kernel_rfl)) ?_)
  refine cons (opv (Ev.ldx r.meter ty9 (.t rfl) SRule.l_meter) ?_)
  refine cons (opv (Ev.lookupT Tryz.underlying82 Tryz.underlying9 key9 z3 (.t rfl) (.t rfl) (fun _ => (fun w I => hk.ms.keep0 I.keeps))) ?_)
  refine cons (opv (Ev.move (.t rfl)) (cons (opv (Ev.extract (.t rfl) rfl) (cons (opv (Ev.extract (.t rfl) rfl) (cons (opv (Ev.assign (.t rfl)) (cons (opv (Ev.assign (.t rfl)) (nil (pN (seq (region (cons (opv (Ev.fieldAddr (o := 4) (.t rfl) (by kernel_rfl)) ?_)))))))))))))))
  refine cons (opv (Ev.ldv ty82 (.t rfl) SConfKnown.l_mirrors) ?_)
  refine cons (opv (Ev.fieldAddr (o := 48) (.t rfl) (by kernel_rfl)) ?_)
  refine cons (opv (Ev.ldx r.mirror ty9 (.t rfl) SRule.l_mirror) ?_)
  refine cons (opv (Ev.lookupT Tryz.underlying82 Tryz.underlying9 key9 z3 (.t rfl) (.t rfl) (fun _ => (fun w I => hk.xs.keep0 I.keeps))) ?_)
  refine cons (opv (Ev.move (.t rfl)) (cons (opv (Ev.extract (.t rfl) rfl) (cons (opv (Ev.extract (.t rfl) rfl) (cons (opv (Ev.assign (.t rfl)) (cons (opv (Ev.assign (.t rfl)) (nil (pN (seq (block (seq (region (cons (opv (Ev.fieldAddr (o := 0) (.t rfl) (by kernel_rfl)) ?_)))))))))))))))))
  refine cons (opv (Ev.ldx r.name ty9 (.t rfl) SRule.l_name) ?_)
  refine cons (callv en116 (.cons (.t rfl) .nil) (fun w I => name_ok _ w hs) ?_)
  refine cons (opv (Ev.not (.t rfl)) ?_)
  refine cons (opv (Ev.assign (.t rfl)) (nil (pN ?_)))
  first | refine condD rfl (fun h1 => ?_) (fun h1 => ?_) | refine cond rfl (fun h1 => ?_) (fun h1 => ?_)
  · refine seq (region (cons (opv (Ev.assign (.c (v := I 201) rfl)) ?_)))
    refine nil (pN (ret (bR (pR (done rfl (.tmp rfl .nil) (retE ?_))))))
    have p1 : nameB r.name = false := by simpa using h1
    unfold ruleE
    rw [if_pos p1]
    rfl
  · refine seq (region (cons (opv (Ev.fieldAddr (o := 2) (.t rfl) (by kernel_rfl)) ?_)))
    refine cons (opv (Ev.ldv ty82 (.t rfl) SConfKnown.l_rules) ?_)
    refine cons (opv (Ev.fieldAddr (o := 0) (.t rfl) (by kernel_rfl)) ?_)
    refine cons (opv (Ev.ldx r.name ty9 (.t rfl) SRule.l_name) ?_)
    refine cons (opv (Ev.lookupF Tryz.underlying82 Tryz.underlying9 key9 z3 (.t rfl) (.t rfl) (fun _ => (fun w I => hk.us.keep0 I.keeps))) ?_)
    refine cons (opv (Ev.move (.t rfl)) (cons (opv (Ev.lss_i (.t rfl) (.t rfl)) ?_)))
    refine cons (opv (Ev.assign (.t rfl)) (nil (pN ?_)))
    first | refine condD rfl (fun h2 => ?_) (fun h2 => ?_) | refine cond rfl (fun h2 => ?_) (fun h2 => ?_)
    · refine seq (region (cons (opv (Ev.assign (.c (v := I 2) rfl)) ?_)))
      refine nil (pN (ret (bR (pR (done rfl (.tmp rfl .nil) (retE ?_))))))
      have n1 : ¬ (nameB r.name = false) := by simpa using h1
      have p2 : (findV eqs r.name (rulesM l)).getD 0 < i := by simpa using h2
      unfold ruleE
      rw [if_neg n1, if_pos p2]
      rfl
    · refine seq (region (cons (opv (Ev.fieldAddr (o := 1) (.t rfl) (by kernel_rfl)) ?_)))
      refine cons (opv (Ev.ldx r.match_ ty74 (.t rfl) SRule.l_match_) ?_)
      refine cons (callv en117 (.cons (.t rfl) .nil) (fun w I => check_ok _ w) ?_)
      refine cons (opv (Ev.neq_i (.t rfl) (.c (v := I 0) rfl)) ?_)
      refine cons (opv (Ev.assign (.t rfl)) (nil (pN ?_)))
      first | refine condD rfl (fun h3 => ?_) (fun h3 => ?_) | refine cond rfl (fun h3 => ?_) (fun h3 => ?_)
      · refine seq (region (cons (opv (Ev.assign (.c (v := I 190) rfl)) ?_)))
        refine nil (pN (ret (bR (pR (done rfl (.tmp rfl .nil) (retE ?_))))))
        have n1 : ¬ (nameB r.name = false) := by simpa using h1
        have n2 : ¬ ((findV eqs r.name (rulesM l)).getD 0 < i) := by simpa using h2
        have p3 : okM r.match_ = false := by
          have h3c : decide (ckM r.match_ = 0) = false := by simpa using h3
          rwa [ckM_zero] at h3c
        unfold ruleE
        rw [if_neg n1, if_neg n2, if_pos p3]
        rfl
      · refine seq (region (cons (opv (Ev.fieldAddr (o := 45) (.t rfl) (by kernel_rfl)) ?_)))
        refine cons (opv (Ev.ldx r.action ty3 (.t rfl) SRule.l_action) ?_)
        refine cons (opv (Ev.lss_i (.t rfl) (.c (v := I 1) rfl)) ?_)
        refine cons (opv (Ev.move (.t rfl)) (cons (opg rfl rfl (Ev.fieldAddr (o := 45) (.t rfl) (by kernel_rfl)) ?_)))
        refine cons (opg rfl rfl (Ev.ldx r.action ty3 (.g rfl id) SRule.l_action) ?_)
        refine cons (opg rfl rfl (Ev.gtr_i (.g rfl id) (.c (v := I 4) rfl)) ?_)
        refine cons (opv (Ev.pickO (.t rfl) (.c (v := .bool true) rfl) (fun {_} h => by cases h; rfl) ⟨_, rfl⟩ (by intro h1 h; first | (rw [h] <;> rfl) | (rw [h1, h] <;> rfl) | (rw [h, h1] <;> rfl) | simp_all)) ?_)
        refine cons (opv (Ev.assign (.t rfl)) (nil (pN ?_)))
        first | refine condD rfl (fun h4 => ?_) (fun h4 => ?_) | refine cond rfl (fun h4 => ?_) (fun h4 => ?_)
        · refine seq (region (cons (opv (Ev.assign (.c (v := I 2) rfl)) ?_)))
          refine nil (pN (ret (bR (pR (done rfl (.tmp rfl .nil) (retE ?_))))))
          have n1 : ¬ (nameB r.name = false) := by simpa using h1
          have n2 : ¬ ((findV eqs r.name (rulesM l)).getD 0 < i) := by simpa using h2
          have n3 : ¬ okM r.match_ = false := by
            have h3c : decide (ckM r.match_ = 0) = true := by simpa using h3
            rw [ckM_zero] at h3c
            rw [h3c]; simp
          have p4 : r.action < 1 ∨ 4 < r.action := by simpa using h4
          unfold ruleE
          rw [if_neg n1, if_neg n2, if_neg n3, if_pos p4]
          rfl
        · refine seq (region (cons (opv (Ev.move (.t rfl)) (cons (opv (Ev.not (.t rfl)) ?_)))))
          refine cons (opv (Ev.assign (.t rfl)) (nil (pN ?_)))
          first | refine condD rfl (fun h5 => ?_) (fun h5 => ?_) | refine cond rfl (fun h5 => ?_) (fun h5 => ?_)
          · refine seq (region (cons (opv (Ev.assign (.c (v := I 5) rfl)) ?_)))
            refine nil (pN (ret (bR (pR (done rfl (.tmp rfl .nil) (retE ?_))))))
            have n1 : ¬ (nameB r.name = false) := by simpa using h1
            have n2 : ¬ ((findV eqs r.name (rulesM l)).getD 0 < i) := by simpa using h2
            have n3 : ¬ okM r.match_ = false := by
              have h3c : decide (ckM r.match_ = 0) = true := by simpa using h3
              rw [ckM_zero] at h3c
              rw [h3c]; simp
            have n4 : ¬ (r.action < 1 ∨ 4 < r.action) := by simpa using h4
            have p5 : ruleO l r = true := by
              rw [← hout]; simpa using h5
            unfold ruleE
            rw [if_neg n1, if_neg n2, if_neg n3, if_neg n4, if_pos p5]
            rfl
          · refine seq (seq (region (cons (opv (Ev.fieldAddr (o := 47) (.t rfl) (by kernel_rfl)) ?_))))
            refine cons (opv (Ev.ldx r.meter ty9 (.t rfl) SRule.l_meter) ?_)
            refine cons (opv (Ev.neq_s (.t rfl) (.c (v := (Go.Value.string (ByteArray.mk #[]))) rfl)) ?_)
            refine cons (opv (Ev.move (.t rfl)) (cons (opg rfl rfl (Ev.move (.t rfl)) ?_)))
            refine cons (opg rfl rfl (Ev.not (.g rfl id)) ?_)
            refine cons (opv (Ev.pickA (.t rfl) (fun {_} h => by cases h; rfl) ⟨_, rfl⟩ (by intro h1 h; first | (rw [h] <;> rfl) | (rw [h1, h] <;> rfl) | (rw [h, h1] <;> rfl) | simp_all) (.c (v := .bool false) rfl)) ?_)
            refine cons (opv (Ev.assign (.t rfl)) (nil (pN ?_)))
            first | refine condD rfl (fun h6 => ?_) (fun h6 => ?_) | refine cond rfl (fun h6 => ?_) (fun h6 => ?_)
            · refine skip (pN ?_)
              first | refine condD rfl (fun h7 => ?_) (fun h7 => ?_) | refine cond rfl (fun h7 => ?_) (fun h7 => ?_)
              · refine seq (region (cons (opv (Ev.assign (.c (v := I 210) rfl)) ?_)))
                refine nil (pN (ret (bR (pR (done rfl (.tmp rfl .nil) (retE ?_))))))
                have n1 : ¬ (nameB r.name = false) := by simpa using h1
                have n2 : ¬ ((findV eqs r.name (rulesM l)).getD 0 < i) := by simpa using h2
                have n3 : ¬ okM r.match_ = false := by
                  have h3c : decide (ckM r.match_ = 0) = true := by simpa using h3
                  rw [ckM_zero] at h3c
                  rw [h3c]; simp
                have n4 : ¬ (r.action < 1 ∨ 4 < r.action) := by simpa using h4
                have n5 : ¬ ruleO l r = true := by
                  rw [← hout]; simpa using h5
                have p6 : (r.meter ≠ ⟨#[]⟩ ∧ inM (metersM l) r.meter = false) ∨ (r.mirror ≠ ⟨#[]⟩ ∧ inM (mirrorsM l) r.mirror = false) := by
                  unfold inM
                  simp_all
                unfold ruleE
                rw [if_neg n1, if_neg n2, if_neg n3, if_neg n4, if_neg n5, if_pos p6]
                rfl
              · refine skip (bN (pN (seq (region (cons (opv (Ev.assign (.c (v := I 0) rfl)) ?_))))))
                refine nil (pN (ret (done rfl (.tmp rfl .nil) (retE ?_))))
                have n1 : ¬ (nameB r.name = false) := by simpa using h1
                have n2 : ¬ ((findV eqs r.name (rulesM l)).getD 0 < i) := by simpa using h2
                have n3 : ¬ okM r.match_ = false := by
                  have h3c : decide (ckM r.match_ = 0) = true := by simpa using h3
                  rw [ckM_zero] at h3c
                  rw [h3c]; simp
                have n4 : ¬ (r.action < 1 ∨ 4 < r.action) := by simpa using h4
                have n5 : ¬ ruleO l r = true := by
                  rw [← hout]; simpa using h5
                have n6 : ¬ ((r.meter ≠ ⟨#[]⟩ ∧ inM (metersM l) r.meter = false) ∨ (r.mirror ≠ ⟨#[]⟩ ∧ inM (mirrorsM l) r.mirror = false)) := by
                  unfold inM
                  first
                    | (exfalso; simp_all; done)
                    | (simp at h6 h7
                       rintro (⟨a, b⟩ | ⟨a, b⟩)
                       · rw [h6 a] at b; cases b
                       · rw [h7 a] at b; cases b)
                unfold ruleE
                rw [if_neg n1, if_neg n2, if_neg n3, if_neg n4, if_neg n5, if_neg n6]
                rfl
            · refine region (cons (opv (Ev.fieldAddr (o := 48) (.t rfl) (by kernel_rfl)) ?_))
              refine cons (opv (Ev.ldx r.mirror ty9 (.t rfl) SRule.l_mirror) ?_)
              refine cons (opv (Ev.neq_s (.t rfl) (.c (v := (Go.Value.string (ByteArray.mk #[]))) rfl)) ?_)
              refine cons (opv (Ev.move (.t rfl)) (cons (opg rfl rfl (Ev.move (.t rfl)) ?_)))
              refine cons (opg rfl rfl (Ev.not (.g rfl id)) ?_)
              refine cons (opv (Ev.pickA (.t rfl) (fun {_} h => by cases h; rfl) ⟨_, rfl⟩ (by intro h1 h; first | (rw [h] <;> rfl) | (rw [h1, h] <;> rfl) | (rw [h, h1] <;> rfl) | simp_all) (.c (v := .bool false) rfl)) ?_)
              refine cons (opv (Ev.assign (.t rfl)) (nil (pN ?_)))
              first | refine condD rfl (fun h7 => ?_) (fun h7 => ?_) | refine cond rfl (fun h7 => ?_) (fun h7 => ?_)
              · refine seq (region (cons (opv (Ev.assign (.c (v := I 210) rfl)) ?_)))
                refine nil (pN (ret (bR (pR (done rfl (.tmp rfl .nil) (retE ?_))))))
                have n1 : ¬ (nameB r.name = false) := by simpa using h1
                have n2 : ¬ ((findV eqs r.name (rulesM l)).getD 0 < i) := by simpa using h2
                have n3 : ¬ okM r.match_ = false := by
                  have h3c : decide (ckM r.match_ = 0) = true := by simpa using h3
                  rw [ckM_zero] at h3c
                  rw [h3c]; simp
                have n4 : ¬ (r.action < 1 ∨ 4 < r.action) := by simpa using h4
                have n5 : ¬ ruleO l r = true := by
                  rw [← hout]; simpa using h5
                have p6 : (r.meter ≠ ⟨#[]⟩ ∧ inM (metersM l) r.meter = false) ∨ (r.mirror ≠ ⟨#[]⟩ ∧ inM (mirrorsM l) r.mirror = false) := by
                  unfold inM
                  simp_all
                unfold ruleE
                rw [if_neg n1, if_neg n2, if_neg n3, if_neg n4, if_neg n5, if_pos p6]
                rfl
              · refine skip (bN (pN (seq (region (cons (opv (Ev.assign (.c (v := I 0) rfl)) ?_))))))
                refine nil (pN (ret (done rfl (.tmp rfl .nil) (retE ?_))))
                have n1 : ¬ (nameB r.name = false) := by simpa using h1
                have n2 : ¬ ((findV eqs r.name (rulesM l)).getD 0 < i) := by simpa using h2
                have n3 : ¬ okM r.match_ = false := by
                  have h3c : decide (ckM r.match_ = 0) = true := by simpa using h3
                  rw [ckM_zero] at h3c
                  rw [h3c]; simp
                have n4 : ¬ (r.action < 1 ∨ 4 < r.action) := by simpa using h4
                have n5 : ¬ ruleO l r = true := by
                  rw [← hout]; simpa using h5
                have n6 : ¬ ((r.meter ≠ ⟨#[]⟩ ∧ inM (metersM l) r.meter = false) ∨ (r.mirror ≠ ⟨#[]⟩ ∧ inM (mirrorsM l) r.mirror = false)) := by
                  unfold inM
                  first
                    | (exfalso; simp_all; done)
                    | (simp at h6 h7
                       rintro (⟨a, b⟩ | ⟨a, b⟩)
                       · rw [h6 a] at b; cases b
                       · rw [h7 a] at b; cases b)
                unfold ruleE
                rw [if_neg n1, if_neg n2, if_neg n3, if_neg n4, if_neg n5, if_neg n6]
                rfl
end Go.Proofs.YtnoobdijbpmjkaaGreat

/- conf -/
namespace Go.Proofs.YtnoobdijbpmjkaaGreat
open Go Go.Gx

structure SConfFaults where
  l : OV
  at_ : Int

def SConfFaults.to : (OV × Int) → SConfFaults := fun x => ⟨x.1, x.2⟩

def SConfFaults.of : SConfFaults → (OV × Int) := fun x => (x.l, x.at_)

def eConfFaults : Enc SConfFaults := isoE (prodE (ovE nilSl) iE) SConfFaults.to SConfFaults.of

def SConfFaults.l_l : Lens eConfFaults (ovE nilSl) 0 := lIso _ SConfFaults.to SConfFaults.of (fun _ => rfl) (lFst (ovE nilSl) iE)

@[simp] theorem SConfFaults.get_l (x : SConfFaults) : SConfFaults.l_l.get x = x.l := rfl

@[simp] theorem SConfFaults.set_l (x : SConfFaults) (y : OV) : SConfFaults.l_l.set x y = { x with l := y } := rfl

def SConfFaults.l_at_ : Lens eConfFaults iE 1 := lIso _ SConfFaults.to SConfFaults.of (fun _ => rfl) (Lens.comp (lSnd (ovE nilSl) iE) (Lens.id iE))

@[simp] theorem SConfFaults.get_at_ (x : SConfFaults) : SConfFaults.l_at_.get x = x.at_ := rfl

@[simp] theorem SConfFaults.set_at_ (x : SConfFaults) (y : Int) : SConfFaults.l_at_.set x y = { x with at_ := y } := rfl

structure SFault where
  code : Int
  at_ : Int

def SFault.to : (Int × Int) → SFault := fun x => ⟨x.1, x.2⟩

def SFault.of : SFault → (Int × Int) := fun x => (x.code, x.at_)

def eFault : Enc SFault := isoE (prodE iE iE) SFault.to SFault.of

def SFault.l_code : Lens eFault iE 0 := lIso _ SFault.to SFault.of (fun _ => rfl) (lFst iE iE)

@[simp] theorem SFault.get_code (x : SFault) : SFault.l_code.get x = x.code := rfl

@[simp] theorem SFault.set_code (x : SFault) (y : Int) : SFault.l_code.set x y = { x with code := y } := rfl

def SFault.l_at_ : Lens eFault iE 1 := lIso _ SFault.to SFault.of (fun _ => rfl) (Lens.comp (lSnd iE iE) (Lens.id iE))

@[simp] theorem SFault.get_at_ (x : SFault) : SFault.l_at_.get x = x.at_ := rfl

@[simp] theorem SFault.set_at_ (x : SFault) (y : Int) : SFault.l_at_.set x y = { x with at_ := y } := rfl

/-- The faults of the first n, whose numbers begin at d. -/
def faultsUp (e : Nat → Int) (d : Int) : Nat → List SFault
  | 0 => []
  | n + 1 => faultsUp e d n ++ (if e n = 0 then [] else [⟨e n, d + n⟩])
theorem faultsUp_len (e : Nat → Int) (d : Int) : ∀ n, (faultsUp e d n).length ≤ n
  | 0 => Nat.le_refl _
  | n + 1 => by
    have := faultsUp_len e d n
    unfold faultsUp
    rw [List.length_append]
    split <;> simp <;> omega
theorem faultsUp_ok {e : Nat → Int} {d i : Int} (h : 0 ≤ i) (he : e i.toNat = 0) : faultsUp e d (i + 1).toNat = faultsUp e d i.toNat := by
  rw [show (i + 1).toNat = i.toNat + 1 by omega, faultsUp, if_pos he, List.append_nil]
theorem faultsUp_bad {e : Nat → Int} {d i : Int} (h : 0 ≤ i) (he : ¬ e i.toNat = 0) : faultsUp e d (i + 1).toNat = faultsUp e d i.toNat ++ [⟨e i.toNat, d + i⟩] := by
  rw [show (i + 1).toNat = i.toNat + 1 by omega, faultsUp, if_neg he]
  have : ((i.toNat : Nat) : Int) = i := by omega
  rw [this]
/-- The faults of a list of n things, of which so many may be at most. -/
def listG (e : Nat → Int) (d : Int) (n most : Nat) : List SFault := faultsUp e d (min n most) ++ (if most < n then [⟨4, d + most⟩] else [])
/-- The faults that are gathered. -/
abbrev FR (b : Nat) (o : OV) (fs : List SFault) (d : Int) : Res := Sep (Var b eConfFaults ⟨o, d⟩ 88) (OwnS o.v eFault fs 37)
theorem getD_take'' {α : Type} (l : List α) (m i : Nat) (d : α) (h : i < m) : (l.take m).getD i d = l.getD i d := by simp [List.getD, List.getElem?_take, h]

theorem ty31 : TyOK Tryz.prog 31 (ovE nilSl) := TyOK.mk' (by kernel_rfl) (by kernel_rfl)

theorem z37 : (Tryz.prog.info? 37).bind (·.zero) = some (eFault.val eFault.zero) := by kernel_rfl

theorem ty37 : TyOK Tryz.prog 37 eFault := TyOK.mk' (by kernel_rfl) (by kernel_rfl)

theorem zb37 : (Tryz.prog.info? 37).map (fun i => (i.zero, i.bytes)) = some (some (eFault.val eFault.zero), 16) := by kernel_rfl

theorem zs37 : (eFault.val eFault.zero).cells.size = eFault.size := by rw [Enc.cells_val, List.size_toArray, Enc.len]

theorem list_3 (f : Nat) (fst cap : List Value) (g : Int → Int → Int) (D : Int → Int → Prop) (b : Nat) (o : OV) (fs : List SFault) (d : Int) (u : Value) (xs : List Int) (most : Nat) (w : World) (hen : Gx.Enters Tryz.prog f) (h : At (FR b o fs d) w) (hxs : ∀ w1, Keeps (FR b o fs d).foot w w1 → IsSl iE w1 u xs) (hk : FnB2 Tryz.prog f fst cap (FR b o fs d).foot w iE iE iE D g) (hD : ∀ i : Nat, i < xs.length → D (xs.getD i iE.zero) i) (hd : 0 ≤ d ∧ d + xs.length ≤ 4611686018427387904) (hf : fs.length + most ≤ 100000) : Calls Tryz.prog 37 #[.pointer (some ⟨b, 0, none⟩), u, I most, (bnd f fst cap).v] w (RetR w (FR b o fs d) (fun _ : OV => True) (fun _ => .tuple #[]) (fun o2 => FR b o2 (fs ++ listG (fun j0 : Nat => g (xs.getD j0 iE.zero) j0) d xs.length most) (d + xs.length))) := by
  obtain ⟨m, hm⟩ : ∃ m : Nat, (min (xs.length : Int) (most : Int)) = (m : Int) := ⟨min xs.length most, by omega⟩
  have hm2 : m = min xs.length most := by omega
  have hle := (hxs w (Keeps.refl _ _)).le
  have htl : (xs.take m).length = m := by simp; omega
  refine enter (FR b o fs d).foot 76 [FR b o fs d] Tryz.func37 rfl rfl (Nat.le_of_ble_eq_true rfl) (start_at h) ?_
  refine sepOut Rem.head ?_
  refine seq (seq (region (cons (opv (Ev.move (.t rfl)) (cons (opv (Ev.move (.t rfl)) (cons (opv (Ev.len Tryz.underlying22 (.t rfl) (fun w I => hxs w I.keeps)) ?_))))))))
  refine cons (opv (Ev.move (.t rfl)) (cons (opv (Ev.to (v' := I ((m : Nat) : Int)) (Ev.min_i (.t rfl) (.t rfl)) (by rw [hm])) ?_)))
  refine cons (opv (Ev.sliceH Tryz.underlying22 ty3 (.t rfl) (.t rfl) (fun w I => hxs w I.keeps) (fun _ => by omega)) ?_)
  refine cons (opv (Ev.len Tryz.underlying22 (.t rfl) (fun w I => by have := (hxs w I.keeps).sub (l := 0) (k := m) (by omega) (by omega); simpa using this)) ?_)
  refine cons (opv (Ev.move (.c (v := I 0) rfl)) ?_)
  refine nil (pN (block (lp (X := Int × OV) (fun x : Int × OV => (0 ≤ x.1 ∧ x.1 ≤ m)) (fun x : Int × OV => [(0, true, .pointer (some ⟨b, 0, none⟩)), (1, true, u), (2, true, I most), (3, true, (bnd f fst cap).v), (16, true, subS iE.size u 0 m), (17, true, I (xs.take m).length), (18, true, I x.1)]) (fun x : Int × OV => [Var b eConfFaults ⟨x.2, d⟩ 88, OwnS x.2.v eFault (fs ++ faultsUp (fun j0 : Nat => g (xs.getD j0 iE.zero) j0) d x.1.toNat) 37]) (fun x : Int × OV => ((m : Int) - x.1).toNat) (0, o) ?_ (fun x hx => ?_) (hL := (by simp only [show (0 : Int).toNat = 0 from rfl, faultsUp, List.append_nil]; repeat first | exact sR | exact sN | apply sC | apply sS | apply sA)))))
  · omega
  obtain ⟨i, q⟩ := x
  have hi : 0 ≤ i ∧ i ≤ m := hx
  clear hx
  show Sat _ _ [(0, true, .pointer (some ⟨b, 0, none⟩)), (1, true, u), (2, true, I most), (3, true, (bnd f fst cap).v), (16, true, subS iE.size u 0 m), (17, true, I (xs.take m).length), (18, true, I i)] [Var b eConfFaults ⟨q, d⟩ 88, OwnS q.v eFault (fs ++ faultsUp (fun j0 : Nat => g (xs.getD j0 iE.zero) j0) d i.toNat) 37]
  refine seq (region (cons (opv (Ev.lss_i (.t rfl) (.t rfl)) ?_)))
  refine nil (pN (seq ?_))
  first | refine condD rfl (fun h0 => ?_) (fun h0 => ?_) | refine cond rfl (fun h0 => ?_) (fun h0 => ?_)
  · try simp only [nb] at h0
    refine skip (pN (seq (block (seq (region (cons (opv (Ev.move (.t rfl)) (cons (opv (Ev.indexAddr Tryz.underlying22 ty3 (.t rfl) (.t rfl) (fun w I => by have := (hxs w I.keeps).sub (l := 0) (k := m) (by omega) (by omega); simpa using this) (fun _ => by omega)) ?_)))))))))
    refine cons (opv (Ev.to (v' := iE.val (xs.getD i.toNat iE.zero)) (Ev.loadS0 ty3 (.t rfl) (fun w I => by have := (hxs w I.keeps).sub (l := 0) (k := m) (by omega) (by omega); simpa using this) (fun _ => by omega)) (congrArg iE.val (getD_take'' xs m i.toNat _ (by omega)))) ?_)
    refine cons (opv (Ev.assign (.t rfl)) (cons (opv (Ev.assign (.t rfl)) (nil (pN (seq (region (cons (opv (Ev.move (.t rfl)) (cons (opv (Ev.move (.t rfl)) (cons (opv (Ev.move (.t rfl)) (cons (callbv (.t rfl) hen (.cons (.t rfl) (.cons (.t rfl) .nil)) (fun w I => hk (xs.getD i.toNat iE.zero) i w (by have := hD i.toNat (by omega); rwa [show ((i.toNat : Nat) : Int) = i by omega] at this) I.keeps) ?_)))))))))))))))
    refine cons (opv (Ev.assign (.t rfl)) (nil (pN (seq (region (cons (opv (Ev.move (.t rfl)) (cons (opv (Ev.neq_i (.t rfl) (.c (v := I 0) rfl)) ?_)))))))))
    refine nil (pN ?_)
    first | refine condD rfl (fun h1 => ?_) (fun h1 => ?_) | refine cond rfl (fun h1 => ?_) (fun h1 => ?_)
    · try simp only [nb] at h1
      have ei : ((i.toNat : Nat) : Int) = i := by omega
      have hst := faultsUp_bad (e := (fun j0 : Nat => g (xs.getD j0 iE.zero) j0)) (d := d) hi.1 (by (try dsimp only); rw [ei]; exact h1)
      (try dsimp only at hst)
      rw [ei] at hst
      refine draw [] (by kernel_rfl) ?_
      refine tk 0 rfl (Ev.move (.t rfl)) ?_
      refine tk 1 rfl (Ev.move (.t rfl)) ?_
      refine tk 2 rfl (Ev.nilCheck (.t rfl)) ?_
      refine tk 3 rfl (Ev.fieldAddr (o := 0) (.t rfl) (by kernel_rfl)) ?_
      refine tk 5 rfl (Ev.move (.t rfl)) ?_
      refine tk 6 rfl (Ev.move (.t rfl)) ?_
      refine tk 7 rfl (Ev.nilCheck (.t rfl)) ?_
      refine tk 8 rfl (Ev.fieldAddr (o := 1) (.t rfl) (by kernel_rfl)) ?_
      refine tk 10 rfl (Ev.move (.t rfl)) ?_
      refine all [4, 9] (by kernel_rfl) (by decide) (.cons rfl ?_ (.cons rfl ?_ .nil))
      · refine (opv (Ev.ldv ty31 (.t rfl) SConfFaults.l_l) ?_)
        refine hdn (al1 9 rfl ((opv (Ev.ldv ty3 (.t rfl) SConfFaults.l_at_) ?_)))
        refine hdn (tk 11 rfl (Ev.add_i (.t rfl) (.t rfl) (fun _ => by simp; omega)) ?_)
        refine tk 12 rfl (Ev.buildS (fs := _) (places := [(0, 1), (1, 1)]) z37 rfl Tryz.underlying37 (by kernel_rfl) (.cons (.t rfl) (.cons (.t rfl) .nil)) (Fills.cons SFault.l_code rfl (Fills.cons SFault.l_at_ rfl Fills.nil))) ?_
        refine al1 13 rfl ((buildSlice (E := eFault) Tryz.underlying31 ty37 z37 (.cons (.t rfl) .nil) rfl rfl (fun v1 => ?_)))
        refine hdn (al1 14 rfl ((app (E := eFault) Tryz.underlying31 ty37 zb37 zs37 (.t rfl) (.t rfl) (fun v2 => ?_) (hby := ⟨by (show _ ≤ 9223372036854775807); have := faultsUp_len (fun j0 : Nat => g (xs.getD j0 iE.zero) j0) d i.toNat; simp only [List.length_append, List.length_cons, List.length_nil]; omega, by have := faultsUp_len (fun j0 : Nat => g (xs.getD j0 iE.zero) j0) d i.toNat; simp only [List.length_append, List.length_cons, List.length_nil]; omega⟩))))
        refine hdn (tk 15 rfl (Ev.nilCheck (.t rfl)) ?_)
        refine tk 16 rfl (Ev.fieldAddr (o := 0) (.t rfl) (by kernel_rfl)) ?_
        refine al1 17 rfl ((stv ty31 SConfFaults.l_l (.t rfl) (.t rfl) ?_))
        refine hdn (ovr (bN (pN (region (cons (opv (Ev.add_i (.t rfl) (.c (v := I 1) rfl) (fun _ => by omega)) ?_))))))
        refine cons (opv (Ev.move (.t rfl)) (nil (pN (nx (X := Int × OV) (i + 1, _) ?_ ?_ (hL := (by rw [hst]; (try rw [← List.append_assoc]); repeat first | exact sR | exact sN | apply sC | apply sS | apply sA))))))
        · try dsimp only
          omega
        · try dsimp only
          omega
      · refine (opv (Ev.ldv ty3 (.t rfl) SConfFaults.l_at_) ?_)
        refine hdn (tk 11 rfl (Ev.add_i (.t rfl) (.t rfl) (fun _ => by simp; omega)) ?_)
        refine tk 12 rfl (Ev.buildS (fs := _) (places := [(0, 1), (1, 1)]) z37 rfl Tryz.underlying37 (by kernel_rfl) (.cons (.t rfl) (.cons (.t rfl) .nil)) (Fills.cons SFault.l_code rfl (Fills.cons SFault.l_at_ rfl Fills.nil))) ?_
        refine all [4, 13] (by kernel_rfl) (by decide) (.cons rfl ?_ (.cons rfl ?_ .nil))
        · refine (opv (Ev.ldv ty31 (.t rfl) SConfFaults.l_l) ?_)
          refine hdn (al1 13 rfl ((buildSlice (E := eFault) Tryz.underlying31 ty37 z37 (.cons (.t rfl) .nil) rfl rfl (fun v3 => ?_))))
          refine hdn (al1 14 rfl ((app (E := eFault) Tryz.underlying31 ty37 zb37 zs37 (.t rfl) (.t rfl) (fun v4 => ?_) (hby := ⟨by (show _ ≤ 9223372036854775807); have := faultsUp_len (fun j0 : Nat => g (xs.getD j0 iE.zero) j0) d i.toNat; simp only [List.length_append, List.length_cons, List.length_nil]; omega, by have := faultsUp_len (fun j0 : Nat => g (xs.getD j0 iE.zero) j0) d i.toNat; simp only [List.length_append, List.length_cons, List.length_nil]; omega⟩))))
          refine hdn (tk 15 rfl (Ev.nilCheck (.t rfl)) ?_)
          refine tk 16 rfl (Ev.fieldAddr (o := 0) (.t rfl) (by kernel_rfl)) ?_
          refine al1 17 rfl ((stv ty31 SConfFaults.l_l (.t rfl) (.t rfl) ?_))
          refine hdn (ovr (bN (pN (region (cons (opv (Ev.add_i (.t rfl) (.c (v := I 1) rfl) (fun _ => by omega)) ?_))))))
          refine cons (opv (Ev.move (.t rfl)) (nil (pN (nx (X := Int × OV) (i + 1, _) ?_ ?_ (hL := (by rw [hst]; (try rw [← List.append_assoc]); repeat first | exact sR | exact sN | apply sC | apply sS | apply sA))))))
          · try dsimp only
            omega
          · try dsimp only
            omega
        · refine (buildSlice (E := eFault) Tryz.underlying31 ty37 z37 (.cons (.t rfl) .nil) rfl rfl (fun v5 => ?_))
          refine hdn (al1 4 rfl ((opv (Ev.ldv ty31 (.t rfl) SConfFaults.l_l) ?_)))
          refine hdn (al1 14 rfl ((app (E := eFault) Tryz.underlying31 ty37 zb37 zs37 (.t rfl) (.t rfl) (fun v6 => ?_) (hby := ⟨by (show _ ≤ 9223372036854775807); have := faultsUp_len (fun j0 : Nat => g (xs.getD j0 iE.zero) j0) d i.toNat; simp only [List.length_append, List.length_cons, List.length_nil]; omega, by have := faultsUp_len (fun j0 : Nat => g (xs.getD j0 iE.zero) j0) d i.toNat; simp only [List.length_append, List.length_cons, List.length_nil]; omega⟩))))
          refine hdn (tk 15 rfl (Ev.nilCheck (.t rfl)) ?_)
          refine tk 16 rfl (Ev.fieldAddr (o := 0) (.t rfl) (by kernel_rfl)) ?_
          refine al1 17 rfl ((stv ty31 SConfFaults.l_l (.t rfl) (.t rfl) ?_))
          refine hdn (ovr (bN (pN (region (cons (opv (Ev.add_i (.t rfl) (.c (v := I 1) rfl) (fun _ => by omega)) ?_))))))
          refine cons (opv (Ev.move (.t rfl)) (nil (pN (nx (X := Int × OV) (i + 1, _) ?_ ?_ (hL := (by rw [hst]; (try rw [← List.append_assoc]); repeat first | exact sR | exact sN | apply sC | apply sS | apply sA))))))
          · try dsimp only
            omega
          · try dsimp only
            omega
    · try simp only [nb] at h1
      have ei : ((i.toNat : Nat) : Int) = i := by omega
      have hst := faultsUp_ok (e := (fun j0 : Nat => g (xs.getD j0 iE.zero) j0)) (d := d) hi.1 (by (try dsimp only); rw [ei]; exact h1)
      refine skip (bN (pN (region (cons (opv (Ev.add_i (.t rfl) (.c (v := I 1) rfl) (fun _ => by omega)) ?_)))))
      refine cons (opv (Ev.move (.t rfl)) (nil (pN (nx (X := Int × OV) (i + 1, _) ?_ ?_ (hL := (by rw [hst]; (try rw [← List.append_assoc]); repeat first | exact sR | exact sN | apply sC | apply sS | apply sA))))))
      · try dsimp only
        omega
      · try dsimp only
        omega
  · try simp only [nb] at h0
    refine exit (pX (pX (bX (pN (cut (X := OV) (fun x : OV => True) (fun x : OV => [(0, true, .pointer (some ⟨b, 0, none⟩)), (1, true, u)]) (fun x : OV => [Var b eConfFaults ⟨x, d⟩ 88, OwnS x.v eFault (fs ++ listG (fun j0 : Nat => g (xs.getD j0 iE.zero) j0) d xs.length most) 37]) ?_ (fun x hx => ?_))))))
    · refine seq (region ?_)
      have him : i.toNat = m := by omega
      rw [him]
      refine cons (opv (Ev.move (.t rfl)) (cons (opv (Ev.len Tryz.underlying22 (.t rfl) (fun w I => hxs w I.keeps)) ?_)))
      refine cons (opv (Ev.move (.t rfl)) (cons (opv (Ev.gtr_i (.t rfl) (.t rfl)) ?_)))
      refine nil (pN ?_)
      first | refine condD rfl (fun h2 => ?_) (fun h2 => ?_) | refine cond rfl (fun h2 => ?_) (fun h2 => ?_)
      · try simp only [nb] at h2
        refine draw [] (by kernel_rfl) ?_
        refine tk 0 rfl (Ev.move (.t rfl)) ?_
        refine tk 1 rfl (Ev.move (.t rfl)) ?_
        refine tk 2 rfl (Ev.nilCheck (.t rfl)) ?_
        refine tk 3 rfl (Ev.fieldAddr (o := 0) (.t rfl) (by kernel_rfl)) ?_
        refine tk 5 rfl (Ev.move (.t rfl)) ?_
        refine tk 6 rfl (Ev.nilCheck (.t rfl)) ?_
        refine tk 7 rfl (Ev.fieldAddr (o := 1) (.t rfl) (by kernel_rfl)) ?_
        refine tk 9 rfl (Ev.move (.t rfl)) ?_
        refine all [4, 8] (by kernel_rfl) (by decide) (.cons rfl ?_ (.cons rfl ?_ .nil))
        · refine (opv (Ev.ldv ty31 (.t rfl) SConfFaults.l_l) ?_)
          refine hdn (al1 8 rfl ((opv (Ev.ldv ty3 (.t rfl) SConfFaults.l_at_) ?_)))
          refine hdn (tk 10 rfl (Ev.add_i (.t rfl) (.t rfl) (fun _ => by simp; omega)) ?_)
          refine tk 11 rfl (Ev.buildS (fs := _) (places := [(0, 1), (1, 1)]) z37 rfl Tryz.underlying37 (by kernel_rfl) (.cons (.c (v := I 4) rfl) (.cons (.t rfl) .nil)) (Fills.cons SFault.l_code rfl (Fills.cons SFault.l_at_ rfl Fills.nil))) ?_
          refine al1 12 rfl ((buildSlice (E := eFault) Tryz.underlying31 ty37 z37 (.cons (.t rfl) .nil) rfl rfl (fun v7 => ?_)))
          refine hdn (al1 13 rfl ((app (E := eFault) Tryz.underlying31 ty37 zb37 zs37 (.t rfl) (.t rfl) (fun v8 => ?_) (hby := ⟨by (show _ ≤ 9223372036854775807); have := faultsUp_len (fun j0 : Nat => g (xs.getD j0 iE.zero) j0) d m; simp only [List.length_append, List.length_cons, List.length_nil]; omega, by have := faultsUp_len (fun j0 : Nat => g (xs.getD j0 iE.zero) j0) d m; simp only [List.length_append, List.length_cons, List.length_nil]; omega⟩))))
          refine hdn (tk 14 rfl (Ev.nilCheck (.t rfl)) ?_)
          refine tk 15 rfl (Ev.fieldAddr (o := 0) (.t rfl) (by kernel_rfl)) ?_
          refine al1 16 rfl ((stv ty31 SConfFaults.l_l (.t rfl) (.t rfl) ?_))
          refine hdn (ovr (pN (mt (X := OV) (_) trivial (hL := (by unfold listG; rw [← hm2]; (first | rw [if_pos (by omega), ← List.append_assoc] | rw [if_neg (by omega), List.append_nil]); repeat first | exact sR | exact sN | apply sC | apply sS | apply sA)))))
        · refine (opv (Ev.ldv ty3 (.t rfl) SConfFaults.l_at_) ?_)
          refine hdn (tk 10 rfl (Ev.add_i (.t rfl) (.t rfl) (fun _ => by simp; omega)) ?_)
          refine tk 11 rfl (Ev.buildS (fs := _) (places := [(0, 1), (1, 1)]) z37 rfl Tryz.underlying37 (by kernel_rfl) (.cons (.c (v := I 4) rfl) (.cons (.t rfl) .nil)) (Fills.cons SFault.l_code rfl (Fills.cons SFault.l_at_ rfl Fills.nil))) ?_
          refine all [4, 12] (by kernel_rfl) (by decide) (.cons rfl ?_ (.cons rfl ?_ .nil))
          · refine (opv (Ev.ldv ty31 (.t rfl) SConfFaults.l_l) ?_)
            refine hdn (al1 12 rfl ((buildSlice (E := eFault) Tryz.underlying31 ty37 z37 (.cons (.t rfl) .nil) rfl rfl (fun v9 => ?_))))
            refine hdn (al1 13 rfl ((app (E := eFault) Tryz.underlying31 ty37 zb37 zs37 (.t rfl) (.t rfl) (fun v10 => ?_) (hby := ⟨by (show _ ≤ 9223372036854775807); have := faultsUp_len (fun j0 : Nat => g (xs.getD j0 iE.zero) j0) d m; simp only [List.length_append, List.length_cons, List.length_nil]; omega, by have := faultsUp_len (fun j0 : Nat => g (xs.getD j0 iE.zero) j0) d m; simp only [List.length_append, List.length_cons, List.length_nil]; omega⟩))))
            refine hdn (tk 14 rfl (Ev.nilCheck (.t rfl)) ?_)
            refine tk 15 rfl (Ev.fieldAddr (o := 0) (.t rfl) (by kernel_rfl)) ?_
            refine al1 16 rfl ((stv ty31 SConfFaults.l_l (.t rfl) (.t rfl) ?_))
            refine hdn (ovr (pN (mt (X := OV) (_) trivial (hL := (by unfold listG; rw [← hm2]; (first | rw [if_pos (by omega), ← List.append_assoc] | rw [if_neg (by omega), List.append_nil]); repeat first | exact sR | exact sN | apply sC | apply sS | apply sA)))))
          · refine (buildSlice (E := eFault) Tryz.underlying31 ty37 z37 (.cons (.t rfl) .nil) rfl rfl (fun v11 => ?_))
            refine hdn (al1 4 rfl ((opv (Ev.ldv ty31 (.t rfl) SConfFaults.l_l) ?_)))
            refine hdn (al1 13 rfl ((app (E := eFault) Tryz.underlying31 ty37 zb37 zs37 (.t rfl) (.t rfl) (fun v12 => ?_) (hby := ⟨by (show _ ≤ 9223372036854775807); have := faultsUp_len (fun j0 : Nat => g (xs.getD j0 iE.zero) j0) d m; simp only [List.length_append, List.length_cons, List.length_nil]; omega, by have := faultsUp_len (fun j0 : Nat => g (xs.getD j0 iE.zero) j0) d m; simp only [List.length_append, List.length_cons, List.length_nil]; omega⟩))))
            refine hdn (tk 14 rfl (Ev.nilCheck (.t rfl)) ?_)
            refine tk 15 rfl (Ev.fieldAddr (o := 0) (.t rfl) (by kernel_rfl)) ?_
            refine al1 16 rfl ((stv ty31 SConfFaults.l_l (.t rfl) (.t rfl) ?_))
            refine hdn (ovr (pN (mt (X := OV) (_) trivial (hL := (by unfold listG; rw [← hm2]; (first | rw [if_pos (by omega), ← List.append_assoc] | rw [if_neg (by omega), List.append_nil]); repeat first | exact sR | exact sN | apply sC | apply sS | apply sA)))))
      · try simp only [nb] at h2
        refine skip (pN (mt (X := OV) (_) trivial (hL := (by unfold listG; rw [← hm2]; (first | rw [if_pos (by omega), ← List.append_assoc] | rw [if_neg (by omega), List.append_nil]); repeat first | exact sR | exact sN | apply sC | apply sS | apply sA))))
    obtain ⟨q2, rfl⟩ : ∃ y, y = x := ⟨x, rfl⟩
    show Sat _ _ [(0, true, .pointer (some ⟨b, 0, none⟩)), (1, true, u)] [Var b eConfFaults ⟨q2, d⟩ 88, OwnS q2.v eFault (fs ++ listG (fun j0 : Nat => g (xs.getD j0 iE.zero) j0) d xs.length most) 37]
    refine region (cons (opv (Ev.move (.t rfl)) (cons (opv (Ev.nilCheck (.t rfl)) ?_))))
    refine cons (opv (Ev.fieldAddr (o := 1) (.t rfl) (by kernel_rfl)) ?_)
    refine cons (opv (Ev.ldv ty3 (.t rfl) SConfFaults.l_at_) ?_)
    refine cons (opv (Ev.move (.t rfl)) (cons (opv (Ev.len Tryz.underlying22 (.t rfl) (fun w I => hxs w I.keeps)) ?_)))
    refine cons (opv (Ev.add_i (.t rfl) (.t rfl) (fun _ => by simp; omega)) ?_)
    refine cons (opv (Ev.nilCheck (.t rfl)) ?_)
    refine cons (opv (Ev.fieldAddr (o := 1) (.t rfl) (by kernel_rfl)) ?_)
    refine cons (stv ty3 SConfFaults.l_at_ (.t rfl) (.t rfl) ?_)
    refine nil (done' rfl .nil (fun w I => ?_))
    exact retR (r' := fun o2 => FR b o2 (fs ++ listG (fun j0 : Nat => g (xs.getD j0 iE.zero) j0) d xs.length most) (d + xs.length)) _ trivial rfl (List.mem_singleton_self _) w (WInv.sepIn (I.sub (by repeat first | exact sR | exact sN | apply sC | apply sS | apply sA)))

theorem list_52 (f : Nat) (fst cap : List Value) (g : SRoute → Int → Int) (D : SRoute → Int → Prop) (b : Nat) (o : OV) (fs : List SFault) (d : Int) (u : Value) (xs : List SRoute) (most : Nat) (w : World) (hen : Gx.Enters Tryz.prog f) (h : At (FR b o fs d) w) (hxs : ∀ w1, Keeps (FR b o fs d).foot w w1 → IsSl eRoute w1 u xs) (hk : FnB2 Tryz.prog f fst cap (FR b o fs d).foot w eRoute iE iE D g) (hD : ∀ i : Nat, i < xs.length → D (xs.getD i eRoute.zero) i) (hd : 0 ≤ d ∧ d + xs.length ≤ 4611686018427387904) (hf : fs.length + most ≤ 100000) : Calls Tryz.prog 39 #[.pointer (some ⟨b, 0, none⟩), u, I most, (bnd f fst cap).v] w (RetR w (FR b o fs d) (fun _ : OV => True) (fun _ => .tuple #[]) (fun o2 => FR b o2 (fs ++ listG (fun j0 : Nat => g (xs.getD j0 eRoute.zero) j0) d xs.length most) (d + xs.length))) := by
  obtain ⟨m, hm⟩ : ∃ m : Nat, (min (xs.length : Int) (most : Int)) = (m : Int) := ⟨min xs.length most, by omega⟩
  have hm2 : m = min xs.length most := by omega
  have hle := (hxs w (Keeps.refl _ _)).le
  have htl : (xs.take m).length = m := by simp; omega
  refine enter (FR b o fs d).foot 76 [FR b o fs d] Tryz.func39 rfl rfl (Nat.le_of_ble_eq_true rfl) (start_at h) ?_
  refine sepOut Rem.head ?_
  refine seq (seq (region (cons (opv (Ev.move (.t rfl)) (cons (opv (Ev.move (.t rfl)) (cons (opv (Ev.len Tryz.underlying23 (.t rfl) (fun w I => hxs w I.keeps)) ?_))))))))
  refine cons (opv (Ev.move (.t rfl)) (cons (opv (Ev.to (v' := I ((m : Nat) : Int)) (Ev.min_i (.t rfl) (.t rfl)) (by rw [hm])) ?_)))
  refine cons (opv (Ev.sliceH Tryz.underlying23 ty52 (.t rfl) (.t rfl) (fun w I => hxs w I.keeps) (fun _ => by omega)) ?_)
  refine cons (opv (Ev.len Tryz.underlying23 (.t rfl) (fun w I => by have := (hxs w I.keeps).sub (l := 0) (k := m) (by omega) (by omega); simpa using this)) ?_)
  refine cons (opv (Ev.move (.c (v := I 0) rfl)) ?_)
  refine nil (pN (block (lp (X := Int × OV) (fun x : Int × OV => (0 ≤ x.1 ∧ x.1 ≤ m)) (fun x : Int × OV => [(0, true, .pointer (some ⟨b, 0, none⟩)), (1, true, u), (2, true, I most), (3, true, (bnd f fst cap).v), (16, true, subS eRoute.size u 0 m), (17, true, I (xs.take m).length), (18, true, I x.1)]) (fun x : Int × OV => [Var b eConfFaults ⟨x.2, d⟩ 88, OwnS x.2.v eFault (fs ++ faultsUp (fun j0 : Nat => g (xs.getD j0 eRoute.zero) j0) d x.1.toNat) 37]) (fun x : Int × OV => ((m : Int) - x.1).toNat) (0, o) ?_ (fun x hx => ?_) (hL := (by simp only [show (0 : Int).toNat = 0 from rfl, faultsUp, List.append_nil]; repeat first | exact sR | exact sN | apply sC | apply sS | apply sA)))))
  · omega
  obtain ⟨i, q⟩ := x
  have hi : 0 ≤ i ∧ i ≤ m := hx
  clear hx
  show Sat _ _ [(0, true, .pointer (some ⟨b, 0, none⟩)), (1, true, u), (2, true, I most), (3, true, (bnd f fst cap).v), (16, true, subS eRoute.size u 0 m), (17, true, I (xs.take m).length), (18, true, I i)] [Var b eConfFaults ⟨q, d⟩ 88, OwnS q.v eFault (fs ++ faultsUp (fun j0 : Nat => g (xs.getD j0 eRoute.zero) j0) d i.toNat) 37]
  refine seq (region (cons (opv (Ev.lss_i (.t rfl) (.t rfl)) ?_)))
  refine nil (pN (seq ?_))
  first | refine condD rfl (fun h0 => ?_) (fun h0 => ?_) | refine cond rfl (fun h0 => ?_) (fun h0 => ?_)
  · try simp only [nb] at h0
    refine skip (pN (seq (block (seq (region (cons (opv (Ev.move (.t rfl)) (cons (opv (Ev.indexAddr Tryz.underlying23 ty52 (.t rfl) (.t rfl) (fun w I => by have := (hxs w I.keeps).sub (l := 0) (k := m) (by omega) (by omega); simpa using this) (fun _ => by omega)) ?_)))))))))
    refine cons (opv (Ev.to (v' := eRoute.val (xs.getD i.toNat eRoute.zero)) (Ev.loadS0 ty52 (.t rfl) (fun w I => by have := (hxs w I.keeps).sub (l := 0) (k := m) (by omega) (by omega); simpa using this) (fun _ => by omega)) (congrArg eRoute.val (getD_take'' xs m i.toNat _ (by omega)))) ?_)
    refine cons (alloc z52 (fun b1 => ?_))
    refine cons (opv (Ev.assign (.t rfl)) (cons (stv ty52 (Lens.id _) (.t rfl) (.t rfl) ?_)))
    refine nil (pN (seq (region (cons (opv (Ev.move (.t rfl)) (cons (opv (Ev.ldv ty52 (.t rfl) (Lens.id _)) ?_)))))))
    refine cons (opv (Ev.move (.t rfl)) (cons (callbv (.t rfl) hen (.cons (.t rfl) (.cons (.t rfl) .nil)) (fun w I => hk (xs.getD i.toNat eRoute.zero) i w (by have := hD i.toNat (by omega); rwa [show ((i.toNat : Nat) : Int) = i by omega] at this) I.keeps) ?_)))
    refine cons (opv (Ev.assign (.t rfl)) (nil (pN (seq (region (cons (opv (Ev.move (.t rfl)) (cons (opv (Ev.neq_i (.t rfl) (.c (v := I 0) rfl)) ?_)))))))))
    refine nil (pN ?_)
    first | refine condD rfl (fun h1 => ?_) (fun h1 => ?_) | refine cond rfl (fun h1 => ?_) (fun h1 => ?_)
    · try simp only [nb] at h1
      have ei : ((i.toNat : Nat) : Int) = i := by omega
      have hst := faultsUp_bad (e := (fun j0 : Nat => g (xs.getD j0 eRoute.zero) j0)) (d := d) hi.1 (by (try dsimp only); rw [ei]; exact h1)
      (try dsimp only at hst)
      rw [ei] at hst
      refine draw [] (by kernel_rfl) ?_
      refine tk 0 rfl (Ev.move (.t rfl)) ?_
      refine tk 1 rfl (Ev.move (.t rfl)) ?_
      refine tk 2 rfl (Ev.nilCheck (.t rfl)) ?_
      refine tk 3 rfl (Ev.fieldAddr (o := 0) (.t rfl) (by kernel_rfl)) ?_
      refine tk 5 rfl (Ev.move (.t rfl)) ?_
      refine tk 6 rfl (Ev.move (.t rfl)) ?_
      refine tk 7 rfl (Ev.nilCheck (.t rfl)) ?_
      refine tk 8 rfl (Ev.fieldAddr (o := 1) (.t rfl) (by kernel_rfl)) ?_
      refine tk 10 rfl (Ev.move (.t rfl)) ?_
      refine all [4, 9] (by kernel_rfl) (by decide) (.cons rfl ?_ (.cons rfl ?_ .nil))
      · refine (opv (Ev.ldv ty31 (.t rfl) SConfFaults.l_l) ?_)
        refine hdn (al1 9 rfl ((opv (Ev.ldv ty3 (.t rfl) SConfFaults.l_at_) ?_)))
        refine hdn (tk 11 rfl (Ev.add_i (.t rfl) (.t rfl) (fun _ => by simp; omega)) ?_)
        refine tk 12 rfl (Ev.buildS (fs := _) (places := [(0, 1), (1, 1)]) z37 rfl Tryz.underlying37 (by kernel_rfl) (.cons (.t rfl) (.cons (.t rfl) .nil)) (Fills.cons SFault.l_code rfl (Fills.cons SFault.l_at_ rfl Fills.nil))) ?_
        refine al1 13 rfl ((buildSlice (E := eFault) Tryz.underlying31 ty37 z37 (.cons (.t rfl) .nil) rfl rfl (fun v2 => ?_)))
        refine hdn (al1 14 rfl ((app (E := eFault) Tryz.underlying31 ty37 zb37 zs37 (.t rfl) (.t rfl) (fun v3 => ?_) (hby := ⟨by (show _ ≤ 9223372036854775807); have := faultsUp_len (fun j0 : Nat => g (xs.getD j0 eRoute.zero) j0) d i.toNat; simp only [List.length_append, List.length_cons, List.length_nil]; omega, by have := faultsUp_len (fun j0 : Nat => g (xs.getD j0 eRoute.zero) j0) d i.toNat; simp only [List.length_append, List.length_cons, List.length_nil]; omega⟩))))
        refine hdn (tk 15 rfl (Ev.nilCheck (.t rfl)) ?_)
        refine tk 16 rfl (Ev.fieldAddr (o := 0) (.t rfl) (by kernel_rfl)) ?_
        refine al1 17 rfl ((stv ty31 SConfFaults.l_l (.t rfl) (.t rfl) ?_))
        refine hdn (ovr (bN (pN (region (cons (opv (Ev.add_i (.t rfl) (.c (v := I 1) rfl) (fun _ => by omega)) ?_))))))
        refine cons (opv (Ev.move (.t rfl)) (nil (pN (nx (X := Int × OV) (i + 1, _) ?_ ?_ (hL := (by rw [hst]; (try rw [← List.append_assoc]); repeat first | exact sR | exact sN | apply sC | apply sS | apply sA))))))
        · try dsimp only
          omega
        · try dsimp only
          omega
      · refine (opv (Ev.ldv ty3 (.t rfl) SConfFaults.l_at_) ?_)
        refine hdn (tk 11 rfl (Ev.add_i (.t rfl) (.t rfl) (fun _ => by simp; omega)) ?_)
        refine tk 12 rfl (Ev.buildS (fs := _) (places := [(0, 1), (1, 1)]) z37 rfl Tryz.underlying37 (by kernel_rfl) (.cons (.t rfl) (.cons (.t rfl) .nil)) (Fills.cons SFault.l_code rfl (Fills.cons SFault.l_at_ rfl Fills.nil))) ?_
        refine all [4, 13] (by kernel_rfl) (by decide) (.cons rfl ?_ (.cons rfl ?_ .nil))
        · refine (opv (Ev.ldv ty31 (.t rfl) SConfFaults.l_l) ?_)
          refine hdn (al1 13 rfl ((buildSlice (E := eFault) Tryz.underlying31 ty37 z37 (.cons (.t rfl) .nil) rfl rfl (fun v4 => ?_))))
          refine hdn (al1 14 rfl ((app (E := eFault) Tryz.underlying31 ty37 zb37 zs37 (.t rfl) (.t rfl) (fun v5 => ?_) (hby := ⟨by (show _ ≤ 9223372036854775807); have := faultsUp_len (fun j0 : Nat => g (xs.getD j0 eRoute.zero) j0) d i.toNat; simp only [List.length_append, List.length_cons, List.length_nil]; omega, by have := faultsUp_len (fun j0 : Nat => g (xs.getD j0 eRoute.zero) j0) d i.toNat; simp only [List.length_append, List.length_cons, List.length_nil]; omega⟩))))
          refine hdn (tk 15 rfl (Ev.nilCheck (.t rfl)) ?_)
          refine tk 16 rfl (Ev.fieldAddr (o := 0) (.t rfl) (by kernel_rfl)) ?_
          refine al1 17 rfl ((stv ty31 SConfFaults.l_l (.t rfl) (.t rfl) ?_))
          refine hdn (ovr (bN (pN (region (cons (opv (Ev.add_i (.t rfl) (.c (v := I 1) rfl) (fun _ => by omega)) ?_))))))
          refine cons (opv (Ev.move (.t rfl)) (nil (pN (nx (X := Int × OV) (i + 1, _) ?_ ?_ (hL := (by rw [hst]; (try rw [← List.append_assoc]); repeat first | exact sR | exact sN | apply sC | apply sS | apply sA))))))
          · try dsimp only
            omega
          · try dsimp only
            omega
        · refine (buildSlice (E := eFault) Tryz.underlying31 ty37 z37 (.cons (.t rfl) .nil) rfl rfl (fun v6 => ?_))
          refine hdn (al1 4 rfl ((opv (Ev.ldv ty31 (.t rfl) SConfFaults.l_l) ?_)))
          refine hdn (al1 14 rfl ((app (E := eFault) Tryz.underlying31 ty37 zb37 zs37 (.t rfl) (.t rfl) (fun v7 => ?_) (hby := ⟨by (show _ ≤ 9223372036854775807); have := faultsUp_len (fun j0 : Nat => g (xs.getD j0 eRoute.zero) j0) d i.toNat; simp only [List.length_append, List.length_cons, List.length_nil]; omega, by have := faultsUp_len (fun j0 : Nat => g (xs.getD j0 eRoute.zero) j0) d i.toNat; simp only [List.length_append, List.length_cons, List.length_nil]; omega⟩))))
          refine hdn (tk 15 rfl (Ev.nilCheck (.t rfl)) ?_)
          refine tk 16 rfl (Ev.fieldAddr (o := 0) (.t rfl) (by kernel_rfl)) ?_
          refine al1 17 rfl ((stv ty31 SConfFaults.l_l (.t rfl) (.t rfl) ?_))
          refine hdn (ovr (bN (pN (region (cons (opv (Ev.add_i (.t rfl) (.c (v := I 1) rfl) (fun _ => by omega)) ?_))))))
          refine cons (opv (Ev.move (.t rfl)) (nil (pN (nx (X := Int × OV) (i + 1, _) ?_ ?_ (hL := (by rw [hst]; (try rw [← List.append_assoc]); repeat first | exact sR | exact sN | apply sC | apply sS | apply sA))))))
          · try dsimp only
            omega
          · try dsimp only
            omega
    · try simp only [nb] at h1
      have ei : ((i.toNat : Nat) : Int) = i := by omega
      have hst := faultsUp_ok (e := (fun j0 : Nat => g (xs.getD j0 eRoute.zero) j0)) (d := d) hi.1 (by (try dsimp only); rw [ei]; exact h1)
      refine skip (bN (pN (region (cons (opv (Ev.add_i (.t rfl) (.c (v := I 1) rfl) (fun _ => by omega)) ?_)))))
      refine cons (opv (Ev.move (.t rfl)) (nil (pN (nx (X := Int × OV) (i + 1, _) ?_ ?_ (hL := (by rw [hst]; (try rw [← List.append_assoc]); repeat first | exact sR | exact sN | apply sC | apply sS | apply sA))))))
      · try dsimp only
        omega
      · try dsimp only
        omega
  · try simp only [nb] at h0
    refine exit (pX (pX (bX (pN (cut (X := OV) (fun x : OV => True) (fun x : OV => [(0, true, .pointer (some ⟨b, 0, none⟩)), (1, true, u)]) (fun x : OV => [Var b eConfFaults ⟨x, d⟩ 88, OwnS x.v eFault (fs ++ listG (fun j0 : Nat => g (xs.getD j0 eRoute.zero) j0) d xs.length most) 37]) ?_ (fun x hx => ?_))))))
    · refine seq (region ?_)
      have him : i.toNat = m := by omega
      rw [him]
      refine cons (opv (Ev.move (.t rfl)) (cons (opv (Ev.len Tryz.underlying23 (.t rfl) (fun w I => hxs w I.keeps)) ?_)))
      refine cons (opv (Ev.move (.t rfl)) (cons (opv (Ev.gtr_i (.t rfl) (.t rfl)) ?_)))
      refine nil (pN ?_)
      first | refine condD rfl (fun h2 => ?_) (fun h2 => ?_) | refine cond rfl (fun h2 => ?_) (fun h2 => ?_)
      · try simp only [nb] at h2
        refine draw [] (by kernel_rfl) ?_
        refine tk 0 rfl (Ev.move (.t rfl)) ?_
        refine tk 1 rfl (Ev.move (.t rfl)) ?_
        refine tk 2 rfl (Ev.nilCheck (.t rfl)) ?_
        refine tk 3 rfl (Ev.fieldAddr (o := 0) (.t rfl) (by kernel_rfl)) ?_
        refine tk 5 rfl (Ev.move (.t rfl)) ?_
        refine tk 6 rfl (Ev.nilCheck (.t rfl)) ?_
        refine tk 7 rfl (Ev.fieldAddr (o := 1) (.t rfl) (by kernel_rfl)) ?_
        refine tk 9 rfl (Ev.move (.t rfl)) ?_
        refine all [4, 8] (by kernel_rfl) (by decide) (.cons rfl ?_ (.cons rfl ?_ .nil))
        · refine (opv (Ev.ldv ty31 (.t rfl) SConfFaults.l_l) ?_)
          refine hdn (al1 8 rfl ((opv (Ev.ldv ty3 (.t rfl) SConfFaults.l_at_) ?_)))
          refine hdn (tk 10 rfl (Ev.add_i (.t rfl) (.t rfl) (fun _ => by simp; omega)) ?_)
          refine tk 11 rfl (Ev.buildS (fs := _) (places := [(0, 1), (1, 1)]) z37 rfl Tryz.underlying37 (by kernel_rfl) (.cons (.c (v := I 4) rfl) (.cons (.t rfl) .nil)) (Fills.cons SFault.l_code rfl (Fills.cons SFault.l_at_ rfl Fills.nil))) ?_
          refine al1 12 rfl ((buildSlice (E := eFault) Tryz.underlying31 ty37 z37 (.cons (.t rfl) .nil) rfl rfl (fun v8 => ?_)))
          refine hdn (al1 13 rfl ((app (E := eFault) Tryz.underlying31 ty37 zb37 zs37 (.t rfl) (.t rfl) (fun v9 => ?_) (hby := ⟨by (show _ ≤ 9223372036854775807); have := faultsUp_len (fun j0 : Nat => g (xs.getD j0 eRoute.zero) j0) d m; simp only [List.length_append, List.length_cons, List.length_nil]; omega, by have := faultsUp_len (fun j0 : Nat => g (xs.getD j0 eRoute.zero) j0) d m; simp only [List.length_append, List.length_cons, List.length_nil]; omega⟩))))
          refine hdn (tk 14 rfl (Ev.nilCheck (.t rfl)) ?_)
          refine tk 15 rfl (Ev.fieldAddr (o := 0) (.t rfl) (by kernel_rfl)) ?_
          refine al1 16 rfl ((stv ty31 SConfFaults.l_l (.t rfl) (.t rfl) ?_))
          refine hdn (ovr (pN (mt (X := OV) (_) trivial (hL := (by unfold listG; rw [← hm2]; (first | rw [if_pos (by omega), ← List.append_assoc] | rw [if_neg (by omega), List.append_nil]); repeat first | exact sR | exact sN | apply sC | apply sS | apply sA)))))
        · refine (opv (Ev.ldv ty3 (.t rfl) SConfFaults.l_at_) ?_)
          refine hdn (tk 10 rfl (Ev.add_i (.t rfl) (.t rfl) (fun _ => by simp; omega)) ?_)
          refine tk 11 rfl (Ev.buildS (fs := _) (places := [(0, 1), (1, 1)]) z37 rfl Tryz.underlying37 (by kernel_rfl) (.cons (.c (v := I 4) rfl) (.cons (.t rfl) .nil)) (Fills.cons SFault.l_code rfl (Fills.cons SFault.l_at_ rfl Fills.nil))) ?_
          refine all [4, 12] (by kernel_rfl) (by decide) (.cons rfl ?_ (.cons rfl ?_ .nil))
          · refine (opv (Ev.ldv ty31 (.t rfl) SConfFaults.l_l) ?_)
            refine hdn (al1 12 rfl ((buildSlice (E := eFault) Tryz.underlying31 ty37 z37 (.cons (.t rfl) .nil) rfl rfl (fun v10 => ?_))))
            refine hdn (al1 13 rfl ((app (E := eFault) Tryz.underlying31 ty37 zb37 zs37 (.t rfl) (.t rfl) (fun v11 => ?_) (hby := ⟨by (show _ ≤ 9223372036854775807); have := faultsUp_len (fun j0 : Nat => g (xs.getD j0 eRoute.zero) j0) d m; simp only [List.length_append, List.length_cons, List.length_nil]; omega, by have := faultsUp_len (fun j0 : Nat => g (xs.getD j0 eRoute.zero) j0) d m; simp only [List.length_append, List.length_cons, List.length_nil]; omega⟩))))
            refine hdn (tk 14 rfl (Ev.nilCheck (.t rfl)) ?_)
            refine tk 15 rfl (Ev.fieldAddr (o := 0) (.t rfl) (by kernel_rfl)) ?_
            refine al1 16 rfl ((stv ty31 SConfFaults.l_l (.t rfl) (.t rfl) ?_))
            refine hdn (ovr (pN (mt (X := OV) (_) trivial (hL := (by unfold listG; rw [← hm2]; (first | rw [if_pos (by omega), ← List.append_assoc] | rw [if_neg (by omega), List.append_nil]); repeat first | exact sR | exact sN | apply sC | apply sS | apply sA)))))
          · refine (buildSlice (E := eFault) Tryz.underlying31 ty37 z37 (.cons (.t rfl) .nil) rfl rfl (fun v12 => ?_))
            refine hdn (al1 4 rfl ((opv (Ev.ldv ty31 (.t rfl) SConfFaults.l_l) ?_)))
            refine hdn (al1 13 rfl ((app (E := eFault) Tryz.underlying31 ty37 zb37 zs37 (.t rfl) (.t rfl) (fun v13 => ?_) (hby := ⟨by (show _ ≤ 9223372036854775807); have := faultsUp_len (fun j0 : Nat => g (xs.getD j0 eRoute.zero) j0) d m; simp only [List.length_append, List.length_cons, List.length_nil]; omega, by have := faultsUp_len (fun j0 : Nat => g (xs.getD j0 eRoute.zero) j0) d m; simp only [List.length_append, List.length_cons, List.length_nil]; omega⟩))))
            refine hdn (tk 14 rfl (Ev.nilCheck (.t rfl)) ?_)
            refine tk 15 rfl (Ev.fieldAddr (o := 0) (.t rfl) (by kernel_rfl)) ?_
            refine al1 16 rfl ((stv ty31 SConfFaults.l_l (.t rfl) (.t rfl) ?_))
            refine hdn (ovr (pN (mt (X := OV) (_) trivial (hL := (by unfold listG; rw [← hm2]; (first | rw [if_pos (by omega), ← List.append_assoc] | rw [if_neg (by omega), List.append_nil]); repeat first | exact sR | exact sN | apply sC | apply sS | apply sA)))))
      · try simp only [nb] at h2
        refine skip (pN (mt (X := OV) (_) trivial (hL := (by unfold listG; rw [← hm2]; (first | rw [if_pos (by omega), ← List.append_assoc] | rw [if_neg (by omega), List.append_nil]); repeat first | exact sR | exact sN | apply sC | apply sS | apply sA))))
    obtain ⟨q2, rfl⟩ : ∃ y, y = x := ⟨x, rfl⟩
    show Sat _ _ [(0, true, .pointer (some ⟨b, 0, none⟩)), (1, true, u)] [Var b eConfFaults ⟨q2, d⟩ 88, OwnS q2.v eFault (fs ++ listG (fun j0 : Nat => g (xs.getD j0 eRoute.zero) j0) d xs.length most) 37]
    refine region (cons (opv (Ev.move (.t rfl)) (cons (opv (Ev.nilCheck (.t rfl)) ?_))))
    refine cons (opv (Ev.fieldAddr (o := 1) (.t rfl) (by kernel_rfl)) ?_)
    refine cons (opv (Ev.ldv ty3 (.t rfl) SConfFaults.l_at_) ?_)
    refine cons (opv (Ev.move (.t rfl)) (cons (opv (Ev.len Tryz.underlying23 (.t rfl) (fun w I => hxs w I.keeps)) ?_)))
    refine cons (opv (Ev.add_i (.t rfl) (.t rfl) (fun _ => by simp; omega)) ?_)
    refine cons (opv (Ev.nilCheck (.t rfl)) ?_)
    refine cons (opv (Ev.fieldAddr (o := 1) (.t rfl) (by kernel_rfl)) ?_)
    refine cons (stv ty3 SConfFaults.l_at_ (.t rfl) (.t rfl) ?_)
    refine nil (done' rfl .nil (fun w I => ?_))
    exact retR (r' := fun o2 => FR b o2 (fs ++ listG (fun j0 : Nat => g (xs.getD j0 eRoute.zero) j0) d xs.length most) (d + xs.length)) _ trivial rfl (List.mem_singleton_self _) w (WInv.sepIn (I.sub (by repeat first | exact sR | exact sN | apply sC | apply sS | apply sA)))

theorem list_76 (f : Nat) (fst cap : List Value) (g : SRule → Int → Int) (D : SRule → Int → Prop) (b : Nat) (o : OV) (fs : List SFault) (d : Int) (u : Value) (xs : List SRule) (most : Nat) (w : World) (hen : Gx.Enters Tryz.prog f) (h : At (FR b o fs d) w) (hxs : ∀ w1, Keeps (FR b o fs d).foot w w1 → IsSl eRule w1 u xs) (hk : FnB2 Tryz.prog f fst cap (FR b o fs d).foot w eRule iE iE D g) (hD : ∀ i : Nat, i < xs.length → D (xs.getD i eRule.zero) i) (hd : 0 ≤ d ∧ d + xs.length ≤ 4611686018427387904) (hf : fs.length + most ≤ 100000) : Calls Tryz.prog 41 #[.pointer (some ⟨b, 0, none⟩), u, I most, (bnd f fst cap).v] w (RetR w (FR b o fs d) (fun _ : OV => True) (fun _ => .tuple #[]) (fun o2 => FR b o2 (fs ++ listG (fun j0 : Nat => g (xs.getD j0 eRule.zero) j0) d xs.length most) (d + xs.length))) := by
  obtain ⟨m, hm⟩ : ∃ m : Nat, (min (xs.length : Int) (most : Int)) = (m : Int) := ⟨min xs.length most, by omega⟩
  have hm2 : m = min xs.length most := by omega
  have hle := (hxs w (Keeps.refl _ _)).le
  have htl : (xs.take m).length = m := by simp; omega
  refine enter (FR b o fs d).foot 76 [FR b o fs d] Tryz.func41 rfl rfl (Nat.le_of_ble_eq_true rfl) (start_at h) ?_
  refine sepOut Rem.head ?_
  refine seq (seq (region (cons (opv (Ev.move (.t rfl)) (cons (opv (Ev.move (.t rfl)) (cons (opv (Ev.len Tryz.underlying24 (.t rfl) (fun w I => hxs w I.keeps)) ?_))))))))
  refine cons (opv (Ev.move (.t rfl)) (cons (opv (Ev.to (v' := I ((m : Nat) : Int)) (Ev.min_i (.t rfl) (.t rfl)) (by rw [hm])) ?_)))
  refine cons (opv (Ev.sliceH Tryz.underlying24 ty76 (.t rfl) (.t rfl) (fun w I => hxs w I.keeps) (fun _ => by omega)) ?_)
  refine cons (opv (Ev.len Tryz.underlying24 (.t rfl) (fun w I => by have := (hxs w I.keeps).sub (l := 0) (k := m) (by omega) (by omega); simpa using this)) ?_)
  refine cons (opv (Ev.move (.c (v := I 0) rfl)) ?_)
  refine nil (pN (block (lp (X := Int × OV) (fun x : Int × OV => (0 ≤ x.1 ∧ x.1 ≤ m)) (fun x : Int × OV => [(0, true, .pointer (some ⟨b, 0, none⟩)), (1, true, u), (2, true, I most), (3, true, (bnd f fst cap).v), (16, true, subS eRule.size u 0 m), (17, true, I (xs.take m).length), (18, true, I x.1)]) (fun x : Int × OV => [Var b eConfFaults ⟨x.2, d⟩ 88, OwnS x.2.v eFault (fs ++ faultsUp (fun j0 : Nat => g (xs.getD j0 eRule.zero) j0) d x.1.toNat) 37]) (fun x : Int × OV => ((m : Int) - x.1).toNat) (0, o) ?_ (fun x hx => ?_) (hL := (by simp only [show (0 : Int).toNat = 0 from rfl, faultsUp, List.append_nil]; repeat first | exact sR | exact sN | apply sC | apply sS | apply sA)))))
  · omega
  obtain ⟨i, q⟩ := x
  have hi : 0 ≤ i ∧ i ≤ m := hx
  clear hx
  show Sat _ _ [(0, true, .pointer (some ⟨b, 0, none⟩)), (1, true, u), (2, true, I most), (3, true, (bnd f fst cap).v), (16, true, subS eRule.size u 0 m), (17, true, I (xs.take m).length), (18, true, I i)] [Var b eConfFaults ⟨q, d⟩ 88, OwnS q.v eFault (fs ++ faultsUp (fun j0 : Nat => g (xs.getD j0 eRule.zero) j0) d i.toNat) 37]
  refine seq (region (cons (opv (Ev.lss_i (.t rfl) (.t rfl)) ?_)))
  refine nil (pN (seq ?_))
  first | refine condD rfl (fun h0 => ?_) (fun h0 => ?_) | refine cond rfl (fun h0 => ?_) (fun h0 => ?_)
  · try simp only [nb] at h0
    refine skip (pN (seq (block (seq (region (cons (opv (Ev.move (.t rfl)) (cons (opv (Ev.indexAddr Tryz.underlying24 ty76 (.t rfl) (.t rfl) (fun w I => by have := (hxs w I.keeps).sub (l := 0) (k := m) (by omega) (by omega); simpa using this) (fun _ => by omega)) ?_)))))))))
    refine cons (opv (Ev.to (v' := eRule.val (xs.getD i.toNat eRule.zero)) (Ev.loadS0 ty76 (.t rfl) (fun w I => by have := (hxs w I.keeps).sub (l := 0) (k := m) (by omega) (by omega); simpa using this) (fun _ => by omega)) (congrArg eRule.val (getD_take'' xs m i.toNat _ (by omega)))) ?_)
    refine cons (alloc z76 (fun b1 => ?_))
    refine cons (opv (Ev.assign (.t rfl)) (cons (stv ty76 (Lens.id _) (.t rfl) (.t rfl) ?_)))
    refine nil (pN (seq (region (cons (opv (Ev.move (.t rfl)) (cons (opv (Ev.ldv ty76 (.t rfl) (Lens.id _)) ?_)))))))
    refine cons (opv (Ev.move (.t rfl)) (cons (callbv (.t rfl) hen (.cons (.t rfl) (.cons (.t rfl) .nil)) (fun w I => hk (xs.getD i.toNat eRule.zero) i w (by have := hD i.toNat (by omega); rwa [show ((i.toNat : Nat) : Int) = i by omega] at this) I.keeps) ?_)))
    refine cons (opv (Ev.assign (.t rfl)) (nil (pN (seq (region (cons (opv (Ev.move (.t rfl)) (cons (opv (Ev.neq_i (.t rfl) (.c (v := I 0) rfl)) ?_)))))))))
    refine nil (pN ?_)
    first | refine condD rfl (fun h1 => ?_) (fun h1 => ?_) | refine cond rfl (fun h1 => ?_) (fun h1 => ?_)
    · try simp only [nb] at h1
      have ei : ((i.toNat : Nat) : Int) = i := by omega
      have hst := faultsUp_bad (e := (fun j0 : Nat => g (xs.getD j0 eRule.zero) j0)) (d := d) hi.1 (by (try dsimp only); rw [ei]; exact h1)
      (try dsimp only at hst)
      rw [ei] at hst
      refine draw [] (by kernel_rfl) ?_
      refine tk 0 rfl (Ev.move (.t rfl)) ?_
      refine tk 1 rfl (Ev.move (.t rfl)) ?_
      refine tk 2 rfl (Ev.nilCheck (.t rfl)) ?_
      refine tk 3 rfl (Ev.fieldAddr (o := 0) (.t rfl) (by kernel_rfl)) ?_
      refine tk 5 rfl (Ev.move (.t rfl)) ?_
      refine tk 6 rfl (Ev.move (.t rfl)) ?_
      refine tk 7 rfl (Ev.nilCheck (.t rfl)) ?_
      refine tk 8 rfl (Ev.fieldAddr (o := 1) (.t rfl) (by kernel_rfl)) ?_
      refine tk 10 rfl (Ev.move (.t rfl)) ?_
      refine all [4, 9] (by kernel_rfl) (by decide) (.cons rfl ?_ (.cons rfl ?_ .nil))
      · refine (opv (Ev.ldv ty31 (.t rfl) SConfFaults.l_l) ?_)
        refine hdn (al1 9 rfl ((opv (Ev.ldv ty3 (.t rfl) SConfFaults.l_at_) ?_)))
        refine hdn (tk 11 rfl (Ev.add_i (.t rfl) (.t rfl) (fun _ => by simp; omega)) ?_)
        refine tk 12 rfl (Ev.buildS (fs := _) (places := [(0, 1), (1, 1)]) z37 rfl Tryz.underlying37 (by kernel_rfl) (.cons (.t rfl) (.cons (.t rfl) .nil)) (Fills.cons SFault.l_code rfl (Fills.cons SFault.l_at_ rfl Fills.nil))) ?_
        refine al1 13 rfl ((buildSlice (E := eFault) Tryz.underlying31 ty37 z37 (.cons (.t rfl) .nil) rfl rfl (fun v2 => ?_)))
        refine hdn (al1 14 rfl ((app (E := eFault) Tryz.underlying31 ty37 zb37 zs37 (.t rfl) (.t rfl) (fun v3 => ?_) (hby := ⟨by (show _ ≤ 9223372036854775807); have := faultsUp_len (fun j0 : Nat => g (xs.getD j0 eRule.zero) j0) d i.toNat; simp only [List.length_append, List.length_cons, List.length_nil]; omega, by have := faultsUp_len (fun j0 : Nat => g (xs.getD j0 eRule.zero) j0) d i.toNat; simp only [List.length_append, List.length_cons, List.length_nil]; omega⟩))))
        refine hdn (tk 15 rfl (Ev.nilCheck (.t rfl)) ?_)
        refine tk 16 rfl (Ev.fieldAddr (o := 0) (.t rfl) (by kernel_rfl)) ?_
        refine al1 17 rfl ((stv ty31 SConfFaults.l_l (.t rfl) (.t rfl) ?_))
        refine hdn (ovr (bN (pN (region (cons (opv (Ev.add_i (.t rfl) (.c (v := I 1) rfl) (fun _ => by omega)) ?_))))))
        refine cons (opv (Ev.move (.t rfl)) (nil (pN (nx (X := Int × OV) (i + 1, _) ?_ ?_ (hL := (by rw [hst]; (try rw [← List.append_assoc]); repeat first | exact sR | exact sN | apply sC | apply sS | apply sA))))))
        · try dsimp only
          omega
        · try dsimp only
          omega
      · refine (opv (Ev.ldv ty3 (.t rfl) SConfFaults.l_at_) ?_)
        refine hdn (tk 11 rfl (Ev.add_i (.t rfl) (.t rfl) (fun _ => by simp; omega)) ?_)
        refine tk 12 rfl (Ev.buildS (fs := _) (places := [(0, 1), (1, 1)]) z37 rfl Tryz.underlying37 (by kernel_rfl) (.cons (.t rfl) (.cons (.t rfl) .nil)) (Fills.cons SFault.l_code rfl (Fills.cons SFault.l_at_ rfl Fills.nil))) ?_
        refine all [4, 13] (by kernel_rfl) (by decide) (.cons rfl ?_ (.cons rfl ?_ .nil))
        · refine (opv (Ev.ldv ty31 (.t rfl) SConfFaults.l_l) ?_)
          refine hdn (al1 13 rfl ((buildSlice (E := eFault) Tryz.underlying31 ty37 z37 (.cons (.t rfl) .nil) rfl rfl (fun v4 => ?_))))
          refine hdn (al1 14 rfl ((app (E := eFault) Tryz.underlying31 ty37 zb37 zs37 (.t rfl) (.t rfl) (fun v5 => ?_) (hby := ⟨by (show _ ≤ 9223372036854775807); have := faultsUp_len (fun j0 : Nat => g (xs.getD j0 eRule.zero) j0) d i.toNat; simp only [List.length_append, List.length_cons, List.length_nil]; omega, by have := faultsUp_len (fun j0 : Nat => g (xs.getD j0 eRule.zero) j0) d i.toNat; simp only [List.length_append, List.length_cons, List.length_nil]; omega⟩))))
          refine hdn (tk 15 rfl (Ev.nilCheck (.t rfl)) ?_)
          refine tk 16 rfl (Ev.fieldAddr (o := 0) (.t rfl) (by kernel_rfl)) ?_
          refine al1 17 rfl ((stv ty31 SConfFaults.l_l (.t rfl) (.t rfl) ?_))
          refine hdn (ovr (bN (pN (region (cons (opv (Ev.add_i (.t rfl) (.c (v := I 1) rfl) (fun _ => by omega)) ?_))))))
          refine cons (opv (Ev.move (.t rfl)) (nil (pN (nx (X := Int × OV) (i + 1, _) ?_ ?_ (hL := (by rw [hst]; (try rw [← List.append_assoc]); repeat first | exact sR | exact sN | apply sC | apply sS | apply sA))))))
          · try dsimp only
            omega
          · try dsimp only
            omega
        · refine (buildSlice (E := eFault) Tryz.underlying31 ty37 z37 (.cons (.t rfl) .nil) rfl rfl (fun v6 => ?_))
          refine hdn (al1 4 rfl ((opv (Ev.ldv ty31 (.t rfl) SConfFaults.l_l) ?_)))
          refine hdn (al1 14 rfl ((app (E := eFault) Tryz.underlying31 ty37 zb37 zs37 (.t rfl) (.t rfl) (fun v7 => ?_) (hby := ⟨by (show _ ≤ 9223372036854775807); have := faultsUp_len (fun j0 : Nat => g (xs.getD j0 eRule.zero) j0) d i.toNat; simp only [List.length_append, List.length_cons, List.length_nil]; omega, by have := faultsUp_len (fun j0 : Nat => g (xs.getD j0 eRule.zero) j0) d i.toNat; simp only [List.length_append, List.length_cons, List.length_nil]; omega⟩))))
          refine hdn (tk 15 rfl (Ev.nilCheck (.t rfl)) ?_)
          refine tk 16 rfl (Ev.fieldAddr (o := 0) (.t rfl) (by kernel_rfl)) ?_
          refine al1 17 rfl ((stv ty31 SConfFaults.l_l (.t rfl) (.t rfl) ?_))
          refine hdn (ovr (bN (pN (region (cons (opv (Ev.add_i (.t rfl) (.c (v := I 1) rfl) (fun _ => by omega)) ?_))))))
          refine cons (opv (Ev.move (.t rfl)) (nil (pN (nx (X := Int × OV) (i + 1, _) ?_ ?_ (hL := (by rw [hst]; (try rw [← List.append_assoc]); repeat first | exact sR | exact sN | apply sC | apply sS | apply sA))))))
          · try dsimp only
            omega
          · try dsimp only
            omega
    · try simp only [nb] at h1
      have ei : ((i.toNat : Nat) : Int) = i := by omega
      have hst := faultsUp_ok (e := (fun j0 : Nat => g (xs.getD j0 eRule.zero) j0)) (d := d) hi.1 (by (try dsimp only); rw [ei]; exact h1)
      refine skip (bN (pN (region (cons (opv (Ev.add_i (.t rfl) (.c (v := I 1) rfl) (fun _ => by omega)) ?_)))))
      refine cons (opv (Ev.move (.t rfl)) (nil (pN (nx (X := Int × OV) (i + 1, _) ?_ ?_ (hL := (by rw [hst]; (try rw [← List.append_assoc]); repeat first | exact sR | exact sN | apply sC | apply sS | apply sA))))))
      · try dsimp only
        omega
      · try dsimp only
        omega
  · try simp only [nb] at h0
    refine exit (pX (pX (bX (pN (cut (X := OV) (fun x : OV => True) (fun x : OV => [(0, true, .pointer (some ⟨b, 0, none⟩)), (1, true, u)]) (fun x : OV => [Var b eConfFaults ⟨x, d⟩ 88, OwnS x.v eFault (fs ++ listG (fun j0 : Nat => g (xs.getD j0 eRule.zero) j0) d xs.length most) 37]) ?_ (fun x hx => ?_))))))
    · refine seq (region ?_)
      have him : i.toNat = m := by omega
      rw [him]
      refine cons (opv (Ev.move (.t rfl)) (cons (opv (Ev.len Tryz.underlying24 (.t rfl) (fun w I => hxs w I.keeps)) ?_)))
      refine cons (opv (Ev.move (.t rfl)) (cons (opv (Ev.gtr_i (.t rfl) (.t rfl)) ?_)))
      refine nil (pN ?_)
      first | refine condD rfl (fun h2 => ?_) (fun h2 => ?_) | refine cond rfl (fun h2 => ?_) (fun h2 => ?_)
      · try simp only [nb] at h2
        refine draw [] (by kernel_rfl) ?_
        refine tk 0 rfl (Ev.move (.t rfl)) ?_
        refine tk 1 rfl (Ev.move (.t rfl)) ?_
        refine tk 2 rfl (Ev.nilCheck (.t rfl)) ?_
        refine tk 3 rfl (Ev.fieldAddr (o := 0) (.t rfl) (by kernel_rfl)) ?_
        refine tk 5 rfl (Ev.move (.t rfl)) ?_
        refine tk 6 rfl (Ev.nilCheck (.t rfl)) ?_
        refine tk 7 rfl (Ev.fieldAddr (o := 1) (.t rfl) (by kernel_rfl)) ?_
        refine tk 9 rfl (Ev.move (.t rfl)) ?_
        refine all [4, 8] (by kernel_rfl) (by decide) (.cons rfl ?_ (.cons rfl ?_ .nil))
        · refine (opv (Ev.ldv ty31 (.t rfl) SConfFaults.l_l) ?_)
          refine hdn (al1 8 rfl ((opv (Ev.ldv ty3 (.t rfl) SConfFaults.l_at_) ?_)))
          refine hdn (tk 10 rfl (Ev.add_i (.t rfl) (.t rfl) (fun _ => by simp; omega)) ?_)
          refine tk 11 rfl (Ev.buildS (fs := _) (places := [(0, 1), (1, 1)]) z37 rfl Tryz.underlying37 (by kernel_rfl) (.cons (.c (v := I 4) rfl) (.cons (.t rfl) .nil)) (Fills.cons SFault.l_code rfl (Fills.cons SFault.l_at_ rfl Fills.nil))) ?_
          refine al1 12 rfl ((buildSlice (E := eFault) Tryz.underlying31 ty37 z37 (.cons (.t rfl) .nil) rfl rfl (fun v8 => ?_)))
          refine hdn (al1 13 rfl ((app (E := eFault) Tryz.underlying31 ty37 zb37 zs37 (.t rfl) (.t rfl) (fun v9 => ?_) (hby := ⟨by (show _ ≤ 9223372036854775807); have := faultsUp_len (fun j0 : Nat => g (xs.getD j0 eRule.zero) j0) d m; simp only [List.length_append, List.length_cons, List.length_nil]; omega, by have := faultsUp_len (fun j0 : Nat => g (xs.getD j0 eRule.zero) j0) d m; simp only [List.length_append, List.length_cons, List.length_nil]; omega⟩))))
          refine hdn (tk 14 rfl (Ev.nilCheck (.t rfl)) ?_)
          refine tk 15 rfl (Ev.fieldAddr (o := 0) (.t rfl) (by kernel_rfl)) ?_
          refine al1 16 rfl ((stv ty31 SConfFaults.l_l (.t rfl) (.t rfl) ?_))
          refine hdn (ovr (pN (mt (X := OV) (_) trivial (hL := (by unfold listG; rw [← hm2]; (first | rw [if_pos (by omega), ← List.append_assoc] | rw [if_neg (by omega), List.append_nil]); repeat first | exact sR | exact sN | apply sC | apply sS | apply sA)))))
        · refine (opv (Ev.ldv ty3 (.t rfl) SConfFaults.l_at_) ?_)
          refine hdn (tk 10 rfl (Ev.add_i (.t rfl) (.t rfl) (fun _ => by simp; omega)) ?_)
          refine tk 11 rfl (Ev.buildS (fs := _) (places := [(0, 1), (1, 1)]) z37 rfl Tryz.underlying37 (by kernel_rfl) (.cons (.c (v := I 4) rfl) (.cons (.t rfl) .nil)) (Fills.cons SFault.l_code rfl (Fills.cons SFault.l_at_ rfl Fills.nil))) ?_
          refine all [4, 12] (by kernel_rfl) (by decide) (.cons rfl ?_ (.cons rfl ?_ .nil))
          · refine (opv (Ev.ldv ty31 (.t rfl) SConfFaults.l_l) ?_)
            refine hdn (al1 12 rfl ((buildSlice (E := eFault) Tryz.underlying31 ty37 z37 (.cons (.t rfl) .nil) rfl rfl (fun v10 => ?_))))
            refine hdn (al1 13 rfl ((app (E := eFault) Tryz.underlying31 ty37 zb37 zs37 (.t rfl) (.t rfl) (fun v11 => ?_) (hby := ⟨by (show _ ≤ 9223372036854775807); have := faultsUp_len (fun j0 : Nat => g (xs.getD j0 eRule.zero) j0) d m; simp only [List.length_append, List.length_cons, List.length_nil]; omega, by have := faultsUp_len (fun j0 : Nat => g (xs.getD j0 eRule.zero) j0) d m; simp only [List.length_append, List.length_cons, List.length_nil]; omega⟩))))
            refine hdn (tk 14 rfl (Ev.nilCheck (.t rfl)) ?_)
            refine tk 15 rfl (Ev.fieldAddr (o := 0) (.t rfl) (by kernel_rfl)) ?_
            refine al1 16 rfl ((stv ty31 SConfFaults.l_l (.t rfl) (.t rfl) ?_))
            refine hdn (ovr (pN (mt (X := OV) (_) trivial (hL := (by unfold listG; rw [← hm2]; (first | rw [if_pos (by omega), ← List.append_assoc] | rw [if_neg (by omega), List.append_nil]); repeat first | exact sR | exact sN | apply sC | apply sS | apply sA)))))
          · refine (buildSlice (E := eFault) Tryz.underlying31 ty37 z37 (.cons (.t rfl) .nil) rfl rfl (fun v12 => ?_))
            refine hdn (al1 4 rfl ((opv (Ev.ldv ty31 (.t rfl) SConfFaults.l_l) ?_)))
            refine hdn (al1 13 rfl ((app (E := eFault) Tryz.underlying31 ty37 zb37 zs37 (.t rfl) (.t rfl) (fun v13 => ?_) (hby := ⟨by (show _ ≤ 9223372036854775807); have := faultsUp_len (fun j0 : Nat => g (xs.getD j0 eRule.zero) j0) d m; simp only [List.length_append, List.length_cons, List.length_nil]; omega, by have := faultsUp_len (fun j0 : Nat => g (xs.getD j0 eRule.zero) j0) d m; simp only [List.length_append, List.length_cons, List.length_nil]; omega⟩))))
            refine hdn (tk 14 rfl (Ev.nilCheck (.t rfl)) ?_)
            refine tk 15 rfl (Ev.fieldAddr (o := 0) (.t rfl) (by kernel_rfl)) ?_
            refine al1 16 rfl ((stv ty31 SConfFaults.l_l (.t rfl) (.t rfl) ?_))
            refine hdn (ovr (pN (mt (X := OV) (_) trivial (hL := (by unfold listG; rw [← hm2]; (first | rw [if_pos (by omega), ← List.append_assoc] | rw [if_neg (by omega), List.append_nil]); repeat first | exact sR | exact sN | apply sC | apply sS | apply sA)))))
      · try simp only [nb] at h2
        refine skip (pN (mt (X := OV) (_) trivial (hL := (by unfold listG; rw [← hm2]; (first | rw [if_pos (by omega), ← List.append_assoc] | rw [if_neg (by omega), List.append_nil]); repeat first | exact sR | exact sN | apply sC | apply sS | apply sA))))
    obtain ⟨q2, rfl⟩ : ∃ y, y = x := ⟨x, rfl⟩
    show Sat _ _ [(0, true, .pointer (some ⟨b, 0, none⟩)), (1, true, u)] [Var b eConfFaults ⟨q2, d⟩ 88, OwnS q2.v eFault (fs ++ listG (fun j0 : Nat => g (xs.getD j0 eRule.zero) j0) d xs.length most) 37]
    refine region (cons (opv (Ev.move (.t rfl)) (cons (opv (Ev.nilCheck (.t rfl)) ?_))))
    refine cons (opv (Ev.fieldAddr (o := 1) (.t rfl) (by kernel_rfl)) ?_)
    refine cons (opv (Ev.ldv ty3 (.t rfl) SConfFaults.l_at_) ?_)
    refine cons (opv (Ev.move (.t rfl)) (cons (opv (Ev.len Tryz.underlying24 (.t rfl) (fun w I => hxs w I.keeps)) ?_)))
    refine cons (opv (Ev.add_i (.t rfl) (.t rfl) (fun _ => by simp; omega)) ?_)
    refine cons (opv (Ev.nilCheck (.t rfl)) ?_)
    refine cons (opv (Ev.fieldAddr (o := 1) (.t rfl) (by kernel_rfl)) ?_)
    refine cons (stv ty3 SConfFaults.l_at_ (.t rfl) (.t rfl) ?_)
    refine nil (done' rfl .nil (fun w I => ?_))
    exact retR (r' := fun o2 => FR b o2 (fs ++ listG (fun j0 : Nat => g (xs.getD j0 eRule.zero) j0) d xs.length most) (d + xs.length)) _ trivial rfl (List.mem_singleton_self _) w (WInv.sepIn (I.sub (by repeat first | exact sR | exact sN | apply sC | apply sS | apply sA)))

theorem list_57 (f : Nat) (fst cap : List Value) (g : SMeterConf → Int → Int) (D : SMeterConf → Int → Prop) (b : Nat) (o : OV) (fs : List SFault) (d : Int) (u : Value) (xs : List SMeterConf) (most : Nat) (w : World) (hen : Gx.Enters Tryz.prog f) (h : At (FR b o fs d) w) (hxs : ∀ w1, Keeps (FR b o fs d).foot w w1 → IsSl eMeterConf w1 u xs) (hk : FnB2 Tryz.prog f fst cap (FR b o fs d).foot w eMeterConf iE iE D g) (hD : ∀ i : Nat, i < xs.length → D (xs.getD i eMeterConf.zero) i) (hd : 0 ≤ d ∧ d + xs.length ≤ 4611686018427387904) (hf : fs.length + most ≤ 100000) : Calls Tryz.prog 43 #[.pointer (some ⟨b, 0, none⟩), u, I most, (bnd f fst cap).v] w (RetR w (FR b o fs d) (fun _ : OV => True) (fun _ => .tuple #[]) (fun o2 => FR b o2 (fs ++ listG (fun j0 : Nat => g (xs.getD j0 eMeterConf.zero) j0) d xs.length most) (d + xs.length))) := by
  obtain ⟨m, hm⟩ : ∃ m : Nat, (min (xs.length : Int) (most : Int)) = (m : Int) := ⟨min xs.length most, by omega⟩
  have hm2 : m = min xs.length most := by omega
  have hle := (hxs w (Keeps.refl _ _)).le
  have htl : (xs.take m).length = m := by simp; omega
  refine enter (FR b o fs d).foot 76 [FR b o fs d] Tryz.func43 rfl rfl (Nat.le_of_ble_eq_true rfl) (start_at h) ?_
  refine sepOut Rem.head ?_
  refine seq (seq (region (cons (opv (Ev.move (.t rfl)) (cons (opv (Ev.move (.t rfl)) (cons (opv (Ev.len Tryz.underlying25 (.t rfl) (fun w I => hxs w I.keeps)) ?_))))))))
  refine cons (opv (Ev.move (.t rfl)) (cons (opv (Ev.to (v' := I ((m : Nat) : Int)) (Ev.min_i (.t rfl) (.t rfl)) (by rw [hm])) ?_)))
  refine cons (opv (Ev.sliceH Tryz.underlying25 ty57 (.t rfl) (.t rfl) (fun w I => hxs w I.keeps) (fun _ => by omega)) ?_)
  refine cons (opv (Ev.len Tryz.underlying25 (.t rfl) (fun w I => by have := (hxs w I.keeps).sub (l := 0) (k := m) (by omega) (by omega); simpa using this)) ?_)
  refine cons (opv (Ev.move (.c (v := I 0) rfl)) ?_)
  refine nil (pN (block (lp (X := Int × OV) (fun x : Int × OV => (0 ≤ x.1 ∧ x.1 ≤ m)) (fun x : Int × OV => [(0, true, .pointer (some ⟨b, 0, none⟩)), (1, true, u), (2, true, I most), (3, true, (bnd f fst cap).v), (16, true, subS eMeterConf.size u 0 m), (17, true, I (xs.take m).length), (18, true, I x.1)]) (fun x : Int × OV => [Var b eConfFaults ⟨x.2, d⟩ 88, OwnS x.2.v eFault (fs ++ faultsUp (fun j0 : Nat => g (xs.getD j0 eMeterConf.zero) j0) d x.1.toNat) 37]) (fun x : Int × OV => ((m : Int) - x.1).toNat) (0, o) ?_ (fun x hx => ?_) (hL := (by simp only [show (0 : Int).toNat = 0 from rfl, faultsUp, List.append_nil]; repeat first | exact sR | exact sN | apply sC | apply sS | apply sA)))))
  · omega
  obtain ⟨i, q⟩ := x
  have hi : 0 ≤ i ∧ i ≤ m := hx
  clear hx
  show Sat _ _ [(0, true, .pointer (some ⟨b, 0, none⟩)), (1, true, u), (2, true, I most), (3, true, (bnd f fst cap).v), (16, true, subS eMeterConf.size u 0 m), (17, true, I (xs.take m).length), (18, true, I i)] [Var b eConfFaults ⟨q, d⟩ 88, OwnS q.v eFault (fs ++ faultsUp (fun j0 : Nat => g (xs.getD j0 eMeterConf.zero) j0) d i.toNat) 37]
  refine seq (region (cons (opv (Ev.lss_i (.t rfl) (.t rfl)) ?_)))
  refine nil (pN (seq ?_))
  first | refine condD rfl (fun h0 => ?_) (fun h0 => ?_) | refine cond rfl (fun h0 => ?_) (fun h0 => ?_)
  · try simp only [nb] at h0
    refine skip (pN (seq (block (seq (region (cons (opv (Ev.move (.t rfl)) (cons (opv (Ev.indexAddr Tryz.underlying25 ty57 (.t rfl) (.t rfl) (fun w I => by have := (hxs w I.keeps).sub (l := 0) (k := m) (by omega) (by omega); simpa using this) (fun _ => by omega)) ?_)))))))))
    refine cons (opv (Ev.to (v' := eMeterConf.val (xs.getD i.toNat eMeterConf.zero)) (Ev.loadS0 ty57 (.t rfl) (fun w I => by have := (hxs w I.keeps).sub (l := 0) (k := m) (by omega) (by omega); simpa using this) (fun _ => by omega)) (congrArg eMeterConf.val (getD_take'' xs m i.toNat _ (by omega)))) ?_)
    refine cons (alloc z57 (fun b1 => ?_))
    refine cons (opv (Ev.assign (.t rfl)) (cons (stv ty57 (Lens.id _) (.t rfl) (.t rfl) ?_)))
    refine nil (pN (seq (region (cons (opv (Ev.move (.t rfl)) (cons (opv (Ev.ldv ty57 (.t rfl) (Lens.id _)) ?_)))))))
    refine cons (opv (Ev.move (.t rfl)) (cons (callbv (.t rfl) hen (.cons (.t rfl) (.cons (.t rfl) .nil)) (fun w I => hk (xs.getD i.toNat eMeterConf.zero) i w (by have := hD i.toNat (by omega); rwa [show ((i.toNat : Nat) : Int) = i by omega] at this) I.keeps) ?_)))
    refine cons (opv (Ev.assign (.t rfl)) (nil (pN (seq (region (cons (opv (Ev.move (.t rfl)) (cons (opv (Ev.neq_i (.t rfl) (.c (v := I 0) rfl)) ?_)))))))))
    refine nil (pN ?_)
    first | refine condD rfl (fun h1 => ?_) (fun h1 => ?_) | refine cond rfl (fun h1 => ?_) (fun h1 => ?_)
    · try simp only [nb] at h1
      have ei : ((i.toNat : Nat) : Int) = i := by omega
      have hst := faultsUp_bad (e := (fun j0 : Nat => g (xs.getD j0 eMeterConf.zero) j0)) (d := d) hi.1 (by (try dsimp only); rw [ei]; exact h1)
      (try dsimp only at hst)
      rw [ei] at hst
      refine draw [] (by kernel_rfl) ?_
      refine tk 0 rfl (Ev.move (.t rfl)) ?_
      refine tk 1 rfl (Ev.move (.t rfl)) ?_
      refine tk 2 rfl (Ev.nilCheck (.t rfl)) ?_
      refine tk 3 rfl (Ev.fieldAddr (o := 0) (.t rfl) (by kernel_rfl)) ?_
      refine tk 5 rfl (Ev.move (.t rfl)) ?_
      refine tk 6 rfl (Ev.move (.t rfl)) ?_
      refine tk 7 rfl (Ev.nilCheck (.t rfl)) ?_
      refine tk 8 rfl (Ev.fieldAddr (o := 1) (.t rfl) (by kernel_rfl)) ?_
      refine tk 10 rfl (Ev.move (.t rfl)) ?_
      refine all [4, 9] (by kernel_rfl) (by decide) (.cons rfl ?_ (.cons rfl ?_ .nil))
      · refine (opv (Ev.ldv ty31 (.t rfl) SConfFaults.l_l) ?_)
        refine hdn (al1 9 rfl ((opv (Ev.ldv ty3 (.t rfl) SConfFaults.l_at_) ?_)))
        refine hdn (tk 11 rfl (Ev.add_i (.t rfl) (.t rfl) (fun _ => by simp; omega)) ?_)
        refine tk 12 rfl (Ev.buildS (fs := _) (places := [(0, 1), (1, 1)]) z37 rfl Tryz.underlying37 (by kernel_rfl) (.cons (.t rfl) (.cons (.t rfl) .nil)) (Fills.cons SFault.l_code rfl (Fills.cons SFault.l_at_ rfl Fills.nil))) ?_
        refine al1 13 rfl ((buildSlice (E := eFault) Tryz.underlying31 ty37 z37 (.cons (.t rfl) .nil) rfl rfl (fun v2 => ?_)))
        refine hdn (al1 14 rfl ((app (E := eFault) Tryz.underlying31 ty37 zb37 zs37 (.t rfl) (.t rfl) (fun v3 => ?_) (hby := ⟨by (show _ ≤ 9223372036854775807); have := faultsUp_len (fun j0 : Nat => g (xs.getD j0 eMeterConf.zero) j0) d i.toNat; simp only [List.length_append, List.length_cons, List.length_nil]; omega, by have := faultsUp_len (fun j0 : Nat => g (xs.getD j0 eMeterConf.zero) j0) d i.toNat; simp only [List.length_append, List.length_cons, List.length_nil]; omega⟩))))
        refine hdn (tk 15 rfl (Ev.nilCheck (.t rfl)) ?_)
        refine tk 16 rfl (Ev.fieldAddr (o := 0) (.t rfl) (by kernel_rfl)) ?_
        refine al1 17 rfl ((stv ty31 SConfFaults.l_l (.t rfl) (.t rfl) ?_))
        refine hdn (ovr (bN (pN (region (cons (opv (Ev.add_i (.t rfl) (.c (v := I 1) rfl) (fun _ => by omega)) ?_))))))
        refine cons (opv (Ev.move (.t rfl)) (nil (pN (nx (X := Int × OV) (i + 1, _) ?_ ?_ (hL := (by rw [hst]; (try rw [← List.append_assoc]); repeat first | exact sR | exact sN | apply sC | apply sS | apply sA))))))
        · try dsimp only
          omega
        · try dsimp only
          omega
      · refine (opv (Ev.ldv ty3 (.t rfl) SConfFaults.l_at_) ?_)
        refine hdn (tk 11 rfl (Ev.add_i (.t rfl) (.t rfl) (fun _ => by simp; omega)) ?_)
        refine tk 12 rfl (Ev.buildS (fs := _) (places := [(0, 1), (1, 1)]) z37 rfl Tryz.underlying37 (by kernel_rfl) (.cons (.t rfl) (.cons (.t rfl) .nil)) (Fills.cons SFault.l_code rfl (Fills.cons SFault.l_at_ rfl Fills.nil))) ?_
        refine all [4, 13] (by kernel_rfl) (by decide) (.cons rfl ?_ (.cons rfl ?_ .nil))
        · refine (opv (Ev.ldv ty31 (.t rfl) SConfFaults.l_l) ?_)
          refine hdn (al1 13 rfl ((buildSlice (E := eFault) Tryz.underlying31 ty37 z37 (.cons (.t rfl) .nil) rfl rfl (fun v4 => ?_))))
          refine hdn (al1 14 rfl ((app (E := eFault) Tryz.underlying31 ty37 zb37 zs37 (.t rfl) (.t rfl) (fun v5 => ?_) (hby := ⟨by (show _ ≤ 9223372036854775807); have := faultsUp_len (fun j0 : Nat => g (xs.getD j0 eMeterConf.zero) j0) d i.toNat; simp only [List.length_append, List.length_cons, List.length_nil]; omega, by have := faultsUp_len (fun j0 : Nat => g (xs.getD j0 eMeterConf.zero) j0) d i.toNat; simp only [List.length_append, List.length_cons, List.length_nil]; omega⟩))))
          refine hdn (tk 15 rfl (Ev.nilCheck (.t rfl)) ?_)
          refine tk 16 rfl (Ev.fieldAddr (o := 0) (.t rfl) (by kernel_rfl)) ?_
          refine al1 17 rfl ((stv ty31 SConfFaults.l_l (.t rfl) (.t rfl) ?_))
          refine hdn (ovr (bN (pN (region (cons (opv (Ev.add_i (.t rfl) (.c (v := I 1) rfl) (fun _ => by omega)) ?_))))))
          refine cons (opv (Ev.move (.t rfl)) (nil (pN (nx (X := Int × OV) (i + 1, _) ?_ ?_ (hL := (by rw [hst]; (try rw [← List.append_assoc]); repeat first | exact sR | exact sN | apply sC | apply sS | apply sA))))))
          · try dsimp only
            omega
          · try dsimp only
            omega
        · refine (buildSlice (E := eFault) Tryz.underlying31 ty37 z37 (.cons (.t rfl) .nil) rfl rfl (fun v6 => ?_))
          refine hdn (al1 4 rfl ((opv (Ev.ldv ty31 (.t rfl) SConfFaults.l_l) ?_)))
          refine hdn (al1 14 rfl ((app (E := eFault) Tryz.underlying31 ty37 zb37 zs37 (.t rfl) (.t rfl) (fun v7 => ?_) (hby := ⟨by (show _ ≤ 9223372036854775807); have := faultsUp_len (fun j0 : Nat => g (xs.getD j0 eMeterConf.zero) j0) d i.toNat; simp only [List.length_append, List.length_cons, List.length_nil]; omega, by have := faultsUp_len (fun j0 : Nat => g (xs.getD j0 eMeterConf.zero) j0) d i.toNat; simp only [List.length_append, List.length_cons, List.length_nil]; omega⟩))))
          refine hdn (tk 15 rfl (Ev.nilCheck (.t rfl)) ?_)
          refine tk 16 rfl (Ev.fieldAddr (o := 0) (.t rfl) (by kernel_rfl)) ?_
          refine al1 17 rfl ((stv ty31 SConfFaults.l_l (.t rfl) (.t rfl) ?_))
          refine hdn (ovr (bN (pN (region (cons (opv (Ev.add_i (.t rfl) (.c (v := I 1) rfl) (fun _ => by omega)) ?_))))))
          refine cons (opv (Ev.move (.t rfl)) (nil (pN (nx (X := Int × OV) (i + 1, _) ?_ ?_ (hL := (by rw [hst]; (try rw [← List.append_assoc]); repeat first | exact sR | exact sN | apply sC | apply sS | apply sA))))))
          · try dsimp only
            omega
          · try dsimp only
            omega
    · try simp only [nb] at h1
      have ei : ((i.toNat : Nat) : Int) = i := by omega
      have hst := faultsUp_ok (e := (fun j0 : Nat => g (xs.getD j0 eMeterConf.zero) j0)) (d := d) hi.1 (by (try dsimp only); rw [ei]; exact h1)
      refine skip (bN (pN (region (cons (opv (Ev.add_i (.t rfl) (.c (v := I 1) rfl) (fun _ => by omega)) ?_)))))
      refine cons (opv (Ev.move (.t rfl)) (nil (pN (nx (X := Int × OV) (i + 1, _) ?_ ?_ (hL := (by rw [hst]; (try rw [← List.append_assoc]); repeat first | exact sR | exact sN | apply sC | apply sS | apply sA))))))
      · try dsimp only
        omega
      · try dsimp only
        omega
  · try simp only [nb] at h0
    refine exit (pX (pX (bX (pN (cut (X := OV) (fun x : OV => True) (fun x : OV => [(0, true, .pointer (some ⟨b, 0, none⟩)), (1, true, u)]) (fun x : OV => [Var b eConfFaults ⟨x, d⟩ 88, OwnS x.v eFault (fs ++ listG (fun j0 : Nat => g (xs.getD j0 eMeterConf.zero) j0) d xs.length most) 37]) ?_ (fun x hx => ?_))))))
    · refine seq (region ?_)
      have him : i.toNat = m := by omega
      rw [him]
      refine cons (opv (Ev.move (.t rfl)) (cons (opv (Ev.len Tryz.underlying25 (.t rfl) (fun w I => hxs w I.keeps)) ?_)))
      refine cons (opv (Ev.move (.t rfl)) (cons (opv (Ev.gtr_i (.t rfl) (.t rfl)) ?_)))
      refine nil (pN ?_)
      first | refine condD rfl (fun h2 => ?_) (fun h2 => ?_) | refine cond rfl (fun h2 => ?_) (fun h2 => ?_)
      · try simp only [nb] at h2
        refine draw [] (by kernel_rfl) ?_
        refine tk 0 rfl (Ev.move (.t rfl)) ?_
        refine tk 1 rfl (Ev.move (.t rfl)) ?_
        refine tk 2 rfl (Ev.nilCheck (.t rfl)) ?_
        refine tk 3 rfl (Ev.fieldAddr (o := 0) (.t rfl) (by kernel_rfl)) ?_
        refine tk 5 rfl (Ev.move (.t rfl)) ?_
        refine tk 6 rfl (Ev.nilCheck (.t rfl)) ?_
        refine tk 7 rfl (Ev.fieldAddr (o := 1) (.t rfl) (by kernel_rfl)) ?_
        refine tk 9 rfl (Ev.move (.t rfl)) ?_
        refine all [4, 8] (by kernel_rfl) (by decide) (.cons rfl ?_ (.cons rfl ?_ .nil))
        · refine (opv (Ev.ldv ty31 (.t rfl) SConfFaults.l_l) ?_)
          refine hdn (al1 8 rfl ((opv (Ev.ldv ty3 (.t rfl) SConfFaults.l_at_) ?_)))
          refine hdn (tk 10 rfl (Ev.add_i (.t rfl) (.t rfl) (fun _ => by simp; omega)) ?_)
          refine tk 11 rfl (Ev.buildS (fs := _) (places := [(0, 1), (1, 1)]) z37 rfl Tryz.underlying37 (by kernel_rfl) (.cons (.c (v := I 4) rfl) (.cons (.t rfl) .nil)) (Fills.cons SFault.l_code rfl (Fills.cons SFault.l_at_ rfl Fills.nil))) ?_
          refine al1 12 rfl ((buildSlice (E := eFault) Tryz.underlying31 ty37 z37 (.cons (.t rfl) .nil) rfl rfl (fun v8 => ?_)))
          refine hdn (al1 13 rfl ((app (E := eFault) Tryz.underlying31 ty37 zb37 zs37 (.t rfl) (.t rfl) (fun v9 => ?_) (hby := ⟨by (show _ ≤ 9223372036854775807); have := faultsUp_len (fun j0 : Nat => g (xs.getD j0 eMeterConf.zero) j0) d m; simp only [List.length_append, List.length_cons, List.length_nil]; omega, by have := faultsUp_len (fun j0 : Nat => g (xs.getD j0 eMeterConf.zero) j0) d m; simp only [List.length_append, List.length_cons, List.length_nil]; omega⟩))))
          refine hdn (tk 14 rfl (Ev.nilCheck (.t rfl)) ?_)
          refine tk 15 rfl (Ev.fieldAddr (o := 0) (.t rfl) (by kernel_rfl)) ?_
          refine al1 16 rfl ((stv ty31 SConfFaults.l_l (.t rfl) (.t rfl) ?_))
          refine hdn (ovr (pN (mt (X := OV) (_) trivial (hL := (by unfold listG; rw [← hm2]; (first | rw [if_pos (by omega), ← List.append_assoc] | rw [if_neg (by omega), List.append_nil]); repeat first | exact sR | exact sN | apply sC | apply sS | apply sA)))))
        · refine (opv (Ev.ldv ty3 (.t rfl) SConfFaults.l_at_) ?_)
          refine hdn (tk 10 rfl (Ev.add_i (.t rfl) (.t rfl) (fun _ => by simp; omega)) ?_)
          refine tk 11 rfl (Ev.buildS (fs := _) (places := [(0, 1), (1, 1)]) z37 rfl Tryz.underlying37 (by kernel_rfl) (.cons (.c (v := I 4) rfl) (.cons (.t rfl) .nil)) (Fills.cons SFault.l_code rfl (Fills.cons SFault.l_at_ rfl Fills.nil))) ?_
          refine all [4, 12] (by kernel_rfl) (by decide) (.cons rfl ?_ (.cons rfl ?_ .nil))
          · refine (opv (Ev.ldv ty31 (.t rfl) SConfFaults.l_l) ?_)
            refine hdn (al1 12 rfl ((buildSlice (E := eFault) Tryz.underlying31 ty37 z37 (.cons (.t rfl) .nil) rfl rfl (fun v10 => ?_))))
            refine hdn (al1 13 rfl ((app (E := eFault) Tryz.underlying31 ty37 zb37 zs37 (.t rfl) (.t rfl) (fun v11 => ?_) (hby := ⟨by (show _ ≤ 9223372036854775807); have := faultsUp_len (fun j0 : Nat => g (xs.getD j0 eMeterConf.zero) j0) d m; simp only [List.length_append, List.length_cons, List.length_nil]; omega, by have := faultsUp_len (fun j0 : Nat => g (xs.getD j0 eMeterConf.zero) j0) d m; simp only [List.length_append, List.length_cons, List.length_nil]; omega⟩))))
            refine hdn (tk 14 rfl (Ev.nilCheck (.t rfl)) ?_)
            refine tk 15 rfl (Ev.fieldAddr (o := 0) (.t rfl) (by kernel_rfl)) ?_
            refine al1 16 rfl ((stv ty31 SConfFaults.l_l (.t rfl) (.t rfl) ?_))
            refine hdn (ovr (pN (mt (X := OV) (_) trivial (hL := (by unfold listG; rw [← hm2]; (first | rw [if_pos (by omega), ← List.append_assoc] | rw [if_neg (by omega), List.append_nil]); repeat first | exact sR | exact sN | apply sC | apply sS | apply sA)))))
          · refine (buildSlice (E := eFault) Tryz.underlying31 ty37 z37 (.cons (.t rfl) .nil) rfl rfl (fun v12 => ?_))
            refine hdn (al1 4 rfl ((opv (Ev.ldv ty31 (.t rfl) SConfFaults.l_l) ?_)))
            refine hdn (al1 13 rfl ((app (E := eFault) Tryz.underlying31 ty37 zb37 zs37 (.t rfl) (.t rfl) (fun v13 => ?_) (hby := ⟨by (show _ ≤ 9223372036854775807); have := faultsUp_len (fun j0 : Nat => g (xs.getD j0 eMeterConf.zero) j0) d m; simp only [List.length_append, List.length_cons, List.length_nil]; omega, by have := faultsUp_len (fun j0 : Nat => g (xs.getD j0 eMeterConf.zero) j0) d m; simp only [List.length_append, List.length_cons, List.length_nil]; omega⟩))))
            refine hdn (tk 14 rfl (Ev.nilCheck (.t rfl)) ?_)
            refine tk 15 rfl (Ev.fieldAddr (o := 0) (.t rfl) (by kernel_rfl)) ?_
            refine al1 16 rfl ((stv ty31 SConfFaults.l_l (.t rfl) (.t rfl) ?_))
            refine hdn (ovr (pN (mt (X := OV) (_) trivial (hL := (by unfold listG; rw [← hm2]; (first | rw [if_pos (by omega), ← List.append_assoc] | rw [if_neg (by omega), List.append_nil]); repeat first | exact sR | exact sN | apply sC | apply sS | apply sA)))))
      · try simp only [nb] at h2
        refine skip (pN (mt (X := OV) (_) trivial (hL := (by unfold listG; rw [← hm2]; (first | rw [if_pos (by omega), ← List.append_assoc] | rw [if_neg (by omega), List.append_nil]); repeat first | exact sR | exact sN | apply sC | apply sS | apply sA))))
    obtain ⟨q2, rfl⟩ : ∃ y, y = x := ⟨x, rfl⟩
    show Sat _ _ [(0, true, .pointer (some ⟨b, 0, none⟩)), (1, true, u)] [Var b eConfFaults ⟨q2, d⟩ 88, OwnS q2.v eFault (fs ++ listG (fun j0 : Nat => g (xs.getD j0 eMeterConf.zero) j0) d xs.length most) 37]
    refine region (cons (opv (Ev.move (.t rfl)) (cons (opv (Ev.nilCheck (.t rfl)) ?_))))
    refine cons (opv (Ev.fieldAddr (o := 1) (.t rfl) (by kernel_rfl)) ?_)
    refine cons (opv (Ev.ldv ty3 (.t rfl) SConfFaults.l_at_) ?_)
    refine cons (opv (Ev.move (.t rfl)) (cons (opv (Ev.len Tryz.underlying25 (.t rfl) (fun w I => hxs w I.keeps)) ?_)))
    refine cons (opv (Ev.add_i (.t rfl) (.t rfl) (fun _ => by simp; omega)) ?_)
    refine cons (opv (Ev.nilCheck (.t rfl)) ?_)
    refine cons (opv (Ev.fieldAddr (o := 1) (.t rfl) (by kernel_rfl)) ?_)
    refine cons (stv ty3 SConfFaults.l_at_ (.t rfl) (.t rfl) ?_)
    refine nil (done' rfl .nil (fun w I => ?_))
    exact retR (r' := fun o2 => FR b o2 (fs ++ listG (fun j0 : Nat => g (xs.getD j0 eMeterConf.zero) j0) d xs.length most) (d + xs.length)) _ trivial rfl (List.mem_singleton_self _) w (WInv.sepIn (I.sub (by repeat first | exact sR | exact sN | apply sC | apply sS | apply sA)))

theorem list_59 (f : Nat) (fst cap : List Value) (g : SMirrorConf → Int → Int) (D : SMirrorConf → Int → Prop) (b : Nat) (o : OV) (fs : List SFault) (d : Int) (u : Value) (xs : List SMirrorConf) (most : Nat) (w : World) (hen : Gx.Enters Tryz.prog f) (h : At (FR b o fs d) w) (hxs : ∀ w1, Keeps (FR b o fs d).foot w w1 → IsSl eMirrorConf w1 u xs) (hk : FnB2 Tryz.prog f fst cap (FR b o fs d).foot w eMirrorConf iE iE D g) (hD : ∀ i : Nat, i < xs.length → D (xs.getD i eMirrorConf.zero) i) (hd : 0 ≤ d ∧ d + xs.length ≤ 4611686018427387904) (hf : fs.length + most ≤ 100000) : Calls Tryz.prog 45 #[.pointer (some ⟨b, 0, none⟩), u, I most, (bnd f fst cap).v] w (RetR w (FR b o fs d) (fun _ : OV => True) (fun _ => .tuple #[]) (fun o2 => FR b o2 (fs ++ listG (fun j0 : Nat => g (xs.getD j0 eMirrorConf.zero) j0) d xs.length most) (d + xs.length))) := by
  obtain ⟨m, hm⟩ : ∃ m : Nat, (min (xs.length : Int) (most : Int)) = (m : Int) := ⟨min xs.length most, by omega⟩
  have hm2 : m = min xs.length most := by omega
  have hle := (hxs w (Keeps.refl _ _)).le
  have htl : (xs.take m).length = m := by simp; omega
  refine enter (FR b o fs d).foot 76 [FR b o fs d] Tryz.func45 rfl rfl (Nat.le_of_ble_eq_true rfl) (start_at h) ?_
  refine sepOut Rem.head ?_
  refine seq (seq (region (cons (opv (Ev.move (.t rfl)) (cons (opv (Ev.move (.t rfl)) (cons (opv (Ev.len Tryz.underlying26 (.t rfl) (fun w I => hxs w I.keeps)) ?_))))))))
  refine cons (opv (Ev.move (.t rfl)) (cons (opv (Ev.to (v' := I ((m : Nat) : Int)) (Ev.min_i (.t rfl) (.t rfl)) (by rw [hm])) ?_)))
  refine cons (opv (Ev.sliceH Tryz.underlying26 ty59 (.t rfl) (.t rfl) (fun w I => hxs w I.keeps) (fun _ => by omega)) ?_)
  refine cons (opv (Ev.len Tryz.underlying26 (.t rfl) (fun w I => by have := (hxs w I.keeps).sub (l := 0) (k := m) (by omega) (by omega); simpa using this)) ?_)
  refine cons (opv (Ev.move (.c (v := I 0) rfl)) ?_)
  refine nil (pN (block (lp (X := Int × OV) (fun x : Int × OV => (0 ≤ x.1 ∧ x.1 ≤ m)) (fun x : Int × OV => [(0, true, .pointer (some ⟨b, 0, none⟩)), (1, true, u), (2, true, I most), (3, true, (bnd f fst cap).v), (16, true, subS eMirrorConf.size u 0 m), (17, true, I (xs.take m).length), (18, true, I x.1)]) (fun x : Int × OV => [Var b eConfFaults ⟨x.2, d⟩ 88, OwnS x.2.v eFault (fs ++ faultsUp (fun j0 : Nat => g (xs.getD j0 eMirrorConf.zero) j0) d x.1.toNat) 37]) (fun x : Int × OV => ((m : Int) - x.1).toNat) (0, o) ?_ (fun x hx => ?_) (hL := (by simp only [show (0 : Int).toNat = 0 from rfl, faultsUp, List.append_nil]; repeat first | exact sR | exact sN | apply sC | apply sS | apply sA)))))
  · omega
  obtain ⟨i, q⟩ := x
  have hi : 0 ≤ i ∧ i ≤ m := hx
  clear hx
  show Sat _ _ [(0, true, .pointer (some ⟨b, 0, none⟩)), (1, true, u), (2, true, I most), (3, true, (bnd f fst cap).v), (16, true, subS eMirrorConf.size u 0 m), (17, true, I (xs.take m).length), (18, true, I i)] [Var b eConfFaults ⟨q, d⟩ 88, OwnS q.v eFault (fs ++ faultsUp (fun j0 : Nat => g (xs.getD j0 eMirrorConf.zero) j0) d i.toNat) 37]
  refine seq (region (cons (opv (Ev.lss_i (.t rfl) (.t rfl)) ?_)))
  refine nil (pN (seq ?_))
  first | refine condD rfl (fun h0 => ?_) (fun h0 => ?_) | refine cond rfl (fun h0 => ?_) (fun h0 => ?_)
  · try simp only [nb] at h0
    refine skip (pN (seq (block (seq (region (cons (opv (Ev.move (.t rfl)) (cons (opv (Ev.indexAddr Tryz.underlying26 ty59 (.t rfl) (.t rfl) (fun w I => by have := (hxs w I.keeps).sub (l := 0) (k := m) (by omega) (by omega); simpa using this) (fun _ => by omega)) ?_)))))))))
    refine cons (opv (Ev.to (v' := eMirrorConf.val (xs.getD i.toNat eMirrorConf.zero)) (Ev.loadS0 ty59 (.t rfl) (fun w I => by have := (hxs w I.keeps).sub (l := 0) (k := m) (by omega) (by omega); simpa using this) (fun _ => by omega)) (congrArg eMirrorConf.val (getD_take'' xs m i.toNat _ (by omega)))) ?_)
    refine cons (alloc z59 (fun b1 => ?_))
    refine cons (opv (Ev.assign (.t rfl)) (cons (stv ty59 (Lens.id _) (.t rfl) (.t rfl) ?_)))
    refine nil (pN (seq (region (cons (opv (Ev.move (.t rfl)) (cons (opv (Ev.ldv ty59 (.t rfl) (Lens.id _)) ?_)))))))
    refine cons (opv (Ev.move (.t rfl)) (cons (callbv (.t rfl) hen (.cons (.t rfl) (.cons (.t rfl) .nil)) (fun w I => hk (xs.getD i.toNat eMirrorConf.zero) i w (by have := hD i.toNat (by omega); rwa [show ((i.toNat : Nat) : Int) = i by omega] at this) I.keeps) ?_)))
    refine cons (opv (Ev.assign (.t rfl)) (nil (pN (seq (region (cons (opv (Ev.move (.t rfl)) (cons (opv (Ev.neq_i (.t rfl) (.c (v := I 0) rfl)) ?_)))))))))
    refine nil (pN ?_)
    first | refine condD rfl (fun h1 => ?_) (fun h1 => ?_) | refine cond rfl (fun h1 => ?_) (fun h1 => ?_)
    · try simp only [nb] at h1
      have ei : ((i.toNat : Nat) : Int) = i := by omega
      have hst := faultsUp_bad (e := (fun j0 : Nat => g (xs.getD j0 eMirrorConf.zero) j0)) (d := d) hi.1 (by (try dsimp only); rw [ei]; exact h1)
      (try dsimp only at hst)
      rw [ei] at hst
      refine draw [] (by kernel_rfl) ?_
      refine tk 0 rfl (Ev.move (.t rfl)) ?_
      refine tk 1 rfl (Ev.move (.t rfl)) ?_
      refine tk 2 rfl (Ev.nilCheck (.t rfl)) ?_
      refine tk 3 rfl (Ev.fieldAddr (o := 0) (.t rfl) (by kernel_rfl)) ?_
      refine tk 5 rfl (Ev.move (.t rfl)) ?_
      refine tk 6 rfl (Ev.move (.t rfl)) ?_
      refine tk 7 rfl (Ev.nilCheck (.t rfl)) ?_
      refine tk 8 rfl (Ev.fieldAddr (o := 1) (.t rfl) (by kernel_rfl)) ?_
      refine tk 10 rfl (Ev.move (.t rfl)) ?_
      refine all [4, 9] (by kernel_rfl) (by decide) (.cons rfl ?_ (.cons rfl ?_ .nil))
      · refine (opv (Ev.ldv ty31 (.t rfl) SConfFaults.l_l) ?_)
        refine hdn (al1 9 rfl ((opv (Ev.ldv ty3 (.t rfl) SConfFaults.l_at_) ?_)))
        refine hdn (tk 11 rfl (Ev.add_i (.t rfl) (.t rfl) (fun _ => by simp; omega)) ?_)
        refine tk 12 rfl (Ev.buildS (fs := _) (places := [(0, 1), (1, 1)]) z37 rfl Tryz.underlying37 (by kernel_rfl) (.cons (.t rfl) (.cons (.t rfl) .nil)) (Fills.cons SFault.l_code rfl (Fills.cons SFault.l_at_ rfl Fills.nil))) ?_
        refine al1 13 rfl ((buildSlice (E := eFault) Tryz.underlying31 ty37 z37 (.cons (.t rfl) .nil) rfl rfl (fun v2 => ?_)))
        refine hdn (al1 14 rfl ((app (E := eFault) Tryz.underlying31 ty37 zb37 zs37 (.t rfl) (.t rfl) (fun v3 => ?_) (hby := ⟨by (show _ ≤ 9223372036854775807); have := faultsUp_len (fun j0 : Nat => g (xs.getD j0 eMirrorConf.zero) j0) d i.toNat; simp only [List.length_append, List.length_cons, List.length_nil]; omega, by have := faultsUp_len (fun j0 : Nat => g (xs.getD j0 eMirrorConf.zero) j0) d i.toNat; simp only [List.length_append, List.length_cons, List.length_nil]; omega⟩))))
        refine hdn (tk 15 rfl (Ev.nilCheck (.t rfl)) ?_)
        refine tk 16 rfl (Ev.fieldAddr (o := 0) (.t rfl) (by kernel_rfl)) ?_
        refine al1 17 rfl ((stv ty31 SConfFaults.l_l (.t rfl) (.t rfl) ?_))
        refine hdn (ovr (bN (pN (region (cons (opv (Ev.add_i (.t rfl) (.c (v := I 1) rfl) (fun _ => by omega)) ?_))))))
        refine cons (opv (Ev.move (.t rfl)) (nil (pN (nx (X := Int × OV) (i + 1, _) ?_ ?_ (hL := (by rw [hst]; (try rw [← List.append_assoc]); repeat first | exact sR | exact sN | apply sC | apply sS | apply sA))))))
        · try dsimp only
          omega
        · try dsimp only
          omega
      · refine (opv (Ev.ldv ty3 (.t rfl) SConfFaults.l_at_) ?_)
        refine hdn (tk 11 rfl (Ev.add_i (.t rfl) (.t rfl) (fun _ => by simp; omega)) ?_)
        refine tk 12 rfl (Ev.buildS (fs := _) (places := [(0, 1), (1, 1)]) z37 rfl Tryz.underlying37 (by kernel_rfl) (.cons (.t rfl) (.cons (.t rfl) .nil)) (Fills.cons SFault.l_code rfl (Fills.cons SFault.l_at_ rfl Fills.nil))) ?_
        refine all [4, 13] (by kernel_rfl) (by decide) (.cons rfl ?_ (.cons rfl ?_ .nil))
        · refine (opv (Ev.ldv ty31 (.t rfl) SConfFaults.l_l) ?_)
          refine hdn (al1 13 rfl ((buildSlice (E := eFault) Tryz.underlying31 ty37 z37 (.cons (.t rfl) .nil) rfl rfl (fun v4 => ?_))))
          refine hdn (al1 14 rfl ((app (E := eFault) Tryz.underlying31 ty37 zb37 zs37 (.t rfl) (.t rfl) (fun v5 => ?_) (hby := ⟨by (show _ ≤ 9223372036854775807); have := faultsUp_len (fun j0 : Nat => g (xs.getD j0 eMirrorConf.zero) j0) d i.toNat; simp only [List.length_append, List.length_cons, List.length_nil]; omega, by have := faultsUp_len (fun j0 : Nat => g (xs.getD j0 eMirrorConf.zero) j0) d i.toNat; simp only [List.length_append, List.length_cons, List.length_nil]; omega⟩))))
          refine hdn (tk 15 rfl (Ev.nilCheck (.t rfl)) ?_)
          refine tk 16 rfl (Ev.fieldAddr (o := 0) (.t rfl) (by kernel_rfl)) ?_
          refine al1 17 rfl ((stv ty31 SConfFaults.l_l (.t rfl) (.t rfl) ?_))
          refine hdn (ovr (bN (pN (region (cons (opv (Ev.add_i (.t rfl) (.c (v := I 1) rfl) (fun _ => by omega)) ?_))))))
          refine cons (opv (Ev.move (.t rfl)) (nil (pN (nx (X := Int × OV) (i + 1, _) ?_ ?_ (hL := (by rw [hst]; (try rw [← List.append_assoc]); repeat first | exact sR | exact sN | apply sC | apply sS | apply sA))))))
          · try dsimp only
            omega
          · try dsimp only
            omega
        · refine (buildSlice (E := eFault) Tryz.underlying31 ty37 z37 (.cons (.t rfl) .nil) rfl rfl (fun v6 => ?_))
          refine hdn (al1 4 rfl ((opv (Ev.ldv ty31 (.t rfl) SConfFaults.l_l) ?_)))
          refine hdn (al1 14 rfl ((app (E := eFault) Tryz.underlying31 ty37 zb37 zs37 (.t rfl) (.t rfl) (fun v7 => ?_) (hby := ⟨by (show _ ≤ 9223372036854775807); have := faultsUp_len (fun j0 : Nat => g (xs.getD j0 eMirrorConf.zero) j0) d i.toNat; simp only [List.length_append, List.length_cons, List.length_nil]; omega, by have := faultsUp_len (fun j0 : Nat => g (xs.getD j0 eMirrorConf.zero) j0) d i.toNat; simp only [List.length_append, List.length_cons, List.length_nil]; omega⟩))))
          refine hdn (tk 15 rfl (Ev.nilCheck (.t rfl)) ?_)
          refine tk 16 rfl (Ev.fieldAddr (o := 0) (.t rfl) (by kernel_rfl)) ?_
          refine al1 17 rfl ((stv ty31 SConfFaults.l_l (.t rfl) (.t rfl) ?_))
          refine hdn (ovr (bN (pN (region (cons (opv (Ev.add_i (.t rfl) (.c (v := I 1) rfl) (fun _ => by omega)) ?_))))))
          refine cons (opv (Ev.move (.t rfl)) (nil (pN (nx (X := Int × OV) (i + 1, _) ?_ ?_ (hL := (by rw [hst]; (try rw [← List.append_assoc]); repeat first | exact sR | exact sN | apply sC | apply sS | apply sA))))))
          · try dsimp only
            omega
          · try dsimp only
            omega
    · try simp only [nb] at h1
      have ei : ((i.toNat : Nat) : Int) = i := by omega
      have hst := faultsUp_ok (e := (fun j0 : Nat => g (xs.getD j0 eMirrorConf.zero) j0)) (d := d) hi.1 (by (try dsimp only); rw [ei]; exact h1)
      refine skip (bN (pN (region (cons (opv (Ev.add_i (.t rfl) (.c (v := I 1) rfl) (fun _ => by omega)) ?_)))))
      refine cons (opv (Ev.move (.t rfl)) (nil (pN (nx (X := Int × OV) (i + 1, _) ?_ ?_ (hL := (by rw [hst]; (try rw [← List.append_assoc]); repeat first | exact sR | exact sN | apply sC | apply sS | apply sA))))))
      · try dsimp only
        omega
      · try dsimp only
        omega
  · try simp only [nb] at h0
    refine exit (pX (pX (bX (pN (cut (X := OV) (fun x : OV => True) (fun x : OV => [(0, true, .pointer (some ⟨b, 0, none⟩)), (1, true, u)]) (fun x : OV => [Var b eConfFaults ⟨x, d⟩ 88, OwnS x.v eFault (fs ++ listG (fun j0 : Nat => g (xs.getD j0 eMirrorConf.zero) j0) d xs.length most) 37]) ?_ (fun x hx => ?_))))))
    · refine seq (region ?_)
      have him : i.toNat = m := by omega
      rw [him]
      refine cons (opv (Ev.move (.t rfl)) (cons (opv (Ev.len Tryz.underlying26 (.t rfl) (fun w I => hxs w I.keeps)) ?_)))
      refine cons (opv (Ev.move (.t rfl)) (cons (opv (Ev.gtr_i (.t rfl) (.t rfl)) ?_)))
      refine nil (pN ?_)
      first | refine condD rfl (fun h2 => ?_) (fun h2 => ?_) | refine cond rfl (fun h2 => ?_) (fun h2 => ?_)
      · try simp only [nb] at h2
        refine draw [] (by kernel_rfl) ?_
        refine tk 0 rfl (Ev.move (.t rfl)) ?_
        refine tk 1 rfl (Ev.move (.t rfl)) ?_
        refine tk 2 rfl (Ev.nilCheck (.t rfl)) ?_
        refine tk 3 rfl (Ev.fieldAddr (o := 0) (.t rfl) (by kernel_rfl)) ?_
        refine tk 5 rfl (Ev.move (.t rfl)) ?_
        refine tk 6 rfl (Ev.nilCheck (.t rfl)) ?_
        refine tk 7 rfl (Ev.fieldAddr (o := 1) (.t rfl) (by kernel_rfl)) ?_
        refine tk 9 rfl (Ev.move (.t rfl)) ?_
        refine all [4, 8] (by kernel_rfl) (by decide) (.cons rfl ?_ (.cons rfl ?_ .nil))
        · refine (opv (Ev.ldv ty31 (.t rfl) SConfFaults.l_l) ?_)
          refine hdn (al1 8 rfl ((opv (Ev.ldv ty3 (.t rfl) SConfFaults.l_at_) ?_)))
          refine hdn (tk 10 rfl (Ev.add_i (.t rfl) (.t rfl) (fun _ => by simp; omega)) ?_)
          refine tk 11 rfl (Ev.buildS (fs := _) (places := [(0, 1), (1, 1)]) z37 rfl Tryz.underlying37 (by kernel_rfl) (.cons (.c (v := I 4) rfl) (.cons (.t rfl) .nil)) (Fills.cons SFault.l_code rfl (Fills.cons SFault.l_at_ rfl Fills.nil))) ?_
          refine al1 12 rfl ((buildSlice (E := eFault) Tryz.underlying31 ty37 z37 (.cons (.t rfl) .nil) rfl rfl (fun v8 => ?_)))
          refine hdn (al1 13 rfl ((app (E := eFault) Tryz.underlying31 ty37 zb37 zs37 (.t rfl) (.t rfl) (fun v9 => ?_) (hby := ⟨by (show _ ≤ 9223372036854775807); have := faultsUp_len (fun j0 : Nat => g (xs.getD j0 eMirrorConf.zero) j0) d m; simp only [List.length_append, List.length_cons, List.length_nil]; omega, by have := faultsUp_len (fun j0 : Nat => g (xs.getD j0 eMirrorConf.zero) j0) d m; simp only [List.length_append, List.length_cons, List.length_nil]; omega⟩))))
          refine hdn (tk 14 rfl (Ev.nilCheck (.t rfl)) ?_)
          refine tk 15 rfl (Ev.fieldAddr (o := 0) (.t rfl) (by kernel_rfl)) ?_
          refine al1 16 rfl ((stv ty31 SConfFaults.l_l (.t rfl) (.t rfl) ?_))
          refine hdn (ovr (pN (mt (X := OV) (_) trivial (hL := (by unfold listG; rw [← hm2]; (first | rw [if_pos (by omega), ← List.append_assoc] | rw [if_neg (by omega), List.append_nil]); repeat first | exact sR | exact sN | apply sC | apply sS | apply sA)))))
        · refine (opv (Ev.ldv ty3 (.t rfl) SConfFaults.l_at_) ?_)
          refine hdn (tk 10 rfl (Ev.add_i (.t rfl) (.t rfl) (fun _ => by simp; omega)) ?_)
          refine tk 11 rfl (Ev.buildS (fs := _) (places := [(0, 1), (1, 1)]) z37 rfl Tryz.underlying37 (by kernel_rfl) (.cons (.c (v := I 4) rfl) (.cons (.t rfl) .nil)) (Fills.cons SFault.l_code rfl (Fills.cons SFault.l_at_ rfl Fills.nil))) ?_
          refine all [4, 12] (by kernel_rfl) (by decide) (.cons rfl ?_ (.cons rfl ?_ .nil))
          · refine (opv (Ev.ldv ty31 (.t rfl) SConfFaults.l_l) ?_)
            refine hdn (al1 12 rfl ((buildSlice (E := eFault) Tryz.underlying31 ty37 z37 (.cons (.t rfl) .nil) rfl rfl (fun v10 => ?_))))
            refine hdn (al1 13 rfl ((app (E := eFault) Tryz.underlying31 ty37 zb37 zs37 (.t rfl) (.t rfl) (fun v11 => ?_) (hby := ⟨by (show _ ≤ 9223372036854775807); have := faultsUp_len (fun j0 : Nat => g (xs.getD j0 eMirrorConf.zero) j0) d m; simp only [List.length_append, List.length_cons, List.length_nil]; omega, by have := faultsUp_len (fun j0 : Nat => g (xs.getD j0 eMirrorConf.zero) j0) d m; simp only [List.length_append, List.length_cons, List.length_nil]; omega⟩))))
            refine hdn (tk 14 rfl (Ev.nilCheck (.t rfl)) ?_)
            refine tk 15 rfl (Ev.fieldAddr (o := 0) (.t rfl) (by kernel_rfl)) ?_
            refine al1 16 rfl ((stv ty31 SConfFaults.l_l (.t rfl) (.t rfl) ?_))
            refine hdn (ovr (pN (mt (X := OV) (_) trivial (hL := (by unfold listG; rw [← hm2]; (first | rw [if_pos (by omega), ← List.append_assoc] | rw [if_neg (by omega), List.append_nil]); repeat first | exact sR | exact sN | apply sC | apply sS | apply sA)))))
          · refine (buildSlice (E := eFault) Tryz.underlying31 ty37 z37 (.cons (.t rfl) .nil) rfl rfl (fun v12 => ?_))
            refine hdn (al1 4 rfl ((opv (Ev.ldv ty31 (.t rfl) SConfFaults.l_l) ?_)))
            refine hdn (al1 13 rfl ((app (E := eFault) Tryz.underlying31 ty37 zb37 zs37 (.t rfl) (.t rfl) (fun v13 => ?_) (hby := ⟨by (show _ ≤ 9223372036854775807); have := faultsUp_len (fun j0 : Nat => g (xs.getD j0 eMirrorConf.zero) j0) d m; simp only [List.length_append, List.length_cons, List.length_nil]; omega, by have := faultsUp_len (fun j0 : Nat => g (xs.getD j0 eMirrorConf.zero) j0) d m; simp only [List.length_append, List.length_cons, List.length_nil]; omega⟩))))
            refine hdn (tk 14 rfl (Ev.nilCheck (.t rfl)) ?_)
            refine tk 15 rfl (Ev.fieldAddr (o := 0) (.t rfl) (by kernel_rfl)) ?_
            refine al1 16 rfl ((stv ty31 SConfFaults.l_l (.t rfl) (.t rfl) ?_))
            refine hdn (ovr (pN (mt (X := OV) (_) trivial (hL := (by unfold listG; rw [← hm2]; (first | rw [if_pos (by omega), ← List.append_assoc] | rw [if_neg (by omega), List.append_nil]); repeat first | exact sR | exact sN | apply sC | apply sS | apply sA)))))
      · try simp only [nb] at h2
        refine skip (pN (mt (X := OV) (_) trivial (hL := (by unfold listG; rw [← hm2]; (first | rw [if_pos (by omega), ← List.append_assoc] | rw [if_neg (by omega), List.append_nil]); repeat first | exact sR | exact sN | apply sC | apply sS | apply sA))))
    obtain ⟨q2, rfl⟩ : ∃ y, y = x := ⟨x, rfl⟩
    show Sat _ _ [(0, true, .pointer (some ⟨b, 0, none⟩)), (1, true, u)] [Var b eConfFaults ⟨q2, d⟩ 88, OwnS q2.v eFault (fs ++ listG (fun j0 : Nat => g (xs.getD j0 eMirrorConf.zero) j0) d xs.length most) 37]
    refine region (cons (opv (Ev.move (.t rfl)) (cons (opv (Ev.nilCheck (.t rfl)) ?_))))
    refine cons (opv (Ev.fieldAddr (o := 1) (.t rfl) (by kernel_rfl)) ?_)
    refine cons (opv (Ev.ldv ty3 (.t rfl) SConfFaults.l_at_) ?_)
    refine cons (opv (Ev.move (.t rfl)) (cons (opv (Ev.len Tryz.underlying26 (.t rfl) (fun w I => hxs w I.keeps)) ?_)))
    refine cons (opv (Ev.add_i (.t rfl) (.t rfl) (fun _ => by simp; omega)) ?_)
    refine cons (opv (Ev.nilCheck (.t rfl)) ?_)
    refine cons (opv (Ev.fieldAddr (o := 1) (.t rfl) (by kernel_rfl)) ?_)
    refine cons (stv ty3 SConfFaults.l_at_ (.t rfl) (.t rfl) ?_)
    refine nil (done' rfl .nil (fun w I => ?_))
    exact retR (r' := fun o2 => FR b o2 (fs ++ listG (fun j0 : Nat => g (xs.getD j0 eMirrorConf.zero) j0) d xs.length most) (d + xs.length)) _ trivial rfl (List.mem_singleton_self _) w (WInv.sepIn (I.sub (by repeat first | exact sR | exact sN | apply sC | apply sS | apply sA)))
end Go.Proofs.YtnoobdijbpmjkaaGreat

/- conf -/
namespace Go.Proofs.YtnoobdijbpmjkaaGreat
open Go Go.Gx

def defBad (d : Int) : Bool := !(decide (d = 1) || decide (d = 2) || decide (d = 4))
theorem defBad_eq (d : Int) : defBad d = (decide (¬ d = 1) && decide (¬ d = 2) && decide (¬ d = 4)) := by
  unfold defBad
  by_cases a : d = 1 <;> by_cases b : d = 2 <;> by_cases c : d = 4 <;> simp [a, b, c]
/-- What is wrong with a configuration: things, then its default. -/
def thingsF (l : CL) : List SFault := ((((([] ++ listG (fun j0 : Nat => portE l.ps (l.ps.getD j0 iE.zero) j0) 0 l.ps.length 256) ++ listG (fun j0 : Nat => routeE l (l.rs.getD j0 eRoute.zero) j0) (0 + (l.ps.length : Int)) l.rs.length 1024) ++ listG (fun j0 : Nat => ruleE l (l.us.getD j0 eRule.zero) j0) ((0 + (l.ps.length : Int)) + (l.rs.length : Int)) l.us.length 256) ++ listG (fun j0 : Nat => meterE l (l.ms.getD j0 eMeterConf.zero) j0) (((0 + (l.ps.length : Int)) + (l.rs.length : Int)) + (l.us.length : Int)) l.ms.length 64) ++ listG (fun j0 : Nat => mirrorE l (l.xs.getD j0 eMirrorConf.zero) j0) ((((0 + (l.ps.length : Int)) + (l.rs.length : Int)) + (l.us.length : Int)) + (l.ms.length : Int)) l.xs.length 16)
def checkF (l : CL) (d : Int) : List SFault := thingsF l ++ (if defBad d = true then [⟨2, (((((0 + (l.ps.length : Int)) + (l.rs.length : Int)) + (l.us.length : Int)) + (l.ms.length : Int)) + (l.xs.length : Int))⟩] else [])
theorem listG_len (e : Nat → Int) (d : Int) (n most : Nat) : (listG e d n most).length ≤ most + 1 := by
  have := faultsUp_len e d (min n most)
  unfold listG
  rw [List.length_append]
  split <;> simp <;> omega
theorem thingsF_len (l : CL) : (thingsF l).length ≤ 1700 := by
  unfold thingsF
  simp only [List.length_append, List.length_nil]
  have h0 := listG_len (fun j0 : Nat => portE l.ps (l.ps.getD j0 iE.zero) j0) 0 l.ps.length 256
  have h1 := listG_len (fun j0 : Nat => routeE l (l.rs.getD j0 eRoute.zero) j0) (0 + (l.ps.length : Int)) l.rs.length 1024
  have h2 := listG_len (fun j0 : Nat => ruleE l (l.us.getD j0 eRule.zero) j0) ((0 + (l.ps.length : Int)) + (l.rs.length : Int)) l.us.length 256
  have h3 := listG_len (fun j0 : Nat => meterE l (l.ms.getD j0 eMeterConf.zero) j0) (((0 + (l.ps.length : Int)) + (l.rs.length : Int)) + (l.us.length : Int)) l.ms.length 64
  have h4 := listG_len (fun j0 : Nat => mirrorE l (l.xs.getD j0 eMirrorConf.zero) j0) ((((0 + (l.ps.length : Int)) + (l.rs.length : Int)) + (l.us.length : Int)) + (l.ms.length : Int)) l.xs.length 16
  omega
structure CL.Names (l : CL) : Prop where
  us : ∀ x ∈ l.us, x.name.size ≤ 9223372036854775807
  ms : ∀ x ∈ l.ms, x.name.size ≤ 9223372036854775807
  xs : ∀ x ∈ l.xs, x.name.size ≤ 9223372036854775807
def CL.n (l : CL) : Nat := l.ps.length + l.rs.length + l.us.length + l.ms.length + l.xs.length
theorem getD_in {α : Type} (l : List α) (i : Nat) (d : α) (h : i < l.length) : l.getD i d ∈ l := by simp [List.getD, h]

theorem en38 : Gx.Enters Tryz.prog 38 := Gx.Enters.mk' (by kernel_rfl)

theorem en40 : Gx.Enters Tryz.prog 40 := Gx.Enters.mk' (by kernel_rfl)

theorem en42 : Gx.Enters Tryz.prog 42 := Gx.Enters.mk' (by kernel_rfl)

theorem en44 : Gx.Enters Tryz.prog 44 := Gx.Enters.mk' (by kernel_rfl)

theorem en46 : Gx.Enters Tryz.prog 46 := Gx.Enters.mk' (by kernel_rfl)

theorem en36 : Gx.Enters Tryz.prog 36 := Gx.Enters.mk' (by kernel_rfl)

theorem z88 : (Tryz.prog.info? 88).bind (·.zero) = some (eConfFaults.val eConfFaults.zero) := by kernel_rfl

theorem en37 : Gx.Enters Tryz.prog 37 := Gx.Enters.mk' (by kernel_rfl)

theorem en39 : Gx.Enters Tryz.prog 39 := Gx.Enters.mk' (by kernel_rfl)

theorem en41 : Gx.Enters Tryz.prog 41 := Gx.Enters.mk' (by kernel_rfl)

theorem en43 : Gx.Enters Tryz.prog 43 := Gx.Enters.mk' (by kernel_rfl)

theorem en45 : Gx.Enters Tryz.prog 45 := Gx.Enters.mk' (by kernel_rfl)

theorem conf_check (c : SConf) (l : CL) (w : World) (hc : ConfAt w c l) (hn : l.Names) (hz : l.n ≤ 4611686018427387904) : Calls Tryz.prog 12 #[eConf.val c] w (RetO w eFault (checkF l c.default) 37) := by
  unfold CL.n at hz
  refine enter0 69 Tryz.func12 rfl rfl (Nat.le_of_ble_eq_true rfl) ?_
  refine seq (region (cons (box (E := eConf) (.t rfl) (fun b1 => ?_))))
  refine cons (opv (Ev.assign (.c (v := (Go.Value.slice none 0 0)) rfl)) ?_)
  refine nil (pN (seq (region (cons (opv (Ev.ldv ty28 (.t rfl) (Lens.id _)) ?_)))))
  refine cons (calln (X := KB) (fun _ => True) (fun x => eConfKnown.val x.k) (fun x => x.R l) en36 (.cons (.t rfl) .nil) (fun w I => of_ok _ l w (hc.keep0 I.keeps)) (fun kb _ => ?_))
  refine cons (alloc z84 (fun b2 => ?_))
  refine cons (stv ty84 (Lens.id _) (.t rfl) (.t rfl) ?_)
  refine nil (pN (seq (region (cons (opv (Ev.buildS (fs := _) (places := [(0, 1), (1, 1)]) z88 rfl Tryz.underlying88 (by kernel_rfl) .nil Fills.nil) ?_)))))
  refine cons (box (E := eConfFaults) (.t rfl) (fun b3 => ?_))
  refine cons (opv (Ev.assign (.t rfl)) (nil (pN (seq (region (takeNil eFault 37 ?_))))))
  refine sepIn (r := Var b3 eConfFaults ⟨nilSl, 0⟩ 88) (s := OwnS nilSl.v eFault [] 37) (Rem.tail Rem.head) Rem.head ?_
  refine cons (opv (Ev.move (.t rfl)) (cons (opv (Ev.fieldAddr (o := 0) (.t rfl) (by kernel_rfl)) ?_)))
  refine cons (opv (Ev.ldv ty22 (.t rfl) SConf.l_ports) ?_)
  refine cons (opv (Ev.makeFunc (f := 38) (.cons (.t rfl) .nil)) ?_)
  refine cons (callr (X := OV) (r := FR b3 nilSl [] 0) (r' := fun o2 => FR b3 o2 (([] ++ listG (fun j0 : Nat => portE l.ps (l.ps.getD j0 iE.zero) j0) 0 l.ps.length 256)) (0 + (l.ps.length : Int))) (fun _ => True) (fun _ => .tuple #[]) (fun _ => Upd.head) List.mem_cons_self en37 (.cons (.t rfl) (.cons (.t rfl) (.cons (.c (v := I 256) rfl) (.cons (.t rfl) .nil)))) (fun w I => list_3 38 [] [.pointer (some ⟨b1, 0, none⟩)] (portE l.ps) (fun _ i => 0 ≤ i ∧ i < l.ps.length) b3 nilSl [] 0 _ l.ps 256 w en38 (at_mem List.mem_cons_self w I) (fun w1 k1 => hc.ps.keep0 (I.but Rem.head k1).keeps) (fun p i w1 h1 k1 => port1_ok c l.ps b1 p i w1 (by have I1 := I.but Rem.head k1; exact ptsVar (by repeat first | exact mH | apply mT | apply mA) (Lens.id _) w1 I1) (hc.ps.keep0 (I.but Rem.head k1).keeps) h1) (fun i hi => by constructor <;> omega) (by constructor <;> omega) (by simp only [List.length_append, List.length_nil]; omega)) (fun o1 _ => ?_))
  refine nil (pN (seq (region (cons (opv (Ev.move (.t rfl)) (cons (opv (Ev.fieldAddr (o := 1) (.t rfl) (by kernel_rfl)) ?_)))))))
  refine cons (opv (Ev.ldv ty23 (.t rfl) SConf.l_routes) ?_)
  refine cons (opv (Ev.ldv ty84 (.t rfl) (Lens.id _)) ?_)
  refine cons (opv (Ev.makeBound (f := 40) (.cons (.t rfl) .nil) .nil) ?_)
  refine cons (callr (X := OV) (r := FR b3 o1 ([] ++ listG (fun j0 : Nat => portE l.ps (l.ps.getD j0 iE.zero) j0) 0 l.ps.length 256) (0 + (l.ps.length : Int))) (r' := fun o2 => FR b3 o2 ((([] ++ listG (fun j0 : Nat => portE l.ps (l.ps.getD j0 iE.zero) j0) 0 l.ps.length 256) ++ listG (fun j0 : Nat => routeE l (l.rs.getD j0 eRoute.zero) j0) (0 + (l.ps.length : Int)) l.rs.length 1024)) ((0 + (l.ps.length : Int)) + (l.rs.length : Int))) (fun _ => True) (fun _ => .tuple #[]) (fun _ => Upd.head) List.mem_cons_self en39 (.cons (.t rfl) (.cons (.t rfl) (.cons (.c (v := I 1024) rfl) (.cons (.t rfl) .nil)))) (fun w I => list_52 40 [eConfKnown.val kb.k] [] (routeE l) (fun _ _ => True) b3 o1 ([] ++ listG (fun j0 : Nat => portE l.ps (l.ps.getD j0 iE.zero) j0) 0 l.ps.length 256) (0 + (l.ps.length : Int)) _ l.rs 1024 w en40 (at_mem List.mem_cons_self w I) (fun w1 k1 => hc.rs.keep0 (I.but Rem.head k1).keeps) (fun x i w1 h1 k1 => route_ok kb l x i w1 (knownAt_own (fun r hr => by repeat first | exact List.mem_append_left _ hr | apply List.Mem.tail) w1 (I.but Rem.head k1))) (fun i hi => trivial) (by constructor <;> omega) (by have := listG_len (fun j0 : Nat => portE l.ps (l.ps.getD j0 iE.zero) j0) 0 l.ps.length 256; simp only [List.length_append, List.length_nil]; omega)) (fun o2 _ => ?_))
  refine nil (pN (seq (region (cons (opv (Ev.move (.t rfl)) (cons (opv (Ev.fieldAddr (o := 2) (.t rfl) (by kernel_rfl)) ?_)))))))
  refine cons (opv (Ev.ldv ty24 (.t rfl) SConf.l_rules) ?_)
  refine cons (opv (Ev.ldv ty84 (.t rfl) (Lens.id _)) ?_)
  refine cons (opv (Ev.makeBound (f := 42) (.cons (.t rfl) .nil) .nil) ?_)
  refine cons (callr (X := OV) (r := FR b3 o2 (([] ++ listG (fun j0 : Nat => portE l.ps (l.ps.getD j0 iE.zero) j0) 0 l.ps.length 256) ++ listG (fun j0 : Nat => routeE l (l.rs.getD j0 eRoute.zero) j0) (0 + (l.ps.length : Int)) l.rs.length 1024) ((0 + (l.ps.length : Int)) + (l.rs.length : Int))) (r' := fun o2 => FR b3 o2 (((([] ++ listG (fun j0 : Nat => portE l.ps (l.ps.getD j0 iE.zero) j0) 0 l.ps.length 256) ++ listG (fun j0 : Nat => routeE l (l.rs.getD j0 eRoute.zero) j0) (0 + (l.ps.length : Int)) l.rs.length 1024) ++ listG (fun j0 : Nat => ruleE l (l.us.getD j0 eRule.zero) j0) ((0 + (l.ps.length : Int)) + (l.rs.length : Int)) l.us.length 256)) (((0 + (l.ps.length : Int)) + (l.rs.length : Int)) + (l.us.length : Int))) (fun _ => True) (fun _ => .tuple #[]) (fun _ => Upd.head) List.mem_cons_self en41 (.cons (.t rfl) (.cons (.t rfl) (.cons (.c (v := I 256) rfl) (.cons (.t rfl) .nil)))) (fun w I => list_76 42 [eConfKnown.val kb.k] [] (ruleE l) (fun x _ => x ∈ l.us) b3 o2 (([] ++ listG (fun j0 : Nat => portE l.ps (l.ps.getD j0 iE.zero) j0) 0 l.ps.length 256) ++ listG (fun j0 : Nat => routeE l (l.rs.getD j0 eRoute.zero) j0) (0 + (l.ps.length : Int)) l.rs.length 1024) ((0 + (l.ps.length : Int)) + (l.rs.length : Int)) _ l.us 256 w en42 (at_mem List.mem_cons_self w I) (fun w1 k1 => hc.us.keep0 (I.but Rem.head k1).keeps) (fun x i w1 h1 k1 => rule_ok kb l x i w1 (knownAt_own (fun r hr => by repeat first | exact List.mem_append_left _ hr | apply List.Mem.tail) w1 (I.but Rem.head k1)) (hn.us x h1)) (fun i hi => getD_in _ _ _ hi) (by constructor <;> omega) (by have := listG_len (fun j0 : Nat => portE l.ps (l.ps.getD j0 iE.zero) j0) 0 l.ps.length 256; have := listG_len (fun j0 : Nat => routeE l (l.rs.getD j0 eRoute.zero) j0) (0 + (l.ps.length : Int)) l.rs.length 1024; simp only [List.length_append, List.length_nil]; omega)) (fun o3 _ => ?_))
  refine nil (pN (seq (region (cons (opv (Ev.move (.t rfl)) (cons (opv (Ev.fieldAddr (o := 3) (.t rfl) (by kernel_rfl)) ?_)))))))
  refine cons (opv (Ev.ldv ty25 (.t rfl) SConf.l_meters) ?_)
  refine cons (opv (Ev.ldv ty84 (.t rfl) (Lens.id _)) ?_)
  refine cons (opv (Ev.makeBound (f := 44) (.cons (.t rfl) .nil) .nil) ?_)
  refine cons (callr (X := OV) (r := FR b3 o3 ((([] ++ listG (fun j0 : Nat => portE l.ps (l.ps.getD j0 iE.zero) j0) 0 l.ps.length 256) ++ listG (fun j0 : Nat => routeE l (l.rs.getD j0 eRoute.zero) j0) (0 + (l.ps.length : Int)) l.rs.length 1024) ++ listG (fun j0 : Nat => ruleE l (l.us.getD j0 eRule.zero) j0) ((0 + (l.ps.length : Int)) + (l.rs.length : Int)) l.us.length 256) (((0 + (l.ps.length : Int)) + (l.rs.length : Int)) + (l.us.length : Int))) (r' := fun o2 => FR b3 o2 ((((([] ++ listG (fun j0 : Nat => portE l.ps (l.ps.getD j0 iE.zero) j0) 0 l.ps.length 256) ++ listG (fun j0 : Nat => routeE l (l.rs.getD j0 eRoute.zero) j0) (0 + (l.ps.length : Int)) l.rs.length 1024) ++ listG (fun j0 : Nat => ruleE l (l.us.getD j0 eRule.zero) j0) ((0 + (l.ps.length : Int)) + (l.rs.length : Int)) l.us.length 256) ++ listG (fun j0 : Nat => meterE l (l.ms.getD j0 eMeterConf.zero) j0) (((0 + (l.ps.length : Int)) + (l.rs.length : Int)) + (l.us.length : Int)) l.ms.length 64)) ((((0 + (l.ps.length : Int)) + (l.rs.length : Int)) + (l.us.length : Int)) + (l.ms.length : Int))) (fun _ => True) (fun _ => .tuple #[]) (fun _ => Upd.head) List.mem_cons_self en43 (.cons (.t rfl) (.cons (.t rfl) (.cons (.c (v := I 64) rfl) (.cons (.t rfl) .nil)))) (fun w I => list_57 44 [eConfKnown.val kb.k] [] (meterE l) (fun x _ => x ∈ l.ms) b3 o3 ((([] ++ listG (fun j0 : Nat => portE l.ps (l.ps.getD j0 iE.zero) j0) 0 l.ps.length 256) ++ listG (fun j0 : Nat => routeE l (l.rs.getD j0 eRoute.zero) j0) (0 + (l.ps.length : Int)) l.rs.length 1024) ++ listG (fun j0 : Nat => ruleE l (l.us.getD j0 eRule.zero) j0) ((0 + (l.ps.length : Int)) + (l.rs.length : Int)) l.us.length 256) (((0 + (l.ps.length : Int)) + (l.rs.length : Int)) + (l.us.length : Int)) _ l.ms 64 w en44 (at_mem List.mem_cons_self w I) (fun w1 k1 => hc.ms.keep0 (I.but Rem.head k1).keeps) (fun x i w1 h1 k1 => meter_ok kb l x i w1 (knownAt_own (fun r hr => by repeat first | exact List.mem_append_left _ hr | apply List.Mem.tail) w1 (I.but Rem.head k1)) (hn.ms x h1)) (fun i hi => getD_in _ _ _ hi) (by constructor <;> omega) (by have := listG_len (fun j0 : Nat => portE l.ps (l.ps.getD j0 iE.zero) j0) 0 l.ps.length 256; have := listG_len (fun j0 : Nat => routeE l (l.rs.getD j0 eRoute.zero) j0) (0 + (l.ps.length : Int)) l.rs.length 1024; have := listG_len (fun j0 : Nat => ruleE l (l.us.getD j0 eRule.zero) j0) ((0 + (l.ps.length : Int)) + (l.rs.length : Int)) l.us.length 256; simp only [List.length_append, List.length_nil]; omega)) (fun o4 _ => ?_))
  refine nil (pN (seq (region (cons (opv (Ev.move (.t rfl)) (cons (opv (Ev.fieldAddr (o := 4) (.t rfl) (by kernel_rfl)) ?_)))))))
  refine cons (opv (Ev.ldv ty26 (.t rfl) SConf.l_mirrors) ?_)
  refine cons (opv (Ev.ldv ty84 (.t rfl) (Lens.id _)) ?_)
  refine cons (opv (Ev.makeBound (f := 46) (.cons (.t rfl) .nil) .nil) ?_)
  refine cons (callr (X := OV) (r := FR b3 o4 (((([] ++ listG (fun j0 : Nat => portE l.ps (l.ps.getD j0 iE.zero) j0) 0 l.ps.length 256) ++ listG (fun j0 : Nat => routeE l (l.rs.getD j0 eRoute.zero) j0) (0 + (l.ps.length : Int)) l.rs.length 1024) ++ listG (fun j0 : Nat => ruleE l (l.us.getD j0 eRule.zero) j0) ((0 + (l.ps.length : Int)) + (l.rs.length : Int)) l.us.length 256) ++ listG (fun j0 : Nat => meterE l (l.ms.getD j0 eMeterConf.zero) j0) (((0 + (l.ps.length : Int)) + (l.rs.length : Int)) + (l.us.length : Int)) l.ms.length 64) ((((0 + (l.ps.length : Int)) + (l.rs.length : Int)) + (l.us.length : Int)) + (l.ms.length : Int))) (r' := fun o2 => FR b3 o2 (((((([] ++ listG (fun j0 : Nat => portE l.ps (l.ps.getD j0 iE.zero) j0) 0 l.ps.length 256) ++ listG (fun j0 : Nat => routeE l (l.rs.getD j0 eRoute.zero) j0) (0 + (l.ps.length : Int)) l.rs.length 1024) ++ listG (fun j0 : Nat => ruleE l (l.us.getD j0 eRule.zero) j0) ((0 + (l.ps.length : Int)) + (l.rs.length : Int)) l.us.length 256) ++ listG (fun j0 : Nat => meterE l (l.ms.getD j0 eMeterConf.zero) j0) (((0 + (l.ps.length : Int)) + (l.rs.length : Int)) + (l.us.length : Int)) l.ms.length 64) ++ listG (fun j0 : Nat => mirrorE l (l.xs.getD j0 eMirrorConf.zero) j0) ((((0 + (l.ps.length : Int)) + (l.rs.length : Int)) + (l.us.length : Int)) + (l.ms.length : Int)) l.xs.length 16)) (((((0 + (l.ps.length : Int)) + (l.rs.length : Int)) + (l.us.length : Int)) + (l.ms.length : Int)) + (l.xs.length : Int))) (fun _ => True) (fun _ => .tuple #[]) (fun _ => Upd.head) List.mem_cons_self en45 (.cons (.t rfl) (.cons (.t rfl) (.cons (.c (v := I 16) rfl) (.cons (.t rfl) .nil)))) (fun w I => list_59 46 [eConfKnown.val kb.k] [] (mirrorE l) (fun x _ => x ∈ l.xs) b3 o4 (((([] ++ listG (fun j0 : Nat => portE l.ps (l.ps.getD j0 iE.zero) j0) 0 l.ps.length 256) ++ listG (fun j0 : Nat => routeE l (l.rs.getD j0 eRoute.zero) j0) (0 + (l.ps.length : Int)) l.rs.length 1024) ++ listG (fun j0 : Nat => ruleE l (l.us.getD j0 eRule.zero) j0) ((0 + (l.ps.length : Int)) + (l.rs.length : Int)) l.us.length 256) ++ listG (fun j0 : Nat => meterE l (l.ms.getD j0 eMeterConf.zero) j0) (((0 + (l.ps.length : Int)) + (l.rs.length : Int)) + (l.us.length : Int)) l.ms.length 64) ((((0 + (l.ps.length : Int)) + (l.rs.length : Int)) + (l.us.length : Int)) + (l.ms.length : Int)) _ l.xs 16 w en46 (at_mem List.mem_cons_self w I) (fun w1 k1 => hc.xs.keep0 (I.but Rem.head k1).keeps) (fun x i w1 h1 k1 => mirror_ok kb l x i w1 (knownAt_own (fun r hr => by repeat first | exact List.mem_append_left _ hr | apply List.Mem.tail) w1 (I.but Rem.head k1)) (hn.xs x h1)) (fun i hi => getD_in _ _ _ hi) (by constructor <;> omega) (by have := listG_len (fun j0 : Nat => portE l.ps (l.ps.getD j0 iE.zero) j0) 0 l.ps.length 256; have := listG_len (fun j0 : Nat => routeE l (l.rs.getD j0 eRoute.zero) j0) (0 + (l.ps.length : Int)) l.rs.length 1024; have := listG_len (fun j0 : Nat => ruleE l (l.us.getD j0 eRule.zero) j0) ((0 + (l.ps.length : Int)) + (l.rs.length : Int)) l.us.length 256; have := listG_len (fun j0 : Nat => meterE l (l.ms.getD j0 eMeterConf.zero) j0) (((0 + (l.ps.length : Int)) + (l.rs.length : Int)) + (l.us.length : Int)) l.ms.length 64; simp only [List.length_append, List.length_nil]; omega)) (fun o5 _ => ?_))
  refine nil (pN (cut (X := OV) (fun x : OV => True) (fun x : OV => [(4, true, .pointer (some ⟨b3, 0, none⟩))]) (fun x : OV => [Var b3 eConfFaults ⟨x, (((((0 + (l.ps.length : Int)) + (l.rs.length : Int)) + (l.us.length : Int)) + (l.ms.length : Int)) + (l.xs.length : Int))⟩ 88, OwnS x.v eFault (checkF l c.default) 37]) ?_ (fun x hx => ?_)))
  · refine seq (region (sepOut Rem.head ?_))
    refine cons (opv (Ev.fieldAddr (o := 5) (.t rfl) (by kernel_rfl)) ?_)
    refine cons (opv (Ev.ldv ty3 (.t rfl) SConf.l_default) ?_)
    refine cons (opv (Ev.neq_i (.t rfl) (.c (v := I 1) rfl)) ?_)
    refine cons (opv (Ev.move (.t rfl)) (cons (opg rfl rfl (Ev.fieldAddr (o := 5) (.t rfl) (by kernel_rfl)) ?_)))
    refine cons (opg rfl rfl (Ev.ldv ty3 (.g rfl id) SConf.l_default) ?_)
    refine cons (opg rfl rfl (Ev.neq_i (.g rfl id) (.c (v := I 2) rfl)) ?_)
    refine cons (opv (Ev.pickA (.t rfl) (fun {_} h => by cases h; rfl) ⟨_, rfl⟩ (by intro h1 h; first | (rw [h] <;> rfl) | (rw [h1, h] <;> rfl) | (rw [h, h1] <;> rfl) | simp_all) (.c (v := .bool false) rfl)) ?_)
    refine cons (opv (Ev.move (.t rfl)) (cons (opg rfl rfl (Ev.fieldAddr (o := 5) (.t rfl) (by kernel_rfl)) ?_)))
    refine cons (opg rfl rfl (Ev.ldv ty3 (.g rfl id) SConf.l_default) ?_)
    refine cons (opg rfl rfl (Ev.neq_i (.g rfl id) (.c (v := I 4) rfl)) ?_)
    refine cons (opv (Ev.pickA (.t rfl) (fun {_} h => by cases h; rfl) ⟨_, rfl⟩ (by intro h1 h; first | (rw [h] <;> rfl) | (rw [h1, h] <;> rfl) | (rw [h, h1] <;> rfl) | simp_all) (.c (v := .bool false) rfl)) ?_)
    refine nil (pN ?_)
    first | refine condD rfl (fun h0 => ?_) (fun h0 => ?_) | refine cond rfl (fun h0 => ?_) (fun h0 => ?_)
    · have hdb : defBad c.default = true := (defBad_eq _).trans h0
      refine draw [] (by kernel_rfl) ?_
      refine tk 0 rfl (Ev.move (.t rfl)) ?_
      refine tk 1 rfl (Ev.move (.t rfl)) ?_
      refine tk 2 rfl (Ev.nilCheck (.t rfl)) ?_
      refine tk 3 rfl (Ev.fieldAddr (o := 0) (.t rfl) (by kernel_rfl)) ?_
      refine tk 5 rfl (Ev.move (.t rfl)) ?_
      refine tk 6 rfl (Ev.nilCheck (.t rfl)) ?_
      refine tk 7 rfl (Ev.fieldAddr (o := 1) (.t rfl) (by kernel_rfl)) ?_
      refine all [4, 8] (by kernel_rfl) (by decide) (.cons rfl ?_ (.cons rfl ?_ .nil))
      · refine (opv (Ev.ldv ty31 (.t rfl) SConfFaults.l_l) ?_)
        refine hdn (al1 8 rfl ((opv (Ev.ldv ty3 (.t rfl) SConfFaults.l_at_) ?_)))
        refine hdn (tk 9 rfl (Ev.buildS (fs := _) (places := [(0, 1), (1, 1)]) z37 rfl Tryz.underlying37 (by kernel_rfl) (.cons (.c (v := I 2) rfl) (.cons (.t rfl) .nil)) (Fills.cons SFault.l_code rfl (Fills.cons SFault.l_at_ rfl Fills.nil))) ?_)
        refine al1 10 rfl ((buildSlice (E := eFault) Tryz.underlying31 ty37 z37 (.cons (.t rfl) .nil) rfl rfl (fun v4 => ?_)))
        refine hdn (al1 11 rfl ((app (E := eFault) Tryz.underlying31 ty37 zb37 zs37 (.t rfl) (.t rfl) (fun v5 => ?_) (hby := ⟨by (show _ ≤ 9223372036854775807); have := thingsF_len l; simp only [List.length_cons, List.length_nil]; unfold thingsF at this; omega, by have := thingsF_len l; simp only [List.length_cons, List.length_nil]; unfold thingsF at this; omega⟩))))
        refine hdn (tk 12 rfl (Ev.nilCheck (.t rfl)) ?_)
        refine tk 13 rfl (Ev.fieldAddr (o := 0) (.t rfl) (by kernel_rfl)) ?_
        refine al1 14 rfl ((stv ty31 SConfFaults.l_l (.t rfl) (.t rfl) ?_))
        refine hdn (ovr (pN (mt (X := OV) (_) trivial (hL := (by unfold checkF; (first | rw [if_pos hdb] | rw [if_neg hdb, List.append_nil]); repeat first | exact sR | exact sN | apply sC | apply sS | apply sA)))))
      · refine (opv (Ev.ldv ty3 (.t rfl) SConfFaults.l_at_) ?_)
        refine hdn (tk 9 rfl (Ev.buildS (fs := _) (places := [(0, 1), (1, 1)]) z37 rfl Tryz.underlying37 (by kernel_rfl) (.cons (.c (v := I 2) rfl) (.cons (.t rfl) .nil)) (Fills.cons SFault.l_code rfl (Fills.cons SFault.l_at_ rfl Fills.nil))) ?_)
        refine all [4, 10] (by kernel_rfl) (by decide) (.cons rfl ?_ (.cons rfl ?_ .nil))
        · refine (opv (Ev.ldv ty31 (.t rfl) SConfFaults.l_l) ?_)
          refine hdn (al1 10 rfl ((buildSlice (E := eFault) Tryz.underlying31 ty37 z37 (.cons (.t rfl) .nil) rfl rfl (fun v6 => ?_))))
          refine hdn (al1 11 rfl ((app (E := eFault) Tryz.underlying31 ty37 zb37 zs37 (.t rfl) (.t rfl) (fun v7 => ?_) (hby := ⟨by (show _ ≤ 9223372036854775807); have := thingsF_len l; simp only [List.length_cons, List.length_nil]; unfold thingsF at this; omega, by have := thingsF_len l; simp only [List.length_cons, List.length_nil]; unfold thingsF at this; omega⟩))))
          refine hdn (tk 12 rfl (Ev.nilCheck (.t rfl)) ?_)
          refine tk 13 rfl (Ev.fieldAddr (o := 0) (.t rfl) (by kernel_rfl)) ?_
          refine al1 14 rfl ((stv ty31 SConfFaults.l_l (.t rfl) (.t rfl) ?_))
          refine hdn (ovr (pN (mt (X := OV) (_) trivial (hL := (by unfold checkF; (first | rw [if_pos hdb] | rw [if_neg hdb, List.append_nil]); repeat first | exact sR | exact sN | apply sC | apply sS | apply sA)))))
        · refine (buildSlice (E := eFault) Tryz.underlying31 ty37 z37 (.cons (.t rfl) .nil) rfl rfl (fun v8 => ?_))
          refine hdn (al1 4 rfl ((opv (Ev.ldv ty31 (.t rfl) SConfFaults.l_l) ?_)))
          refine hdn (al1 11 rfl ((app (E := eFault) Tryz.underlying31 ty37 zb37 zs37 (.t rfl) (.t rfl) (fun v9 => ?_) (hby := ⟨by (show _ ≤ 9223372036854775807); have := thingsF_len l; simp only [List.length_cons, List.length_nil]; unfold thingsF at this; omega, by have := thingsF_len l; simp only [List.length_cons, List.length_nil]; unfold thingsF at this; omega⟩))))
          refine hdn (tk 12 rfl (Ev.nilCheck (.t rfl)) ?_)
          refine tk 13 rfl (Ev.fieldAddr (o := 0) (.t rfl) (by kernel_rfl)) ?_
          refine al1 14 rfl ((stv ty31 SConfFaults.l_l (.t rfl) (.t rfl) ?_))
          refine hdn (ovr (pN (mt (X := OV) (_) trivial (hL := (by unfold checkF; (first | rw [if_pos hdb] | rw [if_neg hdb, List.append_nil]); repeat first | exact sR | exact sN | apply sC | apply sS | apply sA)))))
    · have hdb : ¬ defBad c.default = true := by rw [show defBad c.default = false from (defBad_eq _).trans h0]; exact Bool.false_ne_true
      refine skip (pN (mt (X := OV) (_) trivial (hL := (by unfold checkF; (first | rw [if_pos hdb] | rw [if_neg hdb, List.append_nil]); repeat first | exact sR | exact sN | apply sC | apply sS | apply sA))))
  obtain ⟨q, rfl⟩ : ∃ y, y = x := ⟨x, rfl⟩
  show Sat _ _ [(4, true, .pointer (some ⟨b3, 0, none⟩))] [Var b3 eConfFaults ⟨q, (((((0 + (l.ps.length : Int)) + (l.rs.length : Int)) + (l.us.length : Int)) + (l.ms.length : Int)) + (l.xs.length : Int))⟩ 88, OwnS q.v eFault (checkF l c.default) 37]
  refine seq (region (cons (opv (Ev.move (.t rfl)) (cons (opv (Ev.nilCheck (.t rfl)) ?_)))))
  refine cons (opv (Ev.fieldAddr (o := 0) (.t rfl) (by kernel_rfl)) ?_)
  refine cons (opv (Ev.ldv ty31 (.t rfl) SConfFaults.l_l) ?_)
  refine cons (opv (Ev.assign (.t rfl)) (nil (pN (ret (done rfl (.tmp rfl .nil) (retOE (by repeat first | exact mH | apply mT | apply mA) ?_))))))
  rfl

/-- May it be? -/
def mayB (l : CL) (d : Int) : Bool := decide (checkF l d = [])
theorem en12 : Gx.Enters Tryz.prog 12 := Gx.Enters.mk' (by kernel_rfl)

theorem may_ok (c : SConf) (l : CL) (w : World) (hc : ConfAt w c l) (hn : l.Names) (hz : l.n ≤ 4611686018427387904) : Calls Tryz.prog 15 #[eConf.val c] w (RetV w (.bool (mayB l c.default))) := by
  refine enter0 7 Tryz.func15 rfl rfl (Nat.le_of_ble_eq_true rfl) ?_
  refine seq (region (cons (box (E := eConf) (.t rfl) (fun b1 => ?_))))
  refine cons (opv (Ev.assign (.c (v := .bool false) rfl)) ?_)
  refine nil (pN (seq (region (cons (opv (Ev.ldx c ty28 (.t rfl) (Lens.id _)) ?_)))))
  refine cons (callo en12 (.cons (.t rfl) .nil) (fun w I => conf_check c l w (hc.keep0 I.keeps) hn hz) (fun v2 => ?_))
  refine cons (opv (Ev.len Tryz.underlying31 (.t rfl) (by first | exact isSl_own (by repeat first | exact mH | apply mT | apply mA) | exact fun w I => IsSl.keep0 (by assumption) I.keeps)) ?_)
  refine cons (opv (Ev.eql_i (.t rfl) (.c (v := I 0) rfl)) ?_)
  refine cons (opv (Ev.assign (.t rfl)) (nil (pN (ret (done rfl (.tmp rfl .nil) (retE ?_))))))
  unfold mayB
  refine congrArg Value.bool ?_
  rw [Bool.eq_iff_iff, decide_eq_true_iff, decide_eq_true_iff, ← List.length_eq_zero_iff]
  omega
end Go.Proofs.YtnoobdijbpmjkaaGreat
