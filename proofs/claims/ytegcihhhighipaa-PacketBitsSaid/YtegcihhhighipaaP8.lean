/- packet -/
import Derived.Test.YtegcihhhighipaaP7
set_option linter.unusedVariables false
set_option linter.unusedSimpArgs false
namespace Go.Proofs.Ytegcihhhighipaa
open Go Go.Gx

/-- The same in all fields? -/
def sameB (a b : SHeader) (x y : List UInt8) : Bool :=
  decide (x = y ∧ a.src = b.src ∧ a.dst = b.dst ∧ a.proto = b.proto ∧ a.srcPort = b.srcPort ∧ a.dstPort = b.dstPort ∧ a.tTL = b.tTL ∧ a.class_ = b.class_ ∧ a.id = b.id ∧ a.flags = b.flags ∧ a.seq = b.seq)

theorem en48 : Enters Try.prog 48 := Enters.mk' (by kernel_rfl)

theorem same_ok (a b : SHeader) (x y : List UInt8) (w : World) (hx : IsSl u8E w a.data.v x) (hy : IsSl u8E w b.data.v y) : Calls Try.prog 19 #[eHeader.val a, eHeader.val b] w (RetV w (.bool (sameB a b x y))) := by
  refine enter0 83 Try.func19 rfl rfl (Nat.le_of_ble_eq_true rfl) ?_
  refine seq ?_
  refine region ?_
  refine cons (box (E := eHeader) (.t rfl) (fun b1 => ?_))
  refine cons (box (E := eHeader) (.t rfl) (fun b2 => ?_))
  refine cons (opv (Ev.assign (.c (v := .bool false) rfl)) ?_)
  refine nil ?_
  refine pN ?_
  refine seq ?_
  refine region ?_
  refine cons (opv (Ev.fieldAddr (o := 42) (.t rfl) (by kernel_rfl)) ?_)
  refine cons (opv (Ev.load (xv := a.data) ty27 (.t rfl) (ptsVar (by repeat first | exact mH | apply mT | apply mA) SHeader.l_data)) ?_)
  refine cons (opv (Ev.fieldAddr (o := 42) (.t rfl) (by kernel_rfl)) ?_)
  refine cons (opv (Ev.load (xv := b.data) ty27 (.t rfl) (ptsVar (by repeat first | exact mH | apply mT | apply mA) SHeader.l_data)) ?_)
  refine cons (callv en48 (.cons (.t rfl) (.cons (.t rfl) .nil)) (fun w I => equal_ok _ _ _ _ w (hx.keep0 I.keeps) (hy.keep0 I.keeps)) ?_)
  refine cons (opv (Ev.assign (.t rfl)) ?_)
  refine nil ?_
  refine pN ?_
  refine seq ?_
  refine region ?_
  refine cons (opv (Ev.move (.t rfl)) ?_)
  refine cons (opv (Ev.move (.t rfl)) ?_)
  refine cons (opg rfl rfl (Ev.fieldAddr (o := 0) (.t rfl) (by kernel_rfl)) ?_)
  refine cons (opg rfl rfl (Ev.load (xv := a.src) ty24 (.g rfl id) (ptsVar (by repeat first | exact mH | apply mT | apply mA) SHeader.l_src)) ?_)
  refine cons (opg rfl rfl (Ev.fieldAddr (o := 0) (.t rfl) (by kernel_rfl)) ?_)
  refine cons (opg rfl rfl (Ev.load (xv := b.src) ty24 (.g rfl id) (ptsVar (by repeat first | exact mH | apply mT | apply mA) SHeader.l_src)) ?_)
  refine cons (opg rfl rfl (Ev.eqlS rfl eqok24 rfl (by kernel_rfl) (.g rfl id) (.g rfl id)) ?_)
  refine cons (opv (Ev.pickA (.t rfl) (fun {_} h => by cases h; rfl) ⟨_, rfl⟩ (by intro h1 h; first | (rw [h] <;> rfl) | (rw [h1, h] <;> rfl) | (rw [h, h1] <;> rfl) | simp_all) (.c (v := .bool false) rfl)) ?_)
  refine cons (opv (Ev.move (.t rfl)) ?_)
  refine cons (opg rfl rfl (Ev.fieldAddr (o := 17) (.t rfl) (by kernel_rfl)) ?_)
  refine cons (opg rfl rfl (Ev.load (xv := a.dst) ty24 (.g rfl id) (ptsVar (by repeat first | exact mH | apply mT | apply mA) SHeader.l_dst)) ?_)
  refine cons (opg rfl rfl (Ev.fieldAddr (o := 17) (.t rfl) (by kernel_rfl)) ?_)
  refine cons (opg rfl rfl (Ev.load (xv := b.dst) ty24 (.g rfl id) (ptsVar (by repeat first | exact mH | apply mT | apply mA) SHeader.l_dst)) ?_)
  refine cons (opg rfl rfl (Ev.eqlS rfl eqok24 rfl (by kernel_rfl) (.g rfl id) (.g rfl id)) ?_)
  refine cons (opv (Ev.pickA (.t rfl) (fun {_} h => by cases h; rfl) ⟨_, rfl⟩ (by intro h1 h; first | (rw [h] <;> rfl) | (rw [h1, h] <;> rfl) | (rw [h, h1] <;> rfl) | simp_all) (.c (v := .bool false) rfl)) ?_)
  refine cons (opv (Ev.move (.t rfl)) ?_)
  refine cons (opg rfl rfl (Ev.fieldAddr (o := 34) (.t rfl) (by kernel_rfl)) ?_)
  refine cons (opg rfl rfl (Ev.load (xv := a.proto) ty5 (.g rfl id) (ptsVar (by repeat first | exact mH | apply mT | apply mA) SHeader.l_proto)) ?_)
  refine cons (opg rfl rfl (Ev.fieldAddr (o := 34) (.t rfl) (by kernel_rfl)) ?_)
  refine cons (opg rfl rfl (Ev.load (xv := b.proto) ty5 (.g rfl id) (ptsVar (by repeat first | exact mH | apply mT | apply mA) SHeader.l_proto)) ?_)
  refine cons (opg rfl rfl (Ev.eql_u8 (.g rfl id) (.g rfl id)) ?_)
  refine cons (opv (Ev.pickA (.t rfl) (fun {_} h => by cases h; rfl) ⟨_, rfl⟩ (by intro h1 h; first | (rw [h] <;> rfl) | (rw [h1, h] <;> rfl) | (rw [h, h1] <;> rfl) | simp_all) (.c (v := .bool false) rfl)) ?_)
  refine cons (opv (Ev.move (.t rfl)) ?_)
  refine cons (opg rfl rfl (Ev.fieldAddr (o := 35) (.t rfl) (by kernel_rfl)) ?_)
  refine cons (opg rfl rfl (Ev.load (xv := a.srcPort) ty25 (.g rfl id) (ptsVar (by repeat first | exact mH | apply mT | apply mA) SHeader.l_srcPort)) ?_)
  refine cons (opg rfl rfl (Ev.fieldAddr (o := 35) (.t rfl) (by kernel_rfl)) ?_)
  refine cons (opg rfl rfl (Ev.load (xv := b.srcPort) ty25 (.g rfl id) (ptsVar (by repeat first | exact mH | apply mT | apply mA) SHeader.l_srcPort)) ?_)
  refine cons (opg rfl rfl (Ev.eql_u16 (.g rfl id) (.g rfl id)) ?_)
  refine cons (opv (Ev.pickA (.t rfl) (fun {_} h => by cases h; rfl) ⟨_, rfl⟩ (by intro h1 h; first | (rw [h] <;> rfl) | (rw [h1, h] <;> rfl) | (rw [h, h1] <;> rfl) | simp_all) (.c (v := .bool false) rfl)) ?_)
  refine cons (opv (Ev.move (.t rfl)) ?_)
  refine cons (opg rfl rfl (Ev.fieldAddr (o := 36) (.t rfl) (by kernel_rfl)) ?_)
  refine cons (opg rfl rfl (Ev.load (xv := a.dstPort) ty25 (.g rfl id) (ptsVar (by repeat first | exact mH | apply mT | apply mA) SHeader.l_dstPort)) ?_)
  refine cons (opg rfl rfl (Ev.fieldAddr (o := 36) (.t rfl) (by kernel_rfl)) ?_)
  refine cons (opg rfl rfl (Ev.load (xv := b.dstPort) ty25 (.g rfl id) (ptsVar (by repeat first | exact mH | apply mT | apply mA) SHeader.l_dstPort)) ?_)
  refine cons (opg rfl rfl (Ev.eql_u16 (.g rfl id) (.g rfl id)) ?_)
  refine cons (opv (Ev.pickA (.t rfl) (fun {_} h => by cases h; rfl) ⟨_, rfl⟩ (by intro h1 h; first | (rw [h] <;> rfl) | (rw [h1, h] <;> rfl) | (rw [h, h1] <;> rfl) | simp_all) (.c (v := .bool false) rfl)) ?_)
  refine cons (opv (Ev.assign (.t rfl)) ?_)
  refine nil ?_
  refine pN ?_
  refine seq ?_
  refine region ?_
  refine cons (opv (Ev.move (.t rfl)) ?_)
  refine cons (opv (Ev.move (.t rfl)) ?_)
  refine cons (opg rfl rfl (Ev.fieldAddr (o := 37) (.t rfl) (by kernel_rfl)) ?_)
  refine cons (opg rfl rfl (Ev.load (xv := a.tTL) ty5 (.g rfl id) (ptsVar (by repeat first | exact mH | apply mT | apply mA) SHeader.l_tTL)) ?_)
  refine cons (opg rfl rfl (Ev.fieldAddr (o := 37) (.t rfl) (by kernel_rfl)) ?_)
  refine cons (opg rfl rfl (Ev.load (xv := b.tTL) ty5 (.g rfl id) (ptsVar (by repeat first | exact mH | apply mT | apply mA) SHeader.l_tTL)) ?_)
  refine cons (opg rfl rfl (Ev.eql_u8 (.g rfl id) (.g rfl id)) ?_)
  refine cons (opv (Ev.pickA (.t rfl) (fun {_} h => by cases h; rfl) ⟨_, rfl⟩ (by intro h1 h; first | (rw [h] <;> rfl) | (rw [h1, h] <;> rfl) | (rw [h, h1] <;> rfl) | simp_all) (.c (v := .bool false) rfl)) ?_)
  refine cons (opv (Ev.move (.t rfl)) ?_)
  refine cons (opg rfl rfl (Ev.fieldAddr (o := 38) (.t rfl) (by kernel_rfl)) ?_)
  refine cons (opg rfl rfl (Ev.load (xv := a.class_) ty5 (.g rfl id) (ptsVar (by repeat first | exact mH | apply mT | apply mA) SHeader.l_class_)) ?_)
  refine cons (opg rfl rfl (Ev.fieldAddr (o := 38) (.t rfl) (by kernel_rfl)) ?_)
  refine cons (opg rfl rfl (Ev.load (xv := b.class_) ty5 (.g rfl id) (ptsVar (by repeat first | exact mH | apply mT | apply mA) SHeader.l_class_)) ?_)
  refine cons (opg rfl rfl (Ev.eql_u8 (.g rfl id) (.g rfl id)) ?_)
  refine cons (opv (Ev.pickA (.t rfl) (fun {_} h => by cases h; rfl) ⟨_, rfl⟩ (by intro h1 h; first | (rw [h] <;> rfl) | (rw [h1, h] <;> rfl) | (rw [h, h1] <;> rfl) | simp_all) (.c (v := .bool false) rfl)) ?_)
  refine cons (opv (Ev.move (.t rfl)) ?_)
  refine cons (opg rfl rfl (Ev.fieldAddr (o := 39) (.t rfl) (by kernel_rfl)) ?_)
  refine cons (opg rfl rfl (Ev.load (xv := a.id) ty26 (.g rfl id) (ptsVar (by repeat first | exact mH | apply mT | apply mA) SHeader.l_id)) ?_)
  refine cons (opg rfl rfl (Ev.fieldAddr (o := 39) (.t rfl) (by kernel_rfl)) ?_)
  refine cons (opg rfl rfl (Ev.load (xv := b.id) ty26 (.g rfl id) (ptsVar (by repeat first | exact mH | apply mT | apply mA) SHeader.l_id)) ?_)
  refine cons (opg rfl rfl (Ev.eql_u32 (.g rfl id) (.g rfl id)) ?_)
  refine cons (opv (Ev.pickA (.t rfl) (fun {_} h => by cases h; rfl) ⟨_, rfl⟩ (by intro h1 h; first | (rw [h] <;> rfl) | (rw [h1, h] <;> rfl) | (rw [h, h1] <;> rfl) | simp_all) (.c (v := .bool false) rfl)) ?_)
  refine cons (opv (Ev.move (.t rfl)) ?_)
  refine cons (opg rfl rfl (Ev.fieldAddr (o := 40) (.t rfl) (by kernel_rfl)) ?_)
  refine cons (opg rfl rfl (Ev.load (xv := a.flags) ty5 (.g rfl id) (ptsVar (by repeat first | exact mH | apply mT | apply mA) SHeader.l_flags)) ?_)
  refine cons (opg rfl rfl (Ev.fieldAddr (o := 40) (.t rfl) (by kernel_rfl)) ?_)
  refine cons (opg rfl rfl (Ev.load (xv := b.flags) ty5 (.g rfl id) (ptsVar (by repeat first | exact mH | apply mT | apply mA) SHeader.l_flags)) ?_)
  refine cons (opg rfl rfl (Ev.eql_u8 (.g rfl id) (.g rfl id)) ?_)
  refine cons (opv (Ev.pickA (.t rfl) (fun {_} h => by cases h; rfl) ⟨_, rfl⟩ (by intro h1 h; first | (rw [h] <;> rfl) | (rw [h1, h] <;> rfl) | (rw [h, h1] <;> rfl) | simp_all) (.c (v := .bool false) rfl)) ?_)
  refine cons (opv (Ev.move (.t rfl)) ?_)
  refine cons (opg rfl rfl (Ev.fieldAddr (o := 41) (.t rfl) (by kernel_rfl)) ?_)
  refine cons (opg rfl rfl (Ev.load (xv := a.seq) ty26 (.g rfl id) (ptsVar (by repeat first | exact mH | apply mT | apply mA) SHeader.l_seq)) ?_)
  refine cons (opg rfl rfl (Ev.fieldAddr (o := 41) (.t rfl) (by kernel_rfl)) ?_)
  refine cons (opg rfl rfl (Ev.load (xv := b.seq) ty26 (.g rfl id) (ptsVar (by repeat first | exact mH | apply mT | apply mA) SHeader.l_seq)) ?_)
  refine cons (opg rfl rfl (Ev.eql_u32 (.g rfl id) (.g rfl id)) ?_)
  refine cons (opv (Ev.pickA (.t rfl) (fun {_} h => by cases h; rfl) ⟨_, rfl⟩ (by intro h1 h; first | (rw [h] <;> rfl) | (rw [h1, h] <;> rfl) | (rw [h, h1] <;> rfl) | simp_all) (.c (v := .bool false) rfl)) ?_)
  refine cons (opv (Ev.assign (.t rfl)) ?_)
  refine nil ?_
  refine pN ?_
  refine ret ?_
  refine done rfl (.tmp rfl .nil) (retE ?_)
  unfold sameB
  simp [tupV, Bool.and_assoc, eqd, Bool.eq_iff_iff]
end Go.Proofs.Ytegcihhhighipaa
