/- conf -/
import Derived.Test.YtnoobdijbpmjkaaGreatC14
set_option linter.unusedVariables false
set_option linter.unusedSimpArgs false
namespace Go.Proofs.YtnoobdijbpmjkaaGreat
open Go Go.Gx

structure SHeader where
  src : SAddr
  dst : SAddr
  proto : UInt8
  srcPort : UInt16
  dstPort : UInt16
  tTL : UInt8
  class_ : UInt8
  id : UInt32
  flags : UInt8
  seq : UInt32
  data : OV

def SHeader.to : (SAddr × (SAddr × (UInt8 × (UInt16 × (UInt16 × (UInt8 × (UInt8 × (UInt32 × (UInt8 × (UInt32 × OV)))))))))) → SHeader := fun x => ⟨x.1, x.2.1, x.2.2.1, x.2.2.2.1, x.2.2.2.2.1, x.2.2.2.2.2.1, x.2.2.2.2.2.2.1, x.2.2.2.2.2.2.2.1, x.2.2.2.2.2.2.2.2.1, x.2.2.2.2.2.2.2.2.2.1, x.2.2.2.2.2.2.2.2.2.2⟩

def SHeader.of : SHeader → (SAddr × (SAddr × (UInt8 × (UInt16 × (UInt16 × (UInt8 × (UInt8 × (UInt32 × (UInt8 × (UInt32 × OV)))))))))) := fun x => (x.src, x.dst, x.proto, x.srcPort, x.dstPort, x.tTL, x.class_, x.id, x.flags, x.seq, x.data)

def eHeader : Enc SHeader := isoE (prodE eAddr (prodE eAddr (prodE u8E (prodE u16E (prodE u16E (prodE u8E (prodE u8E (prodE u32E (prodE u8E (prodE u32E (ovE nilSl))))))))))) SHeader.to SHeader.of

def SHeader.l_src : Lens eHeader eAddr 0 := lIso _ SHeader.to SHeader.of (fun _ => rfl) (lFst eAddr (prodE eAddr (prodE u8E (prodE u16E (prodE u16E (prodE u8E (prodE u8E (prodE u32E (prodE u8E (prodE u32E (ovE nilSl)))))))))))

@[simp] theorem SHeader.get_src (x : SHeader) : SHeader.l_src.get x = x.src := rfl

@[simp] theorem SHeader.set_src (x : SHeader) (y : SAddr) : SHeader.l_src.set x y = { x with src := y } := rfl

def SHeader.l_dst : Lens eHeader eAddr 17 := lIso _ SHeader.to SHeader.of (fun _ => rfl) (Lens.comp (lSnd eAddr (prodE eAddr (prodE u8E (prodE u16E (prodE u16E (prodE u8E (prodE u8E (prodE u32E (prodE u8E (prodE u32E (ovE nilSl))))))))))) (lFst eAddr (prodE u8E (prodE u16E (prodE u16E (prodE u8E (prodE u8E (prodE u32E (prodE u8E (prodE u32E (ovE nilSl)))))))))))

@[simp] theorem SHeader.get_dst (x : SHeader) : SHeader.l_dst.get x = x.dst := rfl

@[simp] theorem SHeader.set_dst (x : SHeader) (y : SAddr) : SHeader.l_dst.set x y = { x with dst := y } := rfl

def SHeader.l_proto : Lens eHeader u8E 34 := lIso _ SHeader.to SHeader.of (fun _ => rfl) (Lens.comp (lSnd eAddr (prodE eAddr (prodE u8E (prodE u16E (prodE u16E (prodE u8E (prodE u8E (prodE u32E (prodE u8E (prodE u32E (ovE nilSl))))))))))) (Lens.comp (lSnd eAddr (prodE u8E (prodE u16E (prodE u16E (prodE u8E (prodE u8E (prodE u32E (prodE u8E (prodE u32E (ovE nilSl)))))))))) (lFst u8E (prodE u16E (prodE u16E (prodE u8E (prodE u8E (prodE u32E (prodE u8E (prodE u32E (ovE nilSl)))))))))))

@[simp] theorem SHeader.get_proto (x : SHeader) : SHeader.l_proto.get x = x.proto := rfl

@[simp] theorem SHeader.set_proto (x : SHeader) (y : UInt8) : SHeader.l_proto.set x y = { x with proto := y } := rfl

def SHeader.l_srcPort : Lens eHeader u16E 35 := lIso _ SHeader.to SHeader.of (fun _ => rfl) (Lens.comp (lSnd eAddr (prodE eAddr (prodE u8E (prodE u16E (prodE u16E (prodE u8E (prodE u8E (prodE u32E (prodE u8E (prodE u32E (ovE nilSl))))))))))) (Lens.comp (lSnd eAddr (prodE u8E (prodE u16E (prodE u16E (prodE u8E (prodE u8E (prodE u32E (prodE u8E (prodE u32E (ovE nilSl)))))))))) (Lens.comp (lSnd u8E (prodE u16E (prodE u16E (prodE u8E (prodE u8E (prodE u32E (prodE u8E (prodE u32E (ovE nilSl))))))))) (lFst u16E (prodE u16E (prodE u8E (prodE u8E (prodE u32E (prodE u8E (prodE u32E (ovE nilSl)))))))))))

@[simp] theorem SHeader.get_srcPort (x : SHeader) : SHeader.l_srcPort.get x = x.srcPort := rfl

@[simp] theorem SHeader.set_srcPort (x : SHeader) (y : UInt16) : SHeader.l_srcPort.set x y = { x with srcPort := y } := rfl

def SHeader.l_dstPort : Lens eHeader u16E 36 := lIso _ SHeader.to SHeader.of (fun _ => rfl) (Lens.comp (lSnd eAddr (prodE eAddr (prodE u8E (prodE u16E (prodE u16E (prodE u8E (prodE u8E (prodE u32E (prodE u8E (prodE u32E (ovE nilSl))))))))))) (Lens.comp (lSnd eAddr (prodE u8E (prodE u16E (prodE u16E (prodE u8E (prodE u8E (prodE u32E (prodE u8E (prodE u32E (ovE nilSl)))))))))) (Lens.comp (lSnd u8E (prodE u16E (prodE u16E (prodE u8E (prodE u8E (prodE u32E (prodE u8E (prodE u32E (ovE nilSl))))))))) (Lens.comp (lSnd u16E (prodE u16E (prodE u8E (prodE u8E (prodE u32E (prodE u8E (prodE u32E (ovE nilSl)))))))) (lFst u16E (prodE u8E (prodE u8E (prodE u32E (prodE u8E (prodE u32E (ovE nilSl)))))))))))

@[simp] theorem SHeader.get_dstPort (x : SHeader) : SHeader.l_dstPort.get x = x.dstPort := rfl

@[simp] theorem SHeader.set_dstPort (x : SHeader) (y : UInt16) : SHeader.l_dstPort.set x y = { x with dstPort := y } := rfl

def SHeader.l_tTL : Lens eHeader u8E 37 := lIso _ SHeader.to SHeader.of (fun _ => rfl) (Lens.comp (lSnd eAddr (prodE eAddr (prodE u8E (prodE u16E (prodE u16E (prodE u8E (prodE u8E (prodE u32E (prodE u8E (prodE u32E (ovE nilSl))))))))))) (Lens.comp (lSnd eAddr (prodE u8E (prodE u16E (prodE u16E (prodE u8E (prodE u8E (prodE u32E (prodE u8E (prodE u32E (ovE nilSl)))))))))) (Lens.comp (lSnd u8E (prodE u16E (prodE u16E (prodE u8E (prodE u8E (prodE u32E (prodE u8E (prodE u32E (ovE nilSl))))))))) (Lens.comp (lSnd u16E (prodE u16E (prodE u8E (prodE u8E (prodE u32E (prodE u8E (prodE u32E (ovE nilSl)))))))) (Lens.comp (lSnd u16E (prodE u8E (prodE u8E (prodE u32E (prodE u8E (prodE u32E (ovE nilSl))))))) (lFst u8E (prodE u8E (prodE u32E (prodE u8E (prodE u32E (ovE nilSl)))))))))))

@[simp] theorem SHeader.get_tTL (x : SHeader) : SHeader.l_tTL.get x = x.tTL := rfl

@[simp] theorem SHeader.set_tTL (x : SHeader) (y : UInt8) : SHeader.l_tTL.set x y = { x with tTL := y } := rfl

def SHeader.l_class_ : Lens eHeader u8E 38 := lIso _ SHeader.to SHeader.of (fun _ => rfl) (Lens.comp (lSnd eAddr (prodE eAddr (prodE u8E (prodE u16E (prodE u16E (prodE u8E (prodE u8E (prodE u32E (prodE u8E (prodE u32E (ovE nilSl))))))))))) (Lens.comp (lSnd eAddr (prodE u8E (prodE u16E (prodE u16E (prodE u8E (prodE u8E (prodE u32E (prodE u8E (prodE u32E (ovE nilSl)))))))))) (Lens.comp (lSnd u8E (prodE u16E (prodE u16E (prodE u8E (prodE u8E (prodE u32E (prodE u8E (prodE u32E (ovE nilSl))))))))) (Lens.comp (lSnd u16E (prodE u16E (prodE u8E (prodE u8E (prodE u32E (prodE u8E (prodE u32E (ovE nilSl)))))))) (Lens.comp (lSnd u16E (prodE u8E (prodE u8E (prodE u32E (prodE u8E (prodE u32E (ovE nilSl))))))) (Lens.comp (lSnd u8E (prodE u8E (prodE u32E (prodE u8E (prodE u32E (ovE nilSl)))))) (lFst u8E (prodE u32E (prodE u8E (prodE u32E (ovE nilSl)))))))))))

@[simp] theorem SHeader.get_class_ (x : SHeader) : SHeader.l_class_.get x = x.class_ := rfl

@[simp] theorem SHeader.set_class_ (x : SHeader) (y : UInt8) : SHeader.l_class_.set x y = { x with class_ := y } := rfl

def SHeader.l_id : Lens eHeader u32E 39 := lIso _ SHeader.to SHeader.of (fun _ => rfl) (Lens.comp (lSnd eAddr (prodE eAddr (prodE u8E (prodE u16E (prodE u16E (prodE u8E (prodE u8E (prodE u32E (prodE u8E (prodE u32E (ovE nilSl))))))))))) (Lens.comp (lSnd eAddr (prodE u8E (prodE u16E (prodE u16E (prodE u8E (prodE u8E (prodE u32E (prodE u8E (prodE u32E (ovE nilSl)))))))))) (Lens.comp (lSnd u8E (prodE u16E (prodE u16E (prodE u8E (prodE u8E (prodE u32E (prodE u8E (prodE u32E (ovE nilSl))))))))) (Lens.comp (lSnd u16E (prodE u16E (prodE u8E (prodE u8E (prodE u32E (prodE u8E (prodE u32E (ovE nilSl)))))))) (Lens.comp (lSnd u16E (prodE u8E (prodE u8E (prodE u32E (prodE u8E (prodE u32E (ovE nilSl))))))) (Lens.comp (lSnd u8E (prodE u8E (prodE u32E (prodE u8E (prodE u32E (ovE nilSl)))))) (Lens.comp (lSnd u8E (prodE u32E (prodE u8E (prodE u32E (ovE nilSl))))) (lFst u32E (prodE u8E (prodE u32E (ovE nilSl)))))))))))

@[simp] theorem SHeader.get_id (x : SHeader) : SHeader.l_id.get x = x.id := rfl

@[simp] theorem SHeader.set_id (x : SHeader) (y : UInt32) : SHeader.l_id.set x y = { x with id := y } := rfl

def SHeader.l_flags : Lens eHeader u8E 40 := lIso _ SHeader.to SHeader.of (fun _ => rfl) (Lens.comp (lSnd eAddr (prodE eAddr (prodE u8E (prodE u16E (prodE u16E (prodE u8E (prodE u8E (prodE u32E (prodE u8E (prodE u32E (ovE nilSl))))))))))) (Lens.comp (lSnd eAddr (prodE u8E (prodE u16E (prodE u16E (prodE u8E (prodE u8E (prodE u32E (prodE u8E (prodE u32E (ovE nilSl)))))))))) (Lens.comp (lSnd u8E (prodE u16E (prodE u16E (prodE u8E (prodE u8E (prodE u32E (prodE u8E (prodE u32E (ovE nilSl))))))))) (Lens.comp (lSnd u16E (prodE u16E (prodE u8E (prodE u8E (prodE u32E (prodE u8E (prodE u32E (ovE nilSl)))))))) (Lens.comp (lSnd u16E (prodE u8E (prodE u8E (prodE u32E (prodE u8E (prodE u32E (ovE nilSl))))))) (Lens.comp (lSnd u8E (prodE u8E (prodE u32E (prodE u8E (prodE u32E (ovE nilSl)))))) (Lens.comp (lSnd u8E (prodE u32E (prodE u8E (prodE u32E (ovE nilSl))))) (Lens.comp (lSnd u32E (prodE u8E (prodE u32E (ovE nilSl)))) (lFst u8E (prodE u32E (ovE nilSl)))))))))))

@[simp] theorem SHeader.get_flags (x : SHeader) : SHeader.l_flags.get x = x.flags := rfl

@[simp] theorem SHeader.set_flags (x : SHeader) (y : UInt8) : SHeader.l_flags.set x y = { x with flags := y } := rfl

def SHeader.l_seq : Lens eHeader u32E 41 := lIso _ SHeader.to SHeader.of (fun _ => rfl) (Lens.comp (lSnd eAddr (prodE eAddr (prodE u8E (prodE u16E (prodE u16E (prodE u8E (prodE u8E (prodE u32E (prodE u8E (prodE u32E (ovE nilSl))))))))))) (Lens.comp (lSnd eAddr (prodE u8E (prodE u16E (prodE u16E (prodE u8E (prodE u8E (prodE u32E (prodE u8E (prodE u32E (ovE nilSl)))))))))) (Lens.comp (lSnd u8E (prodE u16E (prodE u16E (prodE u8E (prodE u8E (prodE u32E (prodE u8E (prodE u32E (ovE nilSl))))))))) (Lens.comp (lSnd u16E (prodE u16E (prodE u8E (prodE u8E (prodE u32E (prodE u8E (prodE u32E (ovE nilSl)))))))) (Lens.comp (lSnd u16E (prodE u8E (prodE u8E (prodE u32E (prodE u8E (prodE u32E (ovE nilSl))))))) (Lens.comp (lSnd u8E (prodE u8E (prodE u32E (prodE u8E (prodE u32E (ovE nilSl)))))) (Lens.comp (lSnd u8E (prodE u32E (prodE u8E (prodE u32E (ovE nilSl))))) (Lens.comp (lSnd u32E (prodE u8E (prodE u32E (ovE nilSl)))) (Lens.comp (lSnd u8E (prodE u32E (ovE nilSl))) (lFst u32E (ovE nilSl)))))))))))

@[simp] theorem SHeader.get_seq (x : SHeader) : SHeader.l_seq.get x = x.seq := rfl

@[simp] theorem SHeader.set_seq (x : SHeader) (y : UInt32) : SHeader.l_seq.set x y = { x with seq := y } := rfl

def SHeader.l_data : Lens eHeader (ovE nilSl) 42 := lIso _ SHeader.to SHeader.of (fun _ => rfl) (Lens.comp (lSnd eAddr (prodE eAddr (prodE u8E (prodE u16E (prodE u16E (prodE u8E (prodE u8E (prodE u32E (prodE u8E (prodE u32E (ovE nilSl))))))))))) (Lens.comp (lSnd eAddr (prodE u8E (prodE u16E (prodE u16E (prodE u8E (prodE u8E (prodE u32E (prodE u8E (prodE u32E (ovE nilSl)))))))))) (Lens.comp (lSnd u8E (prodE u16E (prodE u16E (prodE u8E (prodE u8E (prodE u32E (prodE u8E (prodE u32E (ovE nilSl))))))))) (Lens.comp (lSnd u16E (prodE u16E (prodE u8E (prodE u8E (prodE u32E (prodE u8E (prodE u32E (ovE nilSl)))))))) (Lens.comp (lSnd u16E (prodE u8E (prodE u8E (prodE u32E (prodE u8E (prodE u32E (ovE nilSl))))))) (Lens.comp (lSnd u8E (prodE u8E (prodE u32E (prodE u8E (prodE u32E (ovE nilSl)))))) (Lens.comp (lSnd u8E (prodE u32E (prodE u8E (prodE u32E (ovE nilSl))))) (Lens.comp (lSnd u32E (prodE u8E (prodE u32E (ovE nilSl)))) (Lens.comp (lSnd u8E (prodE u32E (ovE nilSl))) (Lens.comp (lSnd u32E (ovE nilSl)) (Lens.id (ovE nilSl))))))))))))

@[simp] theorem SHeader.get_data (x : SHeader) : SHeader.l_data.get x = x.data := rfl

@[simp] theorem SHeader.set_data (x : SHeader) (y : OV) : SHeader.l_data.set x y = { x with data := y } := rfl

def bitOf (x : UInt8) (j : Nat) : UInt8 := shr8 x (7 - j) &&& 1
theorem bitOf_toNat (x : UInt8) (j : Nat) : (bitOf x j).toNat = bn x.toNat (7 - j) := by
  unfold bitOf bn
  rw [UInt8.toNat_and, toNat_shr8]
  have e : UInt8.toNat 1 = 1 := rfl
  rw [e, Nat.and_one_is_mod]
theorem bitU_at (xs : List UInt8) (q j : Nat) (hj : j < 8) : bitU xs (8 * (q : Int) + j) = bitOf (xs.getD q 0) j := by
  unfold bitU bitOf
  have e1 : ((8 * (q : Int) + j) / 8).toNat = q := by omega
  have e2 : (7 - (8 * (q : Int) + j) % 8).toNat = 7 - j := by omega
  rw [e1, e2]
set_option maxRecDepth 100000 in
theorem mk1_dec : ∀ n : Fin 256, ∀ l : Fin 9, (mk1 (l.val : Int) (UInt8.ofNat n.val) = UInt8.ofNat n.val ↔ ∀ j : Fin 8, l.val ≤ j.val → bn n.val (7 - j.val) = 0) := by decide +kernel
theorem mk1_iff (x : UInt8) (left : Int) : mk1 left x = x ↔ ∀ j : Nat, j < 8 → left ≤ j → bitOf x j = 0 := by
  have key : ∀ l : Nat, l < 9 → (mk1 (l : Int) x = x ↔ ∀ j : Nat, j < 8 → l ≤ j → bitOf x j = 0) := fun l hl => by
    have h := mk1_dec ⟨x.toNat, x.toNat_lt⟩ ⟨l, hl⟩
    simp only [UInt8.ofNat_toNat] at h
    rw [h]
    constructor
    · intro h1 j hj hlj
      apply UInt8.toNat_inj.1
      rw [bitOf_toNat]
      exact h1 ⟨j, hj⟩ hlj
    · intro h1 j hlj
      rw [← bitOf_toNat, h1 j.val j.isLt hlj]
      rfl
  by_cases h0 : left ≤ 0
  · have e : mk1 left x = mk1 ((0 : Nat) : Int) x := by
      unfold mk1
      rw [if_pos h0, if_pos (by omega)]
    rw [e, key 0 (by omega)]
    exact ⟨fun h j hj _ => h j hj (Nat.zero_le _), fun h j hj _ => h j hj (by omega)⟩
  · by_cases h8 : left < 8
    · have e : left = (left.toNat : Int) := by omega
      rw [e, key left.toNat (by omega)]
      exact ⟨fun h j hj hl => h j hj (by omega), fun h j hj hl => h j hj (by omega)⟩
    · have e : mk1 left x = x := by
        unfold mk1
        rw [if_neg h0, if_neg h8]
      exact ⟨fun _ j hj hl => by omega, fun _ => e⟩
theorem vec_getD (b : Vector UInt8 16) (k : Nat) (h : k < 16) : b.toList.getD k 0 = b[k] := by simp [List.getD, h]
theorem mask_bits (n : Int) (b : Vector UInt8 16) (h0 : 0 ≤ n) : maskV n b = b ↔ ∀ i : Int, n ≤ i → i < 128 → bitU b.toList i = 0 := by
  have step : maskV n b = b ↔ ∀ (k : Nat) (hk : k < 16), mk1 (n - 8 * (k : Int)) b[k] = b[k] := by
    constructor
    · intro h k hk
      have := congrArg (fun v : Vector UInt8 16 => v[k]) h
      simpa [maskV] using this
    · intro h
      apply Vector.ext
      intro k hk
      have := h k hk
      simpa [maskV] using this
  rw [step]
  constructor
  · intro h i h1 h2
    have hk : (i / 8).toNat < 16 := by omega
    have h3 := (mk1_iff _ _).1 (h (i / 8).toNat hk) (i % 8).toNat (by omega) (by omega)
    have e : i = 8 * ((i / 8).toNat : Int) + ((i % 8).toNat : Int) := by omega
    rw [e, bitU_at _ _ _ (by omega), vec_getD b _ hk]
    exact h3
  · intro h k hk
    refine (mk1_iff _ _).2 (fun j hj hl => ?_)
    have h3 := h (8 * (k : Int) + j) (by omega) (by omega)
    rw [bitU_at _ _ _ hj, vec_getD b _ hk] at h3
    exact h3
theorem checkA_zero (a : SAddr) : checkA a = 0 ↔ ∀ i : Int, wd a ≤ i → i < 128 → bitU a.b.toList i = 0 := by
  have := wd_le a
  rw [← mask_bits (wd a) a.b (by omega)]
  unfold checkA
  split <;> simp_all
theorem checkP_zero (p : SPrefix) : checkP p = 0 ↔ 0 ≤ p.bits ∧ p.bits ≤ wd p.addr ∧ ∀ i : Int, p.bits ≤ i → i < 128 → bitU p.addr.b.toList i = 0 := by
  unfold checkP
  by_cases h0 : 0 ≤ p.bits
  · rw [← mask_bits p.bits p.addr.b h0]
    split
    · rename_i h
      constructor
      · intro h; cases h
      · intro h2; exfalso; rcases h with h | h | h
        · omega
        · omega
        · exact h h2.2.2
    · rename_i h
      simp only [not_or, Decidable.not_not] at h
      exact ⟨fun _ => ⟨h0, (by omega), h.2.2⟩, fun _ => rfl⟩
  · rw [if_pos (.inl (by omega))]
    exact ⟨fun h => (by cases h), fun h => absurd h.1 h0⟩
theorem checkP_addr (p : SPrefix) (h : checkP p = 0) : checkA p.addr = 0 := by
  obtain ⟨h0, h1, h2⟩ := (checkP_zero p).1 h
  exact (checkA_zero p.addr).2 (fun i hi h3 => h2 i (by omega) h3)
def asksB (m : SMatch) (w : UInt8) : Bool := decide (¬ m.asks &&& w = 0)
set_option maxRecDepth 100000 in
theorem asks_dec : ∀ w ∈ ([1, 2, 4, 8, 16, 32] : List UInt8), ∀ n : Fin 256, decide (UInt8.ofNat n.val / w % 2 = 1) = decide (¬ UInt8.ofNat n.val &&& w = 0) := by decide +kernel
theorem asks_eq (w x : UInt8) (h : w ∈ ([1, 2, 4, 8, 16, 32] : List UInt8)) : decide (x / w % 2 = 1) = decide (¬ x &&& w = 0) := by
  have := asks_dec w h ⟨x.toNat, x.toNat_lt⟩
  simpa only [UInt8.ofNat_toNat] using this

theorem rbit_ok (a : SAddr) (i : Int) (w : World) (h : 0 ≤ i ∧ i < 128) : Calls Tryz.prog 197 #[eAddr.val a, I i] w (RetV w (U8 (bitU a.b.toList i))) := by
  refine enter0 15 Tryz.func197 rfl rfl (Nat.le_of_ble_eq_true rfl) ?_
  refine seq (region (cons (box (E := eAddr) (.t rfl) (fun b1 => ?_))))
  refine cons (opv (Ev.assign (.c (v := U8 0) rfl)) ?_)
  refine nil (pN (seq (region (cons (opv (Ev.move (.t rfl)) (cons (opv (Ev.quo_n (.t rfl) (.c (v := I 8) rfl) (fun _ => by omega) (fun _ => by omega) (fun _ => by omega)) ?_)))))))
  refine cons (opv (Ev.fieldAddr (o := 1) (.t rfl) (by kernel_rfl)) ?_)
  refine cons (opv (Ev.indexAddrA Tryz.underlying46 ty5 (.t rfl) (.t rfl) (fun _ => by omega)) ?_)
  refine cons (opv (Ev.ldv ty5 (.t rfl) (Lens.comp SAddr.l_b (lArr (n := 16) u8E _ (by omega)))) ?_)
  refine cons (opv (Ev.move (.t rfl)) (cons (opv (Ev.rem_n (.t rfl) (.c (v := I 8) rfl) (fun _ => by omega) (fun _ => by omega)) ?_)))
  refine cons (opv (Ev.sub_i (.c (v := I 7) rfl) (.t rfl) (fun _ => by omega)) ?_)
  refine cons (opv (Ev.shr_u8 (.t rfl) (.t rfl) (fun _ => by omega)) ?_)
  refine cons (opv (Ev.and_u8 (.t rfl) (.c (v := U8 1) rfl)) ?_)
  refine cons (opv (Ev.assign (.t rfl)) (nil (pN (ret (done rfl (.tmp rfl .nil) (retE ?_))))))
  unfold bitU
  rw [vec_getD a.b _ (by omega)]
  rfl

theorem rmost_ok (v : Bool) (w : World) : Calls Tryz.prog 196 #[.bool v] w (RetV w (I (bif v then 128 else 32))) := by
  refine enter0 4 Tryz.func196 rfl rfl (Nat.le_of_ble_eq_true rfl) ?_
  refine seq (region (cons (opv (Ev.assign (.c (v := I 0) rfl)) ?_)))
  refine nil (pN (seq (seq (region (cons (opv (Ev.move (.t rfl)) (nil (pN ?_))))))))
  first | refine condD rfl (fun h0 => ?_) (fun h0 => ?_) | refine cond rfl (fun h0 => ?_) (fun h0 => ?_)
  · try simp only [nb] at h0
    refine seq (region (cons (opv (Ev.assign (.c (v := I 128) rfl)) ?_)))
    refine nil (pN (ret (pR (done rfl (.tmp rfl .nil) (retE ?_)))))
    rw [h0]; rfl
  · try simp only [nb] at h0
    refine skip (pN (seq (region (cons (opv (Ev.assign (.c (v := I 32) rfl)) ?_)))))
    refine nil (pN (ret (done rfl (.tmp rfl .nil) (retE ?_))))
    rw [h0]; rfl

theorem en197 : Gx.Enters Tryz.prog 197 := Gx.Enters.mk' (by kernel_rfl)

theorem raddr_ok (a : SAddr) (w : World) : Calls Tryz.prog 195 #[eAddr.val a] w (RetV w (.bool (decide (checkA a = 0)))) := by
  refine enter0 17 Tryz.func195 rfl rfl (Nat.le_of_ble_eq_true rfl) ?_
  refine seq (region (cons (box (E := eAddr) (.t rfl) (fun b1 => ?_))))
  refine cons (opv (Ev.assign (.c (v := .bool false) rfl)) ?_)
  refine nil (pN (seq (seq (region (cons (opv (Ev.assign (.c (v := I 32) rfl)) ?_))))))
  refine nil (pN (block (loop (X := Int) (fun x : Int => (32 ≤ x ∧ x ≤ 128) ∧ (∀ j : Int, 32 ≤ j → j < x → bitU a.b.toList j = 0) ∧ (32 < x → a.v6 = false)) (fun x : Int => [(1, true, .pointer (some ⟨b1, 0, none⟩)), (3, true, I x)]) (fun x : Int => [Var b1 eAddr a 48]) (fun x : Int => (128 - x).toNat) (32) ⟨?_, ?_, ?_⟩ (by repeat first | exact Sub.nil | refine Sub.cons rfl ?_) (by repeat first | exact sR | exact sN | apply sC | apply sS | apply sA) (fun x hx => ?_))))
  · omega
  · intro j h1 h2; omega
  · intro h; omega
  obtain ⟨i, rfl⟩ : ∃ y, y = x := ⟨x, rfl⟩
  obtain ⟨hi, hz, hv⟩ : (32 ≤ i ∧ i ≤ 128) ∧ (∀ j : Int, 32 ≤ j → j < i → bitU a.b.toList j = 0) ∧ (32 < i → a.v6 = false) := hx
  show Sat _ _ [(1, true, .pointer (some ⟨b1, 0, none⟩)), (3, true, I i)] [Var b1 eAddr a 48]
  refine seq (seq (region (cons (opv (Ev.move (.t rfl)) (cons (opv (Ev.lss_i (.t rfl) (.c (v := I 128) rfl)) ?_))))))
  refine cons (opv (Ev.move (.t rfl)) (cons (opg rfl rfl (Ev.fieldAddr (o := 0) (.t rfl) (by kernel_rfl)) ?_)))
  refine cons (opg rfl rfl (Ev.load (xv := a.v6) ty4 (.g rfl id) (ptsVar (by repeat first | exact mH | apply mT | apply mA) SAddr.l_v6)) ?_)
  refine cons (opg rfl rfl (Ev.not (.g rfl id)) ?_)
  refine cons (opv (Ev.pickA (.t rfl) (fun {_} h => by cases h; rfl) ⟨_, rfl⟩ (by intro h1 h; first | (rw [h] <;> rfl) | (rw [h1, h] <;> rfl) | (rw [h, h1] <;> rfl) | simp_all) (.c (v := .bool false) rfl)) ?_)
  refine nil (pN ?_)
  first | refine condD rfl (fun hlt => ?_) (fun hge => ?_) | refine cond rfl (fun hlt => ?_) (fun hge => ?_)
  · try simp only [nb] at hlt
    refine skip (pN (seq (block (seq (region (cons (opv (Ev.load (xv := a) ty48 (.t rfl) (ptsVar (by repeat first | exact mH | apply mT | apply mA) (Lens.id _))) ?_)))))))
    refine cons (opv (Ev.move (.t rfl)) (cons (callv en197 (.cons (.t rfl) (.cons (.t rfl) .nil)) (fun w I => rbit_ok _ _ w (by omega)) ?_)))
    refine cons (opv (Ev.neq_u8 (.t rfl) (.c (v := U8 0) rfl)) ?_)
    refine nil (pN ?_)
    first | refine condD rfl (fun hne => ?_) (fun heq => ?_) | refine cond rfl (fun hne => ?_) (fun heq => ?_)
    · try simp only [nb] at hne
      refine seq (region (cons (opv (Ev.assign (.c (v := .bool false) rfl)) ?_)))
      refine nil (pN (ret (bR (pR (pR (bR (pR (done rfl (.tmp rfl .nil) (retE ?_)))))))))
      refine bF (fun h => ?_)
      have h6 : a.v6 = false := by simpa using hlt.2
      exact hne ((checkA_zero a).1 h i (by simp [wd, h6]; omega) (by omega))
    · try simp only [nb] at heq
      have h1z : bitU a.b.toList i = 0 := by simpa using heq
      refine skip (bN (pN (region (cons (opv (Ev.move (.t rfl)) (cons (opv (Ev.add_i (.t rfl) (.c (v := I 1) rfl) (fun _ => by omega)) ?_)))))))
      refine cons (opv (Ev.assign (.t rfl)) (nil (pN (next (X := Int) (i + 1) ⟨?_, ?_, ?_⟩ ?_ (by repeat first | exact Sub.nil | refine Sub.cons rfl ?_) (by repeat first | exact sR | exact sN | apply sC | apply sS | apply sA)))))
      · try dsimp only
        omega
      · try dsimp only
        intro j h1 h2
        by_cases e : j = i
        · rw [e]; exact h1z
        · exact hz j h1 (by omega)
      · try dsimp only
        intro _; simpa using hlt.2
      · try dsimp only
        omega
  · try simp only [nb] at hge
    refine exit (pX (pX (bX (pN (seq (region (cons (opv (Ev.assign (.c (v := .bool true) rfl)) ?_))))))))
    refine nil (pN (ret (done rfl (.tmp rfl .nil) (retE ?_))))
    refine bT ((checkA_zero a).2 (fun j h1 h2 => ?_))
    by_cases h6 : a.v6 = true
    · simp [wd, h6] at h1; omega
    · have h6 : a.v6 = false := by simpa using h6
      have hi128 : i = 128 := by
        rcases hge with h | h
        · omega
        · simp [h6] at h
      exact hz j (by simp [wd, h6] at h1; omega) (by omega)

theorem en195 : Gx.Enters Tryz.prog 195 := Gx.Enters.mk' (by kernel_rfl)

theorem en196 : Gx.Enters Tryz.prog 196 := Gx.Enters.mk' (by kernel_rfl)

theorem rprefix_ok (p : SPrefix) (w : World) : Calls Tryz.prog 185 #[ePrefix.val p] w (RetV w (.bool (decide (checkP p = 0)))) := by
  have hw := wd_le p.addr
  refine enter0 33 Tryz.func185 rfl rfl (Nat.le_of_ble_eq_true rfl) ?_
  refine seq (region (cons (box (E := ePrefix) (.t rfl) (fun b1 => ?_))))
  refine cons (opv (Ev.assign (.c (v := .bool false) rfl)) ?_)
  refine nil (pN (seq (seq (draw' (by kernel_rfl) ?_))))
  refine tk 0 rfl (Ev.fieldAddr (o := 0) (.t rfl) (by kernel_rfl)) ?_
  refine tk 1 rfl (Ev.load (xv := p.addr) ty48 (.t rfl) (ptsVar (by repeat first | exact mH | apply mT | apply mA) SPrefix.l_addr)) ?_
  refine al1 2 rfl ((callv en195 (.cons (.t rfl) .nil) (fun w I => raddr_ok _ w) ?_))
  refine hdn (tk 3 rfl (Ev.not (.t rfl)) ?_)
  refine tk 4 rfl (Ev.move (.t rfl)) ?_
  refine tkg 5 rfl rfl rfl (Ev.fieldAddr (o := 17) (.t rfl) (by kernel_rfl)) ?_
  refine tkg 6 rfl rfl rfl (Ev.load (xv := p.bits) ty3 (.g rfl id) (ptsVar (by repeat first | exact mH | apply mT | apply mA) SPrefix.l_bits)) ?_
  refine tkg 7 rfl rfl rfl (Ev.lss_i (.g rfl id) (.c (v := I 0) rfl)) ?_
  refine tk 8 rfl (Ev.pickO (.t rfl) (.c (v := .bool true) rfl) (fun {_} h => by cases h; rfl) ⟨_, rfl⟩ (by intro h1 h; first | (rw [h] <;> rfl) | (rw [h1, h] <;> rfl) | (rw [h, h1] <;> rfl) | simp_all)) ?_
  refine tk 9 rfl (Ev.move (.t rfl)) ?_
  refine tkg 10 rfl rfl rfl (Ev.fieldAddr (o := 17) (.t rfl) (by kernel_rfl)) ?_
  refine tkg 11 rfl rfl rfl (Ev.load (xv := p.bits) ty3 (.g rfl id) (ptsVar (by repeat first | exact mH | apply mT | apply mA) SPrefix.l_bits)) ?_
  refine tkg 12 rfl rfl rfl (Ev.fieldAddr (o := 0) (.t rfl) (by kernel_rfl)) ?_
  refine tkg 13 rfl rfl rfl (Ev.fieldAddr (o := 0) (.g rfl id) (by kernel_rfl)) ?_
  refine tkg 14 rfl rfl rfl (Ev.load (xv := p.addr.v6) ty4 (.g rfl id) (ptsVar (by repeat first | exact mH | apply mT | apply mA) (Lens.comp SPrefix.l_addr SAddr.l_v6))) ?_
  refine al1 15 rfl ((callg rfl rfl en196 (.cons (.g rfl id) .nil) (fun hg w I => rmost_ok _ w) ?_))
  refine hdn (tkg 16 rfl rfl rfl (Ev.gtr_i (.g rfl id) (.g rfl id)) ?_)
  refine tk 17 rfl (Ev.pickO (.t rfl) (.c (v := .bool true) rfl) (fun {_} h => by cases h; rfl) ⟨_, rfl⟩ (by intro h1 h; first | (rw [h] <;> rfl) | (rw [h1, h] <;> rfl) | (rw [h, h1] <;> rfl) | simp_all)) ?_
  refine ovr (pN ?_)
  first | refine condD rfl (fun h0 => ?_) (fun h0 => ?_) | refine cond rfl (fun h0 => ?_) (fun h0 => ?_)
  · refine seq (region (cons (opv (Ev.assign (.c (v := .bool false) rfl)) ?_)))
    refine nil (pN (ret (pR (done rfl (.tmp rfl .nil) (retE ?_)))))
    refine bF (fun h => ?_)
    obtain ⟨g0, g1, g2⟩ := (checkP_zero p).1 h
    have g3 := checkP_addr p h
    have g4 : p.bits ≤ (bif p.addr.v6 then 128 else 32) := g1
    simp [g3] at h0
    omega
  · have hr : 0 ≤ p.bits ∧ p.bits ≤ wd p.addr := by simp [and_assoc] at h0; exact ⟨h0.2.1, h0.2.2⟩
    refine skip (pN (seq (seq (region (cons (opv (Ev.fieldAddr (o := 17) (.t rfl) (by kernel_rfl)) ?_))))))
    refine cons (opv (Ev.load (xv := p.bits) ty3 (.t rfl) (ptsVar (by repeat first | exact mH | apply mT | apply mA) SPrefix.l_bits)) ?_)
    refine cons (opv (Ev.assign (.t rfl)) (nil (pN (block (loop (X := Int) (fun x : Int => (p.bits ≤ x ∧ x ≤ 128) ∧ (∀ j : Int, p.bits ≤ j → j < x → bitU p.addr.b.toList j = 0)) (fun x : Int => [(1, true, .pointer (some ⟨b1, 0, none⟩)), (3, true, I x)]) (fun x : Int => [Var b1 ePrefix p 50]) (fun x : Int => (128 - x).toNat) (p.bits) ⟨?_, ?_⟩ (by repeat first | exact Sub.nil | refine Sub.cons rfl ?_) (by repeat first | exact sR | exact sN | apply sC | apply sS | apply sA) (fun x hx => ?_))))))
    · omega
    · intro j h1 h2; omega
    obtain ⟨i, rfl⟩ : ∃ y, y = x := ⟨x, rfl⟩
    obtain ⟨hi, hz⟩ : (p.bits ≤ i ∧ i ≤ 128) ∧ (∀ j : Int, p.bits ≤ j → j < i → bitU p.addr.b.toList j = 0) := hx
    show Sat _ _ [(1, true, .pointer (some ⟨b1, 0, none⟩)), (3, true, I i)] [Var b1 ePrefix p 50]
    refine seq (seq (region (cons (opv (Ev.move (.t rfl)) (cons (opv (Ev.lss_i (.t rfl) (.c (v := I 128) rfl)) ?_))))))
    refine nil (pN ?_)
    first | refine condD rfl (fun hlt => ?_) (fun hge => ?_) | refine cond rfl (fun hlt => ?_) (fun hge => ?_)
    · try simp only [nb] at hlt
      refine skip (pN (seq (block (seq (region (cons (opv (Ev.fieldAddr (o := 0) (.t rfl) (by kernel_rfl)) ?_)))))))
      refine cons (opv (Ev.load (xv := p.addr) ty48 (.t rfl) (ptsVar (by repeat first | exact mH | apply mT | apply mA) SPrefix.l_addr)) ?_)
      refine cons (opv (Ev.move (.t rfl)) (cons (callv en197 (.cons (.t rfl) (.cons (.t rfl) .nil)) (fun w I => rbit_ok _ _ w (by omega)) ?_)))
      refine cons (opv (Ev.neq_u8 (.t rfl) (.c (v := U8 0) rfl)) ?_)
      refine nil (pN ?_)
      first | refine condD rfl (fun hne => ?_) (fun heq => ?_) | refine cond rfl (fun hne => ?_) (fun heq => ?_)
      · try simp only [nb] at hne
        refine seq (region (cons (opv (Ev.assign (.c (v := .bool false) rfl)) ?_)))
        refine nil (pN (ret (bR (pR (pR (bR (pR (done rfl (.tmp rfl .nil) (retE ?_)))))))))
        refine bF (fun h => ?_)
        exact hne (((checkP_zero p).1 h).2.2 i (by omega) (by omega))
      · try simp only [nb] at heq
        have h1z : bitU p.addr.b.toList i = 0 := by simpa using heq
        refine skip (bN (pN (region (cons (opv (Ev.move (.t rfl)) (cons (opv (Ev.add_i (.t rfl) (.c (v := I 1) rfl) (fun _ => by omega)) ?_)))))))
        refine cons (opv (Ev.assign (.t rfl)) (nil (pN (next (X := Int) (i + 1) ⟨?_, ?_⟩ ?_ (by repeat first | exact Sub.nil | refine Sub.cons rfl ?_) (by repeat first | exact sR | exact sN | apply sC | apply sS | apply sA)))))
        · try dsimp only
          omega
        · try dsimp only
          intro j h1 h2
          by_cases e : j = i
          · rw [e]; exact h1z
          · exact hz j h1 (by omega)
        · try dsimp only
          omega
    · try simp only [nb] at hge
      refine exit (pX (pX (bX (pN (seq (region (cons (opv (Ev.assign (.c (v := .bool true) rfl)) ?_))))))))
      refine nil (pN (ret (done rfl (.tmp rfl .nil) (retE ?_))))
      exact bT ((checkP_zero p).2 ⟨hr.1, hr.2, fun j h1 h2 => hz j h1 (by omega)⟩)

theorem en185 : Gx.Enters Tryz.prog 185 := Gx.Enters.mk' (by kernel_rfl)

theorem rasks_ok (m : SMatch) (q : UInt8) (w : World) (h : q ∈ ([1, 2, 4, 8, 16, 32] : List UInt8)) : Calls Tryz.prog 179 #[eMatch.val m, U8 q] w (RetV w (.bool (asksB m q))) := by
  refine enter0 11 Tryz.func179 rfl rfl (Nat.le_of_ble_eq_true rfl) ?_
  refine seq (region (cons (box (E := eMatch) (.t rfl) (fun b1 => ?_))))
  refine cons (opv (Ev.assign (.c (v := .bool false) rfl)) ?_)
  refine nil (pN (seq (region (cons (opv (Ev.fieldAddr (o := 0) (.t rfl) (by kernel_rfl)) ?_)))))
  refine cons (opv (Ev.load (xv := m.asks) ty5 (.t rfl) (ptsVar (by repeat first | exact mH | apply mT | apply mA) SMatch.l_asks)) ?_)
  refine cons (opv (Ev.move (.t rfl)) (cons (opv (Ev.quo_u8 (.t rfl) (.t rfl) (fun _ => by intro e; rw [e] at h; revert h; decide)) ?_)))
  refine cons (opv (Ev.rem_u8 (.t rfl) (.c (v := U8 2) rfl) (fun _ => by decide)) ?_)
  refine cons (opv (Ev.eql_u8 (.t rfl) (.c (v := U8 1) rfl)) ?_)
  refine cons (opv (Ev.assign (.t rfl)) (nil (pN (ret (done rfl (.tmp rfl .nil) (retE ?_))))))
  exact congrArg Value.bool (asks_eq q m.asks h)

theorem asks_ok (m : SMatch) (q : UInt8) (w : World) : Calls Tryz.prog 153 #[eMatch.val m, U8 q] w (RetV w (.bool (asksB m q))) := by
  refine enter0 10 Tryz.func153 rfl rfl (Nat.le_of_ble_eq_true rfl) ?_
  refine seq (region (cons (box (E := eMatch) (.t rfl) (fun b1 => ?_))))
  refine cons (opv (Ev.assign (.c (v := .bool false) rfl)) ?_)
  refine nil (pN (seq (region (cons (opv (Ev.fieldAddr (o := 0) (.t rfl) (by kernel_rfl)) ?_)))))
  refine cons (opv (Ev.load (xv := m.asks) ty5 (.t rfl) (ptsVar (by repeat first | exact mH | apply mT | apply mA) SMatch.l_asks)) ?_)
  refine cons (opv (Ev.move (.t rfl)) (cons (opv (Ev.and_u8 (.t rfl) (.t rfl)) ?_)))
  refine cons (opv (Ev.neq_u8 (.t rfl) (.c (v := U8 0) rfl)) ?_)
  refine cons (opv (Ev.assign (.t rfl)) (nil (pN (ret (done rfl (.tmp rfl .nil) (retE ?_))))))
  rfl

def portsB (p : UInt8) : Bool := decide (p = 6) || decide (p = 17)
def withinB (s : SSpan) (n : Int) : Bool := decide ((s.from_.toNat : Int) ≤ n) && decide (n ≤ (s.to_.toNat : Int))

theorem rports_ok (p : UInt8) (w : World) : Calls Tryz.prog 186 #[U8 p] w (RetV w (.bool (portsB p))) := by
  refine enter0 9 Tryz.func186 rfl rfl (Nat.le_of_ble_eq_true rfl) ?_
  refine seq (region (cons (opv (Ev.assign (.c (v := .bool false) rfl)) ?_)))
  refine nil (pN (seq (region (cons (opv (Ev.move (.t rfl)) (cons (opv (Ev.eql_u8 (.t rfl) (.c (v := U8 6) rfl)) ?_)))))))
  refine cons (opv (Ev.move (.t rfl)) (cons (opg rfl rfl (Ev.move (.t rfl)) ?_)))
  refine cons (opg rfl rfl (Ev.eql_u8 (.g rfl id) (.c (v := U8 17) rfl)) ?_)
  refine cons (opv (Ev.pickO (.t rfl) (.c (v := .bool true) rfl) (fun {_} h => by cases h; rfl) ⟨_, rfl⟩ (by intro h1 h; first | (rw [h] <;> rfl) | (rw [h1, h] <;> rfl) | (rw [h, h1] <;> rfl) | simp_all)) ?_)
  refine cons (opv (Ev.assign (.t rfl)) (nil (pN (ret (done rfl (.tmp rfl .nil) (retE ?_))))))
  rfl

end Go.Proofs.YtnoobdijbpmjkaaGreat
