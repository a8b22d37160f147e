/- octets -/
import Derived.Test.YtcmpdhggeilkfaaO4
set_option linter.unusedVariables false
set_option linter.unusedSimpArgs false
namespace Go.Proofs.Ytcmpdhggeilkfaa
open Go Go.Gx

theorem join_ok (u : Value) (xss : List (List UInt8)) (w : World) (hs : IsSS u8E w u xss) (hl : xss.flatten.length ≤ 140737488355328) : Calls Try.prog 19 #[u] w (RetO w u8E xss.flatten 5) := by
  obtain ⟨vs, hvs, hvl, he⟩ := hs
  have hvle := hvs.le
  refine enter0 18 Try.func19 rfl rfl (Nat.le_of_ble_eq_true rfl) ?_
  refine seq ?_
  refine region ?_
  refine cons (opv (Ev.assign (.c (v := (Go.Value.slice none 0 0)) rfl)) ?_)
  refine nil ?_
  refine pN ?_
  refine seq ?_
  refine region ?_
  refine cons (opv (Ev.assign (.c (v := (Go.Value.slice none 0 0)) rfl)) ?_)
  refine takeNil u8E 5 ?_
  refine nil ?_
  refine pN ?_
  refine seq ?_
  refine seq ?_
  refine region ?_
  refine cons (opv (Ev.assign (.c (v := I 0) rfl)) ?_)
  refine nil ?_
  refine pN ?_
  refine block ?_
  refine loop (X := Int × OV × (List UInt8)) (fun x : Int × OV × (List UInt8) => (0 ≤ x.1 ∧ x.1 ≤ xss.length) ∧ (x.2.2 ++ (xss.drop x.1.toNat).flatten = xss.flatten)) (fun x : Int × OV × (List UInt8) => [(0, true, u), (3, true, x.2.1.v), (4, true, I x.1)]) (fun x : Int × OV × (List UInt8) => [OwnS x.2.1.v u8E x.2.2 5]) (fun x : Int × OV × (List UInt8) => (xss.length - x.1).toNat) (0, nilSl, _) ⟨?_, ?_⟩ (by repeat first | exact Sub.nil | refine Sub.cons rfl ?_) (by repeat first | exact List.Sublist.refl _ | apply List.Sublist.cons_cons | apply List.Sublist.cons) (fun x hx => ?_)
  · omega
  · rfl
  obtain ⟨i, o, ys⟩ := x
  obtain ⟨hi, hy⟩ : (0 ≤ i ∧ i ≤ xss.length) ∧ (ys ++ (xss.drop i.toNat).flatten = xss.flatten) := hx
  show Sat _ _ [(0, true, u), (3, true, o.v), (4, true, I i)] [OwnS o.v u8E ys 5]
  refine seq ?_
  refine seq ?_
  refine region ?_
  refine cons (opv (Ev.move (.t rfl)) ?_)
  refine cons (opv (Ev.move (.t rfl)) ?_)
  refine cons (opv (Ev.len Try.underlying33 (.t rfl) (fun w I => hvs.keep0 I.keeps)) ?_)
  refine cons (opv (Ev.lss_i (.t rfl) (.t rfl)) ?_)
  refine nil ?_
  refine pN ?_
  first | refine condD rfl (fun hlt => ?_) (fun hge => ?_) | refine cond rfl (fun hlt => ?_) (fun hge => ?_)
  · try simp only [Bool.and_eq_true, Bool.or_eq_true, Bool.or_eq_false_iff, Bool.and_eq_false_iff, Bool.not_eq_true', Bool.not_eq_false', decide_eq_true_eq, decide_eq_false_iff_not, Decidable.not_not] at hlt
    refine skip ?_
    refine pN ?_
    refine seq ?_
    refine block ?_
    refine region ?_
    have hd : xss.drop i.toNat = xss.getD i.toNat [] :: xss.drop (i + 1).toNat := by
      have e : (i + 1).toNat = i.toNat + 1 := by omega
      rw [e, List.drop_eq_getElem_cons (by omega)]; simp [List.getD, show i.toNat < xss.length by omega]
    have hx := he i.toNat (by omega)
    have hyl : ys.length + (xss.getD i.toNat []).length ≤ xss.flatten.length := by
      rw [← hy, hd, List.flatten_cons]; simp
    change IsSl u8E w (vs.getD i.toNat nilSl).v _ at hx
    refine cons (opv (Ev.move (.t rfl)) ?_)
    refine cons (opv (Ev.move (.t rfl)) ?_)
    refine cons (opv (Ev.move (.t rfl)) ?_)
    refine cons (opv (Ev.indexAddr Try.underlying33 ty22 (.t rfl) (.t rfl) (fun w I => hvs.keep0 I.keeps) (fun _ => by omega)) ?_)
    refine cons (opv (Ev.loadS0 ty22 (.t rfl) (fun w I => hvs.keep0 I.keeps) (fun _ => by omega)) ?_)
    refine cons (append (E := u8E) Try.underlying22 ty5 rfl zb5 zs5 (.t rfl) (.t rfl) (fun _ => by repeat first | exact Upd.head | apply Upd.tail) (fun w I => hx.keep0 I.keeps) (⟨by (show _ ≤ 9223372036854775807); first | omega | (simp; omega), by first | omega | (simp; omega)⟩) (fun v1 => ?_))
    refine cons (opv (Ev.assign (.t rfl)) ?_)
    refine nil ?_
    refine bN ?_
    refine pN ?_
    refine region ?_
    refine cons (opv (Ev.move (.t rfl)) ?_)
    refine cons (opv (Ev.add_i (.t rfl) (.c (v := I 1) rfl) (fun _ => by omega)) ?_)
    refine cons (opv (Ev.assign (.t rfl)) ?_)
    refine nil ?_
    refine pN ?_
    refine next (X := Int × OV × (List UInt8)) (i + 1, _, _) ⟨?_, ?_⟩ ?_ (by repeat first | exact Sub.nil | refine Sub.cons rfl ?_) (by repeat first | exact List.Sublist.refl _ | apply List.Sublist.cons_cons | apply List.Sublist.cons)
    · try dsimp only
      omega
    · try dsimp only
      rw [← hy, hd, List.flatten_cons, List.append_assoc]
    · try dsimp only
      omega
  · try simp only [Bool.and_eq_true, Bool.or_eq_true, Bool.or_eq_false_iff, Bool.and_eq_false_iff, Bool.not_eq_true', Bool.not_eq_false', decide_eq_true_eq, decide_eq_false_iff_not, Decidable.not_not] at hge
    refine exit ?_
    refine pX ?_
    refine pX ?_
    refine bX ?_
    refine pN ?_
    refine seq ?_
    refine region ?_
    refine cons (opv (Ev.move (.t rfl)) ?_)
    refine cons (opv (Ev.assign (.t rfl)) ?_)
    refine nil ?_
    refine pN ?_
    refine ret ?_
    refine done rfl (.tmp rfl .nil) (retOE (by repeat first | exact List.Mem.head _ | apply List.Mem.tail) ?_)
    have e : xss.drop i.toNat = [] := List.drop_eq_nil_of_le (by omega)
    rw [e] at hy
    simpa using hy

theorem bytes_ok (v : UInt64) (n : Nat) (w : World) (hn : n ≤ 8) : Calls Try.prog 20 #[U64 v, I n] w (RetO w u8E (putB n v) 5) := by
  refine enter0 22 Try.func20 rfl rfl (Nat.le_of_ble_eq_true rfl) ?_
  refine seq ?_
  refine region ?_
  refine cons (opv (Ev.assign (.c (v := (Go.Value.slice none 0 0)) rfl)) ?_)
  refine nil ?_
  refine pN ?_
  refine seq ?_
  refine region ?_
  refine cons (opv (Ev.assign (.c (v := (Go.Value.slice none 0 0)) rfl)) ?_)
  refine takeNil u8E 5 ?_
  refine nil ?_
  refine pN ?_
  refine seq ?_
  refine seq ?_
  refine region ?_
  refine cons (opv (Ev.move (.t rfl)) ?_)
  refine cons (opv (Ev.sub_i (.t rfl) (.c (v := I 1) rfl) (fun _ => by omega)) ?_)
  refine cons (opv (Ev.assign (.t rfl)) ?_)
  refine nil ?_
  refine pN ?_
  refine block ?_
  refine loop (X := Int × OV × (List UInt8)) (fun x : Int × OV × (List UInt8) => (-1 ≤ x.1 ∧ x.1 ≤ n - 1) ∧ (x.2.2 ++ putB (x.1 + 1).toNat v = putB n v)) (fun x : Int × OV × (List UInt8) => [(0, true, U64 v), (5, true, x.2.1.v), (6, true, I x.1)]) (fun x : Int × OV × (List UInt8) => [OwnS x.2.1.v u8E x.2.2 5]) (fun x : Int × OV × (List UInt8) => (x.1 + 1).toNat) (_, nilSl, _) ⟨?_, ?_⟩ (by repeat first | exact Sub.nil | refine Sub.cons rfl ?_) (by repeat first | exact List.Sublist.refl _ | apply List.Sublist.cons_cons | apply List.Sublist.cons) (fun x hx => ?_)
  · omega
  · have e : ((n : Int) - 1 + 1).toNat = n := by omega
    simp only [e, List.nil_append]
  obtain ⟨i, o, ys⟩ := x
  obtain ⟨hi, hy⟩ : (-1 ≤ i ∧ i ≤ n - 1) ∧ (ys ++ putB (i + 1).toNat v = putB n v) := hx
  show Sat _ _ [(0, true, U64 v), (5, true, o.v), (6, true, I i)] [OwnS o.v u8E ys 5]
  have hyl : ys.length ≤ n := by
    have := congrArg List.length hy
    simp [putB_length] at this
    omega
  refine seq ?_
  refine seq ?_
  refine region ?_
  refine cons (opv (Ev.move (.t rfl)) ?_)
  refine cons (opv (Ev.geq_i (.t rfl) (.c (v := I 0) rfl)) ?_)
  refine nil ?_
  refine pN ?_
  first | refine condD rfl (fun h0 => ?_) (fun h0 => ?_) | refine cond rfl (fun h0 => ?_) (fun h0 => ?_)
  · try simp only [Bool.and_eq_true, Bool.or_eq_true, Bool.or_eq_false_iff, Bool.and_eq_false_iff, Bool.not_eq_true', Bool.not_eq_false', decide_eq_true_eq, decide_eq_false_iff_not, Decidable.not_not] at h0
    refine skip ?_
    refine pN ?_
    refine seq ?_
    refine block ?_
    refine region ?_
    refine cons (opv (Ev.move (.t rfl)) ?_)
    refine cons (opv (Ev.move (.t rfl)) ?_)
    refine cons (opv (Ev.move (.t rfl)) ?_)
    refine cons (opv (Ev.mul_i (.c (v := I 8) rfl) (.t rfl) (fun _ => by omega)) ?_)
    refine cons (opv (Ev.shr_u64 (.t rfl) (.t rfl) (fun _ => by omega)) ?_)
    refine cons (opv (Ev.conv_u64_u8 Try.underlying5 Try.underlying23 (.t rfl)) ?_)
    refine cons (buildSlice (E := u8E) Try.underlying22 ty5 z5 (.cons (.t rfl) .nil) rfl rfl (fun v1 => ?_))
    refine cons (append (E := u8E) Try.underlying22 ty5 rfl zb5 zs5 (.t rfl) (.t rfl) (fun _ => by repeat first | exact Upd.head | apply Upd.tail) (by first | exact isSl_own (by repeat first | exact List.Mem.head _ | apply List.Mem.tail) | exact fun w I => IsSl.keep0 (by assumption) I.keeps) (⟨by (show _ ≤ 9223372036854775807); first | omega | (simp; omega), by first | omega | (simp; omega)⟩) (fun v2 => ?_))
    refine cons (opv (Ev.assign (.t rfl)) ?_)
    refine nil ?_
    refine bN ?_
    refine pN ?_
    refine region ?_
    refine cons (opv (Ev.move (.t rfl)) ?_)
    refine cons (opv (Ev.sub_i (.t rfl) (.c (v := I 1) rfl) (fun _ => by omega)) ?_)
    refine cons (opv (Ev.assign (.t rfl)) ?_)
    refine nil ?_
    refine pN ?_
    refine next (X := Int × OV × (List UInt8)) (i - 1, _, _) ⟨?_, ?_⟩ ?_ (by repeat first | exact Sub.nil | refine Sub.cons rfl ?_) (by repeat first | exact List.Sublist.refl _ | apply List.Sublist.cons_cons | apply List.Sublist.cons)
    · try dsimp only
      omega
    · try dsimp only
      rw [← hy]
      have e : (i + 1).toNat = (i - 1 + 1).toNat + 1 := by omega
      have e3 : (8 * i).toNat = 8 * (i - 1 + 1).toNat := by omega
      rw [e, List.append_assoc, List.append_cancel_left_eq, e3]
      rfl
    · try dsimp only
      omega
  · try simp only [Bool.and_eq_true, Bool.or_eq_true, Bool.or_eq_false_iff, Bool.and_eq_false_iff, Bool.not_eq_true', Bool.not_eq_false', decide_eq_true_eq, decide_eq_false_iff_not, Decidable.not_not] at h0
    refine exit ?_
    refine pX ?_
    refine pX ?_
    refine bX ?_
    refine pN ?_
    refine seq ?_
    refine region ?_
    refine cons (opv (Ev.move (.t rfl)) ?_)
    refine cons (opv (Ev.assign (.t rfl)) ?_)
    refine nil ?_
    refine pN ?_
    refine ret ?_
    refine done rfl (.tmp rfl .nil) (retOE (by repeat first | exact List.Mem.head _ | apply List.Mem.tail) ?_)
    have e : (i + 1).toNat = 0 := by omega
    rw [e] at hy
    simpa [putB] using hy

/-- How many bits a byte has: the table. -/
def len8Tab : ByteArray := (ByteArray.mk (List.toArray (List.append (List.append [0, 1, 2, 2, 3, 3, 3, 3, 4, 4, 4, 4, 4, 4, 4, 4, 5, 5, 5, 5, 5, 5, 5, 5, 5, 5, 5, 5, 5, 5, 5, 5, 6, 6, 6, 6, 6, 6, 6, 6, 6, 6, 6, 6, 6, 6, 6, 6, 6, 6, 6, 6, 6, 6, 6, 6, 6, 6, 6, 6, 6, 6, 6, 6] [7, 7, 7, 7, 7, 7, 7, 7, 7, 7, 7, 7, 7, 7, 7, 7, 7, 7, 7, 7, 7, 7, 7, 7, 7, 7, 7, 7, 7, 7, 7, 7, 7, 7, 7, 7, 7, 7, 7, 7, 7, 7, 7, 7, 7, 7, 7, 7, 7, 7, 7, 7, 7, 7, 7, 7, 7, 7, 7, 7, 7, 7, 7, 7]) (List.append [8, 8, 8, 8, 8, 8, 8, 8, 8, 8, 8, 8, 8, 8, 8, 8, 8, 8, 8, 8, 8, 8, 8, 8, 8, 8, 8, 8, 8, 8, 8, 8, 8, 8, 8, 8, 8, 8, 8, 8, 8, 8, 8, 8, 8, 8, 8, 8, 8, 8, 8, 8, 8, 8, 8, 8, 8, 8, 8, 8, 8, 8, 8, 8] [8, 8, 8, 8, 8, 8, 8, 8, 8, 8, 8, 8, 8, 8, 8, 8, 8, 8, 8, 8, 8, 8, 8, 8, 8, 8, 8, 8, 8, 8, 8, 8, 8, 8, 8, 8, 8, 8, 8, 8, 8, 8, 8, 8, 8, 8, 8, 8, 8, 8, 8, 8, 8, 8, 8, 8, 8, 8, 8, 8, 8, 8, 8, 8]))))
def len8 (x : UInt8) : UInt8 := (len8Tab[x.toNat]?).getD 0
set_option maxRecDepth 100000 in
theorem len8_get (x : UInt8) : len8Tab[x.toNat]? = some (len8 x) := by
  have h : ∀ n : Fin 256, len8Tab[(UInt8.ofNat n.val).toNat]? = some (len8 (UInt8.ofNat n.val)) := by decide +kernel
  have := h ⟨x.toNat, x.toNat_lt⟩
  simpa using this
theorem len8_at (x : UInt8) : 0 ≤ (x.toNat : Int) ∧ len8Tab[(x.toNat : Int).toNat]? = some (len8 x) := ⟨by omega, len8_get x⟩
/-- A bit of bytes, the highest first. -/
def bitU (b : List UInt8) (i : Int) : UInt8 := shr8 (b.getD (i / 8).toNat 0) (7 - i % 8).toNat &&& 1
/-- Bits as a number. -/
def bitsV (b : List UInt8) (f : Int) : Nat → UInt64
  | 0 => 0
  | n + 1 => shl64 (bitsV b f n) 1 ||| (bitU b (f + n)).toUInt64
def bitsB (b : List UInt8) (f n : Int) : UInt64 × Int := if n < 0 ∨ 64 < n then (0, 2) else if f < 0 ∨ 8 * b.length - n < f then (0, 5) else (bitsV b f n.toNat, 0)
theorem getD_take (l : List UInt8) (m i : Nat) (h : i < m) : (l.take m).getD i 0 = l.getD i 0 := by
  simp [List.getD, List.getElem?_take, h]
/-- How many first bytes are alike. -/
def comI : List UInt8 → List UInt8 → Nat
  | x :: a, y :: b => if x = y then comI a b + 1 else 0
  | _, _ => 0
theorem comI_step (a b : List UInt8) (i : Nat) (h1 : i < a.length) (h2 : i < b.length) : comI (a.drop i) (b.drop i) = if a.getD i 0 = b.getD i 0 then comI (a.drop (i + 1)) (b.drop (i + 1)) + 1 else 0 := by
  rw [List.drop_eq_getElem_cons h1, List.drop_eq_getElem_cons h2]
  simp [comI, List.getD, h1, h2]
theorem comI_end (a b : List UInt8) (i : Nat) (h : a.length ≤ i ∨ b.length ≤ i) : comI (a.drop i) (b.drop i) = 0 := by
  rcases h with h | h
  · rw [List.drop_eq_nil_of_le h]
    simp [comI]
  · rw [List.drop_eq_nil_of_le h]
    cases a.drop i <;> simp [comI]
def commonB (a b : List UInt8) : Int := if (comI a b : Int) = min (a.length : Int) b.length then 8 * min (a.length : Int) b.length else 8 * (comI a b : Int) + (8 - ((len8 (a.getD (comI a b) 0 ^^^ b.getD (comI a b) 0)).toNat : Int))

theorem len8_ok (x : UInt8) (w : World) : Calls Try.prog 48 #[U8 x] w (RetV w (I (len8 x).toNat)) := by
  refine enter0 6 Try.func48 rfl rfl (Nat.le_of_ble_eq_true rfl) ?_
  refine seq ?_
  refine region ?_
  refine cons (opv (Ev.assign (.c (v := I 0) rfl)) ?_)
  refine nil ?_
  refine pN ?_
  refine seq ?_
  refine region ?_
  refine cons (opv (Ev.move (.t rfl)) ?_)
  refine cons (opv (Ev.indexS (b := len8 x) (s := len8Tab) Try.underlying9 (.c rfl) (.t rfl) (fun _ => len8_at x)) ?_)
  refine cons (opv (Ev.conv_u8_i Try.underlying3 Try.underlying5 (.t rfl)) ?_)
  refine cons (opv (Ev.assign (.t rfl)) ?_)
  refine nil ?_
  refine pN ?_
  refine ret ?_
  refine done rfl (.tmp rfl .nil) (retE ?_)
  rfl

theorem len8_le (x : UInt8) : (len8 x).toNat ≤ 8 := by
  have h : ∀ n : Fin 256, (len8 (UInt8.ofNat n.val)).toNat ≤ 8 := by decide +kernel
  have := h ⟨x.toNat, x.toNat_lt⟩
  simpa using this

theorem en48 : Enters Try.prog 48 := Enters.mk' (by kernel_rfl)

theorem lz8_ok (x : UInt8) (w : World) : Calls Try.prog 47 #[U8 x] w (RetV w (I (8 - ((len8 x).toNat : Int)))) := by
  have hx := len8_le x
  refine enter0 6 Try.func47 rfl rfl (Nat.le_of_ble_eq_true rfl) ?_
  refine seq ?_
  refine region ?_
  refine cons (opv (Ev.assign (.c (v := I 0) rfl)) ?_)
  refine nil ?_
  refine pN ?_
  refine seq ?_
  refine region ?_
  refine cons (opv (Ev.move (.t rfl)) ?_)
  refine cons (callv en48 (.cons (.t rfl) .nil) (fun w I => len8_ok _ w) ?_)
  refine cons (opv (Ev.sub_i (.c (v := I 8) rfl) (.t rfl) (fun _ => by omega)) ?_)
  refine cons (opv (Ev.assign (.t rfl)) ?_)
  refine nil ?_
  refine pN ?_
  refine ret ?_
  refine done rfl (.tmp rfl .nil) (retE ?_)
  rfl

theorem bits_ok (u : Value) (b : List UInt8) (f n : Int) (w : World) (hb : IsSl u8E w u b) (hl : b.length ≤ 1152921504606846975) (hf : Fit f) (hn : Fit n) : Calls Try.prog 36 #[u, I f, I n] w (RetV w (.tuple #[U64 (bitsB b f n).1, I (bitsB b f n).2])) := by
  have hbl := hb.le
  unfold Fit at hf hn
  refine enter0 51 Try.func36 rfl rfl (Nat.le_of_ble_eq_true rfl) ?_
  refine seq ?_
  refine region ?_
  refine cons (opv (Ev.assign (.c (v := U64 0) rfl)) ?_)
  refine cons (opv (Ev.assign (.c (v := I 0) rfl)) ?_)
  refine nil ?_
  refine pN ?_
  refine seq ?_
  refine seq ?_
  refine region ?_
  refine cons (opv (Ev.move (.t rfl)) ?_)
  refine cons (opv (Ev.lss_i (.t rfl) (.c (v := I 0) rfl)) ?_)
  refine cons (opv (Ev.move (.t rfl)) ?_)
  refine cons (opg rfl rfl (Ev.move (.t rfl)) ?_)
  refine cons (opg rfl rfl (Ev.gtr_i (.g rfl id) (.c (v := I 64) rfl)) ?_)
  refine cons (opv (Ev.pickO (.t rfl) (.c (v := .bool true) rfl) (fun {_} h => by cases h; rfl) ⟨_, rfl⟩ (by intro h1 h; first | (rw [h] <;> rfl) | (rw [h, h1] <;> rfl) | simp_all)) ?_)
  refine nil ?_
  refine pN ?_
  first | refine condD rfl (fun hbad => ?_) (fun hok => ?_) | refine cond rfl (fun hbad => ?_) (fun hok => ?_)
  · try simp only [Bool.and_eq_true, Bool.or_eq_true, Bool.or_eq_false_iff, Bool.and_eq_false_iff, Bool.not_eq_true', Bool.not_eq_false', decide_eq_true_eq, decide_eq_false_iff_not, Decidable.not_not] at hbad
    refine seq ?_
    refine region ?_
    refine cons (opv (Ev.assign (.c (v := U64 0) rfl)) ?_)
    refine cons (opv (Ev.assign (.c (v := I 2) rfl)) ?_)
    refine nil ?_
    refine pN ?_
    refine ret ?_
    refine pR ?_
    refine done rfl (.tmp rfl (.tmp rfl .nil)) (retE ?_)
    unfold bitsB; rw [if_pos hbad]; rfl
  · try simp only [Bool.and_eq_true, Bool.or_eq_true, Bool.or_eq_false_iff, Bool.and_eq_false_iff, Bool.not_eq_true', Bool.not_eq_false', decide_eq_true_eq, decide_eq_false_iff_not, Decidable.not_not] at hok
    refine skip ?_
    refine pN ?_
    refine seq ?_
    refine seq ?_
    refine region ?_
    refine cons (opv (Ev.move (.t rfl)) ?_)
    refine cons (opv (Ev.lss_i (.t rfl) (.c (v := I 0) rfl)) ?_)
    refine cons (opv (Ev.move (.t rfl)) ?_)
    refine cons (opg rfl rfl (Ev.move (.t rfl)) ?_)
    refine cons (opg rfl rfl (Ev.move (.t rfl)) ?_)
    refine cons (opg rfl rfl (Ev.len Try.underlying22 (.g rfl id) (by first | exact isSl_own (by repeat first | exact List.Mem.head _ | apply List.Mem.tail) | exact fun w I => IsSl.keep0 (by assumption) I.keeps)) ?_)
    refine cons (opg rfl rfl (Ev.mul_i (.c (v := I 8) rfl) (.g rfl id) (fun _ => by first | omega | (rename_i hg; simp at hg; omega))) ?_)
    refine cons (opg rfl rfl (Ev.move (.t rfl)) ?_)
    refine cons (opg rfl rfl (Ev.sub_i (.g rfl id) (.g rfl id) (fun _ => by first | omega | (rename_i hg; simp at hg; omega))) ?_)
    refine cons (opg rfl rfl (Ev.gtr_i (.g rfl id) (.g rfl id)) ?_)
    refine cons (opv (Ev.pickO (.t rfl) (.c (v := .bool true) rfl) (fun {_} h => by cases h; rfl) ⟨_, rfl⟩ (by intro h1 h; first | (rw [h] <;> rfl) | (rw [h, h1] <;> rfl) | simp_all)) ?_)
    refine nil ?_
    refine pN ?_
    first | refine condD rfl (fun hbad1 => ?_) (fun hok1 => ?_) | refine cond rfl (fun hbad1 => ?_) (fun hok1 => ?_)
    · try simp only [Bool.and_eq_true, Bool.or_eq_true, Bool.or_eq_false_iff, Bool.and_eq_false_iff, Bool.not_eq_true', Bool.not_eq_false', decide_eq_true_eq, decide_eq_false_iff_not, Decidable.not_not] at hbad1
      refine seq ?_
      refine region ?_
      refine cons (opv (Ev.assign (.c (v := U64 0) rfl)) ?_)
      refine cons (opv (Ev.assign (.c (v := I 5) rfl)) ?_)
      refine nil ?_
      refine pN ?_
      refine ret ?_
      refine pR ?_
      refine done rfl (.tmp rfl (.tmp rfl .nil)) (retE ?_)
      unfold bitsB; rw [if_neg (by omega), if_pos (by omega)]; rfl
    · try simp only [Bool.and_eq_true, Bool.or_eq_true, Bool.or_eq_false_iff, Bool.and_eq_false_iff, Bool.not_eq_true', Bool.not_eq_false', decide_eq_true_eq, decide_eq_false_iff_not, Decidable.not_not] at hok1
      refine skip ?_
      refine pN ?_
      refine seq ?_
      refine region ?_
      refine cons (opv (Ev.assign (.c (v := U64 0) rfl)) ?_)
      refine nil ?_
      refine pN ?_
      refine seq ?_
      refine seq ?_
      refine region ?_
      refine cons (opv (Ev.move (.t rfl)) ?_)
      refine cons (opv (Ev.assign (.t rfl)) ?_)
      refine nil ?_
      refine pN ?_
      refine block ?_
      refine loop (X := Int × UInt64) (fun x : Int × UInt64 => (f ≤ x.1 ∧ x.1 ≤ f + n) ∧ (x.2 = bitsV b f (x.1 - f).toNat)) (fun x : Int × UInt64 => [(0, true, u), (1, true, I f), (2, true, I n), (8, true, U64 x.2), (9, true, I x.1)]) (fun x : Int × UInt64 => []) (fun x : Int × UInt64 => (f + n - x.1).toNat) (_, 0) ⟨?_, ?_⟩ (by repeat first | exact Sub.nil | refine Sub.cons rfl ?_) (by repeat first | exact List.Sublist.refl _ | apply List.Sublist.cons_cons | apply List.Sublist.cons) (fun x hx => ?_)
      · omega
      · have e : (f - f).toNat = 0 := by omega
        rw [e]; rfl
      obtain ⟨i, v⟩ := x
      obtain ⟨hi, hv⟩ : (f ≤ i ∧ i ≤ f + n) ∧ (v = bitsV b f (i - f).toNat) := hx
      show Sat _ _ [(0, true, u), (1, true, I f), (2, true, I n), (8, true, U64 v), (9, true, I i)] []
      refine seq ?_
      refine seq ?_
      refine region ?_
      refine cons (opv (Ev.move (.t rfl)) ?_)
      refine cons (opv (Ev.move (.t rfl)) ?_)
      refine cons (opv (Ev.move (.t rfl)) ?_)
      refine cons (opv (Ev.add_i (.t rfl) (.t rfl) (fun _ => by omega)) ?_)
      refine cons (opv (Ev.lss_i (.t rfl) (.t rfl)) ?_)
      refine nil ?_
      refine pN ?_
      first | refine condD rfl (fun hlt => ?_) (fun hge => ?_) | refine cond rfl (fun hlt => ?_) (fun hge => ?_)
      · try simp only [Bool.and_eq_true, Bool.or_eq_true, Bool.or_eq_false_iff, Bool.and_eq_false_iff, Bool.not_eq_true', Bool.not_eq_false', decide_eq_true_eq, decide_eq_false_iff_not, Decidable.not_not] at hlt
        refine skip ?_
        refine pN ?_
        refine seq ?_
        refine block ?_
        refine seq ?_
        refine region ?_
        refine cons (opv (Ev.move (.t rfl)) ?_)
        refine cons (opv (Ev.shl_u64 (.t rfl) (.c rfl) (fun _ => by decide)) ?_)
        refine cons (opv (Ev.assign (.t rfl)) ?_)
        refine nil ?_
        refine pN ?_
        refine region ?_
        refine cons (opv (Ev.move (.t rfl)) ?_)
        refine cons (opv (Ev.move (.t rfl)) ?_)
        refine cons (opv (Ev.move (.t rfl)) ?_)
        refine cons (opv (Ev.quo_n (.t rfl) (.c (v := I 8) rfl) (fun _ => by omega) (fun _ => by omega) (fun _ => by omega)) ?_)
        refine cons (opv (Ev.indexAddr Try.underlying22 ty5 (.t rfl) (.t rfl) (by first | exact isSl_own (by repeat first | exact List.Mem.head _ | apply List.Mem.tail) | exact fun w I => IsSl.keep0 (by assumption) I.keeps) (fun _ => by omega)) ?_)
        refine cons (opv (Ev.loadS0 ty5 (.t rfl) (by first | exact isSl_own (by repeat first | exact List.Mem.head _ | apply List.Mem.tail) | exact fun w I => IsSl.keep0 (by assumption) I.keeps) (fun _ => by omega)) ?_)
        refine cons (opv (Ev.move (.t rfl)) ?_)
        refine cons (opv (Ev.rem_n (.t rfl) (.c (v := I 8) rfl) (fun _ => by omega) (fun _ => by omega)) ?_)
        refine cons (opv (Ev.sub_i (.c (v := I 7) rfl) (.t rfl) (fun _ => by omega)) ?_)
        refine cons (opv (Ev.shr_u8 (.t rfl) (.t rfl) (fun _ => by omega)) ?_)
        refine cons (opv (Ev.and_u8 (.t rfl) (.c (v := U8 1) rfl)) ?_)
        refine cons (opv (Ev.conv_u8_u64 Try.underlying23 Try.underlying5 (.t rfl)) ?_)
        refine cons (opv (Ev.or_u64 (.t rfl) (.t rfl)) ?_)
        refine cons (opv (Ev.assign (.t rfl)) ?_)
        refine nil ?_
        refine bN ?_
        refine pN ?_
        refine region ?_
        refine cons (opv (Ev.move (.t rfl)) ?_)
        refine cons (opv (Ev.add_i (.t rfl) (.c (v := I 1) rfl) (fun _ => by omega)) ?_)
        refine cons (opv (Ev.assign (.t rfl)) ?_)
        refine nil ?_
        refine pN ?_
        refine next (X := Int × UInt64) (i + 1, _) ⟨?_, ?_⟩ ?_ (by repeat first | exact Sub.nil | refine Sub.cons rfl ?_) (by repeat first | exact List.Sublist.refl _ | apply List.Sublist.cons_cons | apply List.Sublist.cons)
        · try dsimp only
          omega
        · try dsimp only
          have e : (i + 1 - f).toNat = (i - f).toNat + 1 := by omega
          have e2 : f + ((i - f).toNat : Int) = i := by omega
          rw [e]
          show _ = shl64 (bitsV b f (i - f).toNat) 1 ||| (bitU b (f + ((i - f).toNat : Int))).toUInt64
          rw [e2, ← hv]
          rfl
        · try dsimp only
          omega
      · try simp only [Bool.and_eq_true, Bool.or_eq_true, Bool.or_eq_false_iff, Bool.and_eq_false_iff, Bool.not_eq_true', Bool.not_eq_false', decide_eq_true_eq, decide_eq_false_iff_not, Decidable.not_not] at hge
        refine exit ?_
        refine pX ?_
        refine pX ?_
        refine bX ?_
        refine pN ?_
        refine seq ?_
        refine region ?_
        refine cons (opv (Ev.move (.t rfl)) ?_)
        refine cons (opv (Ev.assign (.t rfl)) ?_)
        refine cons (opv (Ev.assign (.c (v := I 0) rfl)) ?_)
        refine nil ?_
        refine pN ?_
        refine ret ?_
        refine done rfl (.tmp rfl (.tmp rfl .nil)) (retE ?_)
        have e : (i - f).toNat = n.toNat := by omega
        rw [e] at hv
        unfold bitsB; rw [if_neg (by omega), if_neg (by omega), ← hv]; rfl

theorem en47 : Enters Try.prog 47 := Enters.mk' (by kernel_rfl)

theorem common_ok (u v : Value) (a b : List UInt8) (w : World) (ha : IsSl u8E w u a) (hb : IsSl u8E w v b) (hl : a.length ≤ 1152921504606846974) : Calls Try.prog 37 #[u, v] w (RetV w (I (commonB a b))) := by
  have hal := ha.le
  have hbl := hb.le
  obtain ⟨m, hm⟩ : ∃ m : Nat, (min (a.length : Int) b.length) = (m : Int) := ⟨min a.length b.length, by omega⟩
  have hsa : IsSl u8E w (subS u8E.size u 0 m) (a.take m) := by
    have := ha.sub (l := 0) (k := m) (by omega) (by omega)
    simpa using this
  have hsb : IsSl u8E w (subS u8E.size v 0 m) (b.take m) := by
    have := hb.sub (l := 0) (k := m) (by omega) (by omega)
    simpa using this
  have hla : (a.take m).length = m := by simp; omega
  have hlb : (b.take m).length = m := by simp; omega
  refine enter0 52 Try.func37 rfl rfl (Nat.le_of_ble_eq_true rfl) ?_
  refine seq ?_
  refine region ?_
  refine cons (opv (Ev.assign (.c (v := I 0) rfl)) ?_)
  refine nil ?_
  refine pN ?_
  refine seq ?_
  refine region ?_
  refine cons (opv (Ev.move (.t rfl)) ?_)
  refine cons (opv (Ev.len Try.underlying22 (.t rfl) (by first | exact isSl_own (by repeat first | exact List.Mem.head _ | apply List.Mem.tail) | exact fun w I => IsSl.keep0 (by assumption) I.keeps)) ?_)
  refine cons (opv (Ev.move (.t rfl)) ?_)
  refine cons (opv (Ev.len Try.underlying22 (.t rfl) (by first | exact isSl_own (by repeat first | exact List.Mem.head _ | apply List.Mem.tail) | exact fun w I => IsSl.keep0 (by assumption) I.keeps)) ?_)
  refine cons (opv (Ev.to (v' := I ((m : Nat) : Int)) (Ev.min_i (.t rfl) (.t rfl)) (by rw [hm])) ?_)
  refine cons (opv (Ev.assign (.t rfl)) ?_)
  refine nil ?_
  refine pN ?_
  refine seq ?_
  refine draw' (by kernel_rfl) ?_
  refine take 0 rfl (by kernel_rfl) (by kernel_rfl) (by kernel_rfl) (by repeat first | exact List.Sublist.refl _ | apply List.Sublist.cons_cons | apply List.Sublist.cons) (Ev.move (.t rfl)) ?_
  refine take 1 rfl (by kernel_rfl) (by kernel_rfl) (by kernel_rfl) (by repeat first | exact List.Sublist.refl _ | apply List.Sublist.cons_cons | apply List.Sublist.cons) (Ev.move (.t rfl)) ?_
  refine take 2 rfl (by kernel_rfl) (by kernel_rfl) (by kernel_rfl) (by repeat first | exact List.Sublist.refl _ | apply List.Sublist.cons_cons | apply List.Sublist.cons) (Ev.sliceH Try.underlying22 ty5 (.t rfl) (.t rfl) (by first | exact isSl_own (by repeat first | exact List.Mem.head _ | apply List.Mem.tail) | exact fun w I => IsSl.keep0 (by assumption) I.keeps) (fun _ => by omega)) ?_
  refine take 3 rfl (by kernel_rfl) (by kernel_rfl) (by kernel_rfl) (by repeat first | exact List.Sublist.refl _ | apply List.Sublist.cons_cons | apply List.Sublist.cons) (Ev.move (.t rfl)) ?_
  refine take 4 rfl (by kernel_rfl) (by kernel_rfl) (by kernel_rfl) (by repeat first | exact List.Sublist.refl _ | apply List.Sublist.cons_cons | apply List.Sublist.cons) (Ev.move (.t rfl)) ?_
  refine take 5 rfl (by kernel_rfl) (by kernel_rfl) (by kernel_rfl) (by repeat first | exact List.Sublist.refl _ | apply List.Sublist.cons_cons | apply List.Sublist.cons) (Ev.sliceH Try.underlying22 ty5 (.t rfl) (.t rfl) (by first | exact isSl_own (by repeat first | exact List.Mem.head _ | apply List.Mem.tail) | exact fun w I => IsSl.keep0 (by assumption) I.keeps) (fun _ => by omega)) ?_
  refine take 6 rfl (by kernel_rfl) (by kernel_rfl) (by kernel_rfl) (by repeat first | exact List.Sublist.refl _ | apply List.Sublist.cons_cons | apply List.Sublist.cons) (Ev.assign (.t rfl)) ?_
  refine take 7 rfl (by kernel_rfl) (by kernel_rfl) (by kernel_rfl) (by repeat first | exact List.Sublist.refl _ | apply List.Sublist.cons_cons | apply List.Sublist.cons) (Ev.assign (.t rfl)) ?_
  refine over (by kernel_rfl) ?_
  refine pN ?_
  refine seq ?_
  refine region ?_
  refine cons (opv (Ev.assign (.c (v := I 0) rfl)) ?_)
  refine nil ?_
  refine pN ?_
  refine seq ?_
  refine block ?_
  refine loop (X := Int) (fun x : Int => (0 ≤ x ∧ x ≤ m) ∧ ((comI a b : Int) = x + comI (a.drop x.toNat) (b.drop x.toNat))) (fun x : Int => [(0, true, subS u8E.size u 0 m), (1, true, subS u8E.size v 0 m), (5, true, I m), (6, true, I x)]) (fun x : Int => []) (fun x : Int => (m - x).toNat) (0) ⟨?_, ?_⟩ (by repeat first | exact Sub.nil | refine Sub.cons rfl ?_) (by repeat first | exact List.Sublist.refl _ | apply List.Sublist.cons_cons | apply List.Sublist.cons) (fun x hx => ?_)
  · omega
  · simp
  obtain ⟨i, rfl⟩ : ∃ y, y = x := ⟨x, rfl⟩
  obtain ⟨hi, hc⟩ : (0 ≤ i ∧ i ≤ m) ∧ ((comI a b : Int) = i + comI (a.drop i.toNat) (b.drop i.toNat)) := hx
  show Sat _ _ [(0, true, subS u8E.size u 0 m), (1, true, subS u8E.size v 0 m), (5, true, I m), (6, true, I i)] []
  refine seq ?_
  refine seq ?_
  refine draw' (by kernel_rfl) ?_
  refine take 0 rfl (by kernel_rfl) (by kernel_rfl) (by kernel_rfl) (by repeat first | exact List.Sublist.refl _ | apply List.Sublist.cons_cons | apply List.Sublist.cons) (Ev.move (.t rfl)) ?_
  refine take 1 rfl (by kernel_rfl) (by kernel_rfl) (by kernel_rfl) (by repeat first | exact List.Sublist.refl _ | apply List.Sublist.cons_cons | apply List.Sublist.cons) (Ev.move (.t rfl)) ?_
  refine take 2 rfl (by kernel_rfl) (by kernel_rfl) (by kernel_rfl) (by repeat first | exact List.Sublist.refl _ | apply List.Sublist.cons_cons | apply List.Sublist.cons) (Ev.lss_i (.t rfl) (.t rfl)) ?_
  refine take 3 rfl (by kernel_rfl) (by kernel_rfl) (by kernel_rfl) (by repeat first | exact List.Sublist.refl _ | apply List.Sublist.cons_cons | apply List.Sublist.cons) (Ev.move (.t rfl)) ?_
  refine takeg 4 rfl (by kernel_rfl) (by kernel_rfl) (by kernel_rfl) (by repeat first | exact List.Sublist.refl _ | apply List.Sublist.cons_cons | apply List.Sublist.cons) rfl rfl (Ev.move (.t rfl)) ?_
  refine takeg 5 rfl (by kernel_rfl) (by kernel_rfl) (by kernel_rfl) (by repeat first | exact List.Sublist.refl _ | apply List.Sublist.cons_cons | apply List.Sublist.cons) rfl rfl (Ev.move (.t rfl)) ?_
  refine takeg 6 rfl (by kernel_rfl) (by kernel_rfl) (by kernel_rfl) (by repeat first | exact List.Sublist.refl _ | apply List.Sublist.cons_cons | apply List.Sublist.cons) rfl rfl (Ev.indexAddr Try.underlying22 ty5 (.g rfl id) (.g rfl id) (fun w I => hsa.keep0 I.keeps) (fun _ => by first | omega | (rename_i hg; simp at hg; omega))) ?_
  refine takeg 7 rfl (by kernel_rfl) (by kernel_rfl) (by kernel_rfl) (by repeat first | exact List.Sublist.refl _ | apply List.Sublist.cons_cons | apply List.Sublist.cons) rfl rfl (Ev.loadS0 ty5 (.g rfl id) (fun w I => hsa.keep0 I.keeps) (fun _ => by first | omega | (rename_i hg; simp at hg; omega))) ?_
  refine takeg 8 rfl (by kernel_rfl) (by kernel_rfl) (by kernel_rfl) (by repeat first | exact List.Sublist.refl _ | apply List.Sublist.cons_cons | apply List.Sublist.cons) rfl rfl (Ev.move (.t rfl)) ?_
  refine takeg 9 rfl (by kernel_rfl) (by kernel_rfl) (by kernel_rfl) (by repeat first | exact List.Sublist.refl _ | apply List.Sublist.cons_cons | apply List.Sublist.cons) rfl rfl (Ev.move (.t rfl)) ?_
  refine takeg 10 rfl (by kernel_rfl) (by kernel_rfl) (by kernel_rfl) (by repeat first | exact List.Sublist.refl _ | apply List.Sublist.cons_cons | apply List.Sublist.cons) rfl rfl (Ev.indexAddr Try.underlying22 ty5 (.g rfl id) (.g rfl id) (fun w I => hsb.keep0 I.keeps) (fun _ => by first | omega | (rename_i hg; simp at hg; omega))) ?_
  refine takeg 11 rfl (by kernel_rfl) (by kernel_rfl) (by kernel_rfl) (by repeat first | exact List.Sublist.refl _ | apply List.Sublist.cons_cons | apply List.Sublist.cons) rfl rfl (Ev.loadS0 ty5 (.g rfl id) (fun w I => hsb.keep0 I.keeps) (fun _ => by first | omega | (rename_i hg; simp at hg; omega))) ?_
  refine takeg 12 rfl (by kernel_rfl) (by kernel_rfl) (by kernel_rfl) (by repeat first | exact List.Sublist.refl _ | apply List.Sublist.cons_cons | apply List.Sublist.cons) rfl rfl (Ev.eql_u8 (.g rfl id) (.g rfl id)) ?_
  refine take 13 rfl (by kernel_rfl) (by kernel_rfl) (by kernel_rfl) (by repeat first | exact List.Sublist.refl _ | apply List.Sublist.cons_cons | apply List.Sublist.cons) (Ev.pickA (.t rfl) (fun {_} h => by cases h; rfl) ⟨_, rfl⟩ (by intro h1 h; first | (rw [h] <;> rfl) | (rw [h, h1] <;> rfl) | simp_all) (.c (v := .bool false) rfl)) ?_
  refine over (by kernel_rfl) ?_
  refine pN ?_
  first | refine condD rfl (fun hlt => ?_) (fun hge => ?_) | refine cond rfl (fun hlt => ?_) (fun hge => ?_)
  · try simp only [Bool.and_eq_true, Bool.or_eq_true, Bool.or_eq_false_iff, Bool.and_eq_false_iff, Bool.not_eq_true', Bool.not_eq_false', decide_eq_true_eq, decide_eq_false_iff_not, Decidable.not_not] at hlt
    refine skip ?_
    refine pN ?_
    refine block ?_
    refine region ?_
    refine cons (opv (Ev.move (.t rfl)) ?_)
    refine cons (opv (Ev.add_i (.t rfl) (.c (v := I 1) rfl) (fun _ => by omega)) ?_)
    refine cons (opv (Ev.assign (.t rfl)) ?_)
    refine nil ?_
    refine bN ?_
    refine pN ?_
    refine next (X := Int) (i + 1) ⟨?_, ?_⟩ ?_ (by repeat first | exact Sub.nil | refine Sub.cons rfl ?_) (by repeat first | exact List.Sublist.refl _ | apply List.Sublist.cons_cons | apply List.Sublist.cons)
    · try dsimp only
      omega
    · try dsimp only
      have hst := comI_step a b i.toNat (by omega) (by omega)
      have ga := getD_take a m i.toNat (by omega)
      have gb := getD_take b m i.toNat (by omega)
      have hq : a.getD i.toNat 0 = b.getD i.toNat 0 := ga.symm.trans (hlt.2.trans gb)
      rw [if_pos hq] at hst
      have e : (i + 1).toNat = i.toNat + 1 := by omega
      rw [e]; omega
    · try dsimp only
      omega
  · try simp only [Bool.and_eq_true, Bool.or_eq_true, Bool.or_eq_false_iff, Bool.and_eq_false_iff, Bool.not_eq_true', Bool.not_eq_false', decide_eq_true_eq, decide_eq_false_iff_not, Decidable.not_not] at hge
    refine exit ?_
    refine pX ?_
    refine pX ?_
    refine bX ?_
    refine pN ?_
    refine seq ?_
    refine seq ?_
    refine region ?_
    refine cons (opv (Ev.move (.t rfl)) ?_)
    refine cons (opv (Ev.move (.t rfl)) ?_)
    refine cons (opv (Ev.eql_i (.t rfl) (.t rfl)) ?_)
    refine nil ?_
    refine pN ?_
    first | refine condD rfl (fun heq => ?_) (fun hne => ?_) | refine cond rfl (fun heq => ?_) (fun hne => ?_)
    · try simp only [Bool.and_eq_true, Bool.or_eq_true, Bool.or_eq_false_iff, Bool.and_eq_false_iff, Bool.not_eq_true', Bool.not_eq_false', decide_eq_true_eq, decide_eq_false_iff_not, Decidable.not_not] at heq
      refine seq ?_
      refine region ?_
      refine cons (opv (Ev.move (.t rfl)) ?_)
      refine cons (opv (Ev.mul_i (.c (v := I 8) rfl) (.t rfl) (fun _ => by omega)) ?_)
      refine cons (opv (Ev.assign (.t rfl)) ?_)
      refine nil ?_
      refine pN ?_
      refine ret ?_
      refine pR ?_
      refine done rfl (.tmp rfl .nil) (retE ?_)
      have hst := comI_end a b i.toNat (by omega)
      unfold commonB
      rw [if_pos (by omega), ← hm]; rfl
    · try simp only [Bool.and_eq_true, Bool.or_eq_true, Bool.or_eq_false_iff, Bool.and_eq_false_iff, Bool.not_eq_true', Bool.not_eq_false', decide_eq_true_eq, decide_eq_false_iff_not, Decidable.not_not] at hne
      have hq : ¬ a.getD i.toNat 0 = b.getD i.toNat 0 := fun hq => by
        have ga := getD_take a m i.toNat (by omega)
        have gb := getD_take b m i.toNat (by omega)
        have hq2 := ga.trans (hq.trans gb.symm)
        rcases hge with h | h
        · omega
        · exact h hq2
      have hst := comI_step a b i.toNat (by omega) (by omega)
      rw [if_neg hq] at hst
      have hci : comI a b = i.toNat := by omega
      refine skip ?_
      refine pN ?_
      refine seq ?_
      refine draw' (by kernel_rfl) ?_
      refine take 0 rfl (by kernel_rfl) (by kernel_rfl) (by kernel_rfl) (by repeat first | exact List.Sublist.refl _ | apply List.Sublist.cons_cons | apply List.Sublist.cons) (Ev.move (.t rfl)) ?_
      refine take 1 rfl (by kernel_rfl) (by kernel_rfl) (by kernel_rfl) (by repeat first | exact List.Sublist.refl _ | apply List.Sublist.cons_cons | apply List.Sublist.cons) (Ev.mul_i (.c (v := I 8) rfl) (.t rfl) (fun _ => by omega)) ?_
      refine take 2 rfl (by kernel_rfl) (by kernel_rfl) (by kernel_rfl) (by repeat first | exact List.Sublist.refl _ | apply List.Sublist.cons_cons | apply List.Sublist.cons) (Ev.move (.t rfl)) ?_
      refine take 3 rfl (by kernel_rfl) (by kernel_rfl) (by kernel_rfl) (by repeat first | exact List.Sublist.refl _ | apply List.Sublist.cons_cons | apply List.Sublist.cons) (Ev.move (.t rfl)) ?_
      refine take 4 rfl (by kernel_rfl) (by kernel_rfl) (by kernel_rfl) (by repeat first | exact List.Sublist.refl _ | apply List.Sublist.cons_cons | apply List.Sublist.cons) (Ev.indexAddr Try.underlying22 ty5 (.t rfl) (.t rfl) (fun w I => hsa.keep0 I.keeps) (fun _ => by omega)) ?_
      refine take 5 rfl (by kernel_rfl) (by kernel_rfl) (by kernel_rfl) (by repeat first | exact List.Sublist.refl _ | apply List.Sublist.cons_cons | apply List.Sublist.cons) (Ev.loadS0 ty5 (.t rfl) (fun w I => hsa.keep0 I.keeps) (fun _ => by omega)) ?_
      refine take 6 rfl (by kernel_rfl) (by kernel_rfl) (by kernel_rfl) (by repeat first | exact List.Sublist.refl _ | apply List.Sublist.cons_cons | apply List.Sublist.cons) (Ev.move (.t rfl)) ?_
      refine take 7 rfl (by kernel_rfl) (by kernel_rfl) (by kernel_rfl) (by repeat first | exact List.Sublist.refl _ | apply List.Sublist.cons_cons | apply List.Sublist.cons) (Ev.move (.t rfl)) ?_
      refine take 8 rfl (by kernel_rfl) (by kernel_rfl) (by kernel_rfl) (by repeat first | exact List.Sublist.refl _ | apply List.Sublist.cons_cons | apply List.Sublist.cons) (Ev.indexAddr Try.underlying22 ty5 (.t rfl) (.t rfl) (fun w I => hsb.keep0 I.keeps) (fun _ => by omega)) ?_
      refine take 9 rfl (by kernel_rfl) (by kernel_rfl) (by kernel_rfl) (by repeat first | exact List.Sublist.refl _ | apply List.Sublist.cons_cons | apply List.Sublist.cons) (Ev.loadS0 ty5 (.t rfl) (fun w I => hsb.keep0 I.keeps) (fun _ => by omega)) ?_
      refine take 10 rfl (by kernel_rfl) (by kernel_rfl) (by kernel_rfl) (by repeat first | exact List.Sublist.refl _ | apply List.Sublist.cons_cons | apply List.Sublist.cons) (Ev.xor_u8 (.t rfl) (.t rfl)) ?_
      refine all [11] (by kernel_rfl) (by decide) (.cons rfl ?_ .nil)
      refine (callv en47 (.cons (.t rfl) .nil) (fun w I => lz8_ok _ w) ?_)
      refine heldN_of (by repeat first | exact List.Sublist.refl _ | apply List.Sublist.cons_cons | apply List.Sublist.cons) ?_
      refine take 12 rfl (by kernel_rfl) (by kernel_rfl) (by kernel_rfl) (by repeat first | exact List.Sublist.refl _ | apply List.Sublist.cons_cons | apply List.Sublist.cons) (Ev.add_i (.t rfl) (.t rfl) (fun _ => by have h8 := len8_le ((List.take m a).getD i.toNat u8E.zero ^^^ (List.take m b).getD i.toNat u8E.zero); omega)) ?_
      refine take 13 rfl (by kernel_rfl) (by kernel_rfl) (by kernel_rfl) (by repeat first | exact List.Sublist.refl _ | apply List.Sublist.cons_cons | apply List.Sublist.cons) (Ev.assign (.t rfl)) ?_
      refine over (by kernel_rfl) ?_
      refine pN ?_
      refine ret ?_
      refine done rfl (.tmp rfl .nil) (retE ?_)
      unfold commonB
      rw [if_neg (by omega), hci]
      have ga := getD_take a m i.toNat (by omega)
      have gb := getD_take b m i.toNat (by omega)
      have ei : (i.toNat : Int) = i := by omega
      rw [ei, ← ga, ← gb]; rfl
end Go.Proofs.Ytcmpdhggeilkfaa
