/- trie -/
import Derived.Test.YtjjlofjpdklbgaaRows
import Derived.Test.YtjjlofjpdklbgaaGxY
set_option linter.unusedVariables false
set_option linter.unusedSimpArgs false
namespace Go.Proofs.Ytjjlofjpdklbgaa
open Go Go.Gx

/-- How many bits a byte has: the table. -/
def len8Tab : ByteArray := (ByteArray.mk (List.toArray (List.append (List.append [0, 1, 2, 2, 3, 3, 3, 3, 4, 4, 4, 4, 4, 4, 4, 4, 5, 5, 5, 5, 5, 5, 5, 5, 5, 5, 5, 5, 5, 5, 5, 5, 6, 6, 6, 6, 6, 6, 6, 6, 6, 6, 6, 6, 6, 6, 6, 6, 6, 6, 6, 6, 6, 6, 6, 6, 6, 6, 6, 6, 6, 6, 6, 6] [7, 7, 7, 7, 7, 7, 7, 7, 7, 7, 7, 7, 7, 7, 7, 7, 7, 7, 7, 7, 7, 7, 7, 7, 7, 7, 7, 7, 7, 7, 7, 7, 7, 7, 7, 7, 7, 7, 7, 7, 7, 7, 7, 7, 7, 7, 7, 7, 7, 7, 7, 7, 7, 7, 7, 7, 7, 7, 7, 7, 7, 7, 7, 7]) (List.append [8, 8, 8, 8, 8, 8, 8, 8, 8, 8, 8, 8, 8, 8, 8, 8, 8, 8, 8, 8, 8, 8, 8, 8, 8, 8, 8, 8, 8, 8, 8, 8, 8, 8, 8, 8, 8, 8, 8, 8, 8, 8, 8, 8, 8, 8, 8, 8, 8, 8, 8, 8, 8, 8, 8, 8, 8, 8, 8, 8, 8, 8, 8, 8] [8, 8, 8, 8, 8, 8, 8, 8, 8, 8, 8, 8, 8, 8, 8, 8, 8, 8, 8, 8, 8, 8, 8, 8, 8, 8, 8, 8, 8, 8, 8, 8, 8, 8, 8, 8, 8, 8, 8, 8, 8, 8, 8, 8, 8, 8, 8, 8, 8, 8, 8, 8, 8, 8, 8, 8, 8, 8, 8, 8, 8, 8, 8, 8]))))
def len8 (x : UInt8) : UInt8 := (len8Tab[x.toNat]?).getD 0
set_option maxRecDepth 100000 in
theorem len8_get (x : UInt8) : len8Tab[x.toNat]? = some (len8 x) := by
  have h : ∀ n : Fin 256, len8Tab[(UInt8.ofNat n.val).toNat]? = some (len8 (UInt8.ofNat n.val)) := by decide +kernel
  have := h ⟨x.toNat, x.toNat_lt⟩
  simpa using this
theorem len8_at (x : UInt8) : 0 ≤ (x.toNat : Int) ∧ len8Tab[(x.toNat : Int).toNat]? = some (len8 x) := ⟨by omega, len8_get x⟩
/-- A bit of bytes, the highest first. -/
def bitU (b : List UInt8) (i : Int) : UInt8 := shr8 (b.getD (i / 8).toNat 0) (7 - i % 8).toNat &&& 1
/-- Bits as a number. -/
def bitsV (b : List UInt8) (f : Int) : Nat → UInt64
  | 0 => 0
  | n + 1 => shl64 (bitsV b f n) 1 ||| (bitU b (f + n)).toUInt64
def bitsB (b : List UInt8) (f n : Int) : UInt64 × Int := if n < 0 ∨ 64 < n then (0, 2) else if f < 0 ∨ 8 * b.length - n < f then (0, 5) else (bitsV b f n.toNat, 0)
theorem getD_take (l : List UInt8) (m i : Nat) (h : i < m) : (l.take m).getD i 0 = l.getD i 0 := by
  simp [List.getD, List.getElem?_take, h]
/-- How many first bytes are alike. -/
def comI : List UInt8 → List UInt8 → Nat
  | x :: a, y :: b => if x = y then comI a b + 1 else 0
  | _, _ => 0
theorem comI_step (a b : List UInt8) (i : Nat) (h1 : i < a.length) (h2 : i < b.length) : comI (a.drop i) (b.drop i) = if a.getD i 0 = b.getD i 0 then comI (a.drop (i + 1)) (b.drop (i + 1)) + 1 else 0 := by
  rw [List.drop_eq_getElem_cons h1, List.drop_eq_getElem_cons h2]
  simp [comI, List.getD, h1, h2]
theorem comI_end (a b : List UInt8) (i : Nat) (h : a.length ≤ i ∨ b.length ≤ i) : comI (a.drop i) (b.drop i) = 0 := by
  rcases h with h | h
  · rw [List.drop_eq_nil_of_le h]
    simp [comI]
  · rw [List.drop_eq_nil_of_le h]
    cases a.drop i <;> simp [comI]
def commonB (a b : List UInt8) : Int := if (comI a b : Int) = min (a.length : Int) b.length then 8 * min (a.length : Int) b.length else 8 * (comI a b : Int) + (8 - ((len8 (a.getD (comI a b) 0 ^^^ b.getD (comI a b) 0)).toNat : Int))

theorem len8_ok (x : UInt8) (w : World) : Calls Try.prog 73 #[U8 x] w (RetV w (I (len8 x).toNat)) := by
  refine enter0 6 Try.func73 rfl rfl (Nat.le_of_ble_eq_true rfl) ?_
  refine seq (region (cons (opv (Ev.assign (.c (v := I 0) rfl)) ?_)))
  refine nil (pN (seq (region (cons (opv (Ev.move (.t rfl)) (cons (opv (Ev.indexS (b := len8 x) (s := len8Tab) Try.underlying9 (.c rfl) (.t rfl) (fun _ => len8_at x)) ?_)))))))
  refine cons (opv (Ev.conv_u8_i Try.underlying3 Try.underlying5 (.t rfl)) ?_)
  refine cons (opv (Ev.assign (.t rfl)) (nil (pN (ret (done rfl (.tmp rfl .nil) (retE ?_))))))
  rfl

theorem len8_le (x : UInt8) : (len8 x).toNat ≤ 8 := by
      have h : ∀ n : Fin 256, (len8 (UInt8.ofNat n.val)).toNat ≤ 8 := by decide +kernel
      have := h ⟨x.toNat, x.toNat_lt⟩
      simpa using this

theorem en73 : Gx.Enters Try.prog 73 := Gx.Enters.mk' (by kernel_rfl)

theorem lz8_ok (x : UInt8) (w : World) : Calls Try.prog 60 #[U8 x] w (RetV w (I (8 - ((len8 x).toNat : Int)))) := by
  have hx := len8_le x
  refine enter0 6 Try.func60 rfl rfl (Nat.le_of_ble_eq_true rfl) ?_
  refine seq (region (cons (opv (Ev.assign (.c (v := I 0) rfl)) ?_)))
  refine nil (pN (seq (region (cons (opv (Ev.move (.t rfl)) (cons (callv en73 (.cons (.t rfl) .nil) (fun w I => len8_ok _ w) ?_)))))))
  refine cons (opv (Ev.sub_i (.c (v := I 8) rfl) (.t rfl) (fun _ => by omega)) ?_)
  refine cons (opv (Ev.assign (.t rfl)) (nil (pN (ret (done rfl (.tmp rfl .nil) (retE ?_))))))
  rfl

theorem ty5 : TyOK Try.prog 5 u8E := TyOK.mk' (by kernel_rfl) (by kernel_rfl)

theorem en60 : Gx.Enters Try.prog 60 := Gx.Enters.mk' (by kernel_rfl)

theorem common_ok (u v : Value) (a b : List UInt8) (w : World) (ha : IsSl u8E w u a) (hb : IsSl u8E w v b) (hl : a.length ≤ 1152921504606846974) : Calls Try.prog 41 #[u, v] w (RetV w (I (commonB a b))) := by
  have hal := ha.le
  have hbl := hb.le
  obtain ⟨m, hm⟩ : ∃ m : Nat, (min (a.length : Int) b.length) = (m : Int) := ⟨min a.length b.length, by omega⟩
  have hsa : IsSl u8E w (subS u8E.size u 0 m) (a.take m) := by
    have := ha.sub (l := 0) (k := m) (by omega) (by omega)
    simpa using this
  have hsb : IsSl u8E w (subS u8E.size v 0 m) (b.take m) := by
    have := hb.sub (l := 0) (k := m) (by omega) (by omega)
    simpa using this
  have hla : (a.take m).length = m := by simp; omega
  have hlb : (b.take m).length = m := by simp; omega
  refine enter0 52 Try.func41 rfl rfl (Nat.le_of_ble_eq_true rfl) ?_
  refine seq (region (cons (opv (Ev.assign (.c (v := I 0) rfl)) ?_)))
  refine nil (pN (seq (region (cons (opv (Ev.move (.t rfl)) (cons (opv (Ev.len Try.underlying94 (.t rfl) (by first | exact isSl_own (by repeat first | exact mH | apply mT | apply mA) | exact fun w I => IsSl.keep0 (by assumption) I.keeps)) ?_)))))))
  refine cons (opv (Ev.move (.t rfl)) (cons (opv (Ev.len Try.underlying94 (.t rfl) (by first | exact isSl_own (by repeat first | exact mH | apply mT | apply mA) | exact fun w I => IsSl.keep0 (by assumption) I.keeps)) ?_)))
  refine cons (opv (Ev.to (v' := I ((m : Nat) : Int)) (Ev.min_i (.t rfl) (.t rfl)) (by rw [hm])) ?_)
  refine cons (opv (Ev.assign (.t rfl)) (nil (pN (seq (draw' (by kernel_rfl) ?_)))))
  refine tk 0 rfl (Ev.move (.t rfl)) ?_
  refine tk 1 rfl (Ev.move (.t rfl)) ?_
  refine tk 2 rfl (Ev.sliceH Try.underlying94 ty5 (.t rfl) (.t rfl) (by first | exact isSl_own (by repeat first | exact mH | apply mT | apply mA) | exact fun w I => IsSl.keep0 (by assumption) I.keeps) (fun _ => by omega)) ?_
  refine tk 3 rfl (Ev.move (.t rfl)) ?_
  refine tk 4 rfl (Ev.move (.t rfl)) ?_
  refine tk 5 rfl (Ev.sliceH Try.underlying94 ty5 (.t rfl) (.t rfl) (by first | exact isSl_own (by repeat first | exact mH | apply mT | apply mA) | exact fun w I => IsSl.keep0 (by assumption) I.keeps) (fun _ => by omega)) ?_
  refine tk 6 rfl (Ev.assign (.t rfl)) ?_
  refine tk 7 rfl (Ev.assign (.t rfl)) ?_
  refine ovr (pN (seq (region (cons (opv (Ev.assign (.c (v := I 0) rfl)) ?_)))))
  refine nil (pN (seq (block (lp (X := Int) (fun x : Int => (0 ≤ x ∧ x ≤ m) ∧ ((comI a b : Int) = x + comI (a.drop x.toNat) (b.drop x.toNat))) (fun x : Int => [dz, (0, true, subS u8E.size u 0 m), (1, true, subS u8E.size v 0 m), (5, true, I m), (6, true, I x)]) (fun x : Int => []) (fun x : Int => (m - x).toNat) (0) ⟨?_, ?_⟩ (fun x hx => ?_)))))
  · omega
  · simp
  obtain ⟨i, rfl⟩ : ∃ y, y = x := ⟨x, rfl⟩
  obtain ⟨hi, hc⟩ : (0 ≤ i ∧ i ≤ m) ∧ ((comI a b : Int) = i + comI (a.drop i.toNat) (b.drop i.toNat)) := hx
  show Sat _ _ [dz, (0, true, subS u8E.size u 0 m), (1, true, subS u8E.size v 0 m), (5, true, I m), (6, true, I i)] []
  refine seq (seq (draw' (by kernel_rfl) ?_))
  refine tk 0 rfl (Ev.move (.t rfl)) ?_
  refine tk 1 rfl (Ev.move (.t rfl)) ?_
  refine tk 2 rfl (Ev.lss_i (.t rfl) (.t rfl)) ?_
  refine tk 3 rfl (Ev.move (.t rfl)) ?_
  refine tkg 4 rfl rfl rfl (Ev.move (.t rfl)) ?_
  refine tkg 5 rfl rfl rfl (Ev.move (.t rfl)) ?_
  refine tkg 6 rfl rfl rfl (Ev.indexAddr Try.underlying94 ty5 (.g rfl id) (.g rfl id) (fun w I => hsa.keep0 I.keeps) (fun _ => by first | omega | (rename_i hg; simp at hg; omega))) ?_
  refine tkg 7 rfl rfl rfl (Ev.loadS0 ty5 (.g rfl id) (fun w I => hsa.keep0 I.keeps) (fun _ => by first | omega | (rename_i hg; simp at hg; omega))) ?_
  refine tkg 8 rfl rfl rfl (Ev.move (.t rfl)) ?_
  refine tkg 9 rfl rfl rfl (Ev.move (.t rfl)) ?_
  refine tkg 10 rfl rfl rfl (Ev.indexAddr Try.underlying94 ty5 (.g rfl id) (.g rfl id) (fun w I => hsb.keep0 I.keeps) (fun _ => by first | omega | (rename_i hg; simp at hg; omega))) ?_
  refine tkg 11 rfl rfl rfl (Ev.loadS0 ty5 (.g rfl id) (fun w I => hsb.keep0 I.keeps) (fun _ => by first | omega | (rename_i hg; simp at hg; omega))) ?_
  refine tkg 12 rfl rfl rfl (Ev.eql_u8 (.g rfl id) (.g rfl id)) ?_
  refine tk 13 rfl (Ev.pickA (.t rfl) (fun {_} h => by cases h; rfl) ⟨_, rfl⟩ (by intro h1 h; first | (rw [h] <;> rfl) | (rw [h1, h] <;> rfl) | (rw [h, h1] <;> rfl) | simp_all) (.c (v := .bool false) rfl)) ?_
  refine ovr (pN ?_)
  first | refine condD rfl (fun hlt => ?_) (fun hge => ?_) | refine cond rfl (fun hlt => ?_) (fun hge => ?_)
  · try simp only [nb] at hlt
    refine skip (pN (block (region (cons (opv (Ev.move (.t rfl)) (cons (opv (Ev.add_i (.t rfl) (.c (v := I 1) rfl) (fun _ => by omega)) ?_)))))))
    refine cons (opv (Ev.assign (.t rfl)) (nil (bN (pN (nx (X := Int) (i + 1) ⟨?_, ?_⟩ ?_)))))
    · try dsimp only
      omega
    · try dsimp only
      have hst := comI_step a b i.toNat (by omega) (by omega)
      have ga := getD_take a m i.toNat (by omega)
      have gb := getD_take b m i.toNat (by omega)
      have hq : a.getD i.toNat 0 = b.getD i.toNat 0 := ga.symm.trans (hlt.2.trans gb)
      rw [if_pos hq] at hst
      have e : (i + 1).toNat = i.toNat + 1 := by omega
      rw [e]; omega
    · try dsimp only
      omega
  · try simp only [nb] at hge
    refine exit (pX (pX (bX (pN (seq (seq (region (cons (opv (Ev.move (.t rfl)) (cons (opv (Ev.move (.t rfl)) (cons (opv (Ev.eql_i (.t rfl) (.t rfl)) ?_)))))))))))))
    refine nil (pN ?_)
    first | refine condD rfl (fun heq => ?_) (fun hne => ?_) | refine cond rfl (fun heq => ?_) (fun hne => ?_)
    · try simp only [nb] at heq
      refine seq (region (cons (opv (Ev.move (.t rfl)) (cons (opv (Ev.mul_i (.c (v := I 8) rfl) (.t rfl) (fun _ => by omega)) ?_)))))
      refine cons (opv (Ev.assign (.t rfl)) (nil (pN (ret (pR (done rfl (.tmp rfl .nil) (retE ?_)))))))
      have hst := comI_end a b i.toNat (by omega)
      unfold commonB
      rw [if_pos (by omega), ← hm]; rfl
    · try simp only [nb] at hne
      have hq : ¬ a.getD i.toNat 0 = b.getD i.toNat 0 := fun hq => by
        have ga := getD_take a m i.toNat (by omega)
        have gb := getD_take b m i.toNat (by omega)
        have hq2 := ga.trans (hq.trans gb.symm)
        rcases hge with h | h
        · omega
        · exact h hq2
      have hst := comI_step a b i.toNat (by omega) (by omega)
      rw [if_neg hq] at hst
      have hci : comI a b = i.toNat := by omega
      refine skip (pN (seq (draw' (by kernel_rfl) ?_)))
      refine tk 0 rfl (Ev.move (.t rfl)) ?_
      refine tk 1 rfl (Ev.mul_i (.c (v := I 8) rfl) (.t rfl) (fun _ => by omega)) ?_
      refine tk 2 rfl (Ev.move (.t rfl)) ?_
      refine tk 3 rfl (Ev.move (.t rfl)) ?_
      refine tk 4 rfl (Ev.indexAddr Try.underlying94 ty5 (.t rfl) (.t rfl) (fun w I => hsa.keep0 I.keeps) (fun _ => by omega)) ?_
      refine tk 5 rfl (Ev.loadS0 ty5 (.t rfl) (fun w I => hsa.keep0 I.keeps) (fun _ => by omega)) ?_
      refine tk 6 rfl (Ev.move (.t rfl)) ?_
      refine tk 7 rfl (Ev.move (.t rfl)) ?_
      refine tk 8 rfl (Ev.indexAddr Try.underlying94 ty5 (.t rfl) (.t rfl) (fun w I => hsb.keep0 I.keeps) (fun _ => by omega)) ?_
      refine tk 9 rfl (Ev.loadS0 ty5 (.t rfl) (fun w I => hsb.keep0 I.keeps) (fun _ => by omega)) ?_
      refine tk 10 rfl (Ev.xor_u8 (.t rfl) (.t rfl)) ?_
      refine al1 11 rfl ((callv en60 (.cons (.t rfl) .nil) (fun w I => lz8_ok _ w) ?_))
      refine hdn (tk 12 rfl (Ev.add_i (.t rfl) (.t rfl) (fun _ => by have h8 := len8_le ((List.take m a).getD i.toNat u8E.zero ^^^ (List.take m b).getD i.toNat u8E.zero); omega)) ?_)
      refine tk 13 rfl (Ev.assign (.t rfl)) ?_
      refine ovr (pN (ret (done rfl (.tmp rfl .nil) (retE ?_))))
      unfold commonB
      rw [if_neg (by omega), hci]
      have ga := getD_take a m i.toNat (by omega)
      have gb := getD_take b m i.toNat (by omega)
      have ei : (i.toNat : Int) = i := by omega
      rw [ei, ← ga, ← gb]; rfl

/-- A bit of a number. -/
def bn (x k : Nat) : Nat := x / 2 ^ k % 2
theorem bn_xor (x y k : Nat) : bn (x ^^^ y) k = (bn x k + bn y k) % 2 := by
  have h := Nat.testBit_xor x y k
  simp only [Nat.testBit_eq_decide_div_mod_eq] at h
  unfold bn
  have h1 : x / 2 ^ k % 2 < 2 := Nat.mod_lt _ (by decide)
  have h2 : y / 2 ^ k % 2 < 2 := Nat.mod_lt _ (by decide)
  have h3 : (x ^^^ y) / 2 ^ k % 2 < 2 := Nat.mod_lt _ (by decide)
  generalize x / 2 ^ k % 2 = p at *
  generalize y / 2 ^ k % 2 = q at *
  generalize (x ^^^ y) / 2 ^ k % 2 = r at *
  have hp : p = 0 ∨ p = 1 := by omega
  have hq : q = 0 ∨ q = 1 := by omega
  have hr : r = 0 ∨ r = 1 := by omega
  rcases hp with rfl | rfl <;> rcases hq with rfl | rfl <;> rcases hr with rfl | rfl <;> simp_all
theorem bitU_toNat (b : List UInt8) (i : Int) : (bitU b i).toNat = bn (b.getD (i / 8).toNat 0).toNat (7 - i % 8).toNat := by
  unfold bitU bn
  rw [UInt8.toNat_and, toNat_shr8]
  have e : UInt8.toNat 1 = 1 := rfl
  rw [e, Nat.and_one_is_mod]
set_option maxRecDepth 100000 in
theorem len8_bits (x : UInt8) (h : x ≠ 0) : 1 ≤ (len8 x).toNat ∧ (len8 x).toNat ≤ 8 ∧ (∀ s, s < 8 - (len8 x).toNat → bn x.toNat (7 - s) = 0) ∧ bn x.toNat (7 - (8 - (len8 x).toNat)) = 1 := by
  have h1 : ∀ n : Fin 256, n.val ≠ 0 → 1 ≤ (len8 (UInt8.ofNat n.val)).toNat ∧ (len8 (UInt8.ofNat n.val)).toNat ≤ 8 ∧ (∀ s : Fin 8, s.val < 8 - (len8 (UInt8.ofNat n.val)).toNat → bn n.val (7 - s.val) = 0) ∧ bn n.val (7 - (8 - (len8 (UInt8.ofNat n.val)).toNat)) = 1 := by decide +kernel
  have h2 := h1 ⟨x.toNat, x.toNat_lt⟩ (fun e => h (UInt8.toNat_inj.1 e))
  simp only [UInt8.ofNat_toNat] at h2
  exact ⟨h2.1, h2.2.1, fun s hs => h2.2.2.1 ⟨s, by omega⟩ hs, h2.2.2.2⟩
theorem comI_le : ∀ a b : List UInt8, comI a b ≤ a.length ∧ comI a b ≤ b.length
  | [], b => by simp [comI]
  | x :: a, [] => by simp [comI]
  | x :: a, y :: b => by
    have := comI_le a b
    simp only [comI, List.length_cons]
    split <;> omega
theorem comI_eq : ∀ (a b : List UInt8) (j : Nat), j < comI a b → a.getD j 0 = b.getD j 0
  | [], b, j, h => by simp [comI] at h
  | x :: a, [], j, h => by simp [comI] at h
  | x :: a, y :: b, j, h => by
    simp only [comI] at h
    split at h
    · rename_i e
      cases j with
      | zero => simpa using e
      | succ j => simpa [List.getD] using comI_eq a b j (by omega)
    · omega
theorem comI_ne : ∀ (a b : List UInt8), comI a b < a.length → comI a b < b.length → a.getD (comI a b) 0 ≠ b.getD (comI a b) 0
  | [], b, h, _ => by simp at h
  | x :: a, [], _, h => by simp at h
  | x :: a, y :: b, h1, h2 => by
    simp only [comI, List.length_cons] at h1 h2 ⊢
    split
    · rename_i e
      rw [if_pos e] at h1 h2
      simpa [List.getD] using comI_ne a b (by omega) (by omega)
    · rename_i e
      simpa using e
/-- n is how many first bits are alike. -/
structure IsCom (a b : List UInt8) (n : Int) : Prop where
  p : 0 ≤ n
  la : n ≤ 8 * a.length
  lb : n ≤ 8 * b.length
  eq : ∀ i : Int, 0 ≤ i → i < n → bitU a i = bitU b i
  ne : n < 8 * a.length → n < 8 * b.length → bitU a n ≠ bitU b n
theorem commonB_is (a b : List UInt8) : IsCom a b (commonB a b) := by
  obtain ⟨h1, h2⟩ := comI_le a b
  have heq := comI_eq a b
  have hne := comI_ne a b
  unfold commonB
  generalize comI a b = c at *
  split
  · rename_i hc
    refine ⟨by omega, by omega, by omega, fun i h0 hi => ?_, fun h3 h4 => by omega⟩
    unfold bitU
    rw [heq (i / 8).toNat (by omega)]
  · rename_i hc
    have hx := hne (by omega) (by omega)
    have hx2 : a.getD c 0 ^^^ b.getD c 0 ≠ 0 := fun e => hx (by
      have e2 := congrArg UInt8.toNat e
      rw [UInt8.toNat_xor] at e2
      exact UInt8.toNat_inj.1 (xor_zero e2))
    obtain ⟨l1, l2, l3, l4⟩ := len8_bits _ hx2
    generalize hl : len8 (a.getD c 0 ^^^ b.getD c 0) = l at *
    have hlo : ∀ s : Nat, s < 8 - l.toNat → bn (a.getD c 0).toNat (7 - s) = bn (b.getD c 0).toNat (7 - s) := fun s hs => by
      have e := l3 s hs
      rw [UInt8.toNat_xor, bn_xor] at e
      have ha : bn (a.getD c 0).toNat (7 - s) < 2 := Nat.mod_lt _ (by decide)
      have hb : bn (b.getD c 0).toNat (7 - s) < 2 := Nat.mod_lt _ (by decide)
      omega
    have hhi : bn (a.getD c 0).toNat (7 - (8 - l.toNat)) ≠ bn (b.getD c 0).toNat (7 - (8 - l.toNat)) := fun e => by
      rw [UInt8.toNat_xor, bn_xor, e] at l4
      omega
    refine ⟨by omega, by omega, by omega, fun i h0 hi => ?_, fun h3 h4 => fun e => ?_⟩
    · by_cases hic : i / 8 < c
      · unfold bitU
        rw [heq (i / 8).toNat (by omega)]
      · have e1 : (i / 8).toNat = c := by omega
        apply UInt8.toNat_inj.1
        rw [bitU_toNat, bitU_toNat, e1]
        have e2 : (7 - i % 8).toNat = 7 - (i % 8).toNat := by omega
        rw [e2]
        exact hlo _ (by omega)
    · have e3 := congrArg UInt8.toNat e
      have e1 : ((8 * (c : Int) + (8 - (l.toNat : Int))) / 8).toNat = c := by omega
      have e2 : (7 - (8 * (c : Int) + (8 - (l.toNat : Int))) % 8).toNat = 7 - (8 - l.toNat) := by omega
      rw [bitU_toNat, bitU_toNat, e1, e2] at e3
      exact hhi e3
theorem IsCom.uniq {a b : List UInt8} {n m : Int} (h : IsCom a b n) (k : IsCom a b m) : n = m := by
  rcases Int.lt_trichotomy n m with hl | he | hg
  · exact absurd (k.eq n h.p hl) (h.ne (by have := k.la; omega) (by have := k.lb; omega))
  · exact he
  · exact absurd (h.eq m k.p hg) (k.ne (by have := h.la; omega) (by have := h.lb; omega))
theorem IsCom.symm {a b : List UInt8} {n : Int} (h : IsCom a b n) : IsCom b a n := ⟨h.p, h.lb, h.la, fun i h0 hi => (h.eq i h0 hi).symm, fun h1 h2 e => h.ne h2 h1 e.symm⟩
theorem IsCom.tri {a b c : List UInt8} {n m k : Int} (h : IsCom a b n) (h' : IsCom b c m) (h'' : IsCom a c k) : min n m ≤ k := by
  rcases Int.lt_or_le k (min n m) with hl | hl
  · have e1 := h.eq k h''.p (by omega)
    have e2 := h'.eq k h''.p (by omega)
    exact absurd (e1.trans e2) (h''.ne (by have := h.la; omega) (by have := h'.lb; omega))
  · exact hl

end Go.Proofs.Ytjjlofjpdklbgaa
