import Derived.Test.YtpdanbpipabboaaF8
set_option linter.unusedVariables false
set_option linter.unusedSimpArgs false
namespace Go.Proofs.Ytpdanbpipabboaa
open Go Go.Gx

theorem tmod_between (m : Int) : -16 < m.tmod 16 ∧ m.tmod 16 < 16 := by
  have h := Int.tmod_lt_of_pos m (show (0 : Int) < 16 by omega)
  refine ⟨?_, h⟩
  have h2 := Int.tmod_lt_of_pos (-m) (show (0 : Int) < 16 by omega)
  rw [Int.neg_tmod] at h2
  omega

/-! ### hashes, their lowest two bits -/
def g4 (a x : Nat) : Nat := ((a ^^^ (x % 4)) * 3) % 4
theorem low_step (h x : UInt64) : ((h ^^^ x) * 1099511628211).toNat % 4 = g4 (h.toNat % 4) x.toNat := by
  have e : (h ^^^ x).toNat % 4 = (h.toNat % 4) ^^^ (x.toNat % 4) := by
    rw [UInt64.toNat_xor]
    exact Nat.xor_mod_two_pow (n := 2)
  unfold g4
  rw [← e, UInt64.toNat_mul]
  show (h ^^^ x).toNat * 1099511628211 % 18446744073709551616 % 4 = _
  omega
theorem low_hash : ∀ (l : List UInt8) (h : UInt64), (hashB h l).toNat % 4 = l.foldl (fun a x => g4 a x.toNat) (h.toNat % 4)
  | [], _ => rfl
  | x :: l, h => by
    show (hashB ((h ^^^ x.toUInt64) * 1099511628211) l).toNat % 4 = _
    rw [low_hash l, low_step]
    simp
def portK (k : SKey) (m : Nat) : SKey := { k with proto := 6, srcPort := k.srcPort + UInt16.ofNat m }
def laneI (k : SKey) (m : Nat) : Nat := (hashK (portK k m)).toNat % 4
theorem laneI_lt (k : SKey) (m : Nat) : laneI k m < 4 := Nat.mod_lt _ (by decide)

theorem g4_all : ∀ s < 4, ∀ x < 4, ∀ y < 4, ∀ j < 4, ∃ r < 4, g4 (g4 (g4 s r) x) y = j := by decide
theorem g4_mod (a x : Nat) : g4 a x = g4 a (x % 4) := by unfold g4; rw [Nat.mod_mod]
theorem g4_lt (a x : Nat) : g4 a x < 4 := Nat.mod_lt _ (by decide)
theorem fold_lt (l : List UInt8) : ∀ a, a < 4 → l.foldl (fun a x => g4 a x.toNat) a < 4 := by
  induction l with
  | nil => exact fun a h => h
  | cons x l ih => exact fun a h => ih _ (g4_lt _ _)

theorem spread (k : SKey) (j : Nat) (hj : j < 4) : ∃ m, m < 256 ∧ laneI k (m + 1) = j := by
  have hp := k.srcPort.toNat_lt
  have key : ∀ m, laneI k m = g4 (g4 (g4 (g4 ((addrB k.src ++ addrB k.dst ++ [6]).foldl (fun (a : Nat) (x : UInt8) => g4 a x.toNat) (UInt64.toNat 14695981039346656037 % 4)) (((k.srcPort.toNat + m) % 65536 / 256))) ((k.srcPort.toNat + m) % 65536)) (k.dstPort / 256).toUInt8.toNat) (k.dstPort % 256).toUInt8.toNat := by
    intro m
    unfold laneI hashK
    rw [low_hash]
    simp only [keyB, portK, putB_two, List.foldl_append, List.foldl_cons, List.foldl_nil, UInt16.toNat_toUInt8, UInt16.toNat_div, UInt16.toNat_mod, UInt16.toNat_add, UInt16.toNat_ofNat']
    have e2 : (k.srcPort.toNat + m % 2 ^ 16) % 2 ^ 16 = (k.srcPort.toNat + m) % 65536 := by omega
    have e3 : (UInt16.toNat 256) = 256 := rfl
    rw [e2, e3]
    have e4 : (k.srcPort.toNat + m) % 65536 / 256 % 2 ^ 8 = (k.srcPort.toNat + m) % 65536 / 256 := by omega
    have e5 : ∀ a, g4 a ((k.srcPort.toNat + m) % 65536 % 256 % 2 ^ 8) = g4 a ((k.srcPort.toNat + m) % 65536) := fun a => by
      rw [g4_mod a ((k.srcPort.toNat + m) % 65536), g4_mod a ((k.srcPort.toNat + m) % 65536 % 256 % 2 ^ 8)]
      congr 1
      omega
    rw [e4, e5]
  generalize hs : (addrB k.src ++ addrB k.dst ++ [6]).foldl (fun (a : Nat) (x : UInt8) => g4 a x.toNat) (UInt64.toNat 14695981039346656037 % 4) = s at key
  generalize (k.dstPort / 256).toUInt8.toNat = d1 at key
  generalize (k.dstPort % 256).toUInt8.toNat = d2 at key
  generalize k.srcPort.toNat = p at *
  obtain ⟨r, hr, he⟩ := g4_all (g4 s (((p + 4) / 4 * 4) % 65536 / 256)) (g4_lt _ _) (d1 % 4) (Nat.mod_lt _ (by decide)) (d2 % 4) (Nat.mod_lt _ (by decide)) j hj
  refine ⟨(p + 4) / 4 * 4 + r - p - 1, by omega, ?_⟩
  rw [key]
  have e1 : p + ((p + 4) / 4 * 4 + r - p - 1 + 1) = (p + 4) / 4 * 4 + r := by omega
  rw [e1]
  have e2 : ((p + 4) / 4 * 4 + r) % 65536 / 256 = ((p + 4) / 4 * 4) % 65536 / 256 := by omega
  rw [e2, ← he, ← g4_mod, ← g4_mod, g4_mod _ (((p + 4) / 4 * 4 + r) % 65536)]
  have e3 : ((p + 4) / 4 * 4 + r) % 65536 % 4 = r := by omega
  rw [e3]

/-! ### an order -/
theorem cmp_neg : ∀ xs ys : List UInt8, Lib.compareBytes ys xs = -Lib.compareBytes xs ys
  | [], [] => rfl
  | [], _ :: _ => rfl
  | _ :: _, [] => rfl
  | x :: xs, y :: ys => by
    unfold Lib.compareBytes
    have h1 := cmp_neg xs ys
    by_cases h : x < y
    · rw [if_pos h, if_neg (UInt8.lt_asymm h), if_pos h]; rfl
    · by_cases h2 : y < x
      · rw [if_pos h2, if_neg h, if_pos h2]
      · rw [if_neg h2, if_neg h, if_neg h, if_neg h2, h1]
theorem cmp_sign : ∀ xs ys : List UInt8, Lib.compareBytes xs ys = 0 ∨ Lib.compareBytes xs ys = 1 ∨ Lib.compareBytes xs ys = -1
  | [], [] => .inl rfl
  | [], _ :: _ => .inr (.inr rfl)
  | _ :: _, [] => .inr (.inl rfl)
  | x :: xs, y :: ys => by
    unfold Lib.compareBytes
    split
    · exact .inr (.inr rfl)
    · split
      · exact .inr (.inl rfl)
      · exact cmp_sign xs ys
theorem cmp_zero : ∀ xs ys : List UInt8, Lib.compareBytes xs ys = 0 → xs = ys
  | [], [], _ => rfl
  | [], _ :: _, h => by simp [Lib.compareBytes] at h
  | _ :: _, [], h => by simp [Lib.compareBytes] at h
  | x :: xs, y :: ys, h => by
    unfold Lib.compareBytes at h
    split at h
    · simp at h
    · split at h
      · simp at h
      · rename_i h1 h2
        have : x = y := UInt8.le_antisymm (UInt8.not_lt.1 h2) (UInt8.not_lt.1 h1)
        rw [this, cmp_zero xs ys h]
theorem cmp_trans : ∀ xs ys zs : List UInt8, Lib.compareBytes xs ys < 0 → Lib.compareBytes ys zs < 0 → Lib.compareBytes xs zs < 0
  | [], [], _, h, _ => by simp [Lib.compareBytes] at h
  | [], _ :: _, [], _, h => by simp [Lib.compareBytes] at h
  | [], _ :: _, _ :: _, _, _ => by simp [Lib.compareBytes]
  | _ :: _, [], _, h, _ => by simp [Lib.compareBytes] at h
  | _ :: _, _ :: _, [], _, h => by simp [Lib.compareBytes] at h
  | x :: xs, y :: ys, z :: zs, h1, h2 => by
    unfold Lib.compareBytes at h1 h2 ⊢
    by_cases a : x < y
    · by_cases b : y < z
      · rw [if_pos (UInt8.lt_trans a b)]; decide
      · rw [if_neg b] at h2
        by_cases c : z < y
        · rw [if_pos c] at h2; omega
        · have : y = z := UInt8.le_antisymm (UInt8.not_lt.1 c) (UInt8.not_lt.1 b)
          subst this
          rw [if_pos a]; decide
    · rw [if_neg a] at h1
      by_cases a' : y < x
      · rw [if_pos a'] at h1; omega
      · have : x = y := UInt8.le_antisymm (UInt8.not_lt.1 a') (UInt8.not_lt.1 a)
        subst this
        rw [if_neg a'] at h1
        by_cases b : x < z
        · rw [if_pos b]; decide
        · rw [if_neg b] at h2 ⊢
          by_cases c : z < x
          · rw [if_pos c] at h2; omega
          · rw [if_neg c] at h2 ⊢
            exact cmp_trans xs ys zs h1 h2

theorem addrB_inj {a b : SAddr} (h : addrB a = addrB b) : a = b := by
  obtain ⟨va, xa⟩ := a
  obtain ⟨vb, xb⟩ := b
  unfold addrB at h
  rw [List.cons.injEq] at h
  have h2 : xa = xb := Vector.toList_inj.1 h.2
  have h3 : va = vb := by
    have := h.1
    cases va <;> cases vb <;> first | rfl | (simp at this)
  rw [h2, h3]
theorem port_inj {p q : UInt16} (h1 : (p / 256).toUInt8 = (q / 256).toUInt8) (h2 : (p % 256).toUInt8 = (q % 256).toUInt8) : p = q := by
  apply UInt16.toNat_inj.1
  have a := congrArg UInt8.toNat h1
  have b := congrArg UInt8.toNat h2
  simp [UInt16.toNat_div, UInt16.toNat_mod] at a b
  have := p.toNat_lt
  have := q.toNat_lt
  omega
theorem keyB_inj {a b : SKey} (h : keyB a = keyB b) : a = b := by
  obtain ⟨a1, a2, a3, a4, a5⟩ := a
  obtain ⟨b1, b2, b3, b4, b5⟩ := b
  simp only [keyB, putB_two, List.append_assoc] at h
  obtain ⟨h1, h⟩ := List.append_inj h (by simp [addrB_length])
  obtain ⟨h2, h⟩ := List.append_inj h (by simp [addrB_length])
  simp only [List.cons_append, List.nil_append, List.cons.injEq, and_true] at h
  obtain ⟨h3, h4, h5, h6, h7⟩ := h
  rw [addrB_inj h1, addrB_inj h2, h3, port_inj h4 h5, port_inj h6 h7]
theorem keyB_iff (a b : SKey) : keyB a = keyB b ↔ a = b := ⟨keyB_inj, fun h => h ▸ rfl⟩
theorem cmpK_zero (a b : SKey) : cmpK a b = 0 ↔ a = b := ⟨fun h => keyB_inj (cmp_zero _ _ h), fun h => by rw [h]; exact cmpK_self b⟩
theorem cmpK_neg (a b : SKey) : -cmpK b a = cmpK a b := by
  unfold cmpK
  rw [cmp_neg (keyB a) (keyB b), Int.neg_neg]
theorem cmpK_sign (a b : SKey) : cmpK a b = 0 ∨ cmpK a b = 1 ∨ cmpK a b = -1 := cmp_sign _ _
theorem cmpK_trans {a b c : SKey} (h1 : cmpK a b < 0) (h2 : cmpK b c < 0) : cmpK a c < 0 := cmp_trans _ _ _ h1 h2
end Go.Proofs.Ytpdanbpipabboaa
