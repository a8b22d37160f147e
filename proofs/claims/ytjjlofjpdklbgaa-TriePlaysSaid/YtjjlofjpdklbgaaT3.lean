/- trie -/
import Derived.Test.YtjjlofjpdklbgaaT2
set_option linter.unusedVariables false
set_option linter.unusedSimpArgs false
namespace Go.Proofs.Ytjjlofjpdklbgaa
open Go Go.Gx

def SAddr.eqb (x y : SAddr) : Bool := eqd x.v6 y.v6 && ((eqA 16 eqd) x.b y.b && (true))

theorem SAddr.eqb_iff (x y : SAddr) : SAddr.eqb x y = true ↔ x = y := by
  obtain ⟨a0, a1⟩ := x
  obtain ⟨b0, b1⟩ := y
  simp only [SAddr.eqb, Bool.and_eq_true, eqd_iff, (eqA_iff eqd_iff), SAddr.mk.injEq, and_true]

theorem eqok31 : EqOK Try.prog 31 eAddr SAddr.eqb 3 := eqok_struct (fs := _) Try.underlying31 (by kernel_rfl) rfl (EqF.cons (by decide) rfl SAddr.l_v6 ty4 (fun d hd => (eqok_b Try.underlying4) d (by omega)) (EqF.cons (by decide) rfl SAddr.l_b ty29 (eqok_arr Try.underlying29 ty5 (eqok_u8 Try.underlying5)) EqF.nil)) (fun _ _ => rfl)

instance : DecidableEq SAddr := fun x y => decidable_of_iff (SAddr.eqb x y = true) (SAddr.eqb_iff x y)

@[simp] theorem SAddr.eqb_dec (x y : SAddr) : SAddr.eqb x y = decide (x = y) := by
  rw [Bool.eq_iff_iff, decide_eq_true_iff]
  exact SAddr.eqb_iff x y

theorem SAddr.eqb_self (x : SAddr) : SAddr.eqb x x = true := (SAddr.eqb_iff x x).2 rfl

def SPrefix.eqb (x y : SPrefix) : Bool := SAddr.eqb x.addr y.addr && (eqd x.bits y.bits && (true))

theorem SPrefix.eqb_iff (x y : SPrefix) : SPrefix.eqb x y = true ↔ x = y := by
  obtain ⟨a0, a1⟩ := x
  obtain ⟨b0, b1⟩ := y
  simp only [SPrefix.eqb, Bool.and_eq_true, SAddr.eqb_iff, eqd_iff, SPrefix.mk.injEq, and_true]

theorem eqok36 : EqOK Try.prog 36 ePrefix SPrefix.eqb 4 := eqok_struct (fs := _) Try.underlying36 (by kernel_rfl) rfl (EqF.cons (by decide) rfl SPrefix.l_addr ty31 eqok31 (EqF.cons (by decide) rfl SPrefix.l_bits ty3 (fun d hd => (eqok_i Try.underlying3) d (by omega)) EqF.nil)) (fun _ _ => rfl)

instance : DecidableEq SPrefix := fun x y => decidable_of_iff (SPrefix.eqb x y = true) (SPrefix.eqb_iff x y)

@[simp] theorem SPrefix.eqb_dec (x y : SPrefix) : SPrefix.eqb x y = decide (x = y) := by
  rw [Bool.eq_iff_iff, decide_eq_true_iff]
  exact SPrefix.eqb_iff x y

theorem SPrefix.eqb_self (x : SPrefix) : SPrefix.eqb x x = true := (SPrefix.eqb_iff x x).2 rfl

def bitOf (x : UInt8) (j : Nat) : UInt8 := shr8 x (7 - j) &&& 1
theorem bitOf_toNat (x : UInt8) (j : Nat) : (bitOf x j).toNat = bn x.toNat (7 - j) := by
  unfold bitOf bn
  rw [UInt8.toNat_and, toNat_shr8]
  have e : UInt8.toNat 1 = 1 := rfl
  rw [e, Nat.and_one_is_mod]
theorem bitU_at (xs : List UInt8) (q j : Nat) (hj : j < 8) : bitU xs (8 * (q : Int) + j) = bitOf (xs.getD q 0) j := by
  unfold bitU bitOf
  have e1 : ((8 * (q : Int) + j) / 8).toNat = q := by omega
  have e2 : (7 - (8 * (q : Int) + j) % 8).toNat = 7 - j := by omega
  rw [e1, e2]
set_option maxRecDepth 100000 in
theorem mk1_dec : ∀ n : Fin 256, ∀ l : Fin 9, (mk1 (l.val : Int) (UInt8.ofNat n.val) = UInt8.ofNat n.val ↔ ∀ j : Fin 8, l.val ≤ j.val → bn n.val (7 - j.val) = 0) := by decide +kernel
theorem mk1_iff (x : UInt8) (left : Int) : mk1 left x = x ↔ ∀ j : Nat, j < 8 → left ≤ j → bitOf x j = 0 := by
  have key : ∀ l : Nat, l < 9 → (mk1 (l : Int) x = x ↔ ∀ j : Nat, j < 8 → l ≤ j → bitOf x j = 0) := fun l hl => by
    have h := mk1_dec ⟨x.toNat, x.toNat_lt⟩ ⟨l, hl⟩
    simp only [UInt8.ofNat_toNat] at h
    rw [h]
    constructor
    · intro h1 j hj hlj
      apply UInt8.toNat_inj.1
      rw [bitOf_toNat]
      exact h1 ⟨j, hj⟩ hlj
    · intro h1 j hlj
      rw [← bitOf_toNat, h1 j.val j.isLt hlj]
      rfl
  by_cases h0 : left ≤ 0
  · have e : mk1 left x = mk1 ((0 : Nat) : Int) x := by
      unfold mk1
      rw [if_pos h0, if_pos (by omega)]
    rw [e, key 0 (by omega)]
    exact ⟨fun h j hj _ => h j hj (Nat.zero_le _), fun h j hj _ => h j hj (by omega)⟩
  · by_cases h8 : left < 8
    · have e : left = (left.toNat : Int) := by omega
      rw [e, key left.toNat (by omega)]
      exact ⟨fun h j hj hl => h j hj (by omega), fun h j hj hl => h j hj (by omega)⟩
    · have e : mk1 left x = x := by
        unfold mk1
        rw [if_neg h0, if_neg h8]
      exact ⟨fun _ j hj hl => by omega, fun _ => e⟩
theorem vec_getD (b : Vector UInt8 16) (k : Nat) (h : k < 16) : b.toList.getD k 0 = b[k] := by simp [List.getD, h]
theorem mask_bits (n : Int) (b : Vector UInt8 16) (h0 : 0 ≤ n) : maskV n b = b ↔ ∀ i : Int, n ≤ i → i < 128 → bitU b.toList i = 0 := by
  have step : maskV n b = b ↔ ∀ (k : Nat) (hk : k < 16), mk1 (n - 8 * (k : Int)) b[k] = b[k] := by
    constructor
    · intro h k hk
      have := congrArg (fun v : Vector UInt8 16 => v[k]) h
      simpa [maskV] using this
    · intro h
      apply Vector.ext
      intro k hk
      have := h k hk
      simpa [maskV] using this
  rw [step]
  constructor
  · intro h i h1 h2
    have hk : (i / 8).toNat < 16 := by omega
    have h3 := (mk1_iff _ _).1 (h (i / 8).toNat hk) (i % 8).toNat (by omega) (by omega)
    have e : i = 8 * ((i / 8).toNat : Int) + ((i % 8).toNat : Int) := by omega
    rw [e, bitU_at _ _ _ (by omega), vec_getD b _ hk]
    exact h3
  · intro h k hk
    refine (mk1_iff _ _).2 (fun j hj hl => ?_)
    have h3 := h (8 * (k : Int) + j) (by omega) (by omega)
    rw [bitU_at _ _ _ hj, vec_getD b _ hk] at h3
    exact h3
theorem checkA_zero (a : SAddr) : checkA a = 0 ↔ ∀ i : Int, wd a ≤ i → i < 128 → bitU a.b.toList i = 0 := by
  have := wd_le a
  rw [← mask_bits (wd a) a.b (by omega)]
  unfold checkA
  split <;> simp_all
theorem checkP_zero (p : SPrefix) : checkP p = 0 ↔ 0 ≤ p.bits ∧ p.bits ≤ wd p.addr ∧ ∀ i : Int, p.bits ≤ i → i < 128 → bitU p.addr.b.toList i = 0 := by
  unfold checkP
  by_cases h0 : 0 ≤ p.bits
  · rw [← mask_bits p.bits p.addr.b h0]
    split
    · rename_i h
      constructor
      · intro h; cases h
      · intro h2; exfalso; rcases h with h | h | h
        · omega
        · omega
        · exact h h2.2.2
    · rename_i h
      simp only [not_or, Decidable.not_not] at h
      exact ⟨fun _ => ⟨h0, (by omega), h.2.2⟩, fun _ => rfl⟩
  · rw [if_pos (.inl (by omega))]
    exact ⟨fun h => (by cases h), fun h => absurd h.1 h0⟩
theorem checkP_addr (p : SPrefix) (h : checkP p = 0) : checkA p.addr = 0 := by
  obtain ⟨h0, h1, h2⟩ := (checkP_zero p).1 h
  exact (checkA_zero p.addr).2 (fun i hi h3 => h2 i (by omega) h3)
theorem common_ge (a b : List UInt8) (n : Int) (ha : a.length = 16) (hb : b.length = 16) (h1 : n ≤ 128) : n ≤ commonB a b ↔ ∀ i : Int, 0 ≤ i → i < n → bitU a i = bitU b i := by
  have h := commonB_is a b
  constructor
  · intro h2 i h3 h4
    exact h.eq i h3 (by omega)
  · intro h2
    rcases Int.lt_or_le (commonB a b) n with h3 | h3
    · exact absurd (h2 _ h.p h3) (h.ne (by omega) (by omega))
    · exact h3
theorem vec_len (b : Vector UInt8 16) : b.toList.length = 16 := by simp
theorem hasP_iff (p : SPrefix) (a : SAddr) : hasP p a = true ↔ checkP p = 0 ∧ checkA a = 0 ∧ a.v6 = p.addr.v6 ∧ ∀ i : Int, 0 ≤ i → i < p.bits → bitU a.b.toList i = bitU p.addr.b.toList i := by
  unfold hasP
  simp only [Bool.and_eq_true, decide_eq_true_eq, and_assoc]
  constructor
  · rintro ⟨h1, h2, h3, h4⟩
    obtain ⟨g0, g1, _⟩ := (checkP_zero p).1 h1
    have := wd_le p.addr
    exact ⟨h1, h2, h3, (common_ge _ _ _ (vec_len _) (vec_len _) (by omega)).1 h4⟩
  · rintro ⟨h1, h2, h3, h4⟩
    obtain ⟨g0, g1, _⟩ := (checkP_zero p).1 h1
    have := wd_le p.addr
    exact ⟨h1, h2, h3, (common_ge _ _ _ (vec_len _) (vec_len _) (by omega)).2 h4⟩

/-! ### Rows of bits -/
def lcp : List Bool → List Bool → List Bool
  | a :: x, b :: y => if a = b then a :: lcp x y else []
  | _, _ => []
theorem lcp_left : ∀ x y, lcp x y <+: x
  | [], _ => by simp [lcp]
  | a :: x, [] => by simp [lcp]
  | a :: x, b :: y => by
    unfold lcp
    split
    · rw [List.cons_prefix_cons]; exact ⟨rfl, lcp_left x y⟩
    · exact List.nil_prefix
theorem lcp_comm : ∀ x y, lcp x y = lcp y x
  | [], [] => rfl
  | [], _ :: _ => rfl
  | _ :: _, [] => rfl
  | a :: x, b :: y => by
    unfold lcp
    by_cases h : a = b
    · rw [if_pos h, if_pos h.symm, lcp_comm x y, h]
    · rw [if_neg h, if_neg (fun e => h e.symm)]
theorem lcp_right (x y : List Bool) : lcp x y <+: y := by rw [lcp_comm]; exact lcp_left y x
theorem lcp_max : ∀ c x y : List Bool, c <+: x → c <+: y → c <+: lcp x y
  | [], _, _, _, _ => List.nil_prefix
  | c :: cs, [], _, h, _ => by simp at h
  | c :: cs, _ :: _, [], _, h => by simp at h
  | c :: cs, a :: x, b :: y, h1, h2 => by
    rw [List.cons_prefix_cons] at h1 h2
    unfold lcp
    rw [if_pos (h1.1.symm.trans h2.1), List.cons_prefix_cons]
    exact ⟨h1.1, lcp_max cs x y h1.2 h2.2⟩
theorem lcp_split : ∀ x y : List Bool, lcp x y ≠ x → lcp x y ≠ y → ∃ b, lcp x y ++ [b] <+: x ∧ lcp x y ++ [!b] <+: y
  | [], y, h, _ => absurd (by simp [lcp]) h
  | a :: x, [], _, h => absurd (by simp [lcp]) h
  | a :: x, b :: y, h1, h2 => by
    unfold lcp at h1 h2 ⊢
    by_cases h : a = b
    · rw [if_pos h] at h1 h2 ⊢
      subst h
      obtain ⟨c, k1, k2⟩ := lcp_split x y (fun e => h1 (by rw [e])) (fun e => h2 (by rw [e]))
      exact ⟨c, by simpa [List.cons_prefix_cons] using k1, by simpa [List.cons_prefix_cons] using k2⟩
    · rw [if_neg h]
      refine ⟨a, by simp, ?_⟩
      have : (!a) = b := by cases a <;> cases b <;> simp_all
      rw [this]
      simp
/-- The bit behind. -/
def nb (x y : List Bool) : Bool := y.getD x.length false
theorem pre_step {x y : List Bool} (h : x <+: y) (hne : x ≠ y) : x ++ [nb x y] <+: y := by
  obtain ⟨z, rfl⟩ := h
  cases z with
  | nil => simp at hne
  | cons b z =>
    have : nb x (x ++ b :: z) = b := by simp [nb, List.getD]
    rw [this]
    exact ⟨z, by simp⟩
theorem nb_of {x y : List Bool} {b : Bool} (h : x ++ [b] <+: y) : nb x y = b := by
  obtain ⟨z, rfl⟩ := h
  simp [nb, List.getD]
theorem pre_len {x y : List Bool} (h : x <+: y) (hl : y.length ≤ x.length) : x = y := List.IsPrefix.eq_of_length_le h hl
theorem pre_snoc {x y : List Bool} {b : Bool} (h : x ++ [b] <+: y) : x <+: y := (List.prefix_append x [b]).trans h
theorem pre_two {x y z : List Bool} (hx : x <+: z) (hy : y <+: z) : x <+: y ∨ y <+: x := by
  rcases Nat.le_total x.length y.length with h | h
  · exact .inl (List.prefix_of_prefix_length_le hx hy h)
  · exact .inr (List.prefix_of_prefix_length_le hy hx h)
theorem not_both {x y z : List Bool} {b : Bool} (h1 : x ++ [b] <+: y) (h2 : x ++ [!b] <+: z) (h : y <+: z) : False := by
  have e1 := nb_of (h1.trans h)
  have e2 := nb_of h2
  rw [e1] at e2
  cases b <;> simp at e2
/-- The order: what is ahead comes first, then no, then yes. -/
def ltB : List Bool → List Bool → Bool
  | [], [] => false
  | [], _ :: _ => true
  | _ :: _, [] => false
  | a :: x, b :: y => (!a && b) || (a == b && ltB x y)
theorem ltB_irr : ∀ x, ltB x x = false
  | [] => rfl
  | a :: x => by simp [ltB, ltB_irr x]
theorem ltB_trans : ∀ x y z, ltB x y = true → ltB y z = true → ltB x z = true
  | [], [], _, h, _ => by simp [ltB] at h
  | [], _ :: _, [], _, h => by simp [ltB] at h
  | [], _ :: _, _ :: _, _, _ => rfl
  | _ :: _, [], _, h, _ => by simp [ltB] at h
  | _ :: _, _ :: _, [], _, h => by simp [ltB] at h
  | a :: x, b :: y, c :: z, h1, h2 => by
    have ih := ltB_trans x y z
    simp only [ltB, Bool.or_eq_true, Bool.and_eq_true, Bool.not_eq_true', beq_iff_eq] at h1 h2 ⊢
    rcases h1 with ⟨r1, r2⟩ | ⟨r1, r2⟩ <;> rcases h2 with ⟨s1, s2⟩ | ⟨s1, s2⟩
    · exact .inl ⟨r1, s2⟩
    · exact .inl ⟨r1, by rw [← s1]; exact r2⟩
    · exact .inl ⟨by rw [r1]; exact s1, s2⟩
    · exact .inr ⟨r1.trans s1, ih r2 s2⟩
theorem ltB_pre : ∀ x y : List Bool, x <+: y → x ≠ y → ltB x y = true
  | [], [], _, h => absurd rfl h
  | [], _ :: _, _, _ => rfl
  | _ :: _, [], h, _ => by simp at h
  | a :: x, b :: y, h, hne => by
    rw [List.cons_prefix_cons] at h
    obtain ⟨rfl, h⟩ := h
    have := ltB_pre x y h (fun e => hne (by rw [e]))
    simp [ltB, this]
theorem ltB_split : ∀ c x y : List Bool, c ++ [false] <+: x → c ++ [true] <+: y → ltB x y = true
  | [], x, y, h1, h2 => by
    obtain ⟨u, rfl⟩ := h1
    obtain ⟨v, rfl⟩ := h2
    simp [ltB]
  | c :: cs, x, y, h1, h2 => by
    cases x with
    | nil => simp at h1
    | cons a x =>
      cases y with
      | nil => simp at h2
      | cons b y =>
        rw [List.cons_append, List.cons_prefix_cons] at h1 h2
        have := ltB_split cs x y h1.2 h2.2
        simp [ltB, ← h1.1, ← h2.1, this]
theorem ltB_asym {x y : List Bool} (h : ltB x y = true) : ltB y x = false := by
  cases h2 : ltB y x with
  | false => rfl
  | true =>
    have := ltB_trans x y x h h2
    rw [ltB_irr] at this
    cases this
theorem ltB_tri : ∀ x y, ltB x y = true ∨ x = y ∨ ltB y x = true
  | [], [] => .inr (.inl rfl)
  | [], _ :: _ => .inl rfl
  | _ :: _, [] => .inr (.inr rfl)
  | a :: x, b :: y => by
    have := ltB_tri x y
    cases a <;> cases b <;> simp [ltB] <;> exact this

/-! ### Trees -/
inductive Tr (κ : Type) where
  | nil : Tr κ
  | node : κ → Int → Bool → Tr κ → Tr κ → Tr κ
def Tr.isNil {κ : Type} : Tr κ → Bool
  | .nil => true
  | _ => false
def Tr.ents {κ : Type} : Tr κ → List (κ × Int)
  | .nil => []
  | .node p v h l r => (if h = true then [(p, v)] else []) ++ (l.ents ++ r.ents)
def Tr.shp {κ : Type} : Tr κ → List κ
  | .nil => []
  | .node p _ _ l r => p :: (l.shp ++ r.shp)
def Tr.WF {κ : Type} (ok : κ → Prop) (bs : κ → List Bool) : List Bool → Tr κ → Prop
  | _, .nil => True
  | c, .node p v h l r => ok p ∧ c <+: bs p ∧ l.WF ok bs (bs p ++ [false]) ∧ r.WF ok bs (bs p ++ [true]) ∧ (h = false → v = 0 ∧ l ≠ .nil ∧ r ≠ .nil)
section
variable {κ : Type} {ok : κ → Prop} {bs : κ → List Bool}
theorem Tr.WF.mono {c d : List Bool} (h : d <+: c) : ∀ {t : Tr κ}, t.WF ok bs c → t.WF ok bs d
  | .nil, _ => trivial
  | .node _ _ _ _ _, ⟨h1, h2, h3⟩ => ⟨h1, h.trans h2, h3⟩
theorem Tr.WF.shp_in : ∀ {t : Tr κ} {c : List Bool}, t.WF ok bs c → ∀ q ∈ t.shp, ok q ∧ c <+: bs q
  | .nil, _, _, q, hq => by simp [shp] at hq
  | .node p v h l r, c, ⟨h1, h2, h3, h4, _⟩, q, hq => by
    simp only [shp, List.mem_cons, List.mem_append] at hq
    rcases hq with rfl | hq | hq
    · exact ⟨h1, h2⟩
    · have := h3.shp_in q hq
      exact ⟨this.1, h2.trans (pre_snoc this.2)⟩
    · have := h4.shp_in q hq
      exact ⟨this.1, h2.trans (pre_snoc this.2)⟩
theorem Tr.ents_shp : ∀ (t : Tr κ) (x : κ × Int), x ∈ t.ents → x.1 ∈ t.shp
  | .nil, x, h => by simp [ents] at h
  | .node p v h l r, x, hx => by
    simp only [ents, List.mem_append] at hx
    simp only [shp, List.mem_cons, List.mem_append]
    rcases hx with hx | hx | hx
    · split at hx
      · simp at hx; exact .inl (by rw [hx])
      · simp at hx
    · exact .inr (.inl (ents_shp l x hx))
    · exact .inr (.inr (ents_shp r x hx))
theorem Tr.WF.ents_in {t : Tr κ} {c : List Bool} (h : t.WF ok bs c) (x : κ × Int) (hx : x ∈ t.ents) : ok x.1 ∧ c <+: bs x.1 := h.shp_in _ (t.ents_shp x hx)
theorem Tr.WF.ne_nil : ∀ {t : Tr κ} {c : List Bool}, t.WF ok bs c → t ≠ .nil → t.ents ≠ []
  | .nil, _, _, h => absurd rfl h
  | .node p v h l r, c, ⟨_, _, h3, h4, h5⟩, _ => by
    cases h with
    | true => simp [ents]
    | false =>
      obtain ⟨_, h6, _⟩ := h5 rfl
      have := h3.ne_nil h6
      simp [ents, this]
/-- In order. -/
theorem Tr.WF.shp_sorted : ∀ {t : Tr κ} {c : List Bool}, t.WF ok bs c → t.shp.Pairwise (fun a b => ltB (bs a) (bs b) = true)
  | .nil, _, _ => List.Pairwise.nil
  | .node p v h l r, c, ⟨_, h2, h3, h4, _⟩ => by
    simp only [shp]
    have low : ∀ (b : Bool) (q : κ), bs p ++ [b] <+: bs q → ltB (bs p) (bs q) = true := fun b q hq => ltB_pre _ _ (pre_snoc hq) (fun e => by
      have := hq.length_le
      rw [← e] at this
      simp at this
      omega)
    refine List.pairwise_cons.2 ⟨fun q hq => ?_, List.pairwise_append.2 ⟨h3.shp_sorted, h4.shp_sorted, fun a ha b hb => ltB_split _ _ _ (h3.shp_in a ha).2 (h4.shp_in b hb).2⟩⟩
    rcases List.mem_append.1 hq with hq | hq
    · exact low _ q (h3.shp_in q hq).2
    · exact low _ q (h4.shp_in q hq).2
theorem Tr.ents_sub : ∀ (t : Tr κ), (t.ents.map (·.1)).Sublist t.shp
  | .nil => List.Sublist.refl _
  | .node p v h l r => by
    simp only [ents, shp, List.map_append]
    have := (ents_sub l).append (ents_sub r)
    cases h with
    | true => simpa using this.cons_cons p
    | false => simpa using this.cons p
theorem Tr.WF.ents_sorted {t : Tr κ} {c : List Bool} (h : t.WF ok bs c) : t.ents.Pairwise (fun a b => ltB (bs a.1) (bs b.1) = true) :=
  List.pairwise_map.1 (h.shp_sorted.sublist t.ents_sub)
/-- Two rows in order that have the same things are one. -/
theorem sorted_ext {α : Type} {f : α → List Bool} : ∀ {l k : List α}, l.Pairwise (fun a b => ltB (f a) (f b) = true) → k.Pairwise (fun a b => ltB (f a) (f b) = true) → (∀ x, x ∈ l ↔ x ∈ k) → l = k
  | [], [], _, _, _ => rfl
  | [], b :: k, _, _, h => by have := (h b).2 List.mem_cons_self; simp at this
  | a :: l, [], _, _, h => by have := (h a).1 List.mem_cons_self; simp at this
  | a :: l, b :: k, h1, h2, h => by
    rw [List.pairwise_cons] at h1 h2
    have e : a = b := by
      rcases List.mem_cons.1 ((h a).1 List.mem_cons_self) with e | e
      · exact e
      · rcases List.mem_cons.1 ((h b).2 List.mem_cons_self) with e2 | e2
        · exact e2.symm
        · have := ltB_asym (h2.1 a e)
          rw [h1.1 b e2] at this
          cases this
    subst e
    have : l = k := sorted_ext h1.2 h2.2 (fun x => by
      constructor
      · intro hx
        rcases List.mem_cons.1 ((h x).1 (List.mem_cons_of_mem _ hx)) with e | e
        · subst e
          have := h1.1 x hx
          rw [ltB_irr] at this
          cases this
        · exact e
      · intro hx
        rcases List.mem_cons.1 ((h x).2 (List.mem_cons_of_mem _ hx)) with e | e
        · subst e
          have := h2.1 x hx
          rw [ltB_irr] at this
          cases this
        · exact e)
    rw [this]
/-! ### What is done with them -/
/-- What the keys are to be. -/
structure KeyLaw (ok : κ → Prop) (bs : κ → List Bool) (both : κ → κ → κ) (bit : κ → κ → Bool) : Prop where
  inj : ∀ p q, ok p → ok q → bs p = bs q → p = q
  both : ∀ p q, ok p → ok q → ok (both p q) ∧ bs (both p q) = lcp (bs p) (bs q)
  bit : ∀ p q, ok p → ok q → bs p <+: bs q → bs p ≠ bs q → bit p q = nb (bs p) (bs q)
variable [DecidableEq κ]
set_option linter.unusedSectionVars false
def Tr.put (both : κ → κ → κ) (bit : κ → κ → Bool) (p : κ) (v : Int) : Tr κ → Tr κ × Bool
  | .nil => (.node p v true .nil .nil, true)
  | .node q u h l r =>
    if q = p then (.node p v true l r, !h)
    else if both q p = q then
      if bit q p = true then (.node q u h l (r.put both bit p v).1, (r.put both bit p v).2) else (.node q u h (l.put both bit p v).1 r, (l.put both bit p v).2)
    else if both q p = p then
      (if bit p q = true then .node p v true .nil (.node q u h l r) else .node p v true (.node q u h l r) .nil, true)
    else (if bit (both q p) p = true then .node (both q p) 0 false (.node q u h l r) (.node p v true .nil .nil) else .node (both q p) 0 false (.node p v true .nil .nil) (.node q u h l r), true)
def Tr.bare : Tr κ → Tr κ
  | .nil => .nil
  | .node p v h l r => if h = true ∨ (l.isNil = false ∧ r.isNil = false) then .node p v h l r else if l.isNil = false then l else r
def Tr.cut (bit : κ → κ → Bool) (p : κ) : Tr κ → Tr κ
  | .nil => .nil
  | .node q u h l r => if q = p then (Tr.node q 0 false l r).bare else if bit q p = true then (Tr.node q u h l (r.cut bit p)).bare else (Tr.node q u h (l.cut bit p) r).bare
theorem Tr.isNil_iff {t : Tr κ} : t.isNil = false ↔ t ≠ .nil := by cases t <;> simp [isNil]
variable {both : κ → κ → κ} {bit : κ → κ → Bool}
/-- The three ways in which two keys may stand to each other. -/
theorem KeyLaw.ways (K : KeyLaw ok bs both bit) {q p : κ} (hq : ok q) (hp : ok p) (hne : q ≠ p) :
    (both q p = q ∧ bs q ++ [bit q p] <+: bs p) ∨ (both q p ≠ q ∧ both q p = p ∧ bs p ++ [bit p q] <+: bs q) ∨
    (both q p ≠ q ∧ both q p ≠ p ∧ ok (both q p) ∧ bs (both q p) = lcp (bs q) (bs p) ∧ bit (both q p) q = !(bit (both q p) p) ∧ bs (both q p) ++ [!(bit (both q p) p)] <+: bs q ∧ bs (both q p) ++ [bit (both q p) p] <+: bs p) := by
  obtain ⟨h1, h2⟩ := K.both q p hq hp
  have hbne : bs q ≠ bs p := fun e => hne (K.inj _ _ hq hp e)
  by_cases e1 : both q p = q
  · refine .inl ⟨e1, ?_⟩
    have hpre : bs q <+: bs p := by
      rw [e1] at h2
      rw [h2]
      exact lcp_right _ _
    rw [K.bit q p hq hp hpre hbne]
    exact pre_step hpre hbne
  · by_cases e2 : both q p = p
    · refine .inr (.inl ⟨e1, e2, ?_⟩)
      have hpre : bs p <+: bs q := by
        rw [e2] at h2
        rw [h2]
        exact lcp_left _ _
      rw [K.bit p q hp hq hpre hbne.symm]
      exact pre_step hpre hbne.symm
    · have n1 : lcp (bs q) (bs p) ≠ bs q := fun e => e1 (K.inj _ _ h1 hq (h2.trans e))
      have n2 : lcp (bs q) (bs p) ≠ bs p := fun e => e2 (K.inj _ _ h1 hp (h2.trans e))
      obtain ⟨b, g1, g2⟩ := lcp_split _ _ n1 n2
      rw [← h2] at g1 g2 n1 n2
      have b1 := K.bit _ q h1 hq (pre_snoc g1) n1
      have b2 := K.bit _ p h1 hp (pre_snoc g2) n2
      rw [nb_of g1] at b1
      rw [nb_of g2] at b2
      refine .inr (.inr ⟨e1, e2, h1, h2, ?_, ?_, ?_⟩)
      · rw [b1, b2, Bool.not_not]
      · rw [b2, Bool.not_not]; exact g1
      · rw [b2]; exact g2
theorem snoc_ne {x y : List Bool} {b : Bool} (h : x ++ [b] <+: y) : x ≠ y := fun e => by
  have := h.length_le
  rw [← e] at this
  simp at this
  omega
theorem KeyLaw.put_spec (K : KeyLaw ok bs both bit) {p : κ} (hp : ok p) (v : Int) : ∀ (t : Tr κ) (c : List Bool), t.WF ok bs c → c <+: bs p →
    (t.put both bit p v).1.WF ok bs c ∧ (t.put both bit p v).1 ≠ .nil ∧ (∀ x, x ∈ (t.put both bit p v).1.ents ↔ (x = (p, v) ∨ (x ∈ t.ents ∧ x.1 ≠ p))) ∧ ((t.put both bit p v).2 = true ↔ ∀ x ∈ t.ents, x.1 ≠ p)
  | .nil, c, _, hc => by
    refine ⟨⟨hp, hc, trivial, trivial, (fun h => by cases h)⟩, (fun h => by cases h), fun x => ?_, ?_⟩
    · simp [Tr.put, Tr.ents]
    · simp [Tr.put, Tr.ents]
  | .node q u h l r, c, hw, hc => by
    have hw' := hw
    obtain ⟨hq, h2, h3, h4, h5⟩ := hw
    have inl : ∀ x ∈ l.ents, bs q ++ [false] <+: bs x.1 := fun x hx => (h3.ents_in x hx).2
    have inr : ∀ x ∈ r.ents, bs q ++ [true] <+: bs x.1 := fun x hx => (h4.ents_in x hx).2
    by_cases e : q = p
    · subst e
      have nl : ∀ x ∈ l.ents, x.1 ≠ q := fun x hx e => snoc_ne (inl x hx) (by rw [e])
      have nr : ∀ x ∈ r.ents, x.1 ≠ q := fun x hx e => snoc_ne (inr x hx) (by rw [e])
      have hput : Tr.put both bit q v (.node q u h l r) = (.node q v true l r, !h) := by rw [Tr.put, if_pos rfl]
      rw [hput]
      refine ⟨⟨hq, h2, h3, h4, (fun h => by cases h)⟩, (fun h => by cases h), fun x => ?_, ?_⟩
      · simp only [Tr.ents, if_true, List.mem_append, List.mem_singleton]
        constructor
        · rintro (h | h | h)
          · exact .inl h
          · exact .inr ⟨.inr (.inl h), nl x h⟩
          · exact .inr ⟨.inr (.inr h), nr x h⟩
        · rintro (h | ⟨h | h | h, hn⟩)
          · exact .inl h
          · split at h
            · simp only [List.mem_singleton] at h
              rw [h] at hn
              exact absurd rfl hn
            · simp at h
          · exact .inr (.inl h)
          · exact .inr (.inr h)
      · simp only [Tr.ents, List.mem_append]
        constructor
        · intro hh x hx
          have hf : h = false := by simpa using hh
          subst hf
          rcases hx with hx | hx | hx
          · simp at hx
          · exact nl x hx
          · exact nr x hx
        · intro hh
          cases h with
          | false => rfl
          | true => exact absurd rfl (hh (q, u) (.inl (by simp)))
    · have epq : ∀ x : κ × Int, x ∈ (if h = true then [(q, u)] else []) → x.1 ≠ p := fun x hx => by
        split at hx
        · simp only [List.mem_singleton] at hx; rw [hx]; exact e
        · simp at hx
      rcases K.ways hq hp e with ⟨e1, e2⟩ | ⟨e0, e1, e2⟩ | ⟨e0, e1, e2, e3, e4, e5, e6⟩
      · cases hb : bit q p with
        | true =>
          rw [hb] at e2
          have hput : Tr.put both bit p v (.node q u h l r) = (.node q u h l (r.put both bit p v).1, (r.put both bit p v).2) := by rw [Tr.put, if_neg e, if_pos e1, if_pos hb]
          rw [hput]
          obtain ⟨g1, g2, g3, g4⟩ := K.put_spec hp v r _ h4 e2
          refine ⟨⟨hq, h2, h3, g1, fun hh => ⟨(h5 hh).1, (h5 hh).2.1, g2⟩⟩, (fun h => by cases h), fun x => ?_, ?_⟩
          · have nl : x ∈ l.ents → x.1 ≠ p := fun hx e => not_both (b := false) (inl x hx) e2 (by rw [e]; exact List.prefix_refl _)
            simp only [Tr.ents, List.mem_append, g3]
            constructor
            · rintro (h | h | h | h)
              · exact .inr ⟨.inl h, epq x h⟩
              · exact .inr ⟨.inr (.inl h), nl h⟩
              · exact .inl h
              · exact .inr ⟨.inr (.inr h.1), h.2⟩
            · rintro (h | ⟨h | h | h, hn⟩)
              · exact .inr (.inr (.inl h))
              · exact .inl h
              · exact .inr (.inl h)
              · exact .inr (.inr (.inr ⟨h, hn⟩))
          · rw [g4]
            simp only [Tr.ents, List.mem_append]
            constructor
            · rintro hh x (hx | hx | hx)
              · exact epq x hx
              · exact fun e => not_both (b := false) (inl x hx) e2 (by rw [e]; exact List.prefix_refl _)
              · exact hh x hx
            · exact fun hh x hx => hh x (.inr (.inr hx))
        | false =>
          rw [hb] at e2
          have hput : Tr.put both bit p v (.node q u h l r) = (.node q u h (l.put both bit p v).1 r, (l.put both bit p v).2) := by rw [Tr.put, if_neg e, if_pos e1, if_neg (by rw [hb]; exact Bool.false_ne_true)]
          rw [hput]
          obtain ⟨g1, g2, g3, g4⟩ := K.put_spec hp v l _ h3 e2
          refine ⟨⟨hq, h2, g1, h4, fun hh => ⟨(h5 hh).1, g2, (h5 hh).2.2⟩⟩, (fun h => by cases h), fun x => ?_, ?_⟩
          · have nr : x ∈ r.ents → x.1 ≠ p := fun hx e => not_both (b := true) (inr x hx) e2 (by rw [e]; exact List.prefix_refl _)
            simp only [Tr.ents, List.mem_append, g3]
            constructor
            · rintro (h | (h | h) | h)
              · exact .inr ⟨.inl h, epq x h⟩
              · exact .inl h
              · exact .inr ⟨.inr (.inl h.1), h.2⟩
              · exact .inr ⟨.inr (.inr h), nr h⟩
            · rintro (h | ⟨h | h | h, hn⟩)
              · exact .inr (.inl (.inl h))
              · exact .inl h
              · exact .inr (.inl (.inr ⟨h, hn⟩))
              · exact .inr (.inr h)
          · rw [g4]
            simp only [Tr.ents, List.mem_append]
            constructor
            · rintro hh x (hx | hx | hx)
              · exact epq x hx
              · exact hh x hx
              · exact fun e => not_both (b := true) (inr x hx) e2 (by rw [e]; exact List.prefix_refl _)
            · exact fun hh x hx => hh x (.inr (.inl hx))
      · have hall : ∀ x ∈ (Tr.node q u h l r).ents, x.1 ≠ p := fun x hx e' => by
          have := (hw'.mono (List.nil_prefix (l := c))).ents_in x hx
          have h9 : bs q <+: bs x.1 := by
            simp only [Tr.ents, List.mem_append] at hx
            rcases hx with hx | hx | hx
            · split at hx
              · simp only [List.mem_singleton] at hx; rw [hx]; exact List.prefix_refl _
              · simp at hx
            · exact pre_snoc (inl x hx)
            · exact pre_snoc (inr x hx)
          rw [e'] at h9
          exact snoc_ne e2 (pre_len (pre_snoc e2) h9.length_le)
        have hwq : ∀ d, d <+: bs q → (Tr.node q u h l r).WF ok bs d := fun d hd => ⟨hq, hd, h3, h4, h5⟩
        cases hb : bit p q with
        | true =>
          rw [hb] at e2
          have hput : Tr.put both bit p v (.node q u h l r) = (.node p v true .nil (.node q u h l r), true) := by rw [Tr.put, if_neg e, if_neg e0, if_pos e1, if_pos hb]
          rw [hput]
          refine ⟨⟨hp, hc, trivial, hwq _ e2, (fun h => by cases h)⟩, (fun h => by cases h), fun x => ?_, ⟨fun _ => hall, fun _ => rfl⟩⟩
          rw [show (Tr.node p v true .nil (.node q u h l r)).ents = (p, v) :: (Tr.node q u h l r).ents by simp [Tr.ents], List.mem_cons]
          exact ⟨fun h => h.imp id fun h => ⟨h, hall x h⟩, fun h => h.imp id fun h => h.1⟩
        | false =>
          rw [hb] at e2
          have hput : Tr.put both bit p v (.node q u h l r) = (.node p v true (.node q u h l r) .nil, true) := by rw [Tr.put, if_neg e, if_neg e0, if_pos e1, if_neg (by rw [hb]; exact Bool.false_ne_true)]
          rw [hput]
          refine ⟨⟨hp, hc, hwq _ e2, trivial, (fun h => by cases h)⟩, (fun h => by cases h), fun x => ?_, ⟨fun _ => hall, fun _ => rfl⟩⟩
          rw [show (Tr.node p v true (.node q u h l r) .nil).ents = (p, v) :: (Tr.node q u h l r).ents by simp [Tr.ents], List.mem_cons]
          exact ⟨fun h => h.imp id fun h => ⟨h, hall x h⟩, fun h => h.imp id fun h => h.1⟩
      · have hall : ∀ x ∈ (Tr.node q u h l r).ents, x.1 ≠ p := fun x hx e' => by
          have h9 : bs q <+: bs x.1 := by
            simp only [Tr.ents, List.mem_append] at hx
            rcases hx with hx | hx | hx
            · split at hx
              · simp only [List.mem_singleton] at hx; rw [hx]; exact List.prefix_refl _
              · simp at hx
            · exact pre_snoc (inl x hx)
            · exact pre_snoc (inr x hx)
          rw [e'] at h9
          have e7 := e5.trans h9
          have n1 := nb_of e6
          have n2 := nb_of e7
          rw [n1] at n2
          cases hbb : bit (both q p) p <;> rw [hbb] at n2 <;> cases n2
        have hwq : ∀ d, d <+: bs q → (Tr.node q u h l r).WF ok bs d := fun d hd => ⟨hq, hd, h3, h4, h5⟩
        have hcc : c <+: bs (both q p) := by rw [e3]; exact lcp_max _ _ _ h2 hc
        cases hb : bit (both q p) p with
        | true =>
          rw [hb] at e5 e6
          have hput : Tr.put both bit p v (.node q u h l r) = (.node (both q p) 0 false (.node q u h l r) (.node p v true .nil .nil), true) := by rw [Tr.put, if_neg e, if_neg e0, if_neg e1, if_pos hb]
          rw [hput]
          refine ⟨⟨e2, hcc, hwq _ e5, ⟨hp, e6, trivial, trivial, (fun h => by cases h)⟩, fun _ => ⟨rfl, (fun h => by cases h), (fun h => by cases h)⟩⟩, (fun h => by cases h), fun x => ?_, ⟨fun _ => hall, fun _ => rfl⟩⟩
          rw [show (Tr.node (both q p) 0 false (.node q u h l r) (.node p v true .nil .nil)).ents = (Tr.node q u h l r).ents ++ [(p, v)] by simp [Tr.ents], List.mem_append, List.mem_singleton]
          exact ⟨fun h => h.symm.imp id fun h => ⟨h, hall x h⟩, fun h => (h.imp id fun h => h.1).symm⟩
        | false =>
          rw [hb] at e5 e6
          have hput : Tr.put both bit p v (.node q u h l r) = (.node (both q p) 0 false (.node p v true .nil .nil) (.node q u h l r), true) := by rw [Tr.put, if_neg e, if_neg e0, if_neg e1, if_neg (by rw [hb]; exact Bool.false_ne_true)]
          rw [hput]
          refine ⟨⟨e2, hcc, ⟨hp, e6, trivial, trivial, (fun h => by cases h)⟩, hwq _ e5, fun _ => ⟨rfl, (fun h => by cases h), (fun h => by cases h)⟩⟩, (fun h => by cases h), fun x => ?_, ⟨fun _ => hall, fun _ => rfl⟩⟩
          rw [show (Tr.node (both q p) 0 false (.node p v true .nil .nil) (.node q u h l r)).ents = (p, v) :: (Tr.node q u h l r).ents by simp [Tr.ents], List.mem_cons]
          exact ⟨fun h => h.imp id fun h => ⟨h, hall x h⟩, fun h => h.imp id fun h => h.1⟩
/-! ### Cutting -/
omit [DecidableEq κ] in
theorem Tr.bare_node (p : κ) (v : Int) (h : Bool) (l r : Tr κ) : (Tr.node p v h l r).bare = if h = true ∨ (l.isNil = false ∧ r.isNil = false) then .node p v h l r else if l.isNil = false then l else r := rfl
theorem Tr.bare_spec {p : κ} {v : Int} {h : Bool} {l r : Tr κ} {c : List Bool} (hp : ok p) (hc : c <+: bs p) (hl : l.WF ok bs (bs p ++ [false])) (hr : r.WF ok bs (bs p ++ [true])) (hv : h = false → v = 0) :
    (Tr.node p v h l r).bare.WF ok bs c ∧ ∀ x, x ∈ (Tr.node p v h l r).bare.ents ↔ x ∈ (Tr.node p v h l r).ents := by
  rw [bare_node]
  by_cases h1 : h = true ∨ (l.isNil = false ∧ r.isNil = false)
  · rw [if_pos h1]
    refine ⟨⟨hp, hc, hl, hr, fun hf => ⟨hv hf, ?_⟩⟩, fun x => Iff.rfl⟩
    rcases h1 with h1 | ⟨h1, h2⟩
    · rw [hf] at h1; cases h1
    · exact ⟨isNil_iff.1 h1, isNil_iff.1 h2⟩
  · rw [if_neg h1]
    have hf : h = false := by
      cases h with
      | false => rfl
      | true => exact absurd (.inl rfl) h1
    subst hf
    by_cases h2 : l.isNil = false
    · rw [if_pos h2]
      have h3 : r = .nil := by
        cases r with
        | nil => rfl
        | node => exact absurd (.inr ⟨h2, rfl⟩) h1
      subst h3
      exact ⟨hl.mono (hc.trans (List.prefix_append _ _)), fun x => by simp [ents]⟩
    · rw [if_neg h2]
      have h3 : l = .nil := by
        cases l with
        | nil => rfl
        | node => exact absurd rfl h2
      subst h3
      exact ⟨hr.mono (hc.trans (List.prefix_append _ _)), fun x => by simp [ents]⟩
theorem KeyLaw.cut_spec (K : KeyLaw ok bs both bit) {p : κ} (hp : ok p) : ∀ (t : Tr κ) (c : List Bool), t.WF ok bs c → (∃ x ∈ t.ents, x.1 = p) →
    (t.cut bit p).WF ok bs c ∧ ∀ x, x ∈ (t.cut bit p).ents ↔ (x ∈ t.ents ∧ x.1 ≠ p)
  | .nil, c, _, h => by obtain ⟨x, hx, _⟩ := h; simp [Tr.ents] at hx
  | .node q u h l r, c, hw, hex => by
    obtain ⟨hq, h2, h3, h4, h5⟩ := hw
    have inl : ∀ x ∈ l.ents, bs q ++ [false] <+: bs x.1 := fun x hx => (h3.ents_in x hx).2
    have inr : ∀ x ∈ r.ents, bs q ++ [true] <+: bs x.1 := fun x hx => (h4.ents_in x hx).2
    by_cases e : q = p
    · subst e
      have nl : ∀ x ∈ l.ents, x.1 ≠ q := fun x hx e => snoc_ne (inl x hx) (by rw [e])
      have nr : ∀ x ∈ r.ents, x.1 ≠ q := fun x hx e => snoc_ne (inr x hx) (by rw [e])
      have hcut : Tr.cut bit q (.node q u h l r) = (Tr.node q 0 false l r).bare := by rw [Tr.cut, if_pos rfl]
      rw [hcut]
      obtain ⟨g1, g2⟩ := Tr.bare_spec (v := 0) (h := false) hq h2 h3 h4 (fun _ => rfl)
      refine ⟨g1, fun x => ?_⟩
      rw [g2]
      simp only [Tr.ents, List.mem_append]
      constructor
      · rintro (hx | hx | hx)
        · simp at hx
        · exact ⟨.inr (.inl hx), nl x hx⟩
        · exact ⟨.inr (.inr hx), nr x hx⟩
      · rintro ⟨hx | hx | hx, hn⟩
        · split at hx
          · simp only [List.mem_singleton] at hx; rw [hx] at hn; exact absurd rfl hn
          · simp at hx
        · exact .inr (.inl hx)
        · exact .inr (.inr hx)
    · have epq : ∀ x : κ × Int, x ∈ (if h = true then [(q, u)] else []) → x.1 ≠ p := fun x hx => by
        split at hx
        · simp only [List.mem_singleton] at hx; rw [hx]; exact e
        · simp at hx
      obtain ⟨y, hy, hyp⟩ := hex
      simp only [Tr.ents, List.mem_append] at hy
      rcases hy with hy | hy | hy
      · exact absurd hyp (epq y hy)
      · have e2 := inl y hy
        rw [hyp] at e2
        have hb : bit q p = false := by rw [K.bit q p hq hp (pre_snoc e2) (snoc_ne e2)]; exact nb_of e2
        have hcut : Tr.cut bit p (.node q u h l r) = (Tr.node q u h (l.cut bit p) r).bare := by rw [Tr.cut, if_neg e, if_neg (by rw [hb]; exact Bool.false_ne_true)]
        rw [hcut]
        obtain ⟨k1, k2⟩ := K.cut_spec hp l _ h3 ⟨y, hy, hyp⟩
        obtain ⟨g1, g2⟩ := Tr.bare_spec (v := u) (h := h) hq h2 k1 h4 (fun hf => (h5 hf).1)
        refine ⟨g1, fun x => ?_⟩
        have nr : x ∈ r.ents → x.1 ≠ p := fun hx e => not_both (b := true) (inr x hx) e2 (by rw [e]; exact List.prefix_refl _)
        rw [g2]
        simp only [Tr.ents, List.mem_append, k2]
        constructor
        · rintro (hx | hx | hx)
          · exact ⟨.inl hx, epq x hx⟩
          · exact ⟨.inr (.inl hx.1), hx.2⟩
          · exact ⟨.inr (.inr hx), nr hx⟩
        · rintro ⟨hx | hx | hx, hn⟩
          · exact .inl hx
          · exact .inr (.inl ⟨hx, hn⟩)
          · exact .inr (.inr hx)
      · have e2 := inr y hy
        rw [hyp] at e2
        have hb : bit q p = true := by rw [K.bit q p hq hp (pre_snoc e2) (snoc_ne e2)]; exact nb_of e2
        have hcut : Tr.cut bit p (.node q u h l r) = (Tr.node q u h l (r.cut bit p)).bare := by rw [Tr.cut, if_neg e, if_pos hb]
        rw [hcut]
        obtain ⟨k1, k2⟩ := K.cut_spec hp r _ h4 ⟨y, hy, hyp⟩
        obtain ⟨g1, g2⟩ := Tr.bare_spec (v := u) (h := h) hq h2 h3 k1 (fun hf => (h5 hf).1)
        refine ⟨g1, fun x => ?_⟩
        have nl : x ∈ l.ents → x.1 ≠ p := fun hx e => not_both (b := false) (inl x hx) e2 (by rw [e]; exact List.prefix_refl _)
        rw [g2]
        simp only [Tr.ents, List.mem_append, k2]
        constructor
        · rintro (hx | hx | hx)
          · exact ⟨.inl hx, epq x hx⟩
          · exact ⟨.inr (.inl hx), nl hx⟩
          · exact ⟨.inr (.inr hx.1), hx.2⟩
        · rintro ⟨hx | hx | hx, hn⟩
          · exact .inl hx
          · exact .inr (.inl hx)
          · exact .inr (.inr ⟨hx, hn⟩)

/-! ### The way down -/
/-- The nodes that cover p, from the root on. -/
def Tr.path (cov lt : κ → κ → Bool) (bit : κ → κ → Bool) (p : κ) : Tr κ → List (κ × Int × Bool)
  | .nil => []
  | .node q u h l r => if cov q p = true then (q, u, h) :: (if lt q p = true then (if bit q p = true then r.path cov lt bit p else l.path cov lt bit p) else []) else []
variable {cov lt : κ → κ → Bool}
structure CovLaw (ok : κ → Prop) (bs : κ → List Bool) (cov lt : κ → κ → Bool) : Prop where
  cov : ∀ q p, ok q → ok p → (cov q p = true ↔ bs q <+: bs p)
  lt : ∀ q p, ok q → ok p → (lt q p = true ↔ (bs q).length < (bs p).length)
theorem KeyLaw.path_spec (K : KeyLaw ok bs both bit) (C : CovLaw ok bs cov lt) {p : κ} (hp : ok p) : ∀ (t : Tr κ) (c : List Bool), t.WF ok bs c →
    (∀ x : κ × Int, (x.1, x.2, true) ∈ t.path cov lt bit p ↔ (x ∈ t.ents ∧ bs x.1 <+: bs p)) ∧ (∀ y ∈ t.path cov lt bit p, c <+: bs y.1 ∧ bs y.1 <+: bs p ∧ ok y.1) ∧ (t.path cov lt bit p).Pairwise (fun a b => (bs a.1).length < (bs b.1).length)
  | .nil, c, _ => ⟨fun x => by simp [Tr.path, Tr.ents], fun y hy => by simp [Tr.path] at hy, List.Pairwise.nil⟩
  | .node q u h l r, c, hw => by
    obtain ⟨hq, h2, h3, h4, h5⟩ := hw
    have inl : ∀ x ∈ l.ents, bs q ++ [false] <+: bs x.1 := fun x hx => (h3.ents_in x hx).2
    have inr : ∀ x ∈ r.ents, bs q ++ [true] <+: bs x.1 := fun x hx => (h4.ents_in x hx).2
    have hqe : ∀ x : κ × Int, x ∈ (if h = true then [(q, u)] else []) ↔ (x.1, x.2, true) = (q, u, h) := fun x => by
      cases h <;> simp [Prod.ext_iff]
    by_cases e1 : cov q p = true
    · have hpre := (C.cov q p hq hp).1 e1
      by_cases e2 : lt q p = true
      · have hlt := (C.lt q p hq hp).1 e2
        have hne : bs q ≠ bs p := fun e => by rw [e] at hlt; omega
        have hstep := pre_step hpre hne
        rw [← K.bit q p hq hp hpre hne] at hstep
        cases hb : bit q p with
        | true =>
          rw [hb] at hstep
          have hpath : Tr.path cov lt bit p (.node q u h l r) = (q, u, h) :: r.path cov lt bit p := by rw [Tr.path, if_pos e1, if_pos e2, if_pos hb]
          rw [hpath]
          obtain ⟨g1, g2, g3⟩ := K.path_spec C hp r _ h4
          refine ⟨fun x => ?_, fun y hy => ?_, List.pairwise_cons.2 ⟨fun y hy => ?_, g3⟩⟩
          · simp only [Tr.ents, List.mem_append, List.mem_cons, hqe, g1]
            constructor
            · rintro (hx | hx)
              · exact ⟨.inl hx, by have := (Prod.ext_iff.1 hx).1; simp only at this; rw [this]; exact hpre⟩
              · exact ⟨.inr (.inr hx.1), hx.2⟩
            · rintro ⟨hx | hx | hx, hn⟩
              · exact .inl hx
              · exact (not_both (b := false) (inl x hx) hstep hn).elim
              · exact .inr ⟨hx, hn⟩
          · rcases List.mem_cons.1 hy with rfl | hy
            · exact ⟨h2, hpre, hq⟩
            · have := g2 y hy
              exact ⟨h2.trans (pre_snoc this.1), this.2⟩
          · have := (g2 y hy).1.length_le
            simp at this
            show (bs q).length < (bs y.1).length
            omega
        | false =>
          rw [hb] at hstep
          have hpath : Tr.path cov lt bit p (.node q u h l r) = (q, u, h) :: l.path cov lt bit p := by rw [Tr.path, if_pos e1, if_pos e2, if_neg (by rw [hb]; exact Bool.false_ne_true)]
          rw [hpath]
          obtain ⟨g1, g2, g3⟩ := K.path_spec C hp l _ h3
          refine ⟨fun x => ?_, fun y hy => ?_, List.pairwise_cons.2 ⟨fun y hy => ?_, g3⟩⟩
          · simp only [Tr.ents, List.mem_append, List.mem_cons, hqe, g1]
            constructor
            · rintro (hx | hx)
              · exact ⟨.inl hx, by have := (Prod.ext_iff.1 hx).1; simp only at this; rw [this]; exact hpre⟩
              · exact ⟨.inr (.inl hx.1), hx.2⟩
            · rintro ⟨hx | hx | hx, hn⟩
              · exact .inl hx
              · exact .inr ⟨hx, hn⟩
              · exact (not_both (b := true) (inr x hx) hstep hn).elim
          · rcases List.mem_cons.1 hy with rfl | hy
            · exact ⟨h2, hpre, hq⟩
            · have := g2 y hy
              exact ⟨h2.trans (pre_snoc this.1), this.2⟩
          · have := (g2 y hy).1.length_le
            simp at this
            show (bs q).length < (bs y.1).length
            omega
      · have hge : ¬ (bs q).length < (bs p).length := fun h => e2 ((C.lt q p hq hp).2 h)
        have heq := pre_len hpre (by omega)
        have hpath : Tr.path cov lt bit p (.node q u h l r) = [(q, u, h)] := by rw [Tr.path, if_pos e1, if_neg e2]
        rw [hpath]
        refine ⟨fun x => ?_, fun y hy => ?_, List.pairwise_singleton _ _⟩
        · simp only [Tr.ents, List.mem_append, List.mem_singleton, hqe]
          constructor
          · intro hx
            exact ⟨.inl hx, by have := (Prod.ext_iff.1 hx).1; simp only at this; rw [this]; exact hpre⟩
          · rintro ⟨hx | hx | hx, hn⟩
            · exact hx
            · exact absurd (pre_len (pre_snoc (inl x hx)) (by rw [heq]; exact hn.length_le)) (snoc_ne (inl x hx))
            · exact absurd (pre_len (pre_snoc (inr x hx)) (by rw [heq]; exact hn.length_le)) (snoc_ne (inr x hx))
        · rw [List.mem_singleton] at hy
          subst hy
          exact ⟨h2, hpre, hq⟩
    · have hpath : Tr.path cov lt bit p (.node q u h l r) = [] := by rw [Tr.path, if_neg e1]
      rw [hpath]
      refine ⟨fun x => ?_, fun y hy => by simp at hy, List.Pairwise.nil⟩
      simp only [Tr.ents, List.mem_append]
      constructor
      · intro hx; simp at hx
      · rintro ⟨hx, hn⟩
        have h9 : bs q <+: bs x.1 := by
          rcases hx with hx | hx | hx
          · rw [hqe] at hx
            have := (Prod.ext_iff.1 hx).1
            simp only at this
            rw [this]
            exact List.prefix_refl _
          · exact pre_snoc (inl x hx)
          · exact pre_snoc (inr x hx)
        exact absurd ((C.cov q p hq hp).2 (h9.trans hn)) e1
/-- The last one that has a number. -/
def Tr.best (cov lt : κ → κ → Bool) (bit : κ → κ → Bool) (p : κ) (t : Tr κ) : Option (κ × Int) := (((t.path cov lt bit p).filter (·.2.2)).getLast?).map (fun n => (n.1, n.2.1))
def Tr.get (cov lt : κ → κ → Bool) (bit : κ → κ → Bool) (p : κ) (t : Tr κ) : Option Int := ((t.path cov lt bit p).find? (fun n => decide (n.1 = p) && n.2.2)).map (·.2.1)
theorem KeyLaw.best_some (K : KeyLaw ok bs both bit) (C : CovLaw ok bs cov lt) {p : κ} (hp : ok p) {t : Tr κ} {c : List Bool} (hw : t.WF ok bs c) {x : κ × Int} (h : t.best cov lt bit p = some x) :
    x ∈ t.ents ∧ bs x.1 <+: bs p ∧ ∀ y ∈ t.ents, bs y.1 <+: bs p → bs y.1 <+: bs x.1 := by
  obtain ⟨g1, g2, g3⟩ := K.path_spec C hp t c hw
  unfold Tr.best at h
  rw [Option.map_eq_some_iff] at h
  obtain ⟨n, h1, rfl⟩ := h
  obtain ⟨A, hA⟩ := List.getLast?_eq_some_iff.1 h1
  have hn : n ∈ (t.path cov lt bit p).filter (·.2.2) := by rw [hA]; simp
  obtain ⟨m1, m2⟩ := List.mem_filter.1 hn
  have hx : (n.1, n.2.1, true) ∈ t.path cov lt bit p := by
    have : n = (n.1, n.2.1, true) := by rw [← m2]
    rw [← this]; exact m1
  obtain ⟨k1, k2⟩ := (g1 (n.1, n.2.1)).1 hx
  refine ⟨k1, k2, fun y hy hyp => ?_⟩
  have hy2 := (g1 y).2 ⟨hy, hyp⟩
  have hy3 : (y.1, y.2, true) ∈ (t.path cov lt bit p).filter (·.2.2) := List.mem_filter.2 ⟨hy2, rfl⟩
  have hs := g3.filter (·.2.2)
  rw [hA] at hs hy3
  have hle : (bs y.1).length ≤ (bs n.1).length := by
    rcases List.mem_append.1 hy3 with h | h
    · have := (List.pairwise_append.1 hs).2.2 _ h n (by simp)
      simp only at this
      omega
    · rw [List.mem_singleton] at h
      rw [← h]
      exact Nat.le_refl _
  exact List.prefix_of_prefix_length_le hyp k2 hle
theorem KeyLaw.best_none (K : KeyLaw ok bs both bit) (C : CovLaw ok bs cov lt) {p : κ} (hp : ok p) {t : Tr κ} {c : List Bool} (hw : t.WF ok bs c) (h : t.best cov lt bit p = none) :
    ∀ y ∈ t.ents, ¬ bs y.1 <+: bs p := by
  obtain ⟨g1, g2, g3⟩ := K.path_spec C hp t c hw
  unfold Tr.best at h
  rw [Option.map_eq_none_iff, List.getLast?_eq_none_iff] at h
  intro y hy hyp
  have hy2 := (g1 y).2 ⟨hy, hyp⟩
  have : (y.1, y.2, true) ∈ (t.path cov lt bit p).filter (·.2.2) := List.mem_filter.2 ⟨hy2, rfl⟩
  rw [h] at this
  simp at this
theorem KeyLaw.get_spec (K : KeyLaw ok bs both bit) (C : CovLaw ok bs cov lt) {p : κ} (hp : ok p) {t : Tr κ} {c : List Bool} (hw : t.WF ok bs c) (v : Int) : t.get cov lt bit p = some v ↔ (p, v) ∈ t.ents := by
  obtain ⟨g1, g2, g3⟩ := K.path_spec C hp t c hw
  unfold Tr.get
  rw [Option.map_eq_some_iff]
  constructor
  · rintro ⟨n, h1, h2⟩
    have h3 := List.find?_some h1
    have h4 := List.mem_of_find?_eq_some h1
    simp only [Bool.and_eq_true, decide_eq_true_eq] at h3
    have : n = (p, v, true) := Prod.ext h3.1 (Prod.ext h2 h3.2)
    rw [this] at h4
    exact ((g1 (p, v)).1 h4).1
  · intro h
    have h1 := (g1 (p, v)).2 ⟨h, List.prefix_refl _⟩
    cases hf : (t.path cov lt bit p).find? (fun n => decide (n.1 = p) && n.2.2) with
    | none =>
      have := List.find?_eq_none.1 hf _ h1
      simp at this
    | some n =>
      refine ⟨n, rfl, ?_⟩
      have h3 := List.find?_some hf
      have h4 := List.mem_of_find?_eq_some hf
      simp only [Bool.and_eq_true, decide_eq_true_eq] at h3
      -- of two of one key in the row the lengths differ
      have hin : ∀ (l : List (κ × Int × Bool)), l.Pairwise (fun a b => (bs a.1).length < (bs b.1).length) → ∀ a ∈ l, ∀ b ∈ l, a.1 = b.1 → a = b := by
        intro l
        induction l with
        | nil => intro _ a ha; simp at ha
        | cons z l ih =>
          intro hl a ha b hb hab
          rw [List.pairwise_cons] at hl
          rcases List.mem_cons.1 ha with ha | ha <;> rcases List.mem_cons.1 hb with hb | hb
          · rw [ha, hb]
          · have := hl.1 b hb
            rw [← ha, hab] at this
            omega
          · have := hl.1 a ha
            rw [← hb, ← hab] at this
            omega
          · exact ih hl.2 a ha b hb hab
      have := hin _ g3 n h4 _ h1 h3.1
      rw [this]

/-! ### One tree for what is in it -/
theorem Tr.WF.root (K : KeyLaw ok bs both bit) {p q : κ} {u v : Int} {h k : Bool} {l r l' r' : Tr κ} {c d : List Bool} (h1 : (Tr.node p u h l r).WF ok bs c) (h2 : (Tr.node q v k l' r').WF ok bs d) (hm : ∀ x, x ∈ (Tr.node p u h l r).ents → x ∈ (Tr.node q v k l' r').ents) : bs q <+: bs p := by
  obtain ⟨a1, a2, a3, a4, a5⟩ := h1
  have inq : ∀ x ∈ (Tr.node p u h l r).ents, bs q <+: bs x.1 := fun x hx => (Tr.WF.ents_in (c := bs q) (t := Tr.node q v k l' r') ⟨h2.1, List.prefix_refl _, h2.2.2⟩ x (hm x hx)).2
  cases h with
  | true => exact inq (p, u) (by simp [Tr.ents])
  | false =>
    obtain ⟨_, nl, nr⟩ := a5 rfl
    obtain ⟨x, hx⟩ := List.exists_mem_of_ne_nil _ (a3.ne_nil nl)
    obtain ⟨y, hy⟩ := List.exists_mem_of_ne_nil _ (a4.ne_nil nr)
    have b1 := inq x (by simp [Tr.ents, hx])
    have b2 := inq y (by simp [Tr.ents, hy])
    have c1 := (a3.ents_in x hx).2
    have c2 := (a4.ents_in y hy).2
    rcases pre_two b1 (pre_snoc c1) with h | h
    · exact h
    · by_cases e : bs p = bs q
      · rw [e]; exact List.prefix_refl _
      · have d1 := pre_step h e
        have e1 := nb_of c1
        have e2 := nb_of c2
        have e3 := nb_of (d1.trans b1)
        have e4 := nb_of (d1.trans b2)
        rw [e1] at e3
        rw [e2, ← e3] at e4
        cases e4
theorem KeyLaw.uniq (K : KeyLaw ok bs both bit) : ∀ (t s : Tr κ) (c d : List Bool), t.WF ok bs c → s.WF ok bs d → (∀ x, x ∈ t.ents ↔ x ∈ s.ents) → t = s
  | .nil, .nil, _, _, _, _, _ => rfl
  | .nil, .node q v k l' r', c, d, h1, h2, hm => by
    obtain ⟨x, hx⟩ := List.exists_mem_of_ne_nil _ (h2.ne_nil (by simp))
    have := (hm x).2 hx
    simp [Tr.ents] at this
  | .node p u h l r, .nil, c, d, h1, h2, hm => by
    obtain ⟨x, hx⟩ := List.exists_mem_of_ne_nil _ (h1.ne_nil (by simp))
    have := (hm x).1 hx
    simp [Tr.ents] at this
  | .node p u h l r, .node q v k l' r', c, d, h1, h2, hm => by
    have e1 := Tr.WF.root K h1 h2 (fun x => (hm x).1)
    have e2 := Tr.WF.root K h2 h1 (fun x => (hm x).2)
    have e3 : bs p = bs q := pre_len e2 e1.length_le
    have e4 := K.inj _ _ h1.1 h2.1 e3
    subst e4
    obtain ⟨a1, a2, a3, a4, a5⟩ := h1
    obtain ⟨b1, b2, b3, b4, b5⟩ := h2
    -- which part an entry lies in is told by its key
    have part : ∀ {u : Int} {h : Bool} {l r : Tr κ}, l.WF ok bs (bs p ++ [false]) → r.WF ok bs (bs p ++ [true]) → ∀ x, x ∈ (Tr.node p u h l r).ents ↔ ((h = true ∧ x = (p, u)) ∨ x ∈ l.ents ∨ x ∈ r.ents) := fun {u h l r} _ _ x => by
      simp only [Tr.ents, List.mem_append]
      cases h <;> simp
    have hk : ∀ {l : Tr κ} {b : Bool}, l.WF ok bs (bs p ++ [b]) → ∀ x ∈ l.ents, x.1 ≠ p ∧ nb (bs p) (bs x.1) = b := fun hl x hx =>
      ⟨fun e => snoc_ne (hl.ents_in x hx).2 (by rw [e]), nb_of (hl.ents_in x hx).2⟩
    have hl : l = l' := K.uniq l l' _ _ a3 b3 (fun x => by
      constructor
      · intro hx
        have k1 := hk a3 x hx
        rcases (part b3 b4 x).1 ((hm x).1 ((part a3 a4 x).2 (.inr (.inl hx)))) with h | h | h
        · exact absurd (by rw [h.2]) k1.1
        · exact h
        · have := (hk b4 x h).2
          rw [k1.2] at this
          cases this
      · intro hx
        have k1 := hk b3 x hx
        rcases (part a3 a4 x).1 ((hm x).2 ((part b3 b4 x).2 (.inr (.inl hx)))) with h | h | h
        · exact absurd (by rw [h.2]) k1.1
        · exact h
        · have := (hk a4 x h).2
          rw [k1.2] at this
          cases this)
    have hr : r = r' := K.uniq r r' _ _ a4 b4 (fun x => by
      constructor
      · intro hx
        have k1 := hk a4 x hx
        rcases (part b3 b4 x).1 ((hm x).1 ((part a3 a4 x).2 (.inr (.inr hx)))) with h | h | h
        · exact absurd (by rw [h.2]) k1.1
        · have := (hk b3 x h).2
          rw [k1.2] at this
          cases this
        · exact h
      · intro hx
        have k1 := hk b4 x hx
        rcases (part a3 a4 x).1 ((hm x).2 ((part b3 b4 x).2 (.inr (.inr hx)))) with h | h | h
        · exact absurd (by rw [h.2]) k1.1
        · have := (hk a3 x h).2
          rw [k1.2] at this
          cases this
        · exact h)
    subst hl hr
    have hroot : ∀ {u : Int} {h : Bool} (w : Int), l.WF ok bs (bs p ++ [false]) → r.WF ok bs (bs p ++ [true]) → ((p, w) ∈ (Tr.node p u h l r).ents ↔ (h = true ∧ w = u)) := fun {u h} w hl hr => by
      rw [part hl hr]
      constructor
      · rintro (h | h | h)
        · exact ⟨h.1, (Prod.ext_iff.1 h.2).2⟩
        · exact absurd rfl (hk hl _ h).1
        · exact absurd rfl (hk hr _ h).1
      · rintro ⟨h1, rfl⟩
        exact .inl ⟨h1, rfl⟩
    cases h with
    | true =>
      have h7 := (hroot (u := v) (h := k) u b3 b4).1 ((hm (p, u)).1 ((hroot (h := true) u a3 a4).2 ⟨rfl, rfl⟩))
      rw [h7.1, h7.2]
    | false =>
      cases k with
      | true =>
        have h7 := (hroot (u := u) (h := false) v a3 a4).1 ((hm (p, v)).2 ((hroot (h := true) v b3 b4).2 ⟨rfl, rfl⟩))
        cases h7.1
      | false => rw [(a5 rfl).1, (b5 rfl).1]
/-! ### The shape -/
theorem Tr.WF.small : ∀ {t : Tr κ} {c : List Bool}, t.WF ok bs c → t ≠ .nil → t.shp.length + 1 ≤ 2 * t.ents.length
  | .nil, _, _, h => absurd rfl h
  | .node p v h l r, c, ⟨_, _, h3, h4, h5⟩, _ => by
    have hl : l = .nil ∨ l.shp.length + 1 ≤ 2 * l.ents.length := by
      by_cases e : l = .nil
      · exact .inl e
      · exact .inr (h3.small e)
    have hr : r = .nil ∨ r.shp.length + 1 ≤ 2 * r.ents.length := by
      by_cases e : r = .nil
      · exact .inl e
      · exact .inr (h4.small e)
    simp only [shp, ents, List.length_cons, List.length_append]
    cases h with
    | true =>
      simp only [if_true, List.length_cons, List.length_nil]
      rcases hl with rfl | hl <;> rcases hr with rfl | hr <;> simp [shp, ents] at * <;> omega
    | false =>
      obtain ⟨_, n1, n2⟩ := h5 rfl
      have hl := hl.resolve_left n1
      have hr := hr.resolve_left n2
      simp
      omega
end

/-! ### Prefixes as rows of bits -/
theorem bitOf_le (x : UInt8) (j : Nat) : bitOf x j = 0 ∨ bitOf x j = 1 := by
  have h : (bitOf x j).toNat < 2 := by rw [bitOf_toNat]; exact Nat.mod_lt _ (by decide)
  rcases (show (bitOf x j).toNat = 0 ∨ (bitOf x j).toNat = 1 by omega) with h | h
  · exact .inl (UInt8.toNat_inj.1 h)
  · exact .inr (UInt8.toNat_inj.1 h)
theorem bitU_01 (b : List UInt8) (i : Int) : bitU b i = 0 ∨ bitU b i = 1 := by
  have h : (bitU b i).toNat < 2 := by rw [bitU_toNat]; exact Nat.mod_lt _ (by decide)
  rcases (show (bitU b i).toNat = 0 ∨ (bitU b i).toNat = 1 by omega) with h | h
  · exact .inl (UInt8.toNat_inj.1 h)
  · exact .inr (UInt8.toNat_inj.1 h)
theorem byte_ext (x y : UInt8) (h : ∀ j, j < 8 → bitOf x j = bitOf y j) : x = y := by
  have hz : x ^^^ y = 0 := by
    have h1 := (mk1_iff (x ^^^ y) 0).2 (fun j hj _ => by
      have e := h j hj
      apply UInt8.toNat_inj.1
      rw [bitOf_toNat, UInt8.toNat_xor, bn_xor, ← bitOf_toNat, ← bitOf_toNat, e]
      have : (bitOf y j).toNat < 2 := by rw [bitOf_toNat]; exact Nat.mod_lt _ (by decide)
      show ((bitOf y j).toNat + (bitOf y j).toNat) % 2 = 0
      omega)
    rw [← h1]
    rfl
  have e2 := congrArg UInt8.toNat hz
  rw [UInt8.toNat_xor] at e2
  exact UInt8.toNat_inj.1 (xor_zero e2)
theorem bits_ext (a b : Vector UInt8 16) (h : ∀ i : Int, 0 ≤ i → i < 128 → bitU a.toList i = bitU b.toList i) : a = b := by
  apply Vector.ext
  intro k hk
  refine byte_ext _ _ (fun j hj => ?_)
  have := h (8 * (k : Int) + j) (by omega) (by omega)
  rw [bitU_at _ _ _ hj, bitU_at _ _ _ hj, vec_getD _ k hk, vec_getD _ k hk] at this
  exact this
set_option maxRecDepth 100000 in
theorem mk1_bit_dec : ∀ n : Fin 256, ∀ l : Fin 9, ∀ j : Fin 8, bn (mk1 (l.val : Int) (UInt8.ofNat n.val)).toNat (7 - j.val) = if j.val < l.val then bn n.val (7 - j.val) else 0 := by decide +kernel
theorem mk1_bit (x : UInt8) (left : Int) (j : Nat) (hj : j < 8) : bitOf (mk1 left x) j = if (j : Int) < left then bitOf x j else 0 := by
  have key : ∀ l : Nat, l < 9 → bitOf (mk1 (l : Int) x) j = if j < l then bitOf x j else 0 := fun l hl => by
    have h := mk1_bit_dec ⟨x.toNat, x.toNat_lt⟩ ⟨l, hl⟩ ⟨j, hj⟩
    simp only [UInt8.ofNat_toNat] at h
    apply UInt8.toNat_inj.1
    rw [bitOf_toNat, h]
    split
    · rw [bitOf_toNat]
    · rfl
  by_cases h0 : left ≤ 0
  · have e : mk1 left x = mk1 ((0 : Nat) : Int) x := by
      unfold mk1
      rw [if_pos h0, if_pos (by omega)]
    rw [e, key 0 (by omega), if_neg (by omega), if_neg (by omega)]
  · by_cases h8 : left < 8
    · have e : left = (left.toNat : Int) := by omega
      rw [e, key left.toNat (by omega)]
      by_cases hl : j < left.toNat
      · rw [if_pos hl, if_pos (by omega)]
      · rw [if_neg hl, if_neg (by omega)]
    · have e : mk1 left x = x := by
        unfold mk1
        rw [if_neg h0, if_neg h8]
      rw [e, if_pos (by omega)]
theorem mask_bit (n : Int) (b : Vector UInt8 16) (i : Int) (h0 : 0 ≤ i) (h1 : i < 128) : bitU (maskV n b).toList i = if i < n then bitU b.toList i else 0 := by
  have e : i = 8 * ((i / 8).toNat : Int) + ((i % 8).toNat : Int) := by omega
  have hk : (i / 8).toNat < 16 := by omega
  rw [e, bitU_at _ _ _ (by omega), bitU_at _ _ _ (by omega), vec_getD _ _ hk, vec_getD _ _ hk]
  have em : (maskV n b)[(i / 8).toNat] = mk1 (n - 8 * ((i / 8).toNat : Int)) b[(i / 8).toNat] := by simp [maskV]
  rw [em, mk1_bit _ _ _ (by omega)]
  by_cases h : i < n
  · rw [if_pos (by omega), if_pos (by omega)]
  · rw [if_neg (by omega), if_neg (by omega)]
/-- What bits one has. -/
def pb (p : SPrefix) : List Bool := (List.range p.bits.toNat).map fun i : Nat => decide (bitU p.addr.b.toList i = 1)
@[simp] theorem pb_len (p : SPrefix) : (pb p).length = p.bits.toNat := by simp [pb]
theorem pb_get (p : SPrefix) (i : Nat) (h : i < p.bits.toNat) : (pb p)[i]? = some (decide (bitU p.addr.b.toList i = 1)) := by simp [pb, h]
theorem pre_iff (x y : List Bool) : x <+: y ↔ x.length ≤ y.length ∧ ∀ i, i < x.length → x[i]? = y[i]? := by
  constructor
  · rintro ⟨z, rfl⟩
    exact ⟨by simp, fun i hi => by rw [List.getElem?_append_left hi]⟩
  · rintro ⟨h1, h2⟩
    refine ⟨y.drop x.length, ?_⟩
    have : x = y.take x.length := by
      apply List.ext_getElem?
      intro i
      by_cases hi : i < x.length
      · rw [h2 i hi, List.getElem?_take_of_lt hi]
      · rw [List.getElem?_eq_none (by omega), List.getElem?_eq_none (by simp; omega)]
    rw [this]
    simp
    rw [Nat.min_eq_left h1, List.take_append_drop]
theorem dec_bit {a b : List UInt8} {i j : Int} : decide (bitU a i = 1) = decide (bitU b j = 1) ↔ bitU a i = bitU b j := by
  rcases bitU_01 a i with h | h <;> rcases bitU_01 b j with k | k <;> simp [h, k]
theorem pb_pre (p q : SPrefix) (hp : 0 ≤ p.bits) (hq : 0 ≤ q.bits) : pb p <+: pb q ↔ p.bits ≤ q.bits ∧ ∀ i : Int, 0 ≤ i → i < p.bits → bitU p.addr.b.toList i = bitU q.addr.b.toList i := by
  rw [pre_iff, pb_len, pb_len]
  constructor
  · rintro ⟨h1, h2⟩
    refine ⟨by omega, fun i h3 h4 => ?_⟩
    have := h2 i.toNat (by omega)
    rw [pb_get p _ (by omega), pb_get q _ (by omega)] at this
    have e : ((i.toNat : Nat) : Int) = i := by omega
    rw [e] at this
    exact dec_bit.1 (Option.some.inj this)
  · rintro ⟨h1, h2⟩
    refine ⟨by omega, fun i hi => ?_⟩
    rw [pb_get p _ (by omega), pb_get q _ (by omega)]
    exact congrArg some (dec_bit.2 (h2 i (by omega) (by omega)))
/-- What may stand in a tree of one kind. -/
def okP (k : Bool) (p : SPrefix) : Prop := checkP p = 0 ∧ p.addr.v6 = k
theorem okP.nn {k : Bool} {p : SPrefix} (h : okP k p) : 0 ≤ p.bits ∧ p.bits ≤ wd p.addr ∧ p.bits ≤ 128 := by
  have := (checkP_zero p).1 h.1
  have := wd_le p.addr
  omega
/-- How many first bits two have in common. -/
def comN (p q : SPrefix) : Int := min (min p.bits q.bits) (commonB p.addr.b.toList q.addr.b.toList)
def bothP (p q : SPrefix) : SPrefix := ⟨⟨p.addr.v6, maskV (comN p q) p.addr.b⟩, comN p q⟩
def bitP (p q : SPrefix) : Bool := decide (bitU q.addr.b.toList p.bits = 1)
theorem comN_spec {k : Bool} {p q : SPrefix} (hp : okP k p) (hq : okP k q) : 0 ≤ comN p q ∧ comN p q ≤ p.bits ∧ comN p q ≤ q.bits ∧ (∀ i : Int, 0 ≤ i → i < comN p q → bitU p.addr.b.toList i = bitU q.addr.b.toList i) ∧
    (comN p q < p.bits → comN p q < q.bits → bitU p.addr.b.toList (comN p q) ≠ bitU q.addr.b.toList (comN p q)) := by
  have h := commonB_is p.addr.b.toList q.addr.b.toList
  have h1 := hp.nn
  have h2 := hq.nn
  have h3 := h.p
  unfold comN
  refine ⟨by omega, by omega, by omega, fun i i0 i1 => h.eq i i0 (by omega), fun l1 l2 => ?_⟩
  have e : min (min p.bits q.bits) (commonB p.addr.b.toList q.addr.b.toList) = commonB p.addr.b.toList q.addr.b.toList := by omega
  rw [e]
  refine h.ne ?_ ?_ <;> simp <;> omega
theorem comN_of {k : Bool} {p q : SPrefix} (hp : okP k p) (hq : okP k q) {n : Int} (h0 : 0 ≤ n) (h1 : n ≤ p.bits) (h2 : n ≤ q.bits) (h3 : ∀ i : Int, 0 ≤ i → i < n → bitU p.addr.b.toList i = bitU q.addr.b.toList i)
    (h4 : n < p.bits → n < q.bits → bitU p.addr.b.toList n ≠ bitU q.addr.b.toList n) : n = comN p q := by
  obtain ⟨g0, g1, g2, g3, g4⟩ := comN_spec hp hq
  rcases Int.lt_trichotomy n (comN p q) with h | h | h
  · exact absurd (g3 n h0 h) (h4 (by omega) (by omega))
  · exact h
  · exact absurd (h3 _ g0 h) (g4 (by omega) (by omega))
theorem both_ok {k : Bool} {p q : SPrefix} (hp : okP k p) (hq : okP k q) : okP k (bothP p q) := by
  obtain ⟨g0, g1, g2, g3, g4⟩ := comN_spec hp hq
  have h1 := hp.nn
  refine ⟨(checkP_zero _).2 ⟨g0, ?_, fun i h3 h4 => ?_⟩, hp.2⟩
  · show comN p q ≤ wd (bothP p q).addr
    have : wd (bothP p q).addr = wd p.addr := rfl
    omega
  · have hi : comN p q ≤ i := h3
    show bitU (maskV (comN p q) p.addr.b).toList i = 0
    rw [mask_bit _ _ _ (by omega) h4, if_neg (by omega)]
theorem pb_inj {k : Bool} {p q : SPrefix} (hp : okP k p) (hq : okP k q) (h : pb p = pb q) : p = q := by
  have h1 := hp.nn
  have h2 := hq.nn
  have hb : p.bits = q.bits := by
    have := congrArg List.length h
    simp at this
    omega
  have hpre := (pb_pre p q h1.1 h2.1).1 (by rw [h]; exact List.prefix_refl _)
  have hv : p.addr.b = q.addr.b := bits_ext _ _ (fun i i0 i1 => by
    rcases Int.lt_or_le i p.bits with hi | hi
    · exact hpre.2 i i0 hi
    · rw [((checkP_zero p).1 hp.1).2.2 i hi i1, ((checkP_zero q).1 hq.1).2.2 i (by omega) i1])
  have hk : p.addr.v6 = q.addr.v6 := hp.2.trans hq.2.symm
  obtain ⟨⟨v1, b1⟩, n1⟩ := p
  obtain ⟨⟨v2, b2⟩, n2⟩ := q
  simp only at hb hv hk
  subst hb hv hk
  rfl
theorem keyLaw (k : Bool) : KeyLaw (okP k) pb bothP bitP where
  inj := fun p q hp hq h => pb_inj hp hq h
  both := fun p q hp hq => by
    have hb := both_ok hp hq
    refine ⟨hb, ?_⟩
    obtain ⟨g0, g1, g2, g3, g4⟩ := comN_spec hp hq
    have h1 := hp.nn
    have h2 := hq.nn
    have hbit : ∀ i : Int, 0 ≤ i → i < comN p q → bitU (bothP p q).addr.b.toList i = bitU p.addr.b.toList i := fun i i0 i1 => by
      show bitU (maskV (comN p q) p.addr.b).toList i = _
      rw [mask_bit _ _ _ i0 (by omega), if_pos i1]
    have c1 : pb (bothP p q) <+: pb p := (pb_pre _ _ g0 h1.1).2 ⟨g1, hbit⟩
    have c2 : pb (bothP p q) <+: pb q := (pb_pre _ _ g0 h2.1).2 ⟨g2, fun i i0 i1 => (hbit i i0 i1).trans (g3 i i0 i1)⟩
    refine pre_len (lcp_max _ _ _ c1 c2) ?_
    have l1 := (lcp_left (pb p) (pb q)).length_le
    have l2 := (lcp_right (pb p) (pb q)).length_le
    rw [pb_len] at l1 l2 ⊢
    show _ ≤ (comN p q).toNat
    rcases Nat.lt_or_ge (comN p q).toNat (lcp (pb p) (pb q)).length with hl | hl
    · exfalso
      have e1 := ((pre_iff _ _).1 (lcp_left (pb p) (pb q))).2 _ hl
      have e2 := ((pre_iff _ _).1 (lcp_right (pb p) (pb q))).2 _ hl
      rw [e1, pb_get p _ (by omega), pb_get q _ (by omega)] at e2
      have e : (((comN p q).toNat : Nat) : Int) = comN p q := by omega
      rw [e] at e2
      exact g4 (by omega) (by omega) (dec_bit.1 (Option.some.inj e2))
    · exact hl
  bit := fun p q hp hq hpre hne => by
    have h1 := hp.nn
    have h2 := hq.nn
    have hlt : p.bits < q.bits := by
      have := ((pb_pre p q h1.1 h2.1).1 hpre).1
      rcases Int.lt_or_le p.bits q.bits with h | h
      · exact h
      · exact absurd (pre_len hpre (by simp; omega)) hne
    unfold bitP nb
    rw [pb_len, List.getD_eq_getElem?_getD, pb_get q _ (by omega)]
    have e : ((p.bits.toNat : Nat) : Int) = p.bits := by omega
    rw [e]
    rfl
theorem covers_iff {k : Bool} {q p : SPrefix} (hq : okP k q) (hp : okP k p) : coversP q p = true ↔ pb q <+: pb p := by
  have h1 := hq.nn
  have h2 := hp.nn
  unfold coversP
  rw [pb_pre q p h1.1 h2.1, Bool.and_eq_true, Bool.and_eq_true, decide_eq_true_iff, decide_eq_true_iff, hasP_iff]
  constructor
  · rintro ⟨⟨_, a⟩, _, _, _, b⟩
    exact ⟨a, fun i i0 i1 => (b i i0 i1).symm⟩
  · rintro ⟨a, b⟩
    exact ⟨⟨hp.1, a⟩, hq.1, checkP_addr p hp.1, hp.2.trans hq.2.symm, fun i i0 i1 => (b i i0 i1).symm⟩
def ltP (q p : SPrefix) : Bool := decide (q.bits < p.bits)
theorem covLaw (k : Bool) : CovLaw (okP k) pb coversP ltP where
  cov := fun q p hq hp => covers_iff hq hp
  lt := fun q p hq hp => by
    have h1 := hq.nn
    have h2 := hp.nn
    unfold ltP
    rw [decide_eq_true_iff, pb_len, pb_len]
    omega
/-- An address, with all its bits. -/
def full (a : SAddr) : SPrefix := ⟨a, wd a⟩
theorem full_ok {a : SAddr} (h : checkA a = 0) : okP a.v6 (full a) := ⟨(checkP_zero _).2 ⟨by have := wd_le a; show 0 ≤ wd a; omega, Int.le_refl _, (checkA_zero a).1 h⟩, rfl⟩
theorem has_full {p : SPrefix} {a : SAddr} (h : checkA a = 0) : hasP p a = true ↔ (okP a.v6 p ∧ pb p <+: pb (full a)) := by
  constructor
  · intro hh
    obtain ⟨h1, h2, h3, h4⟩ := (hasP_iff p a).1 hh
    have ho : okP a.v6 p := ⟨h1, h3.symm⟩
    have h5 := ho.nn
    have h6 := (full_ok h).nn
    refine ⟨ho, (pb_pre _ _ h5.1 h6.1).2 ⟨?_, fun i i0 i1 => (h4 i i0 i1).symm⟩⟩
    show p.bits ≤ wd a
    have : wd a = wd p.addr := by unfold wd; rw [h3]
    omega
  · rintro ⟨ho, hpre⟩
    have h5 := ho.nn
    have h6 := (full_ok h).nn
    exact (hasP_iff p a).2 ⟨ho.1, h, ho.2.symm, fun i i0 i1 => (((pb_pre _ _ h5.1 h6.1).1 hpre).2 i i0 i1).symm⟩
end Go.Proofs.Ytjjlofjpdklbgaa
