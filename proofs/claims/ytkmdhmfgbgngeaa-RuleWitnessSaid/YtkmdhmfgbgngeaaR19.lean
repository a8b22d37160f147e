/- rule -/
import Derived.Test.YtkmdhmfgbgngeaaR18
import Derived.Test.YtkmdhmfgbgngeaaGxN
set_option linter.unusedVariables false
set_option linter.unusedSimpArgs false
namespace Go.Proofs.Ytkmdhmfgbgngeaa
open Go Go.Gx

/-- The last address of a prefix, byte by byte. -/
def orB (x : UInt8) (a k base : Int) : UInt8 := (List.range 8).foldl (fun (x : UInt8) (j : Nat) => if a ≤ base + (j : Int) ∧ base + (j : Int) < k then x ||| shr8 128 j else x) x
def orV (v : Vector UInt8 16) (a k : Int) : Vector UInt8 16 := Vector.ofFn fun i => orB v[i] a k (8 * (i.val : Int))
theorem fold_or_congr (l : List Nat) (x : UInt8) (p q : Nat → Prop) [DecidablePred p] [DecidablePred q] (h : ∀ j ∈ l, (p j ↔ q j)) : l.foldl (fun x j => if p j then x ||| shr8 128 j else x) x = l.foldl (fun x j => if q j then x ||| shr8 128 j else x) x := by
  induction l generalizing x with
  | nil => rfl
  | cons a l ih =>
    simp only [List.foldl_cons]
    have ha := h a List.mem_cons_self
    by_cases hp : p a
    · rw [if_pos hp, if_pos (ha.1 hp)]
      exact ih _ (fun j hj => h j (List.mem_cons_of_mem _ hj))
    · rw [if_neg hp, if_neg (fun k => hp (ha.2 k))]
      exact ih _ (fun j hj => h j (List.mem_cons_of_mem _ hj))
theorem fold_or_none (l : List Nat) (x : UInt8) (p : Nat → Prop) [DecidablePred p] (h : ∀ j ∈ l, ¬ p j) : l.foldl (fun x j => if p j then x ||| shr8 128 j else x) x = x := by
  induction l generalizing x with
  | nil => rfl
  | cons a l ih =>
    simp only [List.foldl_cons]
    rw [if_neg (h a List.mem_cons_self)]
    exact ih _ (fun j hj => h j (List.mem_cons_of_mem _ hj))
theorem orB_none (x : UInt8) (a k base : Int) (h : ∀ j : Nat, j < 8 → ¬ (a ≤ base + (j : Int) ∧ base + (j : Int) < k)) : orB x a k base = x := fold_or_none _ _ _ (fun j hj => h j (List.mem_range.1 hj))
theorem orB_congr (x : UInt8) (a k k2 base : Int) (h : ∀ j : Nat, j < 8 → ((a ≤ base + (j : Int) ∧ base + (j : Int) < k) ↔ (a ≤ base + (j : Int) ∧ base + (j : Int) < k2))) : orB x a k base = orB x a k2 base := fold_or_congr _ _ _ _ (fun j hj => h j (List.mem_range.1 hj))
theorem range_split : ∀ q : Fin 8, List.range 8 = List.range q.val ++ (q.val :: (List.range (7 - q.val)).map (fun j => q.val + 1 + j)) := by decide
theorem orB_step (x : UInt8) (a k base : Int) (m : Nat) (hm : m < 8) (e : base + (m : Int) = k) (h1 : a ≤ k) : orB x a k base ||| shr8 128 m = orB x a (k + 1) base := by
  unfold orB
  rw [range_split ⟨m, hm⟩, List.foldl_append, List.foldl_append, List.foldl_cons, List.foldl_cons]
  have c1 : ¬ (a ≤ base + (m : Int) ∧ base + (m : Int) < k) := by omega
  have c2 : a ≤ base + (m : Int) ∧ base + (m : Int) < k + 1 := by omega
  rw [if_neg c1, if_pos c2]
  rw [fold_or_none ((List.range (7 - m)).map (fun j => m + 1 + j)) _ (fun j : Nat => a ≤ base + (j : Int) ∧ base + (j : Int) < k) (fun j hj => by
    obtain ⟨q, _, rfl⟩ := List.mem_map.1 hj
    omega)]
  rw [fold_or_none ((List.range (7 - m)).map (fun j => m + 1 + j)) _ (fun j : Nat => a ≤ base + (j : Int) ∧ base + (j : Int) < k + 1) (fun j hj => by
    obtain ⟨q, _, rfl⟩ := List.mem_map.1 hj
    omega)]
  rw [fold_or_congr (List.range m) x (fun j : Nat => a ≤ base + (j : Int) ∧ base + (j : Int) < k) (fun j : Nat => a ≤ base + (j : Int) ∧ base + (j : Int) < k + 1) (fun j hj => by
    have := List.mem_range.1 hj
    omega)]
theorem orV_get (v : Vector UInt8 16) (a k : Int) (i : Nat) (hi : i < 16) : (orV v a k)[i] = orB v[i] a k (8 * (i : Int)) := by simp [orV]
theorem orV_zero (v : Vector UInt8 16) (a : Int) : orV v a a = v := by
  apply Vector.ext
  intro i hi
  rw [orV_get]
  exact orB_none _ _ _ _ (fun j _ => by omega)
theorem orV_step (v : Vector UInt8 16) (a k : Int) (h0 : 0 ≤ a) (h1 : a ≤ k) (h2 : k < 128) (hk : (k / 8).toNat < 16) : (orV v a k).set (k / 8).toNat ((orV v a k)[(k / 8).toNat] ||| shr8 128 (k % 8).toNat) hk = orV v a (k + 1) := by
  apply Vector.ext
  intro i hi
  rw [Vector.getElem_set]
  by_cases e : (k / 8).toNat = i
  · subst e
    rw [if_pos rfl, orV_get, orV_get]
    exact orB_step _ _ _ _ _ (by omega) (by omega) h1
  · rw [if_neg e, orV_get, orV_get]
    exact orB_congr _ _ _ _ _ (fun j _ => by omega)
def lastA (p : SPrefix) : SAddr := ⟨p.addr.v6, orV p.addr.b p.bits (max p.bits (wd p.addr))⟩
/-- One more, from a byte on upwards. -/
def nextR (v : Vector UInt8 16) : Nat → Vector UInt8 16
  | 0 => v
  | k + 1 => if h : k < 16 then (if v[k] + 1 = 0 then nextR (v.set k (v[k] + 1) h) k else v.set k (v[k] + 1) h) else v
def aheadR (v : Vector UInt8 16) : Nat → Vector UInt8 16
  | 0 => v
  | k + 1 => if h : k < 16 then (if v[k] - 1 = 255 then aheadR (v.set k (v[k] - 1) h) k else v.set k (v[k] - 1) h) else v
def nB (a : SAddr) : Nat := bif a.v6 then 16 else 4
def nextA (a : SAddr) : SAddr := ⟨a.v6, nextR a.b (nB a)⟩
def aheadA (a : SAddr) : SAddr := ⟨a.v6, aheadR a.b (nB a)⟩
theorem wd_nB (a : SAddr) : (bif a.v6 then (128 : Int) else 32) / 8 - 1 = (nB a : Int) - 1 := by unfold nB; cases a.v6 <;> rfl
/-- The longer one of two prefixes of a kind. -/
def pickP (p q : SPrefix) (v : Bool) : SAddr := if p.addr.v6 = v ∧ q.bits ≤ p.bits then p.addr else if q.addr.v6 = v then q.addr else ⟨v, Vector.replicate 16 0⟩
def baseM (x y : SMatch) (v : Bool) : SLaw19Came := ⟨((max x.in_.from_ y.in_.from_).toNat : Int), { eHeader.zero with src := pickP x.src y.src v, dst := pickP x.dst y.dst v, proto := max x.proto y.proto, srcPort := max x.srcPort.from_ y.srcPort.from_, dstPort := max x.dstPort.from_ y.dstPort.from_ }⟩

theorem rlast_ok (p : SPrefix) (w : World) (hp : 0 ≤ p.bits) : Calls Try.prog 68 #[ePrefix.val p] w (RetV w (eAddr.val (lastA p))) := by
  have hw := wd_le p.addr
  refine enter0 28 Try.func68 rfl rfl (Nat.le_of_ble_eq_true rfl) ?_
  refine seq ?_
  refine region ?_
  refine cons (box (E := ePrefix) (.t rfl) (fun b1 => ?_))
  refine cons (alloc z27 (fun b2 => ?_))
  refine nil ?_
  refine pN ?_
  refine seq ?_
  refine region ?_
  refine cons (opv (Ev.fieldAddr (o := 0) (.t rfl) (by kernel_rfl)) ?_)
  refine cons (opv (Ev.load (xv := p.addr) ty27 (.t rfl) (ptsVar (by repeat first | exact mH | apply mT | apply mA) SPrefix.l_addr)) ?_)
  refine cons (alloc z27 (fun b3 => ?_))
  refine cons (storeV ty27 (Lens.id _) (.t rfl) (.t rfl) (by repeat first | exact Upd.head | apply Upd.tail | apply Upd.right) ?_)
  refine nil ?_
  refine pN ?_
  refine seq ?_
  refine seq ?_
  refine region ?_
  show Sat _ _ _ [Var b3 eAddr p.addr 27, Var b2 eAddr eAddr.zero 27, Var b1 ePrefix p 29]
  refine cons (opv (Ev.fieldAddr (o := 17) (.t rfl) (by kernel_rfl)) ?_)
  refine cons (opv (Ev.load (xv := p.bits) ty3 (.t rfl) (ptsVar (by repeat first | exact mH | apply mT | apply mA) SPrefix.l_bits)) ?_)
  refine cons (opv (Ev.assign (.t rfl)) ?_)
  refine nil ?_
  refine pN ?_
  refine block ?_
  refine loop (X := Int × (Vector UInt8 16)) (fun x : Int × (Vector UInt8 16) => (p.bits ≤ x.1 ∧ (x.1 ≤ p.bits ∨ x.1 ≤ wd p.addr)) ∧ (x.2 = orV p.addr.b p.bits x.1)) (fun x : Int × (Vector UInt8 16) => [(2, true, .pointer (some ⟨b2, 0, none⟩)), (3, true, .pointer (some ⟨b3, 0, none⟩)), (4, true, I x.1)]) (fun x : Int × (Vector UInt8 16) => [Var b3 eAddr ⟨p.addr.v6, x.2⟩ 27, Var b2 eAddr eAddr.zero 27]) (fun x : Int × (Vector UInt8 16) => (wd p.addr - x.1).toNat) (p.bits, p.addr.b) ⟨?_, ?_⟩ (by repeat first | exact Sub.nil | refine Sub.cons rfl ?_) (by repeat first | exact sR | exact sN | apply sC | apply sS | apply sA) (fun x hx => ?_)
  · omega
  · exact (orV_zero _ _).symm
  obtain ⟨k, u⟩ := x
  obtain ⟨hk, hu⟩ : (p.bits ≤ k ∧ (k ≤ p.bits ∨ k ≤ wd p.addr)) ∧ (u = orV p.addr.b p.bits k) := hx
  show Sat _ _ [(2, true, .pointer (some ⟨b2, 0, none⟩)), (3, true, .pointer (some ⟨b3, 0, none⟩)), (4, true, I k)] [Var b3 eAddr ⟨p.addr.v6, u⟩ 27, Var b2 eAddr eAddr.zero 27]
  refine seq ?_
  refine seq ?_
  refine region ?_
  refine cons (opv (Ev.move (.t rfl)) ?_)
  refine cons (opv (Ev.fieldAddr (o := 0) (.t rfl) (by kernel_rfl)) ?_)
  refine cons (opv (Ev.load ty4 (.t rfl) (ptsVar (by repeat first | exact mH | apply mT | apply mA) SAddr.l_v6)) ?_)
  refine cons (callv en55 (.cons (.t rfl) .nil) (fun w I => rmost_ok _ w) ?_)
  refine cons (opv (Ev.lss_i (.t rfl) (.t rfl)) ?_)
  refine nil ?_
  refine pN ?_
  first | refine condD rfl (fun hlt => ?_) (fun hge => ?_) | refine cond rfl (fun hlt => ?_) (fun hge => ?_)
  · try simp only [Bool.and_eq_true, Bool.or_eq_true, Bool.or_eq_false_iff, Bool.and_eq_false_iff, Bool.not_eq_true', Bool.not_eq_false', decide_eq_true_eq, decide_eq_false_iff_not, Decidable.not_not] at hlt
    have hlt : k < wd p.addr := hlt
    refine skip ?_
    refine pN ?_
    refine seq ?_
    refine block ?_
    refine drawS 3 rfl (by repeat first | exact Rem.head | apply Rem.tail) (by kernel_rfl) ?_
    have hk16 : (k / 8).toNat < 16 := by omega
    refine take 0 rfl (by kernel_rfl) (by kernel_rfl) (by kernel_rfl) (by repeat first | exact sR | exact sN | apply sC | apply sS | apply sA) (Ev.move (.t rfl)) ?_
    refine take 1 rfl (by kernel_rfl) (by kernel_rfl) (by kernel_rfl) (by repeat first | exact sR | exact sN | apply sC | apply sS | apply sA) (Ev.quo_n (.t rfl) (.c (v := I 8) rfl) (fun _ => by omega) (fun _ => by omega) (fun _ => by omega)) ?_
    refine take 2 rfl (by kernel_rfl) (by kernel_rfl) (by kernel_rfl) (by repeat first | exact sR | exact sN | apply sC | apply sS | apply sA) (Ev.fieldAddr (o := 1) (.t rfl) (by kernel_rfl)) ?_
    refine take 3 rfl (by kernel_rfl) (by kernel_rfl) (by kernel_rfl) (by repeat first | exact sR | exact sN | apply sC | apply sS | apply sA) (Ev.indexAddrA Try.underlying25 ty5 (.t rfl) (.t rfl) (fun _ => by omega)) ?_
    refine take 5 rfl (by kernel_rfl) (by kernel_rfl) (by kernel_rfl) (by repeat first | exact sR | exact sN | apply sC | apply sS | apply sA) (Ev.move (.t rfl)) ?_
    refine take 6 rfl (by kernel_rfl) (by kernel_rfl) (by kernel_rfl) (by repeat first | exact sR | exact sN | apply sC | apply sS | apply sA) (Ev.rem_n (.t rfl) (.c (v := I 8) rfl) (fun _ => by omega) (fun _ => by omega)) ?_
    refine take 7 rfl (by kernel_rfl) (by kernel_rfl) (by kernel_rfl) (by repeat first | exact sR | exact sN | apply sC | apply sS | apply sA) (Ev.shr_u8 (.c (v := U8 128) rfl) (.t rfl) (fun _ => by omega)) ?_
    refine take 9 rfl (by kernel_rfl) (by kernel_rfl) (by kernel_rfl) (by repeat first | exact sR | exact sN | apply sC | apply sS | apply sA) (Ev.fieldAddr (o := 1) (.t rfl) (by kernel_rfl)) ?_
    refine all [4] (by kernel_rfl) (by decide) (.cons rfl ?_ .nil)
    refine (opv (Ev.load ty5 (.t rfl) (ptsVar (by repeat first | exact mH | apply mT | apply mA) (Lens.comp SAddr.l_b (lArr (n := 16) u8E _ (by omega))))) ?_)
    refine heldN_of (by repeat first | exact sR | exact sN | apply sC | apply sS | apply sA) ?_
    refine take 8 rfl (by kernel_rfl) (by kernel_rfl) (by kernel_rfl) (by repeat first | exact sR | exact sN | apply sC | apply sS | apply sA) (Ev.or_u8 (.t rfl) (.t rfl)) ?_
    refine take 10 rfl (by kernel_rfl) (by kernel_rfl) (by kernel_rfl) (by repeat first | exact sR | exact sN | apply sC | apply sS | apply sA) (Ev.indexAddrA Try.underlying25 ty5 (.t rfl) (.t rfl) (fun _ => by omega)) ?_
    refine all [11] (by kernel_rfl) (by decide) (.cons rfl ?_ .nil)
    refine (storeV ty5 (Lens.comp SAddr.l_b (lArr (n := 16) u8E _ (by omega))) (.t rfl) (.t rfl) (by repeat first | exact Upd.head | apply Upd.tail | apply Upd.right) ?_)
    refine heldN_of (by repeat first | exact sR | exact sN | apply sC | apply sS | apply sA) ?_
    refine over (by kernel_rfl) ?_
    refine bN ?_
    refine pN ?_
    refine region ?_
    refine cons (opv (Ev.move (.t rfl)) ?_)
    refine cons (opv (Ev.add_i (.t rfl) (.c (v := I 1) rfl) (fun _ => by omega)) ?_)
    refine cons (opv (Ev.assign (.t rfl)) ?_)
    refine nil ?_
    refine pN ?_
    refine next (X := Int × (Vector UInt8 16)) (k + 1, _) ⟨?_, ?_⟩ ?_ (by repeat first | exact Sub.nil | refine Sub.cons rfl ?_) (by repeat first | exact sR | exact sN | apply sC | apply sS | apply sA)
    · try dsimp only
      omega
    · try dsimp only
      subst hu
      exact orV_step p.addr.b p.bits k hp hk.1 (by omega) hk16
    · try dsimp only
      omega
  · try simp only [Bool.and_eq_true, Bool.or_eq_true, Bool.or_eq_false_iff, Bool.and_eq_false_iff, Bool.not_eq_true', Bool.not_eq_false', decide_eq_true_eq, decide_eq_false_iff_not, Decidable.not_not] at hge
    have hge : ¬ k < wd p.addr := hge
    refine exit ?_
    refine pX ?_
    refine pX ?_
    refine bX ?_
    refine pN ?_
    refine seq ?_
    refine region ?_
    refine cons (opv (Ev.load ty27 (.t rfl) (ptsVar (by repeat first | exact mH | apply mT | apply mA) (Lens.id _))) ?_)
    refine cons (storeV ty27 (Lens.id _) (.t rfl) (.t rfl) (by repeat first | exact Upd.head | apply Upd.tail | apply Upd.right) ?_)
    refine nil ?_
    refine pN ?_
    refine ret ?_
    refine done rfl (.cell rfl (fun w I => run_loadVar_pts ty27 (ptsVar (by repeat first | exact mH | apply mT | apply mA) (Lens.id _) w I)) .nil) (retE ?_)
    have e : k = max p.bits (wd p.addr) := by omega
    rw [hu, e]; rfl

theorem rnext_ok (a : SAddr) (w : World) : Calls Try.prog 70 #[eAddr.val a] w (RetV w (eAddr.val (nextA a))) := by
  have hbf : (bif SAddr.l_v6.get a then (128 : Int) else 32) = 128 ∨ (bif SAddr.l_v6.get a then (128 : Int) else 32) = 32 := by cases SAddr.l_v6.get a <;> simp
  refine enter0 27 Try.func70 rfl rfl (Nat.le_of_ble_eq_true rfl) ?_
  refine seq ?_
  refine region ?_
  refine cons (box (E := eAddr) (.t rfl) (fun b1 => ?_))
  refine cons (alloc z27 (fun b2 => ?_))
  refine nil ?_
  refine pN ?_
  refine seq ?_
  refine seq ?_
  refine region ?_
  refine cons (opv (Ev.fieldAddr (o := 0) (.t rfl) (by kernel_rfl)) ?_)
  refine cons (opv (Ev.load ty4 (.t rfl) (ptsVar (by repeat first | exact mH | apply mT | apply mA) SAddr.l_v6)) ?_)
  refine cons (callv en55 (.cons (.t rfl) .nil) (fun w I => rmost_ok _ w) ?_)
  refine cons (opv (Ev.quo_n (.t rfl) (.c (v := I 8) rfl) (fun _ => by omega) (fun _ => by omega) (fun _ => by omega)) ?_)
  refine cons (opv (Ev.to (v' := I ((nB a : Int) - 1)) (Ev.sub_i (.t rfl) (.c (v := I 1) rfl) (fun _ => by omega)) (congrArg I (wd_nB a))) ?_)
  refine cons (opv (Ev.assign (.t rfl)) ?_)
  refine nil ?_
  refine pN ?_
  refine block ?_
  refine loop (X := Int × (Vector UInt8 16)) (fun x : Int × (Vector UInt8 16) => (-1 ≤ x.1 ∧ x.1 < 16) ∧ (nextR x.2 (x.1 + 1).toNat = nextR a.b (nB a))) (fun x : Int × (Vector UInt8 16) => [(1, true, .pointer (some ⟨b1, 0, none⟩)), (2, true, .pointer (some ⟨b2, 0, none⟩)), (3, true, I x.1)]) (fun x : Int × (Vector UInt8 16) => [Var b2 eAddr eAddr.zero 27, Var b1 eAddr ⟨a.v6, x.2⟩ 27]) (fun x : Int × (Vector UInt8 16) => (x.1 + 1).toNat) ((nB a : Int) - 1, a.b) ⟨?_, ?_⟩ (by repeat first | exact Sub.nil | refine Sub.cons rfl ?_) (by repeat first | exact sR | exact sN | apply sC | apply sS | apply sA) (fun x hx => ?_)
  · dsimp only
    unfold nB
    cases a.v6 <;> simp
  · congr 1; omega
  obtain ⟨k, u⟩ := x
  obtain ⟨hk, hu⟩ : (-1 ≤ k ∧ k < 16) ∧ (nextR u (k + 1).toNat = nextR a.b (nB a)) := hx
  show Sat _ _ [(1, true, .pointer (some ⟨b1, 0, none⟩)), (2, true, .pointer (some ⟨b2, 0, none⟩)), (3, true, I k)] [Var b2 eAddr eAddr.zero 27, Var b1 eAddr ⟨a.v6, u⟩ 27]
  refine seq ?_
  refine seq ?_
  refine region ?_
  refine cons (opv (Ev.move (.t rfl)) ?_)
  refine cons (opv (Ev.geq_i (.t rfl) (.c (v := I 0) rfl)) ?_)
  refine nil ?_
  refine pN ?_
  first | refine condD rfl (fun hlt => ?_) (fun hge => ?_) | refine cond rfl (fun hlt => ?_) (fun hge => ?_)
  · try simp only [Bool.and_eq_true, Bool.or_eq_true, Bool.or_eq_false_iff, Bool.and_eq_false_iff, Bool.not_eq_true', Bool.not_eq_false', decide_eq_true_eq, decide_eq_false_iff_not, Decidable.not_not] at hlt
    refine skip ?_
    refine pN ?_
    refine seq ?_
    refine block ?_
    refine seq ?_
    refine region ?_
    have hk16 : k.toNat < 16 := by omega
    refine cons (opv (Ev.move (.t rfl)) ?_)
    refine cons (opv (Ev.fieldAddr (o := 1) (.t rfl) (by kernel_rfl)) ?_)
    refine cons (opv (Ev.indexAddrA Try.underlying25 ty5 (.t rfl) (.t rfl) (fun _ => by omega)) ?_)
    refine cons (opv (Ev.load ty5 (.t rfl) (ptsVar (by repeat first | exact mH | apply mT | apply mA) (Lens.comp SAddr.l_b (lArr (n := 16) u8E _ (by omega))))) ?_)
    refine cons (opv (Ev.add_u8 (.t rfl) (.c (v := U8 1) rfl)) ?_)
    refine cons (opv (Ev.fieldAddr (o := 1) (.t rfl) (by kernel_rfl)) ?_)
    refine cons (opv (Ev.indexAddrA Try.underlying25 ty5 (.t rfl) (.t rfl) (fun _ => by omega)) ?_)
    refine cons (storeV ty5 (Lens.comp SAddr.l_b (lArr (n := 16) u8E _ (by omega))) (.t rfl) (.t rfl) (by repeat first | exact Upd.head | apply Upd.tail | apply Upd.right) ?_)
    refine nil ?_
    refine pN ?_
    refine seq ?_
    refine region ?_
    refine cons (opv (Ev.move (.t rfl)) ?_)
    refine cons (opv (Ev.fieldAddr (o := 1) (.t rfl) (by kernel_rfl)) ?_)
    refine cons (opv (Ev.indexAddrA Try.underlying25 ty5 (.t rfl) (.t rfl) (fun _ => by omega)) ?_)
    refine cons (opv (Ev.load ty5 (.t rfl) (ptsVar (by repeat first | exact mH | apply mT | apply mA) (Lens.comp SAddr.l_b (lArr (n := 16) u8E _ (by omega))))) ?_)
    refine cons (opv (Ev.neq_u8 (.t rfl) (.c (v := U8 0) rfl)) ?_)
    refine nil ?_
    refine pN ?_
    first | refine condD rfl (fun hz => ?_) (fun hz => ?_) | refine cond rfl (fun hz => ?_) (fun hz => ?_)
    · try simp only [Bool.and_eq_true, Bool.or_eq_true, Bool.or_eq_false_iff, Bool.and_eq_false_iff, Bool.not_eq_true', Bool.not_eq_false', decide_eq_true_eq, decide_eq_false_iff_not, Decidable.not_not] at hz
      have hz : ¬ u[k.toNat] + 1 = 0 := by simpa [Lens.comp, lArr] using hz
      refine seq ?_
      refine region ?_
      refine cons (opv (Ev.load ty27 (.t rfl) (ptsVar (by repeat first | exact mH | apply mT | apply mA) (Lens.id _))) ?_)
      refine cons (storeV ty27 (Lens.id _) (.t rfl) (.t rfl) (by repeat first | exact Upd.head | apply Upd.tail | apply Upd.right) ?_)
      refine nil ?_
      refine pN ?_
      refine ret ?_
      refine bR ?_
      refine pR ?_
      refine pR ?_
      refine bR ?_
      refine pR ?_
      refine done rfl (.cell rfl (fun w I => run_loadVar_pts ty27 (ptsVar (by repeat first | exact mH | apply mT | apply mA) (Lens.id _) w I)) .nil) (retE ?_)
      have e1 : (k + 1).toNat = k.toNat + 1 := by omega
      rw [e1] at hu
      have hv : nextR u (k.toNat + 1) = u.set k.toNat (u[k.toNat] + 1) hk16 := by
        show (if h : k.toNat < 16 then (if u[k.toNat] + 1 = 0 then nextR (u.set k.toNat (u[k.toNat] + 1) h) k.toNat else u.set k.toNat (u[k.toNat] + 1) h) else u) = _
        rw [dif_pos hk16, if_neg hz]
      rw [hv] at hu
      unfold nextA
      rw [← hu]; rfl
    · try simp only [Bool.and_eq_true, Bool.or_eq_true, Bool.or_eq_false_iff, Bool.and_eq_false_iff, Bool.not_eq_true', Bool.not_eq_false', decide_eq_true_eq, decide_eq_false_iff_not, Decidable.not_not] at hz
      have hz : u[k.toNat] + 1 = 0 := by simpa [Lens.comp, lArr] using hz
      refine skip ?_
      refine bN ?_
      refine pN ?_
      refine region ?_
      refine cons (opv (Ev.move (.t rfl)) ?_)
      refine cons (opv (Ev.sub_i (.t rfl) (.c (v := I 1) rfl) (fun _ => by omega)) ?_)
      refine cons (opv (Ev.assign (.t rfl)) ?_)
      refine nil ?_
      refine pN ?_
      refine next (X := Int × (Vector UInt8 16)) (k - 1, _) ⟨?_, ?_⟩ ?_ (by repeat first | exact Sub.nil | refine Sub.cons rfl ?_) (by repeat first | exact sR | exact sN | apply sC | apply sS | apply sA)
      · try dsimp only
        omega
      · try dsimp only
        rw [← hu]
        have e1 : (k + 1).toNat = k.toNat + 1 := by omega
        have e2 : (k - 1 + 1).toNat = k.toNat := by omega
        rw [e1, e2]
        symm
        show (if h : k.toNat < 16 then (if u[k.toNat] + 1 = 0 then nextR (u.set k.toNat (u[k.toNat] + 1) h) k.toNat else u.set k.toNat (u[k.toNat] + 1) h) else u) = _
        rw [dif_pos hk16, if_pos hz]
        rfl
      · try dsimp only
        omega
  · try simp only [Bool.and_eq_true, Bool.or_eq_true, Bool.or_eq_false_iff, Bool.and_eq_false_iff, Bool.not_eq_true', Bool.not_eq_false', decide_eq_true_eq, decide_eq_false_iff_not, Decidable.not_not] at hge
    refine exit ?_
    refine pX ?_
    refine pX ?_
    refine bX ?_
    refine pN ?_
    refine seq ?_
    refine region ?_
    refine cons (opv (Ev.load ty27 (.t rfl) (ptsVar (by repeat first | exact mH | apply mT | apply mA) (Lens.id _))) ?_)
    refine cons (storeV ty27 (Lens.id _) (.t rfl) (.t rfl) (by repeat first | exact Upd.head | apply Upd.tail | apply Upd.right) ?_)
    refine nil ?_
    refine pN ?_
    refine ret ?_
    refine done rfl (.cell rfl (fun w I => run_loadVar_pts ty27 (ptsVar (by repeat first | exact mH | apply mT | apply mA) (Lens.id _) w I)) .nil) (retE ?_)
    have e1 : (k + 1).toNat = 0 := by omega
    rw [e1] at hu
    have hu : u = nextR a.b (nB a) := hu
    unfold nextA
    rw [← hu]; rfl

theorem rahead_ok (a : SAddr) (w : World) : Calls Try.prog 69 #[eAddr.val a] w (RetV w (eAddr.val (aheadA a))) := by
  have hbf : (bif SAddr.l_v6.get a then (128 : Int) else 32) = 128 ∨ (bif SAddr.l_v6.get a then (128 : Int) else 32) = 32 := by cases SAddr.l_v6.get a <;> simp
  refine enter0 27 Try.func69 rfl rfl (Nat.le_of_ble_eq_true rfl) ?_
  refine seq ?_
  refine region ?_
  refine cons (box (E := eAddr) (.t rfl) (fun b1 => ?_))
  refine cons (alloc z27 (fun b2 => ?_))
  refine nil ?_
  refine pN ?_
  refine seq ?_
  refine seq ?_
  refine region ?_
  refine cons (opv (Ev.fieldAddr (o := 0) (.t rfl) (by kernel_rfl)) ?_)
  refine cons (opv (Ev.load ty4 (.t rfl) (ptsVar (by repeat first | exact mH | apply mT | apply mA) SAddr.l_v6)) ?_)
  refine cons (callv en55 (.cons (.t rfl) .nil) (fun w I => rmost_ok _ w) ?_)
  refine cons (opv (Ev.quo_n (.t rfl) (.c (v := I 8) rfl) (fun _ => by omega) (fun _ => by omega) (fun _ => by omega)) ?_)
  refine cons (opv (Ev.to (v' := I ((nB a : Int) - 1)) (Ev.sub_i (.t rfl) (.c (v := I 1) rfl) (fun _ => by omega)) (congrArg I (wd_nB a))) ?_)
  refine cons (opv (Ev.assign (.t rfl)) ?_)
  refine nil ?_
  refine pN ?_
  refine block ?_
  refine loop (X := Int × (Vector UInt8 16)) (fun x : Int × (Vector UInt8 16) => (-1 ≤ x.1 ∧ x.1 < 16) ∧ (aheadR x.2 (x.1 + 1).toNat = aheadR a.b (nB a))) (fun x : Int × (Vector UInt8 16) => [(1, true, .pointer (some ⟨b1, 0, none⟩)), (2, true, .pointer (some ⟨b2, 0, none⟩)), (3, true, I x.1)]) (fun x : Int × (Vector UInt8 16) => [Var b2 eAddr eAddr.zero 27, Var b1 eAddr ⟨a.v6, x.2⟩ 27]) (fun x : Int × (Vector UInt8 16) => (x.1 + 1).toNat) ((nB a : Int) - 1, a.b) ⟨?_, ?_⟩ (by repeat first | exact Sub.nil | refine Sub.cons rfl ?_) (by repeat first | exact sR | exact sN | apply sC | apply sS | apply sA) (fun x hx => ?_)
  · dsimp only
    unfold nB
    cases a.v6 <;> simp
  · congr 1; omega
  obtain ⟨k, u⟩ := x
  obtain ⟨hk, hu⟩ : (-1 ≤ k ∧ k < 16) ∧ (aheadR u (k + 1).toNat = aheadR a.b (nB a)) := hx
  show Sat _ _ [(1, true, .pointer (some ⟨b1, 0, none⟩)), (2, true, .pointer (some ⟨b2, 0, none⟩)), (3, true, I k)] [Var b2 eAddr eAddr.zero 27, Var b1 eAddr ⟨a.v6, u⟩ 27]
  refine seq ?_
  refine seq ?_
  refine region ?_
  refine cons (opv (Ev.move (.t rfl)) ?_)
  refine cons (opv (Ev.geq_i (.t rfl) (.c (v := I 0) rfl)) ?_)
  refine nil ?_
  refine pN ?_
  first | refine condD rfl (fun hlt => ?_) (fun hge => ?_) | refine cond rfl (fun hlt => ?_) (fun hge => ?_)
  · try simp only [Bool.and_eq_true, Bool.or_eq_true, Bool.or_eq_false_iff, Bool.and_eq_false_iff, Bool.not_eq_true', Bool.not_eq_false', decide_eq_true_eq, decide_eq_false_iff_not, Decidable.not_not] at hlt
    refine skip ?_
    refine pN ?_
    refine seq ?_
    refine block ?_
    refine seq ?_
    refine region ?_
    have hk16 : k.toNat < 16 := by omega
    refine cons (opv (Ev.move (.t rfl)) ?_)
    refine cons (opv (Ev.fieldAddr (o := 1) (.t rfl) (by kernel_rfl)) ?_)
    refine cons (opv (Ev.indexAddrA Try.underlying25 ty5 (.t rfl) (.t rfl) (fun _ => by omega)) ?_)
    refine cons (opv (Ev.load ty5 (.t rfl) (ptsVar (by repeat first | exact mH | apply mT | apply mA) (Lens.comp SAddr.l_b (lArr (n := 16) u8E _ (by omega))))) ?_)
    refine cons (opv (Ev.sub_u8 (.t rfl) (.c (v := U8 1) rfl)) ?_)
    refine cons (opv (Ev.fieldAddr (o := 1) (.t rfl) (by kernel_rfl)) ?_)
    refine cons (opv (Ev.indexAddrA Try.underlying25 ty5 (.t rfl) (.t rfl) (fun _ => by omega)) ?_)
    refine cons (storeV ty5 (Lens.comp SAddr.l_b (lArr (n := 16) u8E _ (by omega))) (.t rfl) (.t rfl) (by repeat first | exact Upd.head | apply Upd.tail | apply Upd.right) ?_)
    refine nil ?_
    refine pN ?_
    refine seq ?_
    refine region ?_
    refine cons (opv (Ev.move (.t rfl)) ?_)
    refine cons (opv (Ev.fieldAddr (o := 1) (.t rfl) (by kernel_rfl)) ?_)
    refine cons (opv (Ev.indexAddrA Try.underlying25 ty5 (.t rfl) (.t rfl) (fun _ => by omega)) ?_)
    refine cons (opv (Ev.load ty5 (.t rfl) (ptsVar (by repeat first | exact mH | apply mT | apply mA) (Lens.comp SAddr.l_b (lArr (n := 16) u8E _ (by omega))))) ?_)
    refine cons (opv (Ev.neq_u8 (.t rfl) (.c (v := U8 255) rfl)) ?_)
    refine nil ?_
    refine pN ?_
    first | refine condD rfl (fun hz => ?_) (fun hz => ?_) | refine cond rfl (fun hz => ?_) (fun hz => ?_)
    · try simp only [Bool.and_eq_true, Bool.or_eq_true, Bool.or_eq_false_iff, Bool.and_eq_false_iff, Bool.not_eq_true', Bool.not_eq_false', decide_eq_true_eq, decide_eq_false_iff_not, Decidable.not_not] at hz
      have hz : ¬ u[k.toNat] - 1 = 255 := by simpa [Lens.comp, lArr] using hz
      refine seq ?_
      refine region ?_
      refine cons (opv (Ev.load ty27 (.t rfl) (ptsVar (by repeat first | exact mH | apply mT | apply mA) (Lens.id _))) ?_)
      refine cons (storeV ty27 (Lens.id _) (.t rfl) (.t rfl) (by repeat first | exact Upd.head | apply Upd.tail | apply Upd.right) ?_)
      refine nil ?_
      refine pN ?_
      refine ret ?_
      refine bR ?_
      refine pR ?_
      refine pR ?_
      refine bR ?_
      refine pR ?_
      refine done rfl (.cell rfl (fun w I => run_loadVar_pts ty27 (ptsVar (by repeat first | exact mH | apply mT | apply mA) (Lens.id _) w I)) .nil) (retE ?_)
      have e1 : (k + 1).toNat = k.toNat + 1 := by omega
      rw [e1] at hu
      have hv : aheadR u (k.toNat + 1) = u.set k.toNat (u[k.toNat] - 1) hk16 := by
        show (if h : k.toNat < 16 then (if u[k.toNat] - 1 = 255 then aheadR (u.set k.toNat (u[k.toNat] - 1) h) k.toNat else u.set k.toNat (u[k.toNat] - 1) h) else u) = _
        rw [dif_pos hk16, if_neg hz]
      rw [hv] at hu
      unfold aheadA
      rw [← hu]; rfl
    · try simp only [Bool.and_eq_true, Bool.or_eq_true, Bool.or_eq_false_iff, Bool.and_eq_false_iff, Bool.not_eq_true', Bool.not_eq_false', decide_eq_true_eq, decide_eq_false_iff_not, Decidable.not_not] at hz
      have hz : u[k.toNat] - 1 = 255 := by simpa [Lens.comp, lArr] using hz
      refine skip ?_
      refine bN ?_
      refine pN ?_
      refine region ?_
      refine cons (opv (Ev.move (.t rfl)) ?_)
      refine cons (opv (Ev.sub_i (.t rfl) (.c (v := I 1) rfl) (fun _ => by omega)) ?_)
      refine cons (opv (Ev.assign (.t rfl)) ?_)
      refine nil ?_
      refine pN ?_
      refine next (X := Int × (Vector UInt8 16)) (k - 1, _) ⟨?_, ?_⟩ ?_ (by repeat first | exact Sub.nil | refine Sub.cons rfl ?_) (by repeat first | exact sR | exact sN | apply sC | apply sS | apply sA)
      · try dsimp only
        omega
      · try dsimp only
        rw [← hu]
        have e1 : (k + 1).toNat = k.toNat + 1 := by omega
        have e2 : (k - 1 + 1).toNat = k.toNat := by omega
        rw [e1, e2]
        symm
        show (if h : k.toNat < 16 then (if u[k.toNat] - 1 = 255 then aheadR (u.set k.toNat (u[k.toNat] - 1) h) k.toNat else u.set k.toNat (u[k.toNat] - 1) h) else u) = _
        rw [dif_pos hk16, if_pos hz]
        rfl
      · try dsimp only
        omega
  · try simp only [Bool.and_eq_true, Bool.or_eq_true, Bool.or_eq_false_iff, Bool.and_eq_false_iff, Bool.not_eq_true', Bool.not_eq_false', decide_eq_true_eq, decide_eq_false_iff_not, Decidable.not_not] at hge
    refine exit ?_
    refine pX ?_
    refine pX ?_
    refine bX ?_
    refine pN ?_
    refine seq ?_
    refine region ?_
    refine cons (opv (Ev.load ty27 (.t rfl) (ptsVar (by repeat first | exact mH | apply mT | apply mA) (Lens.id _))) ?_)
    refine cons (storeV ty27 (Lens.id _) (.t rfl) (.t rfl) (by repeat first | exact Upd.head | apply Upd.tail | apply Upd.right) ?_)
    refine nil ?_
    refine pN ?_
    refine ret ?_
    refine done rfl (.cell rfl (fun w I => run_loadVar_pts ty27 (ptsVar (by repeat first | exact mH | apply mT | apply mA) (Lens.id _) w I)) .nil) (retE ?_)
    have e1 : (k + 1).toNat = 0 := by omega
    rw [e1] at hu
    have hu : u = aheadR a.b (nB a) := hu
    unfold aheadA
    rw [← hu]; rfl

theorem corn1_ok (m1 m2 : SMatch) (v : Bool) (p : Nat) (w : World) (hp : PtsTo bE w p 0 v) : Calls Try.prog 52 #[eMatch.val m1, eMatch.val m2, .pointer (some ⟨p, 0, none⟩)] w (RetV w (eLaw19Came.val (baseM m1 m2 v))) := by
  refine enter0 104 Try.func52 rfl rfl (Nat.le_of_ble_eq_true rfl) ?_
  refine seq ?_
  refine region ?_
  refine cons (box (E := eMatch) (.t rfl) (fun b1 => ?_))
  refine cons (box (E := eMatch) (.t rfl) (fun b2 => ?_))
  refine cons (alloc z49 (fun b3 => ?_))
  refine nil ?_
  refine pN ?_
  refine seq ?_
  refine region ?_
  refine cons (opv (Ev.fieldAddr (o := 1) (.t rfl) (by kernel_rfl)) ?_)
  refine cons (opv (Ev.fieldAddr (o := 0) (.t rfl) (by kernel_rfl)) ?_)
  refine cons (opv (Ev.load (xv := m1.in_.from_) ty22 (.t rfl) (ptsVar (by repeat first | exact mH | apply mT | apply mA) (Lens.comp SMatch.l_in_ SSpan.l_from_))) ?_)
  refine cons (opv (Ev.fieldAddr (o := 1) (.t rfl) (by kernel_rfl)) ?_)
  refine cons (opv (Ev.fieldAddr (o := 0) (.t rfl) (by kernel_rfl)) ?_)
  refine cons (opv (Ev.load (xv := m2.in_.from_) ty22 (.t rfl) (ptsVar (by repeat first | exact mH | apply mT | apply mA) (Lens.comp SMatch.l_in_ SSpan.l_from_))) ?_)
  refine cons (opv (Ev.max_u16 (.t rfl) (.t rfl)) ?_)
  refine cons (opv (Ev.conv_u16_i Try.underlying3 Try.underlying22 (.t rfl)) ?_)
  refine cons (opv (Ev.buildS (fs := _) (places := [(0, 1), (1, 43)]) z49 rfl Try.underlying49 (by kernel_rfl) (.cons (.t rfl) .nil) (Fills.cons SLaw19Came.l_in_ rfl Fills.nil)) ?_)
  refine cons (alloc z49 (fun b4 => ?_))
  refine cons (storeV ty49 (Lens.id _) (.t rfl) (.t rfl) (by repeat first | exact Upd.head | apply Upd.tail | apply Upd.right) ?_)
  refine nil ?_
  refine pN ?_
  refine seq ?_
  refine region ?_
  refine cons (opv (Ev.load ty4 (.t rfl) (ptsL (fun w I => hp.keep I.keeps) (Lens.id _))) ?_)
  refine cons (opv (Ev.buildS (fs := _) (places := [(0, 1), (1, 16)]) z27 rfl Try.underlying27 (by kernel_rfl) (.cons (.t rfl) .nil) (Fills.cons SAddr.l_v6 rfl Fills.nil)) ?_)
  refine cons (opv (Ev.load ty4 (.t rfl) (ptsL (fun w I => hp.keep I.keeps) (Lens.id _))) ?_)
  refine cons (opv (Ev.buildS (fs := _) (places := [(0, 1), (1, 16)]) z27 rfl Try.underlying27 (by kernel_rfl) (.cons (.t rfl) .nil) (Fills.cons SAddr.l_v6 rfl Fills.nil)) ?_)
  refine cons (opv (Ev.fieldAddr (o := 39) (.t rfl) (by kernel_rfl)) ?_)
  refine cons (opv (Ev.load (xv := m1.proto) ty5 (.t rfl) (ptsVar (by repeat first | exact mH | apply mT | apply mA) SMatch.l_proto)) ?_)
  refine cons (opv (Ev.fieldAddr (o := 39) (.t rfl) (by kernel_rfl)) ?_)
  refine cons (opv (Ev.load (xv := m2.proto) ty5 (.t rfl) (ptsVar (by repeat first | exact mH | apply mT | apply mA) SMatch.l_proto)) ?_)
  refine cons (opv (Ev.max_u8 (.t rfl) (.t rfl)) ?_)
  refine cons (opv (Ev.fieldAddr (o := 40) (.t rfl) (by kernel_rfl)) ?_)
  refine cons (opv (Ev.fieldAddr (o := 0) (.t rfl) (by kernel_rfl)) ?_)
  refine cons (opv (Ev.load (xv := m1.srcPort.from_) ty22 (.t rfl) (ptsVar (by repeat first | exact mH | apply mT | apply mA) (Lens.comp SMatch.l_srcPort SSpan.l_from_))) ?_)
  refine cons (opv (Ev.fieldAddr (o := 40) (.t rfl) (by kernel_rfl)) ?_)
  refine cons (opv (Ev.fieldAddr (o := 0) (.t rfl) (by kernel_rfl)) ?_)
  refine cons (opv (Ev.load (xv := m2.srcPort.from_) ty22 (.t rfl) (ptsVar (by repeat first | exact mH | apply mT | apply mA) (Lens.comp SMatch.l_srcPort SSpan.l_from_))) ?_)
  refine cons (opv (Ev.max_u16 (.t rfl) (.t rfl)) ?_)
  refine cons (opv (Ev.fieldAddr (o := 42) (.t rfl) (by kernel_rfl)) ?_)
  refine cons (opv (Ev.fieldAddr (o := 0) (.t rfl) (by kernel_rfl)) ?_)
  refine cons (opv (Ev.load (xv := m1.dstPort.from_) ty22 (.t rfl) (ptsVar (by repeat first | exact mH | apply mT | apply mA) (Lens.comp SMatch.l_dstPort SSpan.l_from_))) ?_)
  refine cons (opv (Ev.fieldAddr (o := 42) (.t rfl) (by kernel_rfl)) ?_)
  refine cons (opv (Ev.fieldAddr (o := 0) (.t rfl) (by kernel_rfl)) ?_)
  refine cons (opv (Ev.load (xv := m2.dstPort.from_) ty22 (.t rfl) (ptsVar (by repeat first | exact mH | apply mT | apply mA) (Lens.comp SMatch.l_dstPort SSpan.l_from_))) ?_)
  refine cons (opv (Ev.max_u16 (.t rfl) (.t rfl)) ?_)
  refine cons (opv (Ev.buildS (fs := _) (places := [(0, 17), (17, 17), (34, 1), (35, 1), (36, 1), (37, 1), (38, 1), (39, 1), (40, 1), (41, 1), (42, 1)]) z35 rfl Try.underlying35 (by kernel_rfl) (.cons (.t rfl) (.cons (.t rfl) (.cons (.t rfl) (.cons (.t rfl) (.cons (.t rfl) .nil))))) (Fills.cons SHeader.l_src rfl (Fills.cons SHeader.l_dst rfl (Fills.cons SHeader.l_proto rfl (Fills.cons SHeader.l_srcPort rfl (Fills.cons SHeader.l_dstPort rfl Fills.nil)))))) ?_)
  refine cons (opv (Ev.fieldAddr (o := 1) (.t rfl) (by kernel_rfl)) ?_)
  refine cons (storeV ty35 SLaw19Came.l_h (.t rfl) (.t rfl) (by repeat first | exact Upd.head | apply Upd.tail | apply Upd.right) ?_)
  refine nil ?_
  refine pN ?_
  refine cut (X := SLaw19Came) (fun x : SLaw19Came => (x = ⟨((max m1.in_.from_ m2.in_.from_).toNat : Int), { eHeader.zero with src := pickP m1.src m2.src v, dst := ⟨v, Vector.replicate 16 0⟩, proto := max m1.proto m2.proto, srcPort := max m1.srcPort.from_ m2.srcPort.from_, dstPort := max m1.dstPort.from_ m2.dstPort.from_ }⟩)) (fun x : SLaw19Came => [(2, true, .pointer (some ⟨p, 0, none⟩)), (3, true, .pointer (some ⟨b1, 0, none⟩)), (4, true, .pointer (some ⟨b2, 0, none⟩)), (5, true, .pointer (some ⟨b3, 0, none⟩)), (6, true, .pointer (some ⟨b4, 0, none⟩))]) (fun x : SLaw19Came => [Var b4 eLaw19Came x 49, Var b3 eLaw19Came eLaw19Came.zero 49, Var b2 eMatch m2 31, Var b1 eMatch m1 31]) ?_ (fun x hx => ?_)
  · refine seq ?_
    refine region ?_
    refine cons (opv (Ev.fieldAddr (o := 3) (.t rfl) (by kernel_rfl)) ?_)
    refine cons (opv (Ev.fieldAddr (o := 0) (.t rfl) (by kernel_rfl)) ?_)
    refine cons (opv (Ev.fieldAddr (o := 0) (.t rfl) (by kernel_rfl)) ?_)
    refine cons (opv (Ev.load (xv := m1.src.addr.v6) ty4 (.t rfl) (ptsVar (by repeat first | exact mH | apply mT | apply mA) (Lens.comp (Lens.comp SMatch.l_src SPrefix.l_addr) SAddr.l_v6))) ?_)
    refine cons (opv (Ev.load ty4 (.t rfl) (ptsL (fun w I => hp.keep I.keeps) (Lens.id _))) ?_)
    refine cons (opv (Ev.eql_b Try.underlying4 (.t rfl) (.t rfl)) ?_)
    refine cons (opv (Ev.move (.t rfl)) ?_)
    refine cons (opg rfl rfl (Ev.fieldAddr (o := 3) (.t rfl) (by kernel_rfl)) ?_)
    refine cons (opg rfl rfl (Ev.fieldAddr (o := 17) (.g rfl id) (by kernel_rfl)) ?_)
    refine cons (opg rfl rfl (Ev.load (xv := m1.src.bits) ty3 (.g rfl id) (ptsVar (by repeat first | exact mH | apply mT | apply mA) (Lens.comp SMatch.l_src SPrefix.l_bits))) ?_)
    refine cons (opg rfl rfl (Ev.fieldAddr (o := 3) (.t rfl) (by kernel_rfl)) ?_)
    refine cons (opg rfl rfl (Ev.fieldAddr (o := 17) (.g rfl id) (by kernel_rfl)) ?_)
    refine cons (opg rfl rfl (Ev.load (xv := m2.src.bits) ty3 (.g rfl id) (ptsVar (by repeat first | exact mH | apply mT | apply mA) (Lens.comp SMatch.l_src SPrefix.l_bits))) ?_)
    refine cons (opg rfl rfl (Ev.geq_i (.g rfl id) (.g rfl id)) ?_)
    refine cons (opv (Ev.pickA (.t rfl) (fun {_} h => by cases h; rfl) ⟨_, rfl⟩ (by intro h1 h; first | (rw [h] <;> rfl) | (rw [h1, h] <;> rfl) | (rw [h, h1] <;> rfl) | simp_all) (.c (v := .bool false) rfl)) ?_)
    refine nil ?_
    refine pN ?_
    first | refine condD rfl (fun h0 => ?_) (fun h0 => ?_) | refine cond rfl (fun h0 => ?_) (fun h0 => ?_)
    · try simp only [Bool.and_eq_true, Bool.or_eq_true, Bool.or_eq_false_iff, Bool.and_eq_false_iff, Bool.not_eq_true', Bool.not_eq_false', decide_eq_true_eq, decide_eq_false_iff_not, Decidable.not_not] at h0
      refine region ?_
      refine cons (opv (Ev.fieldAddr (o := 3) (.t rfl) (by kernel_rfl)) ?_)
      refine cons (opv (Ev.fieldAddr (o := 0) (.t rfl) (by kernel_rfl)) ?_)
      refine cons (opv (Ev.load (xv := m1.src.addr) ty27 (.t rfl) (ptsVar (by repeat first | exact mH | apply mT | apply mA) (Lens.comp SMatch.l_src SPrefix.l_addr))) ?_)
      refine cons (opv (Ev.fieldAddr (o := 1) (.t rfl) (by kernel_rfl)) ?_)
      refine cons (opv (Ev.fieldAddr (o := 0) (.t rfl) (by kernel_rfl)) ?_)
      refine cons (storeV ty27 (Lens.comp SLaw19Came.l_h SHeader.l_src) (.t rfl) (.t rfl) (by repeat first | exact Upd.head | apply Upd.tail | apply Upd.right) ?_)
      refine nil ?_
      refine pN ?_
      refine meet (X := SLaw19Came) (_) ?_ (by repeat first | exact Sub.nil | refine Sub.cons rfl ?_) (by repeat first | exact sR | exact sN | apply sC | apply sS | apply sA)
      · try dsimp only
        have q : (m1.src.addr.v6 = v ∧ m2.src.bits ≤ m1.src.bits) := h0
        rw [show pickP m1.src m2.src v = m1.src.addr from if_pos q]; rfl
    · try simp only [Bool.and_eq_true, Bool.or_eq_true, Bool.or_eq_false_iff, Bool.and_eq_false_iff, Bool.not_eq_true', Bool.not_eq_false', decide_eq_true_eq, decide_eq_false_iff_not, Decidable.not_not] at h0
      refine seq ?_
      refine region ?_
      refine cons (opv (Ev.fieldAddr (o := 3) (.t rfl) (by kernel_rfl)) ?_)
      refine cons (opv (Ev.fieldAddr (o := 0) (.t rfl) (by kernel_rfl)) ?_)
      refine cons (opv (Ev.fieldAddr (o := 0) (.t rfl) (by kernel_rfl)) ?_)
      refine cons (opv (Ev.load (xv := m2.src.addr.v6) ty4 (.t rfl) (ptsVar (by repeat first | exact mH | apply mT | apply mA) (Lens.comp (Lens.comp SMatch.l_src SPrefix.l_addr) SAddr.l_v6))) ?_)
      refine cons (opv (Ev.load ty4 (.t rfl) (ptsL (fun w I => hp.keep I.keeps) (Lens.id _))) ?_)
      refine cons (opv (Ev.eql_b Try.underlying4 (.t rfl) (.t rfl)) ?_)
      refine nil ?_
      refine pN ?_
      first | refine condD rfl (fun h1 => ?_) (fun h1 => ?_) | refine cond rfl (fun h1 => ?_) (fun h1 => ?_)
      · try simp only [Bool.and_eq_true, Bool.or_eq_true, Bool.or_eq_false_iff, Bool.and_eq_false_iff, Bool.not_eq_true', Bool.not_eq_false', decide_eq_true_eq, decide_eq_false_iff_not, Decidable.not_not] at h1
        refine region ?_
        refine cons (opv (Ev.fieldAddr (o := 3) (.t rfl) (by kernel_rfl)) ?_)
        refine cons (opv (Ev.fieldAddr (o := 0) (.t rfl) (by kernel_rfl)) ?_)
        refine cons (opv (Ev.load (xv := m2.src.addr) ty27 (.t rfl) (ptsVar (by repeat first | exact mH | apply mT | apply mA) (Lens.comp SMatch.l_src SPrefix.l_addr))) ?_)
        refine cons (opv (Ev.fieldAddr (o := 1) (.t rfl) (by kernel_rfl)) ?_)
        refine cons (opv (Ev.fieldAddr (o := 0) (.t rfl) (by kernel_rfl)) ?_)
        refine cons (storeV ty27 (Lens.comp SLaw19Came.l_h SHeader.l_src) (.t rfl) (.t rfl) (by repeat first | exact Upd.head | apply Upd.tail | apply Upd.right) ?_)
        refine nil ?_
        refine pN ?_
        refine meet (X := SLaw19Came) (_) ?_ (by repeat first | exact Sub.nil | refine Sub.cons rfl ?_) (by repeat first | exact sR | exact sN | apply sC | apply sS | apply sA)
        · try dsimp only
          have q : ¬ (m1.src.addr.v6 = v ∧ m2.src.bits ≤ m1.src.bits) := fun k => by
            rcases h0 with z | z
            · exact z k.1
            · exact z k.2
          have q2 : m2.src.addr.v6 = v := h1
          rw [show pickP m1.src m2.src v = m2.src.addr from (if_neg q).trans (if_pos q2)]; rfl
      · try simp only [Bool.and_eq_true, Bool.or_eq_true, Bool.or_eq_false_iff, Bool.and_eq_false_iff, Bool.not_eq_true', Bool.not_eq_false', decide_eq_true_eq, decide_eq_false_iff_not, Decidable.not_not] at h1
        refine skip ?_
        refine pN ?_
        refine meet (X := SLaw19Came) (_) ?_ (by repeat first | exact Sub.nil | refine Sub.cons rfl ?_) (by repeat first | exact sR | exact sN | apply sC | apply sS | apply sA)
        · try dsimp only
          have q : ¬ (m1.src.addr.v6 = v ∧ m2.src.bits ≤ m1.src.bits) := fun k => by
            rcases h0 with z | z
            · exact z k.1
            · exact z k.2
          have q2 : ¬ m2.src.addr.v6 = v := h1
          rw [show pickP m1.src m2.src v = ⟨v, Vector.replicate 16 0⟩ from (if_neg q).trans (if_neg q2)]
          try rfl
  obtain ⟨c, rfl⟩ : ∃ y, y = x := ⟨x, rfl⟩
  have hc : c = ⟨((max m1.in_.from_ m2.in_.from_).toNat : Int), { eHeader.zero with src := pickP m1.src m2.src v, dst := ⟨v, Vector.replicate 16 0⟩, proto := max m1.proto m2.proto, srcPort := max m1.srcPort.from_ m2.srcPort.from_, dstPort := max m1.dstPort.from_ m2.dstPort.from_ }⟩ := hx
  clear hx
  show Sat _ _ [(2, true, .pointer (some ⟨p, 0, none⟩)), (3, true, .pointer (some ⟨b1, 0, none⟩)), (4, true, .pointer (some ⟨b2, 0, none⟩)), (5, true, .pointer (some ⟨b3, 0, none⟩)), (6, true, .pointer (some ⟨b4, 0, none⟩))] [Var b4 eLaw19Came c 49, Var b3 eLaw19Came eLaw19Came.zero 49, Var b2 eMatch m2 31, Var b1 eMatch m1 31]
  subst hc
  refine cut (X := SLaw19Came) (fun x : SLaw19Came => (x = baseM m1 m2 v)) (fun x : SLaw19Came => [(5, true, .pointer (some ⟨b3, 0, none⟩)), (6, true, .pointer (some ⟨b4, 0, none⟩))]) (fun x : SLaw19Came => [Var b4 eLaw19Came x 49, Var b3 eLaw19Came eLaw19Came.zero 49]) ?_ (fun x hx => ?_)
  · refine seq ?_
    refine region ?_
    refine cons (opv (Ev.fieldAddr (o := 21) (.t rfl) (by kernel_rfl)) ?_)
    refine cons (opv (Ev.fieldAddr (o := 0) (.t rfl) (by kernel_rfl)) ?_)
    refine cons (opv (Ev.fieldAddr (o := 0) (.t rfl) (by kernel_rfl)) ?_)
    refine cons (opv (Ev.load (xv := m1.dst.addr.v6) ty4 (.t rfl) (ptsVar (by repeat first | exact mH | apply mT | apply mA) (Lens.comp (Lens.comp SMatch.l_dst SPrefix.l_addr) SAddr.l_v6))) ?_)
    refine cons (opv (Ev.load ty4 (.t rfl) (ptsL (fun w I => hp.keep I.keeps) (Lens.id _))) ?_)
    refine cons (opv (Ev.eql_b Try.underlying4 (.t rfl) (.t rfl)) ?_)
    refine cons (opv (Ev.move (.t rfl)) ?_)
    refine cons (opg rfl rfl (Ev.fieldAddr (o := 21) (.t rfl) (by kernel_rfl)) ?_)
    refine cons (opg rfl rfl (Ev.fieldAddr (o := 17) (.g rfl id) (by kernel_rfl)) ?_)
    refine cons (opg rfl rfl (Ev.load (xv := m1.dst.bits) ty3 (.g rfl id) (ptsVar (by repeat first | exact mH | apply mT | apply mA) (Lens.comp SMatch.l_dst SPrefix.l_bits))) ?_)
    refine cons (opg rfl rfl (Ev.fieldAddr (o := 21) (.t rfl) (by kernel_rfl)) ?_)
    refine cons (opg rfl rfl (Ev.fieldAddr (o := 17) (.g rfl id) (by kernel_rfl)) ?_)
    refine cons (opg rfl rfl (Ev.load (xv := m2.dst.bits) ty3 (.g rfl id) (ptsVar (by repeat first | exact mH | apply mT | apply mA) (Lens.comp SMatch.l_dst SPrefix.l_bits))) ?_)
    refine cons (opg rfl rfl (Ev.geq_i (.g rfl id) (.g rfl id)) ?_)
    refine cons (opv (Ev.pickA (.t rfl) (fun {_} h => by cases h; rfl) ⟨_, rfl⟩ (by intro h1 h; first | (rw [h] <;> rfl) | (rw [h1, h] <;> rfl) | (rw [h, h1] <;> rfl) | simp_all) (.c (v := .bool false) rfl)) ?_)
    refine nil ?_
    refine pN ?_
    first | refine condD rfl (fun h2 => ?_) (fun h2 => ?_) | refine cond rfl (fun h2 => ?_) (fun h2 => ?_)
    · try simp only [Bool.and_eq_true, Bool.or_eq_true, Bool.or_eq_false_iff, Bool.and_eq_false_iff, Bool.not_eq_true', Bool.not_eq_false', decide_eq_true_eq, decide_eq_false_iff_not, Decidable.not_not] at h2
      refine region ?_
      refine cons (opv (Ev.fieldAddr (o := 21) (.t rfl) (by kernel_rfl)) ?_)
      refine cons (opv (Ev.fieldAddr (o := 0) (.t rfl) (by kernel_rfl)) ?_)
      refine cons (opv (Ev.load (xv := m1.dst.addr) ty27 (.t rfl) (ptsVar (by repeat first | exact mH | apply mT | apply mA) (Lens.comp SMatch.l_dst SPrefix.l_addr))) ?_)
      refine cons (opv (Ev.fieldAddr (o := 1) (.t rfl) (by kernel_rfl)) ?_)
      refine cons (opv (Ev.fieldAddr (o := 17) (.t rfl) (by kernel_rfl)) ?_)
      refine cons (storeV ty27 (Lens.comp SLaw19Came.l_h SHeader.l_dst) (.t rfl) (.t rfl) (by repeat first | exact Upd.head | apply Upd.tail | apply Upd.right) ?_)
      refine nil ?_
      refine pN ?_
      refine meet (X := SLaw19Came) (_) ?_ (by repeat first | exact Sub.nil | refine Sub.cons rfl ?_) (by repeat first | exact sR | exact sN | apply sC | apply sS | apply sA)
      · try dsimp only
        unfold baseM
        have q : (m1.dst.addr.v6 = v ∧ m2.dst.bits ≤ m1.dst.bits) := h2
        rw [show pickP m1.dst m2.dst v = m1.dst.addr from if_pos q]; rfl
    · try simp only [Bool.and_eq_true, Bool.or_eq_true, Bool.or_eq_false_iff, Bool.and_eq_false_iff, Bool.not_eq_true', Bool.not_eq_false', decide_eq_true_eq, decide_eq_false_iff_not, Decidable.not_not] at h2
      refine seq ?_
      refine region ?_
      refine cons (opv (Ev.fieldAddr (o := 21) (.t rfl) (by kernel_rfl)) ?_)
      refine cons (opv (Ev.fieldAddr (o := 0) (.t rfl) (by kernel_rfl)) ?_)
      refine cons (opv (Ev.fieldAddr (o := 0) (.t rfl) (by kernel_rfl)) ?_)
      refine cons (opv (Ev.load (xv := m2.dst.addr.v6) ty4 (.t rfl) (ptsVar (by repeat first | exact mH | apply mT | apply mA) (Lens.comp (Lens.comp SMatch.l_dst SPrefix.l_addr) SAddr.l_v6))) ?_)
      refine cons (opv (Ev.load ty4 (.t rfl) (ptsL (fun w I => hp.keep I.keeps) (Lens.id _))) ?_)
      refine cons (opv (Ev.eql_b Try.underlying4 (.t rfl) (.t rfl)) ?_)
      refine nil ?_
      refine pN ?_
      first | refine condD rfl (fun h3 => ?_) (fun h3 => ?_) | refine cond rfl (fun h3 => ?_) (fun h3 => ?_)
      · try simp only [Bool.and_eq_true, Bool.or_eq_true, Bool.or_eq_false_iff, Bool.and_eq_false_iff, Bool.not_eq_true', Bool.not_eq_false', decide_eq_true_eq, decide_eq_false_iff_not, Decidable.not_not] at h3
        refine region ?_
        refine cons (opv (Ev.fieldAddr (o := 21) (.t rfl) (by kernel_rfl)) ?_)
        refine cons (opv (Ev.fieldAddr (o := 0) (.t rfl) (by kernel_rfl)) ?_)
        refine cons (opv (Ev.load (xv := m2.dst.addr) ty27 (.t rfl) (ptsVar (by repeat first | exact mH | apply mT | apply mA) (Lens.comp SMatch.l_dst SPrefix.l_addr))) ?_)
        refine cons (opv (Ev.fieldAddr (o := 1) (.t rfl) (by kernel_rfl)) ?_)
        refine cons (opv (Ev.fieldAddr (o := 17) (.t rfl) (by kernel_rfl)) ?_)
        refine cons (storeV ty27 (Lens.comp SLaw19Came.l_h SHeader.l_dst) (.t rfl) (.t rfl) (by repeat first | exact Upd.head | apply Upd.tail | apply Upd.right) ?_)
        refine nil ?_
        refine pN ?_
        refine meet (X := SLaw19Came) (_) ?_ (by repeat first | exact Sub.nil | refine Sub.cons rfl ?_) (by repeat first | exact sR | exact sN | apply sC | apply sS | apply sA)
        · try dsimp only
          unfold baseM
          have q : ¬ (m1.dst.addr.v6 = v ∧ m2.dst.bits ≤ m1.dst.bits) := fun k => by
            rcases h2 with z | z
            · exact z k.1
            · exact z k.2
          have q2 : m2.dst.addr.v6 = v := h3
          rw [show pickP m1.dst m2.dst v = m2.dst.addr from (if_neg q).trans (if_pos q2)]; rfl
      · try simp only [Bool.and_eq_true, Bool.or_eq_true, Bool.or_eq_false_iff, Bool.and_eq_false_iff, Bool.not_eq_true', Bool.not_eq_false', decide_eq_true_eq, decide_eq_false_iff_not, Decidable.not_not] at h3
        refine skip ?_
        refine pN ?_
        refine meet (X := SLaw19Came) (_) ?_ (by repeat first | exact Sub.nil | refine Sub.cons rfl ?_) (by repeat first | exact sR | exact sN | apply sC | apply sS | apply sA)
        · try dsimp only
          unfold baseM
          have q : ¬ (m1.dst.addr.v6 = v ∧ m2.dst.bits ≤ m1.dst.bits) := fun k => by
            rcases h2 with z | z
            · exact z k.1
            · exact z k.2
          have q2 : ¬ m2.dst.addr.v6 = v := h3
          rw [show pickP m1.dst m2.dst v = ⟨v, Vector.replicate 16 0⟩ from (if_neg q).trans (if_neg q2)]
          try rfl
  obtain ⟨c, rfl⟩ : ∃ y, y = x := ⟨x, rfl⟩
  have hc : c = baseM m1 m2 v := hx
  clear hx
  show Sat _ _ [(5, true, .pointer (some ⟨b3, 0, none⟩)), (6, true, .pointer (some ⟨b4, 0, none⟩))] [Var b4 eLaw19Came c 49, Var b3 eLaw19Came eLaw19Came.zero 49]
  subst hc
  refine seq ?_
  refine region ?_
  refine cons (opv (Ev.load ty49 (.t rfl) (ptsVar (by repeat first | exact mH | apply mT | apply mA) (Lens.id _))) ?_)
  refine cons (storeV ty49 (Lens.id _) (.t rfl) (.t rfl) (by repeat first | exact Upd.head | apply Upd.tail | apply Upd.right) ?_)
  refine nil ?_
  refine pN ?_
  refine ret ?_
  refine done rfl (.cell rfl (fun w I => run_loadVar_pts ty49 (ptsVar (by repeat first | exact mH | apply mT | apply mA) (Lens.id _) w I)) .nil) (retE ?_)
  rfl
end Go.Proofs.Ytkmdhmfgbgngeaa
