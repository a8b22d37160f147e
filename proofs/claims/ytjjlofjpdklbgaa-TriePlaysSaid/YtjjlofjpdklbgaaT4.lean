/- trie -/
import Derived.Test.YtjjlofjpdklbgaaT3
set_option linter.unusedVariables false
set_option linter.unusedSimpArgs false
namespace Go.Proofs.Ytjjlofjpdklbgaa
open Go Go.Gx

structure STrieNode where
  p : SPrefix
  v : Int
  has : Bool
  kids : (Vector OV 2)

def STrieNode.to : (SPrefix × (Int × (Bool × (Vector OV 2)))) → STrieNode := fun x => ⟨x.1, x.2.1, x.2.2.1, x.2.2.2⟩

def STrieNode.of : STrieNode → (SPrefix × (Int × (Bool × (Vector OV 2)))) := fun x => (x.p, x.v, x.has, x.kids)

def eTrieNode : Enc STrieNode := isoE (prodE ePrefix (prodE iE (prodE bE (arrE 2 (ovE nilPtr))))) STrieNode.to STrieNode.of

def STrieNode.l_p : Lens eTrieNode ePrefix 0 := lIso _ STrieNode.to STrieNode.of (fun _ => rfl) (lFst ePrefix (prodE iE (prodE bE (arrE 2 (ovE nilPtr)))))

@[simp] theorem STrieNode.get_p (x : STrieNode) : STrieNode.l_p.get x = x.p := rfl

@[simp] theorem STrieNode.set_p (x : STrieNode) (y : SPrefix) : STrieNode.l_p.set x y = { x with p := y } := rfl

def STrieNode.l_v : Lens eTrieNode iE 18 := lIso _ STrieNode.to STrieNode.of (fun _ => rfl) (Lens.comp (lSnd ePrefix (prodE iE (prodE bE (arrE 2 (ovE nilPtr))))) (lFst iE (prodE bE (arrE 2 (ovE nilPtr)))))

@[simp] theorem STrieNode.get_v (x : STrieNode) : STrieNode.l_v.get x = x.v := rfl

@[simp] theorem STrieNode.set_v (x : STrieNode) (y : Int) : STrieNode.l_v.set x y = { x with v := y } := rfl

def STrieNode.l_has : Lens eTrieNode bE 19 := lIso _ STrieNode.to STrieNode.of (fun _ => rfl) (Lens.comp (lSnd ePrefix (prodE iE (prodE bE (arrE 2 (ovE nilPtr))))) (Lens.comp (lSnd iE (prodE bE (arrE 2 (ovE nilPtr)))) (lFst bE (arrE 2 (ovE nilPtr)))))

@[simp] theorem STrieNode.get_has (x : STrieNode) : STrieNode.l_has.get x = x.has := rfl

@[simp] theorem STrieNode.set_has (x : STrieNode) (y : Bool) : STrieNode.l_has.set x y = { x with has := y } := rfl

def STrieNode.l_kids : Lens eTrieNode (arrE 2 (ovE nilPtr)) 20 := lIso _ STrieNode.to STrieNode.of (fun _ => rfl) (Lens.comp (lSnd ePrefix (prodE iE (prodE bE (arrE 2 (ovE nilPtr))))) (Lens.comp (lSnd iE (prodE bE (arrE 2 (ovE nilPtr)))) (Lens.comp (lSnd bE (arrE 2 (ovE nilPtr))) (Lens.id (arrE 2 (ovE nilPtr))))))

@[simp] theorem STrieNode.get_kids (x : STrieNode) : STrieNode.l_kids.get x = x.kids := rfl

@[simp] theorem STrieNode.set_kids (x : STrieNode) (y : (Vector OV 2)) : STrieNode.l_kids.set x y = { x with kids := y } := rfl

structure STrieTrie where
  made : Bool
  n : Int
  roots : (Vector OV 2)

def STrieTrie.to : (Bool × (Int × (Vector OV 2))) → STrieTrie := fun x => ⟨x.1, x.2.1, x.2.2⟩

def STrieTrie.of : STrieTrie → (Bool × (Int × (Vector OV 2))) := fun x => (x.made, x.n, x.roots)

def eTrieTrie : Enc STrieTrie := isoE (prodE bE (prodE iE (arrE 2 (ovE nilPtr)))) STrieTrie.to STrieTrie.of

def STrieTrie.l_made : Lens eTrieTrie bE 0 := lIso _ STrieTrie.to STrieTrie.of (fun _ => rfl) (lFst bE (prodE iE (arrE 2 (ovE nilPtr))))

@[simp] theorem STrieTrie.get_made (x : STrieTrie) : STrieTrie.l_made.get x = x.made := rfl

@[simp] theorem STrieTrie.set_made (x : STrieTrie) (y : Bool) : STrieTrie.l_made.set x y = { x with made := y } := rfl

def STrieTrie.l_n : Lens eTrieTrie iE 1 := lIso _ STrieTrie.to STrieTrie.of (fun _ => rfl) (Lens.comp (lSnd bE (prodE iE (arrE 2 (ovE nilPtr)))) (lFst iE (arrE 2 (ovE nilPtr))))

@[simp] theorem STrieTrie.get_n (x : STrieTrie) : STrieTrie.l_n.get x = x.n := rfl

@[simp] theorem STrieTrie.set_n (x : STrieTrie) (y : Int) : STrieTrie.l_n.set x y = { x with n := y } := rfl

def STrieTrie.l_roots : Lens eTrieTrie (arrE 2 (ovE nilPtr)) 2 := lIso _ STrieTrie.to STrieTrie.of (fun _ => rfl) (Lens.comp (lSnd bE (prodE iE (arrE 2 (ovE nilPtr)))) (Lens.comp (lSnd iE (arrE 2 (ovE nilPtr))) (Lens.id (arrE 2 (ovE nilPtr)))))

@[simp] theorem STrieTrie.get_roots (x : STrieTrie) : STrieTrie.l_roots.get x = x.roots := rfl

@[simp] theorem STrieTrie.set_roots (x : STrieTrie) (y : (Vector OV 2)) : STrieTrie.l_roots.set x y = { x with roots := y } := rfl

/-- A tree, with the places of its nodes. -/
inductive PT where
  | nil : PT
  | node : Nat → SPrefix → Int → Bool → PT → PT → PT
def PT.adr : PT → Option Addr
  | .nil => none
  | .node b _ _ _ _ _ => some ⟨b, 0, none⟩
def PT.ptr (t : PT) : OV := ⟨.pointer t.adr, rfl⟩
def PT.tr : PT → Tr SPrefix
  | .nil => .nil
  | .node _ p v h l r => .node p v h l.tr r.tr
def kids (l r : PT) : Vector OV 2 := #v[l.ptr, r.ptr]
def PT.kid (b : Bool) (l r : PT) : PT := bif b then r else l
def PT.At (w : World) : PT → Prop
  | .nil => True
  | .node b p v h l r => PtsTo eTrieNode w b 0 (⟨p, v, h, kids l r⟩ : STrieNode) ∧ l.At w ∧ r.At w
theorem PT.At.keep {w w' : World} : ∀ {t : PT}, t.At w → Keeps Nope w w' → t.At w'
  | .nil, _, _ => trivial
  | .node _ _ _ _ _ _, ⟨h1, h2, h3⟩, k => ⟨h1.keep k, h2.keep k, h3.keep k⟩
theorem PT.isNone_adr (t : PT) : t.adr.isNone = t.tr.isNil := by cases t <;> rfl
def bI (b : Bool) : Int := bif b then 1 else 0
theorem bI_nn (b : Bool) : 0 ≤ bI b ∧ bI b < 2 := by cases b <;> decide
theorem kids_at (l r : PT) (b : Bool) (h : (bI b).toNat < 2) : (kids l r)[(bI b).toNat] = (PT.kid b l r).ptr := by cases b <;> rfl
theorem PT.At.kid {w : World} {l r : PT} (hl : l.At w) (hr : r.At w) (b : Bool) : (PT.kid b l r).At w := by cases b <;> assumption
theorem PT.tr_kid (b : Bool) (l r : PT) : (PT.kid b l r).tr = bif b then r.tr else l.tr := by cases b <;> rfl
def PT.bare : PT → PT
  | .nil => .nil
  | .node b p v h l r => if h = true ∨ (l.adr.isNone = false ∧ r.adr.isNone = false) then .node b p v h l r else if l.adr.isNone = false then l else r
theorem PT.tr_bare (t : PT) : t.bare.tr = t.tr.bare := by
  cases t with
  | nil => rfl
  | node b p v h l r =>
    simp only [bare, tr, Tr.bare_node, isNone_adr]
    split
    · rfl
    · split <;> rfl
theorem PT.At.bare {w : World} {t : PT} (h : t.At w) : t.bare.At w := by
  cases t with
  | nil => trivial
  | node b p v g l r =>
    simp only [PT.bare]
    split
    · exact h
    · split
      · exact h.2.1
      · exact h.2.2
def nodeV (p : SPrefix) (v : Int) (h : Bool) (l r : PT) : STrieNode := ⟨p, v, h, kids l r⟩
theorem bit_01 (b : List UInt8) (i : Int) : ((bitU b i).toNat : Int) = bI (decide (bitU b i = 1)) := by
  rcases bitU_01 b i with h | h <;> rw [h] <;> rfl

theorem bit_ok (a : SAddr) (i : Int) (w : World) (hi : 0 ≤ i ∧ i < 128) : Calls Try.prog 58 #[eAddr.val a, I i] w (RetV w (I (bI (decide (bitU a.b.toList i = 1))))) := by
  refine enter0 16 Try.func58 rfl rfl (Nat.le_of_ble_eq_true rfl) ?_
  refine seq (region (cons (box (E := eAddr) (.t rfl) (fun b1 => ?_))))
  refine cons (opv (Ev.assign (.c (v := I 0) rfl)) ?_)
  refine nil (pN (seq ?_))
  have h16 : (i / 8).toNat < 16 := by omega
  have hq : 0 ≤ (a.b[(i / 8).toNat].toNat : Int) / 2 ^ (7 - i % 8).toNat ∧ (a.b[(i / 8).toNat].toNat : Int) / 2 ^ (7 - i % 8).toNat ≤ 9223372036854775807 := by
    have hx := a.b[(i / 8).toNat].toNat_lt
    have e : ((a.b[(i / 8).toNat].toNat : Int) / 2 ^ (7 - i % 8).toNat) = ((a.b[(i / 8).toNat].toNat / 2 ^ (7 - i % 8).toNat : Nat) : Int) := by simp
    rw [e]
    have h1 := Nat.div_le_self a.b[(i / 8).toNat].toNat (2 ^ (7 - i % 8).toNat)
    have h2 : ∀ y : Nat, y ≤ 255 → 0 ≤ (y : Int) ∧ (y : Int) ≤ 9223372036854775807 := fun y hy => by omega
    exact h2 _ (by omega)
  refine region (cons (opv (Ev.move (.t rfl)) (cons (opv (Ev.quo_n (.t rfl) (.c (v := I 8) rfl) (fun _ => by omega) (fun _ => by omega) (fun _ => by omega)) ?_))))
  refine cons (opv (Ev.fieldAddr (o := 1) (.t rfl) (by kernel_rfl)) ?_)
  refine cons (opv (Ev.indexAddrA Try.underlying29 ty5 (.t rfl) (.t rfl) (fun _ => by omega)) ?_)
  refine cons (opv (Ev.ldv ty5 (.t rfl) (Lens.comp SAddr.l_b (lArr (n := 16) u8E _ (by omega)))) ?_)
  refine cons (opv (Ev.conv_u8_i Try.underlying3 Try.underlying5 (.t rfl)) ?_)
  refine cons (opv (Ev.move (.t rfl)) (cons (opv (Ev.rem_n (.t rfl) (.c (v := I 8) rfl) (fun _ => by omega) (fun _ => by omega)) ?_)))
  refine cons (opv (Ev.sub_i (.c (v := I 7) rfl) (.t rfl) (fun _ => by omega)) ?_)
  refine cons (opv (Ev.shr_i (.t rfl) (.t rfl) (fun _ => by omega)) ?_)
  refine cons (opv (Ev.and_n (.t rfl) (.c (v := I 1) rfl) (fun _ => hq) (fun _ => by decide)) ?_)
  refine cons (opv (Ev.assign (.t rfl)) (nil (pN (ret (done rfl (.tmp rfl .nil) (retE ?_))))))
  refine congrArg I ?_
  rw [← bit_01]
  have e : ((a.b[(i / 8).toNat].toNat : Int) / 2 ^ (7 - i % 8).toNat) = ((a.b[(i / 8).toNat].toNat / 2 ^ (7 - i % 8).toNat : Nat) : Int) := by simp
  have e3 : (1 : Int).toNat = 1 := rfl
  rw [bitU_toNat, vec_getD _ _ h16, e3, Nat.and_one_is_mod]
  unfold bn
  show (((((a.b[(i / 8).toNat].toNat : Int) / 2 ^ (7 - i % 8).toNat)).toNat % 2 : Nat) : Int) = _
  rw [e, Int.toNat_natCast]

theorem kind_ok (a : SAddr) (w : World) : Calls Try.prog 34 #[eAddr.val a] w (RetV w (I (bI a.v6))) := by
  refine enter0 5 Try.func34 rfl rfl (Nat.le_of_ble_eq_true rfl) ?_
  refine seq (region (cons (box (E := eAddr) (.t rfl) (fun b1 => ?_))))
  refine cons (opv (Ev.assign (.c (v := I 0) rfl)) ?_)
  refine nil (pN (seq (seq (region (cons (opv (Ev.fieldAddr (o := 0) (.t rfl) (by kernel_rfl)) ?_))))))
  refine cons (opv (Ev.ldx a.v6 ty4 (.t rfl) SAddr.l_v6) ?_)
  refine nil (pN ?_)
  first | refine condD rfl (fun h0 => ?_) (fun h0 => ?_) | refine cond rfl (fun h0 => ?_) (fun h0 => ?_)
  · try simp only [nb] at h0
    refine seq (region (cons (opv (Ev.assign (.c (v := I 1) rfl)) ?_)))
    refine nil (pN (ret (pR (done rfl (.tmp rfl .nil) (retE ?_)))))
    rw [h0]; rfl
  · try simp only [nb] at h0
    refine skip (pN (seq (region (cons (opv (Ev.assign (.c (v := I 0) rfl)) ?_)))))
    refine nil (pN (ret (done rfl (.tmp rfl .nil) (retE ?_))))
    rw [h0]; rfl

def ofE (a : SAddr) (n : Int) : Int := if checkA a ≠ 0 then checkA a else if n < 0 ∨ wd a < n then 151 else 0
def ofV (a : SAddr) (n : Int) : SPrefix := if ofE a n = 0 then ⟨⟨a.v6, maskV n a.b⟩, n⟩ else ePrefix.zero

theorem masked_g (a : SAddr) (n : Int) (w : World) (hn : 0 ≤ n ∧ n ≤ 128) (z : Vector UInt8 16) (hz : maskV n a.b = z) : Calls Try.prog 37 #[eAddr.val a, I n] w (RetV w (eAddr.val { a with b := z })) := by
  subst hz
  exact masked_ok a n w hn

theorem z36 : (Try.prog.info? 36).bind (·.zero) = some (ePrefix.val ePrefix.zero) := by kernel_rfl

theorem of_ok (a : SAddr) (n : Int) (w : World) : Calls Try.prog 38 #[eAddr.val a, I n] w (RetV w (.tuple #[ePrefix.val (ofV a n), I (ofE a n)])) := by
  refine enter0 27 Try.func38 rfl rfl (Nat.le_of_ble_eq_true rfl) ?_
  refine seq (region (cons (box (E := eAddr) (.t rfl) (fun b1 => ?_))))
  refine cons (alloc z36 (fun b2 => ?_))
  refine cons (opv (Ev.assign (.c (v := I 0) rfl)) ?_)
  refine nil (pN (seq (seq (region (cons (opv (Ev.ldx a ty31 (.t rfl) (Lens.id _)) ?_))))))
  refine cons (callv en40 (.cons (.t rfl) .nil) (fun w I => checkA_ok _ w) ?_)
  refine cons (opv (Ev.assign (.t rfl)) (nil (pN (seq (region (cons (opv (Ev.move (.t rfl)) (cons (opv (Ev.neq_i (.t rfl) (.c (v := I 0) rfl)) ?_)))))))))
  refine nil (pN ?_)
  first | refine condD rfl (fun h0 => ?_) (fun h0 => ?_) | refine cond rfl (fun h0 => ?_) (fun h0 => ?_)
  · try simp only [nb] at h0
    refine seq (region (cons (opv (Ev.buildS (fs := _) (places := [(0, 17), (17, 1)]) z36 rfl Try.underlying36 (by kernel_rfl) .nil Fills.nil) ?_)))
    refine cons (opv (Ev.move (.t rfl)) (cons (stv ty36 (Lens.id _) (.t rfl) (.t rfl) ?_)))
    refine cons (opv (Ev.assign (.t rfl)) (nil (pN (ret (pR (done rfl (.cell rfl (fun w I => run_loadVar_pts ty36 (ptsVar (by repeat first | exact mH | apply mT | apply mA) (Lens.id _) w I)) (.tmp rfl .nil)) (retE ?_)))))))
    have hc : checkA a ≠ 0 := h0
    have e1 : ofE a n = checkA a := by unfold ofE; rw [if_pos hc]
    have e2 : ofV a n = ePrefix.zero := by unfold ofV; rw [e1, if_neg hc]
    rw [e1, e2]; rfl
  · try simp only [nb] at h0
    refine skip (pN (seq (seq (region (cons (opv (Ev.move (.t rfl)) (cons (opv (Ev.lss_i (.t rfl) (.c (v := I 0) rfl)) ?_))))))))
    refine cons (opv (Ev.move (.t rfl)) (cons (opg rfl rfl (Ev.move (.t rfl)) ?_)))
    refine cons (opg rfl rfl (Ev.ldx a ty31 (.t rfl) (Lens.id _)) ?_)
    refine cons (callg rfl rfl en36 (.cons (.g rfl id) .nil) (fun hg w I => width_ok _ w) ?_)
    refine cons (opg rfl rfl (Ev.gtr_i (.g rfl id) (.g rfl id)) ?_)
    refine cons (opv (Ev.pickO (.t rfl) (.c (v := .bool true) rfl) (fun {_} h => by cases h; rfl) ⟨_, rfl⟩ (by intro h1 h; first | (rw [h] <;> rfl) | (rw [h1, h] <;> rfl) | (rw [h, h1] <;> rfl) | simp_all)) ?_)
    refine nil (pN ?_)
    first | refine condD rfl (fun h1 => ?_) (fun h1 => ?_) | refine cond rfl (fun h1 => ?_) (fun h1 => ?_)
    · refine seq (region (cons (opv (Ev.buildS (fs := _) (places := [(0, 17), (17, 1)]) z36 rfl Try.underlying36 (by kernel_rfl) .nil Fills.nil) ?_)))
      refine cons (stv ty36 (Lens.id _) (.t rfl) (.t rfl) ?_)
      refine cons (opv (Ev.assign (.c (v := I 151) rfl)) ?_)
      refine nil (pN (ret (pR (done rfl (.cell rfl (fun w I => run_loadVar_pts ty36 (ptsVar (by repeat first | exact mH | apply mT | apply mA) (Lens.id _) w I)) (.tmp rfl .nil)) (retE ?_)))))
      have hc : checkA a = 0 := Decidable.not_not.1 h0
      have hb : n < 0 ∨ wd a < n := by simpa using h1
      have e1 : ofE a n = 151 := by unfold ofE; rw [if_neg (by rw [hc]; decide), if_pos hb]
      have e2 : ofV a n = ePrefix.zero := by unfold ofV; rw [e1, if_neg (by decide)]
      rw [e1, e2]; rfl
    · refine skip (pN (seq ?_))
      obtain ⟨z, hz⟩ : ∃ z, maskV n a.b = z := ⟨_, rfl⟩
      refine region (cons (opv (Ev.ldx a ty31 (.t rfl) (Lens.id _)) ?_))
      refine cons (opv (Ev.move (.t rfl)) (cons (callv en37 (.cons (.t rfl) (.cons (.t rfl) .nil)) (fun w I => masked_g _ _ w (by have := wd_le a; simp at h1; omega) z hz) ?_)))
      refine cons (opv (Ev.move (.t rfl)) (cons (opv (Ev.buildS (fs := _) (places := [(0, 17), (17, 1)]) z36 rfl Try.underlying36 (by kernel_rfl) (.cons (.t rfl) (.cons (.t rfl) .nil)) (Fills.cons SPrefix.l_addr rfl (Fills.cons SPrefix.l_bits rfl Fills.nil))) ?_)))
      refine cons (stv ty36 (Lens.id _) (.t rfl) (.t rfl) ?_)
      refine cons (opv (Ev.assign (.c (v := I 0) rfl)) ?_)
      refine nil (pN (ret (done rfl (.cell rfl (fun w I => run_loadVar_pts ty36 (ptsVar (by repeat first | exact mH | apply mT | apply mA) (Lens.id _) w I)) (.tmp rfl .nil)) (retE ?_))))
      have hc : checkA a = 0 := Decidable.not_not.1 h0
      have hb : ¬ (n < 0 ∨ wd a < n) := by simpa using h1
      have e1 : ofE a n = 0 := by unfold ofE; rw [if_neg (by rw [hc]; decide), if_neg hb]
      have e2 : ofV a n = ⟨⟨a.v6, maskV n a.b⟩, n⟩ := by unfold ofV; rw [e1, if_pos rfl]
      rw [e1, e2, hz]; rfl

theorem of_g (a : SAddr) (n : Int) (w : World) (x : SPrefix) (e : Int) (hx : ofV a n = x) (he : ofE a n = e) : Calls Try.prog 38 #[eAddr.val a, I n] w (RetV w (.tuple #[ePrefix.val x, I e])) := by
  subst hx he
  exact of_ok a n w

theorem en58 : Gx.Enters Try.prog 58 := Gx.Enters.mk' (by kernel_rfl)

theorem en38 : Gx.Enters Try.prog 38 := Gx.Enters.mk' (by kernel_rfl)

theorem bI_inj {a b : Bool} (h : bI a = bI b) : a = b := by cases a <;> cases b <;> first | rfl | cases h

theorem both_ok_c (k : Bool) (p q : SPrefix) (w : World) (hp : okP k p) (hq : okP k q) : Calls Try.prog 57 #[ePrefix.val p, ePrefix.val q] w (RetV w (ePrefix.val (bothP p q))) := by
  have h1 := hp.nn
  have h2 := hq.nn
  refine enter0 39 Try.func57 rfl rfl (Nat.le_of_ble_eq_true rfl) ?_
  refine seq (region (cons (box (E := ePrefix) (.t rfl) (fun b1 => ?_))))
  refine cons (box (E := ePrefix) (.t rfl) (fun b2 => ?_))
  refine cons (alloc z36 (fun b3 => ?_))
  refine nil (pN (seq (region (cons (opv (Ev.assign (.c (v := I 0) rfl)) ?_)))))
  refine nil (pN (seq (block (lp (X := Int) (fun x : Int => (0 ≤ x ∧ x ≤ p.bits ∧ x ≤ q.bits) ∧ (∀ i : Int, 0 ≤ i → i < x → bitU p.addr.b.toList i = bitU q.addr.b.toList i)) (fun x : Int => [dz, (2, true, .pointer (some ⟨b1, 0, none⟩)), (3, true, .pointer (some ⟨b2, 0, none⟩)), (4, true, .pointer (some ⟨b3, 0, none⟩)), (5, true, I x)]) (fun x : Int => [Var b3 ePrefix ePrefix.zero 36, Var b2 ePrefix q 36, Var b1 ePrefix p 36]) (fun x : Int => (p.bits - x).toNat) (0) ⟨?_, ?_⟩ (fun x hx => ?_)))))
  · omega
  · intro i h1 h2; omega
  obtain ⟨n, rfl⟩ : ∃ y, y = x := ⟨x, rfl⟩
  obtain ⟨hn, hs⟩ : (0 ≤ n ∧ n ≤ p.bits ∧ n ≤ q.bits) ∧ (∀ i : Int, 0 ≤ i → i < n → bitU p.addr.b.toList i = bitU q.addr.b.toList i) := hx
  show Sat _ _ [dz, (2, true, .pointer (some ⟨b1, 0, none⟩)), (3, true, .pointer (some ⟨b2, 0, none⟩)), (4, true, .pointer (some ⟨b3, 0, none⟩)), (5, true, I n)] [Var b3 ePrefix ePrefix.zero 36, Var b2 ePrefix q 36, Var b1 ePrefix p 36]
  refine seq (seq (draw' (by kernel_rfl) ?_))
  refine tk 0 rfl (Ev.move (.t rfl)) ?_
  refine tk 1 rfl (Ev.fieldAddr (o := 17) (.t rfl) (by kernel_rfl)) ?_
  refine tk 2 rfl (Ev.ldx p.bits ty3 (.t rfl) SPrefix.l_bits) ?_
  refine tk 3 rfl (Ev.lss_i (.t rfl) (.t rfl)) ?_
  refine tk 4 rfl (Ev.move (.t rfl)) ?_
  refine tkg 5 rfl rfl rfl (Ev.move (.t rfl)) ?_
  refine tkg 6 rfl rfl rfl (Ev.fieldAddr (o := 17) (.t rfl) (by kernel_rfl)) ?_
  refine tkg 7 rfl rfl rfl (Ev.ldx q.bits ty3 (.g rfl id) SPrefix.l_bits) ?_
  refine tkg 8 rfl rfl rfl (Ev.lss_i (.g rfl id) (.g rfl id)) ?_
  refine tk 9 rfl (Ev.pickA (.t rfl) (fun {_} h => by cases h; rfl) ⟨_, rfl⟩ (by intro h1 h; first | (rw [h] <;> rfl) | (rw [h1, h] <;> rfl) | (rw [h, h1] <;> rfl) | simp_all) (.c (v := .bool false) rfl)) ?_
  refine tk 10 rfl (Ev.move (.t rfl)) ?_
  refine tkg 11 rfl rfl rfl (Ev.fieldAddr (o := 0) (.t rfl) (by kernel_rfl)) ?_
  refine tkg 12 rfl rfl rfl (Ev.ldx p.addr ty31 (.g rfl id) SPrefix.l_addr) ?_
  refine tkg 13 rfl rfl rfl (Ev.move (.t rfl)) ?_
  refine tkg 15 rfl rfl rfl (Ev.fieldAddr (o := 0) (.t rfl) (by kernel_rfl)) ?_
  refine tkg 16 rfl rfl rfl (Ev.ldx q.addr ty31 (.g rfl id) SPrefix.l_addr) ?_
  refine tkg 17 rfl rfl rfl (Ev.move (.t rfl)) ?_
  refine al1 14 rfl ((callg rfl rfl en58 (.cons (.g rfl id) (.cons (.g rfl id) .nil)) (fun hg w I => bit_ok _ _ w (by simp at hg; omega)) ?_))
  refine hdn (al1 18 rfl ((callg rfl rfl en58 (.cons (.g rfl id) (.cons (.g rfl id) .nil)) (fun hg w I => bit_ok _ _ w (by simp at hg; omega)) ?_)))
  refine hdn (tkg 19 rfl rfl rfl (Ev.eql_i (.g rfl id) (.g rfl id)) ?_)
  refine tk 20 rfl (Ev.pickA (.t rfl) (fun {_} h => by cases h; rfl) ⟨_, rfl⟩ (by intro h1 h; first | (rw [h] <;> rfl) | (rw [h1, h] <;> rfl) | (rw [h, h1] <;> rfl) | simp_all) (.c (v := .bool false) rfl)) ?_
  refine ovr (pN ?_)
  first | refine condD rfl (fun h0 => ?_) (fun h0 => ?_) | refine cond rfl (fun h0 => ?_) (fun h0 => ?_)
  · have hc : n < p.bits ∧ n < q.bits ∧ bI (decide (bitU p.addr.b.toList n = 1)) = bI (decide (bitU q.addr.b.toList n = 1)) := by simpa [and_assoc] using h0
    have hbit : bitU p.addr.b.toList n = bitU q.addr.b.toList n := dec_bit.1 (bI_inj hc.2.2)
    refine skip (pN (block (region (cons (opv (Ev.move (.t rfl)) (cons (opv (Ev.add_i (.t rfl) (.c (v := I 1) rfl) (fun _ => by omega)) ?_)))))))
    refine cons (opv (Ev.assign (.t rfl)) (nil (bN (pN (nx (X := Int) (n + 1) ⟨?_, ?_⟩ ?_)))))
    · try dsimp only
      omega
    · try dsimp only
      intro i i0 i1
      by_cases e : i < n
      · exact hs i i0 e
      · obtain rfl : i = n := by omega
        exact hbit
    · try dsimp only
      omega
  · have hc : n < p.bits → n < q.bits → ¬ bI (decide (bitU p.addr.b.toList n = 1)) = bI (decide (bitU q.addr.b.toList n = 1)) := by simpa using h0
    obtain rfl : n = comN p q := comN_of hp hq hn.1 hn.2.1 hn.2.2 hs (fun l1 l2 e => hc l1 l2 (by rw [dec_bit.2 e]))
    have eE : ofE p.addr (comN p q) = 0 := by unfold ofE; rw [if_neg (by rw [checkP_addr p hp.1]; decide), if_neg (by omega)]
    have eV : ofV p.addr (comN p q) = bothP p q := by unfold ofV; rw [eE, if_pos rfl]; rfl
    obtain ⟨z, hz⟩ : ∃ z, bothP p q = z := ⟨_, rfl⟩
    refine exit (pX (pX (bX (pN (seq (region (cons (opv (Ev.fieldAddr (o := 0) (.t rfl) (by kernel_rfl)) ?_))))))))
    refine cons (opv (Ev.ldx p.addr ty31 (.t rfl) SPrefix.l_addr) ?_)
    refine cons (opv (Ev.move (.t rfl)) (cons (callv en38 (.cons (.t rfl) (.cons (.t rfl) .nil)) (fun w I => of_g _ _ w z 0 (eV.trans hz) eE) ?_)))
    refine cons (opv (Ev.move (.t rfl)) (cons (opv (Ev.extract (.t rfl) rfl) (cons (opv (Ev.extract (.t rfl) rfl) (cons (alloc z36 (fun b4 => ?_))))))))
    refine cons (stv ty36 (Lens.id _) (.t rfl) (.t rfl) ?_)
    refine cons (opv (Ev.assign (.t rfl)) (nil (pN (seq (region (cons (opv (Ev.ldv ty36 (.t rfl) (Lens.id _)) ?_)))))))
    refine cons (stv ty36 (Lens.id _) (.t rfl) (.t rfl) ?_)
    refine nil (pN (ret (done rfl (.cell rfl (fun w I => run_loadVar_pts ty36 (ptsVar (by repeat first | exact mH | apply mT | apply mA) (Lens.id _) w I)) .nil) (retE ?_))))
    rw [hz]; first | rfl | (simp; done)

theorem ty57 : TyOK Try.prog 57 (ovE nilPtr) := TyOK.mk' (by kernel_rfl) (by kernel_rfl)

theorem bare_ok (b : Nat) (p : SPrefix) (v : Int) (h : Bool) (l r : PT) (w : World) (hb : PtsTo eTrieNode w b 0 (⟨p, v, h, kids l r⟩ : STrieNode)) : Calls Try.prog 61 #[.pointer (some ⟨b, 0, none⟩)] w (RetV w (PT.bare (.node b p v h l r)).ptr.v) := by
  refine enter0 42 Try.func61 rfl rfl (Nat.le_of_ble_eq_true rfl) ?_
  refine seq (region (cons (opv (Ev.assign (.c (v := (Go.Value.pointer none)) rfl)) ?_)))
  refine nil (pN (seq (block (seq (region (cons (opv (Ev.move (.t rfl)) (cons (opv (Ev.nilCheck (.t rfl)) ?_)))))))))
  refine cons (opv (Ev.fieldAddr (o := 19) (.t rfl) (by kernel_rfl)) ?_)
  refine cons (opv (Ev.load ty4 (.t rfl) (ptsL (fun w I => (hb).keep I.keeps) STrieNode.l_has)) ?_)
  refine cons (opv (Ev.move (.t rfl)) (cons (opg rfl rfl (Ev.move (.t rfl)) ?_)))
  refine cons (opg rfl rfl (Ev.nilCheck (.g rfl id)) ?_)
  refine cons (opg rfl rfl (Ev.fieldAddr (o := 20) (.g rfl id) (by kernel_rfl)) ?_)
  refine cons (opg rfl rfl (Ev.indexAddrA Try.underlying58 ty57 (.g rfl id) (.c (v := I 0) rfl) (fun _ => by first | omega | (rename_i hg; simp at hg; omega))) ?_)
  refine cons (opg rfl rfl (Ev.to (v' := .pointer l.adr) (Ev.load ty57 (.g rfl id) (ptsL (fun w I => (hb).keep I.keeps) (Lens.comp STrieNode.l_kids (lArr (n := 2) (ovE nilPtr) _ (by first | omega | (rename_i hg; simp at hg; omega)))))) (rfl)) ?_)
  refine cons (opg rfl rfl (Ev.neq_p Try.underlying57 (.g rfl id) (.c rfl)) ?_)
  refine cons (opg rfl rfl (Ev.move (.g rfl id)) ?_)
  refine cons (opg rfl rfl (Ev.move (.t rfl)) ?_)
  refine cons (opg rfl rfl (Ev.nilCheck (.g rfl id)) ?_)
  refine cons (opg rfl rfl (Ev.fieldAddr (o := 20) (.g rfl id) (by kernel_rfl)) ?_)
  refine cons (opg rfl rfl (Ev.indexAddrA Try.underlying58 ty57 (.g rfl id) (.c (v := I 1) rfl) (fun _ => by first | omega | (rename_i hg; simp at hg; omega))) ?_)
  refine cons (opg rfl rfl (Ev.to (v' := .pointer r.adr) (Ev.load ty57 (.g rfl id) (ptsL (fun w I => (hb).keep I.keeps) (Lens.comp STrieNode.l_kids (lArr (n := 2) (ovE nilPtr) _ (by first | omega | (rename_i hg; simp at hg; omega)))))) (rfl)) ?_)
  refine cons (opg rfl rfl (Ev.neq_p Try.underlying57 (.g rfl id) (.c rfl)) ?_)
  refine cons (opg rfl rfl (Ev.pickA (.g rfl id) (fun {_} h => by cases h; rfl) ⟨_, rfl⟩ (by intro h1 h; first | (rw [h] <;> rfl) | (rw [h1, h] <;> rfl) | (rw [h, h1] <;> rfl) | simp_all) (.c (v := .bool false) rfl)) ?_)
  refine cons (opv (Ev.pickO (.t rfl) (.c (v := .bool true) rfl) (fun {_} h => by cases h; rfl) ⟨_, rfl⟩ (by intro h1 h; first | (rw [h] <;> rfl) | (rw [h1, h] <;> rfl) | (rw [h, h1] <;> rfl) | simp_all)) ?_)
  refine cons (opv (Ev.assign (.t rfl)) (nil (pN ?_)))
  first | refine condD rfl (fun h0 => ?_) (fun h0 => ?_) | refine cond rfl (fun h0 => ?_) (fun h0 => ?_)
  · refine seq (region (cons (opv (Ev.move (.t rfl)) (cons (opv (Ev.assign (.t rfl)) (nil (pN (ret (bR (pR (done rfl (.tmp rfl .nil) (retE ?_))))))))))))
    have hc : h = true ∨ (l.adr.isNone = false ∧ r.adr.isNone = false) := by simpa using h0
    rw [PT.bare, if_pos hc]; rfl
  · refine seq (region (cons (opv (Ev.move (.t rfl)) (cons (opv (Ev.nilCheck (.t rfl)) ?_)))))
    refine cons (opv (Ev.fieldAddr (o := 20) (.t rfl) (by kernel_rfl)) ?_)
    refine cons (opv (Ev.indexAddrA Try.underlying58 ty57 (.t rfl) (.c (v := I 0) rfl) (fun _ => by omega)) ?_)
    refine cons (opv (Ev.to (v' := .pointer l.adr) (Ev.load ty57 (.t rfl) (ptsL (fun w I => (hb).keep I.keeps) (Lens.comp STrieNode.l_kids (lArr (n := 2) (ovE nilPtr) _ (by omega))))) (rfl)) ?_)
    refine cons (opv (Ev.neq_p Try.underlying57 (.t rfl) (.c rfl)) ?_)
    refine cons (opv (Ev.assign (.t rfl)) (nil (pN ?_)))
    first | refine condD rfl (fun h1 => ?_) (fun h1 => ?_) | refine cond rfl (fun h1 => ?_) (fun h1 => ?_)
    · refine seq (region (cons (opv (Ev.move (.t rfl)) (cons (opv (Ev.nilCheck (.t rfl)) ?_)))))
      refine cons (opv (Ev.fieldAddr (o := 20) (.t rfl) (by kernel_rfl)) ?_)
      refine cons (opv (Ev.indexAddrA Try.underlying58 ty57 (.t rfl) (.c (v := I 0) rfl) (fun _ => by omega)) ?_)
      refine cons (opv (Ev.to (v' := .pointer l.adr) (Ev.load ty57 (.t rfl) (ptsL (fun w I => (hb).keep I.keeps) (Lens.comp STrieNode.l_kids (lArr (n := 2) (ovE nilPtr) _ (by omega))))) (rfl)) ?_)
      refine cons (opv (Ev.assign (.t rfl)) (nil (pN (ret (bR (pR (done rfl (.tmp rfl .nil) (retE ?_))))))))
      have hc : ¬ (h = true ∨ (l.adr.isNone = false ∧ r.adr.isNone = false)) := by simpa using h0
      have hc2 : l.adr.isNone = false := by simpa using h1
      rw [PT.bare, if_neg hc, if_pos hc2]; rfl
    · refine skip (bN (pN (seq (region (cons (opv (Ev.move (.t rfl)) (cons (opv (Ev.nilCheck (.t rfl)) ?_))))))))
      refine cons (opv (Ev.fieldAddr (o := 20) (.t rfl) (by kernel_rfl)) ?_)
      refine cons (opv (Ev.indexAddrA Try.underlying58 ty57 (.t rfl) (.c (v := I 1) rfl) (fun _ => by omega)) ?_)
      refine cons (opv (Ev.to (v' := .pointer r.adr) (Ev.load ty57 (.t rfl) (ptsL (fun w I => (hb).keep I.keeps) (Lens.comp STrieNode.l_kids (lArr (n := 2) (ovE nilPtr) _ (by omega))))) (rfl)) ?_)
      refine cons (opv (Ev.assign (.t rfl)) (nil (pN (ret (done rfl (.tmp rfl .nil) (retE ?_))))))
      have hc : ¬ (h = true ∨ (l.adr.isNone = false ∧ r.adr.isNone = false)) := by simpa using h0
      have hc2 : ¬ l.adr.isNone = false := by simpa using h1
      rw [PT.bare, if_neg hc, if_neg hc2]; rfl
end Go.Proofs.Ytjjlofjpdklbgaa
