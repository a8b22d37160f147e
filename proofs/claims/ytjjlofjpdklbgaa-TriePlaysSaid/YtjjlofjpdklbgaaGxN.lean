/- Part N: a call under a guard that hands back something new. -/
import Derived.Test.YtjjlofjpdklbgaaGxM
import Derived.Test.YtjjlofjpdklbgaaGxG
set_option linter.unusedVariables false
set_option linter.unusedSimpArgs false
namespace Go.Gx
open Go Go.RowKit

section
variable {α β γ : Type} {P : Program}
variable {K : Ctx} {F : Fr} {L : List Res} {g : Bool} {Q : Exit → Act → World → Prop} {N : Act → World → Prop} {ops : Array Oper}
  {op : Op} {ty t t' : TypeId} {pos : String} {af : Array Edge} {d : Nat} {x y : Operand}

/-- A slice of one's own, where the guard says so. -/
def GdS (c : Bool) (v : Value) (E : Enc α) (xs : List α) (T : TypeId) : Res where
  foot := fun b => c = true ∧ (OwnS v E xs T).foot b
  A := fun w => c = true → (OwnS v E xs T).A w
  st := fun w w' h h1 hc => (OwnS v E xs T).st w w' (fun b hb => h b ⟨hc, hb⟩) (h1 hc)
theorem isSl_gd {c : Bool} {v : Value} {E : Enc α} {xs : List α} {T : TypeId} (hm : GdS c v E xs T ∈ L) (hc : c = true) (w : World) (h : WInv K L w) : IsSl E w v xs := IsSl.of_own ((h.own _ hm).1 hc)
/-- The same under a guard. -/
theorem callgo {f : FuncId} {args : List Operand} {ats : Array TypeId} {vs : List Value} {E : Enc α} {xs : List α} {T : TypeId} {j tg : Nat} {want c1 c2 : Bool} (hj : (ops[j]?).bind (·.dst) = some tg) (hg : look F tg = some (c1, .bool c2))
    (hen : Enters P f) (hargs : Opds F (c1 && (c2 == want)) args vs)
    (hC : (c1 && (c2 == want)) = true → ∀ w, WInv K L w → Calls P f vs.toArray w (RetO w E xs T)) (next : ∀ o : OV, Sat K N ((d, (c1 && (c2 == want)), o.v) :: F) (GdS (c1 && (c2 == want)) o.v E xs T :: L)) (hd : Nat.blt d K.n = true := by rfl) :
    Sat K (opThen P ops Q ⟨some d, .call { callee := .value (.func f), args := args.toArray, argTypes := ats }, ty, pos, af, some (j, want)⟩ N) F L := fun a w G => by
  unfold opThen
  rw [wanted_of rfl hj hg G.fo]
  have hd' : d < K.n := by simpa [Nat.blt_eq] using hd
  cases hc : (c1 && (c2 == want)) with
  | true =>
    rw [if_pos rfl]
    refine .inl ?_
    unfold Oper.wp
    rw [exec_call hen hargs hc G.fo]
    refine (hC hc w G.inv).mono ?_
    rintro e w' ⟨v, rfl, hk, _, hn⟩
    rw [hc] at next
    have h1 := hn.1 _ List.mem_cons_self
    exact next ⟨v, own_one h1.1⟩ _ _ (G.put d true v v hd' rfl (G.inv.add hk (fun _ => h1.1) (fun b hb => h1.2 b hb.2)))
  | false =>
    rw [if_neg Bool.false_ne_true]
    rw [hc] at next
    exact next nilSl _ _ (G.put d false nilSl.v undef hd' rfl (G.inv.add (Keeps.refl _ _) (fun h => absurd h Bool.false_ne_true) (fun b hb => absurd hb.1 Bool.false_ne_true)))
/-- A slice of one's own, cut off behind. -/
theorem own_pre {w : World} {v : Value} {E : Enc α} {xs : List α} {T : TypeId} {k : Nat} (h : (OwnS v E xs T).A w) (hk : k ≤ xs.length) : (OwnS (subS E.size v 0 k) E (xs.take k) T).A w ∧ (subS E.size v 0 k).ownBlock = v.ownBlock := by
  have h' : w.ownsRow 0 T E.size v xs.length (E.row xs) := h
  have hl : (xs.take k).length = k := by simp; omega
  rcases h'.2 with ⟨rfl, hn⟩ | ⟨g, cap, cur, rfl, hb, hg, h1, h2, h3, h4⟩
  · have hx : xs = [] := List.eq_nil_of_length_eq_zero hn
    subst hx
    have hk0 : k = 0 := by simpa using hk
    subst hk0
    exact ⟨h, rfl⟩
  · have e : subS E.size (.slice (some ⟨g, 0, none⟩) xs.length cap) 0 k = .slice (some ⟨g, 0, none⟩) k cap := by
      unfold subS
      split <;> simp_all [Addr.add]
    rw [e]
    refine ⟨?_, rfl⟩
    refine ⟨E.row_length _, .inr ⟨g, cap, cur, by rw [hl], hb, hg, by rw [hl]; omega, h2, h3, ?_⟩⟩
    rw [hl, ← E.row_take, ← h4, List.take_take]
    congr 1
    exact (Nat.min_eq_left (Nat.mul_le_mul_right _ hk)).symm
theorem cutOwn {X : Act → World → Prop} {v : Value} {E : Enc α} {xs : List α} {T : TypeId} {L' : List Res} (k : Nat) (hu : Upd L (OwnS v E xs T) (OwnS (subS E.size v 0 k) E (xs.take k) T) L') (hk : k ≤ xs.length) (h : Sat K X F L') : Sat K X F L := fun a w G => by
  obtain ⟨h1, h2⟩ := own_pre (G.inv.own _ hu.mem).1 hk
  refine h a w (G.world (G.inv.upd hu (Keeps.refl _ _) h1 fun b hb => ?_))
  have hb' : (OwnS v E xs T).foot b := by
    have : (subS E.size v 0 k).ownBlock = some b := hb
    rw [h2] at this
    exact this
  exact ⟨.inl hb', ((G.inv.own _ hu.mem).2 b hb').2⟩
/-- The greater one. -/
theorem Ev.max_u16 {m n : UInt16} (hx : Opd F g x (U16 m)) (hy : Opd F g y (U16 n)) {ats : Array TypeId} : Ev P K F L g (.call { callee := .builtin .max, args := #[x, y], argTypes := ats }) ty (U16 (max m n)) := fun hg a G w hw dst pos af gd => by
  have e : (max m n).toNat = max m.toNat n.toNat := by
    show (if m ≤ n then n else m).toNat = _
    split <;> rename_i h <;> rw [UInt16.le_iff_toNat_le] at h <;> omega
  simp [execOp, resolve, invoke, builtin, Builtin.max_, Builtin.max2, hx.eval hg G, hy.eval hg G, U16, e]
  omega
theorem Ev.max_u8 {m n : UInt8} (hx : Opd F g x (U8 m)) (hy : Opd F g y (U8 n)) {ats : Array TypeId} : Ev P K F L g (.call { callee := .builtin .max, args := #[x, y], argTypes := ats }) ty (U8 (max m n)) := fun hg a G w hw dst pos af gd => by
  have e : (max m n).toNat = max m.toNat n.toNat := by
    show (if m ≤ n then n else m).toNat = _
    split <;> rename_i h <;> rw [UInt8.le_iff_toNat_le] at h <;> omega
  simp [execOp, resolve, invoke, builtin, Builtin.max_, Builtin.max2, hx.eval hg G, hy.eval hg G, U8, e]
  omega
/-- The reach of a struct's parts. -/
theorem sized_agg {H : Type} {P : Program} {ts : List TypeId} {ds parts : List (DataW H)} {fs : Array Field} (hz : (DataW.weightsEach P ts ds).all (· ≤ reachBytes) = true) {j : Nat} {t : TypeId} (ht : ts[j]? = some t) (hd : ds[j]? = some (.agg parts)) (hu : P.underlying t = some (.struct fs)) :
    (DataW.weightsEach P (fs.toList.map (·.type)) parts).all (· ≤ reachBytes) = true :=
  List.all_eq_true.2 fun x hx => List.all_eq_true.1 hz x (DataW.weights_mem_each ht hd x (by simpa [DataW.weights, hu] using hx))
end
end Go.Gx
