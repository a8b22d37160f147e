/- Part U: a range over a string. -/
import Derived.Laws.RangeString
import Derived.Test.YtakmoeladkajdaaGreatHxT
set_option linter.unusedVariables false
set_option linter.unusedSimpArgs false
namespace Go.Gx
open Go Go.RowKit
section
variable {α β γ : Type} {P : Program}
variable {K : Ctx} {F : Fr} {L : List Res} {g : Bool} {Q : Exit → Act → World → Prop} {N : Act → World → Prop} {ops : Array Oper}
  {op : Op} {ty t t' : TypeId} {pos : String} {af : Array Edge} {d : Nat} {x y : Operand}
theorem decode_high (s : ByteArray) (i : Nat) (h : 128 ≤ (s.get! i).toNat) : 128 ≤ (Utf8.decode s i).1 := by
  unfold Utf8.decode
  simp only [Nat.add_zero]
  rw [if_neg (by omega)]
  split
  · split <;> first | (simp only; omega) | (simp [Utf8.runeError])
  split
  · split
    · rename_i hc
      simp only [Bool.and_eq_true, decide_eq_true_eq] at hc
      simp only
      omega
    · simp [Utf8.runeError]
  split
  · split
    · rename_i hc
      simp only [Bool.and_eq_true, decide_eq_true_eq] at hc
      simp only
      omega
    · simp [Utf8.runeError]
  · simp [Utf8.runeError]
def StrIt (r : Nat) (s : ByteArray) (p : Nat) : Res where
  foot := fun k => k = r
  A := fun w => w.heap[r]? = some (.stringIter s p)
  st := fun w w' h h1 => by rw [h r rfl]; exact h1
theorem startRangeS {s : ByteArray} (ht : P.underlying t = some .string) (hx : Opd F true x (.string s)) (next : ∀ r, Sat K N ((d, true, .pointer (some ⟨r, 0, none⟩)) :: F) (StrIt r s 0 :: L)) (hd : Nat.blt d K.n = true := by rfl) :
    Sat K (opThen P ops Q ⟨some d, .range t x, ty, pos, af, none⟩ N) F L := fun a w G => by
  refine opThen_plain rfl ?_
  unfold Oper.wp
  have hru : (underlying t).run P w = .ok .string w := by simp [underlying, ht]
  have hr : (execOp a.eval ⟨some d, .range t x, ty, pos, af, none⟩).run P w = .ok (.value (.pointer (some ⟨w.heap.size, 0, none⟩))) { w with heap := w.heap.push (.stringIter s 0) } := by
    simp [execOp, Instr.range, hx.eval rfl G.fo, hru]
  rw [hr]
  refine next w.heap.size _ _ (G.put d true _ _ (by simpa [Nat.blt_eq] using hd) rfl (G.inv.add (Keeps.alloc _ _ _) ?_ ?_))
  · show _ = _
    simp
  · intro b hb
    have : b = w.heap.size := hb
    subst this
    simp
theorem nextStr {r p : Nat} {s : ByteArray} {L' : Nat → List Res} (hx : Opd F true x (.pointer (some ⟨r, 0, none⟩))) (hU : ∀ q, Upd L (StrIt r s p) (StrIt r s q) (L' q))
    (nil : ¬ p < s.size → Sat K N ((d, true, .tuple #[.bool false]) :: F) (L' p))
    (next : p < s.size → Sat K N ((d, true, .tuple #[.bool true, I p, .int .i32 (Utf8.decode s p).1]) :: F) (L' (p + (Utf8.decode s p).2))) (hd : Nat.blt d K.n = true := by rfl) :
    Sat K (opThen P ops Q ⟨some d, .next x true, ty, pos, af, none⟩ N) F L := fun a w G => by
  refine opThen_plain rfl ?_
  unfold Oper.wp
  have h1 : w.heap[r]? = some (.stringIter s p) := (G.inv.own _ (hU p).mem).1
  have hlt : r < w.heap.size := (Array.getElem?_eq_some_iff.1 h1).1
  have hd' : d < K.n := by simpa [Nat.blt_eq] using hd
  have hgo : (getObj r).run P w = .ok (.stringIter s p) w := by simp [getObj, Sem.run, h1]
  have hso : ∀ o, (setObj r o).run P w = .ok () { w with heap := w.heap.setIfInBounds r o } := fun o => by simp [setObj, Sem.run, h1]
  by_cases hp : p < s.size
  · have hr : (execOp a.eval ⟨some d, .next x true, ty, pos, af, none⟩).run P w = .ok (.value (.tuple #[.bool true, I p, .int .i32 (Utf8.decode s p).1])) { w with heap := w.heap.setIfInBounds r (.stringIter s (p + (Utf8.decode s p).2)) } := by
      simp [execOp, Instr.next, hx.eval rfl G.fo, hgo, hp, hso, goInt, I]
    rw [hr]
    refine next hp _ _ (G.put d true _ _ hd' rfl (G.inv.upd (hU _) (setIf_keeps w r _) ?_ ?_))
    · show _ = _
      simp [hlt]
    · intro k hk
      have : k = r := hk
      subst this
      exact ⟨.inl rfl, by simpa using hlt⟩
  · have hr : (execOp a.eval ⟨some d, .next x true, ty, pos, af, none⟩).run P w = .ok (.value (.tuple #[.bool false])) w := by
      simp [execOp, Instr.next, hx.eval rfl G.fo, hgo, hp]
    rw [hr]
    refine nil hp _ _ (G.put d true _ _ hd' rfl (G.inv.upd (hU p) (Keeps.refl _ _) h1 ?_))
    intro k hk
    have : k = r := hk
    subst this
    exact ⟨.inl rfl, hlt⟩
theorem Ev.eql_i32 {m n : Int} (hx : Opd F g x (.int .i32 m)) (hy : Opd F g y (.int .i32 n)) : Ev P K F L g (.binOp .eql t x y t') ty (.bool (decide (m = n))) :=
  Ev.bini hx hy (run_cmp (by unfold Op.intCmp; rfl) (.inl rfl))
theorem Ev.leq_i32 {m n : Int} (hx : Opd F g x (.int .i32 m)) (hy : Opd F g y (.int .i32 n)) : Ev P K F L g (.binOp .leq t x y t') ty (.bool (decide (m ≤ n))) :=
  Ev.bini hx hy (run_cmp rfl (.inr (.inr (.inr (.inl rfl)))))
theorem Ev.geq_i32 {m n : Int} (hx : Opd F g x (.int .i32 m)) (hy : Opd F g y (.int .i32 n)) : Ev P K F L g (.binOp .geq t x y t') ty (.bool (decide (n ≤ m))) :=
  Ev.bini hx hy (run_cmp rfl (.inr (.inr (.inr (.inr (.inr rfl))))))
theorem Ev.lenS {s : ByteArray} (ht : P.underlying t = some .string) (hx : Opd F g x (.string s)) : Ev P K F L g (.call { callee := .builtin .len, args := #[x], argTypes := #[t] }) ty (I s.size) := fun hg a G w _ dst pos af gd => by
  have hru : (underlying t).run P w = .ok .string w := by simp [underlying, ht]
  simp [execOp, resolve, invoke, builtin, Builtin.len_, hx.eval hg G, hru, goInt, I]
end
end Go.Gx
