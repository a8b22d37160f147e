/- Part T: cells of one row that are moved within it. -/
import Derived.Test.YtmdkmclgfgaahaaHxR
set_option linter.unusedVariables false
set_option linter.unusedSimpArgs false
namespace Go.Gx
open Go Go.RowKit
section
variable {α β γ : Type} {P : Program}
variable {K : Ctx} {F : Fr} {L : List Res} {g : Bool} {Q : Exit → Act → World → Prop} {N : Act → World → Prop} {ops : Array Oper}
  {op : Op} {ty t t' : TypeId} {pos : String} {af : Array Edge} {d : Nat} {x y : Operand}
theorem splice_take {α : Type} (C R : List α) (a B : Nat) (h : a + R.length ≤ B) (hB : B ≤ C.length) : (C.take a ++ R ++ C.drop (a + R.length)).take B = (C.take B).take a ++ R ++ (C.take B).drop (a + R.length) := by
  apply List.ext_getElem?
  intro j
  simp only [List.getElem?_take, List.getElem?_append, List.length_append, List.length_take, List.length_drop, List.getElem?_drop]
  repeat' split
  all_goals first | omega | rfl | (congr 1; omega) | (rw [List.getElem?_eq_none (by omega)]) | (exact List.getElem?_eq_none (by omega))
theorem own_splice {w : World} {E : Enc α} {xs ys : List α} {T : TypeId} {k gb cap : Nat} {cur : Array Value} (hg : w.heap[gb]? = some (.cells cur T (0, 0))) (hnc : xs.length ≤ cap) (hcm : cap ≤ maxLen) (hcs : cur.size = cap * E.size)
    (htake : cur.toList.take (xs.length * E.size) = E.row xs) (hk : k + ys.length ≤ xs.length) :
    (OwnS (.slice (some ⟨gb, 0, none⟩) xs.length cap) E (xs.take k ++ ys ++ xs.drop (k + ys.length)) T).A (w.setRow gb (cur.toList.take (k * E.size) ++ E.row ys ++ cur.toList.drop (k * E.size + (E.row ys).length)).toArray) := by
  have hl : (xs.take k ++ ys ++ xs.drop (k + ys.length)).length = xs.length := by simp; omega
  have hr : (E.row ys).length = ys.length * E.size := E.row_length _
  have hkk : k * E.size + ys.length * E.size ≤ xs.length * E.size := by rw [← Nat.add_mul]; exact Nat.mul_le_mul_right _ hk
  have hcap : xs.length * E.size ≤ cap * E.size := Nat.mul_le_mul_right _ hnc
  refine ⟨E.row_length _, .inr ⟨gb, cap, _, by rw [hl], Nat.zero_le _, setRow_heap w gb cur _ T _ hg, by rw [hl]; exact hnc, hcm, ?_, ?_⟩⟩
  · simp only [List.size_toArray, List.length_append, List.length_take, List.length_drop, Array.length_toList]
    omega
  · rw [hl]
    show List.take _ (_ ++ _ ++ _) = _
    rw [splice_take _ _ _ _ (by rw [hr]; exact hkk) (by have e1 : cur.toList.length = cur.size := rfl; omega), htake, E.row_append, E.row_append, ← E.row_take, ← E.row_drop, hr, Nat.add_mul]
theorem appendCut {E : Enc α} {v : Value} {xs : List α} {T : TypeId} {k l : Nat} {L' : List Res} (ht : P.underlying t = some (.slice T)) (TT : TyOK P T E)
    (hx : Opd F true x (subS E.size v 0 k)) (hy : Opd F true y (subS E.size v l xs.length)) (hu : Upd L (OwnS v E xs T) (OwnS v E (xs.take k ++ xs.drop l ++ xs.drop (k + (xs.length - l))) T) L') (hk : k ≤ l ∧ l ≤ xs.length)
    (next : Sat K N ((d, true, subS E.size v 0 (k + (xs.length - l))) :: F) L') (hd : Nat.blt d K.n = true := by rfl) :
    Sat K (opThen P ops Q ⟨some d, .call { callee := .builtin .append, args := #[x, y], argTypes := #[t, t] }, ty, pos, af, none⟩ N) F L := fun a w G => by
  refine opThen_plain rfl ?_
  unfold Oper.wp
  have hown0 : w.ownsRow 0 T E.size v xs.length (E.row xs) := (G.inv.own _ hu.mem).1
  have hlt := hown0.lt
  have hd' : d < K.n := by simpa [Nat.blt_eq] using hd
  have hsl : IsSl E w v xs := IsSl.of_own (G.inv.own _ hu.mem).1
  have hsrc := hsl.sub (l := l) (k := xs.length) hk.2 (Nat.le_refl _)
  rw [List.take_length] at hsrc
  obtain ⟨i, hi, hes⟩ := TT.sz
  rcases hown0.2 with ⟨rfl, hn0⟩ | ⟨gb, cap, cur, rfl, hbg, hg, hnc, hcm, hcs, htake⟩
  · have hxs : xs = [] := List.eq_nil_of_length_eq_zero hn0
    subst hxs
    have hl0 : l = 0 := by simpa using hk.2
    subst hl0
    have hk0 : k = 0 := by omega
    subst hk0
    have he : (execOp a.eval ⟨some d, .call { callee := .builtin .append, args := #[x, y], argTypes := #[t, t] }, ty, pos, af, none⟩).run P w = .ok (.value (.slice none 0 0)) w := by
      have h1 := hx.eval rfl G.fo
      have h2 := hy.eval rfl G.fo
      simp only [subS, List.length_nil] at h1 h2
      simp [execOp, resolve, invoke, builtin, h1, h2, Builtin.append_, run_underlying ht, sizeOf, typeInfo, hi, Builtin.lenOf, Builtin.firstCells, loadCells, loadCellsFrom]
    rw [he]
    have hL : L' = L := by
      obtain ⟨A, C, rfl, rfl⟩ := hu
      simp
    rw [hL] at next
    exact next _ _ (G.put d true _ _ hd' rfl G.inv)
  · obtain ⟨a2, c2, e2, h1, h2, h3, h4⟩ := hsrc
    have hyl : (E.row (xs.drop l)).length = (xs.length - l) * i.size := by rw [E.row_length, hes, List.length_drop]
    have hroom : k + (xs.length - l) ≤ cap := by omega
    have hfit : k * i.size + (E.row (xs.drop l)).length ≤ cur.size := by rw [hyl, hcs, ← hes, ← Nat.add_mul]; exact Nat.mul_le_mul_right _ hroom
    have ha2 : ∃ p, a2 = some p := by
      simp only [subS] at e2
      split at e2 <;> exact ⟨_, (Value.slice.inj e2).1.symm⟩
    obtain ⟨p, rfl⟩ := ha2
    have hnews : ∀ j u, (E.row (xs.drop l))[j]? = some u → w.cell? (p.add j) = some u := fun j u hu => by
      have hne : xs.drop l ≠ [] := fun e => by rw [e] at hu; simp [Enc.row] at hu
      obtain ⟨hps, hpc⟩ := h4 p rfl
      obtain ⟨pb, po, ps⟩ := p
      have h := hps hne
      simp only at h
      subst h
      rw [addr_add]
      exact hpc j u hu
    have hr := run_append_room (P := P) w t ty T i ht hi gb k cap cur hg p (xs.length - l) c2 (E.row (xs.drop l)) hyl hnews (E.row_oneCell _) hroom hfit
    have ek : subS E.size (.slice (some ⟨gb, 0, none⟩) xs.length cap) 0 k = .slice (some ⟨gb, 0, none⟩) k cap := by
      unfold subS
      split <;> simp_all [Addr.add]
    have ek2 : subS E.size (.slice (some ⟨gb, 0, none⟩) xs.length cap) 0 (k + (xs.length - l)) = .slice (some ⟨gb, 0, none⟩) (k + (xs.length - l)) cap := by
      unfold subS
      split <;> simp_all [Addr.add]
    have e3 : subS E.size (.slice (some ⟨gb, 0, none⟩) xs.length cap) l xs.length = .slice (some p) (xs.length - l) c2 := by
      rw [e2, List.length_drop]
    rw [ek] at hx
    rw [e3] at hy
    rw [ek2] at next
    have he : (execOp a.eval ⟨some d, .call { callee := .builtin .append, args := #[x, y], argTypes := #[t, t] }, ty, pos, af, none⟩).run P w = .ok (.value (.slice (some ⟨gb, 0, none⟩) (k + (xs.length - l)) cap)) (w.setRow gb (cur.toList.take (k * i.size) ++ E.row (xs.drop l) ++ cur.toList.drop (k * i.size + (E.row (xs.drop l)).length)).toArray) := by
      simp [execOp, resolve, invoke, builtin, hx.eval rfl G.fo, hy.eval rfl G.fo, hr]
    rw [hes] at he
    rw [he]
    have hsp := own_splice (ys := xs.drop l) (k := k) hg hnc hcm hcs htake (by rw [List.length_drop]; omega)
    rw [List.length_drop] at hsp
    refine next _ _ (G.put d true _ _ hd' rfl (G.inv.upd hu ((setRow_keeps _ _ _).mono (fun q hq => ?_)) hsp ?_))
    · subst hq; rfl
    · intro b hb
      exact ⟨.inl hb, by simpa using (hlt b hb).2⟩
def sub3 (size : Nat) (v : Value) (l h m : Nat) : Value :=
  match v with
  | .slice a _ _ => .slice (if m = l then a else a.map (·.add (l * size))) (h - l) (m - l)
  | v => v
def Shq (v : Value) (n : Nat) : Prop := ∃ a cap, v = .slice a n cap ∧ n ≤ cap
theorem IsSl.shq {E : Enc α} {w : World} {v : Value} {xs : List α} (h : IsSl E w v xs) : Shq v xs.length := by
  obtain ⟨a, cap, e, h1, _⟩ := h
  exact ⟨a, cap, e, h1⟩
theorem Ev.sliceHS {E : Enc α} {v : Value} {e n : Nat} {hi : Operand} {k : Int} (ht : P.underlying t = some (.slice e)) (T : TyOK P e E) (hx : Opd F g x v) (hhi : Opd F g hi (I k)) (h : Shq v n) (hb : g = true → 0 ≤ k ∧ k ≤ n) :
    Ev P K F L g (.slice t x none (some hi) none) ty (subS E.size v 0 k.toNat) := fun hg a G w hw dst pos af gd => by
  obtain ⟨b, cap, rfl, h1⟩ := h
  obtain ⟨h2, h3⟩ := hb hg
  have hu : (underlying t).run P w = .ok (.slice e) w := by simp [underlying, ht]
  have h5 : 0 ≤ k ∧ k ≤ (cap : Int) := by omega
  simp [execOp, Instr.sliceAt, hu, Instr.slice, Instr.sliceBounds, Instr.sliceBound, asIntOf, hx.eval hg G, hhi.eval hg G, I, h5, run_sizeOf T, subS]
theorem Ev.sliceLS {E : Enc α} {v : Value} {e n : Nat} {lo : Operand} {l : Int} (ht : P.underlying t = some (.slice e)) (T : TyOK P e E) (hx : Opd F g x v) (hlo : Opd F g lo (I l)) (h : Shq v n) (hb : g = true → 0 ≤ l ∧ l ≤ n) :
    Ev P K F L g (.slice t x (some lo) none none) ty (subS E.size v l.toNat n) := fun hg a G w hw dst pos af gd => by
  obtain ⟨b, cap, rfl, h1⟩ := h
  obtain ⟨h2, h3⟩ := hb hg
  have hu : (underlying t).run P w = .ok (.slice e) w := by simp [underlying, ht]
  have h5 : 0 ≤ l ∧ l ≤ (n : Int) := by omega
  simp [execOp, Instr.sliceAt, hu, Instr.slice, Instr.sliceBounds, Instr.sliceBound, asIntOf, hx.eval hg G, hlo.eval hg G, I, h5, run_sizeOf T, subS]
end
end Go.Gx
