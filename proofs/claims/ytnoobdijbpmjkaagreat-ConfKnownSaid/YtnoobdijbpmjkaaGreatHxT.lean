/- Part T: cells of one row that are moved within it. -/
import Derived.Test.YtnoobdijbpmjkaaGreatHxR
set_option linter.unusedVariables false
set_option linter.unusedSimpArgs false
namespace Go.Gx
open Go Go.RowKit
section
variable {α β γ : Type} {P : Program}
variable {K : Ctx} {F : Fr} {L : List Res} {g : Bool} {Q : Exit → Act → World → Prop} {N : Act → World → Prop} {ops : Array Oper}
  {op : Op} {ty t t' : TypeId} {pos : String} {af : Array Edge} {d : Nat} {x y : Operand}
theorem splice_take {α : Type} (C R : List α) (a B : Nat) (h : a + R.length ≤ B) (hB : B ≤ C.length) : (C.take a ++ R ++ C.drop (a + R.length)).take B = (C.take B).take a ++ R ++ (C.take B).drop (a + R.length) := by
  apply List.ext_getElem?
  intro j
  simp only [List.getElem?_take, List.getElem?_append, List.length_append, List.length_take, List.length_drop, List.getElem?_drop]
  repeat' split
  all_goals first | omega | rfl | (congr 1; omega) | (rw [List.getElem?_eq_none (by omega)]) | (exact List.getElem?_eq_none (by omega))
theorem own_splice {w : World} {E : Enc α} {xs ys : List α} {T : TypeId} {k gb cap : Nat} {cur : Array Value} (hg : w.heap[gb]? = some (.cells cur T (0, 0))) (hnc : xs.length ≤ cap) (hcm : cap ≤ maxLen) (hcs : cur.size = cap * E.size)
    (htake : cur.toList.take (xs.length * E.size) = E.row xs) (hk : k + ys.length ≤ xs.length) :
    (OwnS (.slice (some ⟨gb, 0, none⟩) xs.length cap) E (xs.take k ++ ys ++ xs.drop (k + ys.length)) T).A (w.setRow gb (cur.toList.take (k * E.size) ++ E.row ys ++ cur.toList.drop (k * E.size + (E.row ys).length)).toArray) := by
  have hl : (xs.take k ++ ys ++ xs.drop (k + ys.length)).length = xs.length := by simp; omega
  have hr : (E.row ys).length = ys.length * E.size := E.row_length _
  have hkk : k * E.size + ys.length * E.size ≤ xs.length * E.size := by rw [← Nat.add_mul]; exact Nat.mul_le_mul_right _ hk
  have hcap : xs.length * E.size ≤ cap * E.size := Nat.mul_le_mul_right _ hnc
  refine ⟨E.row_length _, .inr ⟨gb, cap, _, by rw [hl], Nat.zero_le _, setRow_heap w gb cur _ T _ hg, by rw [hl]; exact hnc, hcm, ?_, ?_⟩⟩
  · simp only [List.size_toArray, List.length_append, List.length_take, List.length_drop, Array.length_toList]
    omega
  · rw [hl]
    show List.take _ (_ ++ _ ++ _) = _
    rw [splice_take _ _ _ _ (by rw [hr]; exact hkk) (by have e1 : cur.toList.length = cur.size := rfl; omega), htake, E.row_append, E.row_append, ← E.row_take, ← E.row_drop, hr, Nat.add_mul]
theorem appendCut {E : Enc α} {v : Value} {xs : List α} {T : TypeId} {k l : Nat} {L' : List Res} (ht : P.underlying t = some (.slice T)) (TT : TyOK P T E)
    (hx : Opd F true x (subS E.size v 0 k)) (hy : Opd F true y (subS E.size v l xs.length)) (hu : Upd L (OwnS v E xs T) (OwnS v E (xs.take k ++ xs.drop l ++ xs.drop (k + (xs.length - l))) T) L') (hk : k ≤ l ∧ l ≤ xs.length)
    (next : Sat K N ((d, true, subS E.size v 0 (k + (xs.length - l))) :: F) L') (hd : Nat.blt d K.n = true := by rfl) :
    Sat K (opThen P ops Q ⟨some d, .call { callee := .builtin .append, args := #[x, y], argTypes := #[t, t] }, ty, pos, af, none⟩ N) F L := fun a w G => by
  refine opThen_plain rfl ?_
  unfold Oper.wp
  have hown0 : w.ownsRow 0 T E.size v xs.length (E.row xs) := (G.inv.own _ hu.mem).1
  have hlt := hown0.lt
  have hd' : d < K.n := by simpa [Nat.blt_eq] using hd
  have hsl : IsSl E w v xs := IsSl.of_own (G.inv.own _ hu.mem).1
  have hsrc := hsl.sub (l := l) (k := xs.length) hk.2 (Nat.le_refl _)
  rw [List.take_length] at hsrc
  obtain ⟨i, hi, hes⟩ := TT.sz
  rcases hown0.2 with ⟨rfl, hn0⟩ | ⟨gb, cap, cur, rfl, hbg, hg, hnc, hcm, hcs, htake⟩
  · have hxs : xs = [] := List.eq_nil_of_length_eq_zero hn0
    subst hxs
    have hl0 : l = 0 := by simpa using hk.2
    subst hl0
    have hk0 : k = 0 := by omega
    subst hk0
    have he : (execOp a.eval ⟨some d, .call { callee := .builtin .append, args := #[x, y], argTypes := #[t, t] }, ty, pos, af, none⟩).run P w = .ok (.value (.slice none 0 0)) w := by
      have h1 := hx.eval rfl G.fo
      have h2 := hy.eval rfl G.fo
      simp only [subS, List.length_nil] at h1 h2
      simp [execOp, resolve, invoke, builtin, h1, h2, Builtin.append_, run_underlying ht, sizeOf, typeInfo, hi, Builtin.lenOf, Builtin.firstCells, loadCells, loadCellsFrom]
    rw [he]
    have hL : L' = L := by
      obtain ⟨A, C, rfl, rfl⟩ := hu
      simp
    rw [hL] at next
    exact next _ _ (G.put d true _ _ hd' rfl G.inv)
  · obtain ⟨a2, c2, e2, h1, h2, h3, h4⟩ := hsrc
    have hyl : (E.row (xs.drop l)).length = (xs.length - l) * i.size := by rw [E.row_length, hes, List.length_drop]
    have hroom : k + (xs.length - l) ≤ cap := by omega
    have hfit : k * i.size + (E.row (xs.drop l)).length ≤ cur.size := by rw [hyl, hcs, ← hes, ← Nat.add_mul]; exact Nat.mul_le_mul_right _ hroom
    have ha2 : ∃ p, a2 = some p := by
      simp only [subS] at e2
      split at e2 <;> exact ⟨_, (Value.slice.inj e2).1.symm⟩
    obtain ⟨p, rfl⟩ := ha2
    have hnews : ∀ j u, (E.row (xs.drop l))[j]? = some u → w.cell? (p.add j) = some u := fun j u hu => by
      have hne : xs.drop l ≠ [] := fun e => by rw [e] at hu; simp [Enc.row] at hu
      obtain ⟨hps, hpc⟩ := h4 p rfl
      obtain ⟨pb, po, ps⟩ := p
      have h := hps hne
      simp only at h
      subst h
      rw [addr_add]
      exact hpc j u hu
    have hr := run_append_room (P := P) w t ty T i ht hi gb k cap cur hg p (xs.length - l) c2 (E.row (xs.drop l)) hyl hnews (E.row_oneCell _) hroom hfit
    have ek : subS E.size (.slice (some ⟨gb, 0, none⟩) xs.length cap) 0 k = .slice (some ⟨gb, 0, none⟩) k cap := by
      unfold subS
      split <;> simp_all [Addr.add]
    have ek2 : subS E.size (.slice (some ⟨gb, 0, none⟩) xs.length cap) 0 (k + (xs.length - l)) = .slice (some ⟨gb, 0, none⟩) (k + (xs.length - l)) cap := by
      unfold subS
      split <;> simp_all [Addr.add]
    have e3 : subS E.size (.slice (some ⟨gb, 0, none⟩) xs.length cap) l xs.length = .slice (some p) (xs.length - l) c2 := by
      rw [e2, List.length_drop]
    rw [ek] at hx
    rw [e3] at hy
    rw [ek2] at next
    have he : (execOp a.eval ⟨some d, .call { callee := .builtin .append, args := #[x, y], argTypes := #[t, t] }, ty, pos, af, none⟩).run P w = .ok (.value (.slice (some ⟨gb, 0, none⟩) (k + (xs.length - l)) cap)) (w.setRow gb (cur.toList.take (k * i.size) ++ E.row (xs.drop l) ++ cur.toList.drop (k * i.size + (E.row (xs.drop l)).length)).toArray) := by
      simp [execOp, resolve, invoke, builtin, hx.eval rfl G.fo, hy.eval rfl G.fo, hr]
    rw [hes] at he
    rw [he]
    have hsp := own_splice (ys := xs.drop l) (k := k) hg hnc hcm hcs htake (by rw [List.length_drop]; omega)
    rw [List.length_drop] at hsp
    refine next _ _ (G.put d true _ _ hd' rfl (G.inv.upd hu ((setRow_keeps _ _ _).mono (fun q hq => ?_)) hsp ?_))
    · subst hq; rfl
    · intro b hb
      exact ⟨.inl hb, by simpa using (hlt b hb).2⟩
def sub3 (size : Nat) (v : Value) (l h m : Nat) : Value :=
  match v with
  | .slice a _ _ => .slice (if m = l then a else a.map (·.add (l * size))) (h - l) (m - l)
  | v => v
theorem Ev.slice3 {E : Enc α} {v : Value} {xs : List α} {e : TypeId} {lo hi mx : Operand} {l k m : Int} (ht : P.underlying t = some (.slice e)) (T : TyOK P e E) (hx : Opd F g x v) (hlo : Opd F g lo (I l)) (hhi : Opd F g hi (I k)) (hmx : Opd F g mx (I m))
    (h : ∀ w, WInv K L w → IsSl E w v xs) (hb : g = true → 0 ≤ l ∧ l ≤ k ∧ k ≤ m ∧ m ≤ xs.length) : Ev P K F L g (.slice t x (some lo) (some hi) (some mx)) ty (sub3 E.size v l.toNat k.toNat m.toNat) := fun hg a G w hw dst pos af gd => by
  obtain ⟨b, cap, rfl, h1, _, _⟩ := h w hw
  obtain ⟨h2, h3, h4, h5⟩ := hb hg
  have hu : (underlying t).run P w = .ok (.slice e) w := by simp [underlying, ht]
  obtain ⟨l, rfl⟩ := Int.eq_ofNat_of_zero_le h2
  obtain ⟨k, rfl⟩ := Int.eq_ofNat_of_zero_le (Int.le_trans h2 h3)
  obtain ⟨m, rfl⟩ := Int.eq_ofNat_of_zero_le (Int.le_trans (Int.le_trans h2 h3) h4)
  have h6 : m ≤ cap := by omega
  have h7 : l ≤ k := by omega
  have h8 : k ≤ m := by omega
  simp [execOp, Instr.sliceAt, hu, Instr.slice, Instr.sliceBounds, Instr.sliceBound, asIntOf, hx.eval hg G, hlo.eval hg G, hhi.eval hg G, hmx.eval hg G, I, h6, h7, h8, run_sizeOf T, sub3]
theorem Ev.sliceUp2 {E : Enc α} {v : Value} {xs : List α} {e : TypeId} {lo hi : Operand} {l k : Int} {n : Nat} (ht : P.underlying t = some (.slice e)) (T : TyOK P e E) (hx : Opd F g x (subS E.size v 0 n)) (hlo : Opd F g lo (I l)) (hhi : Opd F g hi (I k))
    (h : ∀ w, WInv K L w → IsSl E w v xs) (hb : g = true → 0 ≤ l ∧ l ≤ k ∧ k ≤ xs.length) : Ev P K F L g (.slice t x (some lo) (some hi) none) ty (subS E.size v l.toNat k.toNat) := fun hg a G w hw dst pos af gd => by
  obtain ⟨b, cap, rfl, h1, _, _⟩ := h w hw
  obtain ⟨h2, h3, h4⟩ := hb hg
  have hu : (underlying t).run P w = .ok (.slice e) w := by simp [underlying, ht]
  obtain ⟨l, rfl⟩ := Int.eq_ofNat_of_zero_le h2
  obtain ⟨k, rfl⟩ := Int.eq_ofNat_of_zero_le (Int.le_trans h2 h3)
  have h5 : k ≤ cap := by omega
  have h6 : l ≤ k := by omega
  have h7 := hx.eval hg G
  simp only [subS, Nat.sub_zero, Nat.zero_mul] at h7
  simp [execOp, Instr.sliceAt, hu, Instr.slice, Instr.sliceBounds, Instr.sliceBound, asIntOf, h7, hlo.eval hg G, hhi.eval hg G, I, h5, h6, run_sizeOf T, subS]
  cases b <;> simp [Addr.add]
theorem clearO {E : Enc α} {v : Value} {xs : List α} {T : TypeId} {l k : Nat} {L' : List Res} (ht : P.underlying t = some (.slice T)) (hz : (P.info? T).bind (·.zero) = some (E.val E.zero)) (hsz : Nat.blt 0 E.size = true)
    (hx : Opd F true x (subS E.size v l k)) (hu : Upd L (OwnS v E xs T) (OwnS v E (xs.take l ++ List.replicate (k - l) E.zero ++ xs.drop k) T) L') (hk : l ≤ k ∧ k ≤ xs.length) (next : Sat K N F L') :
    Sat K (opThen P ops Q ⟨none, .call { callee := .builtin .clear, args := #[x], argTypes := #[t] }, ty, pos, af, none⟩ N) F L := fun a w G => by
  refine opThen_plain rfl ?_
  unfold Oper.wp
  have hown0 : w.ownsRow 0 T E.size v xs.length (E.row xs) := (G.inv.own _ hu.mem).1
  have hlt := hown0.lt
  have hsz' : 0 < E.size := by simpa [Nat.blt_eq] using hsz
  have hzv : (zeroValue T).run P w = .ok (E.val E.zero) w := by
    cases hi : P.info? T with
    | none => rw [hi] at hz; cases hz
    | some i =>
      rw [hi] at hz
      simp only [Option.bind_some] at hz
      simp [zeroValue, typeInfo, hi, hz]
  have same : l = k → L' = L := fun e => by
    obtain ⟨A, C, rfl, rfl⟩ := hu
    subst e
    simp
  have h1 := hx.eval rfl G.fo
  rcases hown0.2 with ⟨rfl, hn0⟩ | ⟨gb, cap, cur, rfl, hbg, hg, hnc, hcm, hcs, htake⟩
  · have hxs : xs = [] := List.eq_nil_of_length_eq_zero hn0
    subst hxs
    have hk0 : k = 0 := by simpa using hk.2
    subst hk0
    have hl0 : l = 0 := by omega
    subst hl0
    have he : (execOp a.eval ⟨none, .call { callee := .builtin .clear, args := #[x], argTypes := #[t] }, ty, pos, af, none⟩).run P w = .ok (.value (.tuple #[])) w := by
      simp only [subS] at h1
      simp [execOp, resolve, invoke, builtin, h1, Builtin.clear_, run_underlying ht]
    rw [he]
    rw [same rfl] at next
    exact next _ _ G
  · by_cases hlk : l = k
    · have he : (execOp a.eval ⟨none, .call { callee := .builtin .clear, args := #[x], argTypes := #[t] }, ty, pos, af, none⟩).run P w = .ok (.value (.tuple #[])) w := by
        subst hlk
        simp only [subS, Nat.sub_self] at h1
        by_cases hc : cap = l
        · rw [if_pos hc] at h1
          simp [execOp, resolve, invoke, builtin, h1, Builtin.clear_, run_underlying ht]
        · rw [if_neg hc] at h1
          simp [execOp, resolve, invoke, builtin, h1, Builtin.clear_, run_underlying ht]
      rw [he]
      rw [same hlk] at next
      exact next _ _ G
    · have hc : ¬ cap = l := by omega
      have e1 : subS E.size (.slice (some ⟨gb, 0, none⟩) xs.length cap) l k = .slice (some ⟨gb, l * E.size, none⟩) (k - l) (cap - l) := by
        show Value.slice (if cap = l then _ else _) _ _ = _
        rw [if_neg hc, Option.map_some, addr_add, Nat.zero_add]
      rw [e1] at h1
      have hfit : l * E.size + 0 + (E.row (List.replicate (k - l) E.zero)).length ≤ cur.size := by
        rw [E.row_length, List.length_replicate, hcs, Nat.add_zero, ← Nat.add_mul]
        exact Nat.mul_le_mul_right _ (by omega)
      have hst := run_storeCells_at P gb (l * E.size) T (E.row (List.replicate (k - l) E.zero)) 0 cur w hg hfit (E.row_oneCell _)
      simp only [Nat.add_zero] at hst
      have hzc : (Builtin.zeroCells (E.val E.zero).cells (k - l)).toList = E.row (List.replicate (k - l) E.zero) := by
        have : (E.val E.zero).cells.size = E.size := by rw [Enc.cells_val, List.size_toArray, Enc.len]
        show (madeCells (E.val E.zero).cells ((k - l) * (E.val E.zero).cells.size)).toList = _
        rw [this]
        exact made_toList E E.zero (k - l) hsz'
      have hkl : ∃ q, k - l = q + 1 := ⟨k - l - 1, by omega⟩
      have he : (execOp a.eval ⟨none, .call { callee := .builtin .clear, args := #[x], argTypes := #[t] }, ty, pos, af, none⟩).run P w = .ok (.value (.tuple #[])) (w.setRow gb (cur.toList.take (l * E.size) ++ E.row (List.replicate (k - l) E.zero) ++ cur.toList.drop (l * E.size + (E.row (List.replicate (k - l) E.zero)).length)).toArray) := by
        obtain ⟨q, hq⟩ := hkl
        rw [hq] at h1 hst hzc ⊢
        simp [execOp, resolve, invoke, builtin, h1, Builtin.clear_, run_underlying ht, hzv, hzc, hst]
      rw [he]
      have hsp := own_splice (ys := List.replicate (k - l) E.zero) (k := l) hg hnc hcm hcs htake (by rw [List.length_replicate]; omega)
      rw [List.length_replicate] at hsp
      have e2 : l + (k - l) = k := by omega
      rw [e2] at hsp
      refine next _ _ (G.world (G.inv.upd hu ((setRow_keeps _ _ _).mono (fun q hq => ?_)) hsp ?_))
      · subst hq; rfl
      · intro b hb
        exact ⟨.inl hb, by simpa using (hlt b hb).2⟩
def Shq (v : Value) (n : Nat) : Prop := ∃ a cap, v = .slice a n cap ∧ n ≤ cap
theorem IsSl.shq {E : Enc α} {w : World} {v : Value} {xs : List α} (h : IsSl E w v xs) : Shq v xs.length := by
  obtain ⟨a, cap, e, h1, _⟩ := h
  exact ⟨a, cap, e, h1⟩
theorem Ev.sliceHS {E : Enc α} {v : Value} {e n : Nat} {hi : Operand} {k : Int} (ht : P.underlying t = some (.slice e)) (T : TyOK P e E) (hx : Opd F g x v) (hhi : Opd F g hi (I k)) (h : Shq v n) (hb : g = true → 0 ≤ k ∧ k ≤ n) :
    Ev P K F L g (.slice t x none (some hi) none) ty (subS E.size v 0 k.toNat) := fun hg a G w hw dst pos af gd => by
  obtain ⟨b, cap, rfl, h1⟩ := h
  obtain ⟨h2, h3⟩ := hb hg
  have hu : (underlying t).run P w = .ok (.slice e) w := by simp [underlying, ht]
  have h5 : 0 ≤ k ∧ k ≤ (cap : Int) := by omega
  simp [execOp, Instr.sliceAt, hu, Instr.slice, Instr.sliceBounds, Instr.sliceBound, asIntOf, hx.eval hg G, hhi.eval hg G, I, h5, run_sizeOf T, subS]
theorem Ev.sliceLS {E : Enc α} {v : Value} {e n : Nat} {lo : Operand} {l : Int} (ht : P.underlying t = some (.slice e)) (T : TyOK P e E) (hx : Opd F g x v) (hlo : Opd F g lo (I l)) (h : Shq v n) (hb : g = true → 0 ≤ l ∧ l ≤ n) :
    Ev P K F L g (.slice t x (some lo) none none) ty (subS E.size v l.toNat n) := fun hg a G w hw dst pos af gd => by
  obtain ⟨b, cap, rfl, h1⟩ := h
  obtain ⟨h2, h3⟩ := hb hg
  have hu : (underlying t).run P w = .ok (.slice e) w := by simp [underlying, ht]
  have h5 : 0 ≤ l ∧ l ≤ (n : Int) := by omega
  simp [execOp, Instr.sliceAt, hu, Instr.slice, Instr.sliceBounds, Instr.sliceBound, asIntOf, hx.eval hg G, hlo.eval hg G, I, h5, run_sizeOf T, subS]
end
end Go.Gx
