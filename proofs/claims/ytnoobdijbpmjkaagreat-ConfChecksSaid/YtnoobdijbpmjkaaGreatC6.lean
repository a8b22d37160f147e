/- C6: slices.Insert at []int, out of the shelf. -/
import Derived.Test.YtnoobdijbpmjkaaGreatC5
import Derived.Shelf.Lay
import Derived.Shelf.Spec.SlicesInsertGrow
set_option linter.unusedVariables false
set_option linter.unusedSimpArgs false
namespace Go.Proofs.YtnoobdijbpmjkaaGreat
open Go Go.Gx Go.RowKit Go.Shelf
shelf_lay Lays2.n21 Nm2 21 at Tryz as Tryz.lays21
theorem setCells_row {w : World} {g o T : Nat} {vs : List Value} {cur : Array Value} (hg : w.heap[g]? = some (.cells cur T (0, 0))) (hl : o + vs.length ≤ cur.size) (h1 : ∀ v ∈ vs, v.oneCell' = true) :
    w.setCells g o vs = w.setRow g (cur.toList.take o ++ vs ++ cur.toList.drop (o + vs.length)).toArray := by
  have a := run_storeCells_at Tryz.prog g o T vs 0 cur w hg (by omega) h1
  have hlt := (Array.getElem?_eq_some_iff.1 hg).1
  have b := run_storeCells_cells (P := Tryz.prog) g o vs 0 w (fun j hj => by
    have hj2 : o + 0 + j < cur.size := by omega
    have hj3 : o + j < cur.size := by omega
    simp [World.cell?, hg, hj3]) (fun j hj => by simp [World.frozen?, hg]) h1
  rw [a] at b
  simp only [Nat.add_zero] at b
  exact ((Result.ok.inj b).2).symm
def insL (xs : List Int) (i : Int) (a : Int) : List Int := xs.take i.toNat ++ [a] ++ xs.drop i.toNat
theorem rowI_length (ys : List Int) : (iE.row ys).length = ys.length := by
  rw [iE.row_length]
  show ys.length * 1 = _
  omega
theorem insL_length (xs : List Int) (i : Nat) (a : Int) (h : i ≤ xs.length) : (insL xs i a).length = xs.length + 1 := by
  unfold insL
  simp
  omega
theorem insL_row (xs : List Int) (i : Nat) (a : Int) : iE.row (insL xs i a) = (iE.row xs).take i ++ iE.row [a] ++ (iE.row xs).drop i := by
  unfold insL
  have e1 := iE.row_take xs i
  have e2 := iE.row_drop xs i
  have e0 : i * iE.size = i := Nat.mul_one i
  rw [e0] at e1 e2
  rw [iE.row_append, iE.row_append, e1, e2]
  rfl
/-- A row that is new. -/
theorem fresh_own {w w' : World} {r : Res} {row : Array Value} {zs : List Int} {cap : Nat} (hw : w'.heap[w.heap.size]? = some (.cells row 3 (0, 0))) (hk : Keeps Nope w w') (hc : zs.length ≤ cap) (hcm : cap ≤ maxLen) (hr : row.size = cap) (ht : row.toList.take zs.length = iE.row zs) :
    RetR w r (fun _ : OV => True) (fun o => o.v) (fun o => OwnS o.v iE zs 3) (.returned (.slice (some ⟨w.heap.size, 0, none⟩) zs.length cap)) w' := by
  refine ⟨⟨.slice (some ⟨w.heap.size, 0, none⟩) zs.length cap, rfl⟩, trivial, rfl, hk.mono (fun _ h => h.elim), ⟨iE.row_length _, .inr ⟨w.heap.size, cap, row, rfl, Nat.zero_le _, hw, hc, hcm, by rw [hr]; exact (Nat.mul_one _).symm, ?_⟩⟩, fun b hb => ?_⟩
  · show row.toList.take (zs.length * 1) = _
    rw [Nat.mul_one]
    exact ht
  · have hb' : some w.heap.size = some b := hb
    have := Option.some.inj hb'
    subst this
    exact ⟨.inr (Nat.le_refl _), (Array.getElem?_eq_some_iff.1 hw).1⟩
theorem shift_list {γ : Type} (C D : List γ) (z : γ) (i n : Nat) (hi : i ≤ n) (hD : D.length = n - i) (hn : n + 1 ≤ C.length) :
    ((C.take (i + 1) ++ D ++ C.drop (i + 1 + D.length)).take i ++ [z] ++ (C.take (i + 1) ++ D ++ C.drop (i + 1 + D.length)).drop (i + 1)).take (n + 1) = C.take i ++ [z] ++ D := by
  have h1 : (C.take (i + 1)).length = i + 1 := by simp; omega
  have e1 : (C.take (i + 1) ++ D ++ C.drop (i + 1 + D.length)).take i = C.take i := by
    rw [List.append_assoc, List.take_append_of_le_length (by omega), List.take_take]
    congr 1
    omega
  have e2 : (C.take (i + 1) ++ D ++ C.drop (i + 1 + D.length)).drop (i + 1) = D ++ C.drop (i + 1 + D.length) := by
    rw [List.append_assoc]
    exact List.drop_left' h1
  rw [e1, e2, ← List.append_assoc]
  have h2 : (C.take i ++ [z] ++ D).length = n + 1 := by simp; omega
  rw [← h2]
  exact List.take_left
theorem grow_list {γ : Type} (C D : List γ) (z : γ) (i n : Nat) (hi : i ≤ n) (hD : D.length = n - i) (hn : n + 1 ≤ C.length) :
    ((C.take i ++ [z] ++ C.drop (i + 1)).take (i + 1) ++ D ++ (C.take i ++ [z] ++ C.drop (i + 1)).drop (i + 1 + D.length)).take (n + 1) = C.take i ++ [z] ++ D := by
  have h1 : (C.take i ++ [z]).length = i + 1 := by simp; omega
  have e1 : (C.take i ++ [z] ++ C.drop (i + 1)).take (i + 1) = C.take i ++ [z] := by
    rw [← h1]
    exact List.take_left
  rw [e1]
  have h2 : (C.take i ++ [z] ++ D).length = n + 1 := by simp; omega
  rw [← h2]
  exact List.take_left
theorem fresh_zero {w : World} {r : Res} {zs : List Int} {G : Nat} (hc : zs.length ≤ G) (hcm : G ≤ maxLen) :
    RetR w r (fun _ : OV => True) (fun o => o.v) (fun o => OwnS o.v iE zs 3) (.returned (.slice (some ⟨w.heap.size, 0, none⟩) zs.length G)) (w.drew.alloc (.cells ((iE.row zs).toArray ++ Builtin.zeroCells (Value.int .i64 0).cells (G - zs.length)) 3)) := by
  refine fresh_own (heap_alloc_new w.drew _) ⟨rfl, rfl, rfl, by simp, fun k hk _ => heap_alloc_old w.drew _ hk⟩ hc hcm ?_ ?_
  · rw [Array.size_append, size_zeroCells, List.size_toArray, rowI_length]
    show _ + (G - zs.length) * 1 = G
    omega
  · rw [Array.toList_append]
    rw [List.take_append_of_le_length (by rw [rowI_length]; exact Nat.le_refl _), List.take_of_length_le (by rw [rowI_length]; exact Nat.le_refl _)]
theorem inplace {w w' : World} {gb n cap : Nat} {xs zs : List Int} {R : Array Value} (hw : w'.heap[gb]? = some (.cells R 3 (0, 0))) (hk : Keeps (fun k => k = gb) w w') (hc : zs.length ≤ cap) (hcm : cap ≤ maxLen) (hr : R.size = cap) (ht : R.toList.take zs.length = iE.row zs) :
    RetR w (OwnS (.slice (some ⟨gb, 0, none⟩) n cap) iE xs 3) (fun _ : OV => True) (fun o => o.v) (fun o => OwnS o.v iE zs 3) (.returned (.slice (some ⟨gb, 0, none⟩) zs.length cap)) w' := by
  refine ⟨⟨.slice (some ⟨gb, 0, none⟩) zs.length cap, rfl⟩, trivial, rfl, hk.mono (fun b hb => by subst hb; rfl), ⟨iE.row_length _, .inr ⟨gb, cap, R, rfl, Nat.zero_le _, hw, hc, hcm, by rw [hr]; exact (Nat.mul_one _).symm, ?_⟩⟩, fun b hb => ?_⟩
  · show R.toList.take (zs.length * 1) = _
    rw [Nat.mul_one]
    exact ht
  · have hb' : some gb = some b := hb
    have := Option.some.inj hb'
    subst this
    exact ⟨.inl rfl, (Array.getElem?_eq_some_iff.1 hw).1⟩
theorem insert_ok (o p : OV) (xs : List Int) (i a : Int) (w : World) (h : At (OwnS o.v iE xs 3) w) (hp : At (OwnS p.v iE [a] 3) w) (hd : (OwnS o.v iE xs 3).Disj (OwnS p.v iE [a] 3)) (hi : 0 ≤ i ∧ i ≤ xs.length) (hn : xs.length ≤ 1048576) :
    Calls Tryz.prog 136 #[o.v, I i, p.v] w (RetR w (OwnS o.v iE xs 3) (fun _ : OV => True) (fun o => o.v) (fun o => OwnS o.v iE (insL xs i a) 3)) := by
  obtain ⟨i, rfl⟩ := Int.eq_ofNat_of_zero_le hi.1
  have hin : i ≤ xs.length := by omega
  have hx : w.ownsRow 0 3 1 o.v xs.length (iE.row xs) := h.1
  have hq : w.ownsRow 0 3 1 p.v 1 (iE.row [a]) := hp.1
  have hlt := hx.lt
  obtain ⟨ov, o1⟩ := o
  obtain ⟨pv, p1⟩ := p
  have hm : maxLen = 9223372036854775807 := rfl
  have ha : [a].length = 1 := rfl
  rcases hq.2 with ⟨_, h0⟩ | ⟨pb, pc, pcur, rfl, _, hpg, hpn, hpm, hps, hpt⟩
  · omega
  have hvs : ∀ j v, (iE.row [a])[j]? = some v → w.cell? ⟨pb, 0 + j, none⟩ = some v := fun j v hj => by
    have := hq.cells (g := pb) rfl j v hj
    rwa [addr_add] at this
  have h1v := iE.row_oneCell [a]
  have hil := insL_length xs i a hin
  rcases hx.2 with ⟨rfl, hn0⟩ | ⟨gb, cap, cur, rfl, hbg, hg, hnc, hcm, hcs, htake⟩
  · have hxs : xs = [] := List.eq_nil_of_length_eq_zero hn0
    subst hxs
    have hi0 : i = 0 := by simpa using hin
    subst hi0
    refine (Any2.slices_Insert_int_end_grow Tryz.lays21 none 0 0 pb 0 1 pc [] (iE.row [a]) w (by decide) (by decide) (by decide) (by decide) rfl (rowI_length _) (fun _ => rfl) (fun a h => by cases h) hvs h1v).mono ?_
    rintro e w' ⟨rfl, rfl⟩
    exact fresh_zero (zs := [a]) (G := grownCap w 1 0 3) (grownCap_ge w 1 0 3) (grownCap_le_maxLen w 1 0 3 (by decide))
  · have hcs' : cur.size = cap := by omega
    have htk : cur.toList.take xs.length = iE.row xs := by simpa using htake
    have hcells : ∀ j v, (iE.row xs)[j]? = some v → w.cell? ⟨gb, 0 + j, none⟩ = some v := fun j v hj => by
      have := hx.cells (g := gb) rfl j v hj
      rwa [addr_add] at this
    have h1c := iE.row_oneCell xs
    have hne : pb ≠ gb := fun e => hd gb rfl (by rw [← e]; rfl)
    by_cases hroom : xs.length + 1 ≤ cap
    · by_cases hie : i = xs.length
      · subst hie
        refine (Any2.slices_Insert_int_end_room Tryz.lays21 gb 0 xs.length cap pb 0 1 pc (iE.row [a]) w (by decide) hroom (by omega) (rowI_length _) ?_ ?_ hvs h1v).mono ?_
        · intro j hj
          have : 0 + xs.length + j < cur.size := by omega
          simp only [World.cell?, hg]
          simp
          omega
        · intro j hj
          simp [World.frozen?, hg]
        rintro e w' ⟨rfl, rfl⟩
        have hl1 : 0 + xs.length + (iE.row [a]).length ≤ cur.size := by rw [rowI_length]; show 0 + xs.length + 1 ≤ _; omega
        rw [setCells_row hg hl1 h1v]
        have ez : insL xs xs.length a = xs ++ [a] := by unfold insL; simp
        have el : (xs ++ [a]).length = xs.length + 1 := by simp
        rw [ez, ← el]
        refine inplace (setRow_heap w gb cur _ 3 _ hg) (setRow_keeps _ _ _) (by omega) hcm ?_ ?_
        · simp only [List.size_toArray, List.length_append, List.length_take, List.length_drop, Array.length_toList]
          omega
        · rw [Nat.zero_add, htk, el, iE.row_append]
          have e3 : xs.length + 1 = (iE.row xs ++ iE.row [a]).length := by rw [List.length_append, rowI_length, rowI_length]; rfl
          rw [e3]
          exact List.take_left
      · refine (Any2.slices_Insert_int_shift Tryz.lays21 gb 0 xs.length cap i pb 0 1 pc (iE.row xs) (iE.row [a]) w (by omega) (by decide) hroom (by omega) hne (rowI_length _) (rowI_length _) hcells ?_ ?_ hvs h1c h1v 3 3 pcur.size cur.size ?_ ?_ (by omega) ?_ ?_).mono ?_
        · intro j hj
          simp only [World.cell?, hg]
          simp
          omega
        · intro j hj
          simp [World.frozen?, hg]
        · simp [World.shape?, hpg]
        · simp [World.shape?, hg]
        · simp [World.frozen?, hpg]
        · simp [World.frozen?, hpg]
        rintro e w' ⟨rfl, rfl⟩
        have hDl : ((iE.row xs).drop i).length = xs.length - i := by rw [List.length_drop, rowI_length]
        have h1d : ∀ v ∈ (iE.row xs).drop i, v.oneCell' = true := fun v hv => h1c v (List.mem_of_mem_drop hv)
        have hg' : w.drew.heap[gb]? = some (.cells cur 3 (0, 0)) := hg
        rw [setCells_row hg' (by rw [hDl]; omega) h1d]
        have hg2 := setRow_heap w.drew gb cur (cur.toList.take (0 + (i + 1)) ++ (iE.row xs).drop i ++ cur.toList.drop (0 + (i + 1) + ((iE.row xs).drop i).length)).toArray 3 _ hg'
        rw [setCells_row hg2 (by rw [rowI_length]; simp only [List.size_toArray, List.length_append, List.length_take, List.length_drop, Array.length_toList]; show _ + 1 ≤ _; omega) h1v]
        rw [← hil]
        refine inplace (setRow_heap _ gb _ _ 3 _ hg2) ((Keeps.drew _ w).trans ((setRow_keeps _ _ _).trans (setRow_keeps _ _ _))) (by omega) hcm ?_ ?_
        · simp only [List.size_toArray, List.length_append, List.length_take, List.length_drop, Array.length_toList, rowI_length]
          omega
        · rw [hil, insL_row]
          have e4 : cur.toList.take i = (iE.row xs).take i := by rw [← htk, List.take_take, Nat.min_eq_left hin]
          rw [← e4]
          have := shift_list cur.toList ((iE.row xs).drop i) (Value.int .i64 a) i xs.length hin hDl (by have hcl : cur.toList.length = cur.size := rfl; omega)
          simp only [Nat.zero_add]
          exact this
    · have hG := grownCap_ge w (xs.length + 1) cap 3
      have hGm := grownCap_le_maxLen w (xs.length + 1) cap 3 (by omega)
      by_cases hie : i = xs.length
      · subst hie
        refine (Any2.slices_Insert_int_end_grow Tryz.lays21 (some ⟨gb, 0, none⟩) xs.length cap pb 0 1 pc (iE.row xs) (iE.row [a]) w (by decide) hnc (by omega) (by omega) (rowI_length _) (rowI_length _) (fun h => by cases h) ?_ hvs h1v).mono ?_
        · intro p hp j v hj
          obtain rfl := Option.some.inj hp
          rw [addr_add]
          exact hcells j v hj
        rintro e w' ⟨rfl, rfl⟩
        have ez : insL xs xs.length a = xs ++ [a] := by unfold insL; simp
        have el : (xs ++ [a]).length = xs.length + 1 := by simp
        have := fresh_zero (w := w) (r := OwnS (.slice (some ⟨gb, 0, none⟩) xs.length cap) iE xs 3) (zs := xs ++ [a]) (G := grownCap w (xs.length + 1) cap 3) (by omega) hGm
        rw [el, iE.row_append] at this
        rw [ez]
        exact this
      · refine (Any2.slices_Insert_int_grow Tryz.lays21 gb 0 xs.length cap i pb 0 1 pc (iE.row xs) (iE.row [a]) w (by omega) (by decide) hnc (by omega) (by omega) (rowI_length _) (rowI_length _) hcells hvs h1c h1v).mono ?_
        rintro e w' ⟨rfl, rfl⟩
        have hDl : ((iE.row xs).drop i).length = xs.length - i := by rw [List.length_drop, rowI_length]
        have h1d : ∀ v ∈ (iE.row xs).drop i, v.oneCell' = true := fun v hv => h1c v (List.mem_of_mem_drop hv)
        generalize hGd : grownCap w (xs.length + 1) cap (Tryz.lays21_ren.t 3) = G
        have hGe : grownCap w (xs.length + 1) cap 3 = G := hGd
        rw [hGe] at hG hGm
        generalize hC : ((iE.row xs).take i).toArray ++ Builtin.zeroCells (Value.int .i64 0).cells (xs.length + 1 - i) ++ Builtin.zeroCells (Value.int .i64 0).cells (G - (xs.length + 1)) = C
        have hCs : C.size = G := by
          rw [← hC, Array.size_append, Array.size_append, size_zeroCells, size_zeroCells, List.size_toArray, List.length_take, rowI_length]
          show _ + (xs.length + 1 - i) * 1 + (G - (xs.length + 1)) * 1 = G
          omega
        have hCt : C.toList.take i = (iE.row xs).take i := by
          rw [← hC, Array.append_assoc, Array.toList_append]
          have hl : ((iE.row xs).take i).length = i := by rw [List.length_take, rowI_length]; omega
          show List.take i (((iE.row xs).take i) ++ _) = _
          rw [List.take_append_of_le_length (by omega), List.take_of_length_le (by omega)]
        have hg1 : (w.alloc (.cells C 3)).drew.heap[w.heap.size]? = some (.cells C 3 (0, 0)) := heap_alloc_new w _
        have hg1' : (w.alloc (.cells C (Tryz.lays21_ren.t 3))).drew.heap[w.heap.size]? = some (.cells C 3 (0, 0)) := hg1
        rw [setCells_row hg1' (by rw [rowI_length]; show _ + 1 ≤ _; omega) h1v]
        have hg2 := setRow_heap (w.alloc (.cells C (Tryz.lays21_ren.t 3))).drew w.heap.size C (C.toList.take i ++ iE.row [a] ++ C.toList.drop (i + (iE.row [a]).length)).toArray 3 _ hg1'
        have hg3 : ((w.alloc (.cells C (Tryz.lays21_ren.t 3))).drew.setRow w.heap.size (C.toList.take i ++ iE.row [a] ++ C.toList.drop (i + (iE.row [a]).length)).toArray).drew.heap[w.heap.size]? = _ := hg2
        rw [setCells_row hg3 (by rw [hDl]; simp only [List.size_toArray, List.length_append, List.length_take, List.length_drop, Array.length_toList, rowI_length]; omega) h1d]
        rw [← hil]
        refine fresh_own (setRow_heap _ w.heap.size _ _ 3 _ hg3) ?_ (by omega) hGm ?_ ?_
        · refine ⟨rfl, rfl, rfl, ?_, fun k hk _ => ?_⟩
          · simp [World.setRow]
          · rw [setRow_other _ _ _ _ (Nat.ne_of_lt hk)]
            show ((w.alloc (.cells C (Tryz.lays21_ren.t 3))).drew.setRow w.heap.size _).heap[k]? = _
            rw [setRow_other _ _ _ _ (Nat.ne_of_lt hk)]
            exact heap_alloc_old w _ hk
        · simp only [List.size_toArray, List.length_append, List.length_take, List.length_drop, Array.length_toList, rowI_length]
          omega
        · rw [hil, insL_row, ← hCt]
          exact grow_list C.toList ((iE.row xs).drop i) (Value.int .i64 a) i xs.length hin hDl (by have hcl : C.toList.length = C.size := rfl; omega)
end Go.Proofs.YtnoobdijbpmjkaaGreat
