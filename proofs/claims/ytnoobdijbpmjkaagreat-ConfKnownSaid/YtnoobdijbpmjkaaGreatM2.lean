/- Part. -/
import Derived.Shelf.Lay
import Derived.Shelf.Spec.SlicesInsertGrow
import Derived.Test.YtnoobdijbpmjkaaGreatM1
import Derived.Test.YtnoobdijbpmjkaaGreatHxU
import Derived.Test.YtnoobdijbpmjkaaGreatHxV
set_option linter.unusedVariables false
set_option linter.unusedSimpArgs false
set_option linter.unusedSectionVars false
namespace Go.Proofs.YtnoobdijbpmjkaaGreat
open Go Go.Gx Go.RowKit Go.Shelf
shelf_lay Lays2.n21 Nm2 21 at Tryz as Tryz.lays21
theorem setCells_row {w : World} {g o T : Nat} {vs : List Value} {cur : Array Value} (hg : w.heap[g]? = some (.cells cur T (0, 0))) (hl : o + vs.length ≤ cur.size) (h1 : ∀ v ∈ vs, v.oneCell' = true) :
    w.setCells g o vs = w.setRow g (cur.toList.take o ++ vs ++ cur.toList.drop (o + vs.length)).toArray := by
  have a := run_storeCells_at Tryz.prog g o T vs 0 cur w hg (by omega) h1
  have hlt := (Array.getElem?_eq_some_iff.1 hg).1
  have b := run_storeCells_cells (P := Tryz.prog) g o vs 0 w (fun j hj => by
    have hj2 : o + 0 + j < cur.size := by omega
    have hj3 : o + j < cur.size := by omega
    simp [World.cell?, hg, hj3]) (fun j hj => by simp [World.frozen?, hg]) h1
  rw [a] at b
  simp only [Nat.add_zero] at b
  exact ((Result.ok.inj b).2).symm
def insL (xs : List Int) (i : Int) (a : Int) : List Int := xs.take i.toNat ++ [a] ++ xs.drop i.toNat
theorem rowI_length (ys : List Int) : (iE.row ys).length = ys.length := by
  rw [iE.row_length]
  show ys.length * 1 = _
  omega
theorem insL_length (xs : List Int) (i : Nat) (a : Int) (h : i ≤ xs.length) : (insL xs i a).length = xs.length + 1 := by
  unfold insL
  simp
  omega
theorem insL_row (xs : List Int) (i : Nat) (a : Int) : iE.row (insL xs i a) = (iE.row xs).take i ++ iE.row [a] ++ (iE.row xs).drop i := by
  unfold insL
  have e1 := iE.row_take xs i
  have e2 := iE.row_drop xs i
  have e0 : i * iE.size = i := Nat.mul_one i
  rw [e0] at e1 e2
  rw [iE.row_append, iE.row_append, e1, e2]
  rfl
theorem fresh_own {w w' : World} {r : Res} {row : Array Value} {zs : List Int} {cap : Nat} (hw : w'.heap[w.heap.size]? = some (.cells row 3 (0, 0))) (hk : Keeps Nope w w') (hc : zs.length ≤ cap) (hcm : cap ≤ maxLen) (hr : row.size = cap) (ht : row.toList.take zs.length = iE.row zs) :
    RetR w r (fun _ : OV => True) (fun o => o.v) (fun o => OwnS o.v iE zs 3) (.returned (.slice (some ⟨w.heap.size, 0, none⟩) zs.length cap)) w' := by
  refine ⟨⟨.slice (some ⟨w.heap.size, 0, none⟩) zs.length cap, rfl⟩, trivial, rfl, hk.mono (fun _ h => h.elim), ⟨iE.row_length _, .inr ⟨w.heap.size, cap, row, rfl, Nat.zero_le _, hw, hc, hcm, by rw [hr]; exact (Nat.mul_one _).symm, ?_⟩⟩, fun b hb => ?_⟩
  · show row.toList.take (zs.length * 1) = _
    rw [Nat.mul_one]
    exact ht
  · have hb' : some w.heap.size = some b := hb
    have := Option.some.inj hb'
    subst this
    exact ⟨.inr (Nat.le_refl _), (Array.getElem?_eq_some_iff.1 hw).1⟩
theorem shift_list {γ : Type} (C D : List γ) (z : γ) (i n : Nat) (hi : i ≤ n) (hD : D.length = n - i) (hn : n + 1 ≤ C.length) :
    ((C.take (i + 1) ++ D ++ C.drop (i + 1 + D.length)).take i ++ [z] ++ (C.take (i + 1) ++ D ++ C.drop (i + 1 + D.length)).drop (i + 1)).take (n + 1) = C.take i ++ [z] ++ D := by
  have h1 : (C.take (i + 1)).length = i + 1 := by simp; omega
  have e1 : (C.take (i + 1) ++ D ++ C.drop (i + 1 + D.length)).take i = C.take i := by
    rw [List.append_assoc, List.take_append_of_le_length (by omega), List.take_take]
    congr 1
    omega
  have e2 : (C.take (i + 1) ++ D ++ C.drop (i + 1 + D.length)).drop (i + 1) = D ++ C.drop (i + 1 + D.length) := by
    rw [List.append_assoc]
    exact List.drop_left' h1
  rw [e1, e2, ← List.append_assoc]
  have h2 : (C.take i ++ [z] ++ D).length = n + 1 := by simp; omega
  rw [← h2]
  exact List.take_left
theorem grow_list {γ : Type} (C D : List γ) (z : γ) (i n : Nat) (hi : i ≤ n) (hD : D.length = n - i) (hn : n + 1 ≤ C.length) :
    ((C.take i ++ [z] ++ C.drop (i + 1)).take (i + 1) ++ D ++ (C.take i ++ [z] ++ C.drop (i + 1)).drop (i + 1 + D.length)).take (n + 1) = C.take i ++ [z] ++ D := by
  have h1 : (C.take i ++ [z]).length = i + 1 := by simp; omega
  have e1 : (C.take i ++ [z] ++ C.drop (i + 1)).take (i + 1) = C.take i ++ [z] := by
    rw [← h1]
    exact List.take_left
  rw [e1]
  have h2 : (C.take i ++ [z] ++ D).length = n + 1 := by simp; omega
  rw [← h2]
  exact List.take_left
theorem fresh_zero {w : World} {r : Res} {zs : List Int} {G : Nat} (hc : zs.length ≤ G) (hcm : G ≤ maxLen) :
    RetR w r (fun _ : OV => True) (fun o => o.v) (fun o => OwnS o.v iE zs 3) (.returned (.slice (some ⟨w.heap.size, 0, none⟩) zs.length G)) (w.drew.alloc (.cells ((iE.row zs).toArray ++ Builtin.zeroCells (Value.int .i64 0).cells (G - zs.length)) 3)) := by
  refine fresh_own (heap_alloc_new w.drew _) ⟨rfl, rfl, rfl, by simp, fun k hk _ => heap_alloc_old w.drew _ hk⟩ hc hcm ?_ ?_
  · rw [Array.size_append, size_zeroCells, List.size_toArray, rowI_length]
    show _ + (G - zs.length) * 1 = G
    omega
  · rw [Array.toList_append]
    rw [List.take_append_of_le_length (by rw [rowI_length]; exact Nat.le_refl _), List.take_of_length_le (by rw [rowI_length]; exact Nat.le_refl _)]
theorem inplace {w w' : World} {gb n cap : Nat} {xs zs : List Int} {R : Array Value} (hw : w'.heap[gb]? = some (.cells R 3 (0, 0))) (hk : Keeps (fun k => k = gb) w w') (hc : zs.length ≤ cap) (hcm : cap ≤ maxLen) (hr : R.size = cap) (ht : R.toList.take zs.length = iE.row zs) :
    RetR w (OwnS (.slice (some ⟨gb, 0, none⟩) n cap) iE xs 3) (fun _ : OV => True) (fun o => o.v) (fun o => OwnS o.v iE zs 3) (.returned (.slice (some ⟨gb, 0, none⟩) zs.length cap)) w' := by
  refine ⟨⟨.slice (some ⟨gb, 0, none⟩) zs.length cap, rfl⟩, trivial, rfl, hk.mono (fun b hb => by subst hb; rfl), ⟨iE.row_length _, .inr ⟨gb, cap, R, rfl, Nat.zero_le _, hw, hc, hcm, by rw [hr]; exact (Nat.mul_one _).symm, ?_⟩⟩, fun b hb => ?_⟩
  · show R.toList.take (zs.length * 1) = _
    rw [Nat.mul_one]
    exact ht
  · have hb' : some gb = some b := hb
    have := Option.some.inj hb'
    subst this
    exact ⟨.inl rfl, (Array.getElem?_eq_some_iff.1 hw).1⟩
theorem insert_ok (o p : OV) (xs : List Int) (i a : Int) (w : World) (h : At (OwnS o.v iE xs 3) w) (hp : At (OwnS p.v iE [a] 3) w) (hd : (OwnS o.v iE xs 3).Disj (OwnS p.v iE [a] 3)) (hi : 0 ≤ i ∧ i ≤ xs.length) (hn : xs.length ≤ 1048576) :
    Calls Tryz.prog 136 #[o.v, I i, p.v] w (RetR w (OwnS o.v iE xs 3) (fun _ : OV => True) (fun o => o.v) (fun o => OwnS o.v iE (insL xs i a) 3)) := by
  obtain ⟨i, rfl⟩ := Int.eq_ofNat_of_zero_le hi.1
  have hin : i ≤ xs.length := by omega
  have hx : w.ownsRow 0 3 1 o.v xs.length (iE.row xs) := h.1
  have hq : w.ownsRow 0 3 1 p.v 1 (iE.row [a]) := hp.1
  have hlt := hx.lt
  obtain ⟨ov, o1⟩ := o
  obtain ⟨pv, p1⟩ := p
  have hm : maxLen = 9223372036854775807 := rfl
  have ha : [a].length = 1 := rfl
  rcases hq.2 with ⟨_, h0⟩ | ⟨pb, pc, pcur, rfl, _, hpg, hpn, hpm, hps, hpt⟩
  · omega
  have hvs : ∀ j v, (iE.row [a])[j]? = some v → w.cell? ⟨pb, 0 + j, none⟩ = some v := fun j v hj => by
    have := hq.cells (g := pb) rfl j v hj
    rwa [addr_add] at this
  have h1v := iE.row_oneCell [a]
  have hil := insL_length xs i a hin
  rcases hx.2 with ⟨rfl, hn0⟩ | ⟨gb, cap, cur, rfl, hbg, hg, hnc, hcm, hcs, htake⟩
  · have hxs : xs = [] := List.eq_nil_of_length_eq_zero hn0
    subst hxs
    have hi0 : i = 0 := by simpa using hin
    subst hi0
    refine (Any2.slices_Insert_int_end_grow Tryz.lays21 none 0 0 pb 0 1 pc [] (iE.row [a]) w (by decide) (by decide) (by decide) (by decide) rfl (rowI_length _) (fun _ => rfl) (fun a h => by cases h) hvs h1v).mono ?_
    rintro e w' ⟨rfl, rfl⟩
    exact fresh_zero (zs := [a]) (G := grownCap w 1 0 3) (grownCap_ge w 1 0 3) (grownCap_le_maxLen w 1 0 3 (by decide))
  · have hcs' : cur.size = cap := by omega
    have htk : cur.toList.take xs.length = iE.row xs := by simpa using htake
    have hcells : ∀ j v, (iE.row xs)[j]? = some v → w.cell? ⟨gb, 0 + j, none⟩ = some v := fun j v hj => by
      have := hx.cells (g := gb) rfl j v hj
      rwa [addr_add] at this
    have h1c := iE.row_oneCell xs
    have hne : pb ≠ gb := fun e => hd gb rfl (by rw [← e]; rfl)
    by_cases hroom : xs.length + 1 ≤ cap
    · by_cases hie : i = xs.length
      · subst hie
        refine (Any2.slices_Insert_int_end_room Tryz.lays21 gb 0 xs.length cap pb 0 1 pc (iE.row [a]) w (by decide) hroom (by omega) (rowI_length _) ?_ ?_ hvs h1v).mono ?_
        · intro j hj
          have : 0 + xs.length + j < cur.size := by omega
          simp only [World.cell?, hg]
          simp
          omega
        · intro j hj
          simp [World.frozen?, hg]
        rintro e w' ⟨rfl, rfl⟩
        have hl1 : 0 + xs.length + (iE.row [a]).length ≤ cur.size := by rw [rowI_length]; show 0 + xs.length + 1 ≤ _; omega
        rw [setCells_row hg hl1 h1v]
        have ez : insL xs xs.length a = xs ++ [a] := by unfold insL; simp
        have el : (xs ++ [a]).length = xs.length + 1 := by simp
        rw [ez, ← el]
        refine inplace (setRow_heap w gb cur _ 3 _ hg) (setRow_keeps _ _ _) (by omega) hcm ?_ ?_
        · simp only [List.size_toArray, List.length_append, List.length_take, List.length_drop, Array.length_toList]
          omega
        · rw [Nat.zero_add, htk, el, iE.row_append]
          have e3 : xs.length + 1 = (iE.row xs ++ iE.row [a]).length := by rw [List.length_append, rowI_length, rowI_length]; rfl
          rw [e3]
          exact List.take_left
      · refine (Any2.slices_Insert_int_shift Tryz.lays21 gb 0 xs.length cap i pb 0 1 pc (iE.row xs) (iE.row [a]) w (by omega) (by decide) hroom (by omega) hne (rowI_length _) (rowI_length _) hcells ?_ ?_ hvs h1c h1v 3 3 pcur.size cur.size ?_ ?_ (by omega) ?_ ?_).mono ?_
        · intro j hj
          simp only [World.cell?, hg]
          simp
          omega
        · intro j hj
          simp [World.frozen?, hg]
        · simp [World.shape?, hpg]
        · simp [World.shape?, hg]
        · simp [World.frozen?, hpg]
        · simp [World.frozen?, hpg]
        rintro e w' ⟨rfl, rfl⟩
        have hDl : ((iE.row xs).drop i).length = xs.length - i := by rw [List.length_drop, rowI_length]
        have h1d : ∀ v ∈ (iE.row xs).drop i, v.oneCell' = true := fun v hv => h1c v (List.mem_of_mem_drop hv)
        have hg' : w.drew.heap[gb]? = some (.cells cur 3 (0, 0)) := hg
        rw [setCells_row hg' (by rw [hDl]; omega) h1d]
        have hg2 := setRow_heap w.drew gb cur (cur.toList.take (0 + (i + 1)) ++ (iE.row xs).drop i ++ cur.toList.drop (0 + (i + 1) + ((iE.row xs).drop i).length)).toArray 3 _ hg'
        rw [setCells_row hg2 (by rw [rowI_length]; simp only [List.size_toArray, List.length_append, List.length_take, List.length_drop, Array.length_toList]; show _ + 1 ≤ _; omega) h1v]
        rw [← hil]
        refine inplace (setRow_heap _ gb _ _ 3 _ hg2) ((Keeps.drew _ w).trans ((setRow_keeps _ _ _).trans (setRow_keeps _ _ _))) (by omega) hcm ?_ ?_
        · simp only [List.size_toArray, List.length_append, List.length_take, List.length_drop, Array.length_toList, rowI_length]
          omega
        · rw [hil, insL_row]
          have e4 : cur.toList.take i = (iE.row xs).take i := by rw [← htk, List.take_take, Nat.min_eq_left hin]
          rw [← e4]
          have := shift_list cur.toList ((iE.row xs).drop i) (Value.int .i64 a) i xs.length hin hDl (by have hcl : cur.toList.length = cur.size := rfl; omega)
          simp only [Nat.zero_add]
          exact this
    · have hG := grownCap_ge w (xs.length + 1) cap 3
      have hGm := grownCap_le_maxLen w (xs.length + 1) cap 3 (by omega)
      by_cases hie : i = xs.length
      · subst hie
        refine (Any2.slices_Insert_int_end_grow Tryz.lays21 (some ⟨gb, 0, none⟩) xs.length cap pb 0 1 pc (iE.row xs) (iE.row [a]) w (by decide) hnc (by omega) (by omega) (rowI_length _) (rowI_length _) (fun h => by cases h) ?_ hvs h1v).mono ?_
        · intro p hp j v hj
          obtain rfl := Option.some.inj hp
          rw [addr_add]
          exact hcells j v hj
        rintro e w' ⟨rfl, rfl⟩
        have ez : insL xs xs.length a = xs ++ [a] := by unfold insL; simp
        have el : (xs ++ [a]).length = xs.length + 1 := by simp
        have := fresh_zero (w := w) (r := OwnS (.slice (some ⟨gb, 0, none⟩) xs.length cap) iE xs 3) (zs := xs ++ [a]) (G := grownCap w (xs.length + 1) cap 3) (by omega) hGm
        rw [el, iE.row_append] at this
        rw [ez]
        exact this
      · refine (Any2.slices_Insert_int_grow Tryz.lays21 gb 0 xs.length cap i pb 0 1 pc (iE.row xs) (iE.row [a]) w (by omega) (by decide) hnc (by omega) (by omega) (rowI_length _) (rowI_length _) hcells hvs h1c h1v).mono ?_
        rintro e w' ⟨rfl, rfl⟩
        have hDl : ((iE.row xs).drop i).length = xs.length - i := by rw [List.length_drop, rowI_length]
        have h1d : ∀ v ∈ (iE.row xs).drop i, v.oneCell' = true := fun v hv => h1c v (List.mem_of_mem_drop hv)
        generalize hGd : grownCap w (xs.length + 1) cap (Tryz.lays21_ren.t 3) = G
        have hGe : grownCap w (xs.length + 1) cap 3 = G := hGd
        rw [hGe] at hG hGm
        generalize hC : ((iE.row xs).take i).toArray ++ Builtin.zeroCells (Value.int .i64 0).cells (xs.length + 1 - i) ++ Builtin.zeroCells (Value.int .i64 0).cells (G - (xs.length + 1)) = C
        have hCs : C.size = G := by
          rw [← hC, Array.size_append, Array.size_append, size_zeroCells, size_zeroCells, List.size_toArray, List.length_take, rowI_length]
          show _ + (xs.length + 1 - i) * 1 + (G - (xs.length + 1)) * 1 = G
          omega
        have hCt : C.toList.take i = (iE.row xs).take i := by
          rw [← hC, Array.append_assoc, Array.toList_append]
          have hl : ((iE.row xs).take i).length = i := by rw [List.length_take, rowI_length]; omega
          show List.take i (((iE.row xs).take i) ++ _) = _
          rw [List.take_append_of_le_length (by omega), List.take_of_length_le (by omega)]
        have hg1 : (w.alloc (.cells C 3)).drew.heap[w.heap.size]? = some (.cells C 3 (0, 0)) := heap_alloc_new w _
        have hg1' : (w.alloc (.cells C (Tryz.lays21_ren.t 3))).drew.heap[w.heap.size]? = some (.cells C 3 (0, 0)) := hg1
        rw [setCells_row hg1' (by rw [rowI_length]; show _ + 1 ≤ _; omega) h1v]
        have hg2 := setRow_heap (w.alloc (.cells C (Tryz.lays21_ren.t 3))).drew w.heap.size C (C.toList.take i ++ iE.row [a] ++ C.toList.drop (i + (iE.row [a]).length)).toArray 3 _ hg1'
        have hg3 : ((w.alloc (.cells C (Tryz.lays21_ren.t 3))).drew.setRow w.heap.size (C.toList.take i ++ iE.row [a] ++ C.toList.drop (i + (iE.row [a]).length)).toArray).drew.heap[w.heap.size]? = _ := hg2
        rw [setCells_row hg3 (by rw [hDl]; simp only [List.size_toArray, List.length_append, List.length_take, List.length_drop, Array.length_toList, rowI_length]; omega) h1d]
        rw [← hil]
        refine fresh_own (setRow_heap _ w.heap.size _ _ 3 _ hg3) ?_ (by omega) hGm ?_ ?_
        · refine ⟨rfl, rfl, rfl, ?_, fun k hk _ => ?_⟩
          · simp [World.setRow]
          · rw [setRow_other _ _ _ _ (Nat.ne_of_lt hk)]
            show ((w.alloc (.cells C (Tryz.lays21_ren.t 3))).drew.setRow w.heap.size _).heap[k]? = _
            rw [setRow_other _ _ _ _ (Nat.ne_of_lt hk)]
            exact heap_alloc_old w _ hk
        · simp only [List.size_toArray, List.length_append, List.length_take, List.length_drop, Array.length_toList, rowI_length]
          omega
        · rw [hil, insL_row, ← hCt]
          exact grow_list C.toList ((iE.row xs).drop i) (Value.int .i64 a) i xs.length hin hDl (by have hcl : C.toList.length = C.size := rfl; omega)
structure SConf where
  ports : OV
  routes : OV
  rules : OV
  meters : OV
  mirrors : OV
  default : Int
def SConf.to : (OV × (OV × (OV × (OV × (OV × Int))))) → SConf := fun x => ⟨x.1, x.2.1, x.2.2.1, x.2.2.2.1, x.2.2.2.2.1, x.2.2.2.2.2⟩
def SConf.of : SConf → (OV × (OV × (OV × (OV × (OV × Int))))) := fun x => (x.ports, x.routes, x.rules, x.meters, x.mirrors, x.default)
def eConf : Enc SConf := isoE (prodE (ovE nilSl) (prodE (ovE nilSl) (prodE (ovE nilSl) (prodE (ovE nilSl) (prodE (ovE nilSl) iE))))) SConf.to SConf.of
def SConf.l_ports : Lens eConf (ovE nilSl) 0 := lIso _ SConf.to SConf.of (fun _ => rfl) (lFst (ovE nilSl) (prodE (ovE nilSl) (prodE (ovE nilSl) (prodE (ovE nilSl) (prodE (ovE nilSl) iE)))))
@[simp] theorem SConf.get_ports (x : SConf) : SConf.l_ports.get x = x.ports := rfl
@[simp] theorem SConf.set_ports (x : SConf) (y : OV) : SConf.l_ports.set x y = { x with ports := y } := rfl
def SConf.l_routes : Lens eConf (ovE nilSl) 1 := lIso _ SConf.to SConf.of (fun _ => rfl) (Lens.comp (lSnd (ovE nilSl) (prodE (ovE nilSl) (prodE (ovE nilSl) (prodE (ovE nilSl) (prodE (ovE nilSl) iE))))) (lFst (ovE nilSl) (prodE (ovE nilSl) (prodE (ovE nilSl) (prodE (ovE nilSl) iE)))))
@[simp] theorem SConf.get_routes (x : SConf) : SConf.l_routes.get x = x.routes := rfl
@[simp] theorem SConf.set_routes (x : SConf) (y : OV) : SConf.l_routes.set x y = { x with routes := y } := rfl
def SConf.l_rules : Lens eConf (ovE nilSl) 2 := lIso _ SConf.to SConf.of (fun _ => rfl) (Lens.comp (lSnd (ovE nilSl) (prodE (ovE nilSl) (prodE (ovE nilSl) (prodE (ovE nilSl) (prodE (ovE nilSl) iE))))) (Lens.comp (lSnd (ovE nilSl) (prodE (ovE nilSl) (prodE (ovE nilSl) (prodE (ovE nilSl) iE)))) (lFst (ovE nilSl) (prodE (ovE nilSl) (prodE (ovE nilSl) iE)))))
@[simp] theorem SConf.get_rules (x : SConf) : SConf.l_rules.get x = x.rules := rfl
@[simp] theorem SConf.set_rules (x : SConf) (y : OV) : SConf.l_rules.set x y = { x with rules := y } := rfl
def SConf.l_meters : Lens eConf (ovE nilSl) 3 := lIso _ SConf.to SConf.of (fun _ => rfl) (Lens.comp (lSnd (ovE nilSl) (prodE (ovE nilSl) (prodE (ovE nilSl) (prodE (ovE nilSl) (prodE (ovE nilSl) iE))))) (Lens.comp (lSnd (ovE nilSl) (prodE (ovE nilSl) (prodE (ovE nilSl) (prodE (ovE nilSl) iE)))) (Lens.comp (lSnd (ovE nilSl) (prodE (ovE nilSl) (prodE (ovE nilSl) iE))) (lFst (ovE nilSl) (prodE (ovE nilSl) iE)))))
@[simp] theorem SConf.get_meters (x : SConf) : SConf.l_meters.get x = x.meters := rfl
@[simp] theorem SConf.set_meters (x : SConf) (y : OV) : SConf.l_meters.set x y = { x with meters := y } := rfl
def SConf.l_mirrors : Lens eConf (ovE nilSl) 4 := lIso _ SConf.to SConf.of (fun _ => rfl) (Lens.comp (lSnd (ovE nilSl) (prodE (ovE nilSl) (prodE (ovE nilSl) (prodE (ovE nilSl) (prodE (ovE nilSl) iE))))) (Lens.comp (lSnd (ovE nilSl) (prodE (ovE nilSl) (prodE (ovE nilSl) (prodE (ovE nilSl) iE)))) (Lens.comp (lSnd (ovE nilSl) (prodE (ovE nilSl) (prodE (ovE nilSl) iE))) (Lens.comp (lSnd (ovE nilSl) (prodE (ovE nilSl) iE)) (lFst (ovE nilSl) iE)))))
@[simp] theorem SConf.get_mirrors (x : SConf) : SConf.l_mirrors.get x = x.mirrors := rfl
@[simp] theorem SConf.set_mirrors (x : SConf) (y : OV) : SConf.l_mirrors.set x y = { x with mirrors := y } := rfl
def SConf.l_default : Lens eConf iE 5 := lIso _ SConf.to SConf.of (fun _ => rfl) (Lens.comp (lSnd (ovE nilSl) (prodE (ovE nilSl) (prodE (ovE nilSl) (prodE (ovE nilSl) (prodE (ovE nilSl) iE))))) (Lens.comp (lSnd (ovE nilSl) (prodE (ovE nilSl) (prodE (ovE nilSl) (prodE (ovE nilSl) iE)))) (Lens.comp (lSnd (ovE nilSl) (prodE (ovE nilSl) (prodE (ovE nilSl) iE))) (Lens.comp (lSnd (ovE nilSl) (prodE (ovE nilSl) iE)) (Lens.comp (lSnd (ovE nilSl) iE) (Lens.id iE))))))
@[simp] theorem SConf.get_default (x : SConf) : SConf.l_default.get x = x.default := rfl
@[simp] theorem SConf.set_default (x : SConf) (y : Int) : SConf.l_default.set x y = { x with default := y } := rfl
structure SConfKnown where
  ports : OV
  routes : OV
  rules : OV
  meters : OV
  mirrors : OV
def SConfKnown.to : (OV × (OV × (OV × (OV × OV)))) → SConfKnown := fun x => ⟨x.1, x.2.1, x.2.2.1, x.2.2.2.1, x.2.2.2.2⟩
def SConfKnown.of : SConfKnown → (OV × (OV × (OV × (OV × OV)))) := fun x => (x.ports, x.routes, x.rules, x.meters, x.mirrors)
def eConfKnown : Enc SConfKnown := isoE (prodE (ovE nilMap) (prodE (ovE nilMap) (prodE (ovE nilMap) (prodE (ovE nilMap) (ovE nilMap))))) SConfKnown.to SConfKnown.of
def SConfKnown.l_ports : Lens eConfKnown (ovE nilMap) 0 := lIso _ SConfKnown.to SConfKnown.of (fun _ => rfl) (lFst (ovE nilMap) (prodE (ovE nilMap) (prodE (ovE nilMap) (prodE (ovE nilMap) (ovE nilMap)))))
@[simp] theorem SConfKnown.get_ports (x : SConfKnown) : SConfKnown.l_ports.get x = x.ports := rfl
@[simp] theorem SConfKnown.set_ports (x : SConfKnown) (y : OV) : SConfKnown.l_ports.set x y = { x with ports := y } := rfl
def SConfKnown.l_routes : Lens eConfKnown (ovE nilMap) 1 := lIso _ SConfKnown.to SConfKnown.of (fun _ => rfl) (Lens.comp (lSnd (ovE nilMap) (prodE (ovE nilMap) (prodE (ovE nilMap) (prodE (ovE nilMap) (ovE nilMap))))) (lFst (ovE nilMap) (prodE (ovE nilMap) (prodE (ovE nilMap) (ovE nilMap)))))
@[simp] theorem SConfKnown.get_routes (x : SConfKnown) : SConfKnown.l_routes.get x = x.routes := rfl
@[simp] theorem SConfKnown.set_routes (x : SConfKnown) (y : OV) : SConfKnown.l_routes.set x y = { x with routes := y } := rfl
def SConfKnown.l_rules : Lens eConfKnown (ovE nilMap) 2 := lIso _ SConfKnown.to SConfKnown.of (fun _ => rfl) (Lens.comp (lSnd (ovE nilMap) (prodE (ovE nilMap) (prodE (ovE nilMap) (prodE (ovE nilMap) (ovE nilMap))))) (Lens.comp (lSnd (ovE nilMap) (prodE (ovE nilMap) (prodE (ovE nilMap) (ovE nilMap)))) (lFst (ovE nilMap) (prodE (ovE nilMap) (ovE nilMap)))))
@[simp] theorem SConfKnown.get_rules (x : SConfKnown) : SConfKnown.l_rules.get x = x.rules := rfl
@[simp] theorem SConfKnown.set_rules (x : SConfKnown) (y : OV) : SConfKnown.l_rules.set x y = { x with rules := y } := rfl
def SConfKnown.l_meters : Lens eConfKnown (ovE nilMap) 3 := lIso _ SConfKnown.to SConfKnown.of (fun _ => rfl) (Lens.comp (lSnd (ovE nilMap) (prodE (ovE nilMap) (prodE (ovE nilMap) (prodE (ovE nilMap) (ovE nilMap))))) (Lens.comp (lSnd (ovE nilMap) (prodE (ovE nilMap) (prodE (ovE nilMap) (ovE nilMap)))) (Lens.comp (lSnd (ovE nilMap) (prodE (ovE nilMap) (ovE nilMap))) (lFst (ovE nilMap) (ovE nilMap)))))
@[simp] theorem SConfKnown.get_meters (x : SConfKnown) : SConfKnown.l_meters.get x = x.meters := rfl
@[simp] theorem SConfKnown.set_meters (x : SConfKnown) (y : OV) : SConfKnown.l_meters.set x y = { x with meters := y } := rfl
def SConfKnown.l_mirrors : Lens eConfKnown (ovE nilMap) 4 := lIso _ SConfKnown.to SConfKnown.of (fun _ => rfl) (Lens.comp (lSnd (ovE nilMap) (prodE (ovE nilMap) (prodE (ovE nilMap) (prodE (ovE nilMap) (ovE nilMap))))) (Lens.comp (lSnd (ovE nilMap) (prodE (ovE nilMap) (prodE (ovE nilMap) (ovE nilMap)))) (Lens.comp (lSnd (ovE nilMap) (prodE (ovE nilMap) (ovE nilMap))) (Lens.comp (lSnd (ovE nilMap) (ovE nilMap)) (Lens.id (ovE nilMap))))))
@[simp] theorem SConfKnown.get_mirrors (x : SConfKnown) : SConfKnown.l_mirrors.get x = x.mirrors := rfl
@[simp] theorem SConfKnown.set_mirrors (x : SConfKnown) (y : OV) : SConfKnown.l_mirrors.set x y = { x with mirrors := y } := rfl
def mapV (b : Nat) : OV := ⟨.map (some b), rfl⟩
structure CL where
  ps : List Int
  rs : List SRoute
  us : List SRule
  ms : List SMeterConf
  xs : List SMirrorConf
structure ConfAt (w : World) (c : SConf) (l : CL) : Prop where
  ps : IsSl iE w c.ports.v l.ps
  rs : IsSl eRoute w c.routes.v l.rs
  us : IsSl eRule w c.rules.v l.us
  ms : IsSl eMeterConf w c.meters.v l.ms
  xs : IsSl eMirrorConf w c.mirrors.v l.xs
theorem ConfAt.keep0 {w w' : World} {c : SConf} {l : CL} (h : ConfAt w c l) (k : Keeps Nope w w') : ConfAt w' c l := ⟨h.ps.keep0 k, h.rs.keep0 k, h.us.keep0 k, h.ms.keep0 k, h.xs.keep0 k⟩
def portsM (l : CL) : List (Int × Int) := firstN eqd (fun p => p) l.ps l.ps.length
def routesM (l : CL) : List (SPrefix × Int) := firstN SPrefix.eqb (fun r => r.to_) l.rs l.rs.length
def rulesM (l : CL) : List (ByteArray × Int) := firstN eqs (fun r => r.name) l.us l.us.length
def metersM (l : CL) : List (ByteArray × Int) := firstN eqs (fun r => r.name) l.ms l.ms.length
def mirrorsM (l : CL) : List (ByteArray × Int) := firstN eqs (fun r => r.name) l.xs l.xs.length
structure KB where
  b1 : Nat
  b2 : Nat
  b3 : Nat
  b4 : Nat
  b5 : Nat
def KB.k (x : KB) : SConfKnown := ⟨mapV x.b1, mapV x.b2, mapV x.b3, mapV x.b4, mapV x.b5⟩
def KB.R (x : KB) (l : CL) : List Res := [MapR x.b5 sE iE (mirrorsM l), MapR x.b4 sE iE (metersM l), MapR x.b3 sE iE (rulesM l), MapR x.b2 ePrefix iE (routesM l), MapR x.b1 iE iE (portsM l)]
theorem of1 (a : Int) (w : World) : Calls Tryz.prog 106 #[iE.val a] w (RetV w (iE.val (a))) := by
  refine en0 4 Tryz.func106 ?_
  refine sg (co (Ev.assign (.c (v := I 0) rfl)) ?_)
  refine nP (sg (mv rfl (asn rfl (nP (ret (done rfl (.tmp rfl .nil) (retE ?_)))))))
  rfl
theorem of1_at (M : Nat → Prop) (w : World) : FnAt Tryz.prog 106 [] M w iE iE (fun _ => True) (fun a => a) := fun a w _ _ => of1 a w
theorem z50 : (Tryz.prog.info? 50).bind (·.zero) = some (ePrefix.val ePrefix.zero) := by kernel_rfl
theorem of2 (a : SRoute) (w : World) : Calls Tryz.prog 108 #[eRoute.val a] w (RetV w (ePrefix.val (a.to_))) := by
  refine en0 5 Tryz.func108 ?_
  refine sg (cons (box (E := eRoute) (.t rfl) (fun b1 => ?_)))
  refine cons (alloc z50 (fun b2 => ?_))
  refine nP (sg (co (fA 0 (.t rfl)) ?_))
  refine co (Ev.ldx a.to_ ty50 (.t rfl) SRoute.l_to_) ?_
  refine cons (stv ty50 (Lens.id _) (.t rfl) (.t rfl) ?_)
  refine nP (ret (done rfl (.cell rfl (fun w I => run_loadVar_pts ty50 (ptsVar zm (Lens.id _) w I)) .nil) (retE ?_)))
  rfl
theorem of2_at (M : Nat → Prop) (w : World) : FnAt Tryz.prog 108 [] M w eRoute ePrefix (fun _ => True) (fun a => a.to_) := fun a w _ _ => of2 a w
theorem of3 (a : SRule) (w : World) : Calls Tryz.prog 109 #[eRule.val a] w (RetV w (sE.val (a.name))) := by
  refine en0 5 Tryz.func109 ?_
  refine sg (cons (box (E := eRule) (.t rfl) (fun b1 => ?_)))
  refine co (Ev.assign (.c (v := (Go.Value.string (ByteArray.mk #[]))) rfl)) ?_
  refine nP (sg (co (fA 0 (.t rfl)) ?_))
  refine co (Ev.ldx a.name ty9 (.t rfl) SRule.l_name) ?_
  refine asn rfl (nP (ret (done rfl (.tmp rfl .nil) (retE ?_))))
  rfl
theorem of3_at (M : Nat → Prop) (w : World) : FnAt Tryz.prog 109 [] M w eRule sE (fun _ => True) (fun a => a.name) := fun a w _ _ => of3 a w
theorem of4 (a : SMeterConf) (w : World) : Calls Tryz.prog 111 #[eMeterConf.val a] w (RetV w (sE.val (a.name))) := by
  refine en0 5 Tryz.func111 ?_
  refine sg (cons (box (E := eMeterConf) (.t rfl) (fun b1 => ?_)))
  refine co (Ev.assign (.c (v := (Go.Value.string (ByteArray.mk #[]))) rfl)) ?_
  refine nP (sg (co (fA 0 (.t rfl)) ?_))
  refine co (Ev.ldx a.name ty9 (.t rfl) SMeterConf.l_name) ?_
  refine asn rfl (nP (ret (done rfl (.tmp rfl .nil) (retE ?_))))
  rfl
theorem of4_at (M : Nat → Prop) (w : World) : FnAt Tryz.prog 111 [] M w eMeterConf sE (fun _ => True) (fun a => a.name) := fun a w _ _ => of4 a w
theorem of5 (a : SMirrorConf) (w : World) : Calls Tryz.prog 113 #[eMirrorConf.val a] w (RetV w (sE.val (a.name))) := by
  refine en0 5 Tryz.func113 ?_
  refine sg (cons (box (E := eMirrorConf) (.t rfl) (fun b1 => ?_)))
  refine co (Ev.assign (.c (v := (Go.Value.string (ByteArray.mk #[]))) rfl)) ?_
  refine nP (sg (co (fA 0 (.t rfl)) ?_))
  refine co (Ev.ldx a.name ty9 (.t rfl) SMirrorConf.l_name) ?_
  refine asn rfl (nP (ret (done rfl (.tmp rfl .nil) (retE ?_))))
  rfl
theorem of5_at (M : Nat → Prop) (w : World) : FnAt Tryz.prog 113 [] M w eMirrorConf sE (fun _ => True) (fun a => a.name) := fun a w _ _ => of5 a w
theorem en106 : Gx.Enters Tryz.prog 106 := Gx.Enters.mk' zk
theorem en108 : Gx.Enters Tryz.prog 108 := Gx.Enters.mk' zk
theorem en109 : Gx.Enters Tryz.prog 109 := Gx.Enters.mk' zk
theorem en111 : Gx.Enters Tryz.prog 111 := Gx.Enters.mk' zk
theorem en113 : Gx.Enters Tryz.prog 113 := Gx.Enters.mk' zk
theorem z84 : (Tryz.prog.info? 84).bind (·.zero) = some (eConfKnown.val eConfKnown.zero) := by kernel_rfl
theorem ty22 : TyOK Tryz.prog 22 (ovE nilSl) := TyOK.mk' zk zk
theorem ty23 : TyOK Tryz.prog 23 (ovE nilSl) := TyOK.mk' zk zk
theorem ty24 : TyOK Tryz.prog 24 (ovE nilSl) := TyOK.mk' zk zk
theorem ty25 : TyOK Tryz.prog 25 (ovE nilSl) := TyOK.mk' zk zk
theorem ty26 : TyOK Tryz.prog 26 (ovE nilSl) := TyOK.mk' zk zk
theorem en105 : Gx.Enters Tryz.prog 105 := Gx.Enters.mk' zk
theorem en107 : Gx.Enters Tryz.prog 107 := Gx.Enters.mk' zk
theorem en97 : Gx.Enters Tryz.prog 97 := Gx.Enters.mk' zk
theorem en110 : Gx.Enters Tryz.prog 110 := Gx.Enters.mk' zk
theorem en112 : Gx.Enters Tryz.prog 112 := Gx.Enters.mk' zk
theorem ty84 : TyOK Tryz.prog 84 eConfKnown := TyOK.mk' zk zk
theorem of_ok (c : SConf) (l : CL) (w : World) (hc : ConfAt w c l) : Calls Tryz.prog 36 #[eConf.val c] w (RetN w (fun _ : KB => True) (fun x => eConfKnown.val x.k) (fun x => x.R l)) := by
  refine en0 19 Tryz.func36 ?_
  refine sg (cons (box (E := eConf) (.t rfl) (fun b1 => ?_)))
  refine cons (alloc z84 (fun b2 => ?_))
  refine nP (seq (drawS 2 rfl zr zk ?_))
  refine tk 0 rfl (fA 0 (.t rfl)) ?_
  refine tk 1 rfl (Ev.ldx c.ports ty22 (.t rfl) SConf.l_ports) ?_
  refine tk 3 rfl (fA 1 (.t rfl)) ?_
  refine tk 4 rfl (Ev.ldx c.routes ty23 (.t rfl) SConf.l_routes) ?_
  refine tk 6 rfl (fA 2 (.t rfl)) ?_
  refine tk 7 rfl (Ev.ldx c.rules ty24 (.t rfl) SConf.l_rules) ?_
  refine tk 9 rfl (fA 3 (.t rfl)) ?_
  refine tk 10 rfl (Ev.ldx c.meters ty25 (.t rfl) SConf.l_meters) ?_
  refine tk 12 rfl (fA 4 (.t rfl)) ?_
  refine tk 13 rfl (Ev.ldx c.mirrors ty26 (.t rfl) SConf.l_mirrors) ?_
  refine al1 2 rfl ((calln (X := Nat) (fun _ => True) (fun b => (mapV b).v) (fun b => [MapR b iE iE (firstN eqd (fun a : Int => a) l.ps l.ps.length)]) en105 (.cons (.t rfl) (.cons .f .nil)) (fun w I => first_3_3 106 [] _ _ l.ps w en106 (hc.keep0 I.keeps).ps (of1_at _ _)) (fun n1 _ => ?_)))
  refine hdn (al1 5 rfl ((calln (X := Nat) (fun _ => True) (fun b => (mapV b).v) (fun b => [MapR b ePrefix iE (firstN SPrefix.eqb (fun a : SRoute => a.to_) l.rs l.rs.length)]) en107 (.cons (.t rfl) (.cons .f .nil)) (fun w I => first_50_52 108 [] _ _ l.rs w en108 (hc.keep0 I.keeps).rs (of2_at _ _)) (fun n2 _ => ?_))))
  refine hdn (al1 8 rfl ((calln (X := Nat) (fun _ => True) (fun b => (mapV b).v) (fun b => [MapR b sE iE (firstN eqs (fun a : SRule => a.name) l.us l.us.length)]) en97 (.cons (.t rfl) (.cons .f .nil)) (fun w I => first_9_76 109 [] _ _ l.us w en109 (hc.keep0 I.keeps).us (of3_at _ _)) (fun n3 _ => ?_))))
  refine hdn (al1 11 rfl ((calln (X := Nat) (fun _ => True) (fun b => (mapV b).v) (fun b => [MapR b sE iE (firstN eqs (fun a : SMeterConf => a.name) l.ms l.ms.length)]) en110 (.cons (.t rfl) (.cons .f .nil)) (fun w I => first_9_57 111 [] _ _ l.ms w en111 (hc.keep0 I.keeps).ms (of4_at _ _)) (fun n4 _ => ?_))))
  refine hdn (al1 14 rfl ((calln (X := Nat) (fun _ => True) (fun b => (mapV b).v) (fun b => [MapR b sE iE (firstN eqs (fun a : SMirrorConf => a.name) l.xs l.xs.length)]) en112 (.cons (.t rfl) (.cons .f .nil)) (fun w I => first_9_59 113 [] _ _ l.xs w en113 (hc.keep0 I.keeps).xs (of5_at _ _)) (fun n5 _ => ?_))))
  refine hdn (tk 15 rfl (Ev.buildS (fs := _) (places := [(0, 1), (1, 1), (2, 1), (3, 1), (4, 1)]) z84 rfl Tryz.underlying84 zk (.cons (.t rfl) (.cons (.t rfl) (.cons (.t rfl) (.cons (.t rfl) (.cons (.t rfl) .nil))))) (Fills.cons SConfKnown.l_ports rfl (Fills.cons SConfKnown.l_routes rfl (Fills.cons SConfKnown.l_rules rfl (Fills.cons SConfKnown.l_meters rfl (Fills.cons SConfKnown.l_mirrors rfl Fills.nil)))))) ?_)
  refine al1 16 rfl ((stv ty84 (Lens.id _) (.t rfl) (.t rfl) ?_))
  refine hdn (ovr (pN (ret (done rfl (.cell rfl (fun w I => run_loadVar_pts ty84 (ptsVar zm (Lens.id _) w I)) .nil) (fun w I => ?_)))))
  exact retN (⟨n1, n2, n3, n4, n5⟩ : KB) trivial rfl (by exact zs) w I
def len8Tab : ByteArray := (ByteArray.mk (List.toArray (List.append (List.append [0, 1, 2, 2, 3, 3, 3, 3, 4, 4, 4, 4, 4, 4, 4, 4, 5, 5, 5, 5, 5, 5, 5, 5, 5, 5, 5, 5, 5, 5, 5, 5, 6, 6, 6, 6, 6, 6, 6, 6, 6, 6, 6, 6, 6, 6, 6, 6, 6, 6, 6, 6, 6, 6, 6, 6, 6, 6, 6, 6, 6, 6, 6, 6] [7, 7, 7, 7, 7, 7, 7, 7, 7, 7, 7, 7, 7, 7, 7, 7, 7, 7, 7, 7, 7, 7, 7, 7, 7, 7, 7, 7, 7, 7, 7, 7, 7, 7, 7, 7, 7, 7, 7, 7, 7, 7, 7, 7, 7, 7, 7, 7, 7, 7, 7, 7, 7, 7, 7, 7, 7, 7, 7, 7, 7, 7, 7, 7]) (List.append [8, 8, 8, 8, 8, 8, 8, 8, 8, 8, 8, 8, 8, 8, 8, 8, 8, 8, 8, 8, 8, 8, 8, 8, 8, 8, 8, 8, 8, 8, 8, 8, 8, 8, 8, 8, 8, 8, 8, 8, 8, 8, 8, 8, 8, 8, 8, 8, 8, 8, 8, 8, 8, 8, 8, 8, 8, 8, 8, 8, 8, 8, 8, 8] [8, 8, 8, 8, 8, 8, 8, 8, 8, 8, 8, 8, 8, 8, 8, 8, 8, 8, 8, 8, 8, 8, 8, 8, 8, 8, 8, 8, 8, 8, 8, 8, 8, 8, 8, 8, 8, 8, 8, 8, 8, 8, 8, 8, 8, 8, 8, 8, 8, 8, 8, 8, 8, 8, 8, 8, 8, 8, 8, 8, 8, 8, 8, 8]))))
def len8 (x : UInt8) : UInt8 := (len8Tab[x.toNat]?).getD 0
set_option maxRecDepth 100000 in
theorem len8_get (x : UInt8) : len8Tab[x.toNat]? = some (len8 x) := by
  have h : ∀ n : Fin 256, len8Tab[(UInt8.ofNat n.val).toNat]? = some (len8 (UInt8.ofNat n.val)) := by decide +kernel
  have := h ⟨x.toNat, x.toNat_lt⟩
  simpa using this
theorem len8_at (x : UInt8) : 0 ≤ (x.toNat : Int) ∧ len8Tab[(x.toNat : Int).toNat]? = some (len8 x) := ⟨by omega, len8_get x⟩
def bitU (b : List UInt8) (i : Int) : UInt8 := shr8 (b.getD (i / 8).toNat 0) (7 - i % 8).toNat &&& 1
def bitsV (b : List UInt8) (f : Int) : Nat → UInt64
  | 0 => 0
  | n + 1 => shl64 (bitsV b f n) 1 ||| (bitU b (f + n)).toUInt64
def bitsB (b : List UInt8) (f n : Int) : UInt64 × Int := if n < 0 ∨ 64 < n then (0, 2) else if f < 0 ∨ 8 * b.length - n < f then (0, 5) else (bitsV b f n.toNat, 0)
theorem getD_take (l : List UInt8) (m i : Nat) (h : i < m) : (l.take m).getD i 0 = l.getD i 0 := by
  simp [List.getD, List.getElem?_take, h]
def comI : List UInt8 → List UInt8 → Nat
  | x :: a, y :: b => if x = y then comI a b + 1 else 0
  | _, _ => 0
theorem comI_step (a b : List UInt8) (i : Nat) (h1 : i < a.length) (h2 : i < b.length) : comI (a.drop i) (b.drop i) = if a.getD i 0 = b.getD i 0 then comI (a.drop (i + 1)) (b.drop (i + 1)) + 1 else 0 := by
  rw [List.drop_eq_getElem_cons h1, List.drop_eq_getElem_cons h2]
  simp [comI, List.getD, h1, h2]
theorem comI_end (a b : List UInt8) (i : Nat) (h : a.length ≤ i ∨ b.length ≤ i) : comI (a.drop i) (b.drop i) = 0 := by
  rcases h with h | h
  · rw [List.drop_eq_nil_of_le h]
    simp [comI]
  · rw [List.drop_eq_nil_of_le h]
    cases a.drop i <;> simp [comI]
def commonB (a b : List UInt8) : Int := if (comI a b : Int) = min (a.length : Int) b.length then 8 * min (a.length : Int) b.length else 8 * (comI a b : Int) + (8 - ((len8 (a.getD (comI a b) 0 ^^^ b.getD (comI a b) 0)).toNat : Int))
theorem len8_ok (x : UInt8) (w : World) : Calls Tryz.prog 200 #[U8 x] w (RetV w (I (len8 x).toNat)) := by
  refine en0 6 Tryz.func200 ?_
  refine sg (co (Ev.assign (.c (v := I 0) rfl)) ?_)
  refine nP (sg (mv rfl (co (Ev.indexS (b := len8 x) (s := len8Tab) Tryz.underlying9 (.c rfl) (.t rfl) (fun _ => len8_at x)) ?_)))
  refine co (Ev.conv_u8_i Tryz.underlying3 Tryz.underlying5 (.t rfl)) ?_
  refine asn rfl (nP (ret (done rfl (.tmp rfl .nil) (retE ?_))))
  rfl
theorem len8_le (x : UInt8) : (len8 x).toNat ≤ 8 := by
      have h : ∀ n : Fin 256, (len8 (UInt8.ofNat n.val)).toNat ≤ 8 := by decide +kernel
      have := h ⟨x.toNat, x.toNat_lt⟩
      simpa using this
theorem en200 : Gx.Enters Tryz.prog 200 := Gx.Enters.mk' zk
theorem lz8_ok (x : UInt8) (w : World) : Calls Tryz.prog 199 #[U8 x] w (RetV w (I (8 - ((len8 x).toNat : Int)))) := by
  have hx := len8_le x
  refine en0 6 Tryz.func199 ?_
  refine sg (co (Ev.assign (.c (v := I 0) rfl)) ?_)
  refine nP (sg (mv rfl (cons (callv en200 (.cons (.t rfl) .nil) (fun w I => len8_ok _ w) ?_))))
  refine co (Ev.sub_i (.c (v := I 8) rfl) (.t rfl) (fun _ => zo)) ?_
  refine asn rfl (nP (ret (done rfl (.tmp rfl .nil) (retE ?_))))
  rfl
theorem en199 : Gx.Enters Tryz.prog 199 := Gx.Enters.mk' zk
theorem common_ok (u v : Value) (a b : List UInt8) (w : World) (ha : IsSl u8E w u a) (hb : IsSl u8E w v b) (hl : a.length ≤ 1152921504606846974) : Calls Tryz.prog 190 #[u, v] w (RetV w (I (commonB a b))) := by
  have hal := ha.le
  have hbl := hb.le
  obtain ⟨m, hm⟩ : ∃ m : Nat, (min (a.length : Int) b.length) = (m : Int) := ⟨min a.length b.length, by omega⟩
  have hsa : IsSl u8E w (subS u8E.size u 0 m) (a.take m) := by
    have := ha.sub (l := 0) (k := m) (by omega) (by omega)
    simpa using this
  have hsb : IsSl u8E w (subS u8E.size v 0 m) (b.take m) := by
    have := hb.sub (l := 0) (k := m) (by omega) (by omega)
    simpa using this
  have hla : (a.take m).length = m := by simp; omega
  have hlb : (b.take m).length = m := by simp; omega
  refine en0 52 Tryz.func190 ?_
  refine sg (co (Ev.assign (.c (v := I 0) rfl)) ?_)
  refine nP (sg (mv rfl (co (Ev.len Tryz.underlying153 (.t rfl) zf) ?_)))
  refine mv rfl (co (Ev.len Tryz.underlying153 (.t rfl) zf) ?_)
  refine co (Ev.to (v' := I ((m : Nat) : Int)) (Ev.min_i (.t rfl) (.t rfl)) (by rw [hm])) ?_
  refine asn rfl (nP (seq (draw' zk ?_)))
  refine tk 0 rfl (Ev.move (.t rfl)) ?_
  refine tk 1 rfl (Ev.move (.t rfl)) ?_
  refine tk 2 rfl (Ev.sliceH Tryz.underlying153 ty5 (.t rfl) (.t rfl) zf (fun _ => zo)) ?_
  refine tk 3 rfl (Ev.move (.t rfl)) ?_
  refine tk 4 rfl (Ev.move (.t rfl)) ?_
  refine tk 5 rfl (Ev.sliceH Tryz.underlying153 ty5 (.t rfl) (.t rfl) zf (fun _ => zo)) ?_
  refine tk 6 rfl (Ev.assign (.t rfl)) ?_
  refine tk 7 rfl (Ev.assign (.t rfl)) ?_
  refine ovr (pN (sg (co (Ev.assign (.c (v := I 0) rfl)) ?_)))
  refine nP (seq (block (lp (X := Int) (fun x : Int => (0 ≤ x ∧ x ≤ m) ∧ ((comI a b : Int) = x + comI (a.drop x.toNat) (b.drop x.toNat))) (fun x : Int => [(0, true, subS u8E.size u 0 m), (1, true, subS u8E.size v 0 m), (5, true, I m), (6, true, I x)]) (fun x : Int => []) (fun x : Int => (m - x).toNat) (0) ⟨?_, ?_⟩ (fun x hx => ?_))))
  · omega
  · simp
  obtain ⟨i, rfl⟩ : ∃ y, y = x := ⟨x, rfl⟩
  obtain ⟨hi, hc⟩ : (0 ≤ i ∧ i ≤ m) ∧ ((comI a b : Int) = i + comI (a.drop i.toNat) (b.drop i.toNat)) := hx
  show Sat _ _ [(0, true, subS u8E.size u 0 m), (1, true, subS u8E.size v 0 m), (5, true, I m), (6, true, I i)] []
  refine seq (seq (draw' zk ?_))
  refine tk 0 rfl (Ev.move (.t rfl)) ?_
  refine tk 1 rfl (Ev.move (.t rfl)) ?_
  refine tk 2 rfl (Ev.lss_i (.t rfl) (.t rfl)) ?_
  refine tk 3 rfl (Ev.move (.t rfl)) ?_
  refine tkg 4 rfl rfl rfl (Ev.move (.t rfl)) ?_
  refine tkg 5 rfl rfl rfl (Ev.move (.t rfl)) ?_
  refine tkg 6 rfl rfl rfl (Ev.indexAddr Tryz.underlying153 ty5 (.g rfl id) (.g rfl id) (fun w I => hsa.keep0 I.keeps) (fun _ => by first | omega | (rename_i hg; simp at hg; omega))) ?_
  refine tkg 7 rfl rfl rfl (Ev.loadS0 ty5 (.g rfl id) (fun w I => hsa.keep0 I.keeps) (fun _ => by first | omega | (rename_i hg; simp at hg; omega))) ?_
  refine tkg 8 rfl rfl rfl (Ev.move (.t rfl)) ?_
  refine tkg 9 rfl rfl rfl (Ev.move (.t rfl)) ?_
  refine tkg 10 rfl rfl rfl (Ev.indexAddr Tryz.underlying153 ty5 (.g rfl id) (.g rfl id) (fun w I => hsb.keep0 I.keeps) (fun _ => by first | omega | (rename_i hg; simp at hg; omega))) ?_
  refine tkg 11 rfl rfl rfl (Ev.loadS0 ty5 (.g rfl id) (fun w I => hsb.keep0 I.keeps) (fun _ => by first | omega | (rename_i hg; simp at hg; omega))) ?_
  refine tkg 12 rfl rfl rfl (Ev.eql_u8 (.g rfl id) (.g rfl id)) ?_
  refine tk 13 rfl (Ev.pkA (.t rfl) rfl) ?_
  refine ovr (pN ?_)
  first | refine condD rfl (fun hlt => ?_) (fun hge => ?_) | refine cond rfl (fun hlt => ?_) (fun hge => ?_)
  · try simp only [nb] at hlt
    refine skip (pN (block (region (mv rfl (co (Ev.add_i (.t rfl) (.c (v := I 1) rfl) (fun _ => zo)) ?_)))))
    refine asn rfl (nil (bN (pN (nx (X := Int) (i + 1) ⟨?_, ?_⟩ ?_))))
    · try dsimp only
      omega
    · try dsimp only
      have hst := comI_step a b i.toNat (by omega) (by omega)
      have ga := getD_take a m i.toNat (by omega)
      have gb := getD_take b m i.toNat (by omega)
      have hq : a.getD i.toNat 0 = b.getD i.toNat 0 := ga.symm.trans (hlt.2.trans gb)
      rw [if_pos hq] at hst
      have e : (i + 1).toNat = i.toNat + 1 := by omega
      rw [e]; omega
    · try dsimp only
      omega
  · try simp only [nb] at hge
    refine exit (pX (pX (bX (pN (seq (sg (mv rfl (mv rfl (co (Ev.eql_i (.t rfl) (.t rfl)) ?_)))))))))
    refine nP ?_
    first | refine condD rfl (fun heq => ?_) (fun hne => ?_) | refine cond rfl (fun heq => ?_) (fun hne => ?_)
    · try simp only [nb] at heq
      refine sg (mv rfl (co (Ev.mul_i (.c (v := I 8) rfl) (.t rfl) (fun _ => zo)) ?_))
      refine asn rfl (nP (ret (pR (done rfl (.tmp rfl .nil) (retE ?_)))))
      have hst := comI_end a b i.toNat (by omega)
      unfold commonB
      rw [if_pos (by omega), ← hm]; rfl
    · try simp only [nb] at hne
      have hq : ¬ a.getD i.toNat 0 = b.getD i.toNat 0 := fun hq => by
        have ga := getD_take a m i.toNat (by omega)
        have gb := getD_take b m i.toNat (by omega)
        have hq2 := ga.trans (hq.trans gb.symm)
        rcases hge with h | h
        · omega
        · exact h hq2
      have hst := comI_step a b i.toNat (by omega) (by omega)
      rw [if_neg hq] at hst
      have hci : comI a b = i.toNat := by omega
      refine skip (pN (seq (draw' zk ?_)))
      refine tk 0 rfl (Ev.move (.t rfl)) ?_
      refine tk 1 rfl (Ev.mul_i (.c (v := I 8) rfl) (.t rfl) (fun _ => zo)) ?_
      refine tk 2 rfl (Ev.move (.t rfl)) ?_
      refine tk 3 rfl (Ev.move (.t rfl)) ?_
      refine tk 4 rfl (Ev.indexAddr Tryz.underlying153 ty5 (.t rfl) (.t rfl) (fun w I => hsa.keep0 I.keeps) (fun _ => zo)) ?_
      refine tk 5 rfl (Ev.loadS0 ty5 (.t rfl) (fun w I => hsa.keep0 I.keeps) (fun _ => zo)) ?_
      refine tk 6 rfl (Ev.move (.t rfl)) ?_
      refine tk 7 rfl (Ev.move (.t rfl)) ?_
      refine tk 8 rfl (Ev.indexAddr Tryz.underlying153 ty5 (.t rfl) (.t rfl) (fun w I => hsb.keep0 I.keeps) (fun _ => zo)) ?_
      refine tk 9 rfl (Ev.loadS0 ty5 (.t rfl) (fun w I => hsb.keep0 I.keeps) (fun _ => zo)) ?_
      refine tk 10 rfl (Ev.xor_u8 (.t rfl) (.t rfl)) ?_
      refine al1 11 rfl ((callv en199 (.cons (.t rfl) .nil) (fun w I => lz8_ok _ w) ?_))
      refine hdn (tk 12 rfl (Ev.add_i (.t rfl) (.t rfl) (fun _ => by have h8 := len8_le ((List.take m a).getD i.toNat u8E.zero ^^^ (List.take m b).getD i.toNat u8E.zero); omega)) ?_)
      refine tk 13 rfl (Ev.assign (.t rfl)) ?_
      refine ovr (pN (ret (done rfl (.tmp rfl .nil) (retE ?_))))
      unfold commonB
      rw [if_neg (by omega), hci]
      have ga := getD_take a m i.toNat (by omega)
      have gb := getD_take b m i.toNat (by omega)
      have ei : (i.toNat : Int) = i := by omega
      rw [ei, ← ga, ← gb]; rfl
def bn (x k : Nat) : Nat := x / 2 ^ k % 2
structure IsCom (a b : List UInt8) (n : Int) : Prop where
  p : 0 ≤ n
  la : n ≤ 8 * a.length
  lb : n ≤ 8 * b.length
  eq : ∀ i : Int, 0 ≤ i → i < n → bitU a i = bitU b i
  ne : n < 8 * a.length → n < 8 * b.length → bitU a n ≠ bitU b n
theorem IsCom.symm {a b : List UInt8} {n : Int} (h : IsCom a b n) : IsCom b a n := ⟨h.p, h.lb, h.la, fun i h0 hi => (h.eq i h0 hi).symm, fun h1 h2 e => h.ne h2 h1 e.symm⟩
def wd (a : SAddr) : Int := bif a.v6 then 128 else 32
theorem wd_le (a : SAddr) : 32 ≤ wd a ∧ wd a ≤ 128 := by unfold wd; cases a.v6 <;> decide
def mk1 (left : Int) (x : UInt8) : UInt8 := if left ≤ 0 then 0 else if left < 8 then x &&& shl8 255 (8 - left).toNat else x
def maskV (bits : Int) (b : Vector UInt8 16) : Vector UInt8 16 := Vector.ofFn fun i => mk1 (bits - 8 * (i.val : Int)) b[i]
def maskTo (bits : Int) (b : Vector UInt8 16) (k : Int) : Vector UInt8 16 := Vector.ofFn fun i => if (i.val : Int) < k then mk1 (bits - 8 * (i.val : Int)) b[i] else b[i]
theorem maskTo_zero (bits : Int) (b : Vector UInt8 16) : maskTo bits b 0 = b := by
  apply Vector.ext
  intro i hi
  have : ¬ (i : Int) < 0 := by omega
  simp only [maskTo, Vector.getElem_ofFn, if_neg this, Fin.getElem_fin]
theorem maskTo_all (bits : Int) (b : Vector UInt8 16) (k : Int) (h : 16 ≤ k) : maskTo bits b k = maskV bits b := by
  apply Vector.ext
  intro i hi
  have : (i : Int) < k := by omega
  simp [maskTo, maskV, this]
theorem maskTo_step (bits : Int) (b : Vector UInt8 16) (k : Int) (h0 : 0 ≤ k) (h1 : k < 16) (hk : k.toNat < 16) : (maskTo bits b k).set k.toNat (mk1 (bits - 8 * k) b[k.toNat]) hk = maskTo bits b (k + 1) := by
  apply Vector.ext
  intro i hi
  rw [Vector.getElem_set]
  by_cases e : k.toNat = i
  · subst e
    have e2 : ((k.toNat : Nat) : Int) = k := by omega
    have e3 : (k.toNat : Int) < k + 1 := by omega
    simp [maskTo, e2]
    omega
  · rw [if_neg e]
    by_cases e4 : (i : Int) < k
    · have e5 : (i : Int) < k + 1 := by omega
      simp [maskTo, e4, e5]
    · have e5 : ¬ (i : Int) < k + 1 := by omega
      simp [maskTo, e4, e5]
theorem maskTo_skip (bits : Int) (b : Vector UInt8 16) (k : Int) (h0 : 0 ≤ k) (h1 : k < 16) (hk : k.toNat < 16) (h : mk1 (bits - 8 * k) b[k.toNat] = b[k.toNat]) : maskTo bits b k = maskTo bits b (k + 1) := by
  rw [← maskTo_step bits b k h0 h1 hk, h]
  apply Vector.ext
  intro i hi
  rw [Vector.getElem_set]
  split
  · rename_i e
    subst e
    have e2 : ¬ ((k.toNat : Nat) : Int) < k := by omega
    simp only [maskTo, Vector.getElem_ofFn, if_neg e2, Fin.getElem_fin]
  · rfl
theorem maskTo_get (bits : Int) (b : Vector UInt8 16) (k : Int) (h0 : 0 ≤ k) (hk : k.toNat < 16) : (maskTo bits b k)[k.toNat] = b[k.toNat] := by
  have e2 : ¬ ((k.toNat : Nat) : Int) < k := by omega
  simp only [maskTo, Vector.getElem_ofFn, if_neg e2, Fin.getElem_fin]
def checkA (a : SAddr) : Int := if maskV (wd a) a.b = a.b then 0 else 150
def checkP (p : SPrefix) : Int := if p.bits < 0 ∨ wd p.addr < p.bits ∨ maskV p.bits p.addr.b ≠ p.addr.b then 151 else 0
def hasP (p : SPrefix) (a : SAddr) : Bool := decide (checkP p = 0) && decide (checkA a = 0) && decide (a.v6 = p.addr.v6) && decide (p.bits ≤ commonB a.b.toList p.addr.b.toList)
def coversP (p q : SPrefix) : Bool := decide (checkP q = 0) && decide (p.bits ≤ q.bits) && hasP p q.addr
theorem width_ok (a : SAddr) (w : World) : Calls Tryz.prog 151 #[eAddr.val a] w (RetV w (I (wd a))) := by
  refine en0 5 Tryz.func151 ?_
  refine sg (cons (box (E := eAddr) (.t rfl) (fun b1 => ?_)))
  refine co (Ev.assign (.c (v := I 0) rfl)) ?_
  refine nP (seq (sg (co (fA 0 (.t rfl)) ?_)))
  refine co (Ev.ldx a.v6 ty4 (.t rfl) SAddr.l_v6) ?_
  refine nP ?_
  first | refine condD rfl (fun h0 => ?_) (fun h0 => ?_) | refine cond rfl (fun h0 => ?_) (fun h0 => ?_)
  · try simp only [nb] at h0
    refine sg (co (Ev.assign (.c (v := I 128) rfl)) ?_)
    refine nP (ret (pR (done rfl (.tmp rfl .nil) (retE ?_))))
    simp [wd, h0, tupV]
  · try simp only [nb] at h0
    refine skip (pN (sg (co (Ev.assign (.c (v := I 32) rfl)) ?_)))
    refine nP (ret (done rfl (.tmp rfl .nil) (retE ?_)))
    simp [wd, h0, tupV]
theorem z48 : (Tryz.prog.info? 48).bind (·.zero) = some (eAddr.val eAddr.zero) := by kernel_rfl
theorem masked_ok (a : SAddr) (n : Int) (w : World) (hn : 0 ≤ n ∧ n ≤ 128) : Calls Tryz.prog 152 #[eAddr.val a, I n] w (RetV w (eAddr.val { a with b := maskV n a.b })) := by
  refine en0 35 Tryz.func152 ?_
  refine sg (cons (box (E := eAddr) (.t rfl) (fun b1 => ?_)))
  refine cons (alloc z48 (fun b2 => ?_))
  refine nP (seq (sg (co (Ev.move (.c (v := I 0) rfl)) ?_)))
  refine nP (block (lp (X := Int × (Vector UInt8 16)) (fun x : Int × (Vector UInt8 16) => (0 ≤ x.1 ∧ x.1 ≤ 16) ∧ (x.2 = maskTo n a.b x.1)) (fun x : Int × (Vector UInt8 16) => [(1, true, I n), (2, true, .pointer (some ⟨b1, 0, none⟩)), (4, true, .pointer (some ⟨b2, 0, none⟩)), (7, true, I x.1)]) (fun x : Int × (Vector UInt8 16) => [Var b2 eAddr eAddr.zero 48, Var b1 eAddr { a with b := x.2 } 48]) (fun x : Int × (Vector UInt8 16) => (16 - x.1).toNat) (0, a.b) ⟨?_, ?_⟩ (fun x hx => ?_) (hL := (by repeat first | exact List.Sublist.refl _ | apply List.Sublist.cons_cons | apply List.Sublist.cons))))
  · omega
  · exact (maskTo_zero n a.b).symm
  obtain ⟨k, v⟩ := x
  obtain ⟨hk, hv⟩ : (0 ≤ k ∧ k ≤ 16) ∧ (v = maskTo n a.b k) := hx
  show Sat _ _ [(1, true, I n), (2, true, .pointer (some ⟨b1, 0, none⟩)), (4, true, .pointer (some ⟨b2, 0, none⟩)), (7, true, I k)] [Var b2 eAddr eAddr.zero 48, Var b1 eAddr { a with b := v } 48]
  refine sg (co (Ev.lss_i (.t rfl) (.c (v := I 16) rfl)) ?_)
  refine nP (seq ?_)
  first | refine condD rfl (fun hlt => ?_) (fun hge => ?_) | refine cond rfl (fun hlt => ?_) (fun hge => ?_)
  · try simp only [nb] at hlt
    refine skip (pN (seq (block (sg (mv rfl (asn rfl (nP (sg (mv rfl (mv rfl (co (Ev.mul_i (.c (v := I 8) rfl) (.t rfl) (fun _ => zo)) ?_)))))))))))
    refine co (Ev.sub_i (.t rfl) (.t rfl) (fun _ => zo)) ?_
    refine asn rfl (nP (block (sg ?_)))
    have hk16 : k.toNat < 16 := by omega
    refine mv rfl (co (Ev.leq_i (.t rfl) (.c (v := I 0) rfl)) ?_)
    refine asn rfl (nP ?_)
    first | refine condD rfl (fun hz => ?_) (fun hnz => ?_) | refine cond rfl (fun hz => ?_) (fun hnz => ?_)
    · try simp only [nb] at hz
      have hst : v.set k.toNat 0 hk16 = maskTo n a.b (k + 1) := by
        rw [hv, ← maskTo_step n a.b k hk.1 (by omega) hk16]
        congr 1
        unfold mk1
        rw [if_pos hz]
      refine region (mv rfl (co (fA 1 (.t rfl)) ?_))
      refine co (Ev.indexAddrA Tryz.underlying46 ty5 (.t rfl) (.t rfl) (fun _ => zo)) ?_
      refine cons (stv ty5 (Lens.comp SAddr.l_b (lArr (n := 16) u8E _ (by omega))) (.t rfl) (.c (v := U8 0) rfl) ?_)
      refine nil (bN (bN (pN (region (co (Ev.add_i (.t rfl) (.c (v := I 1) rfl) (fun _ => zo)) ?_)))))
      refine mv rfl (nP (nx (X := Int × (Vector UInt8 16)) (k + 1, _) ⟨?_, ?_⟩ ?_))
      · try dsimp only
        omega
      · try dsimp only
        exact hst
      · try dsimp only
        omega
    · try simp only [nb] at hnz
      refine sg (mv rfl (co (Ev.lss_i (.t rfl) (.c (v := I 8) rfl)) ?_))
      refine asn rfl (nP ?_)
      first | refine condD rfl (fun h8 => ?_) (fun hn8 => ?_) | refine cond rfl (fun h8 => ?_) (fun hn8 => ?_)
      · try simp only [nb] at h8
        have hst : v.set k.toNat (v[k.toNat] &&& shl8 255 (8 - (n - 8 * k)).toNat) hk16 = maskTo n a.b (k + 1) := by
          rw [← maskTo_step n a.b k hk.1 (by omega) hk16, ← hv]
          congr 1
          unfold mk1
          rw [if_neg hnz, if_pos h8, hv, maskTo_get n a.b k hk.1 hk16]
        refine drawS 2 rfl zr zk ?_
        refine tk 0 rfl (Ev.move (.t rfl)) ?_
        refine tk 1 rfl (fA 1 (.t rfl)) ?_
        refine tk 2 rfl (Ev.indexAddrA Tryz.underlying46 ty5 (.t rfl) (.t rfl) (fun _ => zo)) ?_
        refine tk 4 rfl (Ev.move (.t rfl)) ?_
        refine tk 5 rfl (Ev.sub_i (.c (v := I 8) rfl) (.t rfl) (fun _ => zo)) ?_
        refine tk 6 rfl (Ev.shl_u8 (.c (v := U8 255) rfl) (.t rfl) (fun _ => zo)) ?_
        refine tk 8 rfl (fA 1 (.t rfl)) ?_
        refine al1 3 rfl ((opv (Ev.ldv ty5 (.t rfl) (Lens.comp SAddr.l_b (lArr (n := 16) u8E _ (by omega)))) ?_))
        refine hdn (tk 7 rfl (Ev.and_u8 (.t rfl) (.t rfl)) ?_)
        refine tk 9 rfl (Ev.indexAddrA Tryz.underlying46 ty5 (.t rfl) (.t rfl) (fun _ => zo)) ?_
        refine al1 10 rfl ((stv ty5 (Lens.comp SAddr.l_b (lArr (n := 16) u8E _ (by omega))) (.t rfl) (.t rfl) ?_))
        refine hdn (ovr (bN (bN (pN (region (co (Ev.add_i (.t rfl) (.c (v := I 1) rfl) (fun _ => zo)) ?_))))))
        refine mv rfl (nP (nx (X := Int × (Vector UInt8 16)) (k + 1, _) ⟨?_, ?_⟩ ?_))
        · try dsimp only
          omega
        · try dsimp only
          exact hst
        · try dsimp only
          omega
      · try simp only [nb] at hn8
        have hst : v = maskTo n a.b (k + 1) := by
          rw [hv]
          exact maskTo_skip n a.b k hk.1 (by omega) hk16 (by unfold mk1; rw [if_neg hnz, if_neg hn8])
        refine skip (bN (bN (pN (region (co (Ev.add_i (.t rfl) (.c (v := I 1) rfl) (fun _ => zo)) ?_)))))
        refine mv rfl (nP (nx (X := Int × (Vector UInt8 16)) (k + 1, _) ⟨?_, ?_⟩ ?_))
        · try dsimp only
          omega
        · try dsimp only
          exact hst
        · try dsimp only
          omega
  · try simp only [nb] at hge
    refine exit (pX (pX (bX (pN (sg (co (Ev.ldv ty48 (.t rfl) (Lens.id _)) ?_))))))
    refine cons (stv ty48 (Lens.id _) (.t rfl) (.t rfl) ?_)
    refine nP (ret (done rfl (.cell rfl (fun w I => run_loadVar_pts ty48 (ptsVar zm (Lens.id _) w I)) .nil) (retE ?_)))
    rw [maskTo_all n a.b k (by omega)] at hv
    rw [← hv]; rfl
theorem en151 : Gx.Enters Tryz.prog 151 := Gx.Enters.mk' zk
theorem en152 : Gx.Enters Tryz.prog 152 := Gx.Enters.mk' zk
theorem checkA_ok (a : SAddr) (w : World) : Calls Tryz.prog 189 #[eAddr.val a] w (RetV w (I (checkA a))) := by
  have hw := wd_le a
  refine en0 11 Tryz.func189 ?_
  refine sg (cons (box (E := eAddr) (.t rfl) (fun b1 => ?_)))
  refine co (Ev.assign (.c (v := I 0) rfl)) ?_
  refine nP (seq (seq (draw' zk ?_)))
  refine tk 0 rfl (Ev.ldx a ty48 (.t rfl) (Lens.id _)) ?_
  refine tk 1 rfl (Ev.ldx a ty48 (.t rfl) (Lens.id _)) ?_
  refine tk 5 rfl (fA 1 (.t rfl)) ?_
  refine tk 6 rfl (Ev.ldx a.b ty46 (.t rfl) SAddr.l_b) ?_
  refine al1 2 rfl ((callv en151 (.cons (.t rfl) .nil) (fun w I => width_ok _ w) ?_))
  refine hdn (al1 3 rfl ((callv en152 (.cons (.t rfl) (.cons (.t rfl) .nil)) (fun w I => masked_ok _ _ w (by first | omega | (simp; omega))) ?_)))
  refine hdn (tk 4 rfl (Ev.fieldS (o := 1) (e := 46) rfl zk ty46 SAddr.l_b (.t rfl)) ?_)
  refine tk 7 rfl (Ev.neqS rfl (eqok_arr Tryz.underlying46 ty5 (eqok_u8 Tryz.underlying5)) rfl zk (.t rfl) (.t rfl)) ?_
  refine ovr (pN ?_)
  first | refine condD rfl (fun h0 => ?_) (fun h0 => ?_) | refine cond rfl (fun h0 => ?_) (fun h0 => ?_)
  · try simp only [nb] at h0
    refine sg (co (Ev.assign (.c (v := I 150) rfl)) ?_)
    refine nP (ret (pR (done rfl (.tmp rfl .nil) (retE ?_))))
    have hne : maskV (wd a) a.b ≠ a.b := by simpa using h0
    unfold checkA; rw [if_neg hne]; rfl
  · try simp only [nb] at h0
    refine skip (pN (sg (co (Ev.assign (.c (v := I 0) rfl)) ?_)))
    refine nP (ret (done rfl (.tmp rfl .nil) (retE ?_)))
    have he : maskV (wd a) a.b = a.b := by simpa using h0
    unfold checkA; rw [if_pos he]; rfl
theorem checkP_ok (p : SPrefix) (w : World) : Calls Tryz.prog 114 #[ePrefix.val p] w (RetV w (I (checkP p))) := by
  have hw := wd_le p.addr
  refine en0 26 Tryz.func114 ?_
  refine sg (cons (box (E := ePrefix) (.t rfl) (fun b1 => ?_)))
  refine co (Ev.assign (.c (v := I 0) rfl)) ?_
  refine nP (seq (seq (draw' zk ?_)))
  refine tk 0 rfl (fA 17 (.t rfl)) ?_
  refine tk 1 rfl (Ev.ldx p.bits ty3 (.t rfl) SPrefix.l_bits) ?_
  refine tk 2 rfl (Ev.lss_i (.t rfl) (.c (v := I 0) rfl)) ?_
  refine tk 3 rfl (Ev.move (.t rfl)) ?_
  refine tkg 4 rfl rfl rfl (fA 17 (.t rfl)) ?_
  refine tkg 5 rfl rfl rfl (Ev.ldx p.bits ty3 (.g rfl id) SPrefix.l_bits) ?_
  refine tkg 6 rfl rfl rfl (fA 0 (.t rfl)) ?_
  refine tkg 7 rfl rfl rfl (Ev.ldx p.addr ty48 (.g rfl id) SPrefix.l_addr) ?_
  refine al1 8 rfl ((callg rfl rfl en151 (.cons (.g rfl id) .nil) (fun hg w I => width_ok _ w) ?_))
  refine hdn (tkg 9 rfl rfl rfl (Ev.gtr_i (.g rfl id) (.g rfl id)) ?_)
  refine tk 10 rfl (Ev.pkO (.t rfl) rfl) ?_
  refine tk 11 rfl (Ev.move (.t rfl)) ?_
  refine tkg 12 rfl rfl rfl (fA 0 (.t rfl)) ?_
  refine tkg 13 rfl rfl rfl (Ev.ldx p.addr ty48 (.g rfl id) SPrefix.l_addr) ?_
  refine tkg 14 rfl rfl rfl (fA 17 (.t rfl)) ?_
  refine tkg 15 rfl rfl rfl (Ev.ldx p.bits ty3 (.g rfl id) SPrefix.l_bits) ?_
  refine tkg 18 rfl rfl rfl (fA 0 (.t rfl)) ?_
  refine tkg 19 rfl rfl rfl (fA 1 (.g rfl id)) ?_
  refine tkg 20 rfl rfl rfl (Ev.ldx p.addr.b ty46 (.g rfl id) (Lens.comp SPrefix.l_addr SAddr.l_b)) ?_
  refine al1 16 rfl ((callg rfl rfl en152 (.cons (.g rfl id) (.cons (.g rfl id) .nil)) (fun hg w I => masked_ok _ _ w (by simp at hg ⊢; omega)) ?_))
  refine hdn (tkg 17 rfl rfl rfl (Ev.fieldS (o := 1) (e := 46) rfl zk ty46 SAddr.l_b (.g rfl id)) ?_)
  refine tkg 21 rfl rfl rfl (Ev.neqS rfl (eqok_arr Tryz.underlying46 ty5 (eqok_u8 Tryz.underlying5)) rfl zk (.g rfl id) (.g rfl id)) ?_
  refine tk 22 rfl (Ev.pkO (.t rfl) rfl) ?_
  refine ovr (pN ?_)
  first | refine condD rfl (fun h0 => ?_) (fun h0 => ?_) | refine cond rfl (fun h0 => ?_) (fun h0 => ?_)
  · refine sg (co (Ev.assign (.c (v := I 151) rfl)) ?_)
    refine nP (ret (pR (done rfl (.tmp rfl .nil) (retE ?_))))
    unfold checkP; rw [if_pos (by simpa [and_assoc, or_assoc] using h0)]; rfl
  · refine skip (pN (sg (co (Ev.assign (.c (v := I 0) rfl)) ?_)))
    refine nP (ret (done rfl (.tmp rfl .nil) (retE ?_)))
    unfold checkP; rw [if_neg (by simpa [and_assoc, or_assoc] using h0)]; rfl
theorem en114 : Gx.Enters Tryz.prog 114 := Gx.Enters.mk' zk
theorem en189 : Gx.Enters Tryz.prog 189 := Gx.Enters.mk' zk
theorem en190 : Gx.Enters Tryz.prog 190 := Gx.Enters.mk' zk
theorem hasP_ok (p : SPrefix) (a : SAddr) (w : World) : Calls Tryz.prog 172 #[ePrefix.val p, eAddr.val a] w (RetV w (.bool (hasP p a))) := by
  refine en0 32 Tryz.func172 ?_
  refine sg (cons (box (E := ePrefix) (.t rfl) (fun b1 => ?_)))
  refine cons (box (E := eAddr) (.t rfl) (fun b2 => ?_))
  refine co (Ev.assign (.c (v := .bool false) rfl)) ?_
  refine nP (seq (draw' zk ?_))
  refine tk 0 rfl (Ev.ldx p ty50 (.t rfl) (Lens.id _)) ?_
  refine al1 1 rfl ((callv en114 (.cons (.t rfl) .nil) (fun w I => checkP_ok _ w) ?_))
  refine hdn (tk 2 rfl (Ev.eql_i (.t rfl) (.c (v := I 0) rfl)) ?_)
  refine tk 3 rfl (Ev.move (.t rfl)) ?_
  refine tkg 4 rfl rfl rfl (Ev.ldx a ty48 (.t rfl) (Lens.id _)) ?_
  refine al1 5 rfl ((callg rfl rfl en189 (.cons (.g rfl id) .nil) (fun hg w I => checkA_ok _ w) ?_))
  refine hdn (tkg 6 rfl rfl rfl (Ev.eql_i (.g rfl id) (.c (v := I 0) rfl)) ?_)
  refine tk 7 rfl (Ev.pkA (.t rfl) rfl) ?_
  refine tk 8 rfl (Ev.move (.t rfl)) ?_
  refine tkg 9 rfl rfl rfl (fA 0 (.t rfl)) ?_
  refine tkg 10 rfl rfl rfl (Ev.ldx a.v6 ty4 (.g rfl id) SAddr.l_v6) ?_
  refine tkg 11 rfl rfl rfl (fA 0 (.t rfl)) ?_
  refine tkg 12 rfl rfl rfl (fA 0 (.g rfl id)) ?_
  refine tkg 13 rfl rfl rfl (Ev.ldx p.addr.v6 ty4 (.g rfl id) (Lens.comp SPrefix.l_addr SAddr.l_v6)) ?_
  refine tkg 14 rfl rfl rfl (Ev.eql_b Tryz.underlying4 (.g rfl id) (.g rfl id)) ?_
  refine tk 15 rfl (Ev.pkA (.t rfl) rfl) ?_
  refine tk 16 rfl (Ev.move (.t rfl)) ?_
  refine tkg 17 rfl rfl rfl (fA 1 (.t rfl)) ?_
  refine tkg 18 rfl rfl rfl (Ev.sliceArr (l := 0) (h := 16) Tryz.underlying46 ty5 (.g rfl id) rfl rfl (fun _ => by decide)) ?_
  refine tkg 19 rfl rfl rfl (fA 0 (.t rfl)) ?_
  refine tkg 20 rfl rfl rfl (fA 1 (.g rfl id)) ?_
  refine tkg 21 rfl rfl rfl (Ev.sliceArr (l := 0) (h := 16) Tryz.underlying46 ty5 (.g rfl id) rfl rfl (fun _ => by decide)) ?_
  refine tkg 23 rfl rfl rfl (fA 17 (.t rfl)) ?_
  refine tkg 24 rfl rfl rfl (Ev.ldx p.bits ty3 (.g rfl id) SPrefix.l_bits) ?_
  refine al1 22 rfl ((callg rfl rfl en190 (.cons (.g rfl id) (.cons (.g rfl id) .nil)) (fun hg w I => common_ok _ _ _ _ w (isSl_arr (ptsVar (by repeat first | exact mH | apply mT | apply mA) SAddr.l_b w I) (by decide) (by decide) (by decide)) (isSl_arr (ptsVar (by repeat first | exact mH | apply mT | apply mA) (Lens.comp SPrefix.l_addr SAddr.l_b) w I) (by decide) (by decide) (by decide)) (by first | omega | (simp; done))) ?_))
  refine hdn (tkg 25 rfl rfl rfl (Ev.geq_i (.g rfl id) (.g rfl id)) ?_)
  refine tk 26 rfl (Ev.pkA (.t rfl) rfl) ?_
  refine tk 27 rfl (Ev.assign (.t rfl)) ?_
  refine ovr (pN (ret (done rfl (.tmp rfl .nil) (retE ?_))))
  unfold hasP; simp [tupV, Bool.and_assoc, eqd]
theorem en172 : Gx.Enters Tryz.prog 172 := Gx.Enters.mk' zk
theorem coversP_ok (p q : SPrefix) (w : World) : Calls Tryz.prog 192 #[ePrefix.val p, ePrefix.val q] w (RetV w (.bool (coversP p q))) := by
  refine en0 21 Tryz.func192 ?_
  refine sg (cons (box (E := ePrefix) (.t rfl) (fun b1 => ?_)))
  refine cons (box (E := ePrefix) (.t rfl) (fun b2 => ?_))
  refine co (Ev.assign (.c (v := .bool false) rfl)) ?_
  refine nP (sg (co (Ev.ldx q ty50 (.t rfl) (Lens.id _)) ?_))
  refine cons (callv en114 (.cons (.t rfl) .nil) (fun w I => checkP_ok _ w) ?_)
  refine co (Ev.eql_i (.t rfl) (.c (v := I 0) rfl)) ?_
  refine mv rfl (cg rfl rfl (fA 17 (.t rfl)) ?_)
  refine cg rfl rfl (Ev.ldx p.bits ty3 (.g rfl id) SPrefix.l_bits) ?_
  refine cg rfl rfl (fA 17 (.t rfl)) ?_
  refine cg rfl rfl (Ev.ldx q.bits ty3 (.g rfl id) SPrefix.l_bits) ?_
  refine cg rfl rfl (Ev.leq_i (.g rfl id) (.g rfl id)) ?_
  refine co (Ev.pkA (.t rfl) rfl) ?_
  refine mv rfl (cg rfl rfl (Ev.ldx p ty50 (.t rfl) (Lens.id _)) ?_)
  refine cg rfl rfl (fA 0 (.t rfl)) ?_
  refine cg rfl rfl (Ev.ldx q.addr ty48 (.g rfl id) SPrefix.l_addr) ?_
  refine cons (callg rfl rfl en172 (.cons (.g rfl id) (.cons (.g rfl id) .nil)) (fun hg w I => hasP_ok _ _ w) ?_)
  refine co (Ev.pkA (.t rfl) rfl) ?_
  refine asn rfl (nP (ret (done rfl (.tmp rfl .nil) (retE ?_))))
  unfold coversP; simp [tupV, Bool.and_assoc]; done
def ckB (b : SBucket) : Int := if b.num < 1 ∨ 65536 < b.num ∨ b.den < 1 ∨ 65536 < b.den ∨ b.burst < 1 ∨ 1048576 < b.burst then 2 else 0
theorem bucket_ok (b : SBucket) (w : World) : Calls Tryz.prog 118 #[eBucket.val b] w (RetV w (I (ckB b))) := by
  refine en0 31 Tryz.func118 ?_
  refine sg (cons (box (E := eBucket) (.t rfl) (fun b1 => ?_)))
  refine co (Ev.assign (.c (v := I 0) rfl)) ?_
  refine nP (seq (sg (co (fA 0 (.t rfl)) ?_)))
  refine co (Ev.ldx b.num ty53 (.t rfl) SBucket.l_num) ?_
  refine co (Ev.lss_u64 (.t rfl) (.c (v := U64 1) rfl)) ?_
  refine mv rfl (cg rfl rfl (fA 0 (.t rfl)) ?_)
  refine cg rfl rfl (Ev.ldx b.num ty53 (.g rfl id) SBucket.l_num) ?_
  refine cg rfl rfl (Ev.gtr_u64 (.g rfl id) (.c (v := U64 65536) rfl)) ?_
  refine co (Ev.pkO (.t rfl) rfl) ?_
  refine mv rfl (cg rfl rfl (fA 1 (.t rfl)) ?_)
  refine cg rfl rfl (Ev.ldx b.den ty53 (.g rfl id) SBucket.l_den) ?_
  refine cg rfl rfl (Ev.lss_u64 (.g rfl id) (.c (v := U64 1) rfl)) ?_
  refine co (Ev.pkO (.t rfl) rfl) ?_
  refine mv rfl (cg rfl rfl (fA 1 (.t rfl)) ?_)
  refine cg rfl rfl (Ev.ldx b.den ty53 (.g rfl id) SBucket.l_den) ?_
  refine cg rfl rfl (Ev.gtr_u64 (.g rfl id) (.c (v := U64 65536) rfl)) ?_
  refine co (Ev.pkO (.t rfl) rfl) ?_
  refine mv rfl (cg rfl rfl (fA 2 (.t rfl)) ?_)
  refine cg rfl rfl (Ev.ldx b.burst ty53 (.g rfl id) SBucket.l_burst) ?_
  refine cg rfl rfl (Ev.lss_u64 (.g rfl id) (.c (v := U64 1) rfl)) ?_
  refine co (Ev.pkO (.t rfl) rfl) ?_
  refine mv rfl (cg rfl rfl (fA 2 (.t rfl)) ?_)
  refine cg rfl rfl (Ev.ldx b.burst ty53 (.g rfl id) SBucket.l_burst) ?_
  refine cg rfl rfl (Ev.gtr_u64 (.g rfl id) (.c (v := U64 1048576) rfl)) ?_
  refine co (Ev.pkO (.t rfl) rfl) ?_
  refine nP ?_
  first | refine condD rfl (fun h0 => ?_) (fun h0 => ?_) | refine cond rfl (fun h0 => ?_) (fun h0 => ?_)
  · try simp only [nb] at h0
    refine sg (co (Ev.assign (.c (v := I 2) rfl)) ?_)
    refine nP (ret (pR (done rfl (.tmp rfl .nil) (retE ?_))))
    have e : ckB b = 2 := by unfold ckB; rw [if_pos (by simpa [or_assoc] using h0)]
    rw [e]; rfl
  · try simp only [nb] at h0
    refine skip (pN (sg (co (Ev.assign (.c (v := I 0) rfl)) ?_)))
    refine nP (ret (done rfl (.tmp rfl .nil) (retE ?_)))
    have e : ckB b = 0 := by unfold ckB; rw [if_neg (by simpa [or_assoc, and_assoc] using h0)]
    rw [e]; rfl
theorem rbucket_ok (b : SBucket) (w : World) : Calls Tryz.prog 158 #[eBucket.val b] w (RetV w (I (ckB b))) := by
  refine en0 31 Tryz.func158 ?_
  refine sg (cons (box (E := eBucket) (.t rfl) (fun b1 => ?_)))
  refine co (Ev.assign (.c (v := I 0) rfl)) ?_
  refine nP (seq (sg (co (fA 0 (.t rfl)) ?_)))
  refine co (Ev.ldx b.num ty53 (.t rfl) SBucket.l_num) ?_
  refine co (Ev.lss_u64 (.t rfl) (.c (v := U64 1) rfl)) ?_
  refine mv rfl (cg rfl rfl (fA 0 (.t rfl)) ?_)
  refine cg rfl rfl (Ev.ldx b.num ty53 (.g rfl id) SBucket.l_num) ?_
  refine cg rfl rfl (Ev.gtr_u64 (.g rfl id) (.c (v := U64 65536) rfl)) ?_
  refine co (Ev.pkO (.t rfl) rfl) ?_
  refine mv rfl (cg rfl rfl (fA 1 (.t rfl)) ?_)
  refine cg rfl rfl (Ev.ldx b.den ty53 (.g rfl id) SBucket.l_den) ?_
  refine cg rfl rfl (Ev.lss_u64 (.g rfl id) (.c (v := U64 1) rfl)) ?_
  refine co (Ev.pkO (.t rfl) rfl) ?_
  refine mv rfl (cg rfl rfl (fA 1 (.t rfl)) ?_)
  refine cg rfl rfl (Ev.ldx b.den ty53 (.g rfl id) SBucket.l_den) ?_
  refine cg rfl rfl (Ev.gtr_u64 (.g rfl id) (.c (v := U64 65536) rfl)) ?_
  refine co (Ev.pkO (.t rfl) rfl) ?_
  refine mv rfl (cg rfl rfl (fA 2 (.t rfl)) ?_)
  refine cg rfl rfl (Ev.ldx b.burst ty53 (.g rfl id) SBucket.l_burst) ?_
  refine cg rfl rfl (Ev.lss_u64 (.g rfl id) (.c (v := U64 1) rfl)) ?_
  refine co (Ev.pkO (.t rfl) rfl) ?_
  refine mv rfl (cg rfl rfl (fA 2 (.t rfl)) ?_)
  refine cg rfl rfl (Ev.ldx b.burst ty53 (.g rfl id) SBucket.l_burst) ?_
  refine cg rfl rfl (Ev.gtr_u64 (.g rfl id) (.c (v := U64 1048576) rfl)) ?_
  refine co (Ev.pkO (.t rfl) rfl) ?_
  refine nP ?_
  first | refine condD rfl (fun h0 => ?_) (fun h0 => ?_) | refine cond rfl (fun h0 => ?_) (fun h0 => ?_)
  · try simp only [nb] at h0
    refine sg (co (Ev.assign (.c (v := I 2) rfl)) ?_)
    refine nP (ret (pR (done rfl (.tmp rfl .nil) (retE ?_))))
    have e : ckB b = 2 := by unfold ckB; rw [if_pos (by simpa [or_assoc] using h0)]
    rw [e]; rfl
  · try simp only [nb] at h0
    refine skip (pN (sg (co (Ev.assign (.c (v := I 0) rfl)) ?_)))
    refine nP (ret (done rfl (.tmp rfl .nil) (retE ?_)))
    have e : ckB b = 0 := by unfold ckB; rw [if_neg (by simpa [or_assoc, and_assoc] using h0)]
    rw [e]; rfl
structure KnownAt (w : World) (x : KB) (l : CL) : Prop where
  ps : MapAt w x.b1 iE iE (portsM l)
  rs : MapAt w x.b2 ePrefix iE (routesM l)
  us : MapAt w x.b3 sE iE (rulesM l)
  ms : MapAt w x.b4 sE iE (metersM l)
  xs : MapAt w x.b5 sE iE (mirrorsM l)
theorem KnownAt.keep0 {w w' : World} {x : KB} {l : CL} (h : KnownAt w x l) (k : Keeps Nope w w') : KnownAt w' x l := ⟨h.ps.keep0 k, h.rs.keep0 k, h.us.keep0 k, h.ms.keep0 k, h.xs.keep0 k⟩
theorem knownAt_own {K : Ctx} {L : List Res} {x : KB} {l : CL} (hs : ∀ r ∈ x.R l, r ∈ L) (w : World) (I : WInv K L w) : KnownAt w x l :=
  ⟨mapAt_own (hs _ (by simp [KB.R])) w I, mapAt_own (hs _ (by simp [KB.R])) w I, mapAt_own (hs _ (by simp [KB.R])) w I, mapAt_own (hs _ (by simp [KB.R])) w I, mapAt_own (hs _ (by simp [KB.R])) w I⟩
def portB (l : CL) (p : Int) : Bool := (findV eqd p (portsM l)).isSome
def routeE (l : CL) (r : SRoute) (i : Int) : Int := if checkP r.to_ ≠ 0 then 151 else if portB l r.out = false then 5 else if (findV SPrefix.eqb r.to_ (routesM l)).getD 0 < i then 2 else 0
theorem ty80 : TyOK Tryz.prog 80 (ovE nilMap) := TyOK.mk' zk zk
theorem port_ok (k : KB) (l : CL) (p : Int) (w : World) (hk : KnownAt w k l) : Calls Tryz.prog 115 #[eConfKnown.val k.k, I p] w (RetV w (.bool (portB l p))) := by
  refine en0 15 Tryz.func115 ?_
  refine sg (cons (box (E := eConfKnown) (.t rfl) (fun b1 => ?_)))
  refine co (Ev.assign (.c (v := .bool false) rfl)) ?_
  refine nP (sg (co (fA 0 (.t rfl)) ?_))
  refine co (Ev.ldv ty80 (.t rfl) SConfKnown.l_ports) ?_
  refine mv rfl (co (Ev.lookupT Tryz.underlying80 Tryz.underlying3 key3 z3 (.t rfl) (.t rfl) (fun _ => (fun w I => hk.ps.keep0 I.keeps))) ?_)
  refine mv rfl (co (Ev.extract (.t rfl) rfl) (co (Ev.extract (.t rfl) rfl) (asn rfl (asn rfl (nP (sg (mv rfl (asn rfl (nP (ret (done rfl (.tmp rfl .nil) (retE ?_))))))))))))
  rfl
theorem en115 : Gx.Enters Tryz.prog 115 := Gx.Enters.mk' zk
theorem ty81 : TyOK Tryz.prog 81 (ovE nilMap) := TyOK.mk' zk zk
theorem route_ok (k : KB) (l : CL) (r : SRoute) (i : Int) (w : World) (hk : KnownAt w k l) : Calls Tryz.prog 40 #[eConfKnown.val k.k, eRoute.val r, I i] w (RetV w (I (routeE l r i))) := by
  refine en0 26 Tryz.func40 ?_
  refine sg (cons (box (E := eConfKnown) (.t rfl) (fun b1 => ?_)))
  refine cons (box (E := eRoute) (.t rfl) (fun b2 => ?_))
  refine co (Ev.assign (.c (v := I 0) rfl)) ?_
  refine nP (seq (block (sg (co (fA 0 (.t rfl)) ?_))))
  refine co (Ev.ldx r.to_ ty50 (.t rfl) SRoute.l_to_) ?_
  refine cons (callv en114 (.cons (.t rfl) .nil) (fun w I => checkP_ok _ w) ?_)
  refine co (Ev.neq_i (.t rfl) (.c (v := I 0) rfl)) ?_
  refine asn rfl (nP ?_)
  first | refine condD rfl (fun h0 => ?_) (fun h0 => ?_) | refine cond rfl (fun h0 => ?_) (fun h0 => ?_)
  · try simp only [nb] at h0
    refine sg (co (Ev.assign (.c (v := I 151) rfl)) ?_)
    refine nP (ret (bR (pR (done rfl (.tmp rfl .nil) (retE ?_)))))
    unfold routeE; rw [if_pos (by simpa using h0)]; rfl
  · try simp only [nb] at h0
    refine sg (co (Ev.ldv ty84 (.t rfl) (Lens.id _)) ?_)
    refine co (fA 18 (.t rfl)) ?_
    refine co (Ev.ldx r.out ty3 (.t rfl) SRoute.l_out) ?_
    refine cons (callv en115 (.cons (.t rfl) (.cons (.t rfl) .nil)) (fun w I => port_ok _ l _ w (hk.keep0 I.keeps)) ?_)
    refine co (Ev.not (.t rfl)) ?_
    refine asn rfl (nP ?_)
    first | refine condD rfl (fun h1 => ?_) (fun h1 => ?_) | refine cond rfl (fun h1 => ?_) (fun h1 => ?_)
    · try simp only [nb] at h1
      refine sg (co (Ev.assign (.c (v := I 5) rfl)) ?_)
      refine nP (ret (bR (pR (done rfl (.tmp rfl .nil) (retE ?_)))))
      unfold routeE; rw [if_neg (by simpa using h0), if_pos (by simpa using h1)]; rfl
    · try simp only [nb] at h1
      refine sg (co (fA 1 (.t rfl)) ?_)
      refine co (Ev.ldv ty81 (.t rfl) SConfKnown.l_routes) ?_
      refine co (fA 0 (.t rfl)) ?_
      refine co (Ev.ldx r.to_ ty50 (.t rfl) SRoute.l_to_) ?_
      refine co (Ev.lookupF Tryz.underlying81 Tryz.underlying50 key50 z3 (.t rfl) (.t rfl) (fun _ => (fun w I => hk.rs.keep0 I.keeps))) ?_
      refine mv rfl (co (Ev.lss_i (.t rfl) (.t rfl)) ?_)
      refine asn rfl (nP ?_)
      first | refine condD rfl (fun h2 => ?_) (fun h2 => ?_) | refine cond rfl (fun h2 => ?_) (fun h2 => ?_)
      · try simp only [nb] at h2
        refine sg (co (Ev.assign (.c (v := I 2) rfl)) ?_)
        refine nP (ret (bR (pR (done rfl (.tmp rfl .nil) (retE ?_)))))
        unfold routeE; rw [if_neg (by simpa using h0), if_neg (by simpa using h1), if_pos (by simpa using h2)]; rfl
      · try simp only [nb] at h2
        refine skip (bN (pN (sg (co (Ev.assign (.c (v := I 0) rfl)) ?_))))
        refine nP (ret (done rfl (.tmp rfl .nil) (retE ?_)))
        unfold routeE; rw [if_neg (by simpa using h0), if_neg (by simpa using h1), if_neg (by simpa using h2)]; rfl
def nameC (c i : Int) : Bool := (decide (97 ≤ c) && decide (c ≤ 122)) || (decide (0 < i) && ((decide (48 ≤ c) && decide (c ≤ 57)) || decide (c = 45) || decide (c = 95)))
def nameB (s : ByteArray) : Bool := !(decide (s.size = 0) || decide (16 < s.size)) && (List.range s.size).all (fun k => nameC (s.get! k).toNat k)
theorem nameC_high {c i : Int} (h : 128 ≤ c) : nameC c i = false := by
  unfold nameC
  have h1 : decide (c ≤ 122) = false := by simp; omega
  have h2 : decide (c ≤ 57) = false := by simp; omega
  have h3 : decide (c = 45) = false := by simp; omega
  have h4 : decide (c = 95) = false := by simp; omega
  rw [h1, h2, h3, h4]
  simp
theorem name_step {s : ByteArray} {i : Nat} (hc : nameC (Utf8.decode s i).1 i = true) : (Utf8.decode s i).2 = 1 ∧ nameC (s.get! i).toNat i = true := by
  have hlt : (s.get! i).toNat < 128 := Nat.lt_of_not_le fun h => by
    have := Gx.decode_high s i h
    rw [nameC_high (by omega)] at hc
    cases hc
  have e : Utf8.decode s i = ((s.get! i).toNat, 1) := by
    unfold Utf8.decode
    simp only [Nat.add_zero]
    rw [if_pos hlt]
  rw [e] at hc ⊢
  exact ⟨rfl, hc⟩
theorem name_bad {s : ByteArray} {i : Nat} (hc : nameC (Utf8.decode s i).1 i = false) : nameC (s.get! i).toNat i = false := by
  by_cases hlt : (s.get! i).toNat < 128
  · have e : Utf8.decode s i = ((s.get! i).toNat, 1) := by
      unfold Utf8.decode
      simp only [Nat.add_zero]
      rw [if_pos hlt]
    rw [e] at hc
    exact hc
  · exact nameC_high (by omega)
theorem name_ok (s : ByteArray) (w : World) (hs : s.size ≤ 9223372036854775807) : Calls Tryz.prog 116 #[.string s] w (RetV w (.bool (nameB s))) := by
  refine en0 45 Tryz.func116 ?_
  refine sg (co (Ev.assign (.c (v := .bool false) rfl)) ?_)
  refine nP (seq (sg (mv rfl (co (Ev.lenS Tryz.underlying9 (.t rfl)) ?_))))
  refine co (Ev.eql_i (.t rfl) (.c (v := I 0) rfl)) ?_
  refine mv rfl (cg rfl rfl (Ev.move (.t rfl)) ?_)
  refine cg rfl rfl (Ev.lenS Tryz.underlying9 (.g rfl id)) ?_
  refine cg rfl rfl (Ev.gtr_i (.g rfl id) (.c (v := I 16) rfl)) ?_
  refine co (Ev.pkO (.t rfl) rfl) ?_
  refine nP ?_
  first | refine condD rfl (fun h0 => ?_) (fun h0 => ?_) | refine cond rfl (fun h0 => ?_) (fun h0 => ?_)
  · try simp only [nb] at h0
    refine sg (co (Ev.assign (.c (v := .bool false) rfl)) ?_)
    refine nP (ret (pR (done rfl (.tmp rfl .nil) (retE ?_))))
    have e : nameB s = false := by
      have h : (decide (s.size = 0) || decide (16 < s.size)) = true := by rw [Bool.or_eq_true, decide_eq_true_eq, decide_eq_true_eq]; omega
      unfold nameB
      rw [h]
      rfl
    rw [e]; rfl
  · try simp only [nb] at h0
    refine skip (pN (seq (sg (mv rfl (cons (startRangeS Tryz.underlying9 (.t rfl) (fun r1 => ?_)))))))
    refine nP (block (lp (X := Nat) (fun x : Nat => (x ≤ s.size) ∧ (∀ k : Nat, k < x → nameC (s.get! k).toNat k = true)) (fun x : Nat => [(14, true, .pointer (some ⟨r1, 0, none⟩))]) (fun x : Nat => [StrIt r1 s x]) (fun x : Nat => s.size - x) (0) ⟨?_, ?_⟩ (fun x hx => ?_)))
    · omega
    · intro k h; omega
    obtain ⟨i, rfl⟩ : ∃ y, y = x := ⟨x, rfl⟩
    obtain ⟨hi, hq⟩ : (i ≤ s.size) ∧ (∀ k : Nat, k < i → nameC (s.get! k).toNat k = true) := hx
    show Sat _ _ [(14, true, .pointer (some ⟨r1, 0, none⟩))] [StrIt r1 s i]
    refine sg (cons (nextStr (.t rfl) (fun _ => zu) (fun hs5 => ?_) (fun hs5 => ?_)))
    · refine co (Ev.extract (.t rfl) rfl) (nP (seq (condF rfl (rfl) ?_)))
      refine exit (pX (pX (bX (pN (sg (co (Ev.assign (.c (v := .bool true) rfl)) ?_))))))
      refine nP (ret (done rfl (.tmp rfl .nil) (retE ?_)))
      have e : nameB s = true := by
        have h : (decide (s.size = 0) || decide (16 < s.size)) = false := by rw [Bool.or_eq_false_iff, decide_eq_false_iff_not, decide_eq_false_iff_not]; omega
        unfold nameB
        rw [h]
        exact List.all_eq_true.2 fun k hk => hq k (by have := List.mem_range.1 hk; omega)
      rw [e]; rfl
    · refine co (Ev.extract (.t rfl) rfl) (nP (seq (condT rfl (rfl) ?_)))
      refine skip (pN (block (sg (co (Ev.extract (.t rfl) rfl) (co (Ev.extract (.t rfl) rfl) (asn rfl (asn rfl (nP (block (sg (mv rfl (co (Ev.geq_i32 (.t rfl) (.c (v := Value.int .i32 97) rfl)) ?_))))))))))))
      refine mv rfl (cg rfl rfl (Ev.move (.t rfl)) ?_)
      refine cg rfl rfl (Ev.leq_i32 (.g rfl id) (.c (v := Value.int .i32 122) rfl)) ?_
      refine co (Ev.pkA (.t rfl) rfl) ?_
      refine asn rfl (nP ?_)
      first | refine condD rfl (fun h2 => ?_) (fun h2 => ?_) | refine cond rfl (fun h2 => ?_) (fun h2 => ?_)
      · refine skip (bN (bN (pN (nx (X := Nat) (_) ⟨?_, ?_⟩ ?_))))
        · try dsimp only
          have hc : nameC (Utf8.decode s i).1 i = true := by
            unfold nameC
            first
              | (rw [h2]; rfl)
              | (rw [h3]; simp)
          have hst := name_step hc
          have hst1 := hst.1
          omega
        · try dsimp only
          have hc : nameC (Utf8.decode s i).1 i = true := by
            unfold nameC
            first
              | (rw [h2]; rfl)
              | (rw [h3]; simp)
          have hst := name_step hc
          have hst1 := hst.1
          intro k hk
          by_cases e : k < i
          · exact hq k e
          · obtain rfl : k = i := by omega
            exact hst.2
        · try dsimp only
          have hc : nameC (Utf8.decode s i).1 i = true := by
            unfold nameC
            first
              | (rw [h2]; rfl)
              | (rw [h3]; simp)
          have hst := name_step hc
          have hst1 := hst.1
          omega
      · refine sg (mv rfl (co (Ev.gtr_i (.t rfl) (.c (v := I 0) rfl)) ?_))
        refine mv rfl (cg rfl rfl (Ev.move (.t rfl)) ?_)
        refine cg rfl rfl (Ev.geq_i32 (.g rfl id) (.c (v := Value.int .i32 48) rfl)) ?_
        refine cg rfl rfl (Ev.move (.g rfl id)) ?_
        refine cg rfl rfl (Ev.move (.t rfl)) ?_
        refine cg rfl rfl (Ev.leq_i32 (.g rfl id) (.c (v := Value.int .i32 57) rfl)) ?_
        refine cg rfl rfl (Ev.pkA (.g rfl id) rfl) ?_
        refine cg rfl rfl (Ev.move (.g rfl id)) ?_
        refine cg rfl rfl (Ev.move (.t rfl)) ?_
        refine cg rfl rfl (Ev.eql_i32 (.g rfl id) (.c (v := Value.int .i32 45) rfl)) ?_
        refine cg rfl rfl (Ev.pkO (.g rfl id) rfl) ?_
        refine cg rfl rfl (Ev.move (.g rfl id)) ?_
        refine cg rfl rfl (Ev.move (.t rfl)) ?_
        refine cg rfl rfl (Ev.eql_i32 (.g rfl id) (.c (v := Value.int .i32 95) rfl)) ?_
        refine cg rfl rfl (Ev.pkO (.g rfl id) rfl) ?_
        refine co (Ev.pkA (.t rfl) rfl) ?_
        refine asn rfl (nP ?_)
        first | refine condD rfl (fun h3 => ?_) (fun h3 => ?_) | refine cond rfl (fun h3 => ?_) (fun h3 => ?_)
        · refine skip (bN (bN (pN (nx (X := Nat) (_) ⟨?_, ?_⟩ ?_))))
          · try dsimp only
            have hc : nameC (Utf8.decode s i).1 i = true := by
              unfold nameC
              first
                | (rw [h2]; rfl)
                | (rw [h3]; simp)
            have hst := name_step hc
            have hst1 := hst.1
            omega
          · try dsimp only
            have hc : nameC (Utf8.decode s i).1 i = true := by
              unfold nameC
              first
                | (rw [h2]; rfl)
                | (rw [h3]; simp)
            have hst := name_step hc
            have hst1 := hst.1
            intro k hk
            by_cases e : k < i
            · exact hq k e
            · obtain rfl : k = i := by omega
              exact hst.2
          · try dsimp only
            have hc : nameC (Utf8.decode s i).1 i = true := by
              unfold nameC
              first
                | (rw [h2]; rfl)
                | (rw [h3]; simp)
            have hst := name_step hc
            have hst1 := hst.1
            omega
        · refine sg (co (Ev.assign (.c (v := .bool false) rfl)) ?_)
          refine nP (ret (bR (bR (pR (bR (pR (done rfl (.tmp rfl .nil) (retE ?_))))))))
          have hb : nameC (s.get! i).toNat i = false := name_bad (by unfold nameC; rw [h2, h3]; rfl)
          have e : nameB s = false := by
            unfold nameB
            have : (List.range s.size).all (fun k => nameC (s.get! k).toNat k) = false := List.all_eq_false.2 ⟨i, List.mem_range.2 (by assumption), by simp [hb]⟩
            rw [this, Bool.and_false]
          rw [e]; rfl
def meterE (l : CL) (m : SMeterConf) (i : Int) : Int := if nameB m.name = false then 201 else if (findV eqs m.name (metersM l)).getD 0 < i ∨ ckB m.bucket ≠ 0 then 2 else 0
theorem en116 : Gx.Enters Tryz.prog 116 := Gx.Enters.mk' zk
theorem ty82 : TyOK Tryz.prog 82 (ovE nilMap) := TyOK.mk' zk zk
theorem en118 : Gx.Enters Tryz.prog 118 := Gx.Enters.mk' zk
theorem meter_ok (k : KB) (l : CL) (m : SMeterConf) (i : Int) (w : World) (hk : KnownAt w k l) (hs : m.name.size ≤ 9223372036854775807) : Calls Tryz.prog 44 #[eConfKnown.val k.k, eMeterConf.val m, I i] w (RetV w (I (meterE l m i))) := by
  refine en0 24 Tryz.func44 ?_
  refine sg (cons (box (E := eConfKnown) (.t rfl) (fun b1 => ?_)))
  refine cons (box (E := eMeterConf) (.t rfl) (fun b2 => ?_))
  refine co (Ev.assign (.c (v := I 0) rfl)) ?_
  refine nP (seq (block (sg (co (fA 0 (.t rfl)) ?_))))
  refine co (Ev.ldx m.name ty9 (.t rfl) SMeterConf.l_name) ?_
  refine cons (callv en116 (.cons (.t rfl) .nil) (fun w I => name_ok _ w hs) ?_)
  refine co (Ev.not (.t rfl)) ?_
  refine asn rfl (nP ?_)
  first | refine condD rfl (fun h0 => ?_) (fun h0 => ?_) | refine cond rfl (fun h0 => ?_) (fun h0 => ?_)
  · try simp only [nb] at h0
    refine sg (co (Ev.assign (.c (v := I 201) rfl)) ?_)
    refine nP (ret (bR (pR (done rfl (.tmp rfl .nil) (retE ?_)))))
    unfold meterE; first | (rw [if_pos (by simpa using h0)]; rfl) | (rw [if_neg (by simpa using h0), if_pos (by first | exact .inl (by simpa using h1) | exact .inr (by simpa using h2))]; rfl) | (rw [if_neg (by simpa using h0), if_neg (by simp_all; done)]; rfl)
  · try simp only [nb] at h0
    refine seq (sg (co (fA 3 (.t rfl)) ?_))
    refine co (Ev.ldv ty82 (.t rfl) SConfKnown.l_meters) ?_
    refine co (fA 0 (.t rfl)) ?_
    refine co (Ev.ldx m.name ty9 (.t rfl) SMeterConf.l_name) ?_
    refine co (Ev.lookupF Tryz.underlying82 Tryz.underlying9 key9 z3 (.t rfl) (.t rfl) (fun _ => (fun w I => hk.ms.keep0 I.keeps))) ?_
    refine mv rfl (co (Ev.lss_i (.t rfl) (.t rfl)) ?_)
    refine asn rfl (nP ?_)
    first | refine condD rfl (fun h1 => ?_) (fun h1 => ?_) | refine cond rfl (fun h1 => ?_) (fun h1 => ?_)
    · try simp only [nb] at h1
      refine skip (pN ?_)
      first | refine condD rfl (fun h2 => ?_) (fun h2 => ?_) | refine cond rfl (fun h2 => ?_) (fun h2 => ?_)
      · try simp only [nb] at h2
        refine sg (co (Ev.assign (.c (v := I 2) rfl)) ?_)
        refine nP (ret (bR (pR (done rfl (.tmp rfl .nil) (retE ?_)))))
        unfold meterE; first | (rw [if_pos (by simpa using h0)]; rfl) | (rw [if_neg (by simpa using h0), if_pos (by first | exact .inl (by simpa using h1) | exact .inr (by simpa using h2))]; rfl) | (rw [if_neg (by simpa using h0), if_neg (by simp_all; done)]; rfl)
      · try simp only [nb] at h2
        refine skip (bN (pN (sg (co (Ev.assign (.c (v := I 0) rfl)) ?_))))
        refine nP (ret (done rfl (.tmp rfl .nil) (retE ?_)))
        unfold meterE; first | (rw [if_pos (by simpa using h0)]; rfl) | (rw [if_neg (by simpa using h0), if_pos (by first | exact .inl (by simpa using h1) | exact .inr (by simpa using h2))]; rfl) | (rw [if_neg (by simpa using h0), if_neg (by simp_all; done)]; rfl)
    · try simp only [nb] at h1
      refine region (co (fA 1 (.t rfl)) ?_)
      refine co (Ev.ldx m.bucket ty55 (.t rfl) SMeterConf.l_bucket) ?_
      refine cons (callv en118 (.cons (.t rfl) .nil) (fun w I => bucket_ok _ w) ?_)
      refine co (Ev.neq_i (.t rfl) (.c (v := I 0) rfl)) ?_
      refine asn rfl (nP ?_)
      first | refine condD rfl (fun h2 => ?_) (fun h2 => ?_) | refine cond rfl (fun h2 => ?_) (fun h2 => ?_)
      · try simp only [nb] at h2
        refine sg (co (Ev.assign (.c (v := I 2) rfl)) ?_)
        refine nP (ret (bR (pR (done rfl (.tmp rfl .nil) (retE ?_)))))
        unfold meterE; first | (rw [if_pos (by simpa using h0)]; rfl) | (rw [if_neg (by simpa using h0), if_pos (by first | exact .inl (by simpa using h1) | exact .inr (by simpa using h2))]; rfl) | (rw [if_neg (by simpa using h0), if_neg (by simp_all; done)]; rfl)
      · try simp only [nb] at h2
        refine skip (bN (pN (sg (co (Ev.assign (.c (v := I 0) rfl)) ?_))))
        refine nP (ret (done rfl (.tmp rfl .nil) (retE ?_)))
        unfold meterE; first | (rw [if_pos (by simpa using h0)]; rfl) | (rw [if_neg (by simpa using h0), if_pos (by first | exact .inl (by simpa using h1) | exact .inr (by simpa using h2))]; rfl) | (rw [if_neg (by simpa using h0), if_neg (by simp_all; done)]; rfl)
structure CB where
  o1 : OV
  o2 : OV
  o3 : OV
  o4 : OV
  o5 : OV
def CB.c (x : CB) (d : Int) : SConf := ⟨x.o1, x.o2, x.o3, x.o4, x.o5, d⟩
def CB.R (x : CB) (l : CL) : List Res := [OwnS x.o5.v eMirrorConf l.xs 59, OwnS x.o4.v eMeterConf l.ms 57, OwnS x.o3.v eRule l.us 76, OwnS x.o2.v eRoute l.rs 52, OwnS x.o1.v iE l.ps 3]
structure CL.Small (l : CL) : Prop where
  ps : l.ps.length ≤ 1048576
  rs : l.rs.length ≤ 1048576
  us : l.us.length ≤ 1048576
  ms : l.ms.length ≤ 1048576
  xs : l.xs.length ≤ 1048576
theorem z28 : (Tryz.prog.info? 28).bind (·.zero) = some (eConf.val eConf.zero) := by kernel_rfl
theorem en48 : Gx.Enters Tryz.prog 48 := Gx.Enters.mk' zk
theorem en49 : Gx.Enters Tryz.prog 49 := Gx.Enters.mk' zk
theorem en50 : Gx.Enters Tryz.prog 50 := Gx.Enters.mk' zk
theorem en51 : Gx.Enters Tryz.prog 51 := Gx.Enters.mk' zk
theorem en52 : Gx.Enters Tryz.prog 52 := Gx.Enters.mk' zk
theorem ty28 : TyOK Tryz.prog 28 eConf := TyOK.mk' zk zk
theorem copy_ok (c : SConf) (l : CL) (w : World) (hc : ConfAt w c l) (hs : l.Small) : Calls Tryz.prog 16 #[eConf.val c] w (RetN w (fun _ : CB => True) (fun x => eConf.val (x.c c.default)) (fun x => x.R l)) := by
  refine en0 21 Tryz.func16 ?_
  refine sg (cons (box (E := eConf) (.t rfl) (fun b1 => ?_)))
  refine cons (alloc z28 (fun b2 => ?_))
  refine nP (seq (drawS 2 rfl zr zk ?_))
  refine tk 0 rfl (fA 0 (.t rfl)) ?_
  refine tk 1 rfl (Ev.ldx c.ports ty22 (.t rfl) SConf.l_ports) ?_
  refine tk 3 rfl (fA 1 (.t rfl)) ?_
  refine tk 4 rfl (Ev.ldx c.routes ty23 (.t rfl) SConf.l_routes) ?_
  refine tk 6 rfl (fA 2 (.t rfl)) ?_
  refine tk 7 rfl (Ev.ldx c.rules ty24 (.t rfl) SConf.l_rules) ?_
  refine tk 9 rfl (fA 3 (.t rfl)) ?_
  refine tk 10 rfl (Ev.ldx c.meters ty25 (.t rfl) SConf.l_meters) ?_
  refine tk 12 rfl (fA 4 (.t rfl)) ?_
  refine tk 13 rfl (Ev.ldx c.mirrors ty26 (.t rfl) SConf.l_mirrors) ?_
  refine tk 15 rfl (fA 5 (.t rfl)) ?_
  refine tk 16 rfl (Ev.ldx c.default ty3 (.t rfl) SConf.l_default) ?_
  refine al1 2 rfl ((callo en48 (.cons (.t rfl) .nil) (fun w I => clone_3 _ _ w (hc.keep0 I.keeps).ps (by have := hs.ps; omega)) (fun v3 => ?_)))
  refine hdn (al1 5 rfl ((callo en49 (.cons (.t rfl) .nil) (fun w I => clone_52 _ _ w (hc.keep0 I.keeps).rs (by have := hs.rs; omega)) (fun v4 => ?_))))
  refine hdn (al1 8 rfl ((callo en50 (.cons (.t rfl) .nil) (fun w I => clone_76 _ _ w (hc.keep0 I.keeps).us (by have := hs.us; omega)) (fun v5 => ?_))))
  refine hdn (al1 11 rfl ((callo en51 (.cons (.t rfl) .nil) (fun w I => clone_57 _ _ w (hc.keep0 I.keeps).ms (by have := hs.ms; omega)) (fun v6 => ?_))))
  refine hdn (al1 14 rfl ((callo en52 (.cons (.t rfl) .nil) (fun w I => clone_59 _ _ w (hc.keep0 I.keeps).xs (by have := hs.xs; omega)) (fun v7 => ?_))))
  refine hdn (tk 17 rfl (Ev.buildS (fs := _) (places := [(0, 1), (1, 1), (2, 1), (3, 1), (4, 1), (5, 1)]) z28 rfl Tryz.underlying28 zk (.cons (.t rfl) (.cons (.t rfl) (.cons (.t rfl) (.cons (.t rfl) (.cons (.t rfl) (.cons (.t rfl) .nil)))))) (Fills.cons SConf.l_ports rfl (Fills.cons SConf.l_routes rfl (Fills.cons SConf.l_rules rfl (Fills.cons SConf.l_meters rfl (Fills.cons SConf.l_mirrors rfl (Fills.cons SConf.l_default rfl Fills.nil))))))) ?_)
  refine al1 18 rfl ((stv ty28 (Lens.id _) (.t rfl) (.t rfl) ?_))
  refine hdn (ovr (pN (ret (done rfl (.cell rfl (fun w I => run_loadVar_pts ty28 (ptsVar zm (Lens.id _) w I)) .nil) (fun w I => ?_)))))
  exact retN (⟨v3, v4, v5, v6, v7⟩ : CB) trivial rfl (by exact zs) w I
def sameB (a b : CL) (d e : Int) : Bool := decide (d = e) && (decide (a.ps = b.ps) && (decide (a.us = b.us) && (alikeB SRoute.eqb a.rs b.rs && (alikeB SMeterConf.eqb a.ms b.ms && alikeB SMirrorConf.eqb a.xs b.xs))))
theorem en53 : Gx.Enters Tryz.prog 53 := Gx.Enters.mk' zk
theorem en54 : Gx.Enters Tryz.prog 54 := Gx.Enters.mk' zk
theorem en55 : Gx.Enters Tryz.prog 55 := Gx.Enters.mk' zk
theorem en56 : Gx.Enters Tryz.prog 56 := Gx.Enters.mk' zk
theorem en57 : Gx.Enters Tryz.prog 57 := Gx.Enters.mk' zk
theorem same_ok (a b : SConf) (l k : CL) (w : World) (ha : ConfAt w a l) (hb : ConfAt w b k) (hl : l.Small) (hk : k.Small) : Calls Tryz.prog 21 #[eConf.val a, eConf.val b] w (RetV w (.bool (sameB l k a.default b.default))) := by
  refine en0 45 Tryz.func21 ?_
  refine sg (cons (box (E := eConf) (.t rfl) (fun b1 => ?_)))
  refine cons (box (E := eConf) (.t rfl) (fun b2 => ?_))
  refine co (Ev.assign (.c (v := .bool false) rfl)) ?_
  refine nP (sg (co (fA 5 (.t rfl)) ?_))
  refine co (Ev.ldx a.default ty3 (.t rfl) SConf.l_default) ?_
  refine co (fA 5 (.t rfl)) ?_
  refine co (Ev.ldx b.default ty3 (.t rfl) SConf.l_default) ?_
  refine co (Ev.eql_i (.t rfl) (.t rfl)) ?_
  refine mv rfl (cg rfl rfl (fA 0 (.t rfl)) ?_)
  refine cg rfl rfl (Ev.ldx a.ports ty22 (.g rfl id) SConf.l_ports) ?_
  refine cg rfl rfl (fA 0 (.t rfl)) ?_
  refine cg rfl rfl (Ev.ldx b.ports ty22 (.g rfl id) SConf.l_ports) ?_
  refine cons (callg rfl rfl en53 (.cons (.g rfl id) (.cons (.g rfl id) .nil)) (fun hg w I => equal_3 _ _ _ _ w (ha.keep0 I.keeps).ps (hb.keep0 I.keeps).ps) ?_)
  refine co (Ev.pkA (.t rfl) rfl) ?_
  refine mv rfl (cg rfl rfl (fA 2 (.t rfl)) ?_)
  refine cg rfl rfl (Ev.ldx a.rules ty24 (.g rfl id) SConf.l_rules) ?_
  refine cg rfl rfl (fA 2 (.t rfl)) ?_
  refine cg rfl rfl (Ev.ldx b.rules ty24 (.g rfl id) SConf.l_rules) ?_
  refine cons (callg rfl rfl en54 (.cons (.g rfl id) (.cons (.g rfl id) .nil)) (fun hg w I => equal_76 _ _ _ _ w (ha.keep0 I.keeps).us (hb.keep0 I.keeps).us) ?_)
  refine co (Ev.pkA (.t rfl) rfl) ?_
  refine mv rfl (cg rfl rfl (fA 1 (.t rfl)) ?_)
  refine cg rfl rfl (Ev.ldx a.routes ty23 (.g rfl id) SConf.l_routes) ?_
  refine cg rfl rfl (fA 1 (.t rfl)) ?_
  refine cg rfl rfl (Ev.ldx b.routes ty23 (.g rfl id) SConf.l_routes) ?_
  refine cons (callg rfl rfl en55 (.cons (.g rfl id) (.cons (.g rfl id) .nil)) (fun hg w I => alike_52 _ _ _ _ w (ha.keep0 I.keeps).rs (hb.keep0 I.keeps).rs (by have := hl.rs; omega) (by have := hk.rs; omega)) ?_)
  refine co (Ev.pkA (.t rfl) rfl) ?_
  refine mv rfl (cg rfl rfl (fA 3 (.t rfl)) ?_)
  refine cg rfl rfl (Ev.ldx a.meters ty25 (.g rfl id) SConf.l_meters) ?_
  refine cg rfl rfl (fA 3 (.t rfl)) ?_
  refine cg rfl rfl (Ev.ldx b.meters ty25 (.g rfl id) SConf.l_meters) ?_
  refine cons (callg rfl rfl en56 (.cons (.g rfl id) (.cons (.g rfl id) .nil)) (fun hg w I => alike_57 _ _ _ _ w (ha.keep0 I.keeps).ms (hb.keep0 I.keeps).ms (by have := hl.ms; omega) (by have := hk.ms; omega)) ?_)
  refine co (Ev.pkA (.t rfl) rfl) ?_
  refine mv rfl (cg rfl rfl (fA 4 (.t rfl)) ?_)
  refine cg rfl rfl (Ev.ldx a.mirrors ty26 (.g rfl id) SConf.l_mirrors) ?_
  refine cg rfl rfl (fA 4 (.t rfl)) ?_
  refine cg rfl rfl (Ev.ldx b.mirrors ty26 (.g rfl id) SConf.l_mirrors) ?_
  refine cons (callg rfl rfl en57 (.cons (.g rfl id) (.cons (.g rfl id) .nil)) (fun hg w I => alike_59 _ _ _ _ w (ha.keep0 I.keeps).xs (hb.keep0 I.keeps).xs (by have := hl.xs; omega) (by have := hk.xs; omega)) ?_)
  refine co (Ev.pkA (.t rfl) rfl) ?_
  refine asn rfl (nP (ret (done rfl (.tmp rfl .nil) (retE ?_))))
  unfold sameB; simp [Bool.and_assoc]
def portE (ps : List Int) (p i : Int) : Int := if p < 0 ∨ 255 < p then 5 else if 0 < i ∧ p ≤ ps.getD (i - 1).toNat 0 then 2 else 0
theorem port1_ok (c : SConf) (ps : List Int) (b : Nat) (p i : Int) (w : World) (hc : PtsTo eConf w b 0 c) (hp : IsSl iE w c.ports.v ps) (hi : 0 ≤ i ∧ i < ps.length) : Calls Tryz.prog 38 #[I p, I i, .pointer (some ⟨b, 0, none⟩)] w (RetV w (I (portE ps p i))) := by
  have hle := hp.le
  refine en0 26 Tryz.func38 ?_
  refine sg (co (Ev.assign (.c (v := I 0) rfl)) ?_)
  refine nP (seq (block (sg (mv rfl (co (Ev.lss_i (.t rfl) (.c (v := I 0) rfl)) ?_)))))
  refine mv rfl (cg rfl rfl (Ev.move (.t rfl)) ?_)
  refine cg rfl rfl (Ev.gtr_i (.g rfl id) (.c (v := I 255) rfl)) ?_
  refine co (Ev.pkO (.t rfl) rfl) ?_
  refine asn rfl (nP ?_)
  first | refine condD rfl (fun h0 => ?_) (fun h0 => ?_) | refine cond rfl (fun h0 => ?_) (fun h0 => ?_)
  · try simp only [nb] at h0
    refine sg (co (Ev.assign (.c (v := I 5) rfl)) ?_)
    refine nP (ret (bR (pR (done rfl (.tmp rfl .nil) (retE ?_)))))
    unfold portE; rw [if_pos (by simpa using h0)]; rfl
  · try simp only [nb] at h0
    refine sg (mv rfl (co (Ev.gtr_i (.t rfl) (.c (v := I 0) rfl)) ?_))
    refine mv rfl (cg rfl rfl (Ev.move (.t rfl)) ?_)
    refine cg rfl rfl (fA 0 (.t rfl)) ?_
    refine cg rfl rfl (Ev.load ty22 (.g rfl id) (ptsL (fun w I => hc.keep I.keeps) SConf.l_ports)) ?_
    refine cg rfl rfl (Ev.move (.t rfl)) ?_
    refine cg rfl rfl (Ev.sub_i (.g rfl id) (.c (v := I 1) rfl) (fun _ => by first | omega | (rename_i hg; simp at hg; omega))) ?_
    refine cg rfl rfl (Ev.indexAddr Tryz.underlying22 ty3 (.g rfl id) (.g rfl id) (fun w I => hp.keep0 I.keeps) (fun _ => by first | omega | (rename_i hg; simp at hg; omega))) ?_
    refine cg rfl rfl (Ev.loadS0 ty3 (.g rfl id) (fun w I => hp.keep0 I.keeps) (fun _ => by first | omega | (rename_i hg; simp at hg; omega))) ?_
    refine cg rfl rfl (Ev.leq_i (.g rfl id) (.g rfl id)) ?_
    refine co (Ev.pkA (.t rfl) rfl) ?_
    refine asn rfl (nP ?_)
    first | refine condD rfl (fun h1 => ?_) (fun h1 => ?_) | refine cond rfl (fun h1 => ?_) (fun h1 => ?_)
    · try simp only [nb] at h1
      refine sg (co (Ev.assign (.c (v := I 2) rfl)) ?_)
      refine nP (ret (bR (pR (done rfl (.tmp rfl .nil) (retE ?_)))))
      unfold portE; rw [if_neg (by omega), if_pos ⟨h1.1, h1.2⟩]; rfl
    · try simp only [nb] at h1
      refine skip (bN (pN (sg (co (Ev.assign (.c (v := I 0) rfl)) ?_))))
      refine nP (ret (done rfl (.tmp rfl .nil) (retE ?_)))
      unfold portE; rw [if_neg (by omega), if_neg (fun hh => h1.elim (fun e => e hh.1) (fun e => e hh.2))]; rfl
structure SHeader where
  src : SAddr
  dst : SAddr
  proto : UInt8
  srcPort : UInt16
  dstPort : UInt16
  tTL : UInt8
  class_ : UInt8
  id : UInt32
  flags : UInt8
  seq : UInt32
  data : OV
def SHeader.to : (SAddr × (SAddr × (UInt8 × (UInt16 × (UInt16 × (UInt8 × (UInt8 × (UInt32 × (UInt8 × (UInt32 × OV)))))))))) → SHeader := fun x => ⟨x.1, x.2.1, x.2.2.1, x.2.2.2.1, x.2.2.2.2.1, x.2.2.2.2.2.1, x.2.2.2.2.2.2.1, x.2.2.2.2.2.2.2.1, x.2.2.2.2.2.2.2.2.1, x.2.2.2.2.2.2.2.2.2.1, x.2.2.2.2.2.2.2.2.2.2⟩
def SHeader.of : SHeader → (SAddr × (SAddr × (UInt8 × (UInt16 × (UInt16 × (UInt8 × (UInt8 × (UInt32 × (UInt8 × (UInt32 × OV)))))))))) := fun x => (x.src, x.dst, x.proto, x.srcPort, x.dstPort, x.tTL, x.class_, x.id, x.flags, x.seq, x.data)
def eHeader : Enc SHeader := isoE (prodE eAddr (prodE eAddr (prodE u8E (prodE u16E (prodE u16E (prodE u8E (prodE u8E (prodE u32E (prodE u8E (prodE u32E (ovE nilSl))))))))))) SHeader.to SHeader.of
def SHeader.l_src : Lens eHeader eAddr 0 := lIso _ SHeader.to SHeader.of (fun _ => rfl) (lFst eAddr (prodE eAddr (prodE u8E (prodE u16E (prodE u16E (prodE u8E (prodE u8E (prodE u32E (prodE u8E (prodE u32E (ovE nilSl)))))))))))
@[simp] theorem SHeader.get_src (x : SHeader) : SHeader.l_src.get x = x.src := rfl
@[simp] theorem SHeader.set_src (x : SHeader) (y : SAddr) : SHeader.l_src.set x y = { x with src := y } := rfl
def SHeader.l_dst : Lens eHeader eAddr 17 := lIso _ SHeader.to SHeader.of (fun _ => rfl) (Lens.comp (lSnd eAddr (prodE eAddr (prodE u8E (prodE u16E (prodE u16E (prodE u8E (prodE u8E (prodE u32E (prodE u8E (prodE u32E (ovE nilSl))))))))))) (lFst eAddr (prodE u8E (prodE u16E (prodE u16E (prodE u8E (prodE u8E (prodE u32E (prodE u8E (prodE u32E (ovE nilSl)))))))))))
@[simp] theorem SHeader.get_dst (x : SHeader) : SHeader.l_dst.get x = x.dst := rfl
@[simp] theorem SHeader.set_dst (x : SHeader) (y : SAddr) : SHeader.l_dst.set x y = { x with dst := y } := rfl
def SHeader.l_proto : Lens eHeader u8E 34 := lIso _ SHeader.to SHeader.of (fun _ => rfl) (Lens.comp (lSnd eAddr (prodE eAddr (prodE u8E (prodE u16E (prodE u16E (prodE u8E (prodE u8E (prodE u32E (prodE u8E (prodE u32E (ovE nilSl))))))))))) (Lens.comp (lSnd eAddr (prodE u8E (prodE u16E (prodE u16E (prodE u8E (prodE u8E (prodE u32E (prodE u8E (prodE u32E (ovE nilSl)))))))))) (lFst u8E (prodE u16E (prodE u16E (prodE u8E (prodE u8E (prodE u32E (prodE u8E (prodE u32E (ovE nilSl)))))))))))
@[simp] theorem SHeader.get_proto (x : SHeader) : SHeader.l_proto.get x = x.proto := rfl
@[simp] theorem SHeader.set_proto (x : SHeader) (y : UInt8) : SHeader.l_proto.set x y = { x with proto := y } := rfl
def SHeader.l_srcPort : Lens eHeader u16E 35 := lIso _ SHeader.to SHeader.of (fun _ => rfl) (Lens.comp (lSnd eAddr (prodE eAddr (prodE u8E (prodE u16E (prodE u16E (prodE u8E (prodE u8E (prodE u32E (prodE u8E (prodE u32E (ovE nilSl))))))))))) (Lens.comp (lSnd eAddr (prodE u8E (prodE u16E (prodE u16E (prodE u8E (prodE u8E (prodE u32E (prodE u8E (prodE u32E (ovE nilSl)))))))))) (Lens.comp (lSnd u8E (prodE u16E (prodE u16E (prodE u8E (prodE u8E (prodE u32E (prodE u8E (prodE u32E (ovE nilSl))))))))) (lFst u16E (prodE u16E (prodE u8E (prodE u8E (prodE u32E (prodE u8E (prodE u32E (ovE nilSl)))))))))))
@[simp] theorem SHeader.get_srcPort (x : SHeader) : SHeader.l_srcPort.get x = x.srcPort := rfl
@[simp] theorem SHeader.set_srcPort (x : SHeader) (y : UInt16) : SHeader.l_srcPort.set x y = { x with srcPort := y } := rfl
def SHeader.l_dstPort : Lens eHeader u16E 36 := lIso _ SHeader.to SHeader.of (fun _ => rfl) (Lens.comp (lSnd eAddr (prodE eAddr (prodE u8E (prodE u16E (prodE u16E (prodE u8E (prodE u8E (prodE u32E (prodE u8E (prodE u32E (ovE nilSl))))))))))) (Lens.comp (lSnd eAddr (prodE u8E (prodE u16E (prodE u16E (prodE u8E (prodE u8E (prodE u32E (prodE u8E (prodE u32E (ovE nilSl)))))))))) (Lens.comp (lSnd u8E (prodE u16E (prodE u16E (prodE u8E (prodE u8E (prodE u32E (prodE u8E (prodE u32E (ovE nilSl))))))))) (Lens.comp (lSnd u16E (prodE u16E (prodE u8E (prodE u8E (prodE u32E (prodE u8E (prodE u32E (ovE nilSl)))))))) (lFst u16E (prodE u8E (prodE u8E (prodE u32E (prodE u8E (prodE u32E (ovE nilSl)))))))))))
@[simp] theorem SHeader.get_dstPort (x : SHeader) : SHeader.l_dstPort.get x = x.dstPort := rfl
@[simp] theorem SHeader.set_dstPort (x : SHeader) (y : UInt16) : SHeader.l_dstPort.set x y = { x with dstPort := y } := rfl
def SHeader.l_tTL : Lens eHeader u8E 37 := lIso _ SHeader.to SHeader.of (fun _ => rfl) (Lens.comp (lSnd eAddr (prodE eAddr (prodE u8E (prodE u16E (prodE u16E (prodE u8E (prodE u8E (prodE u32E (prodE u8E (prodE u32E (ovE nilSl))))))))))) (Lens.comp (lSnd eAddr (prodE u8E (prodE u16E (prodE u16E (prodE u8E (prodE u8E (prodE u32E (prodE u8E (prodE u32E (ovE nilSl)))))))))) (Lens.comp (lSnd u8E (prodE u16E (prodE u16E (prodE u8E (prodE u8E (prodE u32E (prodE u8E (prodE u32E (ovE nilSl))))))))) (Lens.comp (lSnd u16E (prodE u16E (prodE u8E (prodE u8E (prodE u32E (prodE u8E (prodE u32E (ovE nilSl)))))))) (Lens.comp (lSnd u16E (prodE u8E (prodE u8E (prodE u32E (prodE u8E (prodE u32E (ovE nilSl))))))) (lFst u8E (prodE u8E (prodE u32E (prodE u8E (prodE u32E (ovE nilSl)))))))))))
@[simp] theorem SHeader.get_tTL (x : SHeader) : SHeader.l_tTL.get x = x.tTL := rfl
@[simp] theorem SHeader.set_tTL (x : SHeader) (y : UInt8) : SHeader.l_tTL.set x y = { x with tTL := y } := rfl
def SHeader.l_class_ : Lens eHeader u8E 38 := lIso _ SHeader.to SHeader.of (fun _ => rfl) (Lens.comp (lSnd eAddr (prodE eAddr (prodE u8E (prodE u16E (prodE u16E (prodE u8E (prodE u8E (prodE u32E (prodE u8E (prodE u32E (ovE nilSl))))))))))) (Lens.comp (lSnd eAddr (prodE u8E (prodE u16E (prodE u16E (prodE u8E (prodE u8E (prodE u32E (prodE u8E (prodE u32E (ovE nilSl)))))))))) (Lens.comp (lSnd u8E (prodE u16E (prodE u16E (prodE u8E (prodE u8E (prodE u32E (prodE u8E (prodE u32E (ovE nilSl))))))))) (Lens.comp (lSnd u16E (prodE u16E (prodE u8E (prodE u8E (prodE u32E (prodE u8E (prodE u32E (ovE nilSl)))))))) (Lens.comp (lSnd u16E (prodE u8E (prodE u8E (prodE u32E (prodE u8E (prodE u32E (ovE nilSl))))))) (Lens.comp (lSnd u8E (prodE u8E (prodE u32E (prodE u8E (prodE u32E (ovE nilSl)))))) (lFst u8E (prodE u32E (prodE u8E (prodE u32E (ovE nilSl)))))))))))
@[simp] theorem SHeader.get_class_ (x : SHeader) : SHeader.l_class_.get x = x.class_ := rfl
@[simp] theorem SHeader.set_class_ (x : SHeader) (y : UInt8) : SHeader.l_class_.set x y = { x with class_ := y } := rfl
def SHeader.l_id : Lens eHeader u32E 39 := lIso _ SHeader.to SHeader.of (fun _ => rfl) (Lens.comp (lSnd eAddr (prodE eAddr (prodE u8E (prodE u16E (prodE u16E (prodE u8E (prodE u8E (prodE u32E (prodE u8E (prodE u32E (ovE nilSl))))))))))) (Lens.comp (lSnd eAddr (prodE u8E (prodE u16E (prodE u16E (prodE u8E (prodE u8E (prodE u32E (prodE u8E (prodE u32E (ovE nilSl)))))))))) (Lens.comp (lSnd u8E (prodE u16E (prodE u16E (prodE u8E (prodE u8E (prodE u32E (prodE u8E (prodE u32E (ovE nilSl))))))))) (Lens.comp (lSnd u16E (prodE u16E (prodE u8E (prodE u8E (prodE u32E (prodE u8E (prodE u32E (ovE nilSl)))))))) (Lens.comp (lSnd u16E (prodE u8E (prodE u8E (prodE u32E (prodE u8E (prodE u32E (ovE nilSl))))))) (Lens.comp (lSnd u8E (prodE u8E (prodE u32E (prodE u8E (prodE u32E (ovE nilSl)))))) (Lens.comp (lSnd u8E (prodE u32E (prodE u8E (prodE u32E (ovE nilSl))))) (lFst u32E (prodE u8E (prodE u32E (ovE nilSl)))))))))))
@[simp] theorem SHeader.get_id (x : SHeader) : SHeader.l_id.get x = x.id := rfl
@[simp] theorem SHeader.set_id (x : SHeader) (y : UInt32) : SHeader.l_id.set x y = { x with id := y } := rfl
def SHeader.l_flags : Lens eHeader u8E 40 := lIso _ SHeader.to SHeader.of (fun _ => rfl) (Lens.comp (lSnd eAddr (prodE eAddr (prodE u8E (prodE u16E (prodE u16E (prodE u8E (prodE u8E (prodE u32E (prodE u8E (prodE u32E (ovE nilSl))))))))))) (Lens.comp (lSnd eAddr (prodE u8E (prodE u16E (prodE u16E (prodE u8E (prodE u8E (prodE u32E (prodE u8E (prodE u32E (ovE nilSl)))))))))) (Lens.comp (lSnd u8E (prodE u16E (prodE u16E (prodE u8E (prodE u8E (prodE u32E (prodE u8E (prodE u32E (ovE nilSl))))))))) (Lens.comp (lSnd u16E (prodE u16E (prodE u8E (prodE u8E (prodE u32E (prodE u8E (prodE u32E (ovE nilSl)))))))) (Lens.comp (lSnd u16E (prodE u8E (prodE u8E (prodE u32E (prodE u8E (prodE u32E (ovE nilSl))))))) (Lens.comp (lSnd u8E (prodE u8E (prodE u32E (prodE u8E (prodE u32E (ovE nilSl)))))) (Lens.comp (lSnd u8E (prodE u32E (prodE u8E (prodE u32E (ovE nilSl))))) (Lens.comp (lSnd u32E (prodE u8E (prodE u32E (ovE nilSl)))) (lFst u8E (prodE u32E (ovE nilSl)))))))))))
@[simp] theorem SHeader.get_flags (x : SHeader) : SHeader.l_flags.get x = x.flags := rfl
@[simp] theorem SHeader.set_flags (x : SHeader) (y : UInt8) : SHeader.l_flags.set x y = { x with flags := y } := rfl
def SHeader.l_seq : Lens eHeader u32E 41 := lIso _ SHeader.to SHeader.of (fun _ => rfl) (Lens.comp (lSnd eAddr (prodE eAddr (prodE u8E (prodE u16E (prodE u16E (prodE u8E (prodE u8E (prodE u32E (prodE u8E (prodE u32E (ovE nilSl))))))))))) (Lens.comp (lSnd eAddr (prodE u8E (prodE u16E (prodE u16E (prodE u8E (prodE u8E (prodE u32E (prodE u8E (prodE u32E (ovE nilSl)))))))))) (Lens.comp (lSnd u8E (prodE u16E (prodE u16E (prodE u8E (prodE u8E (prodE u32E (prodE u8E (prodE u32E (ovE nilSl))))))))) (Lens.comp (lSnd u16E (prodE u16E (prodE u8E (prodE u8E (prodE u32E (prodE u8E (prodE u32E (ovE nilSl)))))))) (Lens.comp (lSnd u16E (prodE u8E (prodE u8E (prodE u32E (prodE u8E (prodE u32E (ovE nilSl))))))) (Lens.comp (lSnd u8E (prodE u8E (prodE u32E (prodE u8E (prodE u32E (ovE nilSl)))))) (Lens.comp (lSnd u8E (prodE u32E (prodE u8E (prodE u32E (ovE nilSl))))) (Lens.comp (lSnd u32E (prodE u8E (prodE u32E (ovE nilSl)))) (Lens.comp (lSnd u8E (prodE u32E (ovE nilSl))) (lFst u32E (ovE nilSl)))))))))))
@[simp] theorem SHeader.get_seq (x : SHeader) : SHeader.l_seq.get x = x.seq := rfl
@[simp] theorem SHeader.set_seq (x : SHeader) (y : UInt32) : SHeader.l_seq.set x y = { x with seq := y } := rfl
def SHeader.l_data : Lens eHeader (ovE nilSl) 42 := lIso _ SHeader.to SHeader.of (fun _ => rfl) (Lens.comp (lSnd eAddr (prodE eAddr (prodE u8E (prodE u16E (prodE u16E (prodE u8E (prodE u8E (prodE u32E (prodE u8E (prodE u32E (ovE nilSl))))))))))) (Lens.comp (lSnd eAddr (prodE u8E (prodE u16E (prodE u16E (prodE u8E (prodE u8E (prodE u32E (prodE u8E (prodE u32E (ovE nilSl)))))))))) (Lens.comp (lSnd u8E (prodE u16E (prodE u16E (prodE u8E (prodE u8E (prodE u32E (prodE u8E (prodE u32E (ovE nilSl))))))))) (Lens.comp (lSnd u16E (prodE u16E (prodE u8E (prodE u8E (prodE u32E (prodE u8E (prodE u32E (ovE nilSl)))))))) (Lens.comp (lSnd u16E (prodE u8E (prodE u8E (prodE u32E (prodE u8E (prodE u32E (ovE nilSl))))))) (Lens.comp (lSnd u8E (prodE u8E (prodE u32E (prodE u8E (prodE u32E (ovE nilSl)))))) (Lens.comp (lSnd u8E (prodE u32E (prodE u8E (prodE u32E (ovE nilSl))))) (Lens.comp (lSnd u32E (prodE u8E (prodE u32E (ovE nilSl)))) (Lens.comp (lSnd u8E (prodE u32E (ovE nilSl))) (Lens.comp (lSnd u32E (ovE nilSl)) (Lens.id (ovE nilSl))))))))))))
@[simp] theorem SHeader.get_data (x : SHeader) : SHeader.l_data.get x = x.data := rfl
@[simp] theorem SHeader.set_data (x : SHeader) (y : OV) : SHeader.l_data.set x y = { x with data := y } := rfl
def bitOf (x : UInt8) (j : Nat) : UInt8 := shr8 x (7 - j) &&& 1
theorem bitOf_toNat (x : UInt8) (j : Nat) : (bitOf x j).toNat = bn x.toNat (7 - j) := by
  unfold bitOf bn
  rw [UInt8.toNat_and, toNat_shr8]
  have e : UInt8.toNat 1 = 1 := rfl
  rw [e, Nat.and_one_is_mod]
theorem bitU_at (xs : List UInt8) (q j : Nat) (hj : j < 8) : bitU xs (8 * (q : Int) + j) = bitOf (xs.getD q 0) j := by
  unfold bitU bitOf
  have e1 : ((8 * (q : Int) + j) / 8).toNat = q := by omega
  have e2 : (7 - (8 * (q : Int) + j) % 8).toNat = 7 - j := by omega
  rw [e1, e2]
set_option maxRecDepth 100000 in
theorem mk1_dec : ∀ n : Fin 256, ∀ l : Fin 9, (mk1 (l.val : Int) (UInt8.ofNat n.val) = UInt8.ofNat n.val ↔ ∀ j : Fin 8, l.val ≤ j.val → bn n.val (7 - j.val) = 0) := by decide +kernel
theorem mk1_iff (x : UInt8) (left : Int) : mk1 left x = x ↔ ∀ j : Nat, j < 8 → left ≤ j → bitOf x j = 0 := by
  have key : ∀ l : Nat, l < 9 → (mk1 (l : Int) x = x ↔ ∀ j : Nat, j < 8 → l ≤ j → bitOf x j = 0) := fun l hl => by
    have h := mk1_dec ⟨x.toNat, x.toNat_lt⟩ ⟨l, hl⟩
    simp only [UInt8.ofNat_toNat] at h
    rw [h]
    constructor
    · intro h1 j hj hlj
      apply UInt8.toNat_inj.1
      rw [bitOf_toNat]
      exact h1 ⟨j, hj⟩ hlj
    · intro h1 j hlj
      rw [← bitOf_toNat, h1 j.val j.isLt hlj]
      rfl
  by_cases h0 : left ≤ 0
  · have e : mk1 left x = mk1 ((0 : Nat) : Int) x := by
      unfold mk1
      rw [if_pos h0, if_pos (by omega)]
    rw [e, key 0 (by omega)]
    exact ⟨fun h j hj _ => h j hj (Nat.zero_le _), fun h j hj _ => h j hj (by omega)⟩
  · by_cases h8 : left < 8
    · have e : left = (left.toNat : Int) := by omega
      rw [e, key left.toNat (by omega)]
      exact ⟨fun h j hj hl => h j hj (by omega), fun h j hj hl => h j hj (by omega)⟩
    · have e : mk1 left x = x := by
        unfold mk1
        rw [if_neg h0, if_neg h8]
      exact ⟨fun _ j hj hl => by omega, fun _ => e⟩
theorem vec_getD (b : Vector UInt8 16) (k : Nat) (h : k < 16) : b.toList.getD k 0 = b[k] := by simp [List.getD, h]
theorem mask_bits (n : Int) (b : Vector UInt8 16) (h0 : 0 ≤ n) : maskV n b = b ↔ ∀ i : Int, n ≤ i → i < 128 → bitU b.toList i = 0 := by
  have step : maskV n b = b ↔ ∀ (k : Nat) (hk : k < 16), mk1 (n - 8 * (k : Int)) b[k] = b[k] := by
    constructor
    · intro h k hk
      have := congrArg (fun v : Vector UInt8 16 => v[k]) h
      simpa [maskV] using this
    · intro h
      apply Vector.ext
      intro k hk
      have := h k hk
      simpa [maskV] using this
  rw [step]
  constructor
  · intro h i h1 h2
    have hk : (i / 8).toNat < 16 := by omega
    have h3 := (mk1_iff _ _).1 (h (i / 8).toNat hk) (i % 8).toNat (by omega) (by omega)
    have e : i = 8 * ((i / 8).toNat : Int) + ((i % 8).toNat : Int) := by omega
    rw [e, bitU_at _ _ _ (by omega), vec_getD b _ hk]
    exact h3
  · intro h k hk
    refine (mk1_iff _ _).2 (fun j hj hl => ?_)
    have h3 := h (8 * (k : Int) + j) (by omega) (by omega)
    rw [bitU_at _ _ _ hj, vec_getD b _ hk] at h3
    exact h3
theorem checkA_zero (a : SAddr) : checkA a = 0 ↔ ∀ i : Int, wd a ≤ i → i < 128 → bitU a.b.toList i = 0 := by
  have := wd_le a
  rw [← mask_bits (wd a) a.b (by omega)]
  unfold checkA
  split <;> simp_all
theorem checkP_zero (p : SPrefix) : checkP p = 0 ↔ 0 ≤ p.bits ∧ p.bits ≤ wd p.addr ∧ ∀ i : Int, p.bits ≤ i → i < 128 → bitU p.addr.b.toList i = 0 := by
  unfold checkP
  by_cases h0 : 0 ≤ p.bits
  · rw [← mask_bits p.bits p.addr.b h0]
    split
    · rename_i h
      constructor
      · intro h; cases h
      · intro h2; exfalso; rcases h with h | h | h
        · omega
        · omega
        · exact h h2.2.2
    · rename_i h
      simp only [not_or, Decidable.not_not] at h
      exact ⟨fun _ => ⟨h0, (by omega), h.2.2⟩, fun _ => rfl⟩
  · rw [if_pos (.inl (by omega))]
    exact ⟨fun h => (by cases h), fun h => absurd h.1 h0⟩
theorem checkP_addr (p : SPrefix) (h : checkP p = 0) : checkA p.addr = 0 := by
  obtain ⟨h0, h1, h2⟩ := (checkP_zero p).1 h
  exact (checkA_zero p.addr).2 (fun i hi h3 => h2 i (by omega) h3)
def asksB (m : SMatch) (w : UInt8) : Bool := decide (¬ m.asks &&& w = 0)
set_option maxRecDepth 100000 in
theorem asks_dec : ∀ w ∈ ([1, 2, 4, 8, 16, 32] : List UInt8), ∀ n : Fin 256, decide (UInt8.ofNat n.val / w % 2 = 1) = decide (¬ UInt8.ofNat n.val &&& w = 0) := by decide +kernel
theorem asks_eq (w x : UInt8) (h : w ∈ ([1, 2, 4, 8, 16, 32] : List UInt8)) : decide (x / w % 2 = 1) = decide (¬ x &&& w = 0) := by
  have := asks_dec w h ⟨x.toNat, x.toNat_lt⟩
  simpa only [UInt8.ofNat_toNat] using this
theorem rbit_ok (a : SAddr) (i : Int) (w : World) (h : 0 ≤ i ∧ i < 128) : Calls Tryz.prog 197 #[eAddr.val a, I i] w (RetV w (U8 (bitU a.b.toList i))) := by
  refine en0 15 Tryz.func197 ?_
  refine sg (cons (box (E := eAddr) (.t rfl) (fun b1 => ?_)))
  refine co (Ev.assign (.c (v := U8 0) rfl)) ?_
  refine nP (sg (mv rfl (co (Ev.quo_n (.t rfl) (.c (v := I 8) rfl) (fun _ => zo) (fun _ => zo) (fun _ => zo)) ?_)))
  refine co (fA 1 (.t rfl)) ?_
  refine co (Ev.indexAddrA Tryz.underlying46 ty5 (.t rfl) (.t rfl) (fun _ => zo)) ?_
  refine co (Ev.ldv ty5 (.t rfl) (Lens.comp SAddr.l_b (lArr (n := 16) u8E _ (by omega)))) ?_
  refine mv rfl (co (Ev.rem_n (.t rfl) (.c (v := I 8) rfl) (fun _ => zo) (fun _ => zo)) ?_)
  refine co (Ev.sub_i (.c (v := I 7) rfl) (.t rfl) (fun _ => zo)) ?_
  refine co (Ev.shr_u8 (.t rfl) (.t rfl) (fun _ => zo)) ?_
  refine co (Ev.and_u8 (.t rfl) (.c (v := U8 1) rfl)) ?_
  refine asn rfl (nP (ret (done rfl (.tmp rfl .nil) (retE ?_))))
  unfold bitU
  rw [vec_getD a.b _ (by omega)]
  rfl
theorem rmost_ok (v : Bool) (w : World) : Calls Tryz.prog 196 #[.bool v] w (RetV w (I (bif v then 128 else 32))) := by
  refine en0 4 Tryz.func196 ?_
  refine sg (co (Ev.assign (.c (v := I 0) rfl)) ?_)
  refine nP (seq (sg (mv rfl (nP ?_))))
  first | refine condD rfl (fun h0 => ?_) (fun h0 => ?_) | refine cond rfl (fun h0 => ?_) (fun h0 => ?_)
  · try simp only [nb] at h0
    refine sg (co (Ev.assign (.c (v := I 128) rfl)) ?_)
    refine nP (ret (pR (done rfl (.tmp rfl .nil) (retE ?_))))
    rw [h0]; rfl
  · try simp only [nb] at h0
    refine skip (pN (sg (co (Ev.assign (.c (v := I 32) rfl)) ?_)))
    refine nP (ret (done rfl (.tmp rfl .nil) (retE ?_)))
    rw [h0]; rfl
theorem en197 : Gx.Enters Tryz.prog 197 := Gx.Enters.mk' zk
theorem raddr_ok (a : SAddr) (w : World) : Calls Tryz.prog 195 #[eAddr.val a] w (RetV w (.bool (decide (checkA a = 0)))) := by
  refine en0 17 Tryz.func195 ?_
  refine sg (cons (box (E := eAddr) (.t rfl) (fun b1 => ?_)))
  refine co (Ev.assign (.c (v := .bool false) rfl)) ?_
  refine nP (seq (sg (co (Ev.assign (.c (v := I 32) rfl)) ?_)))
  refine nP (block (lp (X := Int) (fun x : Int => (32 ≤ x ∧ x ≤ 128) ∧ (∀ j : Int, 32 ≤ j → j < x → bitU a.b.toList j = 0) ∧ (32 < x → a.v6 = false)) (fun x : Int => [(1, true, .pointer (some ⟨b1, 0, none⟩)), (3, true, I x)]) (fun x : Int => [Var b1 eAddr a 48]) (fun x : Int => (128 - x).toNat) (32) ⟨?_, ?_, ?_⟩ (fun x hx => ?_)))
  · omega
  · intro j h1 h2; omega
  · intro h; omega
  obtain ⟨i, rfl⟩ : ∃ y, y = x := ⟨x, rfl⟩
  obtain ⟨hi, hz, hv⟩ : (32 ≤ i ∧ i ≤ 128) ∧ (∀ j : Int, 32 ≤ j → j < i → bitU a.b.toList j = 0) ∧ (32 < i → a.v6 = false) := hx
  show Sat _ _ [(1, true, .pointer (some ⟨b1, 0, none⟩)), (3, true, I i)] [Var b1 eAddr a 48]
  refine seq (sg (mv rfl (co (Ev.lss_i (.t rfl) (.c (v := I 128) rfl)) ?_)))
  refine mv rfl (cg rfl rfl (fA 0 (.t rfl)) ?_)
  refine cg rfl rfl (Ev.ldx a.v6 ty4 (.g rfl id) SAddr.l_v6) ?_
  refine cg rfl rfl (Ev.not (.g rfl id)) ?_
  refine co (Ev.pkA (.t rfl) rfl) ?_
  refine nP ?_
  first | refine condD rfl (fun hlt => ?_) (fun hge => ?_) | refine cond rfl (fun hlt => ?_) (fun hge => ?_)
  · try simp only [nb] at hlt
    refine skip (pN (seq (block (sg (co (Ev.ldx a ty48 (.t rfl) (Lens.id _)) ?_)))))
    refine mv rfl (cons (callv en197 (.cons (.t rfl) (.cons (.t rfl) .nil)) (fun w I => rbit_ok _ _ w (by omega)) ?_))
    refine co (Ev.neq_u8 (.t rfl) (.c (v := U8 0) rfl)) ?_
    refine nP ?_
    first | refine condD rfl (fun hne => ?_) (fun heq => ?_) | refine cond rfl (fun hne => ?_) (fun heq => ?_)
    · try simp only [nb] at hne
      refine sg (co (Ev.assign (.c (v := .bool false) rfl)) ?_)
      refine nP (ret (bR (pR (pR (bR (pR (done rfl (.tmp rfl .nil) (retE ?_))))))))
      refine bF (fun h => ?_)
      have h6 : a.v6 = false := by simpa using hlt.2
      exact hne ((checkA_zero a).1 h i (by simp [wd, h6]; omega) (by omega))
    · try simp only [nb] at heq
      have h1z : bitU a.b.toList i = 0 := by simpa using heq
      refine skip (bN (pN (region (mv rfl (co (Ev.add_i (.t rfl) (.c (v := I 1) rfl) (fun _ => zo)) ?_)))))
      refine asn rfl (nP (nx (X := Int) (i + 1) ⟨?_, ?_, ?_⟩ ?_))
      · try dsimp only
        omega
      · try dsimp only
        intro j h1 h2
        by_cases e : j = i
        · rw [e]; exact h1z
        · exact hz j h1 (by omega)
      · try dsimp only
        intro _; simpa using hlt.2
      · try dsimp only
        omega
  · try simp only [nb] at hge
    refine exit (pX (pX (bX (pN (sg (co (Ev.assign (.c (v := .bool true) rfl)) ?_))))))
    refine nP (ret (done rfl (.tmp rfl .nil) (retE ?_)))
    refine bT ((checkA_zero a).2 (fun j h1 h2 => ?_))
    by_cases h6 : a.v6 = true
    · simp [wd, h6] at h1; omega
    · have h6 : a.v6 = false := by simpa using h6
      have hi128 : i = 128 := by
        rcases hge with h | h
        · omega
        · simp [h6] at h
      exact hz j (by simp [wd, h6] at h1; omega) (by omega)
theorem en195 : Gx.Enters Tryz.prog 195 := Gx.Enters.mk' zk
theorem en196 : Gx.Enters Tryz.prog 196 := Gx.Enters.mk' zk
theorem rprefix_ok (p : SPrefix) (w : World) : Calls Tryz.prog 185 #[ePrefix.val p] w (RetV w (.bool (decide (checkP p = 0)))) := by
  have hw := wd_le p.addr
  refine en0 33 Tryz.func185 ?_
  refine sg (cons (box (E := ePrefix) (.t rfl) (fun b1 => ?_)))
  refine co (Ev.assign (.c (v := .bool false) rfl)) ?_
  refine nP (seq (seq (draw' zk ?_)))
  refine tk 0 rfl (fA 0 (.t rfl)) ?_
  refine tk 1 rfl (Ev.ldx p.addr ty48 (.t rfl) SPrefix.l_addr) ?_
  refine al1 2 rfl ((callv en195 (.cons (.t rfl) .nil) (fun w I => raddr_ok _ w) ?_))
  refine hdn (tk 3 rfl (Ev.not (.t rfl)) ?_)
  refine tk 4 rfl (Ev.move (.t rfl)) ?_
  refine tkg 5 rfl rfl rfl (fA 17 (.t rfl)) ?_
  refine tkg 6 rfl rfl rfl (Ev.ldx p.bits ty3 (.g rfl id) SPrefix.l_bits) ?_
  refine tkg 7 rfl rfl rfl (Ev.lss_i (.g rfl id) (.c (v := I 0) rfl)) ?_
  refine tk 8 rfl (Ev.pkO (.t rfl) rfl) ?_
  refine tk 9 rfl (Ev.move (.t rfl)) ?_
  refine tkg 10 rfl rfl rfl (fA 17 (.t rfl)) ?_
  refine tkg 11 rfl rfl rfl (Ev.ldx p.bits ty3 (.g rfl id) SPrefix.l_bits) ?_
  refine tkg 12 rfl rfl rfl (fA 0 (.t rfl)) ?_
  refine tkg 13 rfl rfl rfl (fA 0 (.g rfl id)) ?_
  refine tkg 14 rfl rfl rfl (Ev.ldx p.addr.v6 ty4 (.g rfl id) (Lens.comp SPrefix.l_addr SAddr.l_v6)) ?_
  refine al1 15 rfl ((callg rfl rfl en196 (.cons (.g rfl id) .nil) (fun hg w I => rmost_ok _ w) ?_))
  refine hdn (tkg 16 rfl rfl rfl (Ev.gtr_i (.g rfl id) (.g rfl id)) ?_)
  refine tk 17 rfl (Ev.pkO (.t rfl) rfl) ?_
  refine ovr (pN ?_)
  first | refine condD rfl (fun h0 => ?_) (fun h0 => ?_) | refine cond rfl (fun h0 => ?_) (fun h0 => ?_)
  · refine sg (co (Ev.assign (.c (v := .bool false) rfl)) ?_)
    refine nP (ret (pR (done rfl (.tmp rfl .nil) (retE ?_))))
    refine bF (fun h => ?_)
    obtain ⟨g0, g1, g2⟩ := (checkP_zero p).1 h
    have g3 := checkP_addr p h
    have g4 : p.bits ≤ (bif p.addr.v6 then 128 else 32) := g1
    simp [g3] at h0
    omega
  · have hr : 0 ≤ p.bits ∧ p.bits ≤ wd p.addr := by simp [and_assoc] at h0; exact ⟨h0.2.1, h0.2.2⟩
    refine skip (pN (seq (sg (co (fA 17 (.t rfl)) ?_))))
    refine co (Ev.ldx p.bits ty3 (.t rfl) SPrefix.l_bits) ?_
    refine asn rfl (nP (block (lp (X := Int) (fun x : Int => (p.bits ≤ x ∧ x ≤ 128) ∧ (∀ j : Int, p.bits ≤ j → j < x → bitU p.addr.b.toList j = 0)) (fun x : Int => [(1, true, .pointer (some ⟨b1, 0, none⟩)), (3, true, I x)]) (fun x : Int => [Var b1 ePrefix p 50]) (fun x : Int => (128 - x).toNat) (p.bits) ⟨?_, ?_⟩ (fun x hx => ?_))))
    · omega
    · intro j h1 h2; omega
    obtain ⟨i, rfl⟩ : ∃ y, y = x := ⟨x, rfl⟩
    obtain ⟨hi, hz⟩ : (p.bits ≤ i ∧ i ≤ 128) ∧ (∀ j : Int, p.bits ≤ j → j < i → bitU p.addr.b.toList j = 0) := hx
    show Sat _ _ [(1, true, .pointer (some ⟨b1, 0, none⟩)), (3, true, I i)] [Var b1 ePrefix p 50]
    refine seq (sg (mv rfl (co (Ev.lss_i (.t rfl) (.c (v := I 128) rfl)) ?_)))
    refine nP ?_
    first | refine condD rfl (fun hlt => ?_) (fun hge => ?_) | refine cond rfl (fun hlt => ?_) (fun hge => ?_)
    · try simp only [nb] at hlt
      refine skip (pN (seq (block (sg (co (fA 0 (.t rfl)) ?_)))))
      refine co (Ev.ldx p.addr ty48 (.t rfl) SPrefix.l_addr) ?_
      refine mv rfl (cons (callv en197 (.cons (.t rfl) (.cons (.t rfl) .nil)) (fun w I => rbit_ok _ _ w (by omega)) ?_))
      refine co (Ev.neq_u8 (.t rfl) (.c (v := U8 0) rfl)) ?_
      refine nP ?_
      first | refine condD rfl (fun hne => ?_) (fun heq => ?_) | refine cond rfl (fun hne => ?_) (fun heq => ?_)
      · try simp only [nb] at hne
        refine sg (co (Ev.assign (.c (v := .bool false) rfl)) ?_)
        refine nP (ret (bR (pR (pR (bR (pR (done rfl (.tmp rfl .nil) (retE ?_))))))))
        refine bF (fun h => ?_)
        exact hne (((checkP_zero p).1 h).2.2 i (by omega) (by omega))
      · try simp only [nb] at heq
        have h1z : bitU p.addr.b.toList i = 0 := by simpa using heq
        refine skip (bN (pN (region (mv rfl (co (Ev.add_i (.t rfl) (.c (v := I 1) rfl) (fun _ => zo)) ?_)))))
        refine asn rfl (nP (nx (X := Int) (i + 1) ⟨?_, ?_⟩ ?_))
        · try dsimp only
          omega
        · try dsimp only
          intro j h1 h2
          by_cases e : j = i
          · rw [e]; exact h1z
          · exact hz j h1 (by omega)
        · try dsimp only
          omega
    · try simp only [nb] at hge
      refine exit (pX (pX (bX (pN (sg (co (Ev.assign (.c (v := .bool true) rfl)) ?_))))))
      refine nP (ret (done rfl (.tmp rfl .nil) (retE ?_)))
      exact bT ((checkP_zero p).2 ⟨hr.1, hr.2, fun j h1 h2 => hz j h1 (by omega)⟩)
theorem en185 : Gx.Enters Tryz.prog 185 := Gx.Enters.mk' zk
theorem rasks_ok (m : SMatch) (q : UInt8) (w : World) (h : q ∈ ([1, 2, 4, 8, 16, 32] : List UInt8)) : Calls Tryz.prog 179 #[eMatch.val m, U8 q] w (RetV w (.bool (asksB m q))) := by
  refine en0 11 Tryz.func179 ?_
  refine sg (cons (box (E := eMatch) (.t rfl) (fun b1 => ?_)))
  refine co (Ev.assign (.c (v := .bool false) rfl)) ?_
  refine nP (sg (co (fA 0 (.t rfl)) ?_))
  refine co (Ev.ldx m.asks ty5 (.t rfl) SMatch.l_asks) ?_
  refine mv rfl (co (Ev.quo_u8 (.t rfl) (.t rfl) (fun _ => by intro e; rw [e] at h; revert h; decide)) ?_)
  refine co (Ev.rem_u8 (.t rfl) (.c (v := U8 2) rfl) (fun _ => by decide)) ?_
  refine co (Ev.eql_u8 (.t rfl) (.c (v := U8 1) rfl)) ?_
  refine asn rfl (nP (ret (done rfl (.tmp rfl .nil) (retE ?_))))
  exact congrArg Value.bool (asks_eq q m.asks h)
theorem asks_ok (m : SMatch) (q : UInt8) (w : World) : Calls Tryz.prog 153 #[eMatch.val m, U8 q] w (RetV w (.bool (asksB m q))) := by
  refine en0 10 Tryz.func153 ?_
  refine sg (cons (box (E := eMatch) (.t rfl) (fun b1 => ?_)))
  refine co (Ev.assign (.c (v := .bool false) rfl)) ?_
  refine nP (sg (co (fA 0 (.t rfl)) ?_))
  refine co (Ev.ldx m.asks ty5 (.t rfl) SMatch.l_asks) ?_
  refine mv rfl (co (Ev.and_u8 (.t rfl) (.t rfl)) ?_)
  refine co (Ev.neq_u8 (.t rfl) (.c (v := U8 0) rfl)) ?_
  refine asn rfl (nP (ret (done rfl (.tmp rfl .nil) (retE ?_))))
  rfl
def portsB (p : UInt8) : Bool := decide (p = 6) || decide (p = 17)
def withinB (s : SSpan) (n : Int) : Bool := decide ((s.from_.toNat : Int) ≤ n) && decide (n ≤ (s.to_.toNat : Int))
theorem rports_ok (p : UInt8) (w : World) : Calls Tryz.prog 186 #[U8 p] w (RetV w (.bool (portsB p))) := by
  refine en0 9 Tryz.func186 ?_
  refine sg (co (Ev.assign (.c (v := .bool false) rfl)) ?_)
  refine nP (sg (mv rfl (co (Ev.eql_u8 (.t rfl) (.c (v := U8 6) rfl)) ?_)))
  refine mv rfl (cg rfl rfl (Ev.move (.t rfl)) ?_)
  refine cg rfl rfl (Ev.eql_u8 (.g rfl id) (.c (v := U8 17) rfl)) ?_
  refine co (Ev.pkO (.t rfl) rfl) ?_
  refine asn rfl (nP (ret (done rfl (.tmp rfl .nil) (retE ?_))))
  rfl
theorem take_snoc {α : Type} (l : List α) (i : Int) (h0 : 0 ≤ i) (h1 : i < l.length) (z : α) : l.take (i + 1).toNat = l.take i.toNat ++ [l.getD i.toNat z] := by
  have e : (i + 1).toNat = i.toNat + 1 := by omega
  have h2 : i.toNat < l.length := by omega
  rw [e, List.take_succ_eq_append_getElem h2]
  simp [List.getD, h2]
def bad0 (m : SMatch) : Bool := decide (63 < m.asks) || (!asksB m 1 && !decide (m.in_ = eSpan.zero)) || (!asksB m 2 && !decide (m.src = ePrefix.zero)) || (!asksB m 4 && !decide (m.dst = ePrefix.zero)) || (!asksB m 8 && decide (¬ m.proto = 0)) || (!asksB m 16 && !decide (m.srcPort = eSpan.zero)) || (!asksB m 32 && !decide (m.dstPort = eSpan.zero))
def bad1 (m : SMatch) : Bool := decide (m.in_.to_ < m.in_.from_) || decide (255 < m.in_.to_) || decide (m.srcPort.to_ < m.srcPort.from_) || decide (m.dstPort.to_ < m.dstPort.from_)
def bad2 (m : SMatch) : Bool := (asksB m 2 && !decide (checkP m.src = 0)) || (asksB m 4 && !decide (checkP m.dst = 0)) || (asksB m 2 && asksB m 4 && decide (¬ m.src.addr.v6 = m.dst.addr.v6))
def good3 (m : SMatch) : Bool := (!asksB m 16 && !asksB m 32) || (asksB m 8 && portsB m.proto)
def okM (m : SMatch) : Bool := !bad0 m && !bad1 m && !bad2 m && good3 m
def ckM (m : SMatch) : Int := bif okM m then 0 else 190
theorem ckM_zero (m : SMatch) : decide (ckM m = 0) = okM m := by unfold ckM; cases okM m <;> rfl
def addF (c : Bool) (f h : UInt8) : UInt8 := bif c then h ||| f else h
theorem u8_or_zero (x y : UInt8) : x ||| y = 0 ↔ x = 0 ∧ y = 0 := by
  constructor
  · intro h
    have h1 := congrArg UInt8.toNat h
    rw [UInt8.toNat_or] at h1
    have h2 : UInt8.toNat 0 = 0 := rfl
    rw [h2] at h1
    have h3 : x.toNat ≤ x.toNat ||| y.toNat := Nat.left_le_or
    have h4 : y.toNat ≤ x.toNat ||| y.toNat := Nat.right_le_or
    exact ⟨UInt8.toNat_inj.1 (by rw [h2]; omega), UInt8.toNat_inj.1 (by rw [h2]; omega)⟩
  · rintro ⟨rfl, rfl⟩
    rfl
theorem addF_and (c : Bool) (f h a : UInt8) : addF c f h &&& a = 0 ↔ (c = true → f &&& a = 0) ∧ h &&& a = 0 := by
  unfold addF
  cases c
  · simp
  · simp only [cond_true, forall_const]
    have e : (h ||| f) &&& a = h &&& a ||| f &&& a := by
      apply UInt8.toNat_inj.1
      simp only [UInt8.toNat_and, UInt8.toNat_or, Nat.and_or_distrib_right]
    rw [e, u8_or_zero]
    exact and_comm
set_option maxRecDepth 100000 in
theorem not_dec : ∀ w ∈ ([1, 2, 4, 8, 16, 32] : List UInt8), ∀ n : Fin 256, (w &&& ~~~ (UInt8.ofNat n.val) = 0) = (¬ UInt8.ofNat n.val &&& w = 0) := by
  intro w hw n
  have h : ∀ w ∈ ([1, 2, 4, 8, 16, 32] : List UInt8), ∀ n : Fin 256, decide (w &&& ~~~ (UInt8.ofNat n.val) = 0) = decide (¬ UInt8.ofNat n.val &&& w = 0) := by decide +kernel
  have := h w hw n
  rw [Bool.eq_iff_iff, decide_eq_true_iff, decide_eq_true_iff] at this
  exact propext this
theorem not_asks (m : SMatch) (w : UInt8) (h : w ∈ ([1, 2, 4, 8, 16, 32] : List UInt8)) : (w &&& ~~~ m.asks = 0) ↔ asksB m w = true := by
  have := not_dec w h ⟨m.asks.toNat, m.asks.toNat_lt⟩
  simp only [UInt8.ofNat_toNat] at this
  unfold asksB
  rw [this, decide_eq_true_iff]
set_option maxRecDepth 100000 in
theorem big_dec : ∀ n : Fin 256, decide (¬ UInt8.ofNat n.val &&& ~~~ 63 = 0) = decide (63 < UInt8.ofNat n.val) := by decide +kernel
theorem big_asks (x : UInt8) : decide (¬ x &&& ~~~ 63 = 0) = decide (63 < x) := by
  have := big_dec ⟨x.toNat, x.toNat_lt⟩
  simpa only [UInt8.ofNat_toNat] using this
set_option maxRecDepth 100000 in
theorem p48_dec : ∀ n : Fin 256, decide (¬ UInt8.ofNat n.val &&& 48 = 0) = (decide (¬ UInt8.ofNat n.val &&& 16 = 0) || decide (¬ UInt8.ofNat n.val &&& 32 = 0)) := by decide +kernel
theorem asks48 (m : SMatch) : asksB m 48 = (asksB m 16 || asksB m 32) := by
  have := p48_dec ⟨m.asks.toNat, m.asks.toNat_lt⟩
  unfold asksB
  simpa only [UInt8.ofNat_toNat] using this
theorem addF_dec (c : Bool) (f h : UInt8) (m : SMatch) (hf : f ∈ ([1, 2, 4, 8, 16, 32] : List UInt8)) : decide (¬ addF c f h &&& ~~~ m.asks = 0) = ((!asksB m f && c) || decide (¬ h &&& ~~~ m.asks = 0)) := by
  have h1 := addF_and c f h (~~~ m.asks)
  have h2 := not_asks m f hf
  rw [Bool.eq_iff_iff]
  rw [h2] at h1
  cases c <;> cases hq : asksB m f <;> rw [hq] at h1 <;> simp [h1]
theorem good3_of (m : SMatch) (h : asksB m 16 = true ∨ asksB m 32 = true → ¬m.proto = 6 → m.proto = 17) (hp : asksB m 8 = false → m.proto = 0) : good3 m = true := by
  unfold good3 portsB
  by_cases p6 : m.proto = 6 <;> by_cases p17 : m.proto = 17 <;> cases h16 : asksB m 16 <;> cases h32 : asksB m 32 <;> cases h8 : asksB m 8 <;> simp_all
theorem has_bad (m : SMatch) (c1 c2 c3 c4 c5 c6 : Bool) : (decide (¬ m.asks &&& ~~~ 63 = 0) || decide (¬ addF c6 32 (addF c5 16 (addF c4 8 (addF c3 4 (addF c2 2 (addF c1 1 0))))) &&& ~~~ m.asks = 0)) =
    (decide (63 < m.asks) || (!asksB m 1 && c1) || (!asksB m 2 && c2) || (!asksB m 4 && c3) || (!asksB m 8 && c4) || (!asksB m 16 && c5) || (!asksB m 32 && c6)) := by
  rw [big_asks, addF_dec _ _ _ _ (by decide), addF_dec _ _ _ _ (by decide), addF_dec _ _ _ _ (by decide), addF_dec _ _ _ _ (by decide), addF_dec _ _ _ _ (by decide), addF_dec _ _ _ _ (by decide)]
  have e : decide (¬ (0 : UInt8) &&& ~~~ m.asks = 0) = false := by simp
  rw [e]
  ac_rfl
theorem z72 : (Tryz.prog.info? 72).bind (·.zero) = some (eSpan.val eSpan.zero) := by kernel_rfl
theorem en179 : Gx.Enters Tryz.prog 179 := Gx.Enters.mk' zk
theorem en186 : Gx.Enters Tryz.prog 186 := Gx.Enters.mk' zk
theorem rcheck_ok (m : SMatch) (w : World) : Calls Tryz.prog 157 #[eMatch.val m] w (RetV w (.bool (okM m))) := by
  refine en0 163 Tryz.func157 ?_
  refine sg (cons (box (E := eMatch) (.t rfl) (fun b1 => ?_)))
  refine co (Ev.assign (.c (v := .bool false) rfl)) ?_
  refine nP (sg (co (Ev.buildS (fs := _) (places := [(0, 1), (1, 1)]) z72 rfl Tryz.underlying72 zk .nil Fills.nil) ?_))
  refine cons (alloc z72 (fun b2 => ?_))
  refine cons (stv ty72 (Lens.id _) (.t rfl) (.t rfl) ?_)
  refine nP (seq (draw' zk ?_))
  refine tk 0 rfl (Ev.ldx m ty74 (.t rfl) (Lens.id _)) ?_
  refine tk 2 rfl (Ev.ldx m ty74 (.t rfl) (Lens.id _)) ?_
  refine tk 4 rfl (Ev.ldx m ty74 (.t rfl) (Lens.id _)) ?_
  refine tk 6 rfl (Ev.ldx m ty74 (.t rfl) (Lens.id _)) ?_
  refine tk 8 rfl (Ev.ldx m ty74 (.t rfl) (Lens.id _)) ?_
  refine tk 10 rfl (Ev.ldx m ty74 (.t rfl) (Lens.id _)) ?_
  refine al1 1 rfl ((callv en179 (.cons (.t rfl) (.cons (.c (v := U8 1) rfl) .nil)) (fun w I => rasks_ok _ _ w (by decide)) ?_))
  refine hdn (al1 3 rfl ((callv en179 (.cons (.t rfl) (.cons (.c (v := U8 2) rfl) .nil)) (fun w I => rasks_ok _ _ w (by decide)) ?_)))
  refine hdn (al1 5 rfl ((callv en179 (.cons (.t rfl) (.cons (.c (v := U8 4) rfl) .nil)) (fun w I => rasks_ok _ _ w (by decide)) ?_)))
  refine hdn (al1 7 rfl ((callv en179 (.cons (.t rfl) (.cons (.c (v := U8 8) rfl) .nil)) (fun w I => rasks_ok _ _ w (by decide)) ?_)))
  refine hdn (al1 9 rfl ((callv en179 (.cons (.t rfl) (.cons (.c (v := U8 16) rfl) .nil)) (fun w I => rasks_ok _ _ w (by decide)) ?_)))
  refine hdn (al1 11 rfl ((callv en179 (.cons (.t rfl) (.cons (.c (v := U8 32) rfl) .nil)) (fun w I => rasks_ok _ _ w (by decide)) ?_)))
  refine hdn (tk 12 rfl (Ev.assign (.t rfl)) ?_)
  refine tk 13 rfl (Ev.assign (.t rfl)) ?_
  refine tk 14 rfl (Ev.assign (.t rfl)) ?_
  refine tk 15 rfl (Ev.assign (.t rfl)) ?_
  refine tk 16 rfl (Ev.assign (.t rfl)) ?_
  refine tk 17 rfl (Ev.assign (.t rfl)) ?_
  refine ovr (pN (seq (sg (co (fA 0 (.t rfl)) ?_))))
  refine co (Ev.ldx m.asks ty5 (.t rfl) SMatch.l_asks) ?_
  refine co (Ev.gtr_u8 (.t rfl) (.c (v := U8 63) rfl)) ?_
  refine mv rfl (cg rfl rfl (Ev.move (.t rfl)) ?_)
  refine cg rfl rfl (Ev.not (.g rfl id)) ?_
  refine cg rfl rfl (Ev.move (.g rfl id)) ?_
  refine cg rfl rfl (fA 1 (.t rfl)) ?_
  refine cg rfl rfl (Ev.ldx m.in_ ty72 (.g rfl id) SMatch.l_in_) ?_
  refine cg rfl rfl (Ev.ldv ty72 (.t rfl) (Lens.id _)) ?_
  refine cg rfl rfl (Ev.neqS rfl eqok72 rfl zk (.g rfl id) (.g rfl id)) ?_
  refine cg rfl rfl (Ev.pkA (.g rfl id) rfl) ?_
  refine co (Ev.pkO (.t rfl) rfl) ?_
  refine mv rfl (cg rfl rfl (Ev.move (.t rfl)) ?_)
  refine cg rfl rfl (Ev.not (.g rfl id)) ?_
  refine cg rfl rfl (Ev.move (.g rfl id)) ?_
  refine cg rfl rfl (fA 3 (.t rfl)) ?_
  refine cg rfl rfl (Ev.ldx m.src ty50 (.g rfl id) SMatch.l_src) ?_
  refine cg rfl rfl (Ev.buildS (fs := _) (places := [(0, 17), (17, 1)]) z50 rfl Tryz.underlying50 zk .nil Fills.nil) ?_
  refine cg rfl rfl (Ev.neqS rfl eqok50 rfl zk (.g rfl id) (.g rfl id)) ?_
  refine cg rfl rfl (Ev.pkA (.g rfl id) rfl) ?_
  refine co (Ev.pkO (.t rfl) rfl) ?_
  refine mv rfl (cg rfl rfl (Ev.move (.t rfl)) ?_)
  refine cg rfl rfl (Ev.not (.g rfl id)) ?_
  refine cg rfl rfl (Ev.move (.g rfl id)) ?_
  refine cg rfl rfl (fA 21 (.t rfl)) ?_
  refine cg rfl rfl (Ev.ldx m.dst ty50 (.g rfl id) SMatch.l_dst) ?_
  refine cg rfl rfl (Ev.buildS (fs := _) (places := [(0, 17), (17, 1)]) z50 rfl Tryz.underlying50 zk .nil Fills.nil) ?_
  refine cg rfl rfl (Ev.neqS rfl eqok50 rfl zk (.g rfl id) (.g rfl id)) ?_
  refine cg rfl rfl (Ev.pkA (.g rfl id) rfl) ?_
  refine co (Ev.pkO (.t rfl) rfl) ?_
  refine mv rfl (cg rfl rfl (Ev.move (.t rfl)) ?_)
  refine cg rfl rfl (Ev.not (.g rfl id)) ?_
  refine cg rfl rfl (Ev.move (.g rfl id)) ?_
  refine cg rfl rfl (fA 39 (.t rfl)) ?_
  refine cg rfl rfl (Ev.ldx m.proto ty5 (.g rfl id) SMatch.l_proto) ?_
  refine cg rfl rfl (Ev.neq_u8 (.g rfl id) (.c (v := U8 0) rfl)) ?_
  refine cg rfl rfl (Ev.pkA (.g rfl id) rfl) ?_
  refine co (Ev.pkO (.t rfl) rfl) ?_
  refine mv rfl (cg rfl rfl (Ev.move (.t rfl)) ?_)
  refine cg rfl rfl (Ev.not (.g rfl id)) ?_
  refine cg rfl rfl (Ev.move (.g rfl id)) ?_
  refine cg rfl rfl (fA 40 (.t rfl)) ?_
  refine cg rfl rfl (Ev.ldx m.srcPort ty72 (.g rfl id) SMatch.l_srcPort) ?_
  refine cg rfl rfl (Ev.ldv ty72 (.t rfl) (Lens.id _)) ?_
  refine cg rfl rfl (Ev.neqS rfl eqok72 rfl zk (.g rfl id) (.g rfl id)) ?_
  refine cg rfl rfl (Ev.pkA (.g rfl id) rfl) ?_
  refine co (Ev.pkO (.t rfl) rfl) ?_
  refine mv rfl (cg rfl rfl (Ev.move (.t rfl)) ?_)
  refine cg rfl rfl (Ev.not (.g rfl id)) ?_
  refine cg rfl rfl (Ev.move (.g rfl id)) ?_
  refine cg rfl rfl (fA 42 (.t rfl)) ?_
  refine cg rfl rfl (Ev.ldx m.dstPort ty72 (.g rfl id) SMatch.l_dstPort) ?_
  refine cg rfl rfl (Ev.ldv ty72 (.t rfl) (Lens.id _)) ?_
  refine cg rfl rfl (Ev.neqS rfl eqok72 rfl zk (.g rfl id) (.g rfl id)) ?_
  refine cg rfl rfl (Ev.pkA (.g rfl id) rfl) ?_
  refine co (Ev.pkO (.t rfl) rfl) ?_
  refine nP ?_
  first | refine condD rfl (fun h0 => ?_) (fun h0 => ?_) | refine cond rfl (fun h0 => ?_) (fun h0 => ?_)
  · refine sg (co (Ev.assign (.c (v := .bool false) rfl)) ?_)
    refine nP (ret (pR (done rfl (.tmp rfl .nil) (retE ?_))))
    have hb : bad0 m = true := by simpa [bad0, Bool.or_assoc] using h0
    unfold okM; rw [hb]; rfl
  · refine skip (pN (seq (sg (co (fA 1 (.t rfl)) ?_))))
    refine co (fA 0 (.t rfl)) ?_
    refine co (Ev.ldx m.in_.from_ ty70 (.t rfl) (Lens.comp SMatch.l_in_ SSpan.l_from_)) ?_
    refine co (fA 1 (.t rfl)) ?_
    refine co (fA 1 (.t rfl)) ?_
    refine co (Ev.ldx m.in_.to_ ty70 (.t rfl) (Lens.comp SMatch.l_in_ SSpan.l_to_)) ?_
    refine co (Ev.gtr_u16 (.t rfl) (.t rfl)) ?_
    refine mv rfl (cg rfl rfl (fA 1 (.t rfl)) ?_)
    refine cg rfl rfl (fA 1 (.g rfl id)) ?_
    refine cg rfl rfl (Ev.ldx m.in_.to_ ty70 (.g rfl id) (Lens.comp SMatch.l_in_ SSpan.l_to_)) ?_
    refine cg rfl rfl (Ev.gtr_u16 (.g rfl id) (.c (v := U16 255) rfl)) ?_
    refine co (Ev.pkO (.t rfl) rfl) ?_
    refine mv rfl (cg rfl rfl (fA 40 (.t rfl)) ?_)
    refine cg rfl rfl (fA 0 (.g rfl id)) ?_
    refine cg rfl rfl (Ev.ldx m.srcPort.from_ ty70 (.g rfl id) (Lens.comp SMatch.l_srcPort SSpan.l_from_)) ?_
    refine cg rfl rfl (fA 40 (.t rfl)) ?_
    refine cg rfl rfl (fA 1 (.g rfl id)) ?_
    refine cg rfl rfl (Ev.ldx m.srcPort.to_ ty70 (.g rfl id) (Lens.comp SMatch.l_srcPort SSpan.l_to_)) ?_
    refine cg rfl rfl (Ev.gtr_u16 (.g rfl id) (.g rfl id)) ?_
    refine co (Ev.pkO (.t rfl) rfl) ?_
    refine mv rfl (cg rfl rfl (fA 42 (.t rfl)) ?_)
    refine cg rfl rfl (fA 0 (.g rfl id)) ?_
    refine cg rfl rfl (Ev.ldx m.dstPort.from_ ty70 (.g rfl id) (Lens.comp SMatch.l_dstPort SSpan.l_from_)) ?_
    refine cg rfl rfl (fA 42 (.t rfl)) ?_
    refine cg rfl rfl (fA 1 (.g rfl id)) ?_
    refine cg rfl rfl (Ev.ldx m.dstPort.to_ ty70 (.g rfl id) (Lens.comp SMatch.l_dstPort SSpan.l_to_)) ?_
    refine cg rfl rfl (Ev.gtr_u16 (.g rfl id) (.g rfl id)) ?_
    refine co (Ev.pkO (.t rfl) rfl) ?_
    refine nP ?_
    first | refine condD rfl (fun h1 => ?_) (fun h1 => ?_) | refine cond rfl (fun h1 => ?_) (fun h1 => ?_)
    · refine sg (co (Ev.assign (.c (v := .bool false) rfl)) ?_)
      refine nP (ret (pR (done rfl (.tmp rfl .nil) (retE ?_))))
      have hb : bad1 m = true := by simpa [bad1, or_assoc] using h1
      unfold okM; rw [hb]; simp [tupV]
    · refine skip (pN (seq (sg (mv rfl (mv rfl (cg rfl rfl (fA 3 (.t rfl)) ?_))))))
      refine cg rfl rfl (Ev.ldx m.src ty50 (.g rfl id) SMatch.l_src) ?_
      refine cons (callg rfl rfl en185 (.cons (.g rfl id) .nil) (fun hg w I => rprefix_ok _ w) ?_)
      refine cg rfl rfl (Ev.not (.g rfl id)) ?_
      refine co (Ev.pkA (.t rfl) rfl) ?_
      refine mv rfl (cg rfl rfl (Ev.move (.t rfl)) ?_)
      refine cg rfl rfl (Ev.move (.g rfl id)) ?_
      refine cg rfl rfl (fA 21 (.t rfl)) ?_
      refine cg rfl rfl (Ev.ldx m.dst ty50 (.g rfl id) SMatch.l_dst) ?_
      refine cons (callg rfl rfl en185 (.cons (.g rfl id) .nil) (fun hg w I => rprefix_ok _ w) ?_)
      refine cg rfl rfl (Ev.not (.g rfl id)) ?_
      refine cg rfl rfl (Ev.pkA (.g rfl id) rfl) ?_
      refine co (Ev.pkO (.t rfl) rfl) ?_
      refine mv rfl (cg rfl rfl (Ev.move (.t rfl)) ?_)
      refine cg rfl rfl (Ev.move (.g rfl id)) ?_
      refine cg rfl rfl (Ev.move (.t rfl)) ?_
      refine cg rfl rfl (Ev.pkA (.g rfl id) rfl) ?_
      refine cg rfl rfl (Ev.move (.g rfl id)) ?_
      refine cg rfl rfl (fA 3 (.t rfl)) ?_
      refine cg rfl rfl (fA 0 (.g rfl id)) ?_
      refine cg rfl rfl (fA 0 (.g rfl id)) ?_
      refine cg rfl rfl (Ev.ldx m.src.addr.v6 ty4 (.g rfl id) (Lens.comp (Lens.comp SMatch.l_src SPrefix.l_addr) SAddr.l_v6)) ?_
      refine cg rfl rfl (fA 21 (.t rfl)) ?_
      refine cg rfl rfl (fA 0 (.g rfl id)) ?_
      refine cg rfl rfl (fA 0 (.g rfl id)) ?_
      refine cg rfl rfl (Ev.ldx m.dst.addr.v6 ty4 (.g rfl id) (Lens.comp (Lens.comp SMatch.l_dst SPrefix.l_addr) SAddr.l_v6)) ?_
      refine cg rfl rfl (Ev.neq_b Tryz.underlying4 (.g rfl id) (.g rfl id)) ?_
      refine cg rfl rfl (Ev.pkA (.g rfl id) rfl) ?_
      refine co (Ev.pkO (.t rfl) rfl) ?_
      refine nP ?_
      first | refine condD rfl (fun h2 => ?_) (fun h2 => ?_) | refine cond rfl (fun h2 => ?_) (fun h2 => ?_)
      · refine sg (co (Ev.assign (.c (v := .bool false) rfl)) ?_)
        refine nP (ret (pR (done rfl (.tmp rfl .nil) (retE ?_))))
        have hb : bad2 m = true := by simpa [bad2, or_assoc, and_assoc] using h2
        unfold okM; rw [hb]; simp [tupV]
      · refine skip (pN (sg (mv rfl (co (Ev.not (.t rfl)) ?_))))
        refine mv rfl (cg rfl rfl (Ev.move (.t rfl)) ?_)
        refine cg rfl rfl (Ev.not (.g rfl id)) ?_
        refine co (Ev.pkA (.t rfl) rfl) ?_
        refine mv rfl (cg rfl rfl (Ev.move (.t rfl)) ?_)
        refine cg rfl rfl (Ev.move (.g rfl id)) ?_
        refine cg rfl rfl (fA 39 (.t rfl)) ?_
        refine cg rfl rfl (Ev.ldx m.proto ty5 (.g rfl id) SMatch.l_proto) ?_
        refine cons (callg rfl rfl en186 (.cons (.g rfl id) .nil) (fun hg w I => rports_ok _ w) ?_)
        refine cg rfl rfl (Ev.pkA (.g rfl id) rfl) ?_
        refine co (Ev.pkO (.t rfl) rfl) ?_
        refine asn rfl (nP (ret (done rfl (.tmp rfl .nil) (retE ?_))))
        have b0 : bad0 m = false := by unfold bad0; simpa using h0
        have b1 : bad1 m = false := h1
        have b2 : bad2 m = false := h2
        unfold okM; rw [b0, b1, b2]; simp [good3, tupV]
theorem en153 : Gx.Enters Tryz.prog 153 := Gx.Enters.mk' zk
theorem check_ok (m : SMatch) (w : World) : Calls Tryz.prog 117 #[eMatch.val m] w (RetV w (I (ckM m))) := by
  refine en0 136 Tryz.func117 ?_
  refine sg (cons (box (E := eMatch) (.t rfl) (fun b1 => ?_)))
  refine co (Ev.assign (.c (v := I 0) rfl)) ?_
  refine nP (sg (co (Ev.assign (.c (v := U8 0) rfl)) ?_))
  refine nP (cut (X := UInt8) (fun x : UInt8 => (x = addF (!decide (m.in_ = eSpan.zero)) 1 0)) (fun x : UInt8 => [(1, true, .pointer (some ⟨b1, 0, none⟩)), (3, true, U8 x)]) (fun x : UInt8 => [Var b1 eMatch m 74]) ?_ (fun x hx => ?_))
  · refine sg (co (fA 1 (.t rfl)) ?_)
    refine co (Ev.ldx m.in_ ty72 (.t rfl) SMatch.l_in_) ?_
    refine co (Ev.buildS (fs := _) (places := [(0, 1), (1, 1)]) z72 rfl Tryz.underlying72 zk .nil Fills.nil) ?_
    refine co (Ev.neqS rfl eqok72 rfl zk (.t rfl) (.t rfl)) ?_
    refine nP ?_
    first | refine condD rfl (fun h0 => ?_) (fun h0 => ?_) | refine cond rfl (fun h0 => ?_) (fun h0 => ?_)
    · refine region (mv rfl (co (Ev.or_u8 (.t rfl) (.c (v := U8 1) rfl)) ?_))
      refine asn rfl (nP (mt (X := UInt8) (_) ?_))
      · try dsimp only
        all_goals (unfold addF; first | (simp_all; done) | rfl)
    · refine skip (pN (mt (X := UInt8) (_) ?_))
      · try dsimp only
        all_goals (unfold addF; first | (simp_all; done) | rfl)
  obtain ⟨k1, rfl⟩ : ∃ y, y = x := ⟨x, rfl⟩
  have hk1 : k1 = addF (!decide (m.in_ = eSpan.zero)) 1 0 := hx
  clear hx
  show Sat _ _ [(1, true, .pointer (some ⟨b1, 0, none⟩)), (3, true, U8 k1)] [Var b1 eMatch m 74]
  refine cut (X := UInt8) (fun x : UInt8 => (x = addF (!decide (m.src = ePrefix.zero)) 2 k1)) (fun x : UInt8 => [(1, true, .pointer (some ⟨b1, 0, none⟩)), (3, true, U8 x)]) (fun x : UInt8 => [Var b1 eMatch m 74]) ?_ (fun x hx => ?_)
  · refine sg (co (fA 3 (.t rfl)) ?_)
    refine co (Ev.ldx m.src ty50 (.t rfl) SMatch.l_src) ?_
    refine co (Ev.buildS (fs := _) (places := [(0, 17), (17, 1)]) z50 rfl Tryz.underlying50 zk .nil Fills.nil) ?_
    refine co (Ev.neqS rfl eqok50 rfl zk (.t rfl) (.t rfl)) ?_
    refine nP ?_
    first | refine condD rfl (fun h1 => ?_) (fun h1 => ?_) | refine cond rfl (fun h1 => ?_) (fun h1 => ?_)
    · refine region (mv rfl (co (Ev.or_u8 (.t rfl) (.c (v := U8 2) rfl)) ?_))
      refine asn rfl (nP (mt (X := UInt8) (_) ?_))
      · try dsimp only
        all_goals (unfold addF; first | (simp_all; done) | rfl)
    · refine skip (pN (mt (X := UInt8) (_) ?_))
      · try dsimp only
        all_goals (unfold addF; first | (simp_all; done) | rfl)
  obtain ⟨k2, rfl⟩ : ∃ y, y = x := ⟨x, rfl⟩
  have hk2 : k2 = addF (!decide (m.src = ePrefix.zero)) 2 k1 := hx
  clear hx
  show Sat _ _ [(1, true, .pointer (some ⟨b1, 0, none⟩)), (3, true, U8 k2)] [Var b1 eMatch m 74]
  refine cut (X := UInt8) (fun x : UInt8 => (x = addF (!decide (m.dst = ePrefix.zero)) 4 k2)) (fun x : UInt8 => [(1, true, .pointer (some ⟨b1, 0, none⟩)), (3, true, U8 x)]) (fun x : UInt8 => [Var b1 eMatch m 74]) ?_ (fun x hx => ?_)
  · refine sg (co (fA 21 (.t rfl)) ?_)
    refine co (Ev.ldx m.dst ty50 (.t rfl) SMatch.l_dst) ?_
    refine co (Ev.buildS (fs := _) (places := [(0, 17), (17, 1)]) z50 rfl Tryz.underlying50 zk .nil Fills.nil) ?_
    refine co (Ev.neqS rfl eqok50 rfl zk (.t rfl) (.t rfl)) ?_
    refine nP ?_
    first | refine condD rfl (fun h2 => ?_) (fun h2 => ?_) | refine cond rfl (fun h2 => ?_) (fun h2 => ?_)
    · refine region (mv rfl (co (Ev.or_u8 (.t rfl) (.c (v := U8 4) rfl)) ?_))
      refine asn rfl (nP (mt (X := UInt8) (_) ?_))
      · try dsimp only
        all_goals (unfold addF; first | (simp_all; done) | rfl)
    · refine skip (pN (mt (X := UInt8) (_) ?_))
      · try dsimp only
        all_goals (unfold addF; first | (simp_all; done) | rfl)
  obtain ⟨k3, rfl⟩ : ∃ y, y = x := ⟨x, rfl⟩
  have hk3 : k3 = addF (!decide (m.dst = ePrefix.zero)) 4 k2 := hx
  clear hx
  show Sat _ _ [(1, true, .pointer (some ⟨b1, 0, none⟩)), (3, true, U8 k3)] [Var b1 eMatch m 74]
  refine cut (X := UInt8) (fun x : UInt8 => (x = addF (decide (¬ m.proto = 0)) 8 k3)) (fun x : UInt8 => [(1, true, .pointer (some ⟨b1, 0, none⟩)), (3, true, U8 x)]) (fun x : UInt8 => [Var b1 eMatch m 74]) ?_ (fun x hx => ?_)
  · refine sg (co (fA 39 (.t rfl)) ?_)
    refine co (Ev.ldx m.proto ty5 (.t rfl) SMatch.l_proto) ?_
    refine co (Ev.neq_u8 (.t rfl) (.c (v := U8 0) rfl)) ?_
    refine nP ?_
    first | refine condD rfl (fun h3 => ?_) (fun h3 => ?_) | refine cond rfl (fun h3 => ?_) (fun h3 => ?_)
    · refine region (mv rfl (co (Ev.or_u8 (.t rfl) (.c (v := U8 8) rfl)) ?_))
      refine asn rfl (nP (mt (X := UInt8) (_) ?_))
      · try dsimp only
        all_goals (unfold addF; first | (simp_all; done) | rfl)
    · refine skip (pN (mt (X := UInt8) (_) ?_))
      · try dsimp only
        all_goals (unfold addF; first | (simp_all; done) | rfl)
  obtain ⟨k4, rfl⟩ : ∃ y, y = x := ⟨x, rfl⟩
  have hk4 : k4 = addF (decide (¬ m.proto = 0)) 8 k3 := hx
  clear hx
  show Sat _ _ [(1, true, .pointer (some ⟨b1, 0, none⟩)), (3, true, U8 k4)] [Var b1 eMatch m 74]
  refine cut (X := UInt8) (fun x : UInt8 => (x = addF (!decide (m.srcPort = eSpan.zero)) 16 k4)) (fun x : UInt8 => [(1, true, .pointer (some ⟨b1, 0, none⟩)), (3, true, U8 x)]) (fun x : UInt8 => [Var b1 eMatch m 74]) ?_ (fun x hx => ?_)
  · refine sg (co (fA 40 (.t rfl)) ?_)
    refine co (Ev.ldx m.srcPort ty72 (.t rfl) SMatch.l_srcPort) ?_
    refine co (Ev.buildS (fs := _) (places := [(0, 1), (1, 1)]) z72 rfl Tryz.underlying72 zk .nil Fills.nil) ?_
    refine co (Ev.neqS rfl eqok72 rfl zk (.t rfl) (.t rfl)) ?_
    refine nP ?_
    first | refine condD rfl (fun h4 => ?_) (fun h4 => ?_) | refine cond rfl (fun h4 => ?_) (fun h4 => ?_)
    · refine region (mv rfl (co (Ev.or_u8 (.t rfl) (.c (v := U8 16) rfl)) ?_))
      refine asn rfl (nP (mt (X := UInt8) (_) ?_))
      · try dsimp only
        all_goals (unfold addF; first | (simp_all; done) | rfl)
    · refine skip (pN (mt (X := UInt8) (_) ?_))
      · try dsimp only
        all_goals (unfold addF; first | (simp_all; done) | rfl)
  obtain ⟨k5, rfl⟩ : ∃ y, y = x := ⟨x, rfl⟩
  have hk5 : k5 = addF (!decide (m.srcPort = eSpan.zero)) 16 k4 := hx
  clear hx
  show Sat _ _ [(1, true, .pointer (some ⟨b1, 0, none⟩)), (3, true, U8 k5)] [Var b1 eMatch m 74]
  refine cut (X := UInt8) (fun x : UInt8 => (x = addF (!decide (m.dstPort = eSpan.zero)) 32 k5)) (fun x : UInt8 => [(1, true, .pointer (some ⟨b1, 0, none⟩)), (3, true, U8 x)]) (fun x : UInt8 => [Var b1 eMatch m 74]) ?_ (fun x hx => ?_)
  · refine sg (co (fA 42 (.t rfl)) ?_)
    refine co (Ev.ldx m.dstPort ty72 (.t rfl) SMatch.l_dstPort) ?_
    refine co (Ev.buildS (fs := _) (places := [(0, 1), (1, 1)]) z72 rfl Tryz.underlying72 zk .nil Fills.nil) ?_
    refine co (Ev.neqS rfl eqok72 rfl zk (.t rfl) (.t rfl)) ?_
    refine nP ?_
    first | refine condD rfl (fun h5 => ?_) (fun h5 => ?_) | refine cond rfl (fun h5 => ?_) (fun h5 => ?_)
    · refine region (mv rfl (co (Ev.or_u8 (.t rfl) (.c (v := U8 32) rfl)) ?_))
      refine asn rfl (nP (mt (X := UInt8) (_) ?_))
      · try dsimp only
        all_goals (unfold addF; first | (simp_all; done) | rfl)
    · refine skip (pN (mt (X := UInt8) (_) ?_))
      · try dsimp only
        all_goals (unfold addF; first | (simp_all; done) | rfl)
  obtain ⟨k6, rfl⟩ : ∃ y, y = x := ⟨x, rfl⟩
  have hk6 : k6 = addF (!decide (m.dstPort = eSpan.zero)) 32 k5 := hx
  clear hx
  show Sat _ _ [(1, true, .pointer (some ⟨b1, 0, none⟩)), (3, true, U8 k6)] [Var b1 eMatch m 74]
  refine sg (mv rfl (co (fA 0 (.t rfl)) ?_))
  refine co (Ev.ldx m.asks ty5 (.t rfl) SMatch.l_asks) ?_
  refine co (Ev.andNot_u8 (.t rfl) (.t rfl)) ?_
  refine asn rfl (nP (sg (co (Ev.ldx m ty74 (.t rfl) (Lens.id _)) ?_)))
  refine cons (callv en153 (.cons (.t rfl) (.cons (.c (v := U8 48) rfl) .nil)) (fun w I => asks_ok _ _ w) ?_)
  refine asn rfl (nP (seq (block (sg ?_))))
  have hhb := has_bad m (!decide (m.in_ = eSpan.zero)) (!decide (m.src = ePrefix.zero)) (!decide (m.dst = ePrefix.zero)) (decide (¬ m.proto = 0)) (!decide (m.srcPort = eSpan.zero)) (!decide (m.dstPort = eSpan.zero))
  rw [← hk1, ← hk2, ← hk3, ← hk4, ← hk5, ← hk6] at hhb
  refine co (fA 0 (.t rfl)) ?_
  refine co (Ev.ldx m.asks ty5 (.t rfl) SMatch.l_asks) ?_
  refine co (Ev.andNot_u8 (.t rfl) (.c (v := U8 63) rfl)) ?_
  refine co (Ev.neq_u8 (.t rfl) (.c (v := U8 0) rfl)) ?_
  refine mv rfl (cg rfl rfl (Ev.move (.t rfl)) ?_)
  refine cg rfl rfl (Ev.neq_u8 (.g rfl id) (.c (v := U8 0) rfl)) ?_
  refine co (Ev.pkO (.t rfl) rfl) ?_
  refine asn rfl (nP ?_)
  first | refine condD rfl (fun h6 => ?_) (fun h6 => ?_) | refine cond rfl (fun h6 => ?_) (fun h6 => ?_)
  · refine sg (co (Ev.assign (.c (v := I 190) rfl)) ?_)
    refine nP (ret (bR (pR (done rfl (.tmp rfl .nil) (retE ?_)))))
    have hb : bad0 m = true := hhb.symm.trans h6
    unfold ckM okM; rw [hb]; rfl
  · refine sg (co (fA 1 (.t rfl)) ?_)
    refine co (fA 0 (.t rfl)) ?_
    refine co (Ev.ldx m.in_.from_ ty70 (.t rfl) (Lens.comp SMatch.l_in_ SSpan.l_from_)) ?_
    refine co (fA 1 (.t rfl)) ?_
    refine co (fA 1 (.t rfl)) ?_
    refine co (Ev.ldx m.in_.to_ ty70 (.t rfl) (Lens.comp SMatch.l_in_ SSpan.l_to_)) ?_
    refine co (Ev.gtr_u16 (.t rfl) (.t rfl)) ?_
    refine mv rfl (cg rfl rfl (fA 1 (.t rfl)) ?_)
    refine cg rfl rfl (fA 1 (.g rfl id)) ?_
    refine cg rfl rfl (Ev.ldx m.in_.to_ ty70 (.g rfl id) (Lens.comp SMatch.l_in_ SSpan.l_to_)) ?_
    refine cg rfl rfl (Ev.gtr_u16 (.g rfl id) (.c (v := U16 255) rfl)) ?_
    refine co (Ev.pkO (.t rfl) rfl) ?_
    refine mv rfl (cg rfl rfl (fA 40 (.t rfl)) ?_)
    refine cg rfl rfl (fA 0 (.g rfl id)) ?_
    refine cg rfl rfl (Ev.ldx m.srcPort.from_ ty70 (.g rfl id) (Lens.comp SMatch.l_srcPort SSpan.l_from_)) ?_
    refine cg rfl rfl (fA 40 (.t rfl)) ?_
    refine cg rfl rfl (fA 1 (.g rfl id)) ?_
    refine cg rfl rfl (Ev.ldx m.srcPort.to_ ty70 (.g rfl id) (Lens.comp SMatch.l_srcPort SSpan.l_to_)) ?_
    refine cg rfl rfl (Ev.gtr_u16 (.g rfl id) (.g rfl id)) ?_
    refine co (Ev.pkO (.t rfl) rfl) ?_
    refine mv rfl (cg rfl rfl (fA 42 (.t rfl)) ?_)
    refine cg rfl rfl (fA 0 (.g rfl id)) ?_
    refine cg rfl rfl (Ev.ldx m.dstPort.from_ ty70 (.g rfl id) (Lens.comp SMatch.l_dstPort SSpan.l_from_)) ?_
    refine cg rfl rfl (fA 42 (.t rfl)) ?_
    refine cg rfl rfl (fA 1 (.g rfl id)) ?_
    refine cg rfl rfl (Ev.ldx m.dstPort.to_ ty70 (.g rfl id) (Lens.comp SMatch.l_dstPort SSpan.l_to_)) ?_
    refine cg rfl rfl (Ev.gtr_u16 (.g rfl id) (.g rfl id)) ?_
    refine co (Ev.pkO (.t rfl) rfl) ?_
    refine asn rfl (nP ?_)
    first | refine condD rfl (fun h7 => ?_) (fun h7 => ?_) | refine cond rfl (fun h7 => ?_) (fun h7 => ?_)
    · refine sg (co (Ev.assign (.c (v := I 190) rfl)) ?_)
      refine nP (ret (bR (pR (done rfl (.tmp rfl .nil) (retE ?_)))))
      have hb : bad1 m = true := h7
      unfold ckM okM; rw [hb]; simp [tupV]
    · refine sg (co (Ev.ldx m ty74 (.t rfl) (Lens.id _)) ?_)
      refine cons (callv en153 (.cons (.t rfl) (.cons (.c (v := U8 2) rfl) .nil)) (fun w I => asks_ok _ _ w) ?_)
      refine mv rfl (cg rfl rfl (fA 3 (.t rfl)) ?_)
      refine cg rfl rfl (Ev.ldx m.src ty50 (.g rfl id) SMatch.l_src) ?_
      refine cons (callg rfl rfl en114 (.cons (.g rfl id) .nil) (fun hg w I => checkP_ok _ w) ?_)
      refine cg rfl rfl (Ev.neq_i (.g rfl id) (.c (v := I 0) rfl)) ?_
      refine co (Ev.pkA (.t rfl) rfl) ?_
      refine mv rfl (cg rfl rfl (Ev.ldx m ty74 (.t rfl) (Lens.id _)) ?_)
      refine cons (callg rfl rfl en153 (.cons (.g rfl id) (.cons (.c (v := U8 4) rfl) .nil)) (fun hg w I => asks_ok _ _ w) ?_)
      refine cg rfl rfl (Ev.move (.g rfl id)) ?_
      refine cg rfl rfl (fA 21 (.t rfl)) ?_
      refine cg rfl rfl (Ev.ldx m.dst ty50 (.g rfl id) SMatch.l_dst) ?_
      refine cons (callg rfl rfl en114 (.cons (.g rfl id) .nil) (fun hg w I => checkP_ok _ w) ?_)
      refine cg rfl rfl (Ev.neq_i (.g rfl id) (.c (v := I 0) rfl)) ?_
      refine cg rfl rfl (Ev.pkA (.g rfl id) rfl) ?_
      refine co (Ev.pkO (.t rfl) rfl) ?_
      refine asn rfl (nP ?_)
      first | refine condD rfl (fun h8 => ?_) (fun h8 => ?_) | refine cond rfl (fun h8 => ?_) (fun h8 => ?_)
      · refine sg (co (Ev.assign (.c (v := I 190) rfl)) ?_)
        refine nP (ret (bR (pR (done rfl (.tmp rfl .nil) (retE ?_)))))
        have hb : bad2 m = true := by unfold bad2; simp only [Bool.or_eq_true] at h8 ⊢; left; simpa using h8
        unfold ckM okM; rw [hb]; simp [tupV]
      · refine sg (co (Ev.ldx m ty74 (.t rfl) (Lens.id _)) ?_)
        refine cons (callv en153 (.cons (.t rfl) (.cons (.c (v := U8 2) rfl) .nil)) (fun w I => asks_ok _ _ w) ?_)
        refine mv rfl (cg rfl rfl (Ev.ldx m ty74 (.t rfl) (Lens.id _)) ?_)
        refine cons (callg rfl rfl en153 (.cons (.g rfl id) (.cons (.c (v := U8 4) rfl) .nil)) (fun hg w I => asks_ok _ _ w) ?_)
        refine co (Ev.pkA (.t rfl) rfl) ?_
        refine mv rfl (cg rfl rfl (fA 3 (.t rfl)) ?_)
        refine cg rfl rfl (fA 0 (.g rfl id)) ?_
        refine cg rfl rfl (fA 0 (.g rfl id)) ?_
        refine cg rfl rfl (Ev.ldx m.src.addr.v6 ty4 (.g rfl id) (Lens.comp (Lens.comp SMatch.l_src SPrefix.l_addr) SAddr.l_v6)) ?_
        refine cg rfl rfl (fA 21 (.t rfl)) ?_
        refine cg rfl rfl (fA 0 (.g rfl id)) ?_
        refine cg rfl rfl (fA 0 (.g rfl id)) ?_
        refine cg rfl rfl (Ev.ldx m.dst.addr.v6 ty4 (.g rfl id) (Lens.comp (Lens.comp SMatch.l_dst SPrefix.l_addr) SAddr.l_v6)) ?_
        refine cg rfl rfl (Ev.neq_b Tryz.underlying4 (.g rfl id) (.g rfl id)) ?_
        refine co (Ev.pkA (.t rfl) rfl) ?_
        refine asn rfl (nP ?_)
        first | refine condD rfl (fun h9 => ?_) (fun h9 => ?_) | refine cond rfl (fun h9 => ?_) (fun h9 => ?_)
        · refine sg (co (Ev.assign (.c (v := I 190) rfl)) ?_)
          refine nP (ret (bR (pR (done rfl (.tmp rfl .nil) (retE ?_)))))
          have hb : bad2 m = true := by unfold bad2; simp only [Bool.or_eq_true] at h9 ⊢; right; exact h9
          unfold ckM okM; rw [hb]; simp [tupV]
        · refine sg (mv rfl (mv rfl (cg rfl rfl (fA 39 (.t rfl)) ?_)))
          refine cg rfl rfl (Ev.ldx m.proto ty5 (.g rfl id) SMatch.l_proto) ?_
          refine cg rfl rfl (Ev.neq_u8 (.g rfl id) (.c (v := U8 6) rfl)) ?_
          refine co (Ev.pkA (.t rfl) rfl) ?_
          refine mv rfl (cg rfl rfl (fA 39 (.t rfl)) ?_)
          refine cg rfl rfl (Ev.ldx m.proto ty5 (.g rfl id) SMatch.l_proto) ?_
          refine cg rfl rfl (Ev.neq_u8 (.g rfl id) (.c (v := U8 17) rfl)) ?_
          refine co (Ev.pkA (.t rfl) rfl) ?_
          refine asn rfl (nP ?_)
          first | refine condD rfl (fun h10 => ?_) (fun h10 => ?_) | refine cond rfl (fun h10 => ?_) (fun h10 => ?_)
          · refine sg (co (Ev.assign (.c (v := I 190) rfl)) ?_)
            refine nP (ret (bR (pR (done rfl (.tmp rfl .nil) (retE ?_)))))
            have hb : good3 m = false := by
              rw [asks48] at h10
              simp at h10
              obtain ⟨⟨ha, hb6⟩, hb17⟩ := h10
              unfold good3 portsB
              simp [hb6, hb17]
              intro h16
              simpa [h16] using ha
            unfold ckM okM; rw [hb]; simp [tupV]
          · refine skip (bN (pN (sg (co (Ev.assign (.c (v := I 0) rfl)) ?_))))
            refine nP (ret (done rfl (.tmp rfl .nil) (retE ?_)))
            have b0 : bad0 m = false := hhb.symm.trans h6
            have b1 : bad1 m = false := h7
            have b2 : bad2 m = false := by
              unfold bad2
              simp at h8 h9 ⊢
              exact ⟨h8, h9⟩
            have hp : asksB m 8 = false → m.proto = 0 := by
              unfold bad0 at b0
              simp at b0
              exact b0.1.1.2
            rw [asks48] at h10
            have hg : good3 m = true := good3_of m (by simpa using h10) hp
            unfold ckM okM
            rw [b0, b1, b2, hg]
            rfl
def inM (m : List (ByteArray × Int)) (s : ByteArray) : Bool := (findV eqs s m).isSome
def ruleO (l : CL) (r : SRule) : Bool := if r.action = 3 then !portB l r.out else decide (¬ r.out = 0)
def ruleE (l : CL) (r : SRule) (i : Int) : Int := if nameB r.name = false then 201 else if (findV eqs r.name (rulesM l)).getD 0 < i then 2 else if okM r.match_ = false then 190 else if r.action < 1 ∨ 4 < r.action then 2 else if ruleO l r = true then 5
  else if (r.meter ≠ ⟨#[]⟩ ∧ inM (metersM l) r.meter = false) ∨ (r.mirror ≠ ⟨#[]⟩ ∧ inM (mirrorsM l) r.mirror = false) then 210 else 0
def roomB (n : Int) : Bool := decide (2 ≤ n ∧ n ≤ 1024 ∧ n.toNat &&& (n.toNat - 1) = 0)
def mirrorE (l : CL) (m : SMirrorConf) (i : Int) : Int := if nameB m.name = false then 201 else if (findV eqs m.name (mirrorsM l)).getD 0 < i then 2 else if portB l m.out = false then 5 else if roomB m.room = false then 2 else 0
theorem mirror_ok (k : KB) (l : CL) (m : SMirrorConf) (i : Int) (w : World) (hk : KnownAt w k l) (hs : m.name.size ≤ 9223372036854775807) : Calls Tryz.prog 46 #[eConfKnown.val k.k, eMirrorConf.val m, I i] w (RetV w (I (mirrorE l m i))) := by
  refine en0 44 Tryz.func46 ?_
  refine sg (cons (box (E := eConfKnown) (.t rfl) (fun b1 => ?_)))
  refine cons (box (E := eMirrorConf) (.t rfl) (fun b2 => ?_))
  refine co (Ev.assign (.c (v := I 0) rfl)) ?_
  refine nP (seq (block (sg (co (fA 0 (.t rfl)) ?_))))
  refine co (Ev.ldx m.name ty9 (.t rfl) SMirrorConf.l_name) ?_
  refine cons (callv en116 (.cons (.t rfl) .nil) (fun w I => name_ok _ w hs) ?_)
  refine co (Ev.not (.t rfl)) ?_
  refine asn rfl (nP ?_)
  first | refine condD rfl (fun h0 => ?_) (fun h0 => ?_) | refine cond rfl (fun h0 => ?_) (fun h0 => ?_)
  · try simp only [nb] at h0
    refine sg (co (Ev.assign (.c (v := I 201) rfl)) ?_)
    refine nP (ret (bR (pR (done rfl (.tmp rfl .nil) (retE ?_)))))
    unfold mirrorE; rw [if_pos (by simpa using h0)]; rfl
  · try simp only [nb] at h0
    refine sg (co (fA 4 (.t rfl)) ?_)
    refine co (Ev.ldv ty82 (.t rfl) SConfKnown.l_mirrors) ?_
    refine co (fA 0 (.t rfl)) ?_
    refine co (Ev.ldx m.name ty9 (.t rfl) SMirrorConf.l_name) ?_
    refine co (Ev.lookupF Tryz.underlying82 Tryz.underlying9 key9 z3 (.t rfl) (.t rfl) (fun _ => (fun w I => hk.xs.keep0 I.keeps))) ?_
    refine mv rfl (co (Ev.lss_i (.t rfl) (.t rfl)) ?_)
    refine asn rfl (nP ?_)
    first | refine condD rfl (fun h1 => ?_) (fun h1 => ?_) | refine cond rfl (fun h1 => ?_) (fun h1 => ?_)
    · try simp only [nb] at h1
      refine sg (co (Ev.assign (.c (v := I 2) rfl)) ?_)
      refine nP (ret (bR (pR (done rfl (.tmp rfl .nil) (retE ?_)))))
      unfold mirrorE; rw [if_neg (by simpa using h0), if_pos (by simpa using h1)]; rfl
    · try simp only [nb] at h1
      refine sg (co (Ev.ldv ty84 (.t rfl) (Lens.id _)) ?_)
      refine co (fA 1 (.t rfl)) ?_
      refine co (Ev.ldx m.out ty3 (.t rfl) SMirrorConf.l_out) ?_
      refine cons (callv en115 (.cons (.t rfl) (.cons (.t rfl) .nil)) (fun w I => port_ok _ l _ w (hk.keep0 I.keeps)) ?_)
      refine co (Ev.not (.t rfl)) ?_
      refine asn rfl (nP ?_)
      first | refine condD rfl (fun h2 => ?_) (fun h2 => ?_) | refine cond rfl (fun h2 => ?_) (fun h2 => ?_)
      · try simp only [nb] at h2
        refine sg (co (Ev.assign (.c (v := I 5) rfl)) ?_)
        refine nP (ret (bR (pR (done rfl (.tmp rfl .nil) (retE ?_)))))
        unfold mirrorE; rw [if_neg (by simpa using h0), if_neg (by simpa using h1), if_pos (by simpa using h2)]; rfl
      · try simp only [nb] at h2
        refine sg (co (fA 2 (.t rfl)) ?_)
        refine co (Ev.ldx m.room ty3 (.t rfl) SMirrorConf.l_room) ?_
        refine co (Ev.lss_i (.t rfl) (.c (v := I 2) rfl)) ?_
        refine mv rfl (cg rfl rfl (fA 2 (.t rfl)) ?_)
        refine cg rfl rfl (Ev.ldx m.room ty3 (.g rfl id) SMirrorConf.l_room) ?_
        refine cg rfl rfl (Ev.gtr_i (.g rfl id) (.c (v := I 1024) rfl)) ?_
        refine co (Ev.pkO (.t rfl) rfl) ?_
        refine mv rfl (cg rfl rfl (fA 2 (.t rfl)) ?_)
        refine cg rfl rfl (Ev.ldx m.room ty3 (.g rfl id) SMirrorConf.l_room) ?_
        refine cg rfl rfl (fA 2 (.t rfl)) ?_
        refine cg rfl rfl (Ev.ldx m.room ty3 (.g rfl id) SMirrorConf.l_room) ?_
        refine cg rfl rfl (Ev.sub_i (.g rfl id) (.c (v := I 1) rfl) (fun _ => by first | omega | (rename_i hg; simp at hg; omega))) ?_
        refine cg rfl rfl (Ev.and_n (.g rfl id) (.g rfl id) (fun hg => by simp at hg; omega) (fun hg => by simp at hg; omega)) ?_
        refine cg rfl rfl (Ev.neq_i (.g rfl id) (.c (v := I 0) rfl)) ?_
        refine co (Ev.pkO (.t rfl) rfl) ?_
        refine asn rfl (nP ?_)
        first | refine condD rfl (fun h3 => ?_) (fun h3 => ?_) | refine cond rfl (fun h3 => ?_) (fun h3 => ?_)
        · refine sg (co (Ev.assign (.c (v := I 2) rfl)) ?_)
          refine nP (ret (bR (pR (done rfl (.tmp rfl .nil) (retE ?_)))))
          have hr : roomB m.room = false := by
            unfold roomB
            simp at h3 ⊢
            intro h1 h2
            rcases h3 with (h3 | h3) | h3
            · omega
            · omega
            · exact h3
          unfold mirrorE; rw [if_neg (by simpa using h0), if_neg (by simpa using h1), if_neg (by simpa using h2), if_pos hr]; rfl
        · refine skip (bN (pN (sg (co (Ev.assign (.c (v := I 0) rfl)) ?_))))
          refine nP (ret (done rfl (.tmp rfl .nil) (retE ?_)))
          have hr : roomB m.room = true := by
            unfold roomB
            simp at h3 ⊢
            exact ⟨h3.1.1, h3.1.2, h3.2⟩
          unfold mirrorE; rw [if_neg (by simpa using h0), if_neg (by simpa using h1), if_neg (by simpa using h2), if_neg (by rw [hr]; simp)]; rfl
theorem en117 : Gx.Enters Tryz.prog 117 := Gx.Enters.mk' zk
theorem rule_ok (k : KB) (l : CL) (r : SRule) (i : Int) (w : World) (hk : KnownAt w k l) (hs : r.name.size ≤ 9223372036854775807) : Calls Tryz.prog 42 #[eConfKnown.val k.k, eRule.val r, I i] w (RetV w (I (ruleE l r i))) := by
  refine en0 83 Tryz.func42 ?_
  refine sg (cons (box (E := eConfKnown) (.t rfl) (fun b1 => ?_)))
  refine cons (box (E := eRule) (.t rfl) (fun b2 => ?_))
  refine co (Ev.assign (.c (v := I 0) rfl)) ?_
  refine nP (sg (co (fA 46 (.t rfl)) ?_))
  refine co (Ev.ldx r.out ty3 (.t rfl) SRule.l_out) ?_
  refine co (Ev.eql_i (.t rfl) (.c (v := I 0) rfl)) ?_
  refine asn rfl (nP (cut (X := Bool) (fun x : Bool => ((!x) = ruleO l r)) (fun x : Bool => [(2, true, I i), (3, true, .pointer (some ⟨b1, 0, none⟩)), (4, true, .pointer (some ⟨b2, 0, none⟩)), (7, true, .bool x)]) (fun x : Bool => [Var b2 eRule r 76, Var b1 eConfKnown k.k 84]) ?_ (fun x hx => ?_)))
  · refine sg (co (fA 45 (.t rfl)) ?_)
    refine co (Ev.ldx r.action ty3 (.t rfl) SRule.l_action) ?_
    refine co (Ev.eql_i (.t rfl) (.c (v := I 3) rfl)) ?_
    refine nP ?_
    first | refine condD rfl (fun h0 => ?_) (fun h0 => ?_) | refine cond rfl (fun h0 => ?_) (fun h0 => ?_)
    · refine region (co (Ev.ldv ty84 (.t rfl) (Lens.id _)) ?_)
      refine co (fA 46 (.t rfl)) ?_
      refine co (Ev.ldx r.out ty3 (.t rfl) SRule.l_out) ?_
      refine cons (callv en115 (.cons (.t rfl) (.cons (.t rfl) .nil)) (fun w I => port_ok _ l _ w (hk.keep0 I.keeps)) ?_)
      refine asn rfl (nP (mt (X := Bool) (_) ?_))
      · try dsimp only
        unfold ruleO; simp_all
    · refine skip (pN (mt (X := Bool) (_) ?_))
      · try dsimp only
        unfold ruleO; simp_all
  obtain ⟨out, rfl⟩ : ∃ y, y = x := ⟨x, rfl⟩
  have hout : (!out) = ruleO l r := hx
  clear hx
  show Sat _ _ [(2, true, I i), (3, true, .pointer (some ⟨b1, 0, none⟩)), (4, true, .pointer (some ⟨b2, 0, none⟩)), (7, true, .bool out)] [Var b2 eRule r 76, Var b1 eConfKnown k.k 84]
  refine sg (co (fA 3 (.t rfl)) ?_)
  refine co (Ev.ldv ty82 (.t rfl) SConfKnown.l_meters) ?_
  refine co (fA 47 (.t rfl)) ?_
  refine co (Ev.ldx r.meter ty9 (.t rfl) SRule.l_meter) ?_
  refine co (Ev.lookupT Tryz.underlying82 Tryz.underlying9 key9 z3 (.t rfl) (.t rfl) (fun _ => (fun w I => hk.ms.keep0 I.keeps))) ?_
  refine mv rfl (co (Ev.extract (.t rfl) rfl) (co (Ev.extract (.t rfl) rfl) (asn rfl (asn rfl (nP (sg (co (fA 4 (.t rfl)) ?_)))))))
  refine co (Ev.ldv ty82 (.t rfl) SConfKnown.l_mirrors) ?_
  refine co (fA 48 (.t rfl)) ?_
  refine co (Ev.ldx r.mirror ty9 (.t rfl) SRule.l_mirror) ?_
  refine co (Ev.lookupT Tryz.underlying82 Tryz.underlying9 key9 z3 (.t rfl) (.t rfl) (fun _ => (fun w I => hk.xs.keep0 I.keeps))) ?_
  refine mv rfl (co (Ev.extract (.t rfl) rfl) (co (Ev.extract (.t rfl) rfl) (asn rfl (asn rfl (nP (seq (block (sg (co (fA 0 (.t rfl)) ?_)))))))))
  refine co (Ev.ldx r.name ty9 (.t rfl) SRule.l_name) ?_
  refine cons (callv en116 (.cons (.t rfl) .nil) (fun w I => name_ok _ w hs) ?_)
  refine co (Ev.not (.t rfl)) ?_
  refine asn rfl (nP ?_)
  first | refine condD rfl (fun h1 => ?_) (fun h1 => ?_) | refine cond rfl (fun h1 => ?_) (fun h1 => ?_)
  · refine sg (co (Ev.assign (.c (v := I 201) rfl)) ?_)
    refine nP (ret (bR (pR (done rfl (.tmp rfl .nil) (retE ?_)))))
    have p1 : nameB r.name = false := by simpa using h1
    unfold ruleE
    rw [if_pos p1]
    rfl
  · refine sg (co (fA 2 (.t rfl)) ?_)
    refine co (Ev.ldv ty82 (.t rfl) SConfKnown.l_rules) ?_
    refine co (fA 0 (.t rfl)) ?_
    refine co (Ev.ldx r.name ty9 (.t rfl) SRule.l_name) ?_
    refine co (Ev.lookupF Tryz.underlying82 Tryz.underlying9 key9 z3 (.t rfl) (.t rfl) (fun _ => (fun w I => hk.us.keep0 I.keeps))) ?_
    refine mv rfl (co (Ev.lss_i (.t rfl) (.t rfl)) ?_)
    refine asn rfl (nP ?_)
    first | refine condD rfl (fun h2 => ?_) (fun h2 => ?_) | refine cond rfl (fun h2 => ?_) (fun h2 => ?_)
    · refine sg (co (Ev.assign (.c (v := I 2) rfl)) ?_)
      refine nP (ret (bR (pR (done rfl (.tmp rfl .nil) (retE ?_)))))
      have n1 : ¬ (nameB r.name = false) := by simpa using h1
      have p2 : (findV eqs r.name (rulesM l)).getD 0 < i := by simpa using h2
      unfold ruleE
      rw [if_neg n1, if_pos p2]
      rfl
    · refine sg (co (fA 1 (.t rfl)) ?_)
      refine co (Ev.ldx r.match_ ty74 (.t rfl) SRule.l_match_) ?_
      refine cons (callv en117 (.cons (.t rfl) .nil) (fun w I => check_ok _ w) ?_)
      refine co (Ev.neq_i (.t rfl) (.c (v := I 0) rfl)) ?_
      refine asn rfl (nP ?_)
      first | refine condD rfl (fun h3 => ?_) (fun h3 => ?_) | refine cond rfl (fun h3 => ?_) (fun h3 => ?_)
      · refine sg (co (Ev.assign (.c (v := I 190) rfl)) ?_)
        refine nP (ret (bR (pR (done rfl (.tmp rfl .nil) (retE ?_)))))
        have n1 : ¬ (nameB r.name = false) := by simpa using h1
        have n2 : ¬ ((findV eqs r.name (rulesM l)).getD 0 < i) := by simpa using h2
        have p3 : okM r.match_ = false := by
          have h3c : decide (ckM r.match_ = 0) = false := by simpa using h3
          rwa [ckM_zero] at h3c
        unfold ruleE
        rw [if_neg n1, if_neg n2, if_pos p3]
        rfl
      · refine sg (co (fA 45 (.t rfl)) ?_)
        refine co (Ev.ldx r.action ty3 (.t rfl) SRule.l_action) ?_
        refine co (Ev.lss_i (.t rfl) (.c (v := I 1) rfl)) ?_
        refine mv rfl (cg rfl rfl (fA 45 (.t rfl)) ?_)
        refine cg rfl rfl (Ev.ldx r.action ty3 (.g rfl id) SRule.l_action) ?_
        refine cg rfl rfl (Ev.gtr_i (.g rfl id) (.c (v := I 4) rfl)) ?_
        refine co (Ev.pkO (.t rfl) rfl) ?_
        refine asn rfl (nP ?_)
        first | refine condD rfl (fun h4 => ?_) (fun h4 => ?_) | refine cond rfl (fun h4 => ?_) (fun h4 => ?_)
        · refine sg (co (Ev.assign (.c (v := I 2) rfl)) ?_)
          refine nP (ret (bR (pR (done rfl (.tmp rfl .nil) (retE ?_)))))
          have n1 : ¬ (nameB r.name = false) := by simpa using h1
          have n2 : ¬ ((findV eqs r.name (rulesM l)).getD 0 < i) := by simpa using h2
          have n3 : ¬ okM r.match_ = false := by
            have h3c : decide (ckM r.match_ = 0) = true := by simpa using h3
            rw [ckM_zero] at h3c
            rw [h3c]; simp
          have p4 : r.action < 1 ∨ 4 < r.action := by simpa using h4
          unfold ruleE
          rw [if_neg n1, if_neg n2, if_neg n3, if_pos p4]
          rfl
        · refine sg (mv rfl (co (Ev.not (.t rfl)) ?_))
          refine asn rfl (nP ?_)
          first | refine condD rfl (fun h5 => ?_) (fun h5 => ?_) | refine cond rfl (fun h5 => ?_) (fun h5 => ?_)
          · refine sg (co (Ev.assign (.c (v := I 5) rfl)) ?_)
            refine nP (ret (bR (pR (done rfl (.tmp rfl .nil) (retE ?_)))))
            have n1 : ¬ (nameB r.name = false) := by simpa using h1
            have n2 : ¬ ((findV eqs r.name (rulesM l)).getD 0 < i) := by simpa using h2
            have n3 : ¬ okM r.match_ = false := by
              have h3c : decide (ckM r.match_ = 0) = true := by simpa using h3
              rw [ckM_zero] at h3c
              rw [h3c]; simp
            have n4 : ¬ (r.action < 1 ∨ 4 < r.action) := by simpa using h4
            have p5 : ruleO l r = true := by
              rw [← hout]; simpa using h5
            unfold ruleE
            rw [if_neg n1, if_neg n2, if_neg n3, if_neg n4, if_pos p5]
            rfl
          · refine seq (sg (co (fA 47 (.t rfl)) ?_))
            refine co (Ev.ldx r.meter ty9 (.t rfl) SRule.l_meter) ?_
            refine co (Ev.neq_s (.t rfl) (.c (v := (Go.Value.string (ByteArray.mk #[]))) rfl)) ?_
            refine mv rfl (cg rfl rfl (Ev.move (.t rfl)) ?_)
            refine cg rfl rfl (Ev.not (.g rfl id)) ?_
            refine co (Ev.pkA (.t rfl) rfl) ?_
            refine asn rfl (nP ?_)
            first | refine condD rfl (fun h6 => ?_) (fun h6 => ?_) | refine cond rfl (fun h6 => ?_) (fun h6 => ?_)
            · refine skip (pN ?_)
              first | refine condD rfl (fun h7 => ?_) (fun h7 => ?_) | refine cond rfl (fun h7 => ?_) (fun h7 => ?_)
              · refine sg (co (Ev.assign (.c (v := I 210) rfl)) ?_)
                refine nP (ret (bR (pR (done rfl (.tmp rfl .nil) (retE ?_)))))
                have n1 : ¬ (nameB r.name = false) := by simpa using h1
                have n2 : ¬ ((findV eqs r.name (rulesM l)).getD 0 < i) := by simpa using h2
                have n3 : ¬ okM r.match_ = false := by
                  have h3c : decide (ckM r.match_ = 0) = true := by simpa using h3
                  rw [ckM_zero] at h3c
                  rw [h3c]; simp
                have n4 : ¬ (r.action < 1 ∨ 4 < r.action) := by simpa using h4
                have n5 : ¬ ruleO l r = true := by
                  rw [← hout]; simpa using h5
                have p6 : (r.meter ≠ ⟨#[]⟩ ∧ inM (metersM l) r.meter = false) ∨ (r.mirror ≠ ⟨#[]⟩ ∧ inM (mirrorsM l) r.mirror = false) := by
                  unfold inM
                  simp_all
                unfold ruleE
                rw [if_neg n1, if_neg n2, if_neg n3, if_neg n4, if_neg n5, if_pos p6]
                rfl
              · refine skip (bN (pN (sg (co (Ev.assign (.c (v := I 0) rfl)) ?_))))
                refine nP (ret (done rfl (.tmp rfl .nil) (retE ?_)))
                have n1 : ¬ (nameB r.name = false) := by simpa using h1
                have n2 : ¬ ((findV eqs r.name (rulesM l)).getD 0 < i) := by simpa using h2
                have n3 : ¬ okM r.match_ = false := by
                  have h3c : decide (ckM r.match_ = 0) = true := by simpa using h3
                  rw [ckM_zero] at h3c
                  rw [h3c]; simp
                have n4 : ¬ (r.action < 1 ∨ 4 < r.action) := by simpa using h4
                have n5 : ¬ ruleO l r = true := by
                  rw [← hout]; simpa using h5
                have n6 : ¬ ((r.meter ≠ ⟨#[]⟩ ∧ inM (metersM l) r.meter = false) ∨ (r.mirror ≠ ⟨#[]⟩ ∧ inM (mirrorsM l) r.mirror = false)) := by
                  unfold inM
                  first
                    | (exfalso; simp_all; done)
                    | (simp at h6 h7
                       rintro (⟨a, b⟩ | ⟨a, b⟩)
                       · rw [h6 a] at b; cases b
                       · rw [h7 a] at b; cases b)
                unfold ruleE
                rw [if_neg n1, if_neg n2, if_neg n3, if_neg n4, if_neg n5, if_neg n6]
                rfl
            · refine region (co (fA 48 (.t rfl)) ?_)
              refine co (Ev.ldx r.mirror ty9 (.t rfl) SRule.l_mirror) ?_
              refine co (Ev.neq_s (.t rfl) (.c (v := (Go.Value.string (ByteArray.mk #[]))) rfl)) ?_
              refine mv rfl (cg rfl rfl (Ev.move (.t rfl)) ?_)
              refine cg rfl rfl (Ev.not (.g rfl id)) ?_
              refine co (Ev.pkA (.t rfl) rfl) ?_
              refine asn rfl (nP ?_)
              first | refine condD rfl (fun h7 => ?_) (fun h7 => ?_) | refine cond rfl (fun h7 => ?_) (fun h7 => ?_)
              · refine sg (co (Ev.assign (.c (v := I 210) rfl)) ?_)
                refine nP (ret (bR (pR (done rfl (.tmp rfl .nil) (retE ?_)))))
                have n1 : ¬ (nameB r.name = false) := by simpa using h1
                have n2 : ¬ ((findV eqs r.name (rulesM l)).getD 0 < i) := by simpa using h2
                have n3 : ¬ okM r.match_ = false := by
                  have h3c : decide (ckM r.match_ = 0) = true := by simpa using h3
                  rw [ckM_zero] at h3c
                  rw [h3c]; simp
                have n4 : ¬ (r.action < 1 ∨ 4 < r.action) := by simpa using h4
                have n5 : ¬ ruleO l r = true := by
                  rw [← hout]; simpa using h5
                have p6 : (r.meter ≠ ⟨#[]⟩ ∧ inM (metersM l) r.meter = false) ∨ (r.mirror ≠ ⟨#[]⟩ ∧ inM (mirrorsM l) r.mirror = false) := by
                  unfold inM
                  simp_all
                unfold ruleE
                rw [if_neg n1, if_neg n2, if_neg n3, if_neg n4, if_neg n5, if_pos p6]
                rfl
              · refine skip (bN (pN (sg (co (Ev.assign (.c (v := I 0) rfl)) ?_))))
                refine nP (ret (done rfl (.tmp rfl .nil) (retE ?_)))
                have n1 : ¬ (nameB r.name = false) := by simpa using h1
                have n2 : ¬ ((findV eqs r.name (rulesM l)).getD 0 < i) := by simpa using h2
                have n3 : ¬ okM r.match_ = false := by
                  have h3c : decide (ckM r.match_ = 0) = true := by simpa using h3
                  rw [ckM_zero] at h3c
                  rw [h3c]; simp
                have n4 : ¬ (r.action < 1 ∨ 4 < r.action) := by simpa using h4
                have n5 : ¬ ruleO l r = true := by
                  rw [← hout]; simpa using h5
                have n6 : ¬ ((r.meter ≠ ⟨#[]⟩ ∧ inM (metersM l) r.meter = false) ∨ (r.mirror ≠ ⟨#[]⟩ ∧ inM (mirrorsM l) r.mirror = false)) := by
                  unfold inM
                  first
                    | (exfalso; simp_all; done)
                    | (simp at h6 h7
                       rintro (⟨a, b⟩ | ⟨a, b⟩)
                       · rw [h6 a] at b; cases b
                       · rw [h7 a] at b; cases b)
                unfold ruleE
                rw [if_neg n1, if_neg n2, if_neg n3, if_neg n4, if_neg n5, if_neg n6]
                rfl
end Go.Proofs.YtnoobdijbpmjkaaGreat
