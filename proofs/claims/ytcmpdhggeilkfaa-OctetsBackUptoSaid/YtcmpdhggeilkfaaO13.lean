/- octets -/
import Derived.Test.YtcmpdhggeilkfaaO12
set_option linter.unusedVariables false
set_option linter.unusedSimpArgs false
namespace Go.Proofs.Ytcmpdhggeilkfaa
open Go Go.Gx

theorem zb22 : (Try.prog.info? 22).map (fun i => (i.zero, i.bytes)) = some (some ((ovE nilSl).val (ovE nilSl).zero), 24) := by kernel_rfl

theorem zs22 : ((ovE nilSl).val (ovE nilSl).zero).cells.size = (ovE nilSl).size := by rw [Enc.cells_val, List.size_toArray, Enc.len]

/-- Slices of bytes that hold their length of what is owned. -/
def insL : List OV → List (List UInt8) → List OV
  | o :: os, xs :: xss => OV.sub u8E.size o 0 xs.length :: insL os xss
  | _, _ => []
theorem insL_length : ∀ {os : List OV} {xss : List (List UInt8)}, os.length = xss.length → (insL os xss).length = xss.length
  | [], [], _ => rfl
  | o :: os, xs :: xss, h => by simp [insL, insL_length (os := os) (xss := xss) (by simpa using h)]
  | [], _ :: _, h => by simp at h
  | _ :: _, [], h => by simp at h
theorem insL_snoc : ∀ {os : List OV} {xss : List (List UInt8)} (o : OV) (xs : List UInt8), os.length = xss.length → insL (os ++ [o]) (xss ++ [xs]) = insL os xss ++ [OV.sub u8E.size o 0 xs.length]
  | [], [], _, _, _ => rfl
  | o :: os, xs :: xss, o', xs', h => by simp [insL, insL_snoc (os := os) (xss := xss) o' xs' (by simpa using h)]
  | [], _ :: _, _, _, h => by simp at h
  | _ :: _, [], _, _, h => by simp at h
theorem insL_get : ∀ {os : List OV} {xss : List (List UInt8)} (i : Nat), os.length = xss.length → i < xss.length → (insL os xss).getD i nilSl = OV.sub u8E.size (os.getD i nilSl) 0 (xss.getD i []).length
  | o :: os, xs :: xss, 0, _, _ => rfl
  | o :: os, xs :: xss, i + 1, h, hi => by
    have := insL_get (os := os) (xss := xss) i (by simpa using h) (by simpa using hi)
    simpa [insL, List.getD] using this
  | [], [], _, _, h => by simp at h
  | [], _ :: _, _, h, _ => by simp at h
  | _ :: _, [], _, h, _ => by simp at h
theorem map_marks (xss : List (List UInt8)) (i : Nat) (h : i < xss.length) : (xss.map (· ++ marks)).getD i [] = xss.getD i [] ++ marks := by simp [List.getD, h]
theorem isSS_ins {K : Ctx} {L : List Res} {o : OV} {os : List OV} {xss : List (List UInt8)} {T T' : TypeId} (h : os.length = xss.length) (hr : ∀ r ∈ rowsR u8E T os (xss.map (· ++ marks)), r ∈ L) (ho : OwnS o.v (ovE nilSl) (insL os xss) T' ∈ L) (w : World) (I : WInv K L w) : IsSS u8E w o.v xss := by
  refine ⟨insL os xss, isSl_own ho w I, insL_length h, fun i hi => ?_⟩
  rw [insL_get i h hi]
  exact IsSl.head (isSl_rows' (map_marks xss i hi) (by omega) (by simpa using hi) hr w I)
theorem len_flat : ∀ (xss : List (List UInt8)) (i : Nat), i < xss.length → (xss.getD i []).length ≤ xss.flatten.length
  | xs :: xss, 0, _ => by simp [List.getD]
  | xs :: xss, i + 1, h => by
    have := len_flat xss i (by simpa using h)
    simp only [List.flatten_cons, List.length_append]
    have e : (xs :: xss).getD (i + 1) [] = xss.getD i [] := by simp [List.getD]
    rw [e]
    omega
  | [], _, h => by simp at h
/-- Slices of slices, and the bound of the narrower form. -/
theorem rows_bulk {E : Enc UInt8} {Q : Kn UInt8} {w : World} {H : Type} : ∀ (vs : List OV) (ds : List (DataW H)), vs.length = ds.length → (∀ i (h1 : i < vs.length) (h2 : i < ds.length), SlQ E Q w vs[i] H ds[i]) →
    ∃ xss : List (List UInt8), vs.length = xss.length ∧ (∀ i, i < xss.length → IsSl E w (vs.getD i nilSl).v (xss.getD i [])) ∧ xss.flatten.length + xss.length ≤ Rows.uptoBulkAll ds
  | [], [], _, _ => ⟨[], rfl, fun i h => absurd h (Nat.not_lt_zero _), by simp⟩
  | v :: vs, d :: ds, h, hq => by
    obtain ⟨xss, h1, h2, h3⟩ := rows_bulk vs ds (by simpa using h) (fun i h1 h2 => hq (i + 1) (by simp; omega) (by simp; omega))
    obtain ⟨xs, es, g1, g2, g3, _⟩ := hq 0 (by simp) (by simp)
    refine ⟨xs :: xss, by simp [h1], fun i hi => ?_, ?_⟩
    · cases i with
      | zero => exact g1
      | succ i => simpa [List.getD] using h2 i (by simpa using hi)
    · have g4 := g2.bulk
      have g5 := bulk_len es
      simp only [List.flatten_cons, List.length_append, List.length_cons, Rows.uptoBulkAll, List.getElem_cons_zero] at *
      omega
  | [], _ :: _, h, _ => by simp at h
  | _ :: _, [], h, _ => by simp at h
theorem SlQ.rows {E : Enc UInt8} {Q : Kn UInt8} {w : World} {o : OV} {H : Type} {d : DataW H} (h : SlQ (ovE nilSl) (SlQ E Q) w o H d) : ∃ xss, IsSS E w o.v xss ∧ xss.flatten.length + xss.length + 1 ≤ Rows.uptoBulk d := by
  obtain ⟨vs, ds, h1, h2, h3, h4⟩ := h
  obtain ⟨xss, g1, g2, g3⟩ := rows_bulk vs ds h3 h4
  have g4 := h2.bulk
  exact ⟨xss, ⟨vs, h1, g1, g2⟩, by omega⟩

theorem en30 : Enters Try.prog 30 := Enters.mk' (by kernel_rfl)

theorem en32 : Enters Try.prog 32 := Enters.mk' (by kernel_rfl)

theorem OctetsSums_walk (u : Value) (xss : List (List UInt8)) (w : World) (hs : IsSS u8E w u xss) (hl : xss.flatten.length + xss.length ≤ 1048576) : Calls Try.prog 5 #[u] w (RetV w (.bool true)) := by
  obtain ⟨vs, hvs, hvl, he⟩ := hs
  have hvle := hvs.le
  refine enter0 52 Try.func5 rfl rfl (Nat.le_of_ble_eq_true rfl) ?_
  refine seq ?_
  refine region ?_
  refine cons (opv (Ev.assign (.c (v := .bool false) rfl)) ?_)
  refine nil ?_
  refine pN ?_
  refine seq ?_
  refine region ?_
  refine cons (opv (Ev.assign (.c (v := (Go.Value.slice none 0 0)) rfl)) ?_)
  refine takeNil (ovE nilSl) 22 ?_
  refine nil ?_
  refine pN ?_
  refine seq ?_
  refine seq ?_
  refine region ?_
  refine cons (opv (Ev.assign (.c (v := I 0) rfl)) ?_)
  refine nil ?_
  refine pN ?_
  refine block ?_
  refine loop (X := Int × OV × (List OV)) (fun x : Int × OV × (List OV) => (0 ≤ x.1 ∧ x.1 ≤ xss.length) ∧ ((x.2.2.length : Int) = x.1)) (fun x : Int × OV × (List OV) => [(0, true, u), (3, true, x.2.1.v), (4, true, I x.1)]) (fun x : Int × OV × (List OV) => (rowsR u8E 5 x.2.2 ((xss.take x.1.toNat).map (· ++ marks)) ++ [OwnS x.2.1.v (ovE nilSl) (insL x.2.2 (xss.take x.1.toNat)) 22])) (fun x : Int × OV × (List OV) => (xss.length - x.1).toNat) (0, nilSl, []) ⟨?_, ?_⟩ (by repeat first | exact Sub.nil | refine Sub.cons rfl ?_) (by repeat first | exact List.Sublist.refl _ | apply List.Sublist.cons_cons | apply List.Sublist.cons) (fun x hx => ?_)
  · omega
  · rfl
  obtain ⟨i, o, os⟩ := x
  obtain ⟨hi, hos⟩ : (0 ≤ i ∧ i ≤ xss.length) ∧ ((os.length : Int) = i) := hx
  show Sat _ _ [(0, true, u), (3, true, o.v), (4, true, I i)] (rowsR u8E 5 os ((xss.take i.toNat).map (· ++ marks)) ++ [OwnS o.v (ovE nilSl) (insL os (xss.take i.toNat)) 22])
  refine seq ?_
  refine seq ?_
  refine region ?_
  refine cons (opv (Ev.move (.t rfl)) ?_)
  refine cons (opv (Ev.move (.t rfl)) ?_)
  refine cons (opv (Ev.len Try.underlying33 (.t rfl) (fun w I => hvs.keep0 I.keeps)) ?_)
  refine cons (opv (Ev.lss_i (.t rfl) (.t rfl)) ?_)
  refine nil ?_
  refine pN ?_
  first | refine condD rfl (fun hlt => ?_) (fun hge => ?_) | refine cond rfl (fun hlt => ?_) (fun hge => ?_)
  · try simp only [Bool.and_eq_true, Bool.or_eq_true, Bool.or_eq_false_iff, Bool.and_eq_false_iff, Bool.not_eq_true', Bool.not_eq_false', decide_eq_true_eq, decide_eq_false_iff_not, Decidable.not_not] at hlt
    refine skip ?_
    refine pN ?_
    refine seq ?_
    refine block ?_
    refine region ?_
    have htk : xss.take (i + 1).toNat = xss.take i.toNat ++ [xss.getD i.toNat []] := take_snoc xss i hi.1 (by omega) []
    have hx := he i.toNat (by omega)
    have hxf := len_flat xss i.toNat (by omega)
    change IsSl u8E w (vs.getD i.toNat nilSl).v _ at hx
    generalize xss.getD i.toNat [] = xs at hx htk hxf
    refine cons (opv (Ev.move (.t rfl)) ?_)
    refine cons (opv (Ev.move (.t rfl)) ?_)
    refine cons (opv (Ev.move (.t rfl)) ?_)
    refine cons (opv (Ev.indexAddr Try.underlying33 ty22 (.t rfl) (.t rfl) (fun w I => hvs.keep0 I.keeps) (fun _ => by omega)) ?_)
    refine cons (opv (Ev.loadS0 ty22 (.t rfl) (fun w I => hvs.keep0 I.keeps) (fun _ => by omega)) ?_)
    refine cons (calln (X := OV) (fun _ => True) (fun o => (OV.sub u8E.size o 0 xs.length).v) (fun o => [OwnS o.v u8E (xs ++ marks) 5]) en12 (.cons (.t rfl) .nil) (fun w I => spare_ok _ _ w (hx.keep0 I.keeps) (by omega)) (fun in1 _ => ?_))
    change Sat _ _ _ (OwnS in1.v u8E (xs ++ marks) 5 :: (rowsR u8E 5 os ((xss.take i.toNat).map (· ++ marks)) ++ [OwnS o.v (ovE nilSl) (insL os (xss.take i.toNat)) 22]))
    refine cons (buildSlice (E := (ovE nilSl)) Try.underlying33 ty22 z22 (.cons (.t rfl) .nil) rfl rfl (fun v1 => ?_))
    refine cons (append (E := (ovE nilSl)) Try.underlying33 ty22 rfl zb22 zs22 (.t rfl) (.t rfl) (fun _ => Upd.tail (Upd.tail (Upd.right Upd.head))) (isSl_own (by repeat first | exact List.Mem.head _ | apply List.Mem.tail)) ⟨by (show _ ≤ 9223372036854775807); rw [insL_length (by simp; omega)]; simp; omega, by rw [insL_length (by simp; omega)]; simp; omega⟩ (fun v9 => ?_))
    refine cons (opv (Ev.assign (.t rfl)) ?_)
    refine nil ?_
    refine bN ?_
    refine pN ?_
    refine region ?_
    refine cons (opv (Ev.move (.t rfl)) ?_)
    refine cons (opv (Ev.add_i (.t rfl) (.c (v := I 1) rfl) (fun _ => by omega)) ?_)
    refine cons (opv (Ev.assign (.t rfl)) ?_)
    refine nil ?_
    refine pN ?_
    refine next (X := Int × OV × (List OV)) (i + 1, _, os ++ [in1]) ⟨?_, ?_⟩ ?_ (by repeat first | exact Sub.nil | refine Sub.cons rfl ?_) (by dsimp only; rw [htk, List.map_append, List.map_cons, List.map_nil, rowsR_snoc _ _ (by simp; omega), insL_snoc _ _ (by simp; omega)]; exact List.Sublist.cons _ (List.Sublist.refl _))
    · try dsimp only
      omega
    · try dsimp only
      simp; omega
    · try dsimp only
      omega
  · try simp only [Bool.and_eq_true, Bool.or_eq_true, Bool.or_eq_false_iff, Bool.and_eq_false_iff, Bool.not_eq_true', Bool.not_eq_false', decide_eq_true_eq, decide_eq_false_iff_not, Decidable.not_not] at hge
    refine exit ?_
    refine pX ?_
    refine pX ?_
    refine bX ?_
    refine pN ?_
    refine seq ?_
    refine region ?_
    have et : xss.take i.toNat = xss := List.take_of_length_le (by omega)
    rw [et]
    replace hos : os.length = xss.length := by omega
    refine cons (opv (Ev.move (.t rfl)) ?_)
    refine cons (callo en19 (.cons (.t rfl) .nil) (fun w I => join_ok _ xss w ⟨vs, hvs.keep0 I.keeps, hvl, fun k hk => (he k hk).keep0 I.keeps⟩ (by omega)) (fun v2 => ?_))
    refine cons (opv (Ev.assign (.t rfl)) ?_)
    refine nil ?_
    refine pN ?_
    refine seq ?_
    refine seq ?_
    refine region ?_
    refine cons (opv (Ev.move (.t rfl)) ?_)
    refine cons (callv en29 (.cons (.t rfl) .nil) (fun w I => sum_ok _ xss w (isSS_ins hos (fun r hr => by repeat first | exact List.mem_append_left _ hr | apply List.Mem.tail) (by repeat first | exact List.mem_append_right _ (List.Mem.head _) | apply List.Mem.tail) w I)) ?_)
    refine cons (opv (Ev.move (.t rfl)) ?_)
    refine cons (callv en30 (.cons (.t rfl) .nil) (fun w I => rsum_ok _ _ w (by first | exact isSl_own (by repeat first | exact List.Mem.head _ | apply List.Mem.tail) w I | exact IsSl.keep0 (by assumption) I.keeps)) ?_)
    refine cons (opv (Ev.to (v' := .bool false) (Ev.neq_u16 (.t rfl) (.t rfl)) (by simp)) ?_)
    refine cons (opv (Ev.to (v' := .bool false) (Ev.move (.t rfl)) (rfl)) ?_)
    refine cons (opg rfl rfl (Ev.move (.t rfl)) ?_)
    refine cons (callg rfl rfl en31 (.cons (.g rfl id) .nil) (fun hg w I => hash_ok _ xss w (isSS_ins hos (fun r hr => by repeat first | exact List.mem_append_left _ hr | apply List.Mem.tail) (by repeat first | exact List.mem_append_right _ (List.Mem.head _) | apply List.Mem.tail) w I)) ?_)
    refine cons (opg rfl rfl (Ev.move (.t rfl)) ?_)
    refine cons (callg rfl rfl en32 (.cons (.g rfl id) .nil) (fun hg w I => rhash_ok _ _ w (by first | exact isSl_own (by repeat first | exact List.Mem.head _ | apply List.Mem.tail) w I | exact IsSl.keep0 (by assumption) I.keeps)) ?_)
    refine cons (opg rfl rfl (Ev.neq_u64 (.g rfl id) (.g rfl id)) ?_)
    refine cons (opv (Ev.pickO (.t rfl) (.c (v := .bool true) rfl) (fun {_} h => by cases h; rfl) ⟨_, rfl⟩ (by intro h1 h; first | (rw [h] <;> rfl) | (rw [h, h1] <;> rfl) | simp_all)) ?_)
    refine nil ?_
    refine pN ?_
    first | refine condD rfl (fun h1 => ?_) (fun h1 => ?_) | refine cond rfl (fun h1 => ?_) (fun h1 => ?_)
    · exfalso
      simp at h1
    · refine skip ?_
      refine pN ?_
      refine seq ?_
      refine seq ?_
      refine region ?_
      refine cons (opv (Ev.assign (.c (v := I 0) rfl)) ?_)
      refine nil ?_
      refine pN ?_
      refine block ?_
      refine loop (X := Int) (fun x : Int => (0 ≤ x ∧ x ≤ xss.length)) (fun x : Int => [(0, true, u), (3, true, o.v), (6, true, I x)]) (fun x : Int => (rowsR u8E 5 os (xss.map (· ++ marks)) ++ [OwnS o.v (ovE nilSl) (insL os xss) 22])) (fun x : Int => (xss.length - x).toNat) (0) ?_ (by repeat first | exact Sub.nil | refine Sub.cons rfl ?_) (by repeat first | exact List.Sublist.refl _ | apply List.Sublist.cons_cons | apply List.Sublist.cons) (fun x hx => ?_)
      · omega
      obtain ⟨k, rfl⟩ : ∃ y, y = x := ⟨x, rfl⟩
      have hk : 0 ≤ k ∧ k ≤ xss.length := hx
      clear hx
      show Sat _ _ [(0, true, u), (3, true, o.v), (6, true, I k)] (rowsR u8E 5 os (xss.map (· ++ marks)) ++ [OwnS o.v (ovE nilSl) (insL os xss) 22])
      refine seq ?_
      refine seq ?_
      refine region ?_
      refine cons (opv (Ev.move (.t rfl)) ?_)
      refine cons (opv (Ev.move (.t rfl)) ?_)
      refine cons (opv (Ev.len Try.underlying33 (.t rfl) (fun w I => hvs.keep0 I.keeps)) ?_)
      refine cons (opv (Ev.lss_i (.t rfl) (.t rfl)) ?_)
      refine nil ?_
      refine pN ?_
      first | refine condD rfl (fun hlt => ?_) (fun hge => ?_) | refine cond rfl (fun hlt => ?_) (fun hge => ?_)
      · try simp only [Bool.and_eq_true, Bool.or_eq_true, Bool.or_eq_false_iff, Bool.and_eq_false_iff, Bool.not_eq_true', Bool.not_eq_false', decide_eq_true_eq, decide_eq_false_iff_not, Decidable.not_not] at hlt
        refine skip ?_
        refine pN ?_
        refine seq ?_
        refine block ?_
        refine seq ?_
        refine draw' (by kernel_rfl) ?_
        have hx := he k.toNat (by omega)
        have hxf := len_flat xss k.toNat (by omega)
        have hil := insL_length hos
        change IsSl u8E w (vs.getD k.toNat nilSl).v _ at hx
        refine take 0 rfl (by kernel_rfl) (by kernel_rfl) (by kernel_rfl) (by repeat first | exact List.Sublist.refl _ | apply List.Sublist.cons_cons | apply List.Sublist.cons) (Ev.move (.t rfl)) ?_
        refine take 1 rfl (by kernel_rfl) (by kernel_rfl) (by kernel_rfl) (by repeat first | exact List.Sublist.refl _ | apply List.Sublist.cons_cons | apply List.Sublist.cons) (Ev.move (.t rfl)) ?_
        refine take 2 rfl (by kernel_rfl) (by kernel_rfl) (by kernel_rfl) (by repeat first | exact List.Sublist.refl _ | apply List.Sublist.cons_cons | apply List.Sublist.cons) (Ev.indexAddr Try.underlying33 ty22 (.t rfl) (.t rfl) (isSl_own (by repeat first | exact List.mem_append_right _ (List.Mem.head _) | apply List.Mem.tail)) (fun _ => by omega)) ?_
        refine take 3 rfl (by kernel_rfl) (by kernel_rfl) (by kernel_rfl) (by repeat first | exact List.Sublist.refl _ | apply List.Sublist.cons_cons | apply List.Sublist.cons) (Ev.to (v' := subS u8E.size (os.getD k.toNat nilSl).v 0 (xss.getD k.toNat []).length) (Ev.loadS0 ty22 (.t rfl) (isSl_own (by repeat first | exact List.mem_append_right _ (List.Mem.head _) | apply List.Mem.tail)) (fun _ => by omega)) (by show (((insL os xss).getD k.toNat nilSl)).v = _; rw [insL_get _ hos (by omega)]; rfl)) ?_
        refine take 4 rfl (by kernel_rfl) (by kernel_rfl) (by kernel_rfl) (by repeat first | exact List.Sublist.refl _ | apply List.Sublist.cons_cons | apply List.Sublist.cons) (Ev.move (.t rfl)) ?_
        refine take 5 rfl (by kernel_rfl) (by kernel_rfl) (by kernel_rfl) (by repeat first | exact List.Sublist.refl _ | apply List.Sublist.cons_cons | apply List.Sublist.cons) (Ev.move (.t rfl)) ?_
        refine take 6 rfl (by kernel_rfl) (by kernel_rfl) (by kernel_rfl) (by repeat first | exact List.Sublist.refl _ | apply List.Sublist.cons_cons | apply List.Sublist.cons) (Ev.indexAddr Try.underlying33 ty22 (.t rfl) (.t rfl) (fun w I => hvs.keep0 I.keeps) (fun _ => by omega)) ?_
        refine take 7 rfl (by kernel_rfl) (by kernel_rfl) (by kernel_rfl) (by repeat first | exact List.Sublist.refl _ | apply List.Sublist.cons_cons | apply List.Sublist.cons) (Ev.loadS0 ty22 (.t rfl) (fun w I => hvs.keep0 I.keeps) (fun _ => by omega)) ?_
        refine all [8] (by kernel_rfl) (by decide) (.cons rfl ?_ .nil)
        refine (callv en21 (.cons (.t rfl) (.cons (.t rfl) .nil)) (fun w I => kept_ok _ _ (xss.getD k.toNat []) w (isSl_rows' (map_marks xss k.toNat (by omega)) (by omega) (by simp; omega) (fun r hr => by repeat first | exact List.mem_append_left _ hr | apply List.Mem.tail) w I) (hx.keep0 I.keeps) (by omega)) ?_)
        refine heldN_of (by repeat first | exact List.Sublist.refl _ | apply List.Sublist.cons_cons | apply List.Sublist.cons) ?_
        refine take 9 rfl (by kernel_rfl) (by kernel_rfl) (by kernel_rfl) (by repeat first | exact List.Sublist.refl _ | apply List.Sublist.cons_cons | apply List.Sublist.cons) (Ev.not (.t rfl)) ?_
        refine over (by kernel_rfl) ?_
        refine pN ?_
        first | refine condD rfl (fun h3 => ?_) (fun h3 => ?_) | refine cond rfl (fun h3 => ?_) (fun h3 => ?_)
        · exfalso
          simp at h3
        · refine skip ?_
          refine bN ?_
          refine pN ?_
          refine region ?_
          refine cons (opv (Ev.move (.t rfl)) ?_)
          refine cons (opv (Ev.add_i (.t rfl) (.c (v := I 1) rfl) (fun _ => by omega)) ?_)
          refine cons (opv (Ev.assign (.t rfl)) ?_)
          refine nil ?_
          refine pN ?_
          refine next (X := Int) (k + 1) ?_ ?_ (by repeat first | exact Sub.nil | refine Sub.cons rfl ?_) (by repeat first | exact List.Sublist.refl _ | apply List.Sublist.cons_cons | apply List.Sublist.cons)
          · try dsimp only
            omega
          · try dsimp only
            omega
      · try simp only [Bool.and_eq_true, Bool.or_eq_true, Bool.or_eq_false_iff, Bool.and_eq_false_iff, Bool.not_eq_true', Bool.not_eq_false', decide_eq_true_eq, decide_eq_false_iff_not, Decidable.not_not] at hge
        refine exit ?_
        refine pX ?_
        refine pX ?_
        refine bX ?_
        refine pN ?_
        refine seq ?_
        refine region ?_
        refine cons (callv en22 .nil (fun w I => works_ok w) ?_)
        refine cons (opv (Ev.assign (.t rfl)) ?_)
        refine nil ?_
        refine pN ?_
        refine ret ?_
        refine done rfl (.tmp rfl .nil) (retE ?_)
        rfl
end Go.Proofs.Ytcmpdhggeilkfaa
