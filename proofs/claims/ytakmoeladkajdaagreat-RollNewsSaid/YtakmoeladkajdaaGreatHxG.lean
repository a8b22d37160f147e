/- Part G: what comes in: the arguments' data, opened. -/
import Derived.WalkKit
import Derived.ProofKit
import Derived.OpenShut
import Derived.ShutString
import Derived.ChangeOld
import Derived.Below
import Derived.SizedLaws
import Derived.JoinedCond
import Derived.Test.YtakmoeladkajdaaGreatRows
import Derived.Test.YtakmoeladkajdaaGreatHxF
set_option linter.unusedVariables false
set_option linter.unusedSimpArgs false
namespace Go.Gx
open Go Go.RowKit
section
variable {α β : Type} {P : Program} {t e : TypeId}
abbrev Kn (α : Type) := World → α → (H : Type) → DataW H → Prop
structure Opn (P : Program) (t : TypeId) (E : Enc α) (Q : Kn α) : Prop where
  cells : P.cellsOf t = E.size
  op : ∀ {H : Type} (enc : TypeId × Value → H) (w : World) (sp : Nat → Bool) (held : Bool) (fuel : Nat) (cs : List Value) (x : DataW H × List MemPlace), DataW.trod enc P w 0 sp held fuel t cs = some x → ∃ a, cs = E.cells a ∧ Q w a H x.1
  val : ∀ (w : World) (r : Reach) (b : Nat) (v : Value) (a : α), Value.okWide P w r b t v → v.cells.toList = E.cells a → v = E.val a
theorem Opn.open {E : Enc α} {Q : Kn α} (O : Opn P t E Q) {H : Type} {enc : TypeId × Value → H} {w : World} {sp : Nat → Bool} {held : Bool} {r : Reach} {b : Nat} {v : Value} {d : DataW H} {ps : List MemPlace}
    (hv : Value.okWide P w r b t v) (h : DataW.Trod enc P w 0 sp held t v d ps) : ∃ a, v = E.val a ∧ Q w a H d := by
  obtain ⟨fuel, hf⟩ := h
  obtain ⟨a, h1, h2⟩ := O.op enc w sp held fuel _ _ hf
  exact ⟨a, O.val w r b v a hv h1, h2⟩
theorem Opn.mono {E : Enc α} {Q Q' : Kn α} (O : Opn P t E Q) (h : ∀ w a H d, Q w a H d → Q' w a H d) : Opn P t E Q' :=
  ⟨O.cells, fun enc w sp held fuel cs x hx => by
    obtain ⟨a, h1, h2⟩ := O.op enc w sp held fuel cs x hx
    exact ⟨a, h1, h w a _ _ h2⟩, O.val⟩
theorem int_val {k : IntKind} {E : Enc α} {f : α → Int} (ht : P.underlying t = some (.int k)) (hE : ∀ a, E.cells a = [.int k (f a)]) (hg : E.agg = false) (w : World) (r : Reach) (b : Nat) (v : Value) (a : α) (h : Value.okWide P w r b t v) (hc : v.cells.toList = E.cells a) : v = E.val a := by
  obtain ⟨n, rfl⟩ := Go.WideShapes.okWide_int ht h
  rw [hE] at hc
  unfold Enc.val
  rw [hg, hE]
  simp [Value.cells] at hc
  simp [hc]
theorem wf_int {k : IntKind} {n : Int} (h : (Lit.int k n).wf = true) : k.has n := by
  simpa [Lit.wf, IntKind.has] using h
theorem opn_u8 (ht : P.underlying t = some (.int .u8)) (hc : P.cellsOf t = 1) : Opn P t u8E (fun _ _ _ _ => True) where
  cells := hc
  op enc w sp held fuel cs x h := by
    obtain ⟨n, rfl, _, hw⟩ := DataW.trod_int ht h
    have h1 : (0 : Int) ≤ n ∧ n ≤ 255 := wf_int hw
    refine ⟨UInt8.ofNat n.toNat, ?_, trivial⟩
    show [Value.int .u8 n] = [U8 (UInt8.ofNat n.toNat)]
    have e : ((UInt8.ofNat n.toNat).toNat : Int) = n := by rw [UInt8.toNat_ofNat']; omega
    unfold U8
    rw [e]
  val := int_val ht (f := fun a => (a.toNat : Int)) (fun _ => rfl) rfl
theorem opn_u16 (ht : P.underlying t = some (.int .u16)) (hc : P.cellsOf t = 1) : Opn P t u16E (fun _ _ _ _ => True) where
  cells := hc
  op enc w sp held fuel cs x h := by
    obtain ⟨n, rfl, _, hw⟩ := DataW.trod_int ht h
    have h1 : (0 : Int) ≤ n ∧ n ≤ 65535 := wf_int hw
    refine ⟨UInt16.ofNat n.toNat, ?_, trivial⟩
    show [Value.int .u16 n] = [U16 (UInt16.ofNat n.toNat)]
    have e : ((UInt16.ofNat n.toNat).toNat : Int) = n := by rw [UInt16.toNat_ofNat']; omega
    unfold U16
    rw [e]
  val := int_val ht (f := fun a => (a.toNat : Int)) (fun _ => rfl) rfl
theorem opn_u64 (ht : P.underlying t = some (.int .u64)) (hc : P.cellsOf t = 1) : Opn P t u64E (fun _ _ _ _ => True) where
  cells := hc
  op enc w sp held fuel cs x h := by
    obtain ⟨n, rfl, _, hw⟩ := DataW.trod_int ht h
    have h1 : (0 : Int) ≤ n ∧ n ≤ 18446744073709551615 := wf_int hw
    refine ⟨UInt64.ofNat n.toNat, ?_, trivial⟩
    show [Value.int .u64 n] = [U64 (UInt64.ofNat n.toNat)]
    have e : ((UInt64.ofNat n.toNat).toNat : Int) = n := by rw [UInt64.toNat_ofNat']; omega
    unfold U64
    rw [e]
  val := int_val ht (f := fun a => (a.toNat : Int)) (fun _ => rfl) rfl
theorem opn_i (ht : P.underlying t = some (.int .i64)) (hc : P.cellsOf t = 1) : Opn P t iE (fun _ n _ _ => Fit n) where
  cells := hc
  op enc w sp held fuel cs x h := by
    obtain ⟨n, rfl, _, hw⟩ := DataW.trod_int ht h
    exact ⟨n, rfl, wf_int hw⟩
  val := int_val ht (f := fun a => a) (fun _ => rfl) rfl
theorem opn_b (ht : P.underlying t = some .bool) (hc : P.cellsOf t = 1) : Opn P t bE (fun _ _ _ _ => True) where
  cells := hc
  op enc w sp held fuel cs x h := by
    obtain ⟨b, rfl, _⟩ := DataW.trod_bool ht h
    exact ⟨b, rfl, trivial⟩
  val w r b v a h hc := by
    obtain ⟨n, rfl⟩ := Go.WideShapes.okWide_bool ht h
    have e : bE.cells a = [.bool a] := rfl
    rw [e] at hc
    simp [Value.cells] at hc
    rw [hc]
    rfl
theorem opn_s (ht : P.underlying t = some .string) (hc : P.cellsOf t = 1) : Opn P t sE (fun _ s _ d => s.size ≤ maxLen ∧ d = .lit (.string s.data.toList)) where
  cells := hc
  op enc w sp held fuel cs x h := by
    obtain ⟨s, rfl, hx, hs⟩ := DataW.trod_string ht h
    exact ⟨s, rfl, hs, by rw [hx]⟩
  val w r b v a h hc := by
    obtain ⟨n, rfl⟩ := Go.WideShapes.okWide_string ht h
    have e : sE.cells a = [.string a] := rfl
    rw [e] at hc
    simp [Value.cells] at hc
    rw [hc]
    rfl
def SlD {H : Type} (d : DataW H) (ds : List (DataW H)) : Prop := ds = [] ∨ ∃ sp, d = .slice ds sp
def SlQ (E : Enc α) (Q : Kn α) : Kn OV := fun w o H d => ∃ xs ds, IsSl E w o.v xs ∧ SlD d ds ∧ xs.length = ds.length ∧ ∀ i (h1 : i < xs.length) (h2 : i < ds.length), Q w xs[i] H ds[i]
theorem opn_sl {E : Enc α} {Q : Kn α} (O : Opn P e E Q) (ht : P.underlying t = some (.slice e)) (hc : P.cellsOf t = 1) (hsz : Nat.blt 0 E.size = true) : Opn P t (ovE nilSl) (SlQ E Q) where
  cells := hc
  op {H} enc w sp held fuel cs x h := by
    rcases DataW.trod_slice ht h with ⟨rfl, _⟩ | ⟨a, len, cap, elems, rest, n, rfl, rfl, hx, _, h1, h2, h3, h4, _⟩
    · exact ⟨nilSl, rfl, [], [], IsSl.nil E w, .inl rfl, rfl, fun i h _ => absurd h (Nat.not_lt_zero _)⟩
    · refine ⟨⟨.slice (some a) len cap, rfl⟩, rfl, ?_⟩
      have hpos : 0 < E.size := by simpa [Nat.blt_eq] using hsz
      have each : ∀ i, (hi : i < len) → ∃ y, w.cells? 0 (a.add (i * E.size)) E.size = some (E.cells y) ∧ Q w y H (elems[i]'(by omega)).1 := fun i hi => by
        have h5 := h4 i hi
        rw [List.getElem?_eq_getElem (by omega), O.cells] at h5
        cases hcs : w.cells? 0 (a.add (i * E.size)) E.size with
        | none => rw [hcs] at h5; simp at h5
        | some cs =>
          rw [hcs] at h5
          obtain ⟨y, rfl, hy⟩ := O.op enc w sp held n cs _ h5
          exact ⟨y, rfl, hy⟩
      have all : ∀ n, n ≤ len → ∃ xs : List α, xs.length = n ∧ (∀ i (hi : i < n), w.cells? 0 (a.add (i * E.size)) E.size = some (E.cells (xs.getD i E.zero))) ∧ ∀ i (h1 : i < xs.length) (h2 : i < elems.length), Q w xs[i] H (elems[i]).1 := by
        intro n
        induction n with
        | zero => exact fun _ => ⟨[], rfl, fun i hi => absurd hi (Nat.not_lt_zero _), fun i h _ => absurd h (Nat.not_lt_zero _)⟩
        | succ n ih =>
          intro hn
          obtain ⟨xs, e1, e2, e3⟩ := ih (by omega)
          obtain ⟨y, e4, e5⟩ := each n (by omega)
          refine ⟨xs ++ [y], by simp [e1], fun i hi => ?_, fun i hi1 hi2 => ?_⟩
          · by_cases hin : i < n
            · rw [e2 i hin]
              simp [List.getD, List.getElem?_append, e1, hin]
            · have : i = n := by omega
              subst this
              rw [e4]
              simp [List.getD, List.getElem?_append, e1]
          · by_cases hin : i < n
            · have e6 := e3 i (by omega) hi2
              rw [List.getElem_append_left (by omega)]
              exact e6
            · have : i = n := by simp at hi1; omega
              subst this
              rw [List.getElem_append_right (by omega)]
              simpa [e1] using e5
      obtain ⟨xs, e1, e2, e3⟩ := all len (Nat.le_refl _)
      refine ⟨xs, elems.map (·.1), ⟨some a, cap, by rw [e1], by omega, h2, fun h => (by cases h), fun p hp => ?_⟩, .inr ⟨_, by rw [hx]⟩, by simp; omega, fun i h1 h2 => by rw [List.getElem_map]; exact e3 i h1 (by simpa using h2)⟩
      cases hp
      have cell : ∀ i, i < xs.length → ∀ j, j < E.size → w.cell? (a.add (i * E.size + j)) = (E.cells (xs.getD i E.zero))[j]? := fun i hi j hj => by
        have h5 := (World.cells?_some (e2 i (by omega))).2.2 j hj
        rwa [Go.Addr.add_add] at h5
      have spot : xs ≠ [] → a.spot = none := fun hne => by
        have h6 := cell 0 (List.length_pos_iff.2 hne) 0 hpos
        rw [List.getElem?_eq_getElem (by rw [E.len]; exact hpos)] at h6
        simpa [Addr.add] using World.cell?_spot h6
      refine ⟨spot, fun j u hu => ?_⟩
      have hj : j < xs.length * E.size := by
        have := (List.getElem?_eq_some_iff.1 hu).1
        rwa [E.row_length] at this
      have hi : j / E.size < xs.length := Nat.div_lt_of_lt_mul (by rwa [Nat.mul_comm] at hj)
      have hm : j % E.size < E.size := Nat.mod_lt _ hpos
      have ej : j = j / E.size * E.size + j % E.size := by rw [Nat.mul_comm]; exact (Nat.div_add_mod j E.size).symm
      have h7 := cell _ hi _ hm
      rw [← E.row_get xs (j / E.size) (j % E.size) E.zero hi hm, ← ej] at h7
      rw [hu] at h7
      have hs := spot (fun e => by rw [e] at hi; exact absurd hi (Nat.not_lt_zero _))
      obtain ⟨ab, ao, asp⟩ := a
      simp only at hs
      subst hs
      rwa [addr_add] at h7
  val w r b v a h hc := by
    obtain ⟨p, l, c, rfl⟩ := Go.WideShapes.okWide_slice ht h
    have e : (ovE nilSl).cells a = [a.v] := rfl
    rw [e] at hc
    simp [Value.cells] at hc
    show _ = a.v
    exact hc
theorem agg_val {E : Enc α} (hg : E.agg = true) {v : Value} {a : α} (h : ∃ cs, v = .agg cs) (hc : v.cells.toList = E.cells a) : v = E.val a := by
  obtain ⟨cs, rfl⟩ := h
  unfold Enc.val
  rw [hg, ← hc]
  simp [Value.cells]
theorem opn_arr {E : Enc α} {Q : Kn α} {n : Nat} (O : Opn P e E Q) (ht : P.underlying t = some (.array n e)) (hc : P.cellsOf t = n * E.size) : Opn P t (arrE n E) (fun w v H d => ∃ ds, d = .agg ds ∧ ∀ i (hi : i < n) (h2 : i < ds.length), Q w v[i] H ds[i]) where
  cells := hc
  op {H} enc w sp held fuel cs x h := by
    obtain ⟨xs, m, rfl, hx, h1, h2, h3⟩ := DataW.trod_array ht h
    have each : ∀ i, (hi : i < n) → ∃ y, (cs.drop (i * E.size)).take E.size = E.cells y ∧ Q w y H (xs[i]'(by omega)).1 := fun i hi => by
      have h5 := h3 i hi
      rw [List.getElem?_eq_getElem (by omega), O.cells] at h5
      exact O.op enc w sp held m _ _ h5
    have all : ∀ k, k ≤ n → ∃ ys : List α, ys.length = k ∧ cs.take (k * E.size) = E.row ys ∧ ∀ i (h1 : i < ys.length) (h2 : i < xs.length), Q w ys[i] H (xs[i]).1 := by
      intro k
      induction k with
      | zero => exact fun _ => ⟨[], rfl, by simp [Enc.row], fun i h _ => absurd h (Nat.not_lt_zero _)⟩
      | succ k ih =>
        intro hk
        obtain ⟨ys, e1, e2, e3⟩ := ih (by omega)
        obtain ⟨y, e4, e5⟩ := each k (by omega)
        refine ⟨ys ++ [y], by simp [e1], ?_, fun i hi1 hi2 => ?_⟩
        · rw [E.row_append, ← e2, Nat.add_mul, Nat.one_mul, List.take_add, e4]
          simp [Enc.row]
        · by_cases hin : i < k
          · have e6 := e3 i (by omega) hi2
            rw [List.getElem_append_left (by omega)]
            exact e6
          · have : i = k := by simp at hi1; omega
            subst this
            rw [List.getElem_append_right (by omega)]
            simpa [e1] using e5
    obtain ⟨ys, e1, e2, e3⟩ := all n (Nat.le_refl _)
    refine ⟨⟨ys.toArray, by simpa using e1⟩, ?_, xs.map (·.1), by rw [hx], fun i hi h2 => by rw [List.getElem_map]; simpa using e3 i (by omega) (by simpa using h2)⟩
    rw [List.take_of_length_le (by rw [h1, hc]; exact Nat.le_refl _)] at e2
    rw [e2]
    rfl
  val w r b v a h hcl := agg_val rfl (by
    simp only [Value.okWide, ht] at h
    obtain ⟨cs, h1, _⟩ := h
    exact ⟨cs, h1⟩) hcl
structure OpnF (P : Program) (fs : List Field) (off : Nat) (E : Enc α) (Q : World → α → (H : Type) → List (DataW H) → Prop) : Prop where
  op : ∀ {H : Type} (enc : TypeId × Value → H) (w : World) (sp : Nat → Bool) (held : Bool) (n : Nat) (cs : List Value) (xs : List (DataW H × List MemPlace)), xs.length = fs.length →
    (∀ i (h1 : i < fs.length) (h2 : i < xs.length), DataW.trod enc P w 0 sp held n fs[i].type ((cs.drop fs[i].offset).take (P.cellsOf fs[i].type)) = some xs[i]) → ∃ a, (cs.drop off).take E.size = E.cells a ∧ Q w a H (xs.map (·.1))
theorem OpnF.one {f : Field} {off : Nat} {E : Enc α} {Q : Kn α} (ho : f.offset = off) (O : Opn P f.type E Q) : OpnF P [f] off E (fun w a H ds => ∃ d, ds = [d] ∧ Q w a H d) where
  op enc w sp held n cs xs hl h := by
    have hx := h 0 (by simp) (by rw [hl]; simp)
    simp only [List.getElem_cons_zero] at hx
    rw [O.cells, ho] at hx
    obtain ⟨a, h1, h2⟩ := O.op enc w sp held n _ _ hx
    refine ⟨a, h1, _, ?_, h2⟩
    match xs, hl with
    | [x], _ => rfl
theorem OpnF.cons {f : Field} {fs : List Field} {off : Nat} {E : Enc α} {E' : Enc β} {Q : Kn α} {Q' : World → β → (H : Type) → List (DataW H) → Prop} (ho : f.offset = off) (O : Opn P f.type E Q) (R : OpnF P fs (off + E.size) E' Q') :
    OpnF P (f :: fs) off (prodE E E') (fun w x H ds => ∃ d r, ds = d :: r ∧ Q w x.1 H d ∧ Q' w x.2 H r) where
  op enc w sp held n cs xs hl h := by
    match xs, hl with
    | x :: xs, hl =>
      have hx := h 0 (by simp) (by simp)
      simp only [List.getElem_cons_zero] at hx
      rw [O.cells, ho] at hx
      obtain ⟨a, h1, h2⟩ := O.op enc w sp held n _ _ hx
      obtain ⟨b, h3, h4⟩ := R.op enc w sp held n cs xs (by simpa using hl) (fun i h1 h2 => h (i + 1) (by simp; omega) (by simp; omega))
      refine ⟨(a, b), ?_, _, _, rfl, h2, h4⟩
      show (cs.drop off).take (E.size + E'.size) = E.cells a ++ E'.cells b
      rw [List.take_add, h1, List.drop_drop, h3]
theorem opn_struct {fs : Array Field} {E : Enc β} {to : β → α} {of : α → β} {Q : World → β → (H : Type) → List (DataW H) → Prop} (ht : P.underlying t = some (.struct fs)) (hc : P.cellsOf t = E.size) (R : OpnF P fs.toList 0 E Q) (hto : ∀ b, of (to b) = b) :
    Opn P t (isoE E to of) (fun w a H d => ∃ ds, d = .agg ds ∧ Q w (of a) H ds) where
  cells := hc
  op enc w sp held fuel cs x h := by
    obtain ⟨xs, n, rfl, hx, h1, h2, h3⟩ := DataW.trod_struct ht h
    obtain ⟨b, h4, h5⟩ := R.op enc w sp held n cs xs (by simpa using h2) (fun i hi1 hi2 => by
      have h6 := h3 i fs.toList[i] (by simp)
      exact h6.trans (List.getElem?_eq_getElem _))
    refine ⟨to b, ?_, _, by rw [hx], by rw [hto]; exact h5⟩
    rw [List.drop_zero, List.take_of_length_le (by rw [h1, hc]; exact Nat.le_refl _)] at h4
    show cs = E.cells (of (to b))
    rw [hto, h4]
  val w r b v a h hcl := agg_val rfl (by
    obtain ⟨cs, h1, _⟩ := Go.WideShapes.okWide_struct ht h
    exact ⟨cs, h1⟩) hcl
theorem one_le {H : Type} (d : DataW H) : 1 ≤ Go.Proofs.YtakmoeladkajdaaGreat.Rows.uptoBulk d := by
  cases d with
  | lit l => cases l <;> simp [Go.Proofs.YtakmoeladkajdaaGreat.Rows.uptoBulk]
  | nil => simp [Go.Proofs.YtakmoeladkajdaaGreat.Rows.uptoBulk]
  | ptr d => simp [Go.Proofs.YtakmoeladkajdaaGreat.Rows.uptoBulk]
  | slice elems spare => simp [Go.Proofs.YtakmoeladkajdaaGreat.Rows.uptoBulk]
  | agg parts => simp [Go.Proofs.YtakmoeladkajdaaGreat.Rows.uptoBulk]
  | iface t d => simp [Go.Proofs.YtakmoeladkajdaaGreat.Rows.uptoBulk]
  | map entries => simp [Go.Proofs.YtakmoeladkajdaaGreat.Rows.uptoBulk]
  | held h => simp [Go.Proofs.YtakmoeladkajdaaGreat.Rows.uptoBulk]
end
end Go.Gx
