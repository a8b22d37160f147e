/- A small kit of my own, over any program: symbolic states (what is known of a frame's slots, what blocks are owned), and one rule for each form of code. Part A: states, code, regions. -/
import Derived.OrdersHeld
import Derived.Tactics2
import Derived.Below
import Derived.Laws.AppendOwn
import Derived.Laws.Cells
import Derived.Deep.RegionHeld3
import Derived.Deep.LoopGhost
import Derived.KernelRfl
set_option linter.unusedVariables false
set_option linter.unusedSimpArgs false
namespace Go.Gx
open Go Go.RowKit
structure Keeps (M : Nat → Prop) (w w' : World) : Prop where
  os : w'.os = w.os
  tape : w'.tape = w.tape
  output : w'.output = w.output
  size : w.heap.size ≤ w'.heap.size
  block : ∀ k, k < w.heap.size → ¬ M k → w'.heap[k]? = w.heap[k]?
def Nope : Nat → Prop := fun _ => False
theorem Keeps.refl (M : Nat → Prop) (w : World) : Keeps M w w := ⟨rfl, rfl, rfl, Nat.le_refl _, fun _ _ _ => rfl⟩
theorem Keeps.trans {M : Nat → Prop} {a b c : World} (h : Keeps M a b) (k : Keeps M b c) : Keeps M a c :=
  ⟨k.os.trans h.os, k.tape.trans h.tape, k.output.trans h.output, Nat.le_trans h.size k.size,
   fun i hi hm => (k.block i (Nat.lt_of_lt_of_le hi h.size) hm).trans (h.block i hi hm)⟩
theorem Keeps.trans' {M M' : Nat → Prop} {a b c : World} (h : Keeps M a b) (k : Keeps M' b c) (hm : ∀ i, i < a.heap.size → M' i → M i) : Keeps M a c :=
  ⟨k.os.trans h.os, k.tape.trans h.tape, k.output.trans h.output, Nat.le_trans h.size k.size,
   fun i hi hn => (k.block i (Nat.lt_of_lt_of_le hi h.size) (fun h' => hn (hm i hi h'))).trans (h.block i hi hn)⟩
theorem Keeps.mono {M M' : Nat → Prop} {a b : World} (h : Keeps M a b) (hm : ∀ i, M i → M' i) : Keeps M' a b :=
  ⟨h.os, h.tape, h.output, h.size, fun i hi hn => h.block i hi (fun h' => hn (hm i h'))⟩
theorem Keeps.below {w w' : World} (h : Keeps Nope w w') : Below w.heap.size w w' :=
  ⟨h.os, h.tape, h.output, h.size, fun k hk => h.block k hk (fun h => h)⟩
theorem Keeps.drew (M : Nat → Prop) (w : World) : Keeps M w { w with drawn := w.drawn + 1 } := ⟨rfl, rfl, rfl, Nat.le_refl _, fun _ _ _ => rfl⟩
theorem Keeps.alloc (M : Nat → Prop) (w : World) (o : Obj) : Keeps M w { w with heap := w.heap.push o } :=
  ⟨rfl, rfl, rfl, by simp, fun k hk _ => by simp [Array.getElem?_push, Nat.ne_of_lt hk]⟩
theorem Keeps.of_grown {w w' : World} {row : Option Nat} (h : w.grownBy w' row) : Keeps (fun k => row = some k) w w' :=
  ⟨h.os, h.tape, h.output, h.size, fun k hk hn => h.block k hk (fun e => hn e.symm)⟩
structure Res where
  foot : Nat → Prop
  A : World → Prop
  st : ∀ w w', (∀ b, foot b → w'.heap[b]? = w.heap[b]?) → A w → A w'
def Res.Disj (r s : Res) : Prop := ∀ b, r.foot b → s.foot b → False
theorem Res.Disj.symm {r s : Res} (h : r.Disj s) : s.Disj r := fun b hs hr => h b hr hs
structure Ctx where
  n : Nat
  w0 : World
  M : Nat → Prop
structure WInv (K : Ctx) (L : List Res) (w : World) : Prop where
  keeps : Keeps K.M K.w0 w
  own : ∀ r ∈ L, r.A w ∧ ∀ b, r.foot b → (K.w0.heap.size ≤ b ∨ K.M b) ∧ b < w.heap.size
  dis : L.Pairwise Res.Disj
section
variable {K : Ctx} {L : List Res} {w w' : World}
theorem WInv.start {K : Ctx} : WInv K [] K.w0 := ⟨Keeps.refl _ _, (fun _ h => absurd h List.not_mem_nil), List.Pairwise.nil⟩
theorem WInv.grow (h : WInv K L w) (k : Keeps Nope w w') : WInv K L w' :=
  ⟨h.keeps.trans' k (fun _ _ h => h.elim), fun r hr => by
    obtain ⟨ha, hf⟩ := h.own r hr
    exact ⟨r.st w w' (fun b hb => k.block b (hf b hb).2 (fun h => h)) ha, fun b hb => ⟨(hf b hb).1, Nat.lt_of_lt_of_le (hf b hb).2 k.size⟩⟩, h.dis⟩
theorem WInv.add (h : WInv K L w) (k : Keeps Nope w w') {r : Res} (ha : r.A w') (hf : ∀ b, r.foot b → w.heap.size ≤ b ∧ b < w'.heap.size) : WInv K (r :: L) w' := by
  have hs : K.w0.heap.size ≤ w.heap.size := h.keeps.size
  refine ⟨(h.grow k).keeps, ?_, ?_⟩
  · intro s hs'
    rcases List.mem_cons.1 hs' with rfl | hs'
    · exact ⟨ha, fun b hb => ⟨.inl (Nat.le_trans hs (hf b hb).1), (hf b hb).2⟩⟩
    · exact (h.grow k).own s hs'
  · refine List.pairwise_cons.2 ⟨fun s hs' b hb hsb => ?_, h.dis⟩
    have h1 := (hf b hb).1
    have h2 := ((h.own s hs').2 b hsb).2
    omega
theorem WInv.adds (h : WInv K L w) (k : Keeps Nope w w') {R : List Res} (ha : ∀ r ∈ R, r.A w' ∧ ∀ b, r.foot b → w.heap.size ≤ b ∧ b < w'.heap.size) (hd : R.Pairwise Res.Disj) : WInv K (R ++ L) w' := by
  have hs : K.w0.heap.size ≤ w.heap.size := h.keeps.size
  refine ⟨(h.grow k).keeps, ?_, ?_⟩
  · intro s hs'
    rcases List.mem_append.1 hs' with hs' | hs'
    · obtain ⟨h1, h2⟩ := ha s hs'
      exact ⟨h1, fun b hb => ⟨.inl (Nat.le_trans hs (h2 b hb).1), (h2 b hb).2⟩⟩
    · exact (h.grow k).own s hs'
  · refine List.pairwise_append.2 ⟨hd, h.dis, fun r hr s hs' b hb hsb => ?_⟩
    have h1 := ((ha r hr).2 b hb).1
    have h2 := ((h.own s hs').2 b hsb).2
    omega
theorem WInv.sub {L' : List Res} (h : WInv K L w) (hs : L'.Sublist L) : WInv K L' w :=
  ⟨h.keeps, fun r hr => h.own r (hs.subset hr), h.dis.sublist hs⟩
def Upd (L : List Res) (r r' : Res) (L' : List Res) : Prop := ∃ A C, L = A ++ r :: C ∧ L' = A ++ r' :: C
theorem Upd.head {r r' : Res} {L : List Res} : Upd (r :: L) r r' (r' :: L) := ⟨[], L, rfl, rfl⟩
theorem Upd.tail {x r r' : Res} {L L' : List Res} (h : Upd L r r' L') : Upd (x :: L) r r' (x :: L') := by
  obtain ⟨A, C, rfl, rfl⟩ := h
  exact ⟨x :: A, C, rfl, rfl⟩
theorem Upd.mem {L L' : List Res} {r r' : Res} (h : Upd L r r' L') : r ∈ L := by
  obtain ⟨A, C, rfl, rfl⟩ := h
  simp
theorem Upd.cases_mem {L L' : List Res} {r r' : Res} (h : Upd L r r' L') (hd : L.Pairwise Res.Disj) : ∀ s ∈ L', s = r' ∨ (s ∈ L ∧ s.Disj r) := by
  obtain ⟨A, C, rfl, rfl⟩ := h
  obtain ⟨_, h2, h3⟩ := List.pairwise_append.1 hd
  obtain ⟨h4, _⟩ := List.pairwise_cons.1 h2
  intro s hs
  rcases List.mem_append.1 hs with h | h
  · exact .inr ⟨List.mem_append.2 (.inl h), h3 s h r List.mem_cons_self⟩
  · rcases List.mem_cons.1 h with h | h
    · exact .inl h
    · exact .inr ⟨List.mem_append.2 (.inr (List.mem_cons_of_mem _ h)), (h4 s h).symm⟩
theorem Upd.pairwise {L L' : List Res} {r r' : Res} (h : Upd L r r' L') (hd : L.Pairwise Res.Disj) (hx : ∀ s ∈ L, s.Disj r → s.Disj r') : L'.Pairwise Res.Disj := by
  obtain ⟨A, C, rfl, rfl⟩ := h
  obtain ⟨h1, h2, h3⟩ := List.pairwise_append.1 hd
  obtain ⟨h4, h5⟩ := List.pairwise_cons.1 h2
  refine List.pairwise_append.2 ⟨h1, List.pairwise_cons.2 ⟨fun s hs => (hx s (by simp [hs]) (h4 s hs).symm).symm, h5⟩, fun a ha s hs => ?_⟩
  rcases List.mem_cons.1 hs with rfl | hs
  · exact hx a (by simp [ha]) (h3 a ha r List.mem_cons_self)
  · exact h3 a ha s (List.mem_cons_of_mem _ hs)
theorem WInv.upd (h : WInv K L w) {L' : List Res} {r r' : Res} (hu : Upd L r r' L') (k : Keeps r.foot w w') (ha : r'.A w')
    (hf : ∀ b, r'.foot b → (r.foot b ∨ w.heap.size ≤ b) ∧ b < w'.heap.size) : WInv K L' w' := by
  have hs : K.w0.heap.size ≤ w.heap.size := h.keeps.size
  have hr := h.own r hu.mem
  refine ⟨h.keeps.trans' k (fun i hi hi' => ?_), ?_, ?_⟩
  · rcases (hr.2 i hi').1 with h1 | h1
    · omega
    · exact h1
  · intro s hs'
    rcases hu.cases_mem h.dis s hs' with rfl | ⟨h1, h2⟩
    · refine ⟨ha, fun b hb => ⟨?_, (hf b hb).2⟩⟩
      rcases (hf b hb).1 with h3 | h3
      · exact (hr.2 b h3).1
      · exact .inl (Nat.le_trans hs h3)
    · obtain ⟨h3, h4⟩ := h.own s h1
      exact ⟨s.st w w' (fun b hb => k.block b (h4 b hb).2 (fun h5 => h2 b hb h5)) h3, fun b hb => ⟨(h4 b hb).1, Nat.lt_of_lt_of_le (h4 b hb).2 k.size⟩⟩
  · refine hu.pairwise h.dis (fun s hs' hd b hb hb' => ?_)
    rcases (hf b hb').1 with h3 | h3
    · exact hd b hb h3
    · have := ((h.own s hs').2 b hb).2
      omega
end
abbrev Fr := List (Nat × Bool × Value)
def look0 : Fr → Nat → Option (Bool × Value)
  | [], _ => none
  | (s, e) :: r, t => bif Nat.beq s t then some e else look0 r t
abbrev DS : Nat := 1000000
def look (F : Fr) (t : Nat) : Option (Bool × Value) := bif Nat.beq t 1000000 then none else look0 F t
theorem look_at {F : Fr} {t : Nat} {e : Bool × Value} (h : look F t = some e) : t ≠ DS ∧ look0 F t = some e := by
  unfold look at h
  cases hb : Nat.beq t 1000000 with
  | true => rw [hb] at h; cases h
  | false => rw [hb] at h; exact ⟨Nat.ne_of_beq_eq_false hb, h⟩
theorem beq_ne {a b : Nat} (h : a ≠ b) : Nat.beq a b = false := by
  cases hb : Nat.beq a b with
  | false => rfl
  | true => exact absurd (Nat.eq_of_beq_eq_true hb) h
theorem look_of {F : Fr} {t : Nat} (h : t ≠ DS) : look F t = look0 F t := by
  unfold look
  rw [beq_ne h]
  rfl
def mkV (m : List Nat) : Value := .tuple (m.map fun D : Nat => Value.int .i64 D).toArray
theorem mkV_inj {m m' : List Nat} (h : mkV m = mkV m') : m = m' := by
  have h1 := congrArg (fun v => match v with | Value.tuple a => a.toList | _ => []) h
  simp only [mkV] at h1
  exact (List.map_inj_right (f := fun D : Nat => Value.int .i64 D) (fun a b e => by
    have := (Value.int.inj e).2
    omega)).1 h1
def mkD (D : Nat) : Deferred := { target := .collected D, args := #[] }
abbrev dz : Nat × Bool × Value := (1000000, true, mkV [])
abbrev dm (m : List Nat) : Nat × Bool × Value := (1000000, true, mkV m)
structure FrOK (K : Ctx) (F : Fr) (a : Act) : Prop where
  size : a.tmps.size = K.n
  le : K.n ≤ DS
  defers : ∀ c v, look0 F DS = some (c, v) → ∃ m, v = mkV m ∧ a.defers = m.map mkD
  fr : ∀ t c v, look F t = some (c, v) → a.tmps[t]? = some (bif c then v else undef)
structure Good (K : Ctx) (F : Fr) (L : List Res) (a : Act) (w : World) : Prop where
  fo : FrOK K F a
  inv : WInv K L w
def Sat (K : Ctx) (X : Act → World → Prop) (F : Fr) (L : List Res) : Prop := ∀ a w, Good K F L a w → X a w
section
variable {K : Ctx} {F : Fr} {L : List Res} {P : Program}
theorem FrOK.put {a : Act} (G : FrOK K F a) (d : Nat) (c : Bool) (v v' : Value) (hd : d < K.n) (hv : v' = (bif c then v else undef)) : FrOK K ((d, c, v) :: F) (a.put (some d) v') := by
  refine ⟨by simp [Act.put, G.size], G.le, fun c' u hl => ?_, fun t c' u hl => ?_⟩
  · refine G.defers c' u ?_
    have : Nat.beq d DS = false := beq_ne (by have := G.le; omega)
    simpa only [look0, this, cond_false] using hl
  have hsz : d < a.tmps.size := by rw [G.size]; exact hd
  show (a.tmps.setIfInBounds d v')[t]? = _
  obtain ⟨hne0, hl⟩ := look_at hl
  simp only [look0] at hl
  cases hb : Nat.beq d t with
  | true =>
    rw [hb] at hl
    have : d = t := Nat.eq_of_beq_eq_true hb
    subst this
    simp only [cond_true, Option.some.injEq, Prod.mk.injEq] at hl
    obtain ⟨rfl, rfl⟩ := hl
    rw [Array.getElem?_setIfInBounds_self_of_lt hsz, hv]
  | false =>
    rw [hb] at hl
    have hne : d ≠ t := Nat.ne_of_beq_eq_false hb
    rw [Array.getElem?_setIfInBounds_ne hne]
    exact G.fr t c' u (by rw [look_of hne0]; exact hl)
theorem Good.put {a : Act} {w w' : World} {L' : List Res} (G : Good K F L a w) (d : Nat) (c : Bool) (v v' : Value) (hd : d < K.n) (hv : v' = (bif c then v else undef)) (h : WInv K L' w') : Good K ((d, c, v) :: F) L' (a.put (some d) v') w' :=
  ⟨G.fo.put d c v v' hd hv, h⟩
theorem Good.world {a : Act} {w w' : World} {L' : List Res} (G : Good K F L a w) (h : WInv K L' w') : Good K F L' a w' := ⟨G.fo, h⟩
def Sub (F F' : Fr) : Prop := ∀ t e, look0 F' t = some e → look0 F t = some e
theorem Sub.nil : Sub F [] := fun t e h => by simp [look0] at h
theorem Sub.cons {t : Nat} {e : Bool × Value} {F' : Fr} (h1 : look0 F t = some e) (ih : Sub F F') : Sub F ((t, e) :: F') := fun s e' h => by
  simp only [look0] at h
  cases hb : Nat.beq t s with
  | true =>
    rw [hb] at h
    have : t = s := Nat.eq_of_beq_eq_true hb
    subst this
    simp only [cond_true, Option.some.injEq] at h
    rw [← h]; exact h1
  | false => rw [hb] at h; exact ih s e' h
theorem Good.sub {a : Act} {w : World} {F' : Fr} {L' : List Res} (G : Good K F L a w) (hF : Sub F F') (hL : L'.Sublist L) : Good K F' L' a w :=
  ⟨⟨G.fo.size, G.fo.le, fun c v h => G.fo.defers c v (hF _ _ h), fun t c v h => by
    obtain ⟨h1, h2⟩ := look_at h
    exact G.fo.fr t c v (by rw [look_of h1]; exact hF t _ h2)⟩, G.inv.sub hL⟩
theorem Sat.sub {X : Act → World → Prop} {F' : Fr} {L' : List Res} (hF : Sub F F') (hL : L'.Sublist L) (h : Sat K X F' L') : Sat K X F L := fun a w G => h a w (G.sub hF hL)
def Opd (F : Fr) (g : Bool) (x : Operand) (v : Value) : Prop :=
  match x with
  | .tmp t => ∃ c, look F t = some (c, v) ∧ (g = true → c = true)
  | .const u => u = v
  | .func f => v = .func (.func f) #[] #[]
  | .global n => v = .pointer (some ⟨n, 0, none⟩)
theorem Opd.t {g : Bool} {t : Nat} {v : Value} (h : look F t = some (true, v)) : Opd F g (.tmp t) v := ⟨true, h, fun _ => rfl⟩
theorem Opd.g {g : Bool} {t : Nat} {c : Bool} {v : Value} (h : look F t = some (c, v)) (hc : g = true → c = true) : Opd F g (.tmp t) v := ⟨c, h, hc⟩
theorem Opd.c {g : Bool} {u v : Value} (h : u = v) : Opd F g (.const u) v := h
theorem Opd.f {g : Bool} {f : Nat} : Opd F g (.func f) (.func (.func f) #[] #[]) := rfl
theorem Opd.eval {g : Bool} {x : Operand} {v : Value} (h : Opd F g x v) (hg : g = true) {a : Act} (G : FrOK K F a) : a.eval x = v := by
  cases x with
  | tmp t =>
    obtain ⟨c, h, hc⟩ := h
    have h1 := G.fr _ _ _ h
    rw [hc hg] at h1
    simp only [cond_true] at h1
    simp [Act.eval, h1]
  | const u => exact h
  | func f => exact h.symm
  | global n => exact h.symm
def enumF : Nat → List Value → Fr
  | _, [] => []
  | i, v :: vs => (i, true, v) :: enumF (i + 1) vs
theorem look_enumF : ∀ (vs : List Value) (i t : Nat) (c : Bool) (v : Value), look0 (enumF i vs) t = some (c, v) → c = true ∧ i ≤ t ∧ vs[t - i]? = some v
  | [], _, _, _, _, h => by simp [enumF, look0] at h
  | u :: vs, i, t, c, v, h => by
    simp only [enumF, look0] at h
    cases hb : Nat.beq i t with
    | true =>
      rw [hb] at h
      have : i = t := Nat.eq_of_beq_eq_true hb
      subst this
      simp only [cond_true, Option.some.injEq, Prod.mk.injEq] at h
      obtain ⟨rfl, rfl⟩ := h
      exact ⟨rfl, Nat.le_refl _, by simp⟩
    | false =>
      rw [hb] at h
      have hne : i ≠ t := Nat.ne_of_beq_eq_false hb
      obtain ⟨h1, h2, h3⟩ := look_enumF vs (i + 1) t c v h
      refine ⟨h1, by omega, ?_⟩
      rw [show t - i = (t - (i + 1)) + 1 by omega]
      simpa using h3
theorem enter {f : FuncId} {fn : Func} {c : Code} {args : Array Value} {w : World} {R : Ending → World → Prop} (M : Nat → Prop) (n : Nat) (L : List Res)
    (hf : P.funcs[f]? = some fn) (hb : fn.body = some c) (hn : fn.ntmps = n) (hsz : args.size ≤ n) (hL : WInv ⟨n, w, M⟩ L w)
    (h : Sat ⟨n, w, M⟩ (c.wp P (bodyPost P fn R)) (dz :: enumF 0 args.toList) L) (hn2 : Nat.ble n 1000000 = true := by rfl) : Calls P f args w R := by
  refine calls_of_wp hf hb (h _ _ ⟨⟨?_, Nat.le_of_ble_eq_true hn2, ?_, ?_⟩, hL⟩)
  · simp only [Array.size_append, Array.size_replicate]; show args.size + (fn.ntmps - args.size) = n; omega
  · intro c v hl
    have e : look0 (dz :: enumF 0 args.toList) DS = some (true, mkV []) := rfl
    rw [e] at hl
    cases hl
    exact ⟨[], rfl, rfl⟩
  · intro t c v hl
    obtain ⟨hne, hl⟩ := look_at hl
    have e : look0 (dz :: enumF 0 args.toList) t = look0 (enumF 0 args.toList) t := by
      have : Nat.beq 1000000 t = false := beq_ne (fun e => hne e.symm)
      simp only [look0, this, cond_false]
    rw [e] at hl
    obtain ⟨rfl, _, h3⟩ := look_enumF _ _ _ _ _ hl
    simp only [Nat.sub_zero] at h3
    rw [Array.getElem?_append_left (by
      have := List.getElem?_eq_some_iff.1 h3
      obtain ⟨h4, _⟩ := this
      simpa using h4)]
    simpa using h3
theorem enter0 {f : FuncId} {fn : Func} {c : Code} {args : Array Value} {w : World} {R : Ending → World → Prop} (n : Nat)
    (hf : P.funcs[f]? = some fn) (hb : fn.body = some c) (hn : fn.ntmps = n) (hsz : args.size ≤ n)
    (h : Sat ⟨n, w, Nope⟩ (c.wp P (bodyPost P fn R)) (dz :: enumF 0 args.toList) []) (hn2 : Nat.ble n 1000000 = true := by rfl) : Calls P f args w R :=
  enter Nope n [] hf hb hn hsz WInv.start h hn2
def RV (P : Program) (K : Ctx) (F : Fr) (L : List Res) : List ResultVar → List Value → Prop
  | [], vs => vs = []
  | .tmp t :: rs, vs => ∃ v us, vs = v :: us ∧ look F t = some (true, v) ∧ RV P K F L rs us
  | .cell t ty :: rs, vs => ∃ v us p, vs = v :: us ∧ look F t = some (true, .pointer (some p)) ∧ (∀ w, WInv K L w → (loadVar ty p).run P w = .ok v w) ∧ RV P K F L rs us
theorem RV.nil : RV P K F L [] [] := rfl
theorem RV.tmp {t : Nat} {v : Value} {rs : List ResultVar} {vs : List Value} (h : look F t = some (true, v)) (hr : RV P K F L rs vs) : RV P K F L (.tmp t :: rs) (v :: vs) := ⟨v, vs, rfl, h, hr⟩
theorem RV.cell {t : Nat} {ty : TypeId} {p : Addr} {v : Value} {rs : List ResultVar} {vs : List Value} (h : look F t = some (true, .pointer (some p)))
    (hl : ∀ w, WInv K L w → (loadVar ty p).run P w = .ok v w) (hr : RV P K F L rs vs) : RV P K F L (.cell t ty :: rs) (v :: vs) := ⟨v, vs, p, rfl, h, hl, hr⟩
def tupV : List Value → Value
  | [v] => v
  | vs => .tuple vs.toArray
@[simp] theorem tupV_one (v : Value) : tupV [v] = v := rfl
@[simp] theorem tupV_two (v u : Value) : tupV [v, u] = .tuple #[v, u] := rfl
@[simp] theorem tupV_three (v u x : Value) : tupV [v, u, x] = .tuple #[v, u, x] := rfl
def rvSem (a : Act) : ResultVar → Sem Value
  | .tmp t => pure (a.tmps.getD t undef)
  | .cell s t => do loadVar t (← asAddr (a.tmps.getD s undef))
theorem RV.run : ∀ {rs : List ResultVar} {vs : List Value}, RV P K F L rs vs → ∀ {a : Act} {w : World}, Good K F L a w →
    (rs.mapM (rvSem a)).run P w = .ok vs w
  | [], vs, h, a, w, _ => by rw [show vs = [] from h]; rfl
  | .tmp t :: rs, vs, h, a, w, G => by
    obtain ⟨v, us, rfl, h, hr⟩ := h
    have h1 := G.fo.fr _ _ _ h
    simp only [cond_true] at h1
    simp only [List.mapM_cons, Sem.run_bind, RV.run hr G, Result.andThen_ok, Sem.run_pure, rvSem, Array.getD_eq_getD_getElem?, h1, Option.getD_some]
  | .cell t ty :: rs, vs, h, a, w, G => by
    obtain ⟨v, us, p, rfl, h, hl, hr⟩ := h
    have h1 := G.fo.fr _ _ _ h
    simp only [cond_true] at h1
    simp only [List.mapM_cons, Sem.run_bind, RV.run hr G, Result.andThen_ok, Sem.run_pure, rvSem, Array.getD_eq_getD_getElem?, h1, Option.getD_some, asAddr, hl w G.inv]
theorem results_of_RV {fn : Func} {rs : List ResultVar} {vs : List Value} (hr : fn.results = rs.toArray) (h : RV P K F L rs vs) {a : Act} {w : World} (G : Good K F L a w) :
    (results fn a.tmps).run P w = .ok (tupV vs) w := by
  have h1 := h.run G
  have e : results fn a.tmps = (do
      let vs ← fn.results.mapM (rvSem a)
      pure (if h : vs.size = 1 then vs[0] else .tuple vs)) := rfl
  rw [e, hr, List.mapM_toArray]
  simp only [Sem.run_bind, Sem.run_map, h1, Result.andThen_ok, Sem.run_pure]
  match vs with
  | [] => rfl
  | [v] => rfl
  | v :: u :: vs => simp [tupV]
theorem no_defers (hD : look0 F 1000000 = some (true, mkV [])) {a : Act} (G : FrOK K F a) : a.defers = [] := by
  obtain ⟨m, h1, h2⟩ := G.defers _ _ hD
  rw [← mkV_inj h1] at h2
  exact h2
theorem done {fn : Func} {R : Ending → World → Prop} {rs : List ResultVar} {vs : List Value} (hr : fn.results = rs.toArray) (h : RV P K F L rs vs)
    (hR : ∀ w, WInv K L w → R (.returned (tupV vs)) w) (hD : look0 F 1000000 = some (true, mkV []) := by rfl) : Sat K (bodyPost P fn R .ret) F L :=
  fun a w G => ⟨no_defers hD G.fo, _, results_of_RV hr h G, hR w G.inv⟩
theorem done' {fn : Func} {R : Ending → World → Prop} {rs : List ResultVar} {vs : List Value} (hr : fn.results = rs.toArray) (h : RV P K F L rs vs)
    (hR : ∀ w, WInv K L w → R (.returned (tupV vs)) w) (hD : look0 F 1000000 = some (true, mkV []) := by rfl) : Sat K (bodyPost P fn R .normal) F L :=
  fun a w G => ⟨no_defers hD G.fo, _, results_of_RV hr h G, hR w G.inv⟩
variable {Q : Exit → Act → World → Prop} {N : Act → World → Prop}
theorem seq {x y : Code} (h : Sat K (x.wp P (Exit.then (y.wp P Q) Q)) F L) : Sat K ((Code.seq x y).wp P Q) F L := fun a w G => wp_seq (h a w G)
theorem skip (h : Sat K (Q .normal) F L) : Sat K (Code.skip.wp P Q) F L := fun a w G => wp_skip (h a w G)
theorem exit {id : Nat} (h : Sat K (Q (.exit id)) F L) : Sat K ((Code.exit id).wp P Q) F L := fun a w G => wp_exit (h a w G)
theorem ret (h : Sat K (Q .ret) F L) : Sat K (Code.ret.wp P Q) F L := fun a w G => wp_ret (h a w G)
theorem block {id : Nat} {c : Code} (h : Sat K (c.wp P (Exit.inBlock id Q)) F L) : Sat K ((Code.block id c).wp P Q) F L := fun a w G => wp_block (h a w G)
theorem region {id : Nat} {l : List Oper} (h : Sat K (wpList P l.toArray Q l) F L) : Sat K ((Code.region id l.toArray false).wp P Q) F L := fun a w G => wp_region_lit (h a w G)
theorem nil {ops : Array Oper} (h : Sat K (Q .normal) F L) : Sat K (wpList P ops Q []) F L := fun a w G => wpList_nil (h a w G)
theorem pN (h : Sat K N F L) : Sat K (Exit.then N Q .normal) F L := h
theorem pX {id : Nat} (h : Sat K (Q (.exit id)) F L) : Sat K (Exit.then N Q (.exit id)) F L := h
theorem pR (h : Sat K (Q .ret) F L) : Sat K (Exit.then N Q .ret) F L := h
theorem bN {id : Nat} (h : Sat K (Q .normal) F L) : Sat K (Exit.inBlock id Q .normal) F L := h
theorem bR {id : Nat} (h : Sat K (Q .ret) F L) : Sat K (Exit.inBlock id Q .ret) F L := h
theorem bX {id : Nat} (h : Sat K (Q .normal) F L) : Sat K (Exit.inBlock id Q (.exit id)) F L := fun a w G => by
  show (if id = id then Q .normal a w else Q (.exit id) a w)
  rw [if_pos rfl]; exact h a w G
theorem cond {t : Nat} {b : Bool} {x y : Code} (hb : look F t = some (true, .bool b)) (h1 : b = true → Sat K (x.wp P Q) F L) (h2 : b = false → Sat K (y.wp P Q) F L) :
    Sat K ((Code.cond (.tmp t) x y).wp P Q) F L := fun a w G => by
  have hv : a.eval (.tmp t) = .bool b := (Opd.t hb : Opd F true (.tmp t) (.bool b)).eval rfl G.fo
  exact wp_cond_split hv (fun h => h1 h a w G) (fun h => h2 h a w G)
theorem condD {t : Nat} {p : Prop} [Decidable p] {x y : Code} (hb : look F t = some (true, .bool (decide p))) (h1 : p → Sat K (x.wp P Q) F L) (h2 : ¬ p → Sat K (y.wp P Q) F L) :
    Sat K ((Code.cond (.tmp t) x y).wp P Q) F L := cond hb (fun h => h1 (of_decide_eq_true h)) (fun h => h2 (of_decide_eq_false h))
theorem condT {t : Nat} {x y : Code} {b : Bool} (hb : look F t = some (true, .bool b)) (hc : b = true) (h1 : Sat K (x.wp P Q) F L) :
    Sat K ((Code.cond (.tmp t) x y).wp P Q) F L := cond hb (fun _ => h1) (fun h => by rw [hc] at h; cases h)
theorem condF {t : Nat} {x y : Code} {b : Bool} (hb : look F t = some (true, .bool b)) (hc : b = false) (h1 : Sat K (y.wp P Q) F L) :
    Sat K ((Code.cond (.tmp t) x y).wp P Q) F L := cond hb (fun h => by rw [hc] at h; cases h) (fun _ => h1)
theorem loop {X : Type} {c : Code} (J : X → Prop) (Fx : X → Fr) (Lx : X → List Res) (μ : X → Nat) (x0 : X) (h0 : J x0) (hF : Sub F (Fx x0)) (hL : (Lx x0).Sublist L)
    (round : ∀ x, J x → Sat K (c.wp P (Exit.then (fun a w => ∃ x', J x' ∧ μ x' < μ x ∧ Good K (Fx x') (Lx x') a w) Q)) (Fx x) (Lx x)) :
    Sat K ((Code.loop c).wp P Q) F L := fun a w G => by
  refine wp_loop_ghost (fun m a w => ∃ x, μ x = m ∧ J x ∧ Good K (Fx x) (Lx x) a w) (μ x0) ⟨x0, rfl, h0, G.sub hF hL⟩ ?_
  rintro m a w ⟨x, rfl, hx, Gx⟩
  refine wp_mono (round x hx a w Gx) ?_
  intro e a' w' hq
  cases e with
  | normal =>
    obtain ⟨x', hJ, hlt, G'⟩ := hq
    exact ⟨μ x', hlt, x', rfl, hJ, G'⟩
  | _ => exact hq
theorem next {X : Type} {J : X → Prop} {Fx : X → Fr} {Lx : X → List Res} {μ : X → Nat} {x : X} (x' : X) (hJ : J x') (hlt : μ x' < μ x) (hF : Sub F (Fx x')) (hL : (Lx x').Sublist L) :
    Sat K (fun a w => ∃ x', J x' ∧ μ x' < μ x ∧ Good K (Fx x') (Lx x') a w) F L := fun _ _ G => ⟨x', hJ, hlt, G.sub hF hL⟩
theorem cut {X : Type} {x y : Code} (J : X → Prop) (Fx : X → Fr) (Lx : X → List Res)
    (h1 : Sat K (x.wp P (Exit.then (fun a w => ∃ x', J x' ∧ Good K (Fx x') (Lx x') a w) Q)) F L) (h2 : ∀ x', J x' → Sat K (y.wp P Q) (Fx x') (Lx x')) :
    Sat K ((Code.seq x y).wp P Q) F L := fun a w G => by
  refine wp_seq (wp_mono (h1 a w G) ?_)
  intro e a' w' hq
  cases e with
  | normal =>
    obtain ⟨x', hJ, G'⟩ := hq
    exact h2 x' hJ a' w' G'
  | _ => exact hq
theorem meet {X : Type} {J : X → Prop} {Fx : X → Fr} {Lx : X → List Res} (x' : X) (hJ : J x') (hF : Sub F (Fx x')) (hL : (Lx x').Sublist L) :
    Sat K (fun a w => ∃ x', J x' ∧ Good K (Fx x') (Lx x') a w) F L := fun _ _ G => ⟨x', hJ, G.sub hF hL⟩
def opThen (P : Program) (ops : Array Oper) (Q : Exit → Act → World → Prop) (o : Oper) (N : Act → World → Prop) (a : Act) (w : World) : Prop :=
  if Region.wanted o (yielded ops a.tmps) then o.wp P a w N Q ∨ (o.asks P a w ∧ LetsOut Q) else N (a.put o.dst undef) w
variable {ops : Array Oper} {o : Oper} {rest : List Oper}
theorem cons (h : Sat K (opThen P ops Q o (wpList P ops Q rest)) F L) : Sat K (wpList P ops Q (o :: rest)) F L := h
theorem opThen_plain {a : Act} {w : World} (hg : o.guard = none) (h : o.wp P a w N Q) : opThen P ops Q o N a w := by
  unfold opThen
  rw [if_pos (by simp [Region.wanted, hg])]
  exact .inl h
def Ev (P : Program) (K : Ctx) (F : Fr) (L : List Res) (g : Bool) (op : Op) (ty : TypeId) (v : Value) : Prop :=
  g = true → ∀ a, FrOK K F a → ∀ w, WInv K L w → ∀ dst pos af gd, (execOp a.eval ⟨dst, op, ty, pos, af, gd⟩).run P w = .ok (.value v) w
variable {op : Op} {ty : TypeId} {pos : String} {af : Array Edge} {v : Value} {d : Nat}
theorem opv (h : Ev P K F L true op ty v) (next : Sat K N ((d, true, v) :: F) L) (hd : Nat.blt d K.n = true := by rfl) : Sat K (opThen P ops Q ⟨some d, op, ty, pos, af, none⟩ N) F L := fun a w G => by
  refine opThen_plain rfl ?_
  unfold Oper.wp
  rw [h rfl a G.fo w G.inv]
  exact next _ _ (G.put d true v v (by simpa [Nat.blt_eq] using hd) rfl G.inv)
theorem yielded_of {j tg : Nat} {c1 c2 : Bool} {a : Act} (hj : (ops[j]?).bind (·.dst) = some tg) (hg : look F tg = some (c1, .bool c2)) (G : FrOK K F a) :
    yielded ops a.tmps j = bif c1 then some c2 else none := by
  have h1 := G.fr _ _ _ hg
  unfold yielded
  rw [hj]
  simp only [Option.bind_some, h1]
  cases c1 <;> rfl
theorem wanted_of {j tg : Nat} {want c1 c2 : Bool} {a : Act} (hgd : o.guard = some (j, want)) (hj : (ops[j]?).bind (·.dst) = some tg) (hg : look F tg = some (c1, .bool c2)) (G : FrOK K F a) :
    Region.wanted o (yielded ops a.tmps) = (c1 && (c2 == want)) := by
  unfold Region.wanted
  rw [hgd]
  simp only [yielded_of hj hg G]
  cases c1 <;> cases c2 <;> cases want <;> rfl
theorem opg {j tg : Nat} {want c1 c2 : Bool} (hj : (ops[j]?).bind (·.dst) = some tg) (hg : look F tg = some (c1, .bool c2))
    (h : Ev P K F L (c1 && (c2 == want)) op ty v) (next : Sat K N ((d, (c1 && (c2 == want)), v) :: F) L) (hd : Nat.blt d K.n = true := by rfl) :
    Sat K (opThen P ops Q ⟨some d, op, ty, pos, af, some (j, want)⟩ N) F L := fun a w G => by
  unfold opThen
  rw [wanted_of rfl hj hg G.fo]
  have hd' : d < K.n := by simpa [Nat.blt_eq] using hd
  cases hc : (c1 && (c2 == want)) with
  | true =>
    rw [if_pos rfl]
    refine .inl ?_
    unfold Oper.wp
    rw [h hc a G.fo w G.inv]
    rw [hc] at next
    exact next _ _ (G.put d true v v hd' rfl G.inv)
  | false =>
    rw [if_neg Bool.false_ne_true]
    rw [hc] at next
    exact next _ _ (G.put d false v undef hd' rfl G.inv)
def PanicOK (Q : Exit → Act → World → Prop) : Prop := ∀ c d v a w, Q (.panic c) (a.put d v) w → Q (.panic c) a w
abbrev heldX (P : Program) (K : Ctx) (ops : Array Oper) (Q : Exit → Act → World → Prop) (Lq : List Res) (fuel : Nat) (listed : Array Bool) : Act → World → Prop :=
  wpAnyH P .any ops (NoPanic Q) (fun w => WInv K Lq w) fuel listed
theorem draw {id : Nat} {l : List Oper} (Lq : List Res) (hm : P.follows .mixedOrders = true)
    (h : Sat K (heldX P K l.toArray Q Lq l.toArray.size (Array.replicate l.toArray.size false)) F L) : Sat K ((Code.region id l.toArray true).wp P Q) F L := fun a w G => by
  refine wp_region_noPanic (wp_region_held (S := fun w => WInv K Lq w) hm ?_)
  exact h a _ (G.world (G.inv.grow (Keeps.drew _ _)))
theorem take {Lq : List Res} {fuel : Nat} {listed : Array Bool} (i : Nat) (hi : ops[i]? = some ⟨some d, op, ty, pos, af, none⟩) (hs : Region.noSelect ops = true)
    (hf : Region.free .any ops listed i = true) (hr : (Region.ready .any ops listed).contains i = true) (hL : Lq.Sublist L)
    (h : Ev P K F Lq true op ty v) (next : Sat K (heldX P K ops Q Lq fuel (listed.setIfInBounds i true)) ((d, true, v) :: F) L) (hd : Nat.blt d K.n = true := by rfl) :
    Sat K (heldX P K ops Q Lq (fuel + 1) listed) F L := fun a w G => by
  refine wpAnyH_take (v := v) hi hs hf hr (fun c a w h => h) (.inl ⟨by simp [Region.wanted], fun w' hw' => h rfl a G.fo w' hw' _ _ _ _⟩) (G.inv.sub hL) ?_
  exact next _ _ (G.put d true v v (by simpa [Nat.blt_eq] using hd) rfl G.inv)
theorem takeg {Lq : List Res} {fuel : Nat} {listed : Array Bool} {j tg : Nat} {want c1 c2 : Bool} (i : Nat) (hi : ops[i]? = some ⟨some d, op, ty, pos, af, some (j, want)⟩) (hs : Region.noSelect ops = true)
    (hf : Region.free .any ops listed i = true) (hr : (Region.ready .any ops listed).contains i = true) (hL : Lq.Sublist L)
    (hj : (ops[j]?).bind (·.dst) = some tg) (hg : look F tg = some (c1, .bool c2))
    (h : Ev P K F Lq (c1 && (c2 == want)) op ty v) (next : Sat K (heldX P K ops Q Lq fuel (listed.setIfInBounds i true)) ((d, (c1 && (c2 == want)), v) :: F) L) (hd : Nat.blt d K.n = true := by rfl) :
    Sat K (heldX P K ops Q Lq (fuel + 1) listed) F L := fun a w G => by
  have hw := wanted_of (o := ⟨some d, op, ty, pos, af, some (j, want)⟩) rfl hj hg G.fo
  have hd' : d < K.n := by simpa [Nat.blt_eq] using hd
  cases hc : (c1 && (c2 == want)) with
  | true =>
    rw [hc] at hw
    rw [hc] at next
    refine wpAnyH_take (v := v) hi hs hf hr (fun c a w h => h) (.inl ⟨hw, fun w' hw' => h hc a G.fo w' hw' _ _ _ _⟩) (G.inv.sub hL) ?_
    exact next _ _ (G.put d true v v hd' rfl G.inv)
  | false =>
    rw [hc] at hw
    rw [hc] at next
    refine wpAnyH_take (v := undef) hi hs hf hr (fun c a w h => h) (.inr ⟨hw, rfl⟩) (G.inv.sub hL) ?_
    exact next _ _ (G.put d false v undef hd' rfl G.inv)
def heldN (P : Program) (K : Ctx) (ops : Array Oper) (Q : Exit → Act → World → Prop) (Lq : List Res) (fuel : Nat) (listed : Array Bool) (a : Act) (w : World) : Prop :=
  WInv K Lq w ∧ heldX P K ops Q Lq fuel listed a w
theorem heldN_of {Lq : List Res} {fuel : Nat} {listed : Array Bool} (hL : Lq.Sublist L) (h : Sat K (heldX P K ops Q Lq fuel listed) F L) : Sat K (heldN P K ops Q Lq fuel listed) F L :=
  fun a w G => ⟨G.inv.sub hL, h a w G⟩
def Each (K : Ctx) (F : Fr) (L : List Res) (P : Program) (ops : Array Oper) (Q : Exit → Act → World → Prop) (Lq : List Res) (fuel : Nat) (listed : Array Bool) (rs : List Nat) : Prop :=
  ∀ i ∈ rs, ∃ o, ops[i]? = some o ∧ Sat K (opThen P ops (NoPanic Q) o (heldN P K ops Q Lq fuel (listed.setIfInBounds i true))) F L
theorem Each.nil {Lq : List Res} {fuel : Nat} {listed : Array Bool} : Each K F L P ops Q Lq fuel listed [] := fun _ h => absurd h List.not_mem_nil
theorem Each.cons {Lq : List Res} {fuel : Nat} {listed : Array Bool} {i : Nat} {rs : List Nat} {o : Oper} (ho : ops[i]? = some o) (h : Sat K (opThen P ops (NoPanic Q) o (heldN P K ops Q Lq fuel (listed.setIfInBounds i true))) F L)
    (hr : Each K F L P ops Q Lq fuel listed rs) : Each K F L P ops Q Lq fuel listed (i :: rs) := fun j hj => by
  rcases List.mem_cons.1 hj with rfl | hj
  · exact ⟨o, ho, h⟩
  · exact hr j hj
theorem all {Lq : List Res} {fuel : Nat} {listed : Array Bool} (rs : List Nat) (hr : Region.ready .any ops listed = rs) (hne : rs ≠ [])
    (h : Each K F L P ops Q Lq fuel listed rs) : Sat K (heldX P K ops Q Lq (fuel + 1) listed) F L := fun a w G => by
  refine wpAnyH_all hr hne ?_
  intro i hi
  obtain ⟨o, ho, hs⟩ := h i hi
  have := hs a w G
  unfold wpOp
  rw [ho]
  exact this
theorem over {Lq : List Res} {fuel : Nat} {listed : Array Bool} (hr : Region.ready .any ops listed = []) (h : Sat K (Q .normal) F L) :
    Sat K (heldX P K ops Q Lq fuel listed) F L := fun a w G => wpAnyH_done hr (NoPanic.normal (h a w G)) fuel
def Opds (F : Fr) (g : Bool) : List Operand → List Value → Prop
  | [], vs => vs = []
  | x :: xs, vs => ∃ v us, vs = v :: us ∧ Opd F g x v ∧ Opds F g xs us
theorem Opds.nil {g : Bool} : Opds F g [] [] := rfl
theorem Opds.cons {g : Bool} {x : Operand} {v : Value} {xs : List Operand} {vs : List Value} (h : Opd F g x v) (hs : Opds F g xs vs) : Opds F g (x :: xs) (v :: vs) := ⟨v, vs, rfl, h, hs⟩
theorem Opds.eval {g : Bool} : ∀ {xs : List Operand} {vs : List Value}, Opds F g xs vs → g = true → ∀ {a : Act}, FrOK K F a → xs.map a.eval = vs
  | [], _, h, _, _, _ => by rw [show _ = [] from h]; rfl
  | x :: xs, vs, h, hg, a, G => by
    obtain ⟨v, us, rfl, h, hs⟩ := h
    simp [h.eval hg G, Opds.eval hs hg G]
structure Enters (P : Program) (f : FuncId) : Prop where
  fn : ∃ fn, P.funcs[f]? = some fn ∧ (fn.name == "runtime.NumGoroutine") = false ∧ fn.body.isNone = false
theorem Enters.mk' {f : FuncId} (h : (P.funcs[f]?).map (fun fn => (fn.name == "runtime.NumGoroutine", fn.body.isNone)) = some (false, false)) : Enters P f := by
  cases hf : P.funcs[f]? with
  | none => rw [hf] at h; cases h
  | some fn =>
    rw [hf] at h
    simp only [Option.map_some, Option.some.injEq, Prod.mk.injEq] at h
    exact ⟨fn, hf, h.1, h.2⟩
theorem run_callFunc_enter {f : FuncId} (h : Enters P f) (args : Array Value) (w : World) : (callFunc f args).run P w = .ok (.enter f args) w := by
  obtain ⟨fn, h1, h2, h3⟩ := h.fn
  have h4 : ¬ (fn.name == "runtime.NumGoroutine") = true := by rw [h2]; exact Bool.false_ne_true
  have h5 : ¬ fn.body.isNone = true := by rw [h3]; exact Bool.false_ne_true
  simp only [callFunc, Sem.run_bind, run_program, Result.andThen_ok, h1, if_neg h4, if_neg h5, Sem.run_pure]
def Ret (w : World) (Φ : Value → World → Prop) : Ending → World → Prop := fun e w' => ∃ v, e = .returned v ∧ Keeps Nope w w' ∧ Φ v w'
def RetV (w : World) (v : Value) : Ending → World → Prop := fun e w' => e = .returned v ∧ Keeps Nope w w'
theorem exec_call {f : FuncId} {args : List Operand} {ats : Array TypeId} {vs : List Value} {g : Bool} (hen : Enters P f) (hargs : Opds F g args vs) (hg : g = true) {a : Act} (G : FrOK K F a) (w : World) {dst : Option Tmp} {gd : Option (Nat × Bool)} :
    (execOp a.eval ⟨dst, .call { callee := .value (.func f), args := args.toArray, argTypes := ats }, ty, pos, af, gd⟩).run P w = .ok (.enter f vs.toArray) w := by
  have h1 := hargs.eval hg G
  simp [execOp, resolve, Deferred.ofValue, invoke, Act.eval, run_callFunc_enter hen, h1]
theorem callx {X : Type} {f : FuncId} {args : List Operand} {ats : Array TypeId} {vs : List Value} (J : X → Prop) (val : X → Value) (Lx : X → List Res) (hen : Enters P f) (hargs : Opds F true args vs)
    (hC : ∀ w, WInv K L w → Calls P f vs.toArray w fun e w' => ∃ x, J x ∧ e = .returned (val x) ∧ WInv K (Lx x) w')
    (next : ∀ x, J x → Sat K N ((d, true, val x) :: F) (Lx x)) (hd : Nat.blt d K.n = true := by rfl) :
    Sat K (opThen P ops Q ⟨some d, .call { callee := .value (.func f), args := args.toArray, argTypes := ats }, ty, pos, af, none⟩ N) F L := fun a w G => by
  refine opThen_plain rfl ?_
  unfold Oper.wp
  rw [exec_call hen hargs rfl G.fo]
  refine (hC w G.inv).mono ?_
  rintro e w' ⟨x, hJ, rfl, hw⟩
  exact next x hJ _ _ (G.put d true (val x) (val x) (by simpa [Nat.blt_eq] using hd) rfl hw)
theorem callv {f : FuncId} {args : List Operand} {ats : Array TypeId} {vs : List Value} {u : Value} (hen : Enters P f) (hargs : Opds F true args vs)
    (hC : ∀ w, WInv K L w → Calls P f vs.toArray w (RetV w u)) (next : Sat K N ((d, true, u) :: F) L) (hd : Nat.blt d K.n = true := by rfl) :
    Sat K (opThen P ops Q ⟨some d, .call { callee := .value (.func f), args := args.toArray, argTypes := ats }, ty, pos, af, none⟩ N) F L :=
  callx (X := Unit) (fun _ => True) (fun _ => u) (fun _ => L) hen hargs (fun w hw => (hC w hw).mono fun e w' ⟨he, hk⟩ => ⟨(), trivial, he, hw.grow hk⟩) (fun _ _ => next) hd
theorem callg {f : FuncId} {args : List Operand} {ats : Array TypeId} {vs : List Value} {u : Value} {j tg : Nat} {want c1 c2 : Bool} (hj : (ops[j]?).bind (·.dst) = some tg) (hg : look F tg = some (c1, .bool c2))
    (hen : Enters P f) (hargs : Opds F (c1 && (c2 == want)) args vs)
    (hC : (c1 && (c2 == want)) = true → ∀ w, WInv K L w → Calls P f vs.toArray w (RetV w u)) (next : Sat K N ((d, (c1 && (c2 == want)), u) :: F) L) (hd : Nat.blt d K.n = true := by rfl) :
    Sat K (opThen P ops Q ⟨some d, .call { callee := .value (.func f), args := args.toArray, argTypes := ats }, ty, pos, af, some (j, want)⟩ N) F L := fun a w G => by
  unfold opThen
  rw [wanted_of rfl hj hg G.fo]
  have hd' : d < K.n := by simpa [Nat.blt_eq] using hd
  cases hc : (c1 && (c2 == want)) with
  | true =>
    rw [if_pos rfl]
    refine .inl ?_
    unfold Oper.wp
    rw [exec_call hen hargs hc G.fo]
    refine (hC hc w G.inv).mono ?_
    rintro e w' ⟨rfl, hk⟩
    rw [hc] at next
    exact next _ _ (G.put d true u u hd' rfl (G.inv.grow hk))
  | false =>
    rw [if_neg Bool.false_ne_true]
    rw [hc] at next
    exact next _ _ (G.put d false u undef hd' rfl G.inv)
def News (w w' : World) (R : List Res) : Prop := (∀ r ∈ R, r.A w' ∧ ∀ b, r.foot b → w.heap.size ≤ b ∧ b < w'.heap.size) ∧ R.Pairwise Res.Disj
theorem callf {f : FuncId} {args : List Operand} {ats : Array TypeId} {vs : List Value} (J : Value → Prop) (R : Value → List Res) (hen : Enters P f) (hargs : Opds F true args vs)
    (hC : ∀ w, WInv K L w → Calls P f vs.toArray w (Ret w fun v w' => J v ∧ News w w' (R v))) (next : ∀ v, J v → Sat K N ((d, true, v) :: F) (R v ++ L)) (hd : Nat.blt d K.n = true := by rfl) :
    Sat K (opThen P ops Q ⟨some d, .call { callee := .value (.func f), args := args.toArray, argTypes := ats }, ty, pos, af, none⟩ N) F L :=
  callx J (fun v => v) (fun v => R v ++ L) hen hargs (fun w hw => (hC w hw).mono fun e w' ⟨v, he, hk, hJ, hR⟩ => ⟨v, hJ, he, hw.adds hk hR.1 hR.2⟩) next hd
end
theorem mH {a : Res} {l : List Res} : a ∈ a :: l := List.Mem.head _
theorem mT {a b : Res} {l : List Res} (h : a ∈ l) : a ∈ b :: l := List.Mem.tail _ h
theorem mA {a : Res} {l m : List Res} (h : a ∈ m) : a ∈ l ++ m := List.mem_append_right _ h
theorem sR {l : List Res} : l.Sublist l := List.Sublist.refl _
theorem sN {l : List Res} : List.Sublist [] l := List.nil_sublist _
theorem sC {a : Res} {l m : List Res} (h : l.Sublist m) : (a :: l).Sublist (a :: m) := List.Sublist.cons_cons _ h
theorem sS {a : Res} {l m : List Res} (h : l.Sublist m) : l.Sublist (a :: m) := List.Sublist.cons _ h
theorem sA {l m k : List Res} (h : l.Sublist m) : l.Sublist (k ++ m) := List.sublist_append_of_sublist_right h
end Go.Gx
