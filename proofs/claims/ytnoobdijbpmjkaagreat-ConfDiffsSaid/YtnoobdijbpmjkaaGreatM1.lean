/- Part 1 of the texts. -/
import Derived.OrdersHeld
import Derived.Tactics2
import Derived.Below
import Derived.Laws.AppendOwn
import Derived.Laws.Cells
import Derived.Deep.RegionHeld3
import Derived.Deep.LoopGhost
import Derived.KernelRfl
import Derived.Laws.CopyRow
import Derived.Laws.MakeOwn
import Derived.Laws.AppendOwnNone
import Derived.Laws.StructEq
import Derived.Laws.Build
import Derived.Lib.Bytealg
import Derived.Laws.Externs
import Derived.WalkKit
import Derived.ProofKit
import Derived.OpenShut
import Derived.ShutString
import Derived.ChangeOld
import Derived.SizedLaws
import Derived.JoinedCond
import Derived.Test.YtnoobdijbpmjkaaGreatRows
import Derived.Laws.Pointers
import Derived.Laws.BytesArg
import Derived.Laws.IdiomStrings
import Derived.Laws.Strings
import Derived.Maps.RangeRun
import Derived.Laws.RangeString
set_option linter.unusedVariables false
set_option linter.unusedSimpArgs false

/- A small kit of my own, over any program: symbolic states (what is known of a frame's slots, what blocks are owned), and one rule for each form of code. Part A: states, code, regions. -/
namespace Go.Gx
open Go Go.RowKit

/-- Blocks outside M are as they were. -/
structure Keeps (M : Nat → Prop) (w w' : World) : Prop where
  os : w'.os = w.os
  tape : w'.tape = w.tape
  output : w'.output = w.output
  size : w.heap.size ≤ w'.heap.size
  block : ∀ k, k < w.heap.size → ¬ M k → w'.heap[k]? = w.heap[k]?

def Nope : Nat → Prop := fun _ => False

theorem Keeps.refl (M : Nat → Prop) (w : World) : Keeps M w w := ⟨rfl, rfl, rfl, Nat.le_refl _, fun _ _ _ => rfl⟩

theorem Keeps.trans {M : Nat → Prop} {a b c : World} (h : Keeps M a b) (k : Keeps M b c) : Keeps M a c :=
  ⟨k.os.trans h.os, k.tape.trans h.tape, k.output.trans h.output, Nat.le_trans h.size k.size,
   fun i hi hm => (k.block i (Nat.lt_of_lt_of_le hi h.size) hm).trans (h.block i hi hm)⟩

/-- The second step may write blocks M', those of them that the first world had being in M. -/
theorem Keeps.trans' {M M' : Nat → Prop} {a b c : World} (h : Keeps M a b) (k : Keeps M' b c) (hm : ∀ i, i < a.heap.size → M' i → M i) : Keeps M a c :=
  ⟨k.os.trans h.os, k.tape.trans h.tape, k.output.trans h.output, Nat.le_trans h.size k.size,
   fun i hi hn => (k.block i (Nat.lt_of_lt_of_le hi h.size) (fun h' => hn (hm i hi h'))).trans (h.block i hi hn)⟩

theorem Keeps.mono {M M' : Nat → Prop} {a b : World} (h : Keeps M a b) (hm : ∀ i, M i → M' i) : Keeps M' a b :=
  ⟨h.os, h.tape, h.output, h.size, fun i hi hn => h.block i hi (fun h' => hn (hm i h'))⟩

theorem Keeps.below {w w' : World} (h : Keeps Nope w w') : Below w.heap.size w w' :=
  ⟨h.os, h.tape, h.output, h.size, fun k hk => h.block k hk (fun h => h)⟩

theorem Keeps.drew (M : Nat → Prop) (w : World) : Keeps M w { w with drawn := w.drawn + 1 } := ⟨rfl, rfl, rfl, Nat.le_refl _, fun _ _ _ => rfl⟩

theorem Keeps.alloc (M : Nat → Prop) (w : World) (o : Obj) : Keeps M w { w with heap := w.heap.push o } :=
  ⟨rfl, rfl, rfl, by simp, fun k hk _ => by simp [Array.getElem?_push, Nat.ne_of_lt hk]⟩

theorem Keeps.of_grown {w w' : World} {row : Option Nat} (h : w.grownBy w' row) : Keeps (fun k => row = some k) w w' :=
  ⟨h.os, h.tape, h.output, h.size, fun k hk hn => h.block k hk (fun e => hn e.symm)⟩

/-- What is owned: a statement on the world that hangs on the blocks of 'foot' alone. -/
structure Res where
  foot : Nat → Prop
  A : World → Prop
  st : ∀ w w', (∀ b, foot b → w'.heap[b]? = w.heap[b]?) → A w → A w'

def Res.Disj (r s : Res) : Prop := ∀ b, r.foot b → s.foot b → False

theorem Res.Disj.symm {r s : Res} (h : r.Disj s) : s.Disj r := fun b hs hr => h b hr hs

structure Ctx where
  n : Nat
  w0 : World
  M : Nat → Prop

structure WInv (K : Ctx) (L : List Res) (w : World) : Prop where
  keeps : Keeps K.M K.w0 w
  own : ∀ r ∈ L, r.A w ∧ ∀ b, r.foot b → (K.w0.heap.size ≤ b ∨ K.M b) ∧ b < w.heap.size
  dis : L.Pairwise Res.Disj

section
variable {K : Ctx} {L : List Res} {w w' : World}

theorem WInv.start {K : Ctx} : WInv K [] K.w0 := ⟨Keeps.refl _ _, (fun _ h => absurd h List.not_mem_nil), List.Pairwise.nil⟩

/-- Nothing that was there has turned. -/
theorem WInv.grow (h : WInv K L w) (k : Keeps Nope w w') : WInv K L w' :=
  ⟨h.keeps.trans' k (fun _ _ h => h.elim), fun r hr => by
    obtain ⟨ha, hf⟩ := h.own r hr
    exact ⟨r.st w w' (fun b hb => k.block b (hf b hb).2 (fun h => h)) ha, fun b hb => ⟨(hf b hb).1, Nat.lt_of_lt_of_le (hf b hb).2 k.size⟩⟩, h.dis⟩

/-- Something new besides. -/
theorem WInv.add (h : WInv K L w) (k : Keeps Nope w w') {r : Res} (ha : r.A w') (hf : ∀ b, r.foot b → w.heap.size ≤ b ∧ b < w'.heap.size) : WInv K (r :: L) w' := by
  have hs : K.w0.heap.size ≤ w.heap.size := h.keeps.size
  refine ⟨(h.grow k).keeps, ?_, ?_⟩
  · intro s hs'
    rcases List.mem_cons.1 hs' with rfl | hs'
    · exact ⟨ha, fun b hb => ⟨.inl (Nat.le_trans hs (hf b hb).1), (hf b hb).2⟩⟩
    · exact (h.grow k).own s hs'
  · refine List.pairwise_cons.2 ⟨fun s hs' b hb hsb => ?_, h.dis⟩
    have h1 := (hf b hb).1
    have h2 := ((h.own s hs').2 b hsb).2
    omega

/-- Several new things besides. -/
theorem WInv.adds (h : WInv K L w) (k : Keeps Nope w w') {R : List Res} (ha : ∀ r ∈ R, r.A w' ∧ ∀ b, r.foot b → w.heap.size ≤ b ∧ b < w'.heap.size) (hd : R.Pairwise Res.Disj) : WInv K (R ++ L) w' := by
  have hs : K.w0.heap.size ≤ w.heap.size := h.keeps.size
  refine ⟨(h.grow k).keeps, ?_, ?_⟩
  · intro s hs'
    rcases List.mem_append.1 hs' with hs' | hs'
    · obtain ⟨h1, h2⟩ := ha s hs'
      exact ⟨h1, fun b hb => ⟨.inl (Nat.le_trans hs (h2 b hb).1), (h2 b hb).2⟩⟩
    · exact (h.grow k).own s hs'
  · refine List.pairwise_append.2 ⟨hd, h.dis, fun r hr s hs' b hb hsb => ?_⟩
    have h1 := ((ha r hr).2 b hb).1
    have h2 := ((h.own s hs').2 b hsb).2
    omega

theorem WInv.sub {L' : List Res} (h : WInv K L w) (hs : L'.Sublist L) : WInv K L' w :=
  ⟨h.keeps, fun r hr => h.own r (hs.subset hr), h.dis.sublist hs⟩

/-- One thing becomes another, at its place. -/
def Upd (L : List Res) (r r' : Res) (L' : List Res) : Prop := ∃ A C, L = A ++ r :: C ∧ L' = A ++ r' :: C

theorem Upd.head {r r' : Res} {L : List Res} : Upd (r :: L) r r' (r' :: L) := ⟨[], L, rfl, rfl⟩
theorem Upd.tail {x r r' : Res} {L L' : List Res} (h : Upd L r r' L') : Upd (x :: L) r r' (x :: L') := by
  obtain ⟨A, C, rfl, rfl⟩ := h
  exact ⟨x :: A, C, rfl, rfl⟩

theorem Upd.mem {L L' : List Res} {r r' : Res} (h : Upd L r r' L') : r ∈ L := by
  obtain ⟨A, C, rfl, rfl⟩ := h
  simp

theorem Upd.cases_mem {L L' : List Res} {r r' : Res} (h : Upd L r r' L') (hd : L.Pairwise Res.Disj) : ∀ s ∈ L', s = r' ∨ (s ∈ L ∧ s.Disj r) := by
  obtain ⟨A, C, rfl, rfl⟩ := h
  obtain ⟨_, h2, h3⟩ := List.pairwise_append.1 hd
  obtain ⟨h4, _⟩ := List.pairwise_cons.1 h2
  intro s hs
  rcases List.mem_append.1 hs with h | h
  · exact .inr ⟨List.mem_append.2 (.inl h), h3 s h r List.mem_cons_self⟩
  · rcases List.mem_cons.1 h with h | h
    · exact .inl h
    · exact .inr ⟨List.mem_append.2 (.inr (List.mem_cons_of_mem _ h)), (h4 s h).symm⟩

theorem Upd.pairwise {L L' : List Res} {r r' : Res} (h : Upd L r r' L') (hd : L.Pairwise Res.Disj) (hx : ∀ s ∈ L, s.Disj r → s.Disj r') : L'.Pairwise Res.Disj := by
  obtain ⟨A, C, rfl, rfl⟩ := h
  obtain ⟨h1, h2, h3⟩ := List.pairwise_append.1 hd
  obtain ⟨h4, h5⟩ := List.pairwise_cons.1 h2
  refine List.pairwise_append.2 ⟨h1, List.pairwise_cons.2 ⟨fun s hs => (hx s (by simp [hs]) (h4 s hs).symm).symm, h5⟩, fun a ha s hs => ?_⟩
  rcases List.mem_cons.1 hs with rfl | hs
  · exact hx a (by simp [ha]) (h3 a ha r List.mem_cons_self)
  · exact h3 a ha s (List.mem_cons_of_mem _ hs)

theorem WInv.upd (h : WInv K L w) {L' : List Res} {r r' : Res} (hu : Upd L r r' L') (k : Keeps r.foot w w') (ha : r'.A w')
    (hf : ∀ b, r'.foot b → (r.foot b ∨ w.heap.size ≤ b) ∧ b < w'.heap.size) : WInv K L' w' := by
  have hs : K.w0.heap.size ≤ w.heap.size := h.keeps.size
  have hr := h.own r hu.mem
  refine ⟨h.keeps.trans' k (fun i hi hi' => ?_), ?_, ?_⟩
  · rcases (hr.2 i hi').1 with h1 | h1
    · omega
    · exact h1
  · intro s hs'
    rcases hu.cases_mem h.dis s hs' with rfl | ⟨h1, h2⟩
    · refine ⟨ha, fun b hb => ⟨?_, (hf b hb).2⟩⟩
      rcases (hf b hb).1 with h3 | h3
      · exact (hr.2 b h3).1
      · exact .inl (Nat.le_trans hs h3)
    · obtain ⟨h3, h4⟩ := h.own s h1
      exact ⟨s.st w w' (fun b hb => k.block b (h4 b hb).2 (fun h5 => h2 b hb h5)) h3, fun b hb => ⟨(h4 b hb).1, Nat.lt_of_lt_of_le (h4 b hb).2 k.size⟩⟩
  · refine hu.pairwise h.dis (fun s hs' hd b hb hb' => ?_)
    rcases (hf b hb').1 with h3 | h3
    · exact hd b hb h3
    · have := ((h.own s hs').2 b hb).2
      omega
end

/-! ### Frames -/
abbrev Fr := List (Nat × Bool × Value)

def look : Fr → Nat → Option (Bool × Value)
  | [], _ => none
  | (s, e) :: r, t => bif Nat.beq s t then some e else look r t

structure FrOK (K : Ctx) (F : Fr) (a : Act) : Prop where
  size : a.tmps.size = K.n
  defers : a.defers = []
  fr : ∀ t c v, look F t = some (c, v) → a.tmps[t]? = some (bif c then v else undef)

structure Good (K : Ctx) (F : Fr) (L : List Res) (a : Act) (w : World) : Prop where
  fo : FrOK K F a
  inv : WInv K L w

def Sat (K : Ctx) (X : Act → World → Prop) (F : Fr) (L : List Res) : Prop := ∀ a w, Good K F L a w → X a w

section
variable {K : Ctx} {F : Fr} {L : List Res} {P : Program}

theorem FrOK.put {a : Act} (G : FrOK K F a) (d : Nat) (c : Bool) (v v' : Value) (hd : d < K.n) (hv : v' = (bif c then v else undef)) : FrOK K ((d, c, v) :: F) (a.put (some d) v') := by
  refine ⟨by simp [Act.put, G.size], G.defers, fun t c' u hl => ?_⟩
  have hsz : d < a.tmps.size := by rw [G.size]; exact hd
  show (a.tmps.setIfInBounds d v')[t]? = _
  simp only [look] at hl
  cases hb : Nat.beq d t with
  | true =>
    rw [hb] at hl
    have : d = t := Nat.eq_of_beq_eq_true hb
    subst this
    simp only [cond_true, Option.some.injEq, Prod.mk.injEq] at hl
    obtain ⟨rfl, rfl⟩ := hl
    rw [Array.getElem?_setIfInBounds_self_of_lt hsz, hv]
  | false =>
    rw [hb] at hl
    have hne : d ≠ t := Nat.ne_of_beq_eq_false hb
    rw [Array.getElem?_setIfInBounds_ne hne]
    exact G.fr t c' u hl

theorem Good.put {a : Act} {w w' : World} {L' : List Res} (G : Good K F L a w) (d : Nat) (c : Bool) (v v' : Value) (hd : d < K.n) (hv : v' = (bif c then v else undef)) (h : WInv K L' w') : Good K ((d, c, v) :: F) L' (a.put (some d) v') w' :=
  ⟨G.fo.put d c v v' hd hv, h⟩
theorem Good.world {a : Act} {w w' : World} {L' : List Res} (G : Good K F L a w) (h : WInv K L' w') : Good K F L' a w' := ⟨G.fo, h⟩

/-- What is known of F' is known of F. -/
def Sub (F F' : Fr) : Prop := ∀ t e, look F' t = some e → look F t = some e

theorem Sub.nil : Sub F [] := fun t e h => by simp [look] at h
theorem Sub.cons {t : Nat} {e : Bool × Value} {F' : Fr} (h1 : look F t = some e) (ih : Sub F F') : Sub F ((t, e) :: F') := fun s e' h => by
  simp only [look] at h
  cases hb : Nat.beq t s with
  | true =>
    rw [hb] at h
    have : t = s := Nat.eq_of_beq_eq_true hb
    subst this
    simp only [cond_true, Option.some.injEq] at h
    rw [← h]; exact h1
  | false => rw [hb] at h; exact ih s e' h

theorem Good.sub {a : Act} {w : World} {F' : Fr} {L' : List Res} (G : Good K F L a w) (hF : Sub F F') (hL : L'.Sublist L) : Good K F' L' a w :=
  ⟨⟨G.fo.size, G.fo.defers, fun t c v h => G.fo.fr t c v (hF t _ h)⟩, G.inv.sub hL⟩

theorem Sat.sub {X : Act → World → Prop} {F' : Fr} {L' : List Res} (hF : Sub F F') (hL : L'.Sublist L) (h : Sat K X F' L') : Sat K X F L := fun a w G => h a w (G.sub hF hL)

/-- What an operand is. -/
def Opd (F : Fr) (g : Bool) (x : Operand) (v : Value) : Prop :=
  match x with
  | .tmp t => ∃ c, look F t = some (c, v) ∧ (g = true → c = true)
  | .const u => u = v
  | .func f => v = .func (.func f) #[] #[]
  | .global n => v = .pointer (some ⟨n, 0, none⟩)

theorem Opd.t {g : Bool} {t : Nat} {v : Value} (h : look F t = some (true, v)) : Opd F g (.tmp t) v := ⟨true, h, fun _ => rfl⟩
theorem Opd.g {g : Bool} {t : Nat} {c : Bool} {v : Value} (h : look F t = some (c, v)) (hc : g = true → c = true) : Opd F g (.tmp t) v := ⟨c, h, hc⟩
theorem Opd.c {g : Bool} {u v : Value} (h : u = v) : Opd F g (.const u) v := h
theorem Opd.f {g : Bool} {f : Nat} : Opd F g (.func f) (.func (.func f) #[] #[]) := rfl
theorem Opd.eval {g : Bool} {x : Operand} {v : Value} (h : Opd F g x v) (hg : g = true) {a : Act} (G : FrOK K F a) : a.eval x = v := by
  cases x with
  | tmp t =>
    obtain ⟨c, h, hc⟩ := h
    have h1 := G.fr _ _ _ h
    rw [hc hg] at h1
    simp only [cond_true] at h1
    simp [Act.eval, h1]
  | const u => exact h
  | func f => exact h.symm
  | global n => exact h.symm

/-! ### Entering and leaving -/
def enumF : Nat → List Value → Fr
  | _, [] => []
  | i, v :: vs => (i, true, v) :: enumF (i + 1) vs

theorem look_enumF : ∀ (vs : List Value) (i t : Nat) (c : Bool) (v : Value), look (enumF i vs) t = some (c, v) → c = true ∧ i ≤ t ∧ vs[t - i]? = some v
  | [], _, _, _, _, h => by simp [enumF, look] at h
  | u :: vs, i, t, c, v, h => by
    simp only [enumF, look] at h
    cases hb : Nat.beq i t with
    | true =>
      rw [hb] at h
      have : i = t := Nat.eq_of_beq_eq_true hb
      subst this
      simp only [cond_true, Option.some.injEq, Prod.mk.injEq] at h
      obtain ⟨rfl, rfl⟩ := h
      exact ⟨rfl, Nat.le_refl _, by simp⟩
    | false =>
      rw [hb] at h
      have hne : i ≠ t := Nat.ne_of_beq_eq_false hb
      obtain ⟨h1, h2, h3⟩ := look_enumF vs (i + 1) t c v h
      refine ⟨h1, by omega, ?_⟩
      rw [show t - i = (t - (i + 1)) + 1 by omega]
      simpa using h3

theorem enter {f : FuncId} {fn : Func} {c : Code} {args : Array Value} {w : World} {R : Ending → World → Prop} (M : Nat → Prop) (n : Nat) (L : List Res)
    (hf : P.funcs[f]? = some fn) (hb : fn.body = some c) (hn : fn.ntmps = n) (hsz : args.size ≤ n) (hL : WInv ⟨n, w, M⟩ L w)
    (h : Sat ⟨n, w, M⟩ (c.wp P (bodyPost P fn R)) (enumF 0 args.toList) L) : Calls P f args w R := by
  refine calls_of_wp hf hb (h _ _ ⟨⟨?_, rfl, ?_⟩, hL⟩)
  · simp only [Array.size_append, Array.size_replicate]; show args.size + (fn.ntmps - args.size) = n; omega
  · intro t c v hl
    obtain ⟨rfl, _, h3⟩ := look_enumF _ _ _ _ _ hl
    simp only [Nat.sub_zero] at h3
    rw [Array.getElem?_append_left (by
      have := List.getElem?_eq_some_iff.1 h3
      obtain ⟨h4, _⟩ := this
      simpa using h4)]
    simpa using h3

theorem enter0 {f : FuncId} {fn : Func} {c : Code} {args : Array Value} {w : World} {R : Ending → World → Prop} (n : Nat)
    (hf : P.funcs[f]? = some fn) (hb : fn.body = some c) (hn : fn.ntmps = n) (hsz : args.size ≤ n)
    (h : Sat ⟨n, w, Nope⟩ (c.wp P (bodyPost P fn R)) (enumF 0 args.toList) []) : Calls P f args w R :=
  enter Nope n [] hf hb hn hsz WInv.start h

/-- The result's value, slot by slot. -/
def RV (P : Program) (K : Ctx) (F : Fr) (L : List Res) : List ResultVar → List Value → Prop
  | [], vs => vs = []
  | .tmp t :: rs, vs => ∃ v us, vs = v :: us ∧ look F t = some (true, v) ∧ RV P K F L rs us
  | .cell t ty :: rs, vs => ∃ v us p, vs = v :: us ∧ look F t = some (true, .pointer (some p)) ∧ (∀ w, WInv K L w → (loadVar ty p).run P w = .ok v w) ∧ RV P K F L rs us

theorem RV.nil : RV P K F L [] [] := rfl
theorem RV.tmp {t : Nat} {v : Value} {rs : List ResultVar} {vs : List Value} (h : look F t = some (true, v)) (hr : RV P K F L rs vs) : RV P K F L (.tmp t :: rs) (v :: vs) := ⟨v, vs, rfl, h, hr⟩
theorem RV.cell {t : Nat} {ty : TypeId} {p : Addr} {v : Value} {rs : List ResultVar} {vs : List Value} (h : look F t = some (true, .pointer (some p)))
    (hl : ∀ w, WInv K L w → (loadVar ty p).run P w = .ok v w) (hr : RV P K F L rs vs) : RV P K F L (.cell t ty :: rs) (v :: vs) := ⟨v, vs, p, rfl, h, hl, hr⟩

def tupV : List Value → Value
  | [v] => v
  | vs => .tuple vs.toArray

@[simp] theorem tupV_one (v : Value) : tupV [v] = v := rfl
@[simp] theorem tupV_two (v u : Value) : tupV [v, u] = .tuple #[v, u] := rfl
@[simp] theorem tupV_three (v u x : Value) : tupV [v, u, x] = .tuple #[v, u, x] := rfl

def rvSem (a : Act) : ResultVar → Sem Value
  | .tmp t => pure (a.tmps.getD t undef)
  | .cell s t => do loadVar t (← asAddr (a.tmps.getD s undef))

theorem RV.run : ∀ {rs : List ResultVar} {vs : List Value}, RV P K F L rs vs → ∀ {a : Act} {w : World}, Good K F L a w →
    (rs.mapM (rvSem a)).run P w = .ok vs w
  | [], vs, h, a, w, _ => by rw [show vs = [] from h]; rfl
  | .tmp t :: rs, vs, h, a, w, G => by
    obtain ⟨v, us, rfl, h, hr⟩ := h
    have h1 := G.fo.fr _ _ _ h
    simp only [cond_true] at h1
    simp only [List.mapM_cons, Sem.run_bind, RV.run hr G, Result.andThen_ok, Sem.run_pure, rvSem, Array.getD_eq_getD_getElem?, h1, Option.getD_some]
  | .cell t ty :: rs, vs, h, a, w, G => by
    obtain ⟨v, us, p, rfl, h, hl, hr⟩ := h
    have h1 := G.fo.fr _ _ _ h
    simp only [cond_true] at h1
    simp only [List.mapM_cons, Sem.run_bind, RV.run hr G, Result.andThen_ok, Sem.run_pure, rvSem, Array.getD_eq_getD_getElem?, h1, Option.getD_some, asAddr, hl w G.inv]

theorem results_of_RV {fn : Func} {rs : List ResultVar} {vs : List Value} (hr : fn.results = rs.toArray) (h : RV P K F L rs vs) {a : Act} {w : World} (G : Good K F L a w) :
    (results fn a.tmps).run P w = .ok (tupV vs) w := by
  have h1 := h.run G
  have e : results fn a.tmps = (do
      let vs ← fn.results.mapM (rvSem a)
      pure (if h : vs.size = 1 then vs[0] else .tuple vs)) := rfl
  rw [e, hr, List.mapM_toArray]
  simp only [Sem.run_bind, Sem.run_map, h1, Result.andThen_ok, Sem.run_pure]
  match vs with
  | [] => rfl
  | [v] => rfl
  | v :: u :: vs => simp [tupV]

theorem done {fn : Func} {R : Ending → World → Prop} {rs : List ResultVar} {vs : List Value} (hr : fn.results = rs.toArray) (h : RV P K F L rs vs)
    (hR : ∀ w, WInv K L w → R (.returned (tupV vs)) w) : Sat K (bodyPost P fn R .ret) F L :=
  fun a w G => ⟨G.fo.defers, _, results_of_RV hr h G, hR w G.inv⟩

theorem done' {fn : Func} {R : Ending → World → Prop} {rs : List ResultVar} {vs : List Value} (hr : fn.results = rs.toArray) (h : RV P K F L rs vs)
    (hR : ∀ w, WInv K L w → R (.returned (tupV vs)) w) : Sat K (bodyPost P fn R .normal) F L :=
  fun a w G => ⟨G.fo.defers, _, results_of_RV hr h G, hR w G.inv⟩

/-! ### Code -/
variable {Q : Exit → Act → World → Prop} {N : Act → World → Prop}

theorem seq {x y : Code} (h : Sat K (x.wp P (Exit.then (y.wp P Q) Q)) F L) : Sat K ((Code.seq x y).wp P Q) F L := fun a w G => wp_seq (h a w G)
theorem skip (h : Sat K (Q .normal) F L) : Sat K (Code.skip.wp P Q) F L := fun a w G => wp_skip (h a w G)
theorem exit {id : Nat} (h : Sat K (Q (.exit id)) F L) : Sat K ((Code.exit id).wp P Q) F L := fun a w G => wp_exit (h a w G)
theorem ret (h : Sat K (Q .ret) F L) : Sat K (Code.ret.wp P Q) F L := fun a w G => wp_ret (h a w G)
theorem block {id : Nat} {c : Code} (h : Sat K (c.wp P (Exit.inBlock id Q)) F L) : Sat K ((Code.block id c).wp P Q) F L := fun a w G => wp_block (h a w G)
theorem region {id : Nat} {l : List Oper} (h : Sat K (wpList P l.toArray Q l) F L) : Sat K ((Code.region id l.toArray false).wp P Q) F L := fun a w G => wp_region_lit (h a w G)
theorem nil {ops : Array Oper} (h : Sat K (Q .normal) F L) : Sat K (wpList P ops Q []) F L := fun a w G => wpList_nil (h a w G)

theorem pN (h : Sat K N F L) : Sat K (Exit.then N Q .normal) F L := h
theorem pX {id : Nat} (h : Sat K (Q (.exit id)) F L) : Sat K (Exit.then N Q (.exit id)) F L := h
theorem pR (h : Sat K (Q .ret) F L) : Sat K (Exit.then N Q .ret) F L := h
theorem bN {id : Nat} (h : Sat K (Q .normal) F L) : Sat K (Exit.inBlock id Q .normal) F L := h
theorem bR {id : Nat} (h : Sat K (Q .ret) F L) : Sat K (Exit.inBlock id Q .ret) F L := h
theorem bX {id : Nat} (h : Sat K (Q .normal) F L) : Sat K (Exit.inBlock id Q (.exit id)) F L := fun a w G => by
  show (if id = id then Q .normal a w else Q (.exit id) a w)
  rw [if_pos rfl]; exact h a w G
theorem cond {t : Nat} {b : Bool} {x y : Code} (hb : look F t = some (true, .bool b)) (h1 : b = true → Sat K (x.wp P Q) F L) (h2 : b = false → Sat K (y.wp P Q) F L) :
    Sat K ((Code.cond (.tmp t) x y).wp P Q) F L := fun a w G => by
  have hv : a.eval (.tmp t) = .bool b := (Opd.t hb : Opd F true (.tmp t) (.bool b)).eval rfl G.fo
  exact wp_cond_split hv (fun h => h1 h a w G) (fun h => h2 h a w G)

theorem condD {t : Nat} {p : Prop} [Decidable p] {x y : Code} (hb : look F t = some (true, .bool (decide p))) (h1 : p → Sat K (x.wp P Q) F L) (h2 : ¬ p → Sat K (y.wp P Q) F L) :
    Sat K ((Code.cond (.tmp t) x y).wp P Q) F L := cond hb (fun h => h1 (of_decide_eq_true h)) (fun h => h2 (of_decide_eq_false h))

theorem condT {t : Nat} {x y : Code} {b : Bool} (hb : look F t = some (true, .bool b)) (hc : b = true) (h1 : Sat K (x.wp P Q) F L) :
    Sat K ((Code.cond (.tmp t) x y).wp P Q) F L := cond hb (fun _ => h1) (fun h => by rw [hc] at h; cases h)
theorem condF {t : Nat} {x y : Code} {b : Bool} (hb : look F t = some (true, .bool b)) (hc : b = false) (h1 : Sat K (y.wp P Q) F L) :
    Sat K ((Code.cond (.tmp t) x y).wp P Q) F L := cond hb (fun h => by rw [hc] at h; cases h) (fun _ => h1)

/-- A loop: 'X': what varies; J: what holds of it; μ: what falls. -/
theorem loop {X : Type} {c : Code} (J : X → Prop) (Fx : X → Fr) (Lx : X → List Res) (μ : X → Nat) (x0 : X) (h0 : J x0) (hF : Sub F (Fx x0)) (hL : (Lx x0).Sublist L)
    (round : ∀ x, J x → Sat K (c.wp P (Exit.then (fun a w => ∃ x', J x' ∧ μ x' < μ x ∧ Good K (Fx x') (Lx x') a w) Q)) (Fx x) (Lx x)) :
    Sat K ((Code.loop c).wp P Q) F L := fun a w G => by
  refine wp_loop_ghost (fun m a w => ∃ x, μ x = m ∧ J x ∧ Good K (Fx x) (Lx x) a w) (μ x0) ⟨x0, rfl, h0, G.sub hF hL⟩ ?_
  rintro m a w ⟨x, rfl, hx, Gx⟩
  refine wp_mono (round x hx a w Gx) ?_
  intro e a' w' hq
  cases e with
  | normal =>
    obtain ⟨x', hJ, hlt, G'⟩ := hq
    exact ⟨μ x', hlt, x', rfl, hJ, G'⟩
  | _ => exact hq

theorem next {X : Type} {J : X → Prop} {Fx : X → Fr} {Lx : X → List Res} {μ : X → Nat} {x : X} (x' : X) (hJ : J x') (hlt : μ x' < μ x) (hF : Sub F (Fx x')) (hL : (Lx x').Sublist L) :
    Sat K (fun a w => ∃ x', J x' ∧ μ x' < μ x ∧ Good K (Fx x') (Lx x') a w) F L := fun _ _ G => ⟨x', hJ, hlt, G.sub hF hL⟩

/-- Ways meet again: behind x one statement for all of them. -/
theorem cut {X : Type} {x y : Code} (J : X → Prop) (Fx : X → Fr) (Lx : X → List Res)
    (h1 : Sat K (x.wp P (Exit.then (fun a w => ∃ x', J x' ∧ Good K (Fx x') (Lx x') a w) Q)) F L) (h2 : ∀ x', J x' → Sat K (y.wp P Q) (Fx x') (Lx x')) :
    Sat K ((Code.seq x y).wp P Q) F L := fun a w G => by
  refine wp_seq (wp_mono (h1 a w G) ?_)
  intro e a' w' hq
  cases e with
  | normal =>
    obtain ⟨x', hJ, G'⟩ := hq
    exact h2 x' hJ a' w' G'
  | _ => exact hq

theorem meet {X : Type} {J : X → Prop} {Fx : X → Fr} {Lx : X → List Res} (x' : X) (hJ : J x') (hF : Sub F (Fx x')) (hL : (Lx x').Sublist L) :
    Sat K (fun a w => ∃ x', J x' ∧ Good K (Fx x') (Lx x') a w) F L := fun _ _ G => ⟨x', hJ, G.sub hF hL⟩

/-! ### Operations -/
/-- One operation, then N. -/
def opThen (P : Program) (ops : Array Oper) (Q : Exit → Act → World → Prop) (o : Oper) (N : Act → World → Prop) (a : Act) (w : World) : Prop :=
  if Region.wanted o (yielded ops a.tmps) then o.wp P a w N Q ∨ (o.asks P a w ∧ LetsOut Q) else N (a.put o.dst undef) w

variable {ops : Array Oper} {o : Oper} {rest : List Oper}

theorem cons (h : Sat K (opThen P ops Q o (wpList P ops Q rest)) F L) : Sat K (wpList P ops Q (o :: rest)) F L := h

theorem opThen_plain {a : Act} {w : World} (hg : o.guard = none) (h : o.wp P a w N Q) : opThen P ops Q o N a w := by
  unfold opThen
  rw [if_pos (by simp [Region.wanted, hg])]
  exact .inl h

/-- What an operation yields, the world being left alone. -/
def Ev (P : Program) (K : Ctx) (F : Fr) (L : List Res) (g : Bool) (op : Op) (ty : TypeId) (v : Value) : Prop :=
  g = true → ∀ a, FrOK K F a → ∀ w, WInv K L w → ∀ dst pos af gd, (execOp a.eval ⟨dst, op, ty, pos, af, gd⟩).run P w = .ok (.value v) w

variable {op : Op} {ty : TypeId} {pos : String} {af : Array Edge} {v : Value} {d : Nat}

theorem opv (h : Ev P K F L true op ty v) (next : Sat K N ((d, true, v) :: F) L) (hd : Nat.blt d K.n = true := by rfl) : Sat K (opThen P ops Q ⟨some d, op, ty, pos, af, none⟩ N) F L := fun a w G => by
  refine opThen_plain rfl ?_
  unfold Oper.wp
  rw [h rfl a G.fo w G.inv]
  exact next _ _ (G.put d true v v (by simpa [Nat.blt_eq] using hd) rfl G.inv)

theorem yielded_of {j tg : Nat} {c1 c2 : Bool} {a : Act} (hj : (ops[j]?).bind (·.dst) = some tg) (hg : look F tg = some (c1, .bool c2)) (G : FrOK K F a) :
    yielded ops a.tmps j = bif c1 then some c2 else none := by
  have h1 := G.fr _ _ _ hg
  unfold yielded
  rw [hj]
  simp only [Option.bind_some, h1]
  cases c1 <;> rfl

theorem wanted_of {j tg : Nat} {want c1 c2 : Bool} {a : Act} (hgd : o.guard = some (j, want)) (hj : (ops[j]?).bind (·.dst) = some tg) (hg : look F tg = some (c1, .bool c2)) (G : FrOK K F a) :
    Region.wanted o (yielded ops a.tmps) = (c1 && (c2 == want)) := by
  unfold Region.wanted
  rw [hgd]
  simp only [yielded_of hj hg G]
  cases c1 <;> cases c2 <;> cases want <;> rfl

/-- A guarded operation: it runs where the guard says so. -/
theorem opg {j tg : Nat} {want c1 c2 : Bool} (hj : (ops[j]?).bind (·.dst) = some tg) (hg : look F tg = some (c1, .bool c2))
    (h : Ev P K F L (c1 && (c2 == want)) op ty v) (next : Sat K N ((d, (c1 && (c2 == want)), v) :: F) L) (hd : Nat.blt d K.n = true := by rfl) :
    Sat K (opThen P ops Q ⟨some d, op, ty, pos, af, some (j, want)⟩ N) F L := fun a w G => by
  unfold opThen
  rw [wanted_of rfl hj hg G.fo]
  have hd' : d < K.n := by simpa [Nat.blt_eq] using hd
  cases hc : (c1 && (c2 == want)) with
  | true =>
    rw [if_pos rfl]
    refine .inl ?_
    unfold Oper.wp
    rw [h hc a G.fo w G.inv]
    rw [hc] at next
    exact next _ _ (G.put d true v v hd' rfl G.inv)
  | false =>
    rw [if_neg Bool.false_ne_true]
    rw [hc] at next
    exact next _ _ (G.put d false v undef hd' rfl G.inv)

/-! ### A region that draws its order: what only reads is taken first, the rest as it must come -/
def PanicOK (Q : Exit → Act → World → Prop) : Prop := ∀ c d v a w, Q (.panic c) (a.put d v) w → Q (.panic c) a w

/-- The class of worlds for the region: what L says. -/
abbrev heldX (P : Program) (K : Ctx) (ops : Array Oper) (Q : Exit → Act → World → Prop) (Lq : List Res) (fuel : Nat) (listed : Array Bool) : Act → World → Prop :=
  wpAnyH P .any ops (NoPanic Q) (fun w => WInv K Lq w) fuel listed

theorem draw {id : Nat} {l : List Oper} (Lq : List Res) (hm : P.follows .mixedOrders = true)
    (h : Sat K (heldX P K l.toArray Q Lq l.toArray.size (Array.replicate l.toArray.size false)) F L) : Sat K ((Code.region id l.toArray true).wp P Q) F L := fun a w G => by
  refine wp_region_noPanic (wp_region_held (S := fun w => WInv K Lq w) hm ?_)
  exact h a _ (G.world (G.inv.grow (Keeps.drew _ _)))

theorem take {Lq : List Res} {fuel : Nat} {listed : Array Bool} (i : Nat) (hi : ops[i]? = some ⟨some d, op, ty, pos, af, none⟩) (hs : Region.noSelect ops = true)
    (hf : Region.free .any ops listed i = true) (hr : (Region.ready .any ops listed).contains i = true) (hL : Lq.Sublist L)
    (h : Ev P K F Lq true op ty v) (next : Sat K (heldX P K ops Q Lq fuel (listed.setIfInBounds i true)) ((d, true, v) :: F) L) (hd : Nat.blt d K.n = true := by rfl) :
    Sat K (heldX P K ops Q Lq (fuel + 1) listed) F L := fun a w G => by
  refine wpAnyH_take (v := v) hi hs hf hr (fun c a w h => h) (.inl ⟨by simp [Region.wanted], fun w' hw' => h rfl a G.fo w' hw' _ _ _ _⟩) (G.inv.sub hL) ?_
  exact next _ _ (G.put d true v v (by simpa [Nat.blt_eq] using hd) rfl G.inv)

theorem takeg {Lq : List Res} {fuel : Nat} {listed : Array Bool} {j tg : Nat} {want c1 c2 : Bool} (i : Nat) (hi : ops[i]? = some ⟨some d, op, ty, pos, af, some (j, want)⟩) (hs : Region.noSelect ops = true)
    (hf : Region.free .any ops listed i = true) (hr : (Region.ready .any ops listed).contains i = true) (hL : Lq.Sublist L)
    (hj : (ops[j]?).bind (·.dst) = some tg) (hg : look F tg = some (c1, .bool c2))
    (h : Ev P K F Lq (c1 && (c2 == want)) op ty v) (next : Sat K (heldX P K ops Q Lq fuel (listed.setIfInBounds i true)) ((d, (c1 && (c2 == want)), v) :: F) L) (hd : Nat.blt d K.n = true := by rfl) :
    Sat K (heldX P K ops Q Lq (fuel + 1) listed) F L := fun a w G => by
  have hw := wanted_of (o := ⟨some d, op, ty, pos, af, some (j, want)⟩) rfl hj hg G.fo
  have hd' : d < K.n := by simpa [Nat.blt_eq] using hd
  cases hc : (c1 && (c2 == want)) with
  | true =>
    rw [hc] at hw
    rw [hc] at next
    refine wpAnyH_take (v := v) hi hs hf hr (fun c a w h => h) (.inl ⟨hw, fun w' hw' => h hc a G.fo w' hw' _ _ _ _⟩) (G.inv.sub hL) ?_
    exact next _ _ (G.put d true v v hd' rfl G.inv)
  | false =>
    rw [hc] at hw
    rw [hc] at next
    refine wpAnyH_take (v := undef) hi hs hf hr (fun c a w h => h) (.inr ⟨hw, rfl⟩) (G.inv.sub hL) ?_
    exact next _ _ (G.put d false v undef hd' rfl G.inv)

/-- What follows an operation that had to come now. -/
def heldN (P : Program) (K : Ctx) (ops : Array Oper) (Q : Exit → Act → World → Prop) (Lq : List Res) (fuel : Nat) (listed : Array Bool) (a : Act) (w : World) : Prop :=
  WInv K Lq w ∧ heldX P K ops Q Lq fuel listed a w

theorem heldN_of {Lq : List Res} {fuel : Nat} {listed : Array Bool} (hL : Lq.Sublist L) (h : Sat K (heldX P K ops Q Lq fuel listed) F L) : Sat K (heldN P K ops Q Lq fuel listed) F L :=
  fun a w G => ⟨G.inv.sub hL, h a w G⟩

/-- Whichever comes up: one goal each. -/
def Each (K : Ctx) (F : Fr) (L : List Res) (P : Program) (ops : Array Oper) (Q : Exit → Act → World → Prop) (Lq : List Res) (fuel : Nat) (listed : Array Bool) (rs : List Nat) : Prop :=
  ∀ i ∈ rs, ∃ o, ops[i]? = some o ∧ Sat K (opThen P ops (NoPanic Q) o (heldN P K ops Q Lq fuel (listed.setIfInBounds i true))) F L

theorem Each.nil {Lq : List Res} {fuel : Nat} {listed : Array Bool} : Each K F L P ops Q Lq fuel listed [] := fun _ h => absurd h List.not_mem_nil
theorem Each.cons {Lq : List Res} {fuel : Nat} {listed : Array Bool} {i : Nat} {rs : List Nat} {o : Oper} (ho : ops[i]? = some o) (h : Sat K (opThen P ops (NoPanic Q) o (heldN P K ops Q Lq fuel (listed.setIfInBounds i true))) F L)
    (hr : Each K F L P ops Q Lq fuel listed rs) : Each K F L P ops Q Lq fuel listed (i :: rs) := fun j hj => by
  rcases List.mem_cons.1 hj with rfl | hj
  · exact ⟨o, ho, h⟩
  · exact hr j hj

theorem all {Lq : List Res} {fuel : Nat} {listed : Array Bool} (rs : List Nat) (hr : Region.ready .any ops listed = rs) (hne : rs ≠ [])
    (h : Each K F L P ops Q Lq fuel listed rs) : Sat K (heldX P K ops Q Lq (fuel + 1) listed) F L := fun a w G => by
  refine wpAnyH_all hr hne ?_
  intro i hi
  obtain ⟨o, ho, hs⟩ := h i hi
  have := hs a w G
  unfold wpOp
  rw [ho]
  exact this

theorem over {Lq : List Res} {fuel : Nat} {listed : Array Bool} (hr : Region.ready .any ops listed = []) (h : Sat K (Q .normal) F L) :
    Sat K (heldX P K ops Q Lq fuel listed) F L := fun a w G => wpAnyH_done hr (NoPanic.normal (h a w G)) fuel

/-! ### Calls -/
def Opds (F : Fr) (g : Bool) : List Operand → List Value → Prop
  | [], vs => vs = []
  | x :: xs, vs => ∃ v us, vs = v :: us ∧ Opd F g x v ∧ Opds F g xs us

theorem Opds.nil {g : Bool} : Opds F g [] [] := rfl
theorem Opds.cons {g : Bool} {x : Operand} {v : Value} {xs : List Operand} {vs : List Value} (h : Opd F g x v) (hs : Opds F g xs vs) : Opds F g (x :: xs) (v :: vs) := ⟨v, vs, rfl, h, hs⟩

theorem Opds.eval {g : Bool} : ∀ {xs : List Operand} {vs : List Value}, Opds F g xs vs → g = true → ∀ {a : Act}, FrOK K F a → xs.map a.eval = vs
  | [], _, h, _, _, _ => by rw [show _ = [] from h]; rfl
  | x :: xs, vs, h, hg, a, G => by
    obtain ⟨v, us, rfl, h, hs⟩ := h
    simp [h.eval hg G, Opds.eval hs hg G]

structure Enters (P : Program) (f : FuncId) : Prop where
  fn : ∃ fn, P.funcs[f]? = some fn ∧ (fn.name == "runtime.NumGoroutine") = false ∧ fn.body.isNone = false

theorem Enters.mk' {f : FuncId} (h : (P.funcs[f]?).map (fun fn => (fn.name == "runtime.NumGoroutine", fn.body.isNone)) = some (false, false)) : Enters P f := by
  cases hf : P.funcs[f]? with
  | none => rw [hf] at h; cases h
  | some fn =>
    rw [hf] at h
    simp only [Option.map_some, Option.some.injEq, Prod.mk.injEq] at h
    exact ⟨fn, hf, h.1, h.2⟩

theorem run_callFunc_enter {f : FuncId} (h : Enters P f) (args : Array Value) (w : World) : (callFunc f args).run P w = .ok (.enter f args) w := by
  obtain ⟨fn, h1, h2, h3⟩ := h.fn
  have h4 : ¬ (fn.name == "runtime.NumGoroutine") = true := by rw [h2]; exact Bool.false_ne_true
  have h5 : ¬ fn.body.isNone = true := by rw [h3]; exact Bool.false_ne_true
  simp only [callFunc, Sem.run_bind, run_program, Result.andThen_ok, h1, if_neg h4, if_neg h5, Sem.run_pure]

/-- What a call hands back: a value; nothing that was there has turned; Φ. -/
def Ret (w : World) (Φ : Value → World → Prop) : Ending → World → Prop := fun e w' => ∃ v, e = .returned v ∧ Keeps Nope w w' ∧ Φ v w'

/-- It hands back just v. -/
def RetV (w : World) (v : Value) : Ending → World → Prop := fun e w' => e = .returned v ∧ Keeps Nope w w'

theorem exec_call {f : FuncId} {args : List Operand} {ats : Array TypeId} {vs : List Value} {g : Bool} (hen : Enters P f) (hargs : Opds F g args vs) (hg : g = true) {a : Act} (G : FrOK K F a) (w : World) {dst : Option Tmp} {gd : Option (Nat × Bool)} :
    (execOp a.eval ⟨dst, .call { callee := .value (.func f), args := args.toArray, argTypes := ats }, ty, pos, af, gd⟩).run P w = .ok (.enter f vs.toArray) w := by
  have h1 := hargs.eval hg G
  simp [execOp, resolve, Deferred.ofValue, invoke, Act.eval, run_callFunc_enter hen, h1]

/-- A call, generally. -/
theorem callx {X : Type} {f : FuncId} {args : List Operand} {ats : Array TypeId} {vs : List Value} (J : X → Prop) (val : X → Value) (Lx : X → List Res) (hen : Enters P f) (hargs : Opds F true args vs)
    (hC : ∀ w, WInv K L w → Calls P f vs.toArray w fun e w' => ∃ x, J x ∧ e = .returned (val x) ∧ WInv K (Lx x) w')
    (next : ∀ x, J x → Sat K N ((d, true, val x) :: F) (Lx x)) (hd : Nat.blt d K.n = true := by rfl) :
    Sat K (opThen P ops Q ⟨some d, .call { callee := .value (.func f), args := args.toArray, argTypes := ats }, ty, pos, af, none⟩ N) F L := fun a w G => by
  refine opThen_plain rfl ?_
  unfold Oper.wp
  rw [exec_call hen hargs rfl G.fo]
  refine (hC w G.inv).mono ?_
  rintro e w' ⟨x, hJ, rfl, hw⟩
  exact next x hJ _ _ (G.put d true (val x) (val x) (by simpa [Nat.blt_eq] using hd) rfl hw)

/-- A call that hands back a known value. -/
theorem callv {f : FuncId} {args : List Operand} {ats : Array TypeId} {vs : List Value} {u : Value} (hen : Enters P f) (hargs : Opds F true args vs)
    (hC : ∀ w, WInv K L w → Calls P f vs.toArray w (RetV w u)) (next : Sat K N ((d, true, u) :: F) L) (hd : Nat.blt d K.n = true := by rfl) :
    Sat K (opThen P ops Q ⟨some d, .call { callee := .value (.func f), args := args.toArray, argTypes := ats }, ty, pos, af, none⟩ N) F L :=
  callx (X := Unit) (fun _ => True) (fun _ => u) (fun _ => L) hen hargs (fun w hw => (hC w hw).mono fun e w' ⟨he, hk⟩ => ⟨(), trivial, he, hw.grow hk⟩) (fun _ _ => next) hd

/-- The same under a guard. -/
theorem callg {f : FuncId} {args : List Operand} {ats : Array TypeId} {vs : List Value} {u : Value} {j tg : Nat} {want c1 c2 : Bool} (hj : (ops[j]?).bind (·.dst) = some tg) (hg : look F tg = some (c1, .bool c2))
    (hen : Enters P f) (hargs : Opds F (c1 && (c2 == want)) args vs)
    (hC : (c1 && (c2 == want)) = true → ∀ w, WInv K L w → Calls P f vs.toArray w (RetV w u)) (next : Sat K N ((d, (c1 && (c2 == want)), u) :: F) L) (hd : Nat.blt d K.n = true := by rfl) :
    Sat K (opThen P ops Q ⟨some d, .call { callee := .value (.func f), args := args.toArray, argTypes := ats }, ty, pos, af, some (j, want)⟩ N) F L := fun a w G => by
  unfold opThen
  rw [wanted_of rfl hj hg G.fo]
  have hd' : d < K.n := by simpa [Nat.blt_eq] using hd
  cases hc : (c1 && (c2 == want)) with
  | true =>
    rw [if_pos rfl]
    refine .inl ?_
    unfold Oper.wp
    rw [exec_call hen hargs hc G.fo]
    refine (hC hc w G.inv).mono ?_
    rintro e w' ⟨rfl, hk⟩
    rw [hc] at next
    exact next _ _ (G.put d true u u hd' rfl (G.inv.grow hk))
  | false =>
    rw [if_neg Bool.false_ne_true]
    rw [hc] at next
    exact next _ _ (G.put d false u undef hd' rfl G.inv)

/-- All of R is new, and there. -/
def News (w w' : World) (R : List Res) : Prop := (∀ r ∈ R, r.A w' ∧ ∀ b, r.foot b → w.heap.size ≤ b ∧ b < w'.heap.size) ∧ R.Pairwise Res.Disj

/-- A call that hands back something new. -/
theorem callf {f : FuncId} {args : List Operand} {ats : Array TypeId} {vs : List Value} (J : Value → Prop) (R : Value → List Res) (hen : Enters P f) (hargs : Opds F true args vs)
    (hC : ∀ w, WInv K L w → Calls P f vs.toArray w (Ret w fun v w' => J v ∧ News w w' (R v))) (next : ∀ v, J v → Sat K N ((d, true, v) :: F) (R v ++ L)) (hd : Nat.blt d K.n = true := by rfl) :
    Sat K (opThen P ops Q ⟨some d, .call { callee := .value (.func f), args := args.toArray, argTypes := ats }, ty, pos, af, none⟩ N) F L :=
  callx J (fun v => v) (fun v => R v ++ L) hen hargs (fun w hw => (hC w hw).mono fun e w' ⟨v, he, hk, hJ, hR⟩ => ⟨v, hJ, he, hw.adds hk hR.1 hR.2⟩) next hd
end
/-- Short names for what is said often. -/
theorem mH {a : Res} {l : List Res} : a ∈ a :: l := List.Mem.head _
theorem mT {a b : Res} {l : List Res} (h : a ∈ l) : a ∈ b :: l := List.Mem.tail _ h
theorem mA {a : Res} {l m : List Res} (h : a ∈ m) : a ∈ l ++ m := List.mem_append_right _ h
theorem sR {l : List Res} : l.Sublist l := List.Sublist.refl _
theorem sN {l : List Res} : List.Sublist [] l := List.nil_sublist _
theorem sC {a : Res} {l m : List Res} (h : l.Sublist m) : (a :: l).Sublist (a :: m) := List.Sublist.cons_cons _ h
theorem sS {a : Res} {l m : List Res} (h : l.Sublist m) : l.Sublist (a :: m) := List.Sublist.cons _ h
theorem sA {l m k : List Res} (h : l.Sublist m) : l.Sublist (k ++ m) := List.sublist_append_of_sublist_right h
end Go.Gx

/- Part B: numbers and bools as values; what plain operations on them yield. Printed by mkB.py. -/
namespace Go.Gx
open Go

def U8 (x : UInt8) : Value := .int .u8 (x.toNat : Int)
def U16 (x : UInt16) : Value := .int .u16 (x.toNat : Int)
def U32 (x : UInt32) : Value := .int .u32 (x.toNat : Int)
def U64 (x : UInt64) : Value := .int .u64 (x.toNat : Int)
def I (n : Int) : Value := .int .i64 n
def B (b : Bool) : Value := .bool b

/-- An int's number. -/
abbrev Fit (n : Int) : Prop := -9223372036854775808 ≤ n ∧ n ≤ 9223372036854775807

theorem wrap_i64 {n : Int} (h : Fit n) : IntKind.i64.wrap n = n := by
  unfold IntKind.wrap IntKind.bits IntKind.signed
  simp only [Bool.true_and, ge_iff_le, decide_eq_true_eq]
  split <;> omega
theorem wrap_u8 (n : Int) : IntKind.u8.wrap n = n % 256 := by
  unfold IntKind.wrap IntKind.bits IntKind.signed; simp
theorem wrap_u64 (n : Int) : IntKind.u64.wrap n = n % 18446744073709551616 := by
  unfold IntKind.wrap IntKind.bits IntKind.signed; simp

section
variable {P : Program} {K : Ctx} {F : Fr} {L : List Res} {g : Bool} {x y : Operand} {ty t t' : TypeId} {v u : Value}

theorem Ev.move (hx : Opd F g x v) : Ev P K F L g (.move x) ty v := fun hg a G w _ dst pos af gd => by
  simp only [execOp, hx.eval hg G, Sem.run_pure]
theorem Ev.assign (hx : Opd F g x v) : Ev P K F L g (.assign x) ty v := fun hg a G w _ dst pos af gd => by
  simp only [execOp, hx.eval hg G, Sem.run_pure]

theorem Ev.bin {op : BinOp} (hx : Opd F g x u) (hy : Opd F g y v) {r : Value} (hgd : ∀ w, (eqGuard op t x y u v).run P w = .ok () w) (h : ∀ w, (binOp op t u v).run P w = .ok r w) :
    Ev P K F L g (.binOp op t x y t') ty r := fun hg a G w _ dst pos af gd => by
  simp only [execOp, hx.eval hg G, hy.eval hg G, Sem.run_bind, hgd, Result.andThen_ok, h, Sem.run_pure]

theorem eqGuard_int {op : BinOp} {k k' : IntKind} {m n : Int} (w : World) : (eqGuard op t x y (.int k m) (.int k' n)).run P w = .ok () w := by
  unfold eqGuard
  cases op <;> rfl
theorem eqGuard_bool {op : BinOp} {m n : Bool} (w : World) : (eqGuard op t x y (.bool m) (.bool n)).run P w = .ok () w := by
  unfold eqGuard
  cases op <;> rfl
theorem eqGuard_string {op : BinOp} {m n : ByteArray} (w : World) : (eqGuard op t x y (.string m) (.string n)).run P w = .ok () w := by
  unfold eqGuard
  cases op <;> rfl

theorem Ev.bini {op : BinOp} {k : IntKind} {m n : Int} {r : Value} (hx : Opd F g x (.int k m)) (hy : Opd F g y (.int k n)) (h : ∀ w, (binOp op t (.int k m) (.int k n)).run P w = .ok r w) :
    Ev P K F L g (.binOp op t x y t') ty r := Ev.bin hx hy (fun w => eqGuard_int w) h

theorem run_arith {op : BinOp} {k : IntKind} {m n : Int} (hop : op = .add ∨ op = .sub ∨ op = .mul) (w : World) :
    (binOp op t (.int k m) (.int k n)).run P w = .ok (.int k (k.wrap (match op with | .add => m + n | .sub => m - n | _ => m * n))) w := by
  rcases hop with rfl | rfl | rfl <;> simp [binOp, Op.intArith]

theorem run_bits {op : BinOp} {k : IntKind} {m n : Int} (hop : op = .and ∨ op = .or ∨ op = .xor ∨ op = .andNot) (w : World) :
    (binOp op t (.int k m) (.int k n)).run P w = .ok (.int k (k.wrap ((match op with
      | .and => BitVec.ofInt k.bits m &&& BitVec.ofInt k.bits n | .or => BitVec.ofInt k.bits m ||| BitVec.ofInt k.bits n
      | .xor => BitVec.ofInt k.bits m ^^^ BitVec.ofInt k.bits n | _ => BitVec.ofInt k.bits m &&& ~~~ BitVec.ofInt k.bits n : BitVec k.bits).toNat : Int))) w := by
  rcases hop with rfl | rfl | rfl | rfl <;> simp [binOp, Op.intBits]

theorem run_cmp {op : BinOp} {k : IntKind} {m n : Int} {b : Bool} (h : (Op.intCmp op m n) = pure (.bool b)) (hop : op = .eql ∨ op = .neq ∨ op = .lss ∨ op = .leq ∨ op = .gtr ∨ op = .geq) (w : World) :
    (binOp op t (.int k m) (.int k n)).run P w = .ok (.bool b) w := by
  rcases hop with rfl | rfl | rfl | rfl | rfl | rfl <;> simp [binOp, h]

theorem run_shl {k yk : IntKind} {m : Int} {c : Int} (hc : 0 ≤ c) (w : World) : (binOp .shl t (.int k m) (.int yk c)).run P w = .ok (.int k (k.wrap (m * 2 ^ (min c.toNat k.bits)))) w := by
  have : ¬ c < 0 := by omega
  simp [binOp, Op.shift, this]
theorem run_shr {k yk : IntKind} {m : Int} {c : Int} (hc : 0 ≤ c) (w : World) : (binOp .shr t (.int k m) (.int yk c)).run P w = .ok (.int k (m.fdiv (2 ^ (min c.toNat k.bits)))) w := by
  have : ¬ c < 0 := by omega
  simp [binOp, Op.shift, this]
theorem run_div {op : BinOp} {k : IntKind} {m n : Int} (hop : op = .quo ∨ op = .rem) (hn : n ≠ 0) (w : World) :
    (binOp op t (.int k m) (.int k n)).run P w = .ok (.int k (match op with | .quo => k.wrap (m.tdiv n) | _ => m.tmod n)) w := by
  rcases hop with rfl | rfl <;> simp [binOp, Op.intDiv, hn]

/-! ### ints -/
theorem Ev.add_i {m n : Int} (hx : Opd F g x (I m)) (hy : Opd F g y (I n)) (h : g = true → Fit (m + n)) : Ev P K F L g (.binOp .add t x y t') ty (I (m + n)) := fun hg =>
  Ev.bini hx hy (fun w => by rw [run_arith (.inl rfl)]; simp only [wrap_i64 (h hg)]; rfl) hg
theorem Ev.sub_i {m n : Int} (hx : Opd F g x (I m)) (hy : Opd F g y (I n)) (h : g = true → Fit (m - n)) : Ev P K F L g (.binOp .sub t x y t') ty (I (m - n)) := fun hg =>
  Ev.bini hx hy (fun w => by rw [run_arith (.inr (.inl rfl))]; simp only [wrap_i64 (h hg)]; rfl) hg
theorem Ev.mul_i {m n : Int} (hx : Opd F g x (I m)) (hy : Opd F g y (I n)) (h : g = true → Fit (m * n)) : Ev P K F L g (.binOp .mul t x y t') ty (I (m * n)) := fun hg =>
  Ev.bini hx hy (fun w => by rw [run_arith (.inr (.inr rfl))]; simp only [wrap_i64 (h hg)]; rfl) hg
theorem Ev.quo_i {m n : Int} (hx : Opd F g x (I m)) (hy : Opd F g y (I n)) (hn : g = true → n ≠ 0) (h : g = true → Fit (m.tdiv n)) : Ev P K F L g (.binOp .quo t x y t') ty (I (m.tdiv n)) := fun hg =>
  Ev.bini hx hy (fun w => by rw [run_div (.inl rfl) (hn hg)]; simp only [wrap_i64 (h hg)]; rfl) hg
theorem Ev.rem_i {m n : Int} (hx : Opd F g x (I m)) (hy : Opd F g y (I n)) (hn : g = true → n ≠ 0) : Ev P K F L g (.binOp .rem t x y t') ty (I (m.tmod n)) := fun hg =>
  Ev.bini hx hy (fun w => by rw [run_div (.inr rfl) (hn hg)]; rfl) hg
/-- Of numbers that are not negative: Lean's own '/' and '%'. -/
theorem Ev.quo_n {m n : Int} (hx : Opd F g x (I m)) (hy : Opd F g y (I n)) (hm : g = true → 0 ≤ m) (hm' : g = true → m ≤ 9223372036854775807) (hn : g = true → 0 < n) : Ev P K F L g (.binOp .quo t x y t') ty (I (m / n)) := fun hg => by
  have h1 := hm hg
  have h2 := hm' hg
  have h3 := hn hg
  have e : m.tdiv n = m / n := Int.tdiv_eq_ediv_of_nonneg h1
  have h4 : 0 ≤ m / n := Int.ediv_nonneg h1 (by omega)
  have h5 : m / n ≤ m := Int.ediv_le_self n h1
  rw [← e]
  exact Ev.quo_i hx hy (fun _ => by omega) (fun _ => by rw [e]; exact ⟨by omega, by omega⟩) hg
theorem Ev.rem_n {m n : Int} (hx : Opd F g x (I m)) (hy : Opd F g y (I n)) (hm : g = true → 0 ≤ m) (hn : g = true → 0 < n) : Ev P K F L g (.binOp .rem t x y t') ty (I (m % n)) := fun hg => by
  have h1 := hm hg
  have h3 := hn hg
  have e : m.tmod n = m % n := Int.tmod_eq_emod_of_nonneg h1
  rw [← e]
  exact Ev.rem_i hx hy (fun _ => by omega) hg
theorem Ev.eql_i {m n : Int} (hx : Opd F g x (I m)) (hy : Opd F g y (I n)) : Ev P K F L g (.binOp .eql t x y t') ty (.bool (decide (m = n))) :=
  Ev.bini hx hy (run_cmp (by unfold Op.intCmp; rfl) (.inl rfl))
theorem Ev.neq_i {m n : Int} (hx : Opd F g x (I m)) (hy : Opd F g y (I n)) : Ev P K F L g (.binOp .neq t x y t') ty (.bool (decide (¬ m = n))) :=
  Ev.bini hx hy (run_cmp (by unfold Op.intCmp; show pure (Value.bool (!decide (m = n))) = _; rw [decide_not]) (.inr (.inl rfl)))
theorem Ev.lss_i {m n : Int} (hx : Opd F g x (I m)) (hy : Opd F g y (I n)) : Ev P K F L g (.binOp .lss t x y t') ty (.bool (decide (m < n))) :=
  Ev.bini hx hy (run_cmp rfl (.inr (.inr (.inl rfl))))
theorem Ev.leq_i {m n : Int} (hx : Opd F g x (I m)) (hy : Opd F g y (I n)) : Ev P K F L g (.binOp .leq t x y t') ty (.bool (decide (m ≤ n))) :=
  Ev.bini hx hy (run_cmp rfl (.inr (.inr (.inr (.inl rfl)))))
theorem Ev.gtr_i {m n : Int} (hx : Opd F g x (I m)) (hy : Opd F g y (I n)) : Ev P K F L g (.binOp .gtr t x y t') ty (.bool (decide (n < m))) :=
  Ev.bini hx hy (run_cmp rfl (.inr (.inr (.inr (.inr (.inl rfl))))))
theorem Ev.geq_i {m n : Int} (hx : Opd F g x (I m)) (hy : Opd F g y (I n)) : Ev P K F L g (.binOp .geq t x y t') ty (.bool (decide (n ≤ m))) :=
  Ev.bini hx hy (run_cmp rfl (.inr (.inr (.inr (.inr (.inr rfl))))))

/-- The bits of a small number that is not negative. -/
theorem Ev.bits_i {op : BinOp} {m n : Nat} {r : Nat} (hop : op = .and ∨ op = .or ∨ op = .xor) (hx : Opd F g x (I m)) (hy : Opd F g y (I n)) (hm : g = true → m < 2 ^ 63) (hn : g = true → n < 2 ^ 63)
    (hr : r = (match op with | .and => m &&& n | .or => m ||| n | _ => m ^^^ n)) : Ev P K F L g (.binOp op t x y t') ty (I (r : Nat)) := fun hg =>
  Ev.bini (m := (m : Int)) (n := (n : Int)) hx hy (fun w => by
    have h1 := hm hg
    have h2 := hn hg
    have e1 : BitVec.ofInt 64 (m : Int) = BitVec.ofNat 64 m := by simp
    have e2 : BitVec.ofInt 64 (n : Int) = BitVec.ofNat 64 n := by simp
    have l1 : m % 2 ^ 64 = m := Nat.mod_eq_of_lt (by omega)
    have l2 : n % 2 ^ 64 = n := Nat.mod_eq_of_lt (by omega)
    have b1 : (m &&& n) < 2 ^ 63 := Nat.and_lt_two_pow _ h2
    have b2 : (m ||| n) < 2 ^ 63 := Nat.or_lt_two_pow h1 h2
    have b3 : (m ^^^ n) < 2 ^ 63 := Nat.xor_lt_two_pow h1 h2
    rcases hop with rfl | rfl | rfl
    · rw [run_bits (.inl rfl)]
      show Result.ok (Value.int .i64 (IntKind.i64.wrap (((BitVec.ofInt 64 (m : Int) &&& BitVec.ofInt 64 (n : Int) : BitVec 64).toNat : Nat) : Int))) w = _
      rw [e1, e2, BitVec.toNat_and, BitVec.toNat_ofNat, BitVec.toNat_ofNat, l1, l2, wrap_i64 ⟨by omega, by omega⟩, hr]
      rfl
    · rw [run_bits (.inr (.inl rfl))]
      show Result.ok (Value.int .i64 (IntKind.i64.wrap (((BitVec.ofInt 64 (m : Int) ||| BitVec.ofInt 64 (n : Int) : BitVec 64).toNat : Nat) : Int))) w = _
      rw [e1, e2, BitVec.toNat_or, BitVec.toNat_ofNat, BitVec.toNat_ofNat, l1, l2, wrap_i64 ⟨by omega, by omega⟩, hr]
      rfl
    · rw [run_bits (.inr (.inr (.inl rfl)))]
      show Result.ok (Value.int .i64 (IntKind.i64.wrap (((BitVec.ofInt 64 (m : Int) ^^^ BitVec.ofInt 64 (n : Int) : BitVec 64).toNat : Nat) : Int))) w = _
      rw [e1, e2, BitVec.toNat_xor, BitVec.toNat_ofNat, BitVec.toNat_ofNat, l1, l2, wrap_i64 ⟨by omega, by omega⟩, hr]
      rfl) hg

/-! ### bools -/
theorem Ev.not {b : Bool} (hx : Opd F g x (.bool b)) : Ev P K F L g (.unOp .not t x) ty (.bool !b) := fun hg a G w _ dst pos af gd => by
  simp [execOp, hx.eval hg G, Op.unary]
theorem run_equal_b {b c : Bool} (ht : P.underlying t = some .bool) (w : World) : (Op.equal t (.bool b) (.bool c)).run P w = .ok (b == c) w := by
  have hu : (underlying t).run P w = .ok .bool w := by simp [underlying, ht]
  show (Op.equalIn (9999 + 1) t (.bool b) (.bool c)).run P w = _
  unfold Op.equalIn
  simp only [Sem.run_bind, hu, Result.andThen_ok, Sem.run_pure]
theorem Ev.neq_b {b c : Bool} (ht : P.underlying t = some .bool) (hx : Opd F g x (.bool b)) (hy : Opd F g y (.bool c)) : Ev P K F L g (.binOp .neq t x y t') ty (.bool (decide (¬ b = c))) :=
  Ev.bin hx hy (fun w => eqGuard_bool w) (fun w => by
    simp only [binOp, Sem.run_bind, run_equal_b ht, Result.andThen_ok, Sem.run_pure]
    cases b <;> cases c <;> rfl)

/-- 'a && b': b is reckoned where a says so. -/
theorem Ev.pickA {z : Operand} {b c gz : Bool} (hx : Opd F g x (.bool b)) (hy : ∀ {s}, y = .tmp s → look F s = some (gz, .bool c)) (hys : ∃ s, y = .tmp s) (hgz : g = true → b = true → gz = true) (hz : Opd F g z (.bool false)) :
    Ev P K F L g (.pick x y z) ty (.bool (b && c)) := fun hg a G w _ dst pos af gd => by
  simp only [execOp, hx.eval hg G, asBool, Sem.run_bind, Sem.run_pure, Result.andThen_ok]
  obtain ⟨s, rfl⟩ := hys
  cases b with
  | false => simp [hz.eval hg G]
  | true =>
    have h1 := G.fr _ _ _ (hy rfl)
    rw [hgz hg rfl] at h1
    simp only [cond_true] at h1
    simp [Act.eval, h1]
/-- 'a || b'. -/
theorem Ev.pickO {z : Operand} {b c gz : Bool} (hx : Opd F g x (.bool b)) (hy : Opd F g y (.bool true)) (hz : ∀ {s}, z = .tmp s → look F s = some (gz, .bool c)) (hzs : ∃ s, z = .tmp s) (hgz : g = true → b = false → gz = true) :
    Ev P K F L g (.pick x y z) ty (.bool (b || c)) := fun hg a G w _ dst pos af gd => by
  simp only [execOp, hx.eval hg G, asBool, Sem.run_bind, Sem.run_pure, Result.andThen_ok]
  obtain ⟨s, rfl⟩ := hzs
  cases b with
  | true => simp [hy.eval hg G]
  | false =>
    have h1 := G.fr _ _ _ (hz rfl)
    rw [hgz hg rfl] at h1
    simp only [cond_true] at h1
    simp [Act.eval, h1]

/-! ### uint8 -/
theorem bv_u8 (m : UInt8) : BitVec.ofInt 8 (m.toNat : Int) = m.toBitVec := by
  rw [BitVec.ofInt_natCast]; apply BitVec.eq_of_toNat_eq; have h := m.toNat_lt; rw [BitVec.toNat_ofNat]; exact Nat.mod_eq_of_lt h
theorem back_u8 (r : BitVec 8) : IntKind.u8.wrap (r.toNat : Int) = ((UInt8.ofBitVec r).toNat : Int) := by
  have h := r.isLt
  rw [wrap_u8]
  show _ = ((r.toNat : Nat) : Int)
  omega
theorem Ev.and_u8 {m n : UInt8} (hx : Opd F g x (U8 m)) (hy : Opd F g y (U8 n)) : Ev P K F L g (.binOp .and t x y t') ty (U8 (m &&& n)) :=
  Ev.bini hx hy (fun w => by rw [run_bits (.inl rfl)]; simp only [IntKind.bits, bv_u8, back_u8, U8]; rfl)
theorem Ev.or_u8 {m n : UInt8} (hx : Opd F g x (U8 m)) (hy : Opd F g y (U8 n)) : Ev P K F L g (.binOp .or t x y t') ty (U8 (m ||| n)) :=
  Ev.bini hx hy (fun w => by rw [run_bits (.inr (.inl rfl))]; simp only [IntKind.bits, bv_u8, back_u8, U8]; rfl)
theorem Ev.andNot_u8 {m n : UInt8} (hx : Opd F g x (U8 m)) (hy : Opd F g y (U8 n)) : Ev P K F L g (.binOp .andNot t x y t') ty (U8 (m &&& ~~~ n)) :=
  Ev.bini hx hy (fun w => by rw [run_bits (.inr (.inr (.inr rfl)))]; simp only [IntKind.bits, bv_u8, back_u8, U8]; rfl)
/-- Shifted by so many places, however many. -/
def shl8 (m : UInt8) (c : Nat) : UInt8 := UInt8.ofNat (m.toNat * 2 ^ c)
def shr8 (m : UInt8) (c : Nat) : UInt8 := UInt8.ofNat (m.toNat / 2 ^ c)
theorem toNat_shl8 (m : UInt8) (c : Nat) : (shl8 m c).toNat = m.toNat * 2 ^ c % 256 := by unfold shl8; simp
theorem toNat_shr8 (m : UInt8) (c : Nat) : (shr8 m c).toNat = m.toNat / 2 ^ c := by
  have h := m.toNat_lt
  have h2 := Nat.div_le_self m.toNat (2 ^ c)
  unfold shr8
  simp only [UInt8.toNat_ofNat']
  exact Nat.mod_eq_of_lt (by omega)
theorem Ev.shl_u8 {m : UInt8} {yk : IntKind} {c : Int} (hx : Opd F g x (U8 m)) (hy : Opd F g y (.int yk c)) (hc : g = true → 0 ≤ c) : Ev P K F L g (.binOp .shl t x y t') ty (U8 (shl8 m c.toNat)) := fun hg =>
  Ev.bin hx hy (fun w => eqGuard_int w) (fun w => by
    unfold U8
    rw [run_shl (hc hg), wrap_u8, toNat_shl8]
    congr 2
    show (m.toNat : Int) * 2 ^ (min c.toNat 8) % 256 = _
    have e : ((m.toNat * 2 ^ c.toNat % 256 : Nat) : Int) = (m.toNat : Int) * 2 ^ c.toNat % 256 := by simp
    rw [e]
    rcases Nat.le_total c.toNat 8 with h | h
    · rw [Nat.min_eq_left h]
    · rw [Nat.min_eq_right h]
      obtain ⟨d, hd⟩ := Nat.exists_eq_add_of_le h
      rw [hd, Int.pow_add, ← Int.mul_assoc, Int.mul_assoc _ _ (2 ^ d), Int.mul_comm (2 ^ 8) (2 ^ d), ← Int.mul_assoc]
      have e3 : ((2 : Int) ^ 8) = 256 := by decide
      rw [e3, Int.mul_emod_left, Int.mul_emod_left]) hg
theorem Ev.shr_u8 {m : UInt8} {yk : IntKind} {c : Int} (hx : Opd F g x (U8 m)) (hy : Opd F g y (.int yk c)) (hc : g = true → 0 ≤ c) : Ev P K F L g (.binOp .shr t x y t') ty (U8 (shr8 m c.toNat)) := fun hg =>
  Ev.bin hx hy (fun w => eqGuard_int w) (fun w => by
    unfold U8
    rw [run_shr (hc hg), toNat_shr8]
    congr 2
    show (m.toNat : Int).fdiv (2 ^ (min c.toNat 8)) = _
    rw [Int.fdiv_eq_ediv_of_nonneg _ (Int.le_of_lt (Int.pow_pos (by decide)))]
    have e : ((m.toNat / 2 ^ c.toNat : Nat) : Int) = (m.toNat : Int) / 2 ^ c.toNat := by simp
    rw [e]
    rcases Nat.le_total c.toNat 8 with h | h
    · rw [Nat.min_eq_left h]
    · rw [Nat.min_eq_right h]
      have h1 := m.toNat_lt
      have e3 : ((2 : Int) ^ 8) = 256 := by decide
      have h2 : (2 : Int) ^ 8 ≤ 2 ^ c.toNat := by
        have := Nat.pow_le_pow_right (n := 2) (by decide) h
        exact_mod_cast this
      rw [Int.ediv_eq_zero_of_lt (by omega) (by omega), Int.ediv_eq_zero_of_lt (by omega) (by omega)]) hg
theorem Ev.quo_u8 {m n : UInt8} (hx : Opd F g x (U8 m)) (hy : Opd F g y (U8 n)) (hn : g = true → n ≠ 0) : Ev P K F L g (.binOp .quo t x y t') ty (U8 (m / n)) := fun hg =>
  Ev.bini hx hy (fun w => by
    have h0 : (n.toNat : Int) ≠ 0 := fun h => hn hg (by apply UInt8.toNat_inj.1; simpa using h)
    have h1 := m.toNat_lt
    rw [run_div (.inl rfl) h0]
    simp only [wrap_u8, U8, UInt8.toNat_div]
    have e : (m.toNat : Int).tdiv n.toNat = ((m.toNat / n.toNat : Nat) : Int) := by rw [Int.tdiv_eq_ediv_of_nonneg (by omega)]; simp
    have h2 := Nat.div_le_self m.toNat n.toNat
    rw [e]; generalize m.toNat / n.toNat = q at *; congr 2; omega) hg
theorem Ev.rem_u8 {m n : UInt8} (hx : Opd F g x (U8 m)) (hy : Opd F g y (U8 n)) (hn : g = true → n ≠ 0) : Ev P K F L g (.binOp .rem t x y t') ty (U8 (m % n)) := fun hg =>
  Ev.bini hx hy (fun w => by
    have h0 : (n.toNat : Int) ≠ 0 := fun h => hn hg (by apply UInt8.toNat_inj.1; simpa using h)
    rw [run_div (.inr rfl) h0]
    simp only [U8, UInt8.toNat_mod]
    have e : (m.toNat : Int).tmod n.toNat = ((m.toNat % n.toNat : Nat) : Int) := by rw [Int.tmod_eq_emod_of_nonneg (by omega)]; simp
    rw [e]) hg
theorem cast_u8 (m n : UInt8) : ((m.toNat : Int) = n.toNat) ↔ m = n := by rw [← UInt8.toNat_inj]; omega
theorem Ev.eql_u8 {m n : UInt8} (hx : Opd F g x (U8 m)) (hy : Opd F g y (U8 n)) : Ev P K F L g (.binOp .eql t x y t') ty (.bool (decide (m = n))) :=
  Ev.bini hx hy (run_cmp (by unfold Op.intCmp; show pure (Value.bool (decide ((m.toNat : Int) = n.toNat))) = _; simp only [cast_u8]) (.inl rfl))
theorem Ev.neq_u8 {m n : UInt8} (hx : Opd F g x (U8 m)) (hy : Opd F g y (U8 n)) : Ev P K F L g (.binOp .neq t x y t') ty (.bool (decide (¬ m = n))) :=
  Ev.bini hx hy (run_cmp (by unfold Op.intCmp; show pure (Value.bool (!decide ((m.toNat : Int) = n.toNat))) = _; simp only [cast_u8, decide_not]) (.inr (.inl rfl)))
theorem Ev.leq_u8 {m n : UInt8} (hx : Opd F g x (U8 m)) (hy : Opd F g y (U8 n)) : Ev P K F L g (.binOp .leq t x y t') ty (.bool (decide (m ≤ n))) :=
  Ev.bini hx hy (run_cmp (by unfold Op.intCmp; simp only [UInt8.le_iff_toNat_le, Int.ofNat_le]) (.inr (.inr (.inr (.inl rfl)))))
theorem Ev.gtr_u8 {m n : UInt8} (hx : Opd F g x (U8 m)) (hy : Opd F g y (U8 n)) : Ev P K F L g (.binOp .gtr t x y t') ty (.bool (decide (n < m))) :=
  Ev.bini hx hy (run_cmp (by unfold Op.intCmp; simp only [UInt8.lt_iff_toNat_lt, Int.ofNat_lt, gt_iff_lt]) (.inr (.inr (.inr (.inr (.inl rfl))))))
theorem Ev.geq_u8 {m n : UInt8} (hx : Opd F g x (U8 m)) (hy : Opd F g y (U8 n)) : Ev P K F L g (.binOp .geq t x y t') ty (.bool (decide (n ≤ m))) :=
  Ev.bini hx hy (run_cmp (by unfold Op.intCmp; simp only [UInt8.le_iff_toNat_le, Int.ofNat_le, ge_iff_le]) (.inr (.inr (.inr (.inr (.inr rfl))))))

/-! ### uint16 -/
/-- Shifted by so many places, however many. -/
def shl16 (m : UInt16) (c : Nat) : UInt16 := UInt16.ofNat (m.toNat * 2 ^ c)
def shr16 (m : UInt16) (c : Nat) : UInt16 := UInt16.ofNat (m.toNat / 2 ^ c)
theorem cast_u16 (m n : UInt16) : ((m.toNat : Int) = n.toNat) ↔ m = n := by rw [← UInt16.toNat_inj]; omega
theorem Ev.gtr_u16 {m n : UInt16} (hx : Opd F g x (U16 m)) (hy : Opd F g y (U16 n)) : Ev P K F L g (.binOp .gtr t x y t') ty (.bool (decide (n < m))) :=
  Ev.bini hx hy (run_cmp (by unfold Op.intCmp; simp only [UInt16.lt_iff_toNat_lt, Int.ofNat_lt, gt_iff_lt]) (.inr (.inr (.inr (.inr (.inl rfl))))))
/-! ### uint32 -/
/-- Shifted by so many places, however many. -/
def shl32 (m : UInt32) (c : Nat) : UInt32 := UInt32.ofNat (m.toNat * 2 ^ c)
def shr32 (m : UInt32) (c : Nat) : UInt32 := UInt32.ofNat (m.toNat / 2 ^ c)
/-! ### uint64 -/
/-- Shifted by so many places, however many. -/
def shl64 (m : UInt64) (c : Nat) : UInt64 := UInt64.ofNat (m.toNat * 2 ^ c)
def shr64 (m : UInt64) (c : Nat) : UInt64 := UInt64.ofNat (m.toNat / 2 ^ c)
theorem toNat_shr64 (m : UInt64) (c : Nat) : (shr64 m c).toNat = m.toNat / 2 ^ c := by
  have h := m.toNat_lt
  have h2 := Nat.div_le_self m.toNat (2 ^ c)
  unfold shr64
  simp only [UInt64.toNat_ofNat']
  exact Nat.mod_eq_of_lt (by omega)
theorem Ev.shr_u64 {m : UInt64} {yk : IntKind} {c : Int} (hx : Opd F g x (U64 m)) (hy : Opd F g y (.int yk c)) (hc : g = true → 0 ≤ c) : Ev P K F L g (.binOp .shr t x y t') ty (U64 (shr64 m c.toNat)) := fun hg =>
  Ev.bin hx hy (fun w => eqGuard_int w) (fun w => by
    unfold U64
    rw [run_shr (hc hg), toNat_shr64]
    congr 2
    show (m.toNat : Int).fdiv (2 ^ (min c.toNat 64)) = _
    rw [Int.fdiv_eq_ediv_of_nonneg _ (Int.le_of_lt (Int.pow_pos (by decide)))]
    have e : ((m.toNat / 2 ^ c.toNat : Nat) : Int) = (m.toNat : Int) / 2 ^ c.toNat := by simp
    rw [e]
    rcases Nat.le_total c.toNat 64 with h | h
    · rw [Nat.min_eq_left h]
    · rw [Nat.min_eq_right h]
      have h1 := m.toNat_lt
      have e3 : ((2 : Int) ^ 64) = 18446744073709551616 := by decide
      have h2 : (2 : Int) ^ 64 ≤ 2 ^ c.toNat := by
        have := Nat.pow_le_pow_right (n := 2) (by decide) h
        exact_mod_cast this
      rw [Int.ediv_eq_zero_of_lt (by omega) (by omega), Int.ediv_eq_zero_of_lt (by omega) (by omega)]) hg
theorem cast_u64 (m n : UInt64) : ((m.toNat : Int) = n.toNat) ↔ m = n := by rw [← UInt64.toNat_inj]; omega
theorem Ev.lss_u64 {m n : UInt64} (hx : Opd F g x (U64 m)) (hy : Opd F g y (U64 n)) : Ev P K F L g (.binOp .lss t x y t') ty (.bool (decide (m < n))) :=
  Ev.bini hx hy (run_cmp (by unfold Op.intCmp; simp only [UInt64.lt_iff_toNat_lt, Int.ofNat_lt]) (.inr (.inr (.inl rfl))))
theorem Ev.gtr_u64 {m n : UInt64} (hx : Opd F g x (U64 m)) (hy : Opd F g y (U64 n)) : Ev P K F L g (.binOp .gtr t x y t') ty (.bool (decide (n < m))) :=
  Ev.bini hx hy (run_cmp (by unfold Op.intCmp; simp only [UInt64.lt_iff_toNat_lt, Int.ofNat_lt, gt_iff_lt]) (.inr (.inr (.inr (.inr (.inl rfl))))))
/-! ### from one kind of number to another -/
theorem Ev.conv {k k' : IntKind} {m : Int} {r : Value} (ht : P.underlying t' = some (.int k')) (ht0 : P.underlying t = some (.int k)) (hx : Opd F g x (.int k m)) (hr : r = .int k' (k'.wrap m)) : Ev P K F L g (.convert t t' x) ty r := fun hg a G w _ dst pos af gd => by
  have h1 : (underlying t).run P w = .ok (.int k) w := by simp [underlying, ht0]
  have h2 : (underlying t').run P w = .ok (.int k') w := by simp [underlying, ht]
  simp only [execOp, hx.eval hg G, convert, Sem.run_bind, h1, h2, Result.andThen_ok, Conv.intToInt, Sem.run_pure, hr]

theorem Ev.conv_u64_i {m : UInt64} (ht : P.underlying t' = some (.int .i64)) (ht0 : P.underlying t = some (.int .u64)) (hx : Opd F g x (U64 m)) (hm : g = true → m.toNat < 2 ^ 63) : Ev P K F L g (.convert t t' x) ty (I (m.toNat : Int)) := fun hg =>
  Ev.conv ht ht0 hx (by have h := hm hg; rw [wrap_i64 ⟨by omega, by omega⟩]; rfl) hg
theorem Ev.conv_i_u64 {m : Int} (ht : P.underlying t' = some (.int .u64)) (ht0 : P.underlying t = some (.int .i64)) (hx : Opd F g x (I m)) : Ev P K F L g (.convert t t' x) ty (U64 (UInt64.ofInt m)) :=
  Ev.conv ht ht0 hx (by rw [wrap_u64]; unfold U64; congr 1; simp [UInt64.ofInt]; omega)
end
end Go.Gx

/- Part C: data as cells of memory: how values of a type lie, what is read, what is written, slices of one's own. -/
namespace Go.Gx
open Go Go.RowKit

/-- How values of a Go type lie in memory. -/
structure Enc (α : Type) where
  size : Nat
  agg : Bool
  cells : α → List Value
  zero : α
  len : ∀ x, (cells x).length = size
  one : ∀ x v, v ∈ cells x → v.oneCell' = true
  sc : agg = false → size = 1

def Enc.val {α : Type} (E : Enc α) (x : α) : Value := bif E.agg then .agg (E.cells x).toArray else (E.cells x).headD undef

def scE {α : Type} (f : α → Value) (z : α) (h : ∀ x, (f x).oneCell' = true) : Enc α :=
  { size := 1, agg := false, cells := fun x => [f x], zero := z, len := fun _ => rfl, one := fun x v hv => by simp at hv; rw [hv]; exact h x, sc := fun _ => rfl }

def u8E : Enc UInt8 := scE U8 0 (fun _ => rfl)
def u16E : Enc UInt16 := scE U16 0 (fun _ => rfl)
def u32E : Enc UInt32 := scE U32 0 (fun _ => rfl)
def u64E : Enc UInt64 := scE U64 0 (fun _ => rfl)
def iE : Enc Int := scE I 0 (fun _ => rfl)
def bE : Enc Bool := scE Value.bool false (fun _ => rfl)
def sE : Enc ByteArray := scE Value.string ByteArray.empty (fun _ => rfl)

section
variable {α β γ : Type}

/-- A value of one cell that is not looked into. -/
structure OV where
  v : Value
  one : v.oneCell' = true
def ovE (z : OV) : Enc OV := scE OV.v z OV.one
def nilSl : OV := ⟨.slice none 0 0, rfl⟩
def nilPtr : OV := ⟨.pointer none, rfl⟩
def nilMap : OV := ⟨.map none, rfl⟩
def nilFn : OV := ⟨.nilFunc, rfl⟩
def nilIf : OV := ⟨.nilIface, rfl⟩

def Enc.row (E : Enc α) (xs : List α) : List Value := xs.flatMap E.cells

theorem Enc.row_length (E : Enc α) (xs : List α) : (E.row xs).length = xs.length * E.size := by
  induction xs with
  | nil => simp [Enc.row]
  | cons x xs ih =>
    have : E.row (x :: xs) = E.cells x ++ E.row xs := by simp [Enc.row]
    rw [this, List.length_append, ih, E.len, List.length_cons, Nat.add_mul]; omega

theorem Enc.row_append (E : Enc α) (xs ys : List α) : E.row (xs ++ ys) = E.row xs ++ E.row ys := by simp [Enc.row]
theorem Enc.row_oneCell (E : Enc α) (xs : List α) : ∀ v ∈ E.row xs, v.oneCell' = true := by
  intro v hv
  simp only [Enc.row, List.mem_flatMap] at hv
  obtain ⟨x, _, h⟩ := hv
  exact E.one x v h

theorem Enc.row_take (E : Enc α) (xs : List α) (k : Nat) : (E.row xs).take (k * E.size) = E.row (xs.take k) := by
  induction xs generalizing k with
  | nil => simp [Enc.row]
  | cons x xs ih =>
    cases k with
    | zero => simp [Enc.row]
    | succ k =>
      have e : E.row (x :: xs) = E.cells x ++ E.row xs := by simp [Enc.row]
      have e2 : E.row (x :: xs.take k) = E.cells x ++ E.row (xs.take k) := by simp [Enc.row]
      rw [List.take_succ_cons, e, e2, ← ih k, Nat.add_mul, Nat.one_mul, Nat.add_comm, ← E.len x, List.take_length_add_append]

theorem Enc.row_drop (E : Enc α) (xs : List α) (k : Nat) : (E.row xs).drop (k * E.size) = E.row (xs.drop k) := by
  induction xs generalizing k with
  | nil => simp [Enc.row]
  | cons x xs ih =>
    cases k with
    | zero => simp [Enc.row]
    | succ k =>
      have e : E.row (x :: xs) = E.cells x ++ E.row xs := by simp [Enc.row]
      rw [List.drop_succ_cons, e, ← ih k, Nat.add_mul, Nat.one_mul, Nat.add_comm, ← E.len x, List.drop_length_add_append]

theorem Enc.row_get (E : Enc α) (xs : List α) (i j : Nat) (d : α) (hi : i < xs.length) (hj : j < E.size) : (E.row xs)[i * E.size + j]? = (E.cells (xs.getD i d))[j]? := by
  have h1 : (E.row xs)[i * E.size + j]? = ((E.row xs).drop (i * E.size))[j]? := by rw [List.getElem?_drop]
  rw [h1, E.row_drop]
  have h2 : xs.drop i = xs.getD i d :: xs.drop (i + 1) := by
    rw [List.drop_eq_getElem_cons hi]; simp [List.getD, hi]
  rw [h2]
  have e : E.row (xs.getD i d :: xs.drop (i + 1)) = E.cells (xs.getD i d) ++ E.row (xs.drop (i + 1)) := by simp [Enc.row]
  rw [e, List.getElem?_append_left (by rw [E.len]; exact hj)]

theorem Enc.row_set (E : Enc α) (xs : List α) (i : Nat) (x : α) (hi : i < xs.length) : E.row (xs.set i x) = (E.row xs).take (i * E.size) ++ E.cells x ++ (E.row xs).drop (i * E.size + E.size) := by
  have h1 : xs.set i x = xs.take i ++ x :: xs.drop (i + 1) := by rw [List.set_eq_take_append_cons_drop, if_pos hi]
  have e : i * E.size + E.size = (i + 1) * E.size := by rw [Nat.add_mul, Nat.one_mul]
  rw [h1, E.row_append, e, E.row_take, E.row_drop]
  simp [Enc.row]

theorem Enc.cells_val (E : Enc α) (x : α) : (E.val x).cells = (E.cells x).toArray := by
  unfold Enc.val
  cases h : E.agg with
  | true => rfl
  | false =>
    have hl : (E.cells x).length = 1 := by rw [E.len, E.sc h]
    match hc : E.cells x, hl with
    | [v], _ =>
      have h1 := E.one x v (by rw [hc]; exact List.mem_cons_self)
      cases v <;> simp_all [Value.cells, Value.oneCell']

/-- The cells of x stand in block b from off on. -/
def PtsTo (E : Enc α) (w : World) (b off : Nat) (x : α) : Prop := ∀ j u, (E.cells x)[j]? = some u → w.cell? ⟨b, off + j, none⟩ = some u

structure TyOK (P : Program) (t : TypeId) (E : Enc α) : Prop where
  ag : ∃ d, P.underlying t = some d ∧ (match d with | .struct _ | .array _ _ => true | _ => false) = E.agg
  sz : ∃ i, P.info? t = some i ∧ i.size = E.size

theorem TyOK.mk' {P : Program} {t : TypeId} {E : Enc α} (h1 : (P.underlying t).map (fun d => match d with | .struct _ | .array _ _ => true | _ => false) = some E.agg)
    (h2 : (P.info? t).map (·.size) = some E.size) : TyOK P t E := by
  constructor
  · cases h : P.underlying t with
    | none => rw [h] at h1; cases h1
    | some d => rw [h] at h1; simp only [Option.map_some, Option.some.injEq] at h1; exact ⟨d, rfl, h1⟩
  · cases h : P.info? t with
    | none => rw [h] at h2; cases h2
    | some i => rw [h] at h2; simp only [Option.map_some, Option.some.injEq] at h2; exact ⟨i, rfl, h2⟩

theorem addr_add (b off j : Nat) : (⟨b, off, none⟩ : Addr).add j = ⟨b, off + j, none⟩ := by
  unfold Addr.add
  split
  · rename_i h; subst h; rfl
  · rfl

variable {P : Program}

theorem run_isAgg {t : TypeId} {E : Enc α} (T : TyOK P t E) (w : World) : (isAgg t).run P w = .ok E.agg w := by
  obtain ⟨d, hd, he⟩ := T.ag
  have hu : (underlying t).run P w = .ok d w := by simp [underlying, hd]
  simp only [isAgg, Sem.run_bind, hu, Result.andThen_ok, ← he]
  cases d <;> rfl

theorem run_sizeOf {t : TypeId} {E : Enc α} (T : TyOK P t E) (w : World) : (sizeOf t).run P w = .ok E.size w := by
  obtain ⟨i, hi, he⟩ := T.sz
  simp [sizeOf, typeInfo, hi, he]

theorem run_loadVar_pts {t : TypeId} {E : Enc α} (T : TyOK P t E) {w : World} {b off : Nat} {x : α} (h : PtsTo E w b off x) : (loadVar t ⟨b, off, none⟩).run P w = .ok (E.val x) w := by
  simp only [loadVar, Sem.run_bind, run_isAgg T, Result.andThen_ok]
  unfold Enc.val
  cases ha : E.agg with
  | true =>
    have h1 := run_loadCells_list (P := P) w ⟨b, off, none⟩ (E.cells x) (fun j v hv => by rw [addr_add]; exact h j v hv)
    rw [E.len] at h1
    simp only [if_true, Sem.run_bind, run_sizeOf T, Result.andThen_ok, h1, Sem.run_pure, cond_true]
  | false =>
    have hl : (E.cells x).length = 1 := by rw [E.len, E.sc ha]
    simp only [Bool.false_eq_true, if_false, cond_false]
    match hc : E.cells x, hl with
    | [v], _ =>
      have h1 := h 0 v (by rw [hc]; rfl)
      simp only [Nat.add_zero] at h1
      simp [h1]

/-- A part of a value: how it is read and put. -/
structure Lens (E : Enc α) (E' : Enc β) (off : Nat) where
  get : α → β
  set : α → β → α
  fits : off + E'.size ≤ E.size
  hget : ∀ x, ((E.cells x).drop off).take E'.size = E'.cells (get x)
  hset : ∀ x y, E.cells (set x y) = (E.cells x).take off ++ E'.cells y ++ (E.cells x).drop (off + E'.size)

def Lens.id (E : Enc α) : Lens E E 0 where
  get x := x
  set _ y := y
  fits := by omega
  hget x := by simp [← E.len x]
  hset x y := by simp [← E.len x]

def Lens.comp {E : Enc α} {E' : Enc β} {E'' : Enc γ} {o o' : Nat} (l : Lens E E' o) (m : Lens E' E'' o') : Lens E E'' (o + o') where
  get x := m.get (l.get x)
  set x y := l.set x (m.set (l.get x) y)
  fits := by have := l.fits; have := m.fits; omega
  hget x := by
    have h1 := l.hget x
    have h2 := m.hget (l.get x)
    have h3 := m.fits
    rw [← h1] at h2
    rw [← h2, List.drop_take, List.take_take, List.drop_drop, Nat.min_eq_left (by omega)]
  hset x y := by
    have h1 := l.hget x
    have h3 := m.fits
    have h4 := l.fits
    rw [l.hset, m.hset, ← h1, List.take_take, List.drop_take, List.drop_drop, Nat.min_eq_left (by omega)]
    have e1 : (E.cells x).take (o + o') = (E.cells x).take o ++ ((E.cells x).drop o).take o' := by rw [List.take_add]
    have e2 : (E.cells x).drop (o + o' + E''.size) = ((E.cells x).drop (o + (o' + E''.size))).take (E'.size - (o' + E''.size)) ++ (E.cells x).drop (o + E'.size) := by
      have e3 : (E.cells x).drop (o + E'.size) = ((E.cells x).drop (o + (o' + E''.size))).drop (E'.size - (o' + E''.size)) := by
        rw [List.drop_drop]
        congr 1
        omega
      rw [e3, List.take_append_drop, Nat.add_assoc]
    rw [e1, e2]
    simp [List.append_assoc]

@[simp] theorem Lens.id_get (E : Enc α) (x : α) : (Lens.id E).get x = x := rfl
@[simp] theorem Lens.id_set (E : Enc α) (x y : α) : (Lens.id E).set x y = y := rfl
@[simp] theorem Lens.comp_get {E : Enc α} {E' : Enc β} {E'' : Enc γ} {o o' : Nat} (l : Lens E E' o) (m : Lens E' E'' o') (x : α) : (l.comp m).get x = m.get (l.get x) := rfl
@[simp] theorem Lens.comp_set {E : Enc α} {E' : Enc β} {E'' : Enc γ} {o o' : Nat} (l : Lens E E' o) (m : Lens E' E'' o') (x : α) (y : γ) : (l.comp m).set x y = l.set x (m.set (l.get x) y) := rfl

theorem Lens.pts {E : Enc α} {E' : Enc β} {o : Nat} (l : Lens E E' o) {w : World} {b off : Nat} {x : α} (h : PtsTo E w b off x) : PtsTo E' w b (off + o) (l.get x) := by
  intro j u hu
  rw [← l.hget x] at hu
  rw [List.getElem?_take] at hu
  split at hu
  · rw [List.getElem?_drop] at hu
    rw [Nat.add_assoc]
    exact h (o + j) u hu
  · cases hu

/-- A variable of one's own: the whole of block b. -/
def Var (b : Nat) (E : Enc α) (x : α) (T : TypeId) : Res where
  foot := fun k => k = b
  A := fun w => w.heap[b]? = some (.cells (E.cells x).toArray T (0, 0))
  st := fun w w' h h1 => by rw [h b rfl]; exact h1

theorem pts_of_block {E : Enc α} {w : World} {b : Nat} {x : α} {T : TypeId} (h : w.heap[b]? = some (.cells (E.cells x).toArray T (0, 0))) : PtsTo E w b 0 x := by
  intro j u hu
  simp [World.cell?, h, hu]

variable {K : Ctx} {F : Fr} {L : List Res} {g : Bool} {Q : Exit → Act → World → Prop} {N : Act → World → Prop} {ops : Array Oper}
  {op : Op} {ty t t' : TypeId} {pos : String} {af : Array Edge} {d : Nat} {x y : Operand}

theorem ptsVar {E : Enc α} {E' : Enc β} {b o : Nat} {xv : α} {T : TypeId} (hm : Var b E xv T ∈ L) (l : Lens E E' o) (w : World) (h : WInv K L w) : PtsTo E' w b o (l.get xv) := by
  have h1 := (h.own _ hm).1
  have h2 := l.pts (pts_of_block (E := E) (x := xv) h1)
  rwa [Nat.zero_add] at h2

/-- A load. -/
theorem Ev.load {E : Enc α} {b off : Nat} {xv : α} (T : TyOK P t E) (hx : Opd F g x (.pointer (some ⟨b, off, none⟩))) (h : ∀ w, WInv K L w → PtsTo E w b off xv) :
    Ev P K F L g (.load t x) ty (E.val xv) := fun hg a G w hw dst pos af gd => by
  simp only [execOp, hx.eval hg G, Instr.loadAt, Instr.sureAddr, Sem.run_bind, Sem.run_pure, Result.andThen_ok, run_loadVar_pts T (h w hw)]

/-- The place of a field. -/
theorem Ev.fieldAddr {b off s f o : Nat} (hx : Opd F g x (.pointer (some ⟨b, off, none⟩)))
    (hf : (P.underlying s).bind (fun d => match d with | .struct fs => (fs[f]?).bind (fun fd => (P.info? fd.type).map (fun i => (fd.offset, Nat.beq i.size 0))) | _ => none) = some (o, false)) :
    Ev P K F L g (.fieldAddr s x f) ty (.pointer (some ⟨b, off + o, none⟩)) := fun hg a G w hw dst pos af gd => by
  cases hu : P.underlying s with
  | none => rw [hu] at hf; cases hf
  | some dsc =>
    rw [hu] at hf
    cases dsc <;> simp only [Option.bind_some, reduceCtorEq] at hf
    rename_i fs
    cases hfd : fs[f]? with
    | none => rw [hfd] at hf; cases hf
    | some fd =>
      rw [hfd] at hf
      simp only [Option.bind_some] at hf
      cases hi : P.info? fd.type with
      | none => rw [hi] at hf; cases hf
      | some i =>
        rw [hi] at hf
        simp only [Option.map_some, Option.some.injEq, Prod.mk.injEq] at hf
        obtain ⟨h1, h2⟩ := hf
        have h2' : ¬ i.size = 0 := Nat.ne_of_beq_eq_false h2
        have hru : (underlying s).run P w = .ok (.struct fs) w := by simp [underlying, hu]
        have hsz : (sizeOf fd.type).run P w = .ok i.size w := by simp [sizeOf, typeInfo, hi]
        simp only [execOp, hx.eval hg G, Instr.fieldAt, Instr.sureAddr, Sem.run_bind, Sem.run_pure, Result.andThen_ok, hru, hfd, fieldPlace, hsz, if_neg h2', addr_add, h1]

/-- A new variable with a value in it. -/
theorem box {E : Enc α} {xv : α} (hx : Opd F true x (E.val xv)) (next : ∀ b, Sat K N ((d, true, .pointer (some ⟨b, 0, none⟩)) :: F) (Var b E xv t :: L)) (hd : Nat.blt d K.n = true := by rfl) :
    Sat K (opThen P ops Q ⟨some d, .box t x, ty, pos, af, none⟩ N) F L := fun a w G => by
  refine opThen_plain rfl ?_
  unfold Oper.wp
  have hr : (execOp a.eval ⟨some d, .box t x, ty, pos, af, none⟩).run P w = .ok (.value (.pointer (some ⟨w.heap.size, 0, none⟩))) { w with heap := w.heap.push (.cells (E.cells xv).toArray t) } := by
    simp [execOp, hx.eval rfl G.fo, Instr.box, newVar, newRow, E.cells_val]
  rw [hr]
  refine next w.heap.size _ _ (G.put d true _ _ (by simpa [Nat.blt_eq] using hd) rfl (G.inv.add (Keeps.alloc _ _ _) ?_ ?_))
  · show (w.heap.push _)[w.heap.size]? = _
    simp
  · intro b hb
    have : b = w.heap.size := hb
    subst this
    exact ⟨Nat.le_refl _, by simp⟩

/-- A new variable with nothing in it yet. -/
theorem alloc {E : Enc α} (hz : (P.info? t).bind (·.zero) = some (E.val E.zero)) (next : ∀ b, Sat K N ((d, true, .pointer (some ⟨b, 0, none⟩)) :: F) (Var b E E.zero t :: L)) (hd : Nat.blt d K.n = true := by rfl) :
    Sat K (opThen P ops Q ⟨some d, .alloc t, ty, pos, af, none⟩ N) F L := fun a w G => by
  refine opThen_plain rfl ?_
  unfold Oper.wp
  cases hi : P.info? t with
  | none => rw [hi] at hz; cases hz
  | some i =>
    rw [hi] at hz
    simp only [Option.bind_some] at hz
    have hr : (execOp a.eval ⟨some d, .alloc t, ty, pos, af, none⟩).run P w = .ok (.value (.pointer (some ⟨w.heap.size, 0, none⟩))) { w with heap := w.heap.push (.cells (E.cells E.zero).toArray t) } := by
      simp [execOp, Instr.alloc, zeroValue, typeInfo, hi, hz, newVar, newRow, E.cells_val]
    rw [hr]
    refine next w.heap.size _ _ (G.put d true _ _ (by simpa [Nat.blt_eq] using hd) rfl (G.inv.add (Keeps.alloc _ _ _) ?_ ?_))
    · show (w.heap.push _)[w.heap.size]? = _
      simp
    · intro b hb
      have : b = w.heap.size := hb
      subst this
      exact ⟨Nat.le_refl _, by simp⟩

theorem setRow_keeps (w : World) (g : Nat) (cs : Array Value) : Keeps (fun k => k = g) w (w.setRow g cs) :=
  ⟨rfl, rfl, rfl, by simp, fun k _ hk => setRow_other w g k cs hk⟩

/-- A store into a block that one owns. -/
theorem run_storeVar_block {E : Enc β} (T : TyOK P t E) {w : World} {b o : Nat} {cur : List Value} {T' : TypeId} {yv : β} (hb : w.heap[b]? = some (.cells cur.toArray T' (0, 0))) (hfit : o + E.size ≤ cur.length) :
    (storeVar t ⟨b, o, none⟩ (E.val yv)).run P w = .ok () (w.setRow b (cur.take o ++ E.cells yv ++ cur.drop (o + E.size)).toArray) := by
  have h1 := run_storeCells_at P b o T' (E.cells yv) 0 cur.toArray w hb (by simp [E.len]; omega) (E.one yv)
  simp only [Nat.add_zero, E.len] at h1
  have hsz : ¬ ((E.cells yv).toArray.size ≠ E.size) := by simp [E.len]
  simp only [storeVar, Sem.run_bind, run_sizeOf T, Result.andThen_ok, E.cells_val, if_neg hsz, h1]

theorem storeV {E : Enc α} {E' : Enc β} {b o : Nat} {xv : α} {yv : β} {T' : TypeId} {L' : List Res} (T : TyOK P t E') (l : Lens E E' o) (hx : Opd F true x (.pointer (some ⟨b, o, none⟩))) (hy : Opd F true y (E'.val yv))
    (hu : Upd L (Var b E xv T') (Var b E (l.set xv yv) T') L') (next : Sat K N F L') : Sat K (opThen P ops Q ⟨none, .store t x y, ty, pos, af, none⟩ N) F L := fun a w G => by
  refine opThen_plain rfl ?_
  unfold Oper.wp
  have hb : w.heap[b]? = some (.cells (E.cells xv).toArray T' (0, 0)) := (G.inv.own _ hu.mem).1
  have hr := run_storeVar_block (P := P) T (o := o) (yv := yv) hb (by rw [E.len]; exact l.fits)
  have he : (execOp a.eval ⟨none, .store t x y, ty, pos, af, none⟩).run P w = .ok .skip (w.setRow b (E.cells (l.set xv yv)).toArray) := by
    simp only [execOp, hx.eval rfl G.fo, hy.eval rfl G.fo, Instr.storeAt, Instr.sureAddr, Sem.run_bind, Sem.run_pure, Result.andThen_ok, hr, l.hset]
  rw [he]
  have hlt : b < w.heap.size := (Array.getElem?_eq_some_iff.1 hb).1
  refine next _ _ (G.world (G.inv.upd hu (setRow_keeps _ _ _) (setRow_heap w b _ _ _ _ hb) ?_))
  intro k hk
  have : k = b := hk
  subst this
  exact ⟨.inl rfl, by simpa using hlt⟩
end

section
variable {α β γ : Type} {P : Program}
/-! ### Slices -/

/-- v is a slice that reads as xs. -/
def IsSl (E : Enc α) (w : World) (v : Value) (xs : List α) : Prop :=
  ∃ a cap, v = .slice a xs.length cap ∧ xs.length ≤ cap ∧ cap ≤ maxLen ∧ (a = none → xs = [] ∧ cap = 0) ∧
    ∀ p, a = some p → (xs ≠ [] → p.spot = none) ∧ ∀ j u, (E.row xs)[j]? = some u → w.cell? ⟨p.block, p.off + j, none⟩ = some u

theorem IsSl.nil (E : Enc α) (w : World) : IsSl E w (.slice none 0 0) [] := ⟨none, 0, rfl, Nat.le_refl _, Nat.zero_le _, fun _ => ⟨rfl, rfl⟩, fun _ h => by cases h⟩

theorem IsSl.le {E : Enc α} {w : World} {v : Value} {xs : List α} (h : IsSl E w v xs) : xs.length ≤ 9223372036854775807 := by
  obtain ⟨a, cap, _, h1, h2, _⟩ := h
  have : maxLen = 9223372036854775807 := rfl
  omega

/-- It reads so later, too, if its block has not been written. -/
theorem IsSl.keep {E : Enc α} {w w' : World} {v : Value} {xs : List α} {M : Nat → Prop} (h : IsSl E w v xs) (k : Keeps M w w') (hM : ∀ b, v.ownBlock = some b → ¬ M b) : IsSl E w' v xs := by
  obtain ⟨a, cap, rfl, h1, h2, h3, h4⟩ := h
  refine ⟨a, cap, rfl, h1, h2, h3, fun p hp => ?_⟩
  obtain ⟨h5, h6⟩ := h4 p hp
  subst hp
  refine ⟨h5, fun j u hu => ?_⟩
  have h7 := h6 j u hu
  have hlt : p.block < w.heap.size := World.block_lt_of_cell? w ⟨p.block, p.off + j, none⟩ h7
  exact (World.cell?_of_block (w := w) (a := ⟨p.block, p.off + j, none⟩) (k.block _ hlt (hM _ rfl))).trans h7

theorem IsSl.keep0 {E : Enc α} {w w' : World} {v : Value} {xs : List α} (h : IsSl E w v xs) (k : Keeps Nope w w') : IsSl E w' v xs := h.keep k (fun _ _ h => h)

/-- A slice of one's own. -/
def OwnS (v : Value) (E : Enc α) (xs : List α) (T : TypeId) : Res where
  foot := fun b => v.ownBlock = some b
  A := fun w => w.ownsRow 0 T E.size v xs.length (E.row xs)
  st := fun w w' h h1 => by
    refine ⟨h1.1, ?_⟩
    rcases h1.2 with h2 | ⟨g, cap, cur, hv, hg, hh, r⟩
    · exact .inl h2
    · exact .inr ⟨g, cap, cur, hv, hg, by rw [h g (by rw [hv]; rfl)]; exact hh, r⟩

theorem IsSl.of_own {E : Enc α} {w : World} {v : Value} {xs : List α} {T : TypeId} (h : w.ownsRow 0 T E.size v xs.length (E.row xs)) : IsSl E w v xs := by
  rcases h.2 with ⟨rfl, h2⟩ | ⟨g, cap, cur, rfl, hg, hh, h3, h4, h5, h6⟩
  · have : xs = [] := List.eq_nil_of_length_eq_zero h2
    subst this
    exact IsSl.nil E w
  · refine ⟨_, cap, rfl, h3, h4, fun h => (by cases h), fun p hp => ?_⟩
    cases hp
    refine ⟨fun _ => rfl, fun j u hu => ?_⟩
    rw [← h6, List.getElem?_take] at hu
    split at hu
    · simp only [World.cell?, hh, Nat.zero_add]
      simpa using hu
    · cases hu

theorem isSl_own {K : Ctx} {L : List Res} {E : Enc α} {v : Value} {xs : List α} {T : TypeId} (hm : OwnS v E xs T ∈ L) (w : World) (h : WInv K L w) : IsSl E w v xs := IsSl.of_own (h.own _ hm).1

/-- The place of a cell of a slice. -/
def elemPtr (v : Value) (k : Nat) : Value :=
  match v with
  | .slice (some a) _ _ => .pointer (some ⟨a.block, a.off + k, none⟩)
  | _ => undef

def subS (size : Nat) (v : Value) (l h : Nat) : Value :=
  match v with
  | .slice a _ cap => .slice (if cap = l then a else a.map (·.add (l * size))) (h - l) (cap - l)
  | v => v

variable {K : Ctx} {F : Fr} {L : List Res} {g : Bool} {Q : Exit → Act → World → Prop} {N : Act → World → Prop} {ops : Array Oper}
  {op : Op} {ty t t' : TypeId} {pos : String} {af : Array Edge} {d : Nat} {x y : Operand}

theorem Ev.len {E : Enc α} {v : Value} {xs : List α} {e : TypeId} (ht : P.underlying t = some (.slice e)) (hx : Opd F g x v) (h : ∀ w, WInv K L w → IsSl E w v xs) :
    Ev P K F L g (.call { callee := .builtin .len, args := #[x], argTypes := #[t] }) ty (I xs.length) := fun hg a G w hw dst pos af gd => by
  obtain ⟨b, cap, rfl, _⟩ := h w hw
  have hu : (underlying t).run P w = .ok (.slice e) w := by simp [underlying, ht]
  simp [execOp, resolve, invoke, builtin, Builtin.len_, hx.eval hg G, hu, goInt, I]

theorem Ev.indexAddr {E : Enc α} {v : Value} {xs : List α} {e : TypeId} {i : Int} (ht : P.underlying t = some (.slice e)) (T : TyOK P e E) (hx : Opd F g x v) (hy : Opd F g y (I i))
    (h : ∀ w, WInv K L w → IsSl E w v xs) (hi : g = true → 0 ≤ i ∧ i < xs.length) :
    Ev P K F L g (.indexAddr t x y) ty (elemPtr v (i.toNat * E.size)) := fun hg a G w hw dst pos af gd => by
  obtain ⟨b, cap, rfl, h1, _, h2, h3⟩ := h w hw
  have hi' := hi hg
  have hu : (underlying t).run P w = .ok (.slice e) w := by simp [underlying, ht]
  cases b with
  | none =>
    have := (h2 rfl).1
    subst this
    simp at hi'
    omega
  | some p =>
    have hp := (h3 p rfl).1 (fun e => by rw [e] at hi'; simp at hi'; omega)
    obtain ⟨pb, po, ps⟩ := p
    simp only at hp
    subst hp
    simp [execOp, Instr.indexAt, asIntOf, hx.eval hg G, hy.eval hg G, I, hu, hi', run_sizeOf T, elemPtr, addr_add]

theorem IsSl.pts {E : Enc α} {E' : Enc β} {w : World} {v : Value} {xs : List α} {o : Nat} (h : IsSl E w v xs) (l : Lens E E' o) {i : Nat} (hi : i < xs.length) (z : α) :
    ∃ b off, elemPtr v (i * E.size + o) = .pointer (some ⟨b, off, none⟩) ∧ PtsTo E' w b off (l.get (xs.getD i z)) := by
  obtain ⟨a, cap, rfl, _, _, h2, h3⟩ := h
  cases a with
  | none =>
    have := (h2 rfl).1
    subst this
    simp at hi
  | some p =>
    obtain ⟨_, h5⟩ := h3 p rfl
    refine ⟨p.block, p.off + (i * E.size + o), rfl, ?_⟩
    have h6 : PtsTo E w p.block (p.off + i * E.size) (xs.getD i z) := by
      intro j u hu
      have hj : j < E.size := by
        have := (List.getElem?_eq_some_iff.1 hu).1
        rwa [E.len] at this
      rw [← E.row_get xs i j z hi hj] at hu
      have := h5 _ u hu
      rwa [← Nat.add_assoc] at this
    have h7 := l.pts h6
    rwa [Nat.add_assoc] at h7

/-- A load from a slice's element, or from a part of it. -/
theorem Ev.loadS {E : Enc α} {E' : Enc β} {v : Value} {xs : List α} {i : Int} {o k : Nat} (T : TyOK P t E') (l : Lens E E' o) (hk : k = i.toNat * E.size + o) (hx : Opd F g x (elemPtr v k)) (h : ∀ w, WInv K L w → IsSl E w v xs)
    (hi : g = true → 0 ≤ i ∧ i < xs.length) : Ev P K F L g (.load t x) ty (E'.val (l.get (xs.getD i.toNat E.zero))) := fun hg a G w hw dst pos af gd => by
  have hi' := hi hg
  obtain ⟨b, off, h1, h2⟩ := (h w hw).pts l (i := i.toNat) (by omega) E.zero
  subst hk
  rw [h1] at hx
  simp only [execOp, hx.eval hg G, Instr.loadAt, Instr.sureAddr, Sem.run_bind, Sem.run_pure, Result.andThen_ok, run_loadVar_pts T h2]

theorem IsSl.sub {E : Enc α} {w : World} {v : Value} {xs : List α} (h : IsSl E w v xs) {l k : Nat} (hl : l ≤ k) (hk : k ≤ xs.length) : IsSl E w (subS E.size v l k) ((xs.take k).drop l) := by
  obtain ⟨a, cap, rfl, h1, h2, h3, h4⟩ := h
  have hlen : ((xs.take k).drop l).length = k - l := by simp; omega
  refine ⟨if cap = l then a else a.map (·.add (l * E.size)), cap - l, by rw [hlen]; rfl, by rw [hlen]; omega, by omega, ?_, ?_⟩
  · intro hn
    have ha : a = none := by
      split at hn
      · exact hn
      · cases a with
        | none => rfl
        | some p => cases hn
    obtain ⟨rfl, rfl⟩ := h3 ha
    simp
  · intro p hp
    split at hp
    · rename_i hc
      subst hp
      obtain ⟨h5, h6⟩ := h4 p rfl
      refine ⟨fun hne => h5 (fun e => hne (by rw [e]; simp)), fun j u hu => ?_⟩
      have : (xs.take k).drop l = [] := List.eq_nil_of_length_eq_zero (by rw [hlen]; omega)
      rw [this] at hu
      simp [Enc.row] at hu
    · cases a with
      | none => cases hp
      | some q =>
        simp only [Option.map_some, Option.some.injEq] at hp
        obtain ⟨h5, h6⟩ := h4 q rfl
        by_cases hxe : xs = []
        · subst hxe
          exact ⟨fun h => absurd (by simp) h, fun j u hu => by simp [Enc.row] at hu⟩
        obtain ⟨qb, qo, qs⟩ := q
        replace h5 := h5 hxe
        simp only at h5
        subst h5
        rw [addr_add] at hp
        subst hp
        refine ⟨fun _ => rfl, fun j u hu => ?_⟩
        have e : E.row ((xs.take k).drop l) = ((E.row xs).take (k * E.size)).drop (l * E.size) := by rw [E.row_take, E.row_drop]
        rw [e, List.getElem?_drop, List.getElem?_take] at hu
        split at hu
        · have := h6 _ u hu
          simp only at this ⊢
          rwa [← Nat.add_assoc] at this
        · cases hu

/-- v[lo:hi], v[lo:], v[:hi]. -/
theorem Ev.slice {E : Enc α} {v : Value} {xs : List α} {e : TypeId} {lo hi : Operand} {l k : Int} (ht : P.underlying t = some (.slice e)) (T : TyOK P e E) (hx : Opd F g x v) (hlo : Opd F g lo (I l)) (hhi : Opd F g hi (I k))
    (h : ∀ w, WInv K L w → IsSl E w v xs) (hb : g = true → 0 ≤ l ∧ l ≤ k ∧ k ≤ xs.length) : Ev P K F L g (.slice t x (some lo) (some hi) none) ty (subS E.size v l.toNat k.toNat) := fun hg a G w hw dst pos af gd => by
  obtain ⟨b, cap, rfl, h1, _, _⟩ := h w hw
  obtain ⟨h2, h3, h4⟩ := hb hg
  have hu : (underlying t).run P w = .ok (.slice e) w := by simp [underlying, ht]
  obtain ⟨l, rfl⟩ := Int.eq_ofNat_of_zero_le h2
  obtain ⟨k, rfl⟩ := Int.eq_ofNat_of_zero_le (Int.le_trans h2 h3)
  have h5 : k ≤ cap := by omega
  have h6 : l ≤ k := by omega
  simp [execOp, Instr.sliceAt, hu, Instr.slice, Instr.sliceBounds, Instr.sliceBound, asIntOf, hx.eval hg G, hlo.eval hg G, hhi.eval hg G, I, h5, h6, run_sizeOf T, subS]
theorem Ev.sliceH {E : Enc α} {v : Value} {xs : List α} {e : TypeId} {hi : Operand} {k : Int} (ht : P.underlying t = some (.slice e)) (T : TyOK P e E) (hx : Opd F g x v) (hhi : Opd F g hi (I k))
    (h : ∀ w, WInv K L w → IsSl E w v xs) (hb : g = true → 0 ≤ k ∧ k ≤ xs.length) : Ev P K F L g (.slice t x none (some hi) none) ty (subS E.size v 0 k.toNat) := fun hg a G w hw dst pos af gd => by
  obtain ⟨b, cap, rfl, h1, _, _⟩ := h w hw
  obtain ⟨h2, h3⟩ := hb hg
  have hu : (underlying t).run P w = .ok (.slice e) w := by simp [underlying, ht]
  have h5 : 0 ≤ k ∧ k ≤ (cap : Int) := by omega
  simp [execOp, Instr.sliceAt, hu, Instr.slice, Instr.sliceBounds, Instr.sliceBound, asIntOf, hx.eval hg G, hhi.eval hg G, I, h5, run_sizeOf T, subS]

/-! ### append -/
theorem run_append {E : Enc α} {w : World} {v u : Value} {xs ys : List α} {T : TypeId} (ht : P.underlying t = some (.slice T)) (TT : TyOK P T E) (hsz : 0 < E.size) {z : Value} {by' : Nat}
    (hz : (P.info? T).map (fun i => (i.zero, i.bytes)) = some (some z, by')) (hzs : z.cells.size = E.size)
    (hown : w.ownsRow 0 T E.size v xs.length (E.row xs)) (hsrc : IsSl E w u ys) (h63 : xs.length + ys.length ≤ maxLen) (hby : (xs.length + ys.length) * by' ≤ 140737488355328) :
    ∃ v' w', (Builtin.append_ #[t, t] ty #[v, u]).run P w = .ok v' w' ∧ w'.ownsRow 0 T E.size v' (xs ++ ys).length (E.row (xs ++ ys)) ∧ w.grownBy w' v.ownBlock ∧ (v'.ownBlock = v.ownBlock ∨ v'.ownBlock = some w.heap.size) := by
  cases hi : P.info? T with
  | none => rw [hi] at hz; cases hz
  | some i =>
    rw [hi] at hz
    simp only [Option.map_some, Option.some.injEq, Prod.mk.injEq] at hz
    obtain ⟨hz1, hz2⟩ := hz
    obtain ⟨i', hi', hes⟩ := TT.sz
    rw [hi] at hi'
    obtain rfl := Option.some.inj hi'
    have hlen : (E.row (xs ++ ys)).length = (xs ++ ys).length * E.size := E.row_length _
    obtain ⟨a, c, rfl, h1, h2, h3, h4⟩ := hsrc
    cases a with
    | none =>
      obtain ⟨rfl, rfl⟩ := h3 rfl
      have hr := run_append_owned_none (P := P) (w := w) 0 t ty T i E.size ht hi v xs.length (E.row xs) hown
      refine ⟨v, w, hr, by simpa using hown, ⟨rfl, rfl, rfl, Nat.le_refl _, fun _ _ _ => rfl⟩, .inl rfl⟩
    | some p =>
      obtain ⟨hps, hpc⟩ := h4 p rfl
      have hnews : ∀ j u, (E.row ys)[j]? = some u → w.cell? (p.add j) = some u := fun j u hu => by
        have hne : ys ≠ [] := fun e => by rw [e] at hu; simp [Enc.row] at hu
        obtain ⟨pb, po, ps⟩ := p
        have h := hps hne
        simp only at h
        subst h
        rw [addr_add]
        exact hpc j u hu
      have hyl : (E.row ys).length = ys.length * i.size := by rw [E.row_length, hes]
      have hm : maxLen = 9223372036854775807 := rfl
      rcases hown.2 with ⟨rfl, hn0⟩ | ⟨gb, cap, cur, rfl, hbg, hg, hnc, hcm, hcs, htake⟩
      · have hx : xs = [] := List.eq_nil_of_length_eq_zero hn0
        subst hx
        by_cases hy0 : ys = []
        · subst hy0
          refine ⟨.slice none 0 0, w, ?_, by simpa [Enc.row] using World.ownsRow_nil w 0 T E.size, ⟨rfl, rfl, rfl, Nat.le_refl _, fun _ _ _ => rfl⟩, .inl rfl⟩
          simp [Builtin.append_, run_underlying ht, sizeOf, typeInfo, hi, Builtin.lenOf, Builtin.firstCells, loadCells, loadCellsFrom]
        · have hpos : 0 < ys.length := List.length_pos_iff.2 hy0
          have hr := run_append_nil (P := P) w t ty T i z ht hi hz1 p ys.length c (E.row ys) hyl hnews hpos (by simp at h63; omega) (by simp only [List.length_nil, Nat.zero_add] at hby; rw [hz2]; omega)
          have hge := grownCap_ge w ys.length 0 T
          have hcm := grownCap_le_maxLen w ys.length 0 T (by simpa using h63)
          refine ⟨_, _, hr, ⟨hlen, .inr ⟨w.heap.size, _, _, rfl, Nat.zero_le _, heap_alloc_new w.drew _, ?_, hcm, ?_, ?_⟩⟩, ⟨rfl, rfl, rfl, by simp, fun k hk _ => heap_alloc_old w.drew _ k hk⟩, .inr rfl⟩
          · simpa using hge
          · simp only [Array.size_append, List.size_toArray, E.row_length, size_zeroCells, hzs, ← Nat.add_mul]
            congr 1
            omega
          · simp only [Array.toList_append, List.nil_append]
            rw [List.take_append_of_le_length (by rw [E.row_length]; exact Nat.le_refl _), List.take_of_length_le (by rw [E.row_length]; exact Nat.le_refl _)]
      · by_cases hroom : xs.length + ys.length ≤ cap
        · have hfit : xs.length * i.size + (E.row ys).length ≤ cur.size := by rw [hyl, hcs, ← hes, ← Nat.add_mul]; exact Nat.mul_le_mul_right _ hroom
          have hr := run_append_room (P := P) w t ty T i ht hi gb xs.length cap cur hg p ys.length c (E.row ys) hyl hnews (E.row_oneCell ys) hroom hfit
          rw [hes] at hr hfit
          refine ⟨_, _, hr, ⟨hlen, .inr ⟨gb, cap, _, by rw [List.length_append], Nat.zero_le _, setRow_heap w gb cur _ T _ hg, by simpa using hroom, hcm, ?_, ?_⟩⟩, ⟨rfl, rfl, rfl, by simp, fun k _ hk => setRow_other w gb k _ (fun e => hk (by simp [Value.ownBlock, e]))⟩, .inl rfl⟩
          · simp only [List.size_toArray, List.length_append, List.length_take, List.length_drop, Array.length_toList]
            omega
          · rw [htake, ← hlen, E.row_append]
            exact List.take_left
        · have holds : ∀ j u, (E.row xs)[j]? = some u → w.cell? ((⟨gb, 0, none⟩ : Addr).add j) = some u := hown.cells (g := gb) rfl
          have hr := run_append_grow (P := P) w t ty T i z ht hi hz1 ⟨gb, 0, none⟩ xs.length cap (E.row xs) (by rw [hown.1, hes]) holds p ys.length c (E.row ys) hyl hnews (by omega) (by omega) (by rw [hz2]; exact growslice_fits (by omega) hby)
          have hge := grownCap_ge w (xs.length + ys.length) cap T
          have hcm' := grownCap_le_maxLen w (xs.length + ys.length) cap T h63
          refine ⟨_, _, hr, ⟨hlen, .inr ⟨w.heap.size, _, _, by rw [List.length_append], Nat.zero_le _, heap_alloc_new w.drew _, by simpa using hge, hcm', ?_, ?_⟩⟩, ⟨rfl, rfl, rfl, by simp, fun k hk _ => heap_alloc_old w.drew _ k hk⟩, .inr rfl⟩
          · simp only [Array.size_append, List.size_toArray, E.row_length, size_zeroCells, hzs, ← Nat.add_mul]
            congr 1
            omega
          · simp only [Array.toList_append, List.append_assoc, E.row_append]
            rw [← List.append_assoc, List.take_append_of_le_length (by simp only [List.length_append, E.row_length]; rw [← Nat.add_mul]; exact Nat.le_refl _), List.take_of_length_le (by simp only [List.length_append, E.row_length]; rw [← Nat.add_mul]; exact Nat.le_refl _)]

theorem own_one {w : World} {T : TypeId} {size n : Nat} {v : Value} {xs : List Value} (h : w.ownsRow 0 T size v n xs) : v.oneCell' = true := by
  rcases h.2 with ⟨rfl, _⟩ | ⟨g, cap, cur, rfl, _⟩ <;> rfl

theorem IsSl.one {E : Enc α} {w : World} {v : Value} {xs : List α} (h : IsSl E w v xs) : v.oneCell' = true := by
  obtain ⟨a, cap, rfl, _⟩ := h
  rfl

/-- append(s, x...) to a slice of one's own. -/
theorem append {E : Enc α} {v u : Value} {xs ys : List α} {T : TypeId} {L' : Value → List Res} {z : Value} {by' : Nat} (ht : P.underlying t = some (.slice T)) (TT : TyOK P T E) (hsz : Nat.blt 0 E.size = true)
    (hz : (P.info? T).map (fun i => (i.zero, i.bytes)) = some (some z, by')) (hzs : z.cells.size = E.size)
    (hx : Opd F true x v) (hy : Opd F true y u) (hu : ∀ v', Upd L (OwnS v E xs T) (OwnS v' E (xs ++ ys) T) (L' v')) (hsrc : ∀ w, WInv K L w → IsSl E w u ys) (hby : xs.length + ys.length ≤ maxLen ∧ (xs.length + ys.length) * by' ≤ 140737488355328)
    (next : ∀ o : OV, Sat K N ((d, true, o.v) :: F) (L' o.v)) (hd : Nat.blt d K.n = true := by rfl) :
    Sat K (opThen P ops Q ⟨some d, .call { callee := .builtin .append, args := #[x, y], argTypes := #[t, t] }, ty, pos, af, none⟩ N) F L := fun a w G => by
  refine opThen_plain rfl ?_
  unfold Oper.wp
  have hown := (G.inv.own _ (hu undef).mem).1
  obtain ⟨v', w', hr, h1, h2, h3⟩ := run_append (P := P) (ty := ty) ht TT (by simpa [Nat.blt_eq] using hsz) hz hzs hown (hsrc w G.inv) hby.1 hby.2
  have he : (execOp a.eval ⟨some d, .call { callee := .builtin .append, args := #[x, y], argTypes := #[t, t] }, ty, pos, af, none⟩).run P w = .ok (.value v') w' := by
    simp [execOp, resolve, invoke, builtin, hx.eval rfl G.fo, hy.eval rfl G.fo, hr]
  rw [he]
  refine next ⟨v', own_one h1⟩ _ _ (G.put d true _ _ (by simpa [Nat.blt_eq] using hd) rfl (G.inv.upd (hu v') ((Keeps.of_grown h2).mono (fun i hi => hi)) h1 ?_))
  intro b hb
  have hlt := (h1.lt b hb).2
  refine ⟨?_, hlt⟩
  have hb' : v'.ownBlock = some b := hb
  rcases h3 with h3 | h3
  · exact .inl (h3.symm.trans hb')
  · rw [h3] at hb'
    exact .inr (Nat.le_of_eq (Option.some.inj hb'))

/-- The empty slice owns nothing: it may be taken in hand whenever one wants. -/
theorem takeNil {X : Act → World → Prop} (E : Enc α) (T : TypeId) (h : Sat K X F (OwnS (.slice none 0 0) E [] T :: L)) : Sat K X F L := fun a w G =>
  h a w (G.world (G.inv.add (Keeps.refl _ _) (by simpa [Enc.row, OwnS] using World.ownsRow_nil w 0 T E.size) (fun b hb => by cases hb)))
end
end Go.Gx

/- Part D: structs and arrays as values: how they lie, their parts, whether two are the same; composite literals. -/
namespace Go.Gx
open Go Go.RowKit

section
variable {α β γ : Type}

def prodE (E : Enc α) (E' : Enc β) : Enc (α × β) where
  size := E.size + E'.size
  agg := true
  cells x := E.cells x.1 ++ E'.cells x.2
  zero := (E.zero, E'.zero)
  len x := by rw [List.length_append, E.len, E'.len]
  one x v hv := by
    rcases List.mem_append.1 hv with h | h
    · exact E.one _ v h
    · exact E'.one _ v h
  sc h := by cases h

def unitE : Enc Unit where
  size := 0
  agg := true
  cells _ := []
  zero := ()
  len _ := rfl
  one _ v hv := absurd hv List.not_mem_nil
  sc h := by cases h

/-- The same cells, under another type. -/
def isoE (E : Enc β) (to : β → α) (of : α → β) : Enc α where
  size := E.size
  agg := true
  cells x := E.cells (of x)
  zero := to E.zero
  len x := E.len _
  one x := E.one _
  sc h := by cases h

def arrE (n : Nat) (E : Enc α) : Enc (Vector α n) where
  size := n * E.size
  agg := true
  cells x := E.row x.toList
  zero := Vector.replicate n E.zero
  len x := by rw [E.row_length, Vector.length_toList]
  one x := E.row_oneCell _
  sc h := by cases h

def lFst (E : Enc α) (E' : Enc β) : Lens (prodE E E') E 0 where
  get x := x.1
  set x y := (y, x.2)
  fits := by simp [prodE]
  hget x := by simp [prodE, ← E.len x.1]
  hset x y := by simp [prodE, ← E.len x.1]

def lSnd (E : Enc α) (E' : Enc β) : Lens (prodE E E') E' E.size where
  get x := x.2
  set x y := (x.1, y)
  fits := by simp [prodE]
  hget x := by simp [prodE, ← E.len x.1, ← E'.len x.2]
  hset x y := by
    have h : (E.cells x.1 ++ E'.cells x.2).length = E.size + E'.size := by rw [List.length_append, E.len, E'.len]
    simp only [prodE]
    rw [← h, List.drop_length, List.append_nil, List.take_append_of_le_length (by rw [E.len]; exact Nat.le_refl _), List.take_of_length_le (by rw [E.len]; exact Nat.le_refl _)]

def lIso (E : Enc β) (to : β → α) (of : α → β) (h : ∀ x, of (to x) = x) {E' : Enc γ} {o : Nat} (l : Lens E E' o) : Lens (isoE E to of) E' o where
  get x := l.get (of x)
  set x y := to (l.set (of x) y)
  fits := l.fits
  hget x := l.hget _
  hset x y := by
    show E.cells (of (to _)) = _
    rw [h]; exact l.hset _ _

def lArr {n : Nat} (E : Enc α) (i : Nat) (hi : i < n) : Lens (arrE n E) E (i * E.size) where
  get x := x[i]
  set x y := x.set i y
  fits := by
    show i * E.size + E.size ≤ n * E.size
    have : (i + 1) * E.size ≤ n * E.size := Nat.mul_le_mul_right _ hi
    rwa [Nat.add_mul, Nat.one_mul] at this
  hget x := by
    have hl : x.toList.length = n := Vector.length_toList
    show ((E.row x.toList).drop (i * E.size)).take E.size = E.cells x[i]
    have h1 := E.row_drop x.toList i
    have h2 : x.toList.drop i = x[i] :: x.toList.drop (i + 1) := by
      rw [List.drop_eq_getElem_cons (by rw [hl]; exact hi)]; simp
    have e : E.row (x[i] :: x.toList.drop (i + 1)) = E.cells x[i] ++ E.row (x.toList.drop (i + 1)) := by simp [Enc.row]
    rw [h1, h2, e, ← E.len x[i], List.take_left]
  hset x y := by
    have hl : x.toList.length = n := Vector.length_toList
    show E.row (x.set i y).toList = _
    have h1 : (x.set i y).toList = x.toList.set i y := by simp [Vector.toList_set]
    rw [h1, E.row_set _ _ _ (by rw [hl]; exact hi)]
    rfl

@[simp] theorem lArr_get {n : Nat} (E : Enc α) (i : Nat) (hi : i < n) (x : Vector α n) : (lArr E i hi).get x = x[i] := rfl
@[simp] theorem lArr_set {n : Nat} (E : Enc α) (i : Nat) (hi : i < n) (x : Vector α n) (y : α) : (lArr E i hi).set x y = x.set i y := rfl

variable {P : Program}

/-! ### whether two values are the same -/
def EqOK (P : Program) (t : TypeId) (E : Enc α) (q : α → α → Bool) (n : Nat) : Prop :=
  ∀ d, n ≤ d → ∀ w x y, (Op.equalIn d t (E.val x) (E.val y)).run P w = .ok (q x y) w

def eqd [DecidableEq α] (x y : α) : Bool := decide (x = y)

theorem eqok_int {t : TypeId} {k : IntKind} {f : α → Int} (E : Enc α) (hE : ∀ x, E.val x = .int k (f x)) (hu : P.underlying t = some (.int k)) {q : α → α → Bool} (hq : ∀ x y, (f x == f y) = q x y) : EqOK P t E q 1 := by
  intro d hd w x y
  obtain ⟨d, rfl⟩ := Nat.exists_eq_add_of_le' hd
  rw [hE, hE, run_equalIn_int w d t k k _ _ hu, hq]

theorem eqok_u8 {t : TypeId} (hu : P.underlying t = some (.int .u8)) : EqOK P t u8E eqd 1 := eqok_int u8E (fun _ => rfl) hu (fun x y => by
  show decide ((x.toNat : Int) = y.toNat) = decide (x = y); simp only [cast_u8])
theorem eqok_u16 {t : TypeId} (hu : P.underlying t = some (.int .u16)) : EqOK P t u16E eqd 1 := eqok_int u16E (fun _ => rfl) hu (fun x y => by
  show decide ((x.toNat : Int) = y.toNat) = decide (x = y); simp only [cast_u16])
theorem eqok_u64 {t : TypeId} (hu : P.underlying t = some (.int .u64)) : EqOK P t u64E eqd 1 := eqok_int u64E (fun _ => rfl) hu (fun x y => by
  show decide ((x.toNat : Int) = y.toNat) = decide (x = y); simp only [cast_u64])
theorem eqok_i {t : TypeId} (hu : P.underlying t = some (.int .i64)) : EqOK P t iE eqd 1 := eqok_int iE (fun _ => rfl) hu (fun _ _ => rfl)
theorem eqok_b {t : TypeId} (hu : P.underlying t = some .bool) : EqOK P t bE eqd 1 := by
  intro d hd w x y
  obtain ⟨d, rfl⟩ := Nat.exists_eq_add_of_le' hd
  show (Op.equalIn (d + 1) t (.bool x) (.bool y)).run P w = _
  rw [run_equalIn_bool' w d t x y hu]
  cases x <;> cases y <;> rfl
/-- Texts, byte by byte. -/
def eqs (x y : ByteArray) : Bool := x == y
theorem eqok_s {t : TypeId} (hu : P.underlying t = some .string) : EqOK P t sE eqs 1 := by
  intro d hd w x y
  obtain ⟨d, rfl⟩ := Nat.exists_eq_add_of_le' hd
  show (Op.equalIn (d + 1) t (.string x) (.string y)).run P w = _
  have hu' : (underlying t).run P w = .ok .string w := by simp [underlying, hu]
  simp only [Op.equalIn, Sem.run_bind, hu', Result.andThen_ok, Sem.run_pure]
  rfl

theorem run_part {E : Enc α} {E' : Enc β} {o : Nat} {t : TypeId} (T : TyOK P t E') (l : Lens E E' o) (x : α) (w : World) : (part t (E.cells x).toArray o).run P w = .ok (E'.val (l.get x)) w := by
  have h := l.hget x
  simp only [part, Sem.run_bind, run_isAgg T, Result.andThen_ok]
  unfold Enc.val
  cases ha : E'.agg with
  | true =>
    simp only [if_true, Sem.run_bind, run_sizeOf T, Result.andThen_ok, Sem.run_pure, cond_true]
    congr 2
    rw [← h]
    apply Array.ext'
    simp [List.take_drop]
  | false =>
    have hs := E'.sc ha
    simp only [Bool.false_eq_true, if_false, cond_false]
    have hl : (E'.cells (l.get x)).length = 1 := by rw [E'.len, hs]
    match hc : E'.cells (l.get x), hl with
    | [v], _ =>
      rw [hc, hs] at h
      have h2 : (E.cells x)[o]? = some v := by
        have h3 : (((E.cells x).drop o).take 1)[0]? = some v := by rw [h]; rfl
        rw [List.getElem?_take] at h3
        simpa [List.getElem?_drop] using h3
      simp [h2]

/-- A struct's fields, one by one. -/
def EqF (P : Program) (E : Enc α) (n : Nat) (fs : List Field) (q : α → α → Bool) : Prop :=
  ∀ d, n ≤ d → ∀ w x y, (Op.eqFields d (E.cells x).toArray (E.cells y).toArray fs).run P w = .ok (q x y) w

theorem EqF.nil {E : Enc α} {n : Nat} : EqF P E n [] (fun _ _ => true) := fun d _ w x y => rfl
theorem EqF.cons {E : Enc α} {E' : Enc β} {n o : Nat} {f : Field} {fs : List Field} {q' : β → β → Bool} {q : α → α → Bool} (hn : f.name ≠ "_") (ho : f.offset = o) (l : Lens E E' o) (T : TyOK P f.type E') (h : EqOK P f.type E' q' n) (hr : EqF P E n fs q) :
    EqF P E n (f :: fs) (fun x y => q' (l.get x) (l.get y) && q x y) := fun d hd w x y => by
  subst ho
  simp only [Op.eqFields, hn, ne_eq, not_false_eq_true, if_true, Sem.run_bind, run_part T l, Result.andThen_ok, h d hd, Sem.run_ite, Sem.run_pure, hr d hd]
  cases q' (l.get x) (l.get y) <;> simp

theorem eqok_struct {t : TypeId} {E : Enc α} {fs : List Field} {q q' : α → α → Bool} {n : Nat} (hu : P.underlying t = some (.struct fs.toArray)) (hs : P.stoodInHeld t = false) (ha : E.agg = true) (h : EqF P E n fs q) (hq : ∀ x y, q x y = q' x y) : EqOK P t E q' (n + 1) := by
  intro d hd w x y
  obtain ⟨d, rfl⟩ := Nat.exists_eq_add_of_le' (Nat.le_trans (Nat.le_add_left 1 n) hd)
  have hf : P.fieldsOf t = fs.toArray := by simp [Program.fieldsOf, hu]
  unfold Enc.val
  rw [ha, cond_true, cond_true, run_equalIn_struct w d t _ _ (by rw [hf]; exact hu) hs, hf]
  rw [show fs.toArray.toList = fs from rfl, h d (by omega) w x y, hq]

/-- Arrays, one by one. -/
def eqL (q : α → α → Bool) : List α → List α → Bool
  | [], _ => true
  | _ :: _, [] => true
  | x :: xs, y :: ys => q x y && eqL q xs ys

def eqA (n : Nat) (q : α → α → Bool) (x y : Vector α n) : Bool := eqL q x.toList y.toList

theorem eqL_iff {q : α → α → Bool} (hq : ∀ x y, q x y = true ↔ x = y) : ∀ xs ys : List α, xs.length = ys.length → (eqL q xs ys = true ↔ xs = ys)
  | [], [], _ => by simp [eqL]
  | x :: xs, y :: ys, h => by
    simp only [eqL, Bool.and_eq_true, hq, eqL_iff hq xs ys (by simpa using h), List.cons.injEq]

theorem eqA_iff {n : Nat} {q : α → α → Bool} (hq : ∀ x y, q x y = true ↔ x = y) (x y : Vector α n) : eqA n q x y = true ↔ x = y := by
  unfold eqA
  rw [eqL_iff hq _ _ (by rw [Vector.length_toList, Vector.length_toList]), Vector.toList_inj]

theorem eqd_iff [DecidableEq α] (x y : α) : eqd x y = true ↔ x = y := by unfold eqd; exact decide_eq_true_iff
theorem eqs_iff (x y : ByteArray) : eqs x y = true ↔ x = y := by
  unfold eqs
  rw [beq_toListBytes, beq_iff_eq, ByteArray.toList_eq, ByteArray.toList_eq]
  obtain ⟨⟨x⟩⟩ := x
  obtain ⟨⟨y⟩⟩ := y
  simp

theorem eqL_drop {q : α → α → Bool} {xs ys : List α} {i : Nat} (h1 : i < xs.length) (h2 : i < ys.length) : eqL q (xs.drop i) (ys.drop i) = (q xs[i] ys[i] && eqL q (xs.drop (i + 1)) (ys.drop (i + 1))) := by
  rw [List.drop_eq_getElem_cons h1, List.drop_eq_getElem_cons h2]; rfl

theorem eqok_arr {t e : TypeId} {n m : Nat} {E : Enc α} {q : α → α → Bool} (hu : P.underlying t = some (.array n e)) (T : TyOK P e E) (h : EqOK P e E q m) : EqOK P t (arrE n E) (eqA n q) (m + 1) := by
  intro d hd w x y
  obtain ⟨d, rfl⟩ := Nat.exists_eq_add_of_le' (Nat.le_trans (Nat.le_add_left 1 m) hd)
  have hru : (underlying t).run P w = .ok (.array n e) w := by simp [underlying, hu]
  show (Op.equalIn (d + 1) t (.agg (E.row x.toList).toArray) (.agg (E.row y.toList).toArray)).run P w = _
  have hp : ∀ (v : Vector α n) (i : Nat) (hi : i < n) (w : World), (part e (E.row v.toList).toArray (i * E.size)).run P w = .ok (E.val v[i]) w := fun v i hi w => run_part T (lArr E i hi) v w
  simp only [Op.equalIn, Sem.run_bind, hru, Result.andThen_ok, run_sizeOf T]
  have hx : x.toList.length = n := Vector.length_toList
  have hy : y.toList.length = n := Vector.length_toList
  have key : ∀ k i, k = n - i → i ≤ n → ∀ (f : Option Bool × Unit → Sem Bool), (∀ r w, r.1 = none → (f r).run P w = .ok true w) → (∀ b r w, r.1 = some b → (f r).run P w = .ok b w) →
      ((forIn (List.range' i k) ((none, ()) : Option Bool × Unit) (fun i _ => do
        let a ← part e (E.row x.toList).toArray (i * E.size)
        let b ← part e (E.row y.toList).toArray (i * E.size)
        let r ← Op.equalIn d e a b
        if (!r) = true then pure (ForInStep.done (some false, ())) else pure (ForInStep.yield (none, ())))) >>= f).run P w =
      .ok (eqL q (x.toList.drop i) (y.toList.drop i)) w := by
    intro k
    induction k with
    | zero =>
      intro i hk hi f h1 _
      have e1 : x.toList.drop i = [] := List.drop_eq_nil_of_le (by omega)
      rw [e1]
      simp [eqL, h1]
    | succ k ih =>
      intro i hk hi f h1 h2
      have hlt : i < n := by omega
      rw [eqL_drop (by omega) (by omega)]
      simp only [List.range'_succ, List.forIn_cons, Sem.run_bind, hp x i hlt, hp y i hlt, Result.andThen_ok, h d (by omega), Sem.run_ite, Sem.run_pure]
      have ex : x.toList[i]'(by omega) = x[i] := by simp
      have ey : y.toList[i]'(by omega) = y[i] := by simp
      rw [ex, ey]
      cases hq : q x[i] y[i] with
      | false =>
        simp only [Bool.not_false, if_true, Result.andThen_ok, Bool.false_and, Sem.run_pure]
        exact h2 false _ _ rfl
      | true =>
        simp only [Bool.not_true, Bool.false_eq_true, if_false, Result.andThen_ok, Bool.true_and]
        have := ih (i + 1) (by omega) (by omega) f h1 h2
        simpa only [Sem.run_bind] using this
  rw [Std.Legacy.Range.forIn_eq_forIn_range']
  simp only [Std.Legacy.Range.size]
  have e0 : (n - 0 + 1 - 1) / 1 = n := by simp
  rw [e0]
  have hk := key n 0 (by omega) (Nat.zero_le _) (fun a => match a.fst with
    | some r => pure r
    | none => pure true) (fun r w hr => by simp only [hr]; rfl) (fun b r w hr => by simp only [hr]; rfl)
  rw [Sem.run_bind] at hk
  rw [show eqA n q x y = eqL q (x.toList.drop 0) (y.toList.drop 0) from rfl, ← hk]
  congr 1
  funext a w'
  obtain ⟨r, u⟩ := a
  cases r <;> rfl

variable {K : Ctx} {F : Fr} {L : List Res} {g : Bool} {Q : Exit → Act → World → Prop} {N : Act → World → Prop} {ops : Array Oper}
  {op : Op} {ty t t' : TypeId} {pos : String} {af : Array Edge} {d : Nat} {x y : Operand}

/-- '==' and '!=' on structs and arrays. -/
theorem Ev.eqlS {E : Enc α} {q : α → α → Bool} {n : Nat} {u v : α} (ha : E.agg = true) (h : EqOK P t E q n) (hn : Nat.ble n 9999 = true) (hm : P.eqGuardType P.depth t = false) (hx : Opd F g x (E.val u)) (hy : Opd F g y (E.val v)) :
    Ev P K F L g (.binOp .eql t x y t') ty (.bool (q u v)) :=
  Ev.bin hx hy (fun w => by
    unfold Enc.val; rw [ha]; exact run_eqGuard_agg (P := P) w _ t x y _ _ hm) (fun w => by
    have h1 := h 10000 (Nat.le_trans (by simpa [Nat.ble_eq] using hn) (by omega)) w u v
    unfold Enc.val at h1 ⊢
    rw [ha] at h1 ⊢
    simp only [cond_true] at h1 ⊢
    rw [run_eql_struct (P := P) w, h1]
    rfl)
theorem Ev.neqS {E : Enc α} {q : α → α → Bool} {n : Nat} {u v : α} (ha : E.agg = true) (h : EqOK P t E q n) (hn : Nat.ble n 9999 = true) (hm : P.eqGuardType P.depth t = false) (hx : Opd F g x (E.val u)) (hy : Opd F g y (E.val v)) :
    Ev P K F L g (.binOp .neq t x y t') ty (.bool (!q u v)) :=
  Ev.bin hx hy (fun w => by
    unfold Enc.val; rw [ha]; exact run_eqGuard_agg (P := P) w _ t x y _ _ hm) (fun w => by
    have h1 := h 10000 (Nat.le_trans (by simpa [Nat.ble_eq] using hn) (by omega)) w u v
    unfold Enc.val at h1 ⊢
    rw [ha] at h1 ⊢
    simp only [cond_true] at h1 ⊢
    rw [run_neq_struct (P := P) w, h1]
    rfl)

/-! ### composite literals -/
theorem foldl_set : ∀ (vs : List Value) (off : Nat) (k : Nat) (cur : Array Value), off + k + vs.length ≤ cur.size →
    ((vs.zipIdx k).foldl (fun cs (c : Value × Nat) => cs.setIfInBounds (off + c.2) c.1) cur).toList = cur.toList.take (off + k) ++ vs ++ cur.toList.drop (off + k + vs.length)
  | [], off, k, cur, _ => by simp
  | v :: vs, off, k, cur, h => by
    simp only [List.zipIdx_cons, List.foldl_cons]
    rw [foldl_set vs off (k + 1) _ (by simp only [List.length_cons] at h; simp; omega)]
    simp only [List.length_cons] at h
    rw [Array.toList_setIfInBounds]
    have h0 : off + k < cur.toList.length := by simp; omega
    rw [List.set_eq_take_append_cons_drop, if_pos h0]
    have e1 : (cur.toList.take (off + k) ++ v :: cur.toList.drop (off + k + 1)).take (off + (k + 1)) = cur.toList.take (off + k) ++ [v] := by
      rw [List.take_append]
      have hl : (cur.toList.take (off + k)).length = off + k := by rw [List.length_take]; omega
      rw [hl, List.take_take, Nat.min_eq_right (by omega), show off + (k + 1) - (off + k) = 1 by omega]
      rfl
    have e2 : (cur.toList.take (off + k) ++ v :: cur.toList.drop (off + k + 1)).drop (off + (k + 1) + vs.length) = cur.toList.drop (off + k + (vs.length + 1)) := by
      rw [List.drop_append]
      have hl : (cur.toList.take (off + k)).length = off + k := by rw [List.length_take]; omega
      rw [hl, List.drop_eq_nil_of_le (by rw [hl]; omega), show off + (k + 1) + vs.length - (off + k) = vs.length + 1 by omega, List.drop_succ_cons, List.drop_drop, List.nil_append]
      congr 1
      omega
    rw [e1, e2]
    simp

/-- A part put into cells is its lens's put. -/
theorem fill_lens {E : Enc α} {E' : Enc β} {o : Nat} (l : Lens E E' o) (z : α) (v : β) :
    (((E'.val v).cells.zipIdx.foldl (fun cs (c : Value × Nat) => cs.setIfInBounds (o + c.2) c.1) (E.cells z).toArray)) = (E.cells (l.set z v)).toArray := by
  apply Array.ext'
  rw [E'.cells_val, ← Array.foldl_toList]
  have e : ((E'.cells v).toArray.zipIdx).toList = (E'.cells v).zipIdx := by simp
  rw [e, foldl_set _ o 0 _ (by simp [E'.len, E.len]; have := l.fits; omega), l.hset]
  simp [E'.len]

/-- The parts of a literal, one by one, into z. -/
def Fills (P : Program) (E : Enc α) (place : Nat → Option (Nat × Nat)) : List (Nat × Value) → α → α → Prop
  | [], z, r => r = z
  | (i, v) :: ps, z, r => ∃ cs, Instr.fill place (E.cells z).toArray [(i, v)] = some cs ∧ ∃ z', cs = (E.cells z').toArray ∧ Fills P E place ps z' r

theorem Fills.nil {E : Enc α} {place : Nat → Option (Nat × Nat)} {z : α} : Fills P E place [] z z := rfl
theorem Fills.cons {E : Enc α} {E' : Enc β} {place : Nat → Option (Nat × Nat)} {i o : Nat} {v : β} {ps : List (Nat × Value)} {z r : α} (l : Lens E E' o) (hp : place i = some (o, E'.size)) (h : Fills P E place ps (l.set z v) r) : Fills P E place ((i, E'.val v) :: ps) z r := by
  refine ⟨_, ?_, l.set z v, fill_lens l z v, h⟩
  unfold Instr.fill
  rw [hp]
  have h1 : (E'.val v).cells.size = E'.size := by simp [E'.cells_val, E'.len]
  have h2 : ¬ ((E'.val v).cells.size ≠ E'.size ∨ o + (E'.val v).cells.size > (E.cells z).toArray.size) := by
    have := l.fits
    rw [h1]; simp [E.len]; omega
  simp only [Bool.or_eq_true, decide_eq_true_eq] at *
  rw [if_neg h2]
  rfl

theorem fill_cons (place : Nat → Option (Nat × Nat)) (cs : Array Value) (p : Nat × Value) (ps : List (Nat × Value)) : Instr.fill place cs (p :: ps) = (Instr.fill place cs [p]).bind (fun cs => Instr.fill place cs ps) := by
  obtain ⟨i, v⟩ := p
  simp only [Instr.fill]
  cases place i with
  | none => rfl
  | some os =>
    obtain ⟨o, s⟩ := os
    simp only
    split <;> rfl

theorem Fills.run {E : Enc α} {place : Nat → Option (Nat × Nat)} : ∀ {ps : List (Nat × Value)} {z r : α}, Fills P E place ps z r → Instr.fill place (E.cells z).toArray ps = some (E.cells r).toArray
  | [], z, r, h => by rw [show r = z from h]; rfl
  | p :: ps, z, r, h => by
    obtain ⟨cs, h1, z', rfl, h2⟩ := h
    rw [fill_cons, h1, Option.bind_some]
    exact Fills.run h2

/-- The parts' values. -/
def PartVs (F : Fr) (g : Bool) : List (Nat × Operand) → List (Nat × Value) → Prop
  | [], vs => vs = []
  | (i, x) :: ps, vs => ∃ v us, vs = (i, v) :: us ∧ Opd F g x v ∧ PartVs F g ps us

theorem PartVs.nil : PartVs F g [] [] := rfl
theorem PartVs.cons {i : Nat} {v : Value} {ps : List (Nat × Operand)} {us : List (Nat × Value)} (h : Opd F g x v) (hs : PartVs F g ps us) : PartVs F g ((i, x) :: ps) ((i, v) :: us) := ⟨v, us, rfl, h, hs⟩
theorem PartVs.eval : ∀ {ps : List (Nat × Operand)} {vs : List (Nat × Value)}, PartVs F g ps vs → g = true → ∀ {a : Act}, FrOK K F a → ps.map (fun p => (p.1, a.eval p.2)) = vs
  | [], _, h, _, _, _ => by rw [show _ = [] from h]; rfl
  | (i, x) :: ps, vs, h, hg, a, G => by
    obtain ⟨v, us, rfl, h, hs⟩ := h
    simp [h.eval hg G, PartVs.eval hs hg G]

theorem Ev.buildS {E : Enc α} {ps : List (Nat × Operand)} {vs : List (Nat × Value)} {r : α} {fs : List Field} {places : List (Nat × Nat)} (hz : (P.info? t).bind (·.zero) = some (E.val E.zero)) (ha : E.agg = true) (hu : P.underlying t = some (.struct fs.toArray))
    (hp : fs.mapM (fun f => (P.info? f.type).map (fun i => (f.offset, i.size))) = some places) (hv : PartVs F g ps vs) (hf : Fills P E (fun i => places[i]?) vs E.zero r) :
    Ev P K F L g (.build t ps.toArray) ty (E.val r) := fun hg a G w hw dst pos af gd => by
  have h1 := hv.eval hg G
  cases hi : P.info? t with
  | none => rw [hi] at hz; cases hz
  | some i =>
    rw [hi] at hz
    simp only [Option.bind_some] at hz
    have hru : (underlying t).run P w = .ok (.struct fs.toArray) w := by simp [underlying, hu]
    have hpl : ∀ (fs : List Field) (places : List (Nat × Nat)), fs.mapM (fun f => (P.info? f.type).map (fun i => (f.offset, i.size))) = some places →
        (fs.mapM (fun f => do pure (f.offset, ← sizeOf f.type) : Field → Sem (Nat × Nat))).run P w = .ok places w := by
      intro fs
      induction fs with
      | nil => intro places h; simp at h; subst h; rfl
      | cons f fs ih =>
        intro places h
        simp only [List.mapM_cons, Option.bind_eq_bind, Option.bind_eq_some_iff, Option.pure_def] at h
        obtain ⟨p, hp, qs, hqs, hh⟩ := h
        cases hif : P.info? f.type with
        | none => rw [hif] at hp; cases hp
        | some fi =>
          rw [hif] at hp
          simp only [Option.map_some, Option.some.injEq] at hp hh
          subst hp; subst hh
          have hsz : (sizeOf f.type).run P w = .ok fi.size w := by simp [sizeOf, typeInfo, hif]
          simp only [List.mapM_cons, Sem.run_bind, hsz, Result.andThen_ok, Sem.run_pure, ih qs hqs]
    have hpl' := hpl fs places hp
    have hr := hf.run
    have hzc : (E.val E.zero).cells = (E.cells E.zero).toArray := E.cells_val _
    have hvs : (List.map (fun x => (x.fst, a.eval x.snd)) ps) = vs := h1
    have hfin : (Value.agg (E.cells r).toArray) = E.val r := by unfold Enc.val; rw [ha]; rfl
    simp only [execOp, Instr.build, zeroValue, typeInfo, Sem.run_bind, run_program, Result.andThen_ok, hi, Sem.run_pure, hz, hru, List.mapM_toArray, Sem.run_map, hpl', hzc, List.map_toArray, hvs]
    have e : (fun (i : Nat) => (places.toArray)[i]?) = (fun (i : Nat) => places[i]?) := by funext i; simp
    simp only [e, hr, hfin, Sem.run_pure, Result.andThen_ok]

theorem Ev.buildA {E : Enc α} {ps : List (Nat × Operand)} {vs : List (Nat × Value)} {n : Nat} {e : TypeId} {r : Vector α n} (hz : (P.info? t).bind (·.zero) = some ((arrE n E).val (arrE n E).zero)) (hu : P.underlying t = some (.array n e)) (T : TyOK P e E)
    (hv : PartVs F g ps vs) (hf : Fills P (arrE n E) (fun i => some (i * E.size, E.size)) vs (arrE n E).zero r) : Ev P K F L g (.build t ps.toArray) ty ((arrE n E).val r) := fun hg a G w hw dst pos af gd => by
  have h1 := hv.eval hg G
  cases hi : P.info? t with
  | none => rw [hi] at hz; cases hz
  | some i =>
    rw [hi] at hz
    simp only [Option.bind_some] at hz
    have hru : (underlying t).run P w = .ok (.array n e) w := by simp [underlying, hu]
    have hr := hf.run
    have hzc : ((arrE n E).val (arrE n E).zero).cells = ((arrE n E).cells (arrE n E).zero).toArray := (arrE n E).cells_val _
    have hvs : (List.map (fun x => (x.fst, a.eval x.snd)) ps) = vs := h1
    simp only [execOp, Instr.build, zeroValue, typeInfo, Sem.run_bind, run_program, Result.andThen_ok, hi, Sem.run_pure, hz, hru, run_sizeOf T, hzc, List.map_toArray, hvs, hr]
    rfl
end
end Go.Gx

/- Part E: results; more operations: slices and arrays in place, literals of slices, copies. -/
namespace Go.Gx
open Go Go.RowKit

section
variable {α β γ : Type} {P : Program}
variable {K : Ctx} {F : Fr} {L : List Res} {g : Bool} {Q : Exit → Act → World → Prop} {N : Act → World → Prop} {ops : Array Oper}
  {op : Op} {ty t t' : TypeId} {pos : String} {af : Array Edge} {d : Nat} {x y : Operand}

/-- It hands back a new slice. -/
def RetO (w : World) (E : Enc α) (xs : List α) (T : TypeId) : Ending → World → Prop := Ret w fun v w' => True ∧ News w w' [OwnS v E xs T]

theorem retV {n : Nat} {w0 : World} {L : List Res} {v : Value} : ∀ w, WInv ⟨n, w0, Nope⟩ L w → RetV w0 v (.returned v) w := fun _ h => ⟨rfl, h.keeps⟩

theorem retE {n : Nat} {w0 : World} {L : List Res} {v u : Value} (h : v = u) : ∀ w, WInv ⟨n, w0, Nope⟩ L w → RetV w0 u (.returned v) w := h ▸ retV

theorem bT {p : Prop} [Decidable p] (h : p) : tupV [.bool true] = .bool (decide p) := by rw [decide_eq_true h]; rfl
theorem bF {p : Prop} [Decidable p] (h : ¬ p) : tupV [.bool false] = .bool (decide p) := by rw [decide_eq_false h]; rfl
theorem news_one {n : Nat} {w0 w : World} {L : List Res} {r : Res} (hm : r ∈ L) (h : WInv ⟨n, w0, Nope⟩ L w) : News w0 w [r] := by
  refine ⟨fun s hs => ?_, List.pairwise_singleton _ _⟩
  rw [List.mem_singleton] at hs
  subst hs
  obtain ⟨h1, h2⟩ := h.own _ hm
  refine ⟨h1, fun b hb => ⟨?_, (h2 b hb).2⟩⟩
  rcases (h2 b hb).1 with h3 | h3
  · exact h3
  · exact h3.elim

theorem retO {n : Nat} {w0 : World} {L : List Res} {v : Value} {E : Enc α} {xs : List α} {T : TypeId} (hm : OwnS v E xs T ∈ L) : ∀ w, WInv ⟨n, w0, Nope⟩ L w → RetO w0 E xs T (.returned v) w :=
  fun _ h => ⟨v, rfl, h.keeps, trivial, news_one hm h⟩

theorem retOE {n : Nat} {w0 : World} {L : List Res} {v : Value} {E : Enc α} {xs ys : List α} {T : TypeId} (hm : OwnS v E xs T ∈ L) (h : xs = ys) : ∀ w, WInv ⟨n, w0, Nope⟩ L w → RetO w0 E ys T (.returned v) w := h ▸ retO hm

/-- A region's beginning where nothing that is owned is written in it. -/
theorem draw' {id : Nat} {l : List Oper} (hm : P.follows .mixedOrders = true)
    (h : Sat K (heldX P K l.toArray Q L l.toArray.size (Array.replicate l.toArray.size false)) F L) : Sat K ((Code.region id l.toArray true).wp P Q) F L := draw L hm h

/-- Lq is L without r. -/
def Rem (L : List Res) (r : Res) (Lq : List Res) : Prop := ∃ A C, L = A ++ r :: C ∧ Lq = A ++ C
theorem Rem.head {r : Res} {L : List Res} : Rem (r :: L) r L := ⟨[], L, rfl, rfl⟩
theorem Rem.tail {x r : Res} {L L' : List Res} (h : Rem L r L') : Rem (x :: L) r (x :: L') := by
  obtain ⟨A, C, rfl, rfl⟩ := h
  exact ⟨x :: A, C, rfl, rfl⟩
/-- A region's beginning where r is written in it. -/
theorem drawR {id : Nat} {l : List Oper} {r : Res} {Lq : List Res} (_hr : Rem L r Lq) (hm : P.follows .mixedOrders = true)
    (h : Sat K (heldX P K l.toArray Q Lq l.toArray.size (Array.replicate l.toArray.size false)) F L) : Sat K ((Code.region id l.toArray true).wp P Q) F L := draw Lq hm h

/-- The same, r found by the slot that points to it. -/
theorem drawS {id : Nat} {l : List Oper} {Lq : List Res} {b o : Nat} {E : Enc α} {xv : α} {T : TypeId} (s : Nat) (_hx : look F s = some (true, .pointer (some ⟨b, o, none⟩))) (hr : Rem L (Var b E xv T) Lq) (hm : P.follows .mixedOrders = true)
    (h : Sat K (heldX P K l.toArray Q Lq l.toArray.size (Array.replicate l.toArray.size false)) F L) : Sat K ((Code.region id l.toArray true).wp P Q) F L := drawR hr hm h
theorem callo {f : FuncId} {args : List Operand} {ats : Array TypeId} {vs : List Value} {E : Enc α} {xs : List α} {T : TypeId} (hen : Enters P f) (hargs : Opds F true args vs)
    (hC : ∀ w, WInv K L w → Calls P f vs.toArray w (RetO w E xs T)) (next : ∀ o : OV, Sat K N ((d, true, o.v) :: F) (OwnS o.v E xs T :: L)) (hd : Nat.blt d K.n = true := by rfl) :
    Sat K (opThen P ops Q ⟨some d, .call { callee := .value (.func f), args := args.toArray, argTypes := ats }, ty, pos, af, none⟩ N) F L :=
  callf (fun v => v.oneCell' = true) (fun v => [OwnS v E xs T]) hen hargs (fun w hw => (hC w hw).mono fun e w' ⟨v, he, hk, _, hn⟩ => ⟨v, he, hk, own_one (hn.1 _ List.mem_cons_self).1, hn⟩) (fun v h => next ⟨v, h⟩) hd

theorem RetV.below {w w' : World} {v : Value} {e : Ending} (h : RetV w v e w') : e = .returned v ∧ Below w.heap.size w w' := ⟨h.1, h.2.below⟩

/-- A slice is handed over, a slice is handed back: it may lie where that one lay. -/
def RetM (w : World) (u : Value) (E : Enc α) (xs : List α) (T : TypeId) : Ending → World → Prop := fun e w' =>
  ∃ v, e = .returned v ∧ Keeps (fun b => u.ownBlock = some b) w w' ∧ w'.ownsRow 0 T E.size v xs.length (E.row xs) ∧ ∀ b, v.ownBlock = some b → u.ownBlock = some b ∨ w.heap.size ≤ b

/-- A slice of slices. -/
def IsSS (E : Enc α) (w : World) (v : Value) (xss : List (List α)) : Prop :=
  ∃ vs : List OV, IsSl (ovE nilSl) w v vs ∧ vs.length = xss.length ∧ ∀ i, i < xss.length → IsSl E w (vs.getD i nilSl).v (xss.getD i [])

def Els (E : Enc α) (w : World) : List OV → List (List α) → Prop
  | [], xss => xss = []
  | o :: vs, xss => ∃ xs yss, xss = xs :: yss ∧ IsSl E w o.v xs ∧ Els E w vs yss

theorem Els.nil {E : Enc α} {w : World} : Els E w [] [] := rfl
theorem Els.cons {E : Enc α} {w : World} {o : OV} {vs : List OV} {xs : List α} {xss : List (List α)} (h : IsSl E w o.v xs) (hs : Els E w vs xss) : Els E w (o :: vs) (xs :: xss) := ⟨xs, xss, rfl, h, hs⟩
theorem Els.spec {E : Enc α} {w : World} : ∀ {vs : List OV} {xss : List (List α)}, Els E w vs xss → vs.length = xss.length ∧ ∀ i, i < xss.length → IsSl E w (vs.getD i nilSl).v (xss.getD i [])
  | [], _, h => by rw [show _ = [] from h]; exact ⟨rfl, fun i hi => absurd hi (Nat.not_lt_zero _)⟩
  | o :: vs, _, ⟨xs, yss, rfl, h, hs⟩ => by
    obtain ⟨h1, h2⟩ := Els.spec hs
    refine ⟨by simp [h1], fun i hi => ?_⟩
    cases i with
    | zero => exact h
    | succ i => exact h2 i (by simpa using hi)
theorem IsSS.mk' {E : Enc α} {w : World} {v : Value} {vs : List OV} {xss : List (List α)} (h : IsSl (ovE nilSl) w v vs) (he : Els E w vs xss) : IsSS E w v xss := ⟨vs, h, he.spec.1, he.spec.2⟩

/-- The place of an array's element. -/
theorem Ev.indexAddrA {b off n : Nat} {e : TypeId} {E : Enc α} {i : Int} (ht : P.underlying t = some (.array n e)) (T : TyOK P e E) (hx : Opd F g x (.pointer (some ⟨b, off, none⟩))) (hy : Opd F g y (I i)) (hi : g = true → 0 ≤ i ∧ i < n) :
    Ev P K F L g (.indexAddr t x y) ty (.pointer (some ⟨b, off + i.toNat * E.size, none⟩)) := fun hg a G w hw dst pos af gd => by
  have hi' := hi hg
  have hu : (underlying t).run P w = .ok (.array n e) w := by simp [underlying, ht]
  simp [execOp, Instr.indexAt, Instr.sureAddr, asIntOf, hx.eval hg G, hy.eval hg G, I, hu, hi', run_sizeOf T, addr_add]

theorem Ev.indexAddrA0 {b n : Nat} {e : TypeId} {E : Enc α} {i : Int} (ht : P.underlying t = some (.array n e)) (T : TyOK P e E) (hx : Opd F g x (.pointer (some ⟨b, 0, none⟩))) (hy : Opd F g y (I i)) (hi : g = true → 0 ≤ i ∧ i < n) :
    Ev P K F L g (.indexAddr t x y) ty (.pointer (some ⟨b, i.toNat * E.size, none⟩)) := by
  have h := Ev.indexAddrA (K := K) (L := L) (ty := ty) ht T hx hy hi
  rwa [Nat.zero_add] at h

/-- A field of a struct, by value. -/
theorem Ev.fieldS {E : Enc α} {E' : Enc β} {f o : Nat} {xv : α} {e : TypeId} (ha : E.agg = true) (hf : (P.underlying t).bind (fun d => match d with | .struct fs => (fs[f]?).map (fun fd => (fd.offset, fd.type)) | _ => none) = some (o, e)) (T : TyOK P e E') (l : Lens E E' o)
    (hx : Opd F g x (E.val xv)) : Ev P K F L g (.field t x f) ty (E'.val (l.get xv)) := fun hg a G w hw dst pos af gd => by
  cases hu : P.underlying t with
  | none => rw [hu] at hf; cases hf
  | some dsc =>
    rw [hu] at hf
    cases dsc <;> simp only [Option.bind_some, reduceCtorEq] at hf
    rename_i fs
    cases hfd : fs[f]? with
    | none => rw [hfd] at hf; cases hf
    | some fd =>
      rw [hfd] at hf
      simp only [Option.map_some, Option.some.injEq, Prod.mk.injEq] at hf
      obtain ⟨h1, h2⟩ := hf
      subst h1; subst h2
      have hru : (underlying t).run P w = .ok (.struct fs) w := by simp [underlying, hu]
      have hval : E.val xv = .agg (E.cells xv).toArray := by unfold Enc.val; rw [ha]; rfl
      simp only [execOp, Instr.field, asAgg, hx.eval hg G, hval, Sem.run_bind, Sem.run_pure, Result.andThen_ok, hru, hfd, run_part T l]

/-- []T{..}: a new slice of the parts. -/
def PartXs (F : Fr) (E : Enc α) : Nat → List (Nat × Operand) → List α → Prop
  | _, [], xs => xs = []
  | i, (j, x) :: ps, xs => ∃ v us, xs = v :: us ∧ j = i ∧ Opd F true x (E.val v) ∧ PartXs F E (i + 1) ps us

theorem PartXs.nil {E : Enc α} {i : Nat} : PartXs F E i [] [] := rfl
theorem PartXs.cons {E : Enc α} {i : Nat} {v : α} {ps : List (Nat × Operand)} {us : List α} (h : Opd F true x (E.val v)) (hs : PartXs F E (i + 1) ps us) : PartXs F E i ((i, x) :: ps) (v :: us) := ⟨v, us, rfl, rfl, h, hs⟩

theorem PartXs.fill {E : Enc α} : ∀ {ps : List (Nat × Operand)} {i : Nat} {xs : List α}, PartXs F E i ps xs → ∀ {a : Act}, FrOK K F a → ∀ (cur : Array Value), (i + xs.length) * E.size ≤ cur.size →
    ∃ cur', Instr.fill (fun i => some (i * E.size, E.size)) cur (ps.map (fun p => (p.1, a.eval p.2))) = some cur' ∧ cur'.toList = cur.toList.take (i * E.size) ++ E.row xs ++ cur.toList.drop ((i + xs.length) * E.size)
  | [], i, xs, h, a, G, cur, hc => by
    rw [show xs = [] from h]
    exact ⟨cur, rfl, by simp [Enc.row]⟩
  | (j, x) :: ps, i, xs, h, a, G, cur, hc => by
    obtain ⟨v, us, rfl, rfl, hx, hs⟩ := h
    have hv := hx.eval rfl G
    have hsz : (E.val v).cells.size = E.size := by simp [E.cells_val, E.len]
    simp only [List.length_cons] at hc
    have hc1 : j * E.size + E.size ≤ cur.size := by
      have h1 : (j + 1) * E.size ≤ (j + (us.length + 1)) * E.size := Nat.mul_le_mul_right _ (by omega)
      rw [Nat.add_mul, Nat.one_mul] at h1
      omega
    have h2 : ¬ ((E.val v).cells.size ≠ E.size || decide (j * E.size + (E.val v).cells.size > cur.size)) = true := by
      rw [hsz]; simp; omega
    have hfold : (((E.val v).cells.zipIdx.foldl (fun cs (c : Value × Nat) => cs.setIfInBounds (j * E.size + c.2) c.1) cur)).toList = cur.toList.take (j * E.size) ++ E.cells v ++ cur.toList.drop (j * E.size + E.size) := by
      rw [E.cells_val, ← Array.foldl_toList]
      have e : ((E.cells v).toArray.zipIdx).toList = (E.cells v).zipIdx := by simp
      rw [e, foldl_set _ (j * E.size) 0 _ (by simp [E.len]; omega)]
      simp [E.len]
    generalize hcur2 : ((E.val v).cells.zipIdx.foldl (fun cs (c : Value × Nat) => cs.setIfInBounds (j * E.size + c.2) c.1) cur) = cur2 at hfold
    have hsz2 : cur2.size = cur.size := by
      have := congrArg List.length hfold
      simp [E.len] at this
      omega
    have e0 : (j + 1 + us.length) * E.size = (j + (us.length + 1)) * E.size := by congr 1; omega
    obtain ⟨cur', hf, hl⟩ := PartXs.fill hs G cur2 (by rw [hsz2, e0]; exact hc)
    refine ⟨cur', ?_, ?_⟩
    · simp only [List.map_cons, Instr.fill, hv]
      rw [if_neg (by simpa using h2), hcur2]
      exact hf
    · rw [hl, hfold]
      have hlen : (cur.toList.take (j * E.size)).length = j * E.size := by rw [List.length_take, Array.length_toList]; omega
      have hb : (cur.toList.take (j * E.size) ++ E.cells v).length = (j + 1) * E.size := by rw [List.length_append, hlen, E.len, Nat.add_mul, Nat.one_mul]
      have hrow : E.row (v :: us) = E.cells v ++ E.row us := by simp [Enc.row]
      rw [← hb, List.take_left]
      have e1 : (j + 1 + us.length) * E.size = (cur.toList.take (j * E.size) ++ E.cells v).length + us.length * E.size := by rw [hb, ← Nat.add_mul]
      rw [e1, List.drop_length_add_append, List.drop_drop, hrow]
      have e2 : j * E.size + E.size + us.length * E.size = (j + (v :: us).length) * E.size := by
        simp only [List.length_cons, Nat.add_mul, Nat.one_mul]; omega
      rw [e2]
      simp

theorem buildSlice {E : Enc α} {e : TypeId} {n : Nat} {ps : List (Nat × Operand)} {xs : List α} {z : Value} (ht : P.underlying t = some (.slice e)) (T : TyOK P e E) (hz : (P.info? e).bind (·.zero) = some z) (hv : PartXs F E 0 ps xs) (hn : xs.length = n) (hb : (Nat.ble (n * E.size) 16777216 && Nat.ble n 16777216) = true)
    (next : ∀ o : OV, Sat K N ((d, true, o.v) :: F) (OwnS o.v E xs e :: L)) (hd : Nat.blt d K.n = true := by rfl) :
    Sat K (opThen P ops Q ⟨some d, .buildSlice t n ps.toArray, ty, pos, af, none⟩ N) F L := fun a w G => by
  refine opThen_plain rfl ?_
  unfold Oper.wp
  subst hn
  have hb1 := Bool.and_eq_true_iff.1 hb
  have hb' : ¬ xs.length * E.size > 2 ^ 24 := by have := Nat.le_of_ble_eq_true hb1.1; omega
  cases hi : P.info? e with
  | none => rw [hi] at hz; cases hz
  | some i =>
    rw [hi] at hz
    simp only [Option.bind_some] at hz
    have hru : (underlying t).run P w = .ok (.slice e) w := by simp [underlying, ht]
    have hzr : (zeroValue e).run P w = .ok z w := by simp [zeroValue, typeInfo, hi, hz]
    have hzz : ∀ zz : Array Value, ∃ cur', Instr.fill (fun i => some (i * E.size, E.size)) ((Array.range (xs.length * E.size)).map (zz[· % zz.size]!)) (ps.map (fun p => (p.1, a.eval p.2))) = some cur' ∧ cur'.toList = E.row xs := by
      intro zz
      obtain ⟨cur', h1, h2⟩ := hv.fill G.fo ((Array.range (xs.length * E.size)).map (zz[· % zz.size]!)) (by simp)
      refine ⟨cur', h1, ?_⟩
      rw [h2]
      simp
    have hr : ∃ cur' : Array Value, cur'.toList = E.row xs ∧ (execOp a.eval ⟨some d, .buildSlice t xs.length ps.toArray, ty, pos, af, none⟩).run P w = .ok (.value (.slice (some ⟨w.heap.size, 0, none⟩) xs.length xs.length)) { w with heap := w.heap.push (.cells cur' e) } := by
      by_cases h0 : xs.length * E.size = 0
      · obtain ⟨cur', h1, h2⟩ := hzz #[]
        refine ⟨cur', h2, ?_⟩
        simp only [execOp, Instr.buildSlice, Sem.run_bind, hru, Result.andThen_ok, run_sizeOf T, if_neg hb', Sem.run_pure, if_pos h0, List.map_toArray, h1, newRow, run_newObj]
      · obtain ⟨cur', h1, h2⟩ := hzz z.cells
        refine ⟨cur', h2, ?_⟩
        simp only [execOp, Instr.buildSlice, Sem.run_bind, hru, Result.andThen_ok, run_sizeOf T, if_neg hb', Sem.run_pure, if_neg h0, hzr, List.map_toArray, h1, newRow, run_newObj]
    obtain ⟨cur', hcur, hr⟩ := hr
    rw [hr]
    have hsz : cur'.size = xs.length * E.size := by rw [← Array.length_toList, hcur, E.row_length]
    have hm : xs.length ≤ maxLen := by
      have := Nat.le_of_ble_eq_true hb1.2
      have : maxLen = 9223372036854775807 := rfl
      omega
    refine next ⟨_, rfl⟩ _ _ (G.put d true _ _ (by simpa [Nat.blt_eq] using hd) rfl (G.inv.add (Keeps.alloc _ _ _) ?_ ?_))
    · refine ⟨E.row_length xs, .inr ⟨w.heap.size, xs.length, cur', rfl, Nat.zero_le _, ?_, Nat.le_refl _, hm, hsz, ?_⟩⟩
      · show (w.heap.push _)[w.heap.size]? = _
        simp
      · rw [hcur, List.take_of_length_le (by rw [E.row_length]; exact Nat.le_refl _)]
    · intro b hb
      have : b = w.heap.size := by have hb' : some w.heap.size = some b := hb; exact (Option.some.inj hb').symm
      subst this
      exact ⟨Nat.le_refl _, by simp⟩
end
end Go.Gx

/- Part F: make, copy, comparing bytes, small things. -/
namespace Go.Gx
open Go Go.RowKit

section
variable {α β γ : Type} {P : Program}
variable {K : Ctx} {F : Fr} {L : List Res} {g : Bool} {Q : Exit → Act → World → Prop} {N : Act → World → Prop} {ops : Array Oper}
  {op : Op} {ty t t' : TypeId} {pos : String} {af : Array Edge} {d : Nat} {x y : Operand}

theorem made_toList (E : Enc α) (x : α) (c : Nat) (hsz : 0 < E.size) : (madeCells (E.val x).cells (c * E.size)).toList = E.row (List.replicate c x) := by
  apply List.ext_getElem?
  intro k
  have hz : (E.val x).cells.size = E.size := by simp [E.cells_val, E.len]
  by_cases hk : k < c * E.size
  · have h1 : k / E.size < c := Nat.div_lt_of_lt_mul (by rwa [Nat.mul_comm] at hk)
    have h2 : k % E.size < E.size := Nat.mod_lt _ hsz
    have h3 : k = k / E.size * E.size + k % E.size := by rw [Nat.mul_comm]; exact (Nat.div_add_mod k E.size).symm
    have h4 := E.row_get (List.replicate c x) (k / E.size) (k % E.size) x (by simpa using h1) h2
    rw [← h3] at h4
    rw [h4]
    have h5 : (List.replicate c x).getD (k / E.size) x = x := by simp [List.getD, h1]
    rw [h5]
    have h6 : k % E.size < (E.cells x).length := by rw [E.len]; exact h2
    have h7 : k % E.size < (E.val x).cells.size := by rw [hz]; exact h2
    simp only [madeCells, Array.getElem?_toList, Array.getElem?_map, Array.getElem?_range, hk, if_true, Option.map_some, hz]
    rw [getElem!_pos (E.val x).cells (k % E.size) h7, List.getElem?_eq_getElem h6]
    simp [E.cells_val]
  · rw [List.getElem?_eq_none (by rw [Array.length_toList, size_madeCells]; omega), List.getElem?_eq_none (by rw [E.row_length]; simp; omega)]

/-! ### the library's own comparison of bytes -/
def byteArr (xs : List UInt8) : ByteArray := ⟨xs.toArray⟩

/-- A call of a function that the model stands in for: it only reads. -/
theorem Ev.ext {f : FuncId} {fn : Func} {e : Array Value → Sem Value} {args : List Operand} {ats : Array TypeId} {vs : List Value} {v : Value} (hf : P.funcs[f]? = some fn) (hname : (fn.name == "runtime.NumGoroutine") = false)
    (hb : fn.body.isNone = true) (hn : Extern.findNext fn = none) (he : Extern.find fn = some e) (hargs : Opds F g args vs) (h : ∀ w, WInv K L w → (e vs.toArray).run P w = .ok v w) :
    Ev P K F L g (.call { callee := .value (.func f), args := args.toArray, argTypes := ats }) ty v := fun hg a G w hw dst pos af gd => by
  have h1 := hargs.eval hg G
  simp [execOp, resolve, Deferred.ofValue, invoke, Act.eval, run_callFunc_extern hf hname hb hn he, h1, h w hw]

theorem Ev.extract {i : Nat} {vs : List Value} {v : Value} (hx : Opd F g x (.tuple vs.toArray)) (hv : vs[i]? = some v) : Ev P K F L g (.extract x i) ty v := fun hg a G w hw dst pos af gd => by
  simp [execOp, Instr.extract, hx.eval hg G, hv]

theorem Ev.min_i {m n : Int} (hx : Opd F g x (I m)) (hy : Opd F g y (I n)) {ats : Array TypeId} : Ev P K F L g (.call { callee := .builtin .min, args := #[x, y], argTypes := ats }) ty (I (min m n)) := fun hg a G w hw dst pos af gd => by
  simp [execOp, resolve, invoke, builtin, Builtin.min_, Builtin.min2, hx.eval hg G, hy.eval hg G, I]
  omega
/-- A field's place, within a slice's element. -/
theorem Ev.fieldAddrS {E : Enc α} {v : Value} {xs : List α} {i : Int} {k s f o : Nat} (hx : Opd F g x (elemPtr v k)) (h : ∀ w, WInv K L w → IsSl E w v xs) (hi : g = true → 0 ≤ i ∧ i < xs.length)
    (hf : (P.underlying s).bind (fun d => match d with | .struct fs => (fs[f]?).bind (fun fd => (P.info? fd.type).map (fun i => (fd.offset, Nat.beq i.size 0))) | _ => none) = some (o, false)) :
    Ev P K F L g (.fieldAddr s x f) ty (elemPtr v (k + o)) := fun hg a G w hw dst pos af gd => by
  obtain ⟨b, cap, rfl, h1, _, h2, h3⟩ := h w hw
  have hi' := hi hg
  cases b with
  | none =>
    have := (h2 rfl).1
    subst this
    simp at hi'
    omega
  | some p =>
    have hx' : Opd F g x (.pointer (some ⟨p.block, p.off + k, none⟩)) := hx
    have := Ev.fieldAddr (P := P) (K := K) (L := L) (ty := ty) hx' hf hg a G w hw dst pos af gd
    rw [this, Nat.add_assoc]
    rfl

theorem put_take {α : Type} (cur ys : List α) (A E B o s : Nat) (h1 : A + E ≤ B) (h2 : B ≤ cur.length) (h3 : o + s ≤ E) (h4 : ys.length = s) :
    (cur.take (A + o) ++ ys ++ cur.drop (A + o + s)).take B = (cur.take B).take A ++ ((((cur.take B).drop A).take E).take o ++ ys ++ (((cur.take B).drop A).take E).drop (o + s)) ++ (cur.take B).drop (A + E) := by
  apply List.ext_getElem?
  intro j
  simp only [List.getElem?_take, List.getElem?_append, List.length_append, List.length_take, List.length_drop, List.getElem?_drop, h4]
  repeat' split
  all_goals first | omega | rfl | (congr 1; omega) | (rw [List.getElem?_eq_none (by omega)]) | (exact List.getElem?_eq_none (by omega))

/-- A store into an element of a slice of one's own, or into a part of it. -/
theorem storeS {E : Enc α} {E' : Enc β} {v : Value} {xs : List α} {T : TypeId} {i : Int} {o k : Nat} {yv : β} {L' : List Res} (TT : TyOK P t E') (l : Lens E E' o) (hk : k = i.toNat * E.size + o) (hx : Opd F true x (elemPtr v k)) (hy : Opd F true y (E'.val yv))
    (hu : Upd L (OwnS v E xs T) (OwnS v E (xs.set i.toNat (l.set (xs.getD i.toNat E.zero) yv)) T) L') (hi : 0 ≤ i ∧ i < xs.length) (next : Sat K N F L') : Sat K (opThen P ops Q ⟨none, .store t x y, ty, pos, af, none⟩ N) F L := fun a w G => by
  refine opThen_plain rfl ?_
  unfold Oper.wp
  have hown : w.ownsRow 0 T E.size v xs.length (E.row xs) := (G.inv.own _ hu.mem).1
  have hlt := hown.lt
  have hi' : i.toNat < xs.length := by omega
  rcases hown.2 with ⟨rfl, hn0⟩ | ⟨gb, cap, cur, rfl, hbg, hg, hnc, hcm, hcs2, htake⟩
  · omega
  · subst hk
    have hx' : Opd F true x (.pointer (some ⟨gb, 0 + (i.toNat * E.size + o), none⟩)) := hx
    rw [Nat.zero_add] at hx'
    have hfits := l.fits
    have hmul : (i.toNat + 1) * E.size ≤ cap * E.size := Nat.mul_le_mul_right _ (by omega)
    rw [Nat.add_mul, Nat.one_mul] at hmul
    have hmul2 : (i.toNat + 1) * E.size ≤ xs.length * E.size := Nat.mul_le_mul_right _ (by omega)
    rw [Nat.add_mul, Nat.one_mul] at hmul2
    have hg' : w.heap[gb]? = some (.cells cur.toList.toArray T (0, 0)) := by simpa using hg
    have hr := run_storeVar_block (P := P) TT (o := i.toNat * E.size + o) (yv := yv) hg' (by rw [Array.length_toList, hcs2]; omega)
    have he : (execOp a.eval ⟨none, .store t x y, ty, pos, af, none⟩).run P w = .ok .skip (w.setRow gb (cur.toList.take (i.toNat * E.size + o) ++ E'.cells yv ++ cur.toList.drop (i.toNat * E.size + o + E'.size)).toArray) := by
      simp only [execOp, hx'.eval rfl G.fo, hy.eval rfl G.fo, Instr.storeAt, Instr.sureAddr, Sem.run_bind, Sem.run_pure, Result.andThen_ok, hr]
    rw [he]
    have hsl : (xs.set i.toNat (l.set (xs.getD i.toNat E.zero) yv)).length = xs.length := by simp
    have hclen : cur.toList.length = cap * E.size := by rw [Array.length_toList, hcs2]
    refine next _ _ (G.world (G.inv.upd hu ((setRow_keeps _ _ _).mono (fun k hk => ?_)) ?_ ?_))
    · subst hk; rfl
    · refine ⟨E.row_length _, .inr ⟨gb, cap, _, by rw [hsl], Nat.zero_le _, setRow_heap w gb cur _ T _ hg, by rw [hsl]; exact hnc, hcm, ?_, ?_⟩⟩
      · simp only [List.size_toArray, List.length_append, List.length_take, List.length_drop, E'.len, hclen]
        omega
      · rw [hsl, E.row_set _ _ _ hi', l.hset]
        have hcell : E.cells (xs.getD i.toNat E.zero) = ((E.row xs).drop (i.toNat * E.size)).take E.size := by
          rw [E.row_drop, List.drop_eq_getElem_cons hi']
          have e : E.row (xs[i.toNat] :: xs.drop (i.toNat + 1)) = E.cells xs[i.toNat] ++ E.row (xs.drop (i.toNat + 1)) := List.flatMap_cons
          rw [e, ← E.len xs[i.toNat], List.take_left]
          simp [List.getD, hi']
        rw [hcell, ← htake]
        exact put_take _ _ _ _ _ _ _ (by omega) (by rw [hclen]; exact Nat.mul_le_mul_right _ hnc) hfits (E'.len yv)
    · intro b hb
      exact ⟨.inl hb, by simpa using (hlt b hb).2⟩

theorem Ev.loadS0 {E : Enc α} {v : Value} {xs : List α} {i : Int} (T : TyOK P t E) (hx : Opd F g x (elemPtr v (i.toNat * E.size))) (h : ∀ w, WInv K L w → IsSl E w v xs) (hi : g = true → 0 ≤ i ∧ i < xs.length) :
    Ev P K F L g (.load t x) ty (E.val (xs.getD i.toNat E.zero)) := Ev.loadS T (Lens.id E) (Nat.add_zero _).symm hx h hi

theorem storeS0 {E : Enc α} {v : Value} {xs : List α} {T : TypeId} {i : Int} {yv : α} {L' : List Res} (TT : TyOK P t E) (hx : Opd F true x (elemPtr v (i.toNat * E.size))) (hy : Opd F true y (E.val yv))
    (hu : Upd L (OwnS v E xs T) (OwnS v E (xs.set i.toNat yv) T) L') (hi : 0 ≤ i ∧ i < xs.length) (next : Sat K N F L') : Sat K (opThen P ops Q ⟨none, .store t x y, ty, pos, af, none⟩ N) F L :=
  storeS (i := i) TT (Lens.id E) (Nat.add_zero _).symm hx hy hu hi next

theorem Ev.to {v v' : Value} (h : Ev P K F L g op ty v) (e : v = v') : Ev P K F L g op ty v' := e ▸ h

/-- A guarded operation whose guard is known to say yes. -/
theorem opgT {dst : Option Tmp} {j tg : Nat} {want c2 : Bool} (hj : (ops[j]?).bind (·.dst) = some tg) (hg : look F tg = some (true, .bool c2)) (hw : c2 = want)
    (h : Sat K (opThen P ops Q ⟨dst, op, ty, pos, af, none⟩ N) F L) : Sat K (opThen P ops Q ⟨dst, op, ty, pos, af, some (j, want)⟩ N) F L := fun a w G => by
  have hw' := wanted_of (o := ⟨dst, op, ty, pos, af, some (j, want)⟩) rfl hj hg G.fo
  have h1 := h a w G
  unfold opThen at h1 ⊢
  rw [hw', hw]
  simp only [Region.wanted, if_true, beq_self_eq_true, Bool.and_self] at h1 ⊢
  exact h1

end
end Go.Gx

/- Part G: what comes in: the arguments' data, opened. -/
namespace Go.Gx
open Go Go.RowKit

section
variable {α β : Type} {P : Program} {t e : TypeId}

/-- What is known of an opened value, beside its datum. -/
abbrev Kn (α : Type) := World → α → (H : Type) → DataW H → Prop
/-- Data of type t is read as E reads; Q is known of it. -/
structure Opn (P : Program) (t : TypeId) (E : Enc α) (Q : Kn α) : Prop where
  cells : P.cellsOf t = E.size
  op : ∀ {H : Type} (enc : TypeId × Value → H) (w : World) (sp : Nat → Bool) (held : Bool) (fuel : Nat) (cs : List Value) (x : DataW H × List MemPlace), DataW.trod enc P w 0 sp held fuel t cs = some x → ∃ a, cs = E.cells a ∧ Q w a H x.1
  val : ∀ (w : World) (r : Reach) (b : Nat) (v : Value) (a : α), Value.okWide P w r b t v → v.cells.toList = E.cells a → v = E.val a

theorem Opn.open {E : Enc α} {Q : Kn α} (O : Opn P t E Q) {H : Type} {enc : TypeId × Value → H} {w : World} {sp : Nat → Bool} {held : Bool} {r : Reach} {b : Nat} {v : Value} {d : DataW H} {ps : List MemPlace}
    (hv : Value.okWide P w r b t v) (h : DataW.Trod enc P w 0 sp held t v d ps) : ∃ a, v = E.val a ∧ Q w a H d := by
  obtain ⟨fuel, hf⟩ := h
  obtain ⟨a, h1, h2⟩ := O.op enc w sp held fuel _ _ hf
  exact ⟨a, O.val w r b v a hv h1, h2⟩

theorem Opn.mono {E : Enc α} {Q Q' : Kn α} (O : Opn P t E Q) (h : ∀ w a H d, Q w a H d → Q' w a H d) : Opn P t E Q' :=
  ⟨O.cells, fun enc w sp held fuel cs x hx => by
    obtain ⟨a, h1, h2⟩ := O.op enc w sp held fuel cs x hx
    exact ⟨a, h1, h w a _ _ h2⟩, O.val⟩

theorem int_val {k : IntKind} {E : Enc α} {f : α → Int} (ht : P.underlying t = some (.int k)) (hE : ∀ a, E.cells a = [.int k (f a)]) (hg : E.agg = false) (w : World) (r : Reach) (b : Nat) (v : Value) (a : α) (h : Value.okWide P w r b t v) (hc : v.cells.toList = E.cells a) : v = E.val a := by
  obtain ⟨n, rfl⟩ := Go.WideShapes.okWide_int ht h
  rw [hE] at hc
  unfold Enc.val
  rw [hg, hE]
  simp [Value.cells] at hc
  simp [hc]

theorem wf_int {k : IntKind} {n : Int} (h : (Lit.int k n).wf = true) : k.has n := by
  simpa [Lit.wf, IntKind.has] using h

theorem opn_u8 (ht : P.underlying t = some (.int .u8)) (hc : P.cellsOf t = 1) : Opn P t u8E (fun _ _ _ _ => True) where
  cells := hc
  op enc w sp held fuel cs x h := by
    obtain ⟨n, rfl, _, hw⟩ := DataW.trod_int ht h
    have h1 : (0 : Int) ≤ n ∧ n ≤ 255 := wf_int hw
    refine ⟨UInt8.ofNat n.toNat, ?_, trivial⟩
    show [Value.int .u8 n] = [U8 (UInt8.ofNat n.toNat)]
    have e : ((UInt8.ofNat n.toNat).toNat : Int) = n := by rw [UInt8.toNat_ofNat']; omega
    unfold U8
    rw [e]
  val := int_val ht (f := fun a => (a.toNat : Int)) (fun _ => rfl) rfl
theorem opn_u16 (ht : P.underlying t = some (.int .u16)) (hc : P.cellsOf t = 1) : Opn P t u16E (fun _ _ _ _ => True) where
  cells := hc
  op enc w sp held fuel cs x h := by
    obtain ⟨n, rfl, _, hw⟩ := DataW.trod_int ht h
    have h1 : (0 : Int) ≤ n ∧ n ≤ 65535 := wf_int hw
    refine ⟨UInt16.ofNat n.toNat, ?_, trivial⟩
    show [Value.int .u16 n] = [U16 (UInt16.ofNat n.toNat)]
    have e : ((UInt16.ofNat n.toNat).toNat : Int) = n := by rw [UInt16.toNat_ofNat']; omega
    unfold U16
    rw [e]
  val := int_val ht (f := fun a => (a.toNat : Int)) (fun _ => rfl) rfl
theorem opn_u64 (ht : P.underlying t = some (.int .u64)) (hc : P.cellsOf t = 1) : Opn P t u64E (fun _ _ _ _ => True) where
  cells := hc
  op enc w sp held fuel cs x h := by
    obtain ⟨n, rfl, _, hw⟩ := DataW.trod_int ht h
    have h1 : (0 : Int) ≤ n ∧ n ≤ 18446744073709551615 := wf_int hw
    refine ⟨UInt64.ofNat n.toNat, ?_, trivial⟩
    show [Value.int .u64 n] = [U64 (UInt64.ofNat n.toNat)]
    have e : ((UInt64.ofNat n.toNat).toNat : Int) = n := by rw [UInt64.toNat_ofNat']; omega
    unfold U64
    rw [e]
  val := int_val ht (f := fun a => (a.toNat : Int)) (fun _ => rfl) rfl
theorem opn_i (ht : P.underlying t = some (.int .i64)) (hc : P.cellsOf t = 1) : Opn P t iE (fun _ n _ _ => Fit n) where
  cells := hc
  op enc w sp held fuel cs x h := by
    obtain ⟨n, rfl, _, hw⟩ := DataW.trod_int ht h
    exact ⟨n, rfl, wf_int hw⟩
  val := int_val ht (f := fun a => a) (fun _ => rfl) rfl
theorem opn_b (ht : P.underlying t = some .bool) (hc : P.cellsOf t = 1) : Opn P t bE (fun _ _ _ _ => True) where
  cells := hc
  op enc w sp held fuel cs x h := by
    obtain ⟨b, rfl, _⟩ := DataW.trod_bool ht h
    exact ⟨b, rfl, trivial⟩
  val w r b v a h hc := by
    obtain ⟨n, rfl⟩ := Go.WideShapes.okWide_bool ht h
    have e : bE.cells a = [.bool a] := rfl
    rw [e] at hc
    simp [Value.cells] at hc
    rw [hc]
    rfl
theorem opn_s (ht : P.underlying t = some .string) (hc : P.cellsOf t = 1) : Opn P t sE (fun _ s _ d => s.size ≤ maxLen ∧ d = .lit (.string s.data.toList)) where
  cells := hc
  op enc w sp held fuel cs x h := by
    obtain ⟨s, rfl, hx, hs⟩ := DataW.trod_string ht h
    exact ⟨s, rfl, hs, by rw [hx]⟩
  val w r b v a h hc := by
    obtain ⟨n, rfl⟩ := Go.WideShapes.okWide_string ht h
    have e : sE.cells a = [.string a] := rfl
    rw [e] at hc
    simp [Value.cells] at hc
    rw [hc]
    rfl

/-- The data of a slice's elements. -/
def SlD {H : Type} (d : DataW H) (ds : List (DataW H)) : Prop := ds = [] ∨ ∃ sp, d = .slice ds sp
/-- What is known of a slice. -/
def SlQ (E : Enc α) (Q : Kn α) : Kn OV := fun w o H d => ∃ xs ds, IsSl E w o.v xs ∧ SlD d ds ∧ xs.length = ds.length ∧ ∀ i (h1 : i < xs.length) (h2 : i < ds.length), Q w xs[i] H ds[i]

theorem opn_sl {E : Enc α} {Q : Kn α} (O : Opn P e E Q) (ht : P.underlying t = some (.slice e)) (hc : P.cellsOf t = 1) (hsz : Nat.blt 0 E.size = true) : Opn P t (ovE nilSl) (SlQ E Q) where
  cells := hc
  op {H} enc w sp held fuel cs x h := by
    rcases DataW.trod_slice ht h with ⟨rfl, _⟩ | ⟨a, len, cap, elems, rest, n, rfl, rfl, hx, _, h1, h2, h3, h4, _⟩
    · exact ⟨nilSl, rfl, [], [], IsSl.nil E w, .inl rfl, rfl, fun i h _ => absurd h (Nat.not_lt_zero _)⟩
    · refine ⟨⟨.slice (some a) len cap, rfl⟩, rfl, ?_⟩
      have hpos : 0 < E.size := by simpa [Nat.blt_eq] using hsz
      have each : ∀ i, (hi : i < len) → ∃ y, w.cells? 0 (a.add (i * E.size)) E.size = some (E.cells y) ∧ Q w y H (elems[i]'(by omega)).1 := fun i hi => by
        have h5 := h4 i hi
        rw [List.getElem?_eq_getElem (by omega), O.cells] at h5
        cases hcs : w.cells? 0 (a.add (i * E.size)) E.size with
        | none => rw [hcs] at h5; simp at h5
        | some cs =>
          rw [hcs] at h5
          obtain ⟨y, rfl, hy⟩ := O.op enc w sp held n cs _ h5
          exact ⟨y, rfl, hy⟩
      have all : ∀ n, n ≤ len → ∃ xs : List α, xs.length = n ∧ (∀ i (hi : i < n), w.cells? 0 (a.add (i * E.size)) E.size = some (E.cells (xs.getD i E.zero))) ∧ ∀ i (h1 : i < xs.length) (h2 : i < elems.length), Q w xs[i] H (elems[i]).1 := by
        intro n
        induction n with
        | zero => exact fun _ => ⟨[], rfl, fun i hi => absurd hi (Nat.not_lt_zero _), fun i h _ => absurd h (Nat.not_lt_zero _)⟩
        | succ n ih =>
          intro hn
          obtain ⟨xs, e1, e2, e3⟩ := ih (by omega)
          obtain ⟨y, e4, e5⟩ := each n (by omega)
          refine ⟨xs ++ [y], by simp [e1], fun i hi => ?_, fun i hi1 hi2 => ?_⟩
          · by_cases hin : i < n
            · rw [e2 i hin]
              simp [List.getD, List.getElem?_append, e1, hin]
            · have : i = n := by omega
              subst this
              rw [e4]
              simp [List.getD, List.getElem?_append, e1]
          · by_cases hin : i < n
            · have e6 := e3 i (by omega) hi2
              rw [List.getElem_append_left (by omega)]
              exact e6
            · have : i = n := by simp at hi1; omega
              subst this
              rw [List.getElem_append_right (by omega)]
              simpa [e1] using e5
      obtain ⟨xs, e1, e2, e3⟩ := all len (Nat.le_refl _)
      refine ⟨xs, elems.map (·.1), ⟨some a, cap, by rw [e1], by omega, h2, fun h => (by cases h), fun p hp => ?_⟩, .inr ⟨_, by rw [hx]⟩, by simp; omega, fun i h1 h2 => by rw [List.getElem_map]; exact e3 i h1 (by simpa using h2)⟩
      cases hp
      have cell : ∀ i, i < xs.length → ∀ j, j < E.size → w.cell? (a.add (i * E.size + j)) = (E.cells (xs.getD i E.zero))[j]? := fun i hi j hj => by
        have h5 := (World.cells?_some (e2 i (by omega))).2.2 j hj
        rwa [Go.Addr.add_add] at h5
      have spot : xs ≠ [] → a.spot = none := fun hne => by
        have h6 := cell 0 (List.length_pos_iff.2 hne) 0 hpos
        rw [List.getElem?_eq_getElem (by rw [E.len]; exact hpos)] at h6
        simpa [Addr.add] using World.cell?_spot h6
      refine ⟨spot, fun j u hu => ?_⟩
      have hj : j < xs.length * E.size := by
        have := (List.getElem?_eq_some_iff.1 hu).1
        rwa [E.row_length] at this
      have hi : j / E.size < xs.length := Nat.div_lt_of_lt_mul (by rwa [Nat.mul_comm] at hj)
      have hm : j % E.size < E.size := Nat.mod_lt _ hpos
      have ej : j = j / E.size * E.size + j % E.size := by rw [Nat.mul_comm]; exact (Nat.div_add_mod j E.size).symm
      have h7 := cell _ hi _ hm
      rw [← E.row_get xs (j / E.size) (j % E.size) E.zero hi hm, ← ej] at h7
      rw [hu] at h7
      have hs := spot (fun e => by rw [e] at hi; exact absurd hi (Nat.not_lt_zero _))
      obtain ⟨ab, ao, asp⟩ := a
      simp only at hs
      subst hs
      rwa [addr_add] at h7
  val w r b v a h hc := by
    obtain ⟨p, l, c, rfl⟩ := Go.WideShapes.okWide_slice ht h
    have e : (ovE nilSl).cells a = [a.v] := rfl
    rw [e] at hc
    simp [Value.cells] at hc
    show _ = a.v
    exact hc

theorem agg_val {E : Enc α} (hg : E.agg = true) {v : Value} {a : α} (h : ∃ cs, v = .agg cs) (hc : v.cells.toList = E.cells a) : v = E.val a := by
  obtain ⟨cs, rfl⟩ := h
  unfold Enc.val
  rw [hg, ← hc]
  simp [Value.cells]

theorem opn_arr {E : Enc α} {Q : Kn α} {n : Nat} (O : Opn P e E Q) (ht : P.underlying t = some (.array n e)) (hc : P.cellsOf t = n * E.size) : Opn P t (arrE n E) (fun w v H d => ∃ ds, d = .agg ds ∧ ∀ i (hi : i < n) (h2 : i < ds.length), Q w v[i] H ds[i]) where
  cells := hc
  op {H} enc w sp held fuel cs x h := by
    obtain ⟨xs, m, rfl, hx, h1, h2, h3⟩ := DataW.trod_array ht h
    have each : ∀ i, (hi : i < n) → ∃ y, (cs.drop (i * E.size)).take E.size = E.cells y ∧ Q w y H (xs[i]'(by omega)).1 := fun i hi => by
      have h5 := h3 i hi
      rw [List.getElem?_eq_getElem (by omega), O.cells] at h5
      exact O.op enc w sp held m _ _ h5
    have all : ∀ k, k ≤ n → ∃ ys : List α, ys.length = k ∧ cs.take (k * E.size) = E.row ys ∧ ∀ i (h1 : i < ys.length) (h2 : i < xs.length), Q w ys[i] H (xs[i]).1 := by
      intro k
      induction k with
      | zero => exact fun _ => ⟨[], rfl, by simp [Enc.row], fun i h _ => absurd h (Nat.not_lt_zero _)⟩
      | succ k ih =>
        intro hk
        obtain ⟨ys, e1, e2, e3⟩ := ih (by omega)
        obtain ⟨y, e4, e5⟩ := each k (by omega)
        refine ⟨ys ++ [y], by simp [e1], ?_, fun i hi1 hi2 => ?_⟩
        · rw [E.row_append, ← e2, Nat.add_mul, Nat.one_mul, List.take_add, e4]
          simp [Enc.row]
        · by_cases hin : i < k
          · have e6 := e3 i (by omega) hi2
            rw [List.getElem_append_left (by omega)]
            exact e6
          · have : i = k := by simp at hi1; omega
            subst this
            rw [List.getElem_append_right (by omega)]
            simpa [e1] using e5
    obtain ⟨ys, e1, e2, e3⟩ := all n (Nat.le_refl _)
    refine ⟨⟨ys.toArray, by simpa using e1⟩, ?_, xs.map (·.1), by rw [hx], fun i hi h2 => by rw [List.getElem_map]; simpa using e3 i (by omega) (by simpa using h2)⟩
    rw [List.take_of_length_le (by rw [h1, hc]; exact Nat.le_refl _)] at e2
    rw [e2]
    rfl
  val w r b v a h hcl := agg_val rfl (by
    simp only [Value.okWide, ht] at h
    obtain ⟨cs, h1, _⟩ := h
    exact ⟨cs, h1⟩) hcl

/-- A struct's fields, from the offset on. -/
structure OpnF (P : Program) (fs : List Field) (off : Nat) (E : Enc α) (Q : World → α → (H : Type) → List (DataW H) → Prop) : Prop where
  op : ∀ {H : Type} (enc : TypeId × Value → H) (w : World) (sp : Nat → Bool) (held : Bool) (n : Nat) (cs : List Value) (xs : List (DataW H × List MemPlace)), xs.length = fs.length →
    (∀ i (h1 : i < fs.length) (h2 : i < xs.length), DataW.trod enc P w 0 sp held n fs[i].type ((cs.drop fs[i].offset).take (P.cellsOf fs[i].type)) = some xs[i]) → ∃ a, (cs.drop off).take E.size = E.cells a ∧ Q w a H (xs.map (·.1))

theorem OpnF.one {f : Field} {off : Nat} {E : Enc α} {Q : Kn α} (ho : f.offset = off) (O : Opn P f.type E Q) : OpnF P [f] off E (fun w a H ds => ∃ d, ds = [d] ∧ Q w a H d) where
  op enc w sp held n cs xs hl h := by
    have hx := h 0 (by simp) (by rw [hl]; simp)
    simp only [List.getElem_cons_zero] at hx
    rw [O.cells, ho] at hx
    obtain ⟨a, h1, h2⟩ := O.op enc w sp held n _ _ hx
    refine ⟨a, h1, _, ?_, h2⟩
    match xs, hl with
    | [x], _ => rfl

theorem OpnF.cons {f : Field} {fs : List Field} {off : Nat} {E : Enc α} {E' : Enc β} {Q : Kn α} {Q' : World → β → (H : Type) → List (DataW H) → Prop} (ho : f.offset = off) (O : Opn P f.type E Q) (R : OpnF P fs (off + E.size) E' Q') :
    OpnF P (f :: fs) off (prodE E E') (fun w x H ds => ∃ d r, ds = d :: r ∧ Q w x.1 H d ∧ Q' w x.2 H r) where
  op enc w sp held n cs xs hl h := by
    match xs, hl with
    | x :: xs, hl =>
      have hx := h 0 (by simp) (by simp)
      simp only [List.getElem_cons_zero] at hx
      rw [O.cells, ho] at hx
      obtain ⟨a, h1, h2⟩ := O.op enc w sp held n _ _ hx
      obtain ⟨b, h3, h4⟩ := R.op enc w sp held n cs xs (by simpa using hl) (fun i h1 h2 => h (i + 1) (by simp; omega) (by simp; omega))
      refine ⟨(a, b), ?_, _, _, rfl, h2, h4⟩
      show (cs.drop off).take (E.size + E'.size) = E.cells a ++ E'.cells b
      rw [List.take_add, h1, List.drop_drop, h3]

theorem opn_struct {fs : Array Field} {E : Enc β} {to : β → α} {of : α → β} {Q : World → β → (H : Type) → List (DataW H) → Prop} (ht : P.underlying t = some (.struct fs)) (hc : P.cellsOf t = E.size) (R : OpnF P fs.toList 0 E Q) (hto : ∀ b, of (to b) = b) :
    Opn P t (isoE E to of) (fun w a H d => ∃ ds, d = .agg ds ∧ Q w (of a) H ds) where
  cells := hc
  op enc w sp held fuel cs x h := by
    obtain ⟨xs, n, rfl, hx, h1, h2, h3⟩ := DataW.trod_struct ht h
    obtain ⟨b, h4, h5⟩ := R.op enc w sp held n cs xs (by simpa using h2) (fun i hi1 hi2 => by
      have h6 := h3 i fs.toList[i] (by simp)
      exact h6.trans (List.getElem?_eq_getElem _))
    refine ⟨to b, ?_, _, by rw [hx], by rw [hto]; exact h5⟩
    rw [List.drop_zero, List.take_of_length_le (by rw [h1, hc]; exact Nat.le_refl _)] at h4
    show cs = E.cells (of (to b))
    rw [hto, h4]
  val w r b v a h hcl := agg_val rfl (by
    obtain ⟨cs, h1, _⟩ := Go.WideShapes.okWide_struct ht h
    exact ⟨cs, h1⟩) hcl
end
end Go.Gx

/- Part H: slices within slices, calls that hand back several new things, letters of strings. -/
namespace Go.Gx
open Go Go.RowKit

section
variable {α β γ : Type} {P : Program}
variable {K : Ctx} {F : Fr} {L : List Res} {g : Bool} {Q : Exit → Act → World → Prop} {N : Act → World → Prop} {ops : Array Oper}
  {op : Op} {ty t t' : TypeId} {pos : String} {af : Array Edge} {d : Nat} {x y : Operand}

theorem subS_one (s : Nat) (v : Value) (l h : Nat) (hv : v.oneCell' = true) : (subS s v l h).oneCell' = true := by
  cases v <;> first | exact hv | rfl
/-- A slice of a slice. -/
def OV.sub (s : Nat) (o : OV) (l h : Nat) : OV := ⟨subS s o.v l h, subS_one s o.v l h o.one⟩
@[simp] theorem OV.sub_v (s : Nat) (o : OV) (l h : Nat) : (OV.sub s o l h).v = subS s o.v l h := rfl
theorem IsSl.head {E : Enc α} {w : World} {v : Value} {xs ys : List α} (h : IsSl E w v (xs ++ ys)) : IsSl E w (subS E.size v 0 xs.length) xs := by
  have := h.sub (l := 0) (k := xs.length) (Nat.zero_le _) (by simp)
  simpa using this

/-- It hands back several new things. -/
def RetN {X : Type} (w : World) (J : X → Prop) (val : X → Value) (R : X → List Res) : Ending → World → Prop := fun e w' => ∃ x, J x ∧ e = .returned (val x) ∧ Keeps Nope w w' ∧ News w w' (R x)

theorem calln {X : Type} {f : FuncId} {args : List Operand} {ats : Array TypeId} {vs : List Value} (J : X → Prop) (val : X → Value) (R : X → List Res) (hen : Enters P f) (hargs : Opds F true args vs)
    (hC : ∀ w, WInv K L w → Calls P f vs.toArray w (RetN w J val R)) (next : ∀ x, J x → Sat K N ((d, true, val x) :: F) (R x ++ L)) (hd : Nat.blt d K.n = true := by rfl) :
    Sat K (opThen P ops Q ⟨some d, .call { callee := .value (.func f), args := args.toArray, argTypes := ats }, ty, pos, af, none⟩ N) F L :=
  callx J val (fun x => R x ++ L) hen hargs (fun w hw => (hC w hw).mono fun e w' ⟨x, hJ, he, hk, hR⟩ => ⟨x, hJ, he, hw.adds hk hR.1 hR.2⟩) next hd

theorem retN {X : Type} {n : Nat} {w0 : World} {L : List Res} {J : X → Prop} {val : X → Value} {R : X → List Res} {v : Value} (x : X) (hJ : J x) (hv : v = val x) (hs : (R x).Sublist L) : ∀ w, WInv ⟨n, w0, Nope⟩ L w → RetN w0 J val R (.returned v) w := fun w h =>
  ⟨x, hJ, by rw [hv], h.keeps, fun r hr => by
    obtain ⟨h1, h2⟩ := h.own _ (hs.subset hr)
    refine ⟨h1, fun b hb => ⟨?_, (h2 b hb).2⟩⟩
    rcases (h2 b hb).1 with h3 | h3
    · exact h3
    · exact h3.elim, h.dis.sublist hs⟩

/-- What never turns of a slice. -/
def Shp (v : Value) (n : Nat) : Prop := ∃ a cap, v = .slice a n cap ∧ (a = none → n = 0) ∧ ∀ p, a = some p → n ≠ 0 → p.spot = none
theorem know {X : Act → World → Prop} {p : Prop} (h : ∀ w, WInv K L w → p) (n : p → Sat K X F L) : Sat K X F L := fun a w G => n (h w G.inv) a w G
theorem IsSl.cells_eq {E : Enc α} {w w' : World} {v : Value} {xs : List α} (h : IsSl E w v xs) (hc : ∀ a : Addr, v.ownBlock = some a.block → w'.cell? a = w.cell? a) : IsSl E w' v xs := by
  obtain ⟨a, cap, rfl, h1, h2, h3, h4⟩ := h
  refine ⟨a, cap, rfl, h1, h2, h3, fun p hp => ?_⟩
  obtain ⟨h5, h6⟩ := h4 p hp
  subst hp
  exact ⟨h5, fun j u hu => by rw [hc ⟨p.block, p.off + j, none⟩ rfl]; exact h6 j u hu⟩
/-- A slice of one's own that is only read from now on. -/
def RdS (v : Value) (E : Enc α) (xs : List α) : Res where
  foot := fun b => v.ownBlock = some b
  A := fun w => IsSl E w v xs
  st := fun w w' h h1 => h1.cells_eq (fun a ha => by simp only [World.cell?]; rw [h _ ha])
/-- A letter of a string. -/
theorem Ev.indexS {k : IntKind} {n : Int} {s : ByteArray} {b : UInt8} (ht : P.underlying t = some .string) (hx : Opd F g x (.string s)) (hy : Opd F g y (.int k n)) (hi : g = true → 0 ≤ n ∧ s[n.toNat]? = some b) :
    Ev P K F L g (.index t x y) ty (U8 b) := fun hg a G w hw dst pos af gd => by
  obtain ⟨h1, h2⟩ := hi hg
  have hu : (underlying t).run P w = .ok .string w := by simp [underlying, ht]
  simp only [execOp, Instr.index, asIntOf, hx.eval hg G, hy.eval hg G, Sem.run_bind, Sem.run_pure, Result.andThen_ok, hu, h1, if_true, h2, U8]
end
end Go.Gx

/- Part I: many slices of one's own, numbered. -/
namespace Go.Gx
open Go Go.RowKit

section
variable {α β γ : Type} {P : Program}
variable {K : Ctx} {F : Fr} {L : List Res} {g : Bool} {Q : Exit → Act → World → Prop} {N : Act → World → Prop} {ops : Array Oper}
  {op : Op} {ty t t' : TypeId} {pos : String} {af : Array Edge} {d : Nat} {x y : Operand}

/-- The slices os, of one's own, that read as xss; the last one first. -/
def rowsR (E : Enc α) (T : TypeId) : List OV → List (List α) → List Res
  | o :: os, xs :: xss => rowsR E T os xss ++ [OwnS o.v E xs T]
  | _, _ => []
theorem Upd.left {A A' B : List Res} {r r' : Res} (h : Upd A r r' A') : Upd (A ++ B) r r' (A' ++ B) := by
  obtain ⟨X, Y, rfl, rfl⟩ := h
  exact ⟨X, Y ++ B, by simp, by simp⟩
theorem Upd.right {A B B' : List Res} {r r' : Res} (h : Upd B r r' B') : Upd (A ++ B) r r' (A ++ B') := by
  obtain ⟨X, Y, rfl, rfl⟩ := h
  exact ⟨A ++ X, Y, by simp, by simp⟩
end
end Go.Gx

/- Part J: pointers, closures. -/
namespace Go.Gx
open Go Go.RowKit

section
variable {α β γ : Type} {P : Program}
variable {K : Ctx} {F : Fr} {L : List Res} {g : Bool} {Q : Exit → Act → World → Prop} {N : Act → World → Prop} {ops : Array Oper}
  {op : Op} {ty t t' : TypeId} {pos : String} {af : Array Edge} {d : Nat} {x y : Operand}

theorem Ev.nilCheck {a : Addr} (hx : Opd F g x (.pointer (some a))) : Ev P K F L g (.nilCheck x) ty (.pointer (some a)) := fun hg ac G w _ dst pos af gd => by
  simp only [execOp, hx.eval hg G, Sem.run_pure]
/-- A closure. -/
def clo (f : FuncId) (cap : List Value) : OV := ⟨.func (.func f) #[] cap.toArray, rfl⟩
theorem Ev.makeFunc {f : FuncId} {caps : List Operand} {vs : List Value} (h : Opds F g caps vs) : Ev P K F L g (.makeFunc (.func f) #[] caps.toArray) ty (clo f vs).v := fun hg a G w _ dst pos af gd => by
  have h1 := h.eval hg G
  simp [execOp, Instr.makeFunc, clo, h1]
theorem exec_callc {f : FuncId} {cap : List Value} {args : List Operand} {ats : Array TypeId} {vs : List Value} (hx : Opd F g x (clo f cap).v) (hen : Enters P f) (hargs : Opds F g args vs) (hg : g = true) {a : Act} (G : FrOK K F a) (w : World) {dst : Option Tmp} {gd : Option (Nat × Bool)} :
    (execOp a.eval ⟨dst, .call { callee := .value x, args := args.toArray, argTypes := ats }, ty, pos, af, gd⟩).run P w = .ok (.enter f (vs ++ cap).toArray) w := by
  have h1 := hargs.eval hg G
  have h2 := hx.eval hg G
  have h3 : (clo f cap).v = .func (.func f) #[] cap.toArray := rfl
  rw [h3] at h2
  simp [execOp, resolve, Deferred.ofValue, invoke, run_callFunc_enter hen, h1, h2]
/-- A closure is called, and hands back just u. -/
theorem callcv {f : FuncId} {cap : List Value} {args : List Operand} {ats : Array TypeId} {vs : List Value} {u : Value} (hx : Opd F true x (clo f cap).v) (hen : Enters P f) (hargs : Opds F true args vs)
    (hC : ∀ w, WInv K L w → Calls P f (vs ++ cap).toArray w (RetV w u)) (next : Sat K N ((d, true, u) :: F) L) (hd : Nat.blt d K.n = true := by rfl) :
    Sat K (opThen P ops Q ⟨some d, .call { callee := .value x, args := args.toArray, argTypes := ats }, ty, pos, af, none⟩ N) F L := fun a w G => by
  refine opThen_plain rfl ?_
  unfold Oper.wp
  rw [exec_callc hx hen hargs rfl G.fo]
  refine (hC w G.inv).mono ?_
  rintro e w' ⟨rfl, hk⟩
  exact next _ _ (G.put d true u u (by simpa [Nat.blt_eq] using hd) rfl (G.inv.grow hk))
theorem PtsTo.keep {E : Enc α} {w w' : World} {b off : Nat} {x : α} (h : PtsTo E w b off x) (k : Keeps Nope w w') : PtsTo E w' b off x := fun j u hu => by
  have h1 := h j u hu
  have hb : b < w.heap.size := by
    rcases Nat.lt_or_ge b w.heap.size with h2 | h2
    · exact h2
    · simp [World.cell?, Array.getElem?_eq_none h2] at h1
  rw [← h1]
  simp only [World.cell?]
  rw [k.block b hb (fun h => h)]
@[simp] theorem eqA_dec [DecidableEq α] {n : Nat} (x y : Vector α n) : eqA n eqd x y = decide (x = y) := by
  rw [Bool.eq_iff_iff, decide_eq_true_iff]
  exact eqA_iff eqd_iff x y
@[simp] theorem eqd_dec [DecidableEq α] (x y : α) : eqd x y = decide (x = y) := rfl
@[simp] theorem take_vec {n : Nat} (x : Vector α n) : x.toList.take n = x.toList := List.take_of_length_le (by simp)
/-- A part of what a pointer that came in points to. -/
theorem ptsL {E : Enc α} {E' : Enc β} {b o : Nat} {xv : α} (h : ∀ w, WInv K L w → PtsTo E w b 0 xv) (l : Lens E E' o) (w : World) (I : WInv K L w) : PtsTo E' w b o (l.get xv) := by
  have h2 := l.pts (h w I)
  rwa [Nat.zero_add] at h2
end
end Go.Gx

/- Part K: bytes as a string, strings alike. -/
namespace Go.Gx
open Go Go.RowKit

section
variable {α β γ : Type} {P : Program}
variable {K : Ctx} {F : Fr} {L : List Res} {g : Bool} {Q : Exit → Act → World → Prop} {N : Act → World → Prop} {ops : Array Oper}
  {op : Op} {ty t t' : TypeId} {pos : String} {af : Array Edge} {d : Nat} {x y : Operand}

/-- A call that writes into a slice of one's own. -/
def RetW (v : Value) (E : Enc α) (xs ys : List α) (T : TypeId) (u : Value) (w : World) : Ending → World → Prop := fun e w' => e = .returned u ∧ Keeps (OwnS v E xs T).foot w w' ∧ (OwnS v E ys T).A w'
end
end Go.Gx

/- Part L: an array out of a slice. -/
namespace Go.Gx
open Go Go.RowKit

section
variable {α β γ : Type} {P : Program}
variable {K : Ctx} {F : Fr} {L : List Res} {g : Bool} {Q : Exit → Act → World → Prop} {N : Act → World → Prop} {ops : Array Oper}
  {op : Op} {ty t t' : TypeId} {pos : String} {af : Array Edge} {d : Nat} {x y : Operand}

/-- The first n, as an array. -/
def vecOf (n : Nat) (xs : List α) (z : α) : Vector α n := Vector.ofFn fun i => xs.getD i.val z
end
end Go.Gx

/- Part M: a copy into an array that is part of a variable. -/
namespace Go.Gx
open Go Go.RowKit

section
variable {α β γ : Type} {P : Program}
variable {K : Ctx} {F : Fr} {L : List Res} {g : Bool} {Q : Exit → Act → World → Prop} {N : Act → World → Prop} {ops : Array Oper}
  {op : Op} {ty t t' : TypeId} {pos : String} {af : Array Edge} {d : Nat} {x y : Operand}

/-- What a copy leaves of an array. -/
def cpyV {n : Nat} (a : Vector α n) (ys : List α) (z : α) : Vector α n := Vector.ofFn fun i => if i.val < ys.length then ys.getD i.val z else a[i]
end
end Go.Gx

/- Part N: a call under a guard that hands back something new. -/
namespace Go.Gx
open Go Go.RowKit

section
variable {α β γ : Type} {P : Program}
variable {K : Ctx} {F : Fr} {L : List Res} {g : Bool} {Q : Exit → Act → World → Prop} {N : Act → World → Prop} {ops : Array Oper}
  {op : Op} {ty t t' : TypeId} {pos : String} {af : Array Edge} {d : Nat} {x y : Operand}

/-- A slice of one's own, where the guard says so. -/
def GdS (c : Bool) (v : Value) (E : Enc α) (xs : List α) (T : TypeId) : Res where
  foot := fun b => c = true ∧ (OwnS v E xs T).foot b
  A := fun w => c = true → (OwnS v E xs T).A w
  st := fun w w' h h1 hc => (OwnS v E xs T).st w w' (fun b hb => h b ⟨hc, hb⟩) (h1 hc)
/-- A slice of one's own, cut off behind. -/
theorem own_pre {w : World} {v : Value} {E : Enc α} {xs : List α} {T : TypeId} {k : Nat} (h : (OwnS v E xs T).A w) (hk : k ≤ xs.length) : (OwnS (subS E.size v 0 k) E (xs.take k) T).A w ∧ (subS E.size v 0 k).ownBlock = v.ownBlock := by
  have h' : w.ownsRow 0 T E.size v xs.length (E.row xs) := h
  have hl : (xs.take k).length = k := by simp; omega
  rcases h'.2 with ⟨rfl, hn⟩ | ⟨g, cap, cur, rfl, hb, hg, h1, h2, h3, h4⟩
  · have hx : xs = [] := List.eq_nil_of_length_eq_zero hn
    subst hx
    have hk0 : k = 0 := by simpa using hk
    subst hk0
    exact ⟨h, rfl⟩
  · have e : subS E.size (.slice (some ⟨g, 0, none⟩) xs.length cap) 0 k = .slice (some ⟨g, 0, none⟩) k cap := by
      unfold subS
      split <;> simp_all [Addr.add]
    rw [e]
    refine ⟨?_, rfl⟩
    refine ⟨E.row_length _, .inr ⟨g, cap, cur, by rw [hl], hb, hg, by rw [hl]; omega, h2, h3, ?_⟩⟩
    rw [hl, ← E.row_take, ← h4, List.take_take]
    congr 1
    exact (Nat.min_eq_left (Nat.mul_le_mul_right _ hk)).symm
theorem cutOwn {X : Act → World → Prop} {v : Value} {E : Enc α} {xs : List α} {T : TypeId} {L' : List Res} (k : Nat) (hu : Upd L (OwnS v E xs T) (OwnS (subS E.size v 0 k) E (xs.take k) T) L') (hk : k ≤ xs.length) (h : Sat K X F L') : Sat K X F L := fun a w G => by
  obtain ⟨h1, h2⟩ := own_pre (G.inv.own _ hu.mem).1 hk
  refine h a w (G.world (G.inv.upd hu (Keeps.refl _ _) h1 fun b hb => ?_))
  have hb' : (OwnS v E xs T).foot b := by
    have : (subS E.size v 0 k).ownBlock = some b := hb
    rw [h2] at this
    exact this
  exact ⟨.inl hb', ((G.inv.own _ hu.mem).2 b hb').2⟩
end
end Go.Gx

/- Part P: maps. -/
namespace Go.Gx
open Go Go.RowKit

section
variable {α β γ : Type} {P : Program}
variable {K : Ctx} {F : Fr} {L : List Res} {g : Bool} {Q : Exit → Act → World → Prop} {N : Act → World → Prop} {ops : Array Oper}
  {op : Op} {ty t t' : TypeId} {pos : String} {af : Array Edge} {d : Nat} {x y : Operand}

/-! ### What a map asks of its keys -/
/-- A value of this type may be a key. -/
def CkOK (P : Program) (t : TypeId) (E : Enc α) (n : Nat) : Prop := ∀ em d, n ≤ d → ∀ x w, (Instr.checkKey em d t (E.val x)).run P w = .ok () w
theorem ck_int {k : IntKind} {f : α → Int} (E : Enc α) (hE : ∀ x, E.val x = .int k (f x)) (hu : P.underlying t = some (.int k)) : CkOK P t E 1 := fun em d hd x w => by
  obtain ⟨d, rfl⟩ := Nat.exists_eq_add_of_le' hd
  have hru : (underlying t).run P w = .ok (.int k) w := by simp [underlying, hu]
  simp only [Instr.checkKey, Sem.run_bind, hru, Result.andThen_ok, hE]
  rfl
theorem ck_s (hu : P.underlying t = some .string) : CkOK P t sE 1 := fun em d hd x w => by
  obtain ⟨d, rfl⟩ := Nat.exists_eq_add_of_le' hd
  have hru : (underlying t).run P w = .ok .string w := by simp [underlying, hu]
  simp only [Instr.checkKey, Sem.run_bind, hru, Result.andThen_ok]
  rfl
theorem ck_b (hu : P.underlying t = some .bool) : CkOK P t bE 1 := fun em d hd x w => by
  obtain ⟨d, rfl⟩ := Nat.exists_eq_add_of_le' hd
  have hru : (underlying t).run P w = .ok .bool w := by simp [underlying, hu]
  simp only [Instr.checkKey, Sem.run_bind, hru, Result.andThen_ok]
  rfl
theorem ck_arr {e : TypeId} {n m : Nat} {E : Enc α} (hu : P.underlying t = some (.array n e)) (T : TyOK P e E) (h : CkOK P e E m) : CkOK P t (arrE n E) (m + 1) := fun em d hd x w => by
  obtain ⟨d, rfl⟩ := Nat.exists_eq_add_of_le' (Nat.le_trans (Nat.le_add_left 1 m) hd)
  have hru : (underlying t).run P w = .ok (.array n e) w := by simp [underlying, hu]
  show (Instr.checkKey em (d + 1) t (.agg (E.row x.toList).toArray)).run P w = _
  have hp : ∀ (i : Nat) (hi : i < n) (w : World), (part e (E.row x.toList).toArray (i * E.size)).run P w = .ok (E.val x[i]) w := fun i hi w => run_part T (lArr E i hi) x w
  simp only [Instr.checkKey, Sem.run_bind, hru, Result.andThen_ok, run_sizeOf T]
  have key : ∀ k i, k = n - i → i ≤ n →
      (forIn (List.range' i k) PUnit.unit (fun i _ => do
        let n ← sizeOf e
        let a ← part e (E.row x.toList).toArray (i * n)
        Instr.checkKey em d e a
        pure (ForInStep.yield PUnit.unit))).run P w = .ok PUnit.unit w := by
    intro k
    induction k with
    | zero => intro i hk hi; rfl
    | succ k ih =>
      intro i hk hi
      have hlt : i < n := by omega
      simp only [List.range'_succ, List.forIn_cons, Sem.run_bind, run_sizeOf T, hp i hlt, Result.andThen_ok, h em d (by omega), Sem.run_pure]
      have := ih (i + 1) (by omega) (by omega)
      simpa only [Sem.run_bind] using this
  have hk := key n 0 (by omega) (Nat.zero_le _)
  rw [Std.Legacy.Range.forIn_eq_forIn_range']
  simp only [Std.Legacy.Range.size]
  have e0 : (n - 0 + 1 - 1) / 1 = n := by simp
  rw [e0]
  rw [hk]
  rfl
def CkF (P : Program) (E : Enc α) (n : Nat) (fs : List Field) : Prop := ∀ em d, n ≤ d → ∀ x w,
  (forIn fs PUnit.unit (fun (f : Field) _ => do
    if f.name ≠ "_" then do
        let a ← part f.type (E.cells x).toArray f.offset
        Instr.checkKey em d f.type a
        pure (ForInStep.yield PUnit.unit)
      else pure (ForInStep.yield PUnit.unit))).run P w = .ok PUnit.unit w
theorem CkF.nil {E : Enc α} {n : Nat} : CkF P E n [] := fun em d _ x w => rfl
theorem CkF.cons {E : Enc α} {E' : Enc β} {n o : Nat} {f : Field} {fs : List Field} (hn : f.name ≠ "_") (ho : f.offset = o) (l : Lens E E' o) (T : TyOK P f.type E') (h : CkOK P f.type E' n) (hr : CkF P E n fs) : CkF P E n (f :: fs) := fun em d hd x w => by
  subst ho
  have h2 := hr em d hd x w
  simp only [List.forIn_cons, hn, ne_eq, not_false_eq_true, if_true, Sem.run_bind, run_part T l, Result.andThen_ok, h em d hd, Sem.run_pure]
  exact h2
theorem ck_struct {E : Enc α} {fs : List Field} {n : Nat} (hu : P.underlying t = some (.struct fs.toArray)) (ha : E.agg = true) (h : CkF P E n fs) : CkOK P t E (n + 1) := fun em d hd x w => by
  obtain ⟨d, rfl⟩ := Nat.exists_eq_add_of_le' (Nat.le_trans (Nat.le_add_left 1 n) hd)
  have hru : (underlying t).run P w = .ok (.struct fs.toArray) w := by simp [underlying, hu]
  have h2 := h em d (by omega) x w
  unfold Enc.val
  rw [ha, cond_true]
  simp only [Instr.checkKey, Sem.run_bind, hru, Result.andThen_ok]
  rw [List.forIn_toArray]
  rw [h2]
  rfl
/-- Cells that are alike to the bit with themselves. -/
def BitOK (E : Enc α) : Prop := ∀ x, ∀ c ∈ E.cells x, ∀ m, Instr.sameBits m c c = true
theorem bit_int {k : IntKind} {f : α → Int} (E : Enc α) (hE : ∀ x, E.cells x = [.int k (f x)]) : BitOK E := fun x c hc m => by
  rw [hE, List.mem_singleton] at hc
  subst hc
  cases m <;> simp [Instr.sameBits]
theorem bit_s : BitOK sE := fun x c hc m => by
  obtain rfl := List.mem_singleton.1 hc
  have e : ∀ s : ByteArray, (s == s) = true := fun s => (eqs_iff s s).2 rfl
  cases m <;> simp [Instr.sameBits, e]
theorem bit_b : BitOK bE := fun x c hc m => by
  obtain rfl := List.mem_singleton.1 hc
  cases m <;> simp [Instr.sameBits]
theorem bit_prod {E : Enc α} {E' : Enc β} (h : BitOK E) (h' : BitOK E') : BitOK (prodE E E') := fun x c hc m => by
  rcases List.mem_append.1 hc with k | k
  · exact h _ c k m
  · exact h' _ c k m
theorem bit_iso {E : Enc β} {to : β → α} {of : α → β} (h : BitOK E) : BitOK (isoE E to of) := fun x c hc m => h _ c hc m
theorem bit_arr {n : Nat} {E : Enc α} (h : BitOK E) : BitOK (arrE n E) := fun x c hc m => by
  obtain ⟨y, _, hy⟩ := List.mem_flatMap.1 hc
  exact h y c hy m
theorem sameBits_agg (l : List Value) (n : Nat) (h : ∀ c ∈ l, Instr.sameBits n c c = true) : Instr.sameBits (n + 1) (.agg l.toArray) (.agg l.toArray) = true := by
  simp only [Instr.sameBits, beq_self_eq_true, Bool.true_and, List.all_eq_true]
  intro p hp
  obtain ⟨a, b⟩ := p
  obtain ⟨i, hi, e⟩ := List.mem_iff_getElem.1 hp
  have hl : i < l.length := by simpa using hi
  simp at e
  obtain ⟨rfl, rfl⟩ := e
  exact h _ (List.getElem_mem hl)
/-- A key's type, whole. -/
structure KeyOK (P : Program) (t : TypeId) (E : Enc α) (q : α → α → Bool) : Prop where
  eq : EqOK P t E q 10000
  ck : CkOK P t E 10000
  now : ∀ dd, P.underlying t = some dd → ∀ x y b, Instr.sameNow dd (E.val x) (E.val y) = some b → b = q x y
  iff : ∀ x y, q x y = true ↔ x = y
  bits : ∀ x, Instr.sameBits 10000 (E.val x) (E.val x) = true
theorem EqOK.up {E : Enc α} {q : α → α → Bool} {n m : Nat} (h : EqOK P t E q n) (hm : n ≤ m) : EqOK P t E q m := fun d hd => h d (Nat.le_trans hm hd)
theorem CkOK.up {E : Enc α} {n m : Nat} (h : CkOK P t E n) (hm : n ≤ m) : CkOK P t E m := fun em d hd => h em d (Nat.le_trans hm hd)
theorem key_agg {E : Enc α} {q : α → α → Bool} {n m : Nat} (ha : E.agg = true) (h : EqOK P t E q n) (hn : n ≤ 10000) (c : CkOK P t E m) (hm : m ≤ 10000) (hb : BitOK E) (hi : ∀ x y, q x y = true ↔ x = y) : KeyOK P t E q where
  eq := h.up hn
  ck := c.up hm
  now dd hu x y b hs := by
    unfold Enc.val at hs
    rw [ha] at hs
    cases dd <;> simp [Instr.sameNow] at hs
  iff := hi
  bits x := by
    unfold Enc.val
    rw [ha, cond_true]
    exact sameBits_agg _ 9999 (fun c hc => hb x c hc 9999)
theorem key_i (hu : P.underlying t = some (.int .i64)) : KeyOK P t iE eqd where
  eq := (eqok_i hu).up (by decide)
  ck := (ck_int iE (fun _ => rfl) hu).up (by decide)
  now dd hd x y b hs := by
    rw [hu] at hd
    obtain rfl := Option.some.inj hd
    have hs2 : some (x == y) = some b := hs
    exact (Option.some.inj hs2).symm
  iff := eqd_iff
  bits x := by show Instr.sameBits 10000 (.int .i64 x) (.int .i64 x) = true; simp [Instr.sameBits]
theorem key_s (hu : P.underlying t = some .string) : KeyOK P t sE eqs where
  eq := (eqok_s hu).up (by decide)
  ck := (ck_s hu).up (by decide)
  now dd hd x y b hs := by
    rw [hu] at hd
    obtain rfl := Option.some.inj hd
    have hs2 : some (x == y) = some b := hs
    exact (Option.some.inj hs2).symm
  iff := eqs_iff
  bits x := by
    have e : (x == x) = true := (eqs_iff x x).2 rfl
    show Instr.sameBits 10000 (.string x) (.string x) = true
    simp [Instr.sameBits, e]

/-! ### What lies in a map -/
/-- The first entry of a key, and its place. -/
def findL (q : α → α → Bool) (k : α) : List (α × β) → Nat → Option (Nat × β)
  | [], _ => none
  | p :: l, i => if q k p.1 then some (i, p.2) else findL q k l (i + 1)
def findV (q : α → α → Bool) (k : α) (l : List (α × β)) : Option β := (findL q k l 0).map (·.2)
def Ents (E : Enc α) (V : Enc β) (es : List MapEntry) (l : List (α × β)) : Prop := es.map (fun e => (e.key, e.val)) = l.map (fun p => (E.val p.1, V.val p.2))
theorem Ents.cons_inv {E : Enc α} {V : Enc β} {e : MapEntry} {es : List MapEntry} {l : List (α × β)} (h : Ents E V (e :: es) l) : ∃ p l', l = p :: l' ∧ e.key = E.val p.1 ∧ e.val = V.val p.2 ∧ Ents E V es l' := by
  cases l with
  | nil => simp [Ents] at h
  | cons p l' =>
    simp only [Ents, List.map_cons, List.cons.injEq, Prod.mk.injEq] at h
    exact ⟨p, l', rfl, h.1.1, h.1.2, h.2⟩
theorem findNow_ok {E : Enc α} {V : Enc β} {q : α → α → Bool} {dd : TypeDesc} (hnow : ∀ x y b, Instr.sameNow dd (E.val x) (E.val y) = some b → b = q x y) (k : α) : ∀ (es : List MapEntry) (l : List (α × β)) (i : Nat) (r : Option (Nat × Value)), Ents E V es l → Instr.findNow dd (E.val k) es i = some r → r = (findL q k l i).map (fun p => (p.1, V.val p.2)) := by
  intro es
  induction es with
  | nil =>
    intro l i r h hr
    cases l with
    | nil => simp only [Instr.findNow, Option.some.injEq] at hr; subst hr; rfl
    | cons p l => simp [Ents] at h
  | cons e es ih =>
    intro l i r h hr
    obtain ⟨p, l', rfl, h1, h2, h3⟩ := h.cons_inv
    simp only [Instr.findNow, h1] at hr
    cases hs : Instr.sameNow dd (E.val k) (E.val p.1) with
    | none => rw [hs] at hr; simp at hr
    | some b =>
      have hb := hnow _ _ _ hs
      rw [hs] at hr
      cases b with
      | true =>
        simp only [Option.some.injEq] at hr
        subst hr
        simp [findL, ← hb, h2]
      | false =>
        have := ih l' (i + 1) r h3 hr
        simp [findL, ← hb, this]
theorem run_findAsking {E : Enc α} {V : Enc β} {q : α → α → Bool} (hk : EqOK P t E q 10000) (k : α) (w : World) : ∀ (es : List MapEntry) (l : List (α × β)) (i : Nat), Ents E V es l → (Instr.findAsking t (E.val k) es i).run P w = .ok ((findL q k l i).map (fun p => (p.1, V.val p.2))) w := by
  intro es
  induction es with
  | nil =>
    intro l i h
    cases l with
    | nil => rfl
    | cons p l => simp [Ents] at h
  | cons e es ih =>
    intro l i h
    obtain ⟨p, l', rfl, h1, h2, h3⟩ := h.cons_inv
    have he : (Op.equal t (E.val k) (E.val p.1)).run P w = .ok (q k p.1) w := hk 10000 (Nat.le_refl _) w k p.1
    simp only [Instr.findAsking, h1, Sem.run_bind, he, Result.andThen_ok, findL]
    cases hq : q k p.1 with
    | true => simp [h2]
    | false => simpa using ih l' (i + 1) h3
theorem run_findKey {E : Enc α} {V : Enc β} {q : α → α → Bool} (hk : KeyOK P t E q) {dd : TypeDesc} (hu : P.underlying t = some dd) (k : α) (w : World) (es : List MapEntry) (l : List (α × β)) (h : Ents E V es l) : (Instr.findKey t (E.val k) es).run P w = .ok ((findL q k l 0).map (fun p => (p.1, V.val p.2))) w := by
  have hru : (underlying t).run P w = .ok dd w := by simp [underlying, hu]
  simp only [Instr.findKey, Sem.run_bind, hru, Result.andThen_ok]
  cases hf : Instr.findNow dd (E.val k) es 0 with
  | none => exact run_findAsking hk.eq k w es l 0 h
  | some r =>
    rw [findNow_ok (hk.now dd hu) k es l 0 r h hf]
    rfl
/-- A map that lies at b. -/
def Born (es : Array MapEntry) (c : Nat) : Prop := (∀ x ∈ es.toList, x.born < c) ∧ (es.toList.map (·.born)).Nodup
theorem Born.push {es : Array MapEntry} {c : Nat} (h : Born es c) (k v : Value) : Born (es.push { key := k, val := v, born := c }) (c + 1) := by
  refine ⟨fun x hx => ?_, ?_⟩
  · simp only [Array.toList_push, List.mem_append, List.mem_singleton] at hx
    rcases hx with hx | rfl
    · exact Nat.lt_succ_of_lt (h.1 x hx)
    · exact Nat.lt_succ_self _
  · simp only [Array.toList_push, List.map_append, List.map_cons, List.map_nil]
    refine List.nodup_append.2 ⟨h.2, by simp, ?_⟩
    intro a ha b hb
    simp only [List.mem_singleton] at hb
    subst hb
    obtain ⟨x, hx, rfl⟩ := List.mem_map.1 ha
    exact Nat.ne_of_lt (h.1 x hx)
theorem Born.modify {es : Array MapEntry} {c : Nat} (h : Born es c) (i : Nat) (f : MapEntry → MapEntry) (hf : ∀ e, (f e).born = e.born) : Born (es.modify i f) c := by
  have e1 : (es.modify i f).toList.map (·.born) = es.toList.map (·.born) := by
    rw [Array.toList_modify]
    apply List.ext_getElem?
    intro j
    simp only [List.getElem?_map, List.getElem?_modify]
    cases es.toList[j]? with
    | none => rfl
    | some e => by_cases hj : i = j <;> simp [hj, hf]
  refine ⟨fun x hx => ?_, e1 ▸ h.2⟩
  have : x.born ∈ es.toList.map (·.born) := e1 ▸ List.mem_map.2 ⟨x, hx, rfl⟩
  obtain ⟨y, hy, e⟩ := List.mem_map.1 this
  exact e ▸ h.1 y hy
def MapAt (w : World) (b : Nat) (E : Enc α) (V : Enc β) (l : List (α × β)) : Prop := ∃ es clock, w.heap[b]? = some (.map es clock) ∧ Ents E V es.toList l ∧ Born es clock
def MapR (b : Nat) (E : Enc α) (V : Enc β) (l : List (α × β)) : Res where
  foot := fun k => k = b
  A := fun w => MapAt w b E V l
  st := fun w w' h ⟨es, c, h1, h2⟩ => ⟨es, c, (h b rfl).trans h1, h2⟩
theorem mapAt_own {b : Nat} {E : Enc α} {V : Enc β} {l : List (α × β)} (hm : MapR b E V l ∈ L) (w : World) (h : WInv K L w) : MapAt w b E V l := (h.own _ hm).1
theorem MapAt.keep0 {w w' : World} {b : Nat} {E : Enc α} {V : Enc β} {l : List (α × β)} (h : MapAt w b E V l) (k : Keeps Nope w w') : MapAt w' b E V l := by
  obtain ⟨es, c, h1, h2⟩ := h
  exact ⟨es, c, (k.block b (Array.getElem?_eq_some_iff.1 h1).1 (fun h => h)).trans h1, h2⟩
/-- 'map[K]V{}'. -/
theorem makeMap {E : Enc α} {V : Enc β} (next : ∀ b : Nat, Sat K N ((d, true, .map (some b)) :: F) (MapR b E V [] :: L)) (hd : Nat.blt d K.n = true := by rfl) :
    Sat K (opThen P ops Q ⟨some d, .makeMap t none, ty, pos, af, none⟩ N) F L := fun a w G => by
  refine opThen_plain rfl ?_
  unfold Oper.wp
  have hr : (execOp a.eval ⟨some d, .makeMap t none, ty, pos, af, none⟩).run P w = .ok (.value (.map (some w.heap.size))) { w with heap := w.heap.push (.map #[] 0) } := by
    simp [execOp, Instr.makeMap]
  rw [hr]
  refine next w.heap.size _ _ (G.put d true _ _ (by simpa [Nat.blt_eq] using hd) rfl (G.inv.add (Keeps.alloc _ _ _) ⟨#[], 0, by simp, rfl, by simp [Born]⟩ ?_))
  intro b hb
  have : b = w.heap.size := hb
  subst this
  simp
/-- 'v, ok := m[k]'. -/
theorem Ev.lookup2 {kt vt : TypeId} {E : Enc α} {V : Enc β} {q : α → α → Bool} {dd : TypeDesc} {b : Nat} {l : List (α × β)} {k : α} {co : Bool} (ht : P.underlying t = some (.map kt vt)) (hu : P.underlying kt = some dd) (hk : KeyOK P kt E q) (hz : (P.info? vt).bind (·.zero) = some (V.val V.zero))
    (hx : Opd F g x (.map (some b))) (hy : Opd F g y (E.val k)) (hm : g = true → ∀ w, WInv K L w → MapAt w b E V l) :
    Ev P K F L g (.lookup t x y co) ty (bif co then .tuple #[V.val ((findV q k l).getD V.zero), .bool (findV q k l).isSome] else V.val ((findV q k l).getD V.zero)) := fun hg a G w hw dst pos af gd => by
  obtain ⟨es, c, h1, h2, _⟩ := hm hg w hw
  have hru : (underlying t).run P w = .ok (.map kt vt) w := by simp [underlying, ht]
  have hgo : (getObj b).run P w = .ok (.map es c) w := MapKept.run_getObj_map h1
  have hck := hk.ck es.isEmpty 10000 (Nat.le_refl _) k w
  have hfk := run_findKey hk hu k w es.toList l h2
  have hzv : (zeroValue vt).run P w = .ok (V.val V.zero) w := by
    cases hi : P.info? vt with
    | none => rw [hi] at hz; cases hz
    | some i =>
      rw [hi] at hz
      simp only [Option.bind_some] at hz
      simp [zeroValue, typeInfo, hi, hz]
  simp only [execOp, Instr.lookup, hx.eval hg G, hy.eval hg G, Sem.run_bind, hru, Result.andThen_ok, hgo, Sem.run_pure, hck, hfk]
  unfold findV
  cases hf : findL q k l 0 with
  | none => cases co <;> simp [hzv]
  | some p => cases co <;> simp
theorem Ev.lookupT {kt vt : TypeId} {E : Enc α} {q : α → α → Bool} {dd : TypeDesc} {b : Nat} {l : List (α × Int)} {k : α} (ht : P.underlying t = some (.map kt vt)) (hu : P.underlying kt = some dd) (hk : KeyOK P kt E q) (hz : (P.info? vt).bind (·.zero) = some (iE.val iE.zero))
    (hx : Opd F g x (.map (some b))) (hy : Opd F g y (E.val k)) (hm : g = true → ∀ w, WInv K L w → MapAt w b E iE l) :
    Ev P K F L g (.lookup t x y true) ty (.tuple #[I ((findV q k l).getD 0), .bool (findV q k l).isSome]) := Ev.lookup2 (co := true) ht hu hk hz hx hy hm
theorem Ev.lookupF {kt vt : TypeId} {E : Enc α} {q : α → α → Bool} {dd : TypeDesc} {b : Nat} {l : List (α × Int)} {k : α} (ht : P.underlying t = some (.map kt vt)) (hu : P.underlying kt = some dd) (hk : KeyOK P kt E q) (hz : (P.info? vt).bind (·.zero) = some (iE.val iE.zero))
    (hx : Opd F g x (.map (some b))) (hy : Opd F g y (E.val k)) (hm : g = true → ∀ w, WInv K L w → MapAt w b E iE l) :
    Ev P K F L g (.lookup t x y false) ty (I ((findV q k l).getD 0)) := Ev.lookup2 (co := false) ht hu hk hz hx hy hm
/-- A map with a key's value. -/
def putL (q : α → α → Bool) (k : α) (v : β) : List (α × β) → List (α × β)
  | [] => [(k, v)]
  | p :: l => if q k p.1 then (k, v) :: l else p :: putL q k v l
theorem findL_ge {q : α → α → Bool} {k : α} : ∀ {l : List (α × β)} {i j : Nat} {v : β}, findL q k l i = some (j, v) → i ≤ j ∧ j < i + l.length
  | [], i, j, v, h => by simp [findL] at h
  | p :: l, i, j, v, h => by
    simp only [findL] at h
    split at h
    · simp only [Option.some.injEq, Prod.mk.injEq] at h
      simp
      omega
    · have := findL_ge h
      simp
      omega
theorem ents_put {E : Enc α} {V : Enc β} {q : α → α → Bool} (hi : ∀ x y, q x y = true ↔ x = y) (k : α) (v : β) : ∀ (es : List MapEntry) (l : List (α × β)) (i : Nat), Ents E V es l →
    (∀ j u, findL q k l i = some (j, u) → (∃ e, es[j - i]? = some e ∧ e.key = E.val k) ∧ Ents E V (es.modify (j - i) (fun e => { e with key := E.val k, val := V.val v })) (putL q k v l)) ∧
    (findL q k l i = none → ∀ c, Ents E V (es ++ [{ key := E.val k, val := V.val v, born := c }]) (putL q k v l)) := by
  intro es
  induction es with
  | nil =>
    intro l i h
    cases l with
    | nil => exact ⟨fun j u hf => by simp [findL] at hf, fun _ c => rfl⟩
    | cons p l => simp [Ents] at h
  | cons e es ih =>
    intro l i h
    obtain ⟨p, l', rfl, h1, h2, h3⟩ := h.cons_inv
    obtain ⟨i1, i2⟩ := ih l' (i + 1) h3
    by_cases hq : q k p.1 = true
    · have hkp : k = p.1 := (hi _ _).1 hq
      constructor
      · intro j u hf
        simp only [findL, hq, if_true, Option.some.injEq, Prod.mk.injEq] at hf
        obtain ⟨rfl, rfl⟩ := hf
        rw [Nat.sub_self]
        refine ⟨⟨e, rfl, by rw [h1, ← hkp]⟩, ?_⟩
        simp only [putL, hq, if_true]
        unfold Ents at h3 ⊢
        simp [h3]
      · intro hf
        simp [findL, hq] at hf
    · constructor
      · intro j u hf
        simp only [findL, hq, if_false, Bool.false_eq_true] at hf
        obtain ⟨g1, g2⟩ := findL_ge hf
        obtain ⟨⟨e', k1, k2⟩, k3⟩ := i1 j u hf
        have ej : j - i = (j - (i + 1)) + 1 := by omega
        rw [ej]
        refine ⟨⟨e', by simpa using k1, k2⟩, ?_⟩
        simp only [putL, hq, if_false, Bool.false_eq_true]
        unfold Ents at k3 ⊢
        simp [k3, h1, h2]
      · intro hf c
        simp only [findL, hq, if_false, Bool.false_eq_true] at hf
        have k3 := i2 hf c
        simp only [putL, hq, if_false, Bool.false_eq_true]
        unfold Ents at k3 ⊢
        simp only [List.cons_append, List.map_cons, k3, h1, h2]
theorem setIf_keeps (w : World) (b : Nat) (o : Obj) : Keeps (fun k => k = b) w { w with heap := w.heap.setIfInBounds b o } :=
  ⟨rfl, rfl, rfl, by simp, fun k hk hm => by simp [Array.getElem?_setIfInBounds_ne (Ne.symm hm)]⟩
/-- 'm[k] = v'. -/
theorem mapUpdate {kt vt : TypeId} {E : Enc α} {V : Enc β} {q : α → α → Bool} {dd : TypeDesc} {b : Nat} {l : List (α × β)} {k : α} {v : β} {z : Operand} {L' : List Res} (ht : P.underlying t = some (.map kt vt)) (hu : P.underlying kt = some dd) (hk : KeyOK P kt E q)
    (hx : Opd F true x (.map (some b))) (hy : Opd F true y (E.val k)) (hz : Opd F true z (V.val v)) (hU : Upd L (MapR b E V l) (MapR b E V (putL q k v l)) L') (next : Sat K N F L') :
    Sat K (opThen P ops Q ⟨none, .mapUpdate t x y z, ty, pos, af, none⟩ N) F L := fun a w G => by
  refine opThen_plain rfl ?_
  unfold Oper.wp
  obtain ⟨es, c, h1, h2, hB⟩ : MapAt w b E V l := (G.inv.own _ hU.mem).1
  have hru : (underlying t).run P w = .ok (.map kt vt) w := by simp [underlying, ht]
  have hgo : (getObj b).run P w = .ok (.map es c) w := MapKept.run_getObj_map h1
  have hck := hk.ck false 10000 (Nat.le_refl _) k w
  have hfk := run_findKey hk hu k w es.toList l h2
  have hlt : b < w.heap.size := (Array.getElem?_eq_some_iff.1 h1).1
  obtain ⟨p1, p2⟩ := ents_put hk.iff k v es.toList l 0 h2
  have fin : ∀ o : Obj, (∃ es' c', o = .map es' c' ∧ Ents E V es'.toList (putL q k v l) ∧ Born es' c') → N a { w with heap := w.heap.setIfInBounds b o } := by
    rintro o ⟨es', c', rfl, he, hb'⟩
    refine next _ _ (G.world (G.inv.upd hU (setIf_keeps w b _) ⟨es', c', by simp [hlt], he, hb'⟩ fun k hk => ?_))
    have : k = b := hk
    subst this
    exact ⟨.inl rfl, by simpa using hlt⟩
  have hso : ∀ o, (setObj b o).run P w = .ok () { w with heap := w.heap.setIfInBounds b o } := fun o => MapKept.run_setObj_map o h1
  cases hf : findL q k l 0 with
  | none =>
    rw [hf] at hfk
    have hr : (execOp a.eval ⟨none, .mapUpdate t x y z, ty, pos, af, none⟩).run P w = .ok .skip { w with heap := w.heap.setIfInBounds b (.map (es.push { key := E.val k, val := V.val v, born := c }) (c + 1)) } := by
      simp [execOp, Instr.mapUpdate, hx.eval rfl G.fo, hy.eval rfl G.fo, hz.eval rfl G.fo, hru, hgo, hck, hfk, hso]
    rw [hr]
    exact fin _ ⟨_, _, rfl, by simpa using p2 hf c, hB.push _ _⟩
  | some jp =>
    obtain ⟨j, u⟩ := jp
    rw [hf] at hfk
    obtain ⟨⟨e, k1, k2⟩, k3⟩ := p1 j u hf
    rw [Nat.sub_zero] at k1 k3
    have hke : ((es[j]?).map (·.key)).getD (E.val k) = E.val k := by
      have : es[j]? = some e := by simpa using k1
      rw [this]
      exact k2
    have hkt : (Instr.keyThatStays (E.val k) (E.val k)).run P w = .ok (E.val k) w := by
      simp [Instr.keyThatStays, hk.bits k]
    have hr : (execOp a.eval ⟨none, .mapUpdate t x y z, ty, pos, af, none⟩).run P w = .ok .skip { w with heap := w.heap.setIfInBounds b (.map (es.modify j fun e => { e with key := E.val k, val := V.val v }) c) } := by
      simp [execOp, Instr.mapUpdate, hx.eval rfl G.fo, hy.eval rfl G.fo, hz.eval rfl G.fo, hru, hgo, hck, hfk, hso, hke, hkt]
    rw [hr]
    exact fin _ ⟨_, _, rfl, by rw [Array.toList_modify]; exact k3, hB.modify _ _ (fun _ => rfl)⟩
/-! ### Going through a map -/
def RangeAt (w : World) (r b : Nat) (E : Enc α) (V : Enc β) (l rem : List (α × β)) (cur : Option (α × β)) : Prop := ∃ es clock since seen c0, w.heap[b]? = some (.map es clock) ∧ Ents E V es.toList l ∧ Born es clock ∧
  w.heap[r]? = some (.mapIter (some b) since seen c0) ∧ (∀ x ∈ es.toList, x.born < since) ∧ since ≤ c0 ∧ since ≤ clock ∧ Ents E V (leftOf es seen).toList rem ∧ ∀ p, cur = some p → c0 = clock ∧ ∃ e ∈ es.toList, seen.back? = some e.born ∧ e.key = E.val p.1 ∧ e.val = V.val p.2
def RangeR (r b : Nat) (E : Enc α) (V : Enc β) (l rem : List (α × β)) (cur : Option (α × β)) : Res where
  foot := fun k => k = r ∨ k = b
  A := fun w => RangeAt w r b E V l rem cur
  st := fun w w' h ⟨es, c, s, sn, c0, h1, h2, h3, h4, h5⟩ => ⟨es, c, s, sn, c0, (h b (.inr rfl)).trans h1, h2, h3, (h r (.inl rfl)).trans h4, h5⟩
theorem startRange {kt vt : TypeId} {E : Enc α} {V : Enc β} {b : Nat} {l : List (α × β)} {L' : Nat → List Res} (ht : P.underlying t = some (.map kt vt)) (hx : Opd F true x (.map (some b)))
    (hU : ∀ r, Upd L (MapR b E V l) (RangeR r b E V l l none) (L' r)) (next : ∀ r, Sat K N ((d, true, .pointer (some ⟨r, 0, none⟩)) :: F) (L' r)) (hd : Nat.blt d K.n = true := by rfl) :
    Sat K (opThen P ops Q ⟨some d, .range t x, ty, pos, af, none⟩ N) F L := fun a w G => by
  refine opThen_plain rfl ?_
  unfold Oper.wp
  obtain ⟨es, c, h1, h2, hB⟩ : MapAt w b E V l := (G.inv.own _ (hU 0).mem).1
  have hlt : b < w.heap.size := (Array.getElem?_eq_some_iff.1 h1).1
  have hru : (underlying t).run P w = .ok (.map kt vt) w := by simp [underlying, ht]
  have hr : (execOp a.eval ⟨some d, .range t x, ty, pos, af, none⟩).run P w = .ok (.value (.pointer (some ⟨w.heap.size, 0, none⟩))) { w with heap := w.heap.push (.mapIter (some b) c #[] c) } := by
    simp [execOp, Instr.range, hx.eval rfl G.fo, hru, MapKept.run_getObj_map h1]
  rw [hr]
  refine next w.heap.size _ _ (G.put d true _ _ (by simpa [Nat.blt_eq] using hd) rfl (G.inv.upd (hU _) (Keeps.alloc _ _ _) ⟨es, c, c, #[], c, ?_, h2, hB, by simp, hB.1, Nat.le_refl _, Nat.le_refl _, ?_⟩ ?_))
  · rw [Array.getElem?_push_lt hlt]; exact (Array.getElem?_eq_getElem hlt).symm.trans h1
  · have : leftOf es #[] = es := by simp [leftOf]
    rw [this]; exact ⟨h2, fun p hp => by cases hp⟩
  · rintro k (rfl | rfl)
    · exact ⟨.inr (Nat.le_refl _), by simp⟩
    · exact ⟨.inl rfl, by simp; omega⟩
theorem leftOf_push (es : Array MapEntry) (seen : Array Nat) (e : MapEntry) : (leftOf es (seen.push e.born)).toList = (leftOf es seen).toList.filter (fun x => !(x.born == e.born)) := by
  simp only [leftOf, Array.toList_filter, List.filter_filter]
  congr 1
  funext x
  rw [Bool.eq_iff_iff]
  simp [Array.contains_push, and_comm]
theorem filter_born : ∀ (es : List MapEntry) (e : MapEntry), e ∈ es → (es.map (·.born)).Nodup → ∃ a b, es = a ++ e :: b ∧ es.filter (fun x => !(x.born == e.born)) = a ++ b
  | x :: es, e, h, hn => by
    simp only [List.map_cons, List.nodup_cons] at hn
    rcases List.mem_cons.1 h with rfl | h
    · refine ⟨[], es, rfl, ?_⟩
      simp only [List.filter_cons, beq_self_eq_true, Bool.not_true, Bool.false_eq_true, if_false, List.nil_append]
      refine List.filter_eq_self.2 fun y hy => ?_
      have : y.born ≠ e.born := fun he => hn.1 (he ▸ List.mem_map.2 ⟨y, hy, rfl⟩)
      simpa using this
    · obtain ⟨a, b, e1, e2⟩ := filter_born es e h hn.2
      have : x.born ≠ e.born := fun he => hn.1 (he ▸ List.mem_map.2 ⟨e, h, rfl⟩)
      refine ⟨x :: a, b, by rw [e1]; rfl, ?_⟩
      rw [List.filter_cons, if_pos (by simpa using this), e2]
      rfl
theorem Ents.split {E : Enc α} {V : Enc β} {a b : List MapEntry} {e : MapEntry} {l : List (α × β)} (h : Ents E V (a ++ e :: b) l) : ∃ l1 p l2, l = l1 ++ p :: l2 ∧ e.key = E.val p.1 ∧ e.val = V.val p.2 ∧ Ents E V (a ++ b) (l1 ++ l2) := by
  induction a generalizing l with
  | nil =>
    obtain ⟨p, l', rfl, h1, h2, h3⟩ := Ents.cons_inv h
    exact ⟨[], p, l', rfl, h1, h2, h3⟩
  | cons x a ih =>
    obtain ⟨p, l', rfl, h1, h2, h3⟩ := Ents.cons_inv h
    obtain ⟨l1, p', l2, rfl, g1, g2, g3⟩ := ih h3
    refine ⟨p :: l1, p', l2, rfl, g1, g2, ?_⟩
    show List.map _ _ = List.map _ _
    simp only [List.cons_append, List.map_cons, h1, h2]
    exact congrArg _ g3
/-- What a step hands out. -/
def nextV (E : Enc α) (V : Enc β) : Option (α × β) → Value
  | none => .tuple #[.bool false]
  | some p => .tuple #[.bool true, E.val p.1, V.val p.2]
/-- A step: either all have been met, or one that is left comes out. -/
theorem nextRange {E : Enc α} {V : Enc β} {r b : Nat} {l rem : List (α × β)} {cur : Option (α × β)} {L' : List (α × β) × Option (α × β) → List Res} (hx : Opd F true x (.pointer (some ⟨r, 0, none⟩)))
    (hU : ∀ s, Upd L (RangeR r b E V l rem cur) (RangeR r b E V l s.1 s.2) (L' s))
    (nil : rem = [] → Sat K N ((d, true, nextV E V none) :: F) (L' (rem, none)))
    (next : ∀ l1 p l2, rem = l1 ++ p :: l2 → Sat K N ((d, true, nextV E V (some p)) :: F) (L' (l1 ++ l2, some p))) (hd : Nat.blt d K.n = true := by rfl) :
    Sat K (opThen P ops Q ⟨some d, .next x false, ty, pos, af, none⟩ N) F L := fun a w G => by
  refine opThen_plain rfl ?_
  unfold Oper.wp
  obtain ⟨⟨es, c, since, seen, c0, h1, h2, h3, h4, h5, h6, h7, h8, h9⟩, _⟩ := G.inv.own _ (hU (rem, none)).mem
  have hlr : r < w.heap.size := (Array.getElem?_eq_some_iff.1 h4).1
  have hlb : b < w.heap.size := (Array.getElem?_eq_some_iff.1 h1).1
  have hne : b ≠ r := fun e => by subst e; rw [h1] at h4; cases h4
  have hd' : d < K.n := by simpa [Nat.blt_eq] using hd
  have hrun : ∀ (v : Value) (w' : World), (Instr.next (.pointer (some ⟨r, 0, none⟩)) false ty).run P w = .ok v w' → (execOp a.eval ⟨some d, .next x false, ty, pos, af, none⟩).run P w = .ok (.value v) w' := fun v w' h => by
    simp [execOp, hx.eval rfl G.fo, h]
  rcases run_next_at (P := P) w ty r b since c0 seen es c h4 h1 h5 h6 with ⟨h0, hr⟩ | ⟨e, he, w1, hal, hr⟩
  · rw [hrun _ _ hr]
    have hl : (leftOf es seen).toList = [] := by simpa [Array.size_eq_zero_iff] using h0
    have hrem : rem = [] := by
      rw [hl] at h8
      cases rem with
      | nil => rfl
      | cons p q => simp [Ents] at h8
    refine nil hrem _ _ (G.put d true _ _ hd' rfl (G.inv.upd (hU (rem, none)) (Keeps.refl _ _) ⟨es, c, since, seen, c0, h1, h2, h3, h4, h5, h6, h7, h8, fun p hp => by cases hp⟩ ?_))
    rintro k (rfl | rfl)
    · exact ⟨.inl (.inl rfl), hlr⟩
    · exact ⟨.inl (.inr rfl), hlb⟩
  · rw [hrun _ _ hr]
    have hnd : ((leftOf es seen).toList.map (·.born)).Nodup := by
      have : (leftOf es seen).toList.Sublist es.toList := by simp only [leftOf, Array.toList_filter]; exact List.filter_sublist
      exact (this.map _).nodup h3.2
    obtain ⟨A, B, e1, e2⟩ := filter_born _ e he hnd
    have hes : e ∈ es.toList := (mem_left he).1
    rw [e1] at h8
    obtain ⟨l1, p, l2, e3, e4, e5, e6⟩ := h8.split
    rw [e4, e5]
    have hw1 : w1.heap = w.heap ∧ w1.os = w.os ∧ w1.tape = w.tape ∧ w1.output = w.output := by rcases hal with rfl | rfl <;> exact ⟨rfl, rfl, rfl, rfl⟩
    have hsz : (ChangeMaps.setBlock w1 r (.mapIter (some b) since (seen.push e.born) c)).heap.size = w.heap.size := by simp [ChangeMaps.setBlock, hw1.1]
    refine next l1 p l2 e3 _ _ (G.put d true _ _ hd' rfl (G.inv.upd (hU (l1 ++ l2, some p)) ⟨hw1.2.1, hw1.2.2.1, hw1.2.2.2, by rw [hsz]; exact Nat.le_refl _, fun k hk hm => ?_⟩ ⟨es, c, since, seen.push e.born, c, ?_, h2, h3, ?_, h5, h7, h7, ?_⟩ ?_))
    · simp only [ChangeMaps.setBlock, hw1.1]
      exact Array.getElem?_setIfInBounds_ne (fun e => hm (.inl e.symm))
    · simp only [ChangeMaps.setBlock, hw1.1]
      rw [Array.getElem?_setIfInBounds_ne (Ne.symm hne)]; exact h1
    · simp only [ChangeMaps.setBlock, hw1.1]
      simp [hlr]
    · rw [leftOf_push, e2]
      refine ⟨e6, fun p' hp => ?_⟩
      obtain rfl := Option.some.inj hp
      exact ⟨rfl, e, hes, by simp, e4, e5⟩
    · rintro k (rfl | rfl)
      · exact ⟨.inl (.inl rfl), by rw [hsz]; exact hlr⟩
      · exact ⟨.inl (.inr rfl), by rw [hsz]; exact hlb⟩
/-- The entry that the last step handed out. -/
theorem Ev.entry {E : Enc α} {V : Enc β} {r b : Nat} {l rem : List (α × β)} {p : α × β} (hx : Opd F g x (.pointer (some ⟨r, 0, none⟩))) (hm : RangeR r b E V l rem (some p) ∈ L) :
    Ev P K F L g (.entry x) ty (.tuple #[E.val p.1, V.val p.2]) := fun hg a G w hw dst pos af gd => by
  obtain ⟨⟨es, c, since, seen, c0, h1, h2, h3, h4, h5, h6, h7, h8, h9⟩, _⟩ := hw.own _ hm
  obtain ⟨rfl, e, he, k1, k2, k3⟩ := h9 p rfl
  have hf : es.find? (·.born == e.born) = some e := by rw [← Array.find?_toList]; exact find_born e es.toList h3.2 he
  have hr : (Instr.entry (.pointer (some ⟨r, 0, none⟩))).run P w = .ok (.tuple #[E.val p.1, V.val p.2]) w := by
    simp only [Instr.entry, getObj, Sem.run_bind, Sem.run, h4, h1, Result.andThen, k1, bne_self_eq_false, Bool.false_eq_true, if_false, hf, k2, k3]
    rfl
  simp only [execOp, hx.eval hg G, Sem.run_bind, hr, Result.andThen_ok, Sem.run_pure]
/-! ### 'm[k] += ..': an entry, and what is laid into it -/
def StampAt (w : World) (b s : Nat) (E : Enc α) (V : Enc β) (q : α → α → Bool) (k : α) (l : List (α × β)) : Prop := ∃ es clock i, w.heap[b]? = some (.map es clock) ∧ Born es clock ∧ (∃ e, es[i]? = some e ∧ e.born = s) ∧
  (∀ v : β, Ents E V (es.toList.modify i (fun e => { e with val := V.val v })) (putL q k v l)) ∧ Ents E V es.toList (putL q k ((findV q k l).getD V.zero) l)
def StampR (b s : Nat) (E : Enc α) (V : Enc β) (q : α → α → Bool) (k : α) (l : List (α × β)) : Res where
  foot := fun j => j = b
  A := fun w => StampAt w b s E V q k l
  st := fun w w' h ⟨es, c, i, h1, h2⟩ => ⟨es, c, i, (h b rfl).trans h1, h2⟩
theorem entry_put {E : Enc α} {V : Enc β} {q : α → α → Bool} (hi : ∀ x y, q x y = true ↔ x = y) (k : α) : ∀ (es : List MapEntry) (l : List (α × β)) (i : Nat), Ents E V es l →
    (∀ j u, findL q k l i = some (j, u) → ∀ v : β, Ents E V ((es.modify (j - i) (fun e => { e with key := E.val k })).modify (j - i) (fun e => { e with val := V.val v })) (putL q k v l)) := by
  intro es l i h j u hf v
  obtain ⟨_, h2⟩ := (ents_put hi k v es l i h).1 j u hf
  rw [List.modify_modify_eq]
  exact h2
theorem modify_end {γ : Type} (f : γ → γ) (x : γ) : ∀ l : List γ, (l ++ [x]).modify l.length f = l ++ [f x]
  | [] => rfl
  | a :: l => by
    show a :: (l ++ [x]).modify l.length f = _
    rw [modify_end f x l]
    rfl
theorem keep_put {E : Enc α} {V : Enc β} {q : α → α → Bool} (hi : ∀ x y, q x y = true ↔ x = y) (k : α) : ∀ (es : List MapEntry) (l : List (α × β)) (i : Nat), Ents E V es l →
    ∀ j u, findL q k l i = some (j, u) → Ents E V (es.modify (j - i) (fun e => { e with key := E.val k })) (putL q k u l) := by
  intro es
  induction es with
  | nil =>
    intro l i h j u hf
    cases l with
    | nil => simp [findL] at hf
    | cons p l => simp [Ents] at h
  | cons e es ih =>
    intro l i h j u hf
    obtain ⟨p, l', rfl, h1, h2, h3⟩ := h.cons_inv
    by_cases hq : q k p.1 = true
    · simp only [findL, hq, if_true, Option.some.injEq, Prod.mk.injEq] at hf
      obtain ⟨rfl, rfl⟩ := hf
      rw [Nat.sub_self]
      simp only [putL, hq, if_true]
      unfold Ents at h3 ⊢
      simp [h3, h2]
    · simp only [findL, hq, if_false, Bool.false_eq_true] at hf
      obtain ⟨g1, g2⟩ := findL_ge hf
      have k3 := ih l' (i + 1) h3 j u hf
      have ej : j - i = (j - (i + 1)) + 1 := by omega
      rw [ej]
      simp only [putL, hq, if_false, Bool.false_eq_true]
      unfold Ents at k3 ⊢
      simp [k3, h1, h2]
theorem mapAt_stamp {b s : Nat} {E : Enc α} {V : Enc β} {q : α → α → Bool} {k : α} {l : List (α × β)} (hm : StampR b s E V q k l ∈ L) (w : World) (h : WInv K L w) : MapAt w b E V (putL q k ((findV q k l).getD V.zero) l) := by
  obtain ⟨⟨es, c, i, h1, hB, _, _, h2⟩, _⟩ := h.own _ hm
  exact ⟨es, c, h1, h2, hB⟩
theorem findL_map (q : α → α → Bool) (k : α) : ∀ (l : List (α × β)) (i : Nat), (findL q k l i).map (·.2) = findV q k l
  | [], i => rfl
  | p :: l, i => by
    unfold findV
    simp only [findL]
    split
    · rfl
    · rw [findL_map q k l (i + 1), findL_map q k l (0 + 1)]
theorem findV_cons (q : α → α → Bool) (k : α) (p : α × β) (l : List (α × β)) : findV q k (p :: l) = if q k p.1 then some p.2 else findV q k l := by
  unfold findV
  simp only [findL]
  split
  · rfl
  · exact findL_map q k l (0 + 1)
theorem findV_put {q : α → α → Bool} (hi : ∀ x y, q x y = true ↔ x = y) (k k' : α) (v : β) : ∀ l : List (α × β), findV q k (putL q k' v l) = if q k k' then some v else findV q k l
  | [] => by rw [putL, findV_cons]
  | p :: l => by
    rw [putL]
    by_cases h : q k' p.1 = true
    · rw [if_pos h, findV_cons, findV_cons]
      have e := (hi _ _).1 h
      subst e
      by_cases h2 : q k p.1 = true <;> simp [h2]
    · rw [if_neg h, findV_cons, findV_cons, findV_put hi k k' v l]
      by_cases h2 : q k k' = true
      · have e := (hi _ _).1 h2
        subst e
        simp [h, h2]
      · by_cases h3 : q k p.1 = true <;> simp [h2, h3]
theorem findV_self {q : α → α → Bool} (hi : ∀ x y, q x y = true ↔ x = y) (k : α) (v : β) (l : List (α × β)) : findV q k (putL q k v l) = some v := by
  rw [findV_put hi, if_pos ((hi k k).2 rfl)]
theorem mapEntry {kt vt : TypeId} {E : Enc α} {V : Enc β} {q : α → α → Bool} {dd : TypeDesc} {b : Nat} {l : List (α × β)} {k : α} {L' : Nat → List Res} (ht : P.underlying t = some (.map kt vt)) (hu : P.underlying kt = some dd) (hk : KeyOK P kt E q) (hz : (P.info? vt).bind (·.zero) = some (V.val V.zero))
    (hx : Opd F true x (.map (some b))) (hy : Opd F true y (E.val k)) (hU : ∀ s, Upd L (MapR b E V l) (StampR b s E V q k l) (L' s)) (next : ∀ s : Nat, Sat K N ((d, true, .tuple #[V.val ((findV q k l).getD V.zero), .int .i64 s]) :: F) (L' s)) (hd : Nat.blt d K.n = true := by rfl) :
    Sat K (opThen P ops Q ⟨some d, .mapEntry t x y, ty, pos, af, none⟩ N) F L := fun a w G => by
  refine opThen_plain rfl ?_
  unfold Oper.wp
  obtain ⟨es, c, h1, h2, hB⟩ : MapAt w b E V l := (G.inv.own _ (hU 0).mem).1
  have hd' : d < K.n := by simpa [Nat.blt_eq] using hd
  have hru : (underlying t).run P w = .ok (.map kt vt) w := by simp [underlying, ht]
  have hgo : (getObj b).run P w = .ok (.map es c) w := MapKept.run_getObj_map h1
  have hck := hk.ck false 10000 (Nat.le_refl _) k w
  have hfk := run_findKey hk hu k w es.toList l h2
  have hlt : b < w.heap.size := (Array.getElem?_eq_some_iff.1 h1).1
  have hso : ∀ o, (setObj b o).run P w = .ok () { w with heap := w.heap.setIfInBounds b o } := fun o => MapKept.run_setObj_map o h1
  have fin : ∀ (s : Nat) (o : Obj), (∃ es' c' i, o = .map es' c' ∧ Born es' c' ∧ (∃ e, es'[i]? = some e ∧ e.born = s) ∧ (∀ v : β, Ents E V (es'.toList.modify i (fun e => { e with val := V.val v })) (putL q k v l)) ∧ Ents E V es'.toList (putL q k ((findV q k l).getD V.zero) l)) → ∀ u, u = .tuple #[V.val ((findV q k l).getD V.zero), .int .i64 s] → N { a with tmps := a.tmps.setIfInBounds d u } { w with heap := w.heap.setIfInBounds b o } := by
    rintro s o ⟨es', c', i, rfl, hb', he, hv⟩ u rfl
    refine next s _ _ (G.put d true _ _ hd' rfl (G.inv.upd (hU s) (setIf_keeps w b _) ⟨es', c', i, by simp [hlt], hb', he, hv.1, hv.2⟩ fun k hk => ?_))
    have : k = b := hk
    subst this
    exact ⟨.inl rfl, by simpa using hlt⟩
  have hzv : (zeroValue vt).run P w = .ok (V.val V.zero) w := by
    cases hi : P.info? vt with
    | none => rw [hi] at hz; cases hz
    | some i =>
      rw [hi] at hz
      simp only [Option.bind_some] at hz
      simp [zeroValue, typeInfo, hi, hz]
  unfold findV at fin
  cases hf : findL q k l 0 with
  | none =>
    rw [hf] at hfk fin
    have hr : (execOp a.eval ⟨some d, .mapEntry t x y, ty, pos, af, none⟩).run P w = .ok (.value (.tuple #[V.val V.zero, .int .i64 c])) { w with heap := w.heap.setIfInBounds b (.map (es.push { key := E.val k, val := V.val V.zero, born := c }) (c + 1)) } := by
      simp [execOp, Instr.mapEntry, hx.eval rfl G.fo, hy.eval rfl G.fo, hru, hgo, hck, hfk, hso, hzv, goInt]
    rw [hr]
    refine fin c _ ⟨_, _, es.size, rfl, hB.push _ _, ⟨{ key := E.val k, val := V.val V.zero, born := c }, by simp, rfl⟩, fun v => ?_, by rw [Array.toList_push]; exact (ents_put hk.iff k V.zero es.toList l 0 h2).2 hf c⟩ _ (by simp)
    have := (ents_put hk.iff k v es.toList l 0 h2).2 hf c
    rw [Array.toList_push]
    have e1 : es.size = es.toList.length := by simp
    rw [e1, modify_end]
    exact this
  | some jp =>
    obtain ⟨j, u⟩ := jp
    rw [hf] at hfk fin
    obtain ⟨⟨e, k1, k2⟩, _⟩ := (ents_put hk.iff k V.zero es.toList l 0 h2).1 j u hf
    rw [Nat.sub_zero] at k1
    have k1' : es[j]? = some e := by simpa using k1
    have hke : ((es[j]?).map (·.key)).getD (E.val k) = E.val k := by rw [k1']; exact k2
    have hkt : (Instr.keyThatStays (E.val k) (E.val k)).run P w = .ok (E.val k) w := by
      simp [Instr.keyThatStays, hk.bits k]
    have hr : (execOp a.eval ⟨some d, .mapEntry t x y, ty, pos, af, none⟩).run P w = .ok (.value (.tuple #[V.val u, .int .i64 e.born])) { w with heap := w.heap.setIfInBounds b (.map (es.modify j fun e => { e with key := E.val k }) c) } := by
      rw [k1'] at hke
      have hke' : e.key = E.val k := k2
      simp [execOp, Instr.mapEntry, hx.eval rfl G.fo, hy.eval rfl G.fo, hru, hgo, hck, hfk, hso, hke', hkt, goInt, k1']
    rw [hr]
    refine fin e.born (.map (es.modify j fun e => { e with key := E.val k }) c) ⟨_, _, j, rfl, hB.modify _ _ (fun _ => rfl), ⟨{ key := E.val k, val := e.val, born := e.born }, by rw [Array.getElem?_modify, if_pos rfl, k1']; rfl, rfl⟩, fun v => ?_, ?_⟩ (.tuple #[V.val u, .int .i64 e.born]) (by simp)
    · have := entry_put hk.iff k es.toList l 0 h2 j u hf v
      rw [Array.toList_modify]
      exact this
    · rw [Array.toList_modify]
      exact keep_put hk.iff k es.toList l 0 h2 j u hf
theorem findIdx_born : ∀ (es : List MapEntry) (i : Nat) (e : MapEntry), es[i]? = some e → (es.map (·.born)).Nodup → es.findIdx? (fun x => (x.born : Int) == (e.born : Int)) = some i
  | [], i, e, h, _ => by simp at h
  | x :: es, 0, e, h, hn => by
    obtain rfl : x = e := by simpa using h
    simp [List.findIdx?_cons]
  | x :: es, i + 1, e, h, hn => by
    simp only [List.map_cons, List.nodup_cons] at hn
    have h' : es[i]? = some e := by simpa using h
    have : x.born ≠ e.born := fun he => hn.1 (he ▸ List.mem_map.2 ⟨e, List.mem_of_getElem? h', rfl⟩)
    rw [List.findIdx?_cons, findIdx_born es i e h' hn.2]
    have h0 : ((x.born : Int) == (e.born : Int)) = false := by rw [beq_eq_false_iff_ne]; omega
    rw [h0]
    rfl
theorem entryStore {E : Enc α} {V : Enc β} {q : α → α → Bool} {b s : Nat} {l : List (α × β)} {k : α} {v : β} {z : Operand} {L' : List Res}
    (hx : Opd F true x (.map (some b))) (hy : Opd F true y (.int .i64 s)) (hz : Opd F true z (V.val v)) (hU : Upd L (StampR b s E V q k l) (MapR b E V (putL q k v l)) L') (next : Sat K N F L') :
    Sat K (opThen P ops Q ⟨none, .entryStore t x y z, ty, pos, af, none⟩ N) F L := fun a w G => by
  refine opThen_plain rfl ?_
  unfold Oper.wp
  obtain ⟨es, c, i, h1, hB, ⟨e, h3, h4⟩, h5, _⟩ : StampAt w b s E V q k l := (G.inv.own _ hU.mem).1
  have hlt : b < w.heap.size := (Array.getElem?_eq_some_iff.1 h1).1
  have hgo : (getObj b).run P w = .ok (.map es c) w := MapKept.run_getObj_map h1
  have hso : ∀ o, (setObj b o).run P w = .ok () { w with heap := w.heap.setIfInBounds b o } := fun o => MapKept.run_setObj_map o h1
  have hfi : es.findIdx? (fun e => (e.born : Int) == (s : Int)) = some i := by
    have e0 : es.toList.toArray = es := rfl
    rw [← e0, List.findIdx?_toArray, ← h4]
    exact findIdx_born es.toList i e (by simpa using h3) hB.2
  have hr : (execOp a.eval ⟨none, .entryStore t x y z, ty, pos, af, none⟩).run P w = .ok .skip { w with heap := w.heap.setIfInBounds b (.map (es.modify i fun e => { e with val := V.val v }) c) } := by
    have hai : (asInt (.int .i64 (s : Int))).run P w = .ok (s : Int) w := rfl
    simp [execOp, Instr.entryStore, hx.eval rfl G.fo, hy.eval rfl G.fo, hz.eval rfl G.fo, hgo, hso, hai, hfi]
  rw [hr]
  refine next _ _ (G.world (G.inv.upd hU (setIf_keeps w b _) ⟨es.modify i fun e => { e with val := V.val v }, c, by simp [hlt], by rw [Array.toList_modify]; exact h5 v, hB.modify _ _ (fun _ => rfl)⟩ fun k hk => ?_))
  have : k = b := hk
  subst this
  exact ⟨.inl rfl, by simpa using hlt⟩
end
end Go.Gx

/- Part R: calls that turn a thing they were handed; several things as one; closures with a state. -/
namespace Go.Gx
open Go Go.RowKit

section
variable {α β γ : Type} {P : Program}
variable {K : Ctx} {F : Fr} {L : List Res} {g : Bool} {Q : Exit → Act → World → Prop} {N : Act → World → Prop} {ops : Array Oper}
  {op : Op} {ty t t' : TypeId} {pos : String} {af : Array Edge} {d : Nat} {x y : Operand}

/-! ### Two things as one -/
def Sep (r s : Res) : Res where
  foot := fun b => r.foot b ∨ s.foot b
  A := fun w => r.A w ∧ s.A w ∧ r.Disj s
  st := fun w w' h ⟨h1, h2, h3⟩ => ⟨r.st w w' (fun b hb => h b (.inl hb)) h1, s.st w w' (fun b hb => h b (.inr hb)) h2, h3⟩
theorem WInv.sepOut {r s : Res} {w : World} (h : WInv K (Sep r s :: L) w) : WInv K (r :: s :: L) w := by
  obtain ⟨h1, h2, h3⟩ := h
  obtain ⟨⟨a1, a2, a3⟩, a4⟩ := h2 _ List.mem_cons_self
  rw [List.pairwise_cons] at h3
  refine ⟨h1, ?_, ?_⟩
  · intro q hq
    rcases List.mem_cons.1 hq with rfl | hq
    · exact ⟨a1, fun b hb => a4 b (.inl hb)⟩
    rcases List.mem_cons.1 hq with rfl | hq
    · exact ⟨a2, fun b hb => a4 b (.inr hb)⟩
    · exact h2 q (List.mem_cons_of_mem _ hq)
  · refine List.pairwise_cons.2 ⟨?_, List.pairwise_cons.2 ⟨?_, h3.2⟩⟩
    · intro q hq
      rcases List.mem_cons.1 hq with rfl | hq
      · exact a3
      · exact fun b hb hb' => h3.1 q hq b (.inl hb) hb'
    · exact fun q hq b hb hb' => h3.1 q hq b (.inr hb) hb'
theorem WInv.sepIn {r s : Res} {w : World} (h : WInv K (r :: s :: L) w) : WInv K (Sep r s :: L) w := by
  obtain ⟨h1, h2, h3⟩ := h
  rw [List.pairwise_cons, List.pairwise_cons] at h3
  obtain ⟨k1, k2⟩ := h2 r List.mem_cons_self
  obtain ⟨l1, l2⟩ := h2 s (List.mem_cons_of_mem _ List.mem_cons_self)
  refine ⟨h1, ?_, List.pairwise_cons.2 ⟨?_, h3.2.2⟩⟩
  · intro q hq
    rcases List.mem_cons.1 hq with rfl | hq
    · exact ⟨⟨k1, l1, h3.1 s List.mem_cons_self⟩, fun b hb => hb.elim (k2 b) (l2 b)⟩
    · exact h2 q (List.mem_cons_of_mem _ (List.mem_cons_of_mem _ hq))
  · rintro q hq b (hb | hb) hb'
    · exact h3.1 q (List.mem_cons_of_mem _ hq) b hb hb'
    · exact h3.2.1 q hq b hb hb'
theorem WInv.perm {L' : List Res} {w : World} (h : WInv K L w) (hp : L'.Perm L) : WInv K L' w :=
  ⟨h.keeps, fun r hr => h.own r (hp.mem_iff.1 hr), (hp.pairwise_iff (fun {_ _} hd => hd.symm)).2 h.dis⟩
theorem Rem.perm {r : Res} {L L' : List Res} (h : Rem L r L') : (r :: L').Perm L := by
  obtain ⟨A, C, rfl, rfl⟩ := h
  exact List.perm_middle.symm
theorem sepOut {r s : Res} {L' : List Res} {X : Act → World → Prop} (h : Rem L (Sep r s) L') (next : Sat K X F (r :: s :: L')) : Sat K X F L := fun a w G =>
  next a w ⟨G.fo, (G.inv.perm h.perm).sepOut⟩
theorem sepIn {r s : Res} {L1 L' : List Res} {X : Act → World → Prop} (h1 : Rem L r L1) (h2 : Rem L1 s L') (next : Sat K X F (Sep r s :: L')) : Sat K X F L := fun a w G =>
  next a w ⟨G.fo, ((G.inv.perm h1.perm).perm (h2.perm.cons r)).sepIn⟩

/-! ### Calls that turn a thing -/
def RetR {X : Type} (w : World) (r : Res) (J : X → Prop) (val : X → Value) (r' : X → Res) : Ending → World → Prop := fun e w' =>
  ∃ x, J x ∧ e = .returned (val x) ∧ Keeps r.foot w w' ∧ (r' x).A w' ∧ ∀ b, (r' x).foot b → (r.foot b ∨ w.heap.size ≤ b) ∧ b < w'.heap.size
/-- What a function may be entered with: a thing that is there. -/
def At (r : Res) (w : World) : Prop := r.A w ∧ ∀ b, r.foot b → b < w.heap.size
theorem at_mem {r : Res} (h : r ∈ L) (w : World) (I : WInv K L w) : At r w := ⟨(I.own r h).1, fun b hb => ((I.own r h).2 b hb).2⟩
theorem start_at {n : Nat} {r : Res} {w : World} (h : At r w) : WInv ⟨n, w, r.foot⟩ [r] w :=
  ⟨Keeps.refl _ _, fun q hq => by
    obtain rfl := List.mem_singleton.1 hq
    exact ⟨h.1, fun b hb => ⟨.inr hb, h.2 b hb⟩⟩, List.pairwise_singleton _ _⟩
theorem retR {X : Type} {n : Nat} {w0 : World} {L : List Res} {r : Res} {J : X → Prop} {val : X → Value} {r' : X → Res} {v : Value} (x : X) (hJ : J x) (hv : v = val x) (hm : r' x ∈ L) (w : World) (h : WInv ⟨n, w0, r.foot⟩ L w) : RetR w0 r J val r' (.returned v) w :=
  ⟨x, hJ, by rw [hv], h.keeps, (h.own _ hm).1, fun b hb => ⟨((h.own _ hm).2 b hb).1.elim .inr .inl, ((h.own _ hm).2 b hb).2⟩⟩
theorem callr {X : Type} {f : FuncId} {args : List Operand} {ats : Array TypeId} {vs : List Value} {r : Res} {r' : X → Res} {L' : X → List Res} (J : X → Prop) (val : X → Value) (hu : ∀ x, Upd L r (r' x) (L' x)) (hm : r ∈ L) (hen : Enters P f) (hargs : Opds F true args vs)
    (hC : ∀ w, WInv K L w → Calls P f vs.toArray w (RetR w r J val r')) (next : ∀ x, J x → Sat K N ((d, true, val x) :: F) (L' x)) (hd : Nat.blt d K.n = true := by rfl) :
    Sat K (opThen P ops Q ⟨some d, .call { callee := .value (.func f), args := args.toArray, argTypes := ats }, ty, pos, af, none⟩ N) F L :=
  callx J val L' hen hargs (fun w hw => (hC w hw).mono fun e w' ⟨x, hJ, he, hk, ha, hf⟩ => ⟨x, hJ, he, hw.upd (hu x) hk ha hf⟩) next hd
/-- A closure is called; it turns a thing. -/
theorem callcr {X : Type} {f : FuncId} {cap : List Value} {args : List Operand} {ats : Array TypeId} {vs : List Value} {r : Res} {r' : X → Res} {L' : X → List Res} (J : X → Prop) (val : X → Value) (hu : ∀ x, Upd L r (r' x) (L' x)) (hx : Opd F true x (clo f cap).v) (hen : Enters P f) (hargs : Opds F true args vs)
    (hC : ∀ w, WInv K L w → Calls P f (vs ++ cap).toArray w (RetR w r J val r')) (next : ∀ x, J x → Sat K N ((d, true, val x) :: F) (L' x)) (hd : Nat.blt d K.n = true := by rfl) :
    Sat K (opThen P ops Q ⟨some d, .call { callee := .value x, args := args.toArray, argTypes := ats }, ty, pos, af, none⟩ N) F L := fun a w G => by
  refine opThen_plain rfl ?_
  unfold Oper.wp
  rw [exec_callc hx hen hargs rfl G.fo]
  refine (hC w G.inv).mono ?_
  rintro e w' ⟨x, hJ, rfl, hk, ha, hf⟩
  exact next x hJ _ _ (G.put d true (val x) (val x) (by simpa [Nat.blt_eq] using hd) rfl (G.inv.upd (hu x) hk ha hf))
/-- Another's writing has left all but r as it was. -/
theorem WInv.but {r : Res} {L' : List Res} {w w' : World} (h : WInv K L w) (hr : Rem L r L') (k : Keeps r.foot w w') : WInv K L' w' := by
  have h' := h.perm hr.perm
  obtain ⟨h1, h2, h3⟩ := h'
  rw [List.pairwise_cons] at h3
  have hf := (h2 r List.mem_cons_self).2
  refine ⟨h1.trans' k (fun i hi hm => ?_), fun q hq => ?_, h3.2⟩
  · rcases (hf i hm).1 with g | g
    · omega
    · exact g
  · obtain ⟨a, b⟩ := h2 q (List.mem_cons_of_mem _ hq)
    exact ⟨q.st w w' (fun i hi => k.block i (b i hi).2 (fun hm => h3.1 q hq i hm hi)) a, fun i hi => ⟨(b i hi).1, Nat.lt_of_lt_of_le (b i hi).2 k.size⟩⟩
/-! ### Functions that are handed in -/
/-- f, with what it has captured, answers g x for x, in every world that is w0 but for M. -/
def FnAt (P : Program) (f : FuncId) (cap : List Value) (M : Nat → Prop) (w0 : World) (E : Enc α) (E' : Enc β) (D : α → Prop) (g : α → β) : Prop :=
  ∀ x w', D x → Keeps M w0 w' → Calls P f (E.val x :: cap).toArray w' (RetV w' (E'.val (g x)))
theorem FnAt.call {f : FuncId} {cap : List Value} {E : Enc α} {E' : Enc β} {D : α → Prop} {g : α → β} (h : FnAt P f cap K.M K.w0 E E' D g) {x : α} (hD : D x) (w : World) (I : WInv K L w) : Calls P f ([E.val x] ++ cap).toArray w (RetV w (E'.val (g x))) := h x w hD I.keeps
/-- The same of two arguments. -/
def FnAt2 (P : Program) (f : FuncId) (cap : List Value) (M : Nat → Prop) (w0 : World) (E : Enc α) (E' : Enc γ) (E'' : Enc β) (D : α → γ → Prop) (g : α → γ → β) : Prop :=
  ∀ x y w', D x y → Keeps M w0 w' → Calls P f (E.val x :: E'.val y :: cap).toArray w' (RetV w' (E''.val (g x y)))
theorem FnAt2.call {f : FuncId} {cap : List Value} {E : Enc α} {E' : Enc γ} {E'' : Enc β} {D : α → γ → Prop} {g : α → γ → β} (h : FnAt2 P f cap K.M K.w0 E E' E'' D g) {x : α} {y : γ} (hD : D x y) (w : World) (I : WInv K L w) : Calls P f ([E.val x, E'.val y] ++ cap).toArray w (RetV w (E''.val (g x y))) := h x y w hD I.keeps
/-- f takes x into a state S. -/
def TellAt {σ : Type} (P : Program) (f : FuncId) (cap : List Value) (M : Nat → Prop) (w0 : World) (E : Enc α) (S : σ → Res) (J : α → σ → σ → Prop) : Prop :=
  ∀ x s w', Keeps M w0 w' → At (S s) w' → Calls P f (E.val x :: cap).toArray w' (RetR w' (S s) (J x s) (fun _ => .tuple #[]) S)
theorem TellAt.call {σ : Type} {f : FuncId} {cap : List Value} {E : Enc α} {S : σ → Res} {J : α → σ → σ → Prop} (h : TellAt P f cap K.M K.w0 E S J) {x : α} {s : σ} (hm : S s ∈ L) (w : World) (I : WInv K L w) : Calls P f ([E.val x] ++ cap).toArray w (RetR w (S s) (J x s) (fun _ => .tuple #[]) S) := h x s w I.keeps (at_mem hm w I)
/-! ### A slice held against nil -/
theorem Ev.eql_slnil {e : TypeId} {a : Option Addr} {n cap : Nat} (ht : P.underlying t = some (.slice e)) (hx : Opd F g x (.slice a n cap)) (hy : Opd F g y (.slice none 0 0)) : Ev P K F L g (.binOp .eql t x y t') ty (.bool a.isNone) := fun hg ac G w _ dst pos af gd => by
  have hru : (underlying t).run P w = .ok (.slice e) w := by simp [underlying, ht]
  have hg1 : (eqGuard .eql t x y (.slice a n cap) (.slice none 0 0)).run P w = .ok () w := by
    unfold eqGuard
    rfl
  have hE : ∀ d : Nat, (Op.equalIn (d + 1) t (.slice a n cap) (.slice none 0 0)).run P w = .ok a.isNone w := fun d => by
    unfold Op.equalIn
    rw [Sem.run_bind, hru]
    cases a <;> rfl
  have he : (Op.equal t (.slice a n cap) (.slice none 0 0)).run P w = .ok a.isNone w := hE 9999
  have hb : (binOp .eql t (.slice a n cap) (.slice none 0 0)).run P w = .ok (.bool a.isNone) w := by
    have e1 : binOp .eql t (.slice a n cap) (.slice none 0 0) = (do pure (.bool (← Op.equal t (.slice a n cap) (.slice none 0 0)))) := by cases a <;> rfl
    rw [e1]
    simp only [Sem.run_bind, he, Result.andThen_ok, Sem.run_pure]
  simp only [execOp, hx.eval hg G, hy.eval hg G, Sem.run_bind, hg1, hb, Result.andThen_ok, Sem.run_pure]
end
end Go.Gx

/- Part T: cells of one row that are moved within it. -/
namespace Go.Gx
open Go Go.RowKit

section
variable {α β γ : Type} {P : Program}
variable {K : Ctx} {F : Fr} {L : List Res} {g : Bool} {Q : Exit → Act → World → Prop} {N : Act → World → Prop} {ops : Array Oper}
  {op : Op} {ty t t' : TypeId} {pos : String} {af : Array Edge} {d : Nat} {x y : Operand}

theorem splice_take {α : Type} (C R : List α) (a B : Nat) (h : a + R.length ≤ B) (hB : B ≤ C.length) : (C.take a ++ R ++ C.drop (a + R.length)).take B = (C.take B).take a ++ R ++ (C.take B).drop (a + R.length) := by
  apply List.ext_getElem?
  intro j
  simp only [List.getElem?_take, List.getElem?_append, List.length_append, List.length_take, List.length_drop, List.getElem?_drop]
  repeat' split
  all_goals first | omega | rfl | (congr 1; omega) | (rw [List.getElem?_eq_none (by omega)]) | (exact List.getElem?_eq_none (by omega))
/-- Some elements of an own row written over. -/
theorem own_splice {w : World} {E : Enc α} {xs ys : List α} {T : TypeId} {k gb cap : Nat} {cur : Array Value} (hg : w.heap[gb]? = some (.cells cur T (0, 0))) (hnc : xs.length ≤ cap) (hcm : cap ≤ maxLen) (hcs : cur.size = cap * E.size)
    (htake : cur.toList.take (xs.length * E.size) = E.row xs) (hk : k + ys.length ≤ xs.length) :
    (OwnS (.slice (some ⟨gb, 0, none⟩) xs.length cap) E (xs.take k ++ ys ++ xs.drop (k + ys.length)) T).A (w.setRow gb (cur.toList.take (k * E.size) ++ E.row ys ++ cur.toList.drop (k * E.size + (E.row ys).length)).toArray) := by
  have hl : (xs.take k ++ ys ++ xs.drop (k + ys.length)).length = xs.length := by simp; omega
  have hr : (E.row ys).length = ys.length * E.size := E.row_length _
  have hkk : k * E.size + ys.length * E.size ≤ xs.length * E.size := by rw [← Nat.add_mul]; exact Nat.mul_le_mul_right _ hk
  have hcap : xs.length * E.size ≤ cap * E.size := Nat.mul_le_mul_right _ hnc
  refine ⟨E.row_length _, .inr ⟨gb, cap, _, by rw [hl], Nat.zero_le _, setRow_heap w gb cur _ T _ hg, by rw [hl]; exact hnc, hcm, ?_, ?_⟩⟩
  · simp only [List.size_toArray, List.length_append, List.length_take, List.length_drop, Array.length_toList]
    omega
  · rw [hl]
    show List.take _ (_ ++ _ ++ _) = _
    rw [splice_take _ _ _ _ (by rw [hr]; exact hkk) (by have e1 : cur.toList.length = cur.size := rfl; omega), htake, E.row_append, E.row_append, ← E.row_take, ← E.row_drop, hr, Nat.add_mul]
/-- 'append(s[:k], s[l:]...)' of a slice of one's own: nothing new is made. -/
theorem appendCut {E : Enc α} {v : Value} {xs : List α} {T : TypeId} {k l : Nat} {L' : List Res} (ht : P.underlying t = some (.slice T)) (TT : TyOK P T E)
    (hx : Opd F true x (subS E.size v 0 k)) (hy : Opd F true y (subS E.size v l xs.length)) (hu : Upd L (OwnS v E xs T) (OwnS v E (xs.take k ++ xs.drop l ++ xs.drop (k + (xs.length - l))) T) L') (hk : k ≤ l ∧ l ≤ xs.length)
    (next : Sat K N ((d, true, subS E.size v 0 (k + (xs.length - l))) :: F) L') (hd : Nat.blt d K.n = true := by rfl) :
    Sat K (opThen P ops Q ⟨some d, .call { callee := .builtin .append, args := #[x, y], argTypes := #[t, t] }, ty, pos, af, none⟩ N) F L := fun a w G => by
  refine opThen_plain rfl ?_
  unfold Oper.wp
  have hown0 : w.ownsRow 0 T E.size v xs.length (E.row xs) := (G.inv.own _ hu.mem).1
  have hlt := hown0.lt
  have hd' : d < K.n := by simpa [Nat.blt_eq] using hd
  have hsl : IsSl E w v xs := IsSl.of_own (G.inv.own _ hu.mem).1
  have hsrc := hsl.sub (l := l) (k := xs.length) hk.2 (Nat.le_refl _)
  rw [List.take_length] at hsrc
  obtain ⟨i, hi, hes⟩ := TT.sz
  rcases hown0.2 with ⟨rfl, hn0⟩ | ⟨gb, cap, cur, rfl, hbg, hg, hnc, hcm, hcs, htake⟩
  · have hxs : xs = [] := List.eq_nil_of_length_eq_zero hn0
    subst hxs
    have hl0 : l = 0 := by simpa using hk.2
    subst hl0
    have hk0 : k = 0 := by omega
    subst hk0
    have he : (execOp a.eval ⟨some d, .call { callee := .builtin .append, args := #[x, y], argTypes := #[t, t] }, ty, pos, af, none⟩).run P w = .ok (.value (.slice none 0 0)) w := by
      have h1 := hx.eval rfl G.fo
      have h2 := hy.eval rfl G.fo
      simp only [subS, List.length_nil] at h1 h2
      simp [execOp, resolve, invoke, builtin, h1, h2, Builtin.append_, run_underlying ht, sizeOf, typeInfo, hi, Builtin.lenOf, Builtin.firstCells, loadCells, loadCellsFrom]
    rw [he]
    have hL : L' = L := by
      obtain ⟨A, C, rfl, rfl⟩ := hu
      simp
    rw [hL] at next
    exact next _ _ (G.put d true _ _ hd' rfl G.inv)
  · obtain ⟨a2, c2, e2, h1, h2, h3, h4⟩ := hsrc
    have hyl : (E.row (xs.drop l)).length = (xs.length - l) * i.size := by rw [E.row_length, hes, List.length_drop]
    have hroom : k + (xs.length - l) ≤ cap := by omega
    have hfit : k * i.size + (E.row (xs.drop l)).length ≤ cur.size := by rw [hyl, hcs, ← hes, ← Nat.add_mul]; exact Nat.mul_le_mul_right _ hroom
    have ha2 : ∃ p, a2 = some p := by
      simp only [subS] at e2
      split at e2 <;> exact ⟨_, (Value.slice.inj e2).1.symm⟩
    obtain ⟨p, rfl⟩ := ha2
    have hnews : ∀ j u, (E.row (xs.drop l))[j]? = some u → w.cell? (p.add j) = some u := fun j u hu => by
      have hne : xs.drop l ≠ [] := fun e => by rw [e] at hu; simp [Enc.row] at hu
      obtain ⟨hps, hpc⟩ := h4 p rfl
      obtain ⟨pb, po, ps⟩ := p
      have h := hps hne
      simp only at h
      subst h
      rw [addr_add]
      exact hpc j u hu
    have hr := run_append_room (P := P) w t ty T i ht hi gb k cap cur hg p (xs.length - l) c2 (E.row (xs.drop l)) hyl hnews (E.row_oneCell _) hroom hfit
    have ek : subS E.size (.slice (some ⟨gb, 0, none⟩) xs.length cap) 0 k = .slice (some ⟨gb, 0, none⟩) k cap := by
      unfold subS
      split <;> simp_all [Addr.add]
    have ek2 : subS E.size (.slice (some ⟨gb, 0, none⟩) xs.length cap) 0 (k + (xs.length - l)) = .slice (some ⟨gb, 0, none⟩) (k + (xs.length - l)) cap := by
      unfold subS
      split <;> simp_all [Addr.add]
    have e3 : subS E.size (.slice (some ⟨gb, 0, none⟩) xs.length cap) l xs.length = .slice (some p) (xs.length - l) c2 := by
      rw [e2, List.length_drop]
    rw [ek] at hx
    rw [e3] at hy
    rw [ek2] at next
    have he : (execOp a.eval ⟨some d, .call { callee := .builtin .append, args := #[x, y], argTypes := #[t, t] }, ty, pos, af, none⟩).run P w = .ok (.value (.slice (some ⟨gb, 0, none⟩) (k + (xs.length - l)) cap)) (w.setRow gb (cur.toList.take (k * i.size) ++ E.row (xs.drop l) ++ cur.toList.drop (k * i.size + (E.row (xs.drop l)).length)).toArray) := by
      simp [execOp, resolve, invoke, builtin, hx.eval rfl G.fo, hy.eval rfl G.fo, hr]
    rw [hes] at he
    rw [he]
    have hsp := own_splice (ys := xs.drop l) (k := k) hg hnc hcm hcs htake (by rw [List.length_drop]; omega)
    rw [List.length_drop] at hsp
    refine next _ _ (G.put d true _ _ hd' rfl (G.inv.upd hu ((setRow_keeps _ _ _).mono (fun q hq => ?_)) hsp ?_))
    · subst hq; rfl
    · intro b hb
      exact ⟨.inl hb, by simpa using (hlt b hb).2⟩
/-- 's[l:k:m]': its bounds. -/
def sub3 (size : Nat) (v : Value) (l h m : Nat) : Value :=
  match v with
  | .slice a _ _ => .slice (if m = l then a else a.map (·.add (l * size))) (h - l) (m - l)
  | v => v
theorem Ev.slice3 {E : Enc α} {v : Value} {xs : List α} {e : TypeId} {lo hi mx : Operand} {l k m : Int} (ht : P.underlying t = some (.slice e)) (T : TyOK P e E) (hx : Opd F g x v) (hlo : Opd F g lo (I l)) (hhi : Opd F g hi (I k)) (hmx : Opd F g mx (I m))
    (h : ∀ w, WInv K L w → IsSl E w v xs) (hb : g = true → 0 ≤ l ∧ l ≤ k ∧ k ≤ m ∧ m ≤ xs.length) : Ev P K F L g (.slice t x (some lo) (some hi) (some mx)) ty (sub3 E.size v l.toNat k.toNat m.toNat) := fun hg a G w hw dst pos af gd => by
  obtain ⟨b, cap, rfl, h1, _, _⟩ := h w hw
  obtain ⟨h2, h3, h4, h5⟩ := hb hg
  have hu : (underlying t).run P w = .ok (.slice e) w := by simp [underlying, ht]
  obtain ⟨l, rfl⟩ := Int.eq_ofNat_of_zero_le h2
  obtain ⟨k, rfl⟩ := Int.eq_ofNat_of_zero_le (Int.le_trans h2 h3)
  obtain ⟨m, rfl⟩ := Int.eq_ofNat_of_zero_le (Int.le_trans (Int.le_trans h2 h3) h4)
  have h6 : m ≤ cap := by omega
  have h7 : l ≤ k := by omega
  have h8 : k ≤ m := by omega
  simp [execOp, Instr.sliceAt, hu, Instr.slice, Instr.sliceBounds, Instr.sliceBound, asIntOf, hx.eval hg G, hlo.eval hg G, hhi.eval hg G, hmx.eval hg G, I, h6, h7, h8, run_sizeOf T, sub3]
/-- 's[:n][l:k]', up to the whole of s. -/
theorem Ev.sliceUp2 {E : Enc α} {v : Value} {xs : List α} {e : TypeId} {lo hi : Operand} {l k : Int} {n : Nat} (ht : P.underlying t = some (.slice e)) (T : TyOK P e E) (hx : Opd F g x (subS E.size v 0 n)) (hlo : Opd F g lo (I l)) (hhi : Opd F g hi (I k))
    (h : ∀ w, WInv K L w → IsSl E w v xs) (hb : g = true → 0 ≤ l ∧ l ≤ k ∧ k ≤ xs.length) : Ev P K F L g (.slice t x (some lo) (some hi) none) ty (subS E.size v l.toNat k.toNat) := fun hg a G w hw dst pos af gd => by
  obtain ⟨b, cap, rfl, h1, _, _⟩ := h w hw
  obtain ⟨h2, h3, h4⟩ := hb hg
  have hu : (underlying t).run P w = .ok (.slice e) w := by simp [underlying, ht]
  obtain ⟨l, rfl⟩ := Int.eq_ofNat_of_zero_le h2
  obtain ⟨k, rfl⟩ := Int.eq_ofNat_of_zero_le (Int.le_trans h2 h3)
  have h5 : k ≤ cap := by omega
  have h6 : l ≤ k := by omega
  have h7 := hx.eval hg G
  simp only [subS, Nat.sub_zero, Nat.zero_mul] at h7
  simp [execOp, Instr.sliceAt, hu, Instr.slice, Instr.sliceBounds, Instr.sliceBound, asIntOf, h7, hlo.eval hg G, hhi.eval hg G, I, h5, h6, run_sizeOf T, subS]
  cases b <;> simp [Addr.add]
/-- 'clear(s[l:k])', s a slice of one's own. -/
theorem clearO {E : Enc α} {v : Value} {xs : List α} {T : TypeId} {l k : Nat} {L' : List Res} (ht : P.underlying t = some (.slice T)) (hz : (P.info? T).bind (·.zero) = some (E.val E.zero)) (hsz : Nat.blt 0 E.size = true)
    (hx : Opd F true x (subS E.size v l k)) (hu : Upd L (OwnS v E xs T) (OwnS v E (xs.take l ++ List.replicate (k - l) E.zero ++ xs.drop k) T) L') (hk : l ≤ k ∧ k ≤ xs.length) (next : Sat K N F L') :
    Sat K (opThen P ops Q ⟨none, .call { callee := .builtin .clear, args := #[x], argTypes := #[t] }, ty, pos, af, none⟩ N) F L := fun a w G => by
  refine opThen_plain rfl ?_
  unfold Oper.wp
  have hown0 : w.ownsRow 0 T E.size v xs.length (E.row xs) := (G.inv.own _ hu.mem).1
  have hlt := hown0.lt
  have hsz' : 0 < E.size := by simpa [Nat.blt_eq] using hsz
  have hzv : (zeroValue T).run P w = .ok (E.val E.zero) w := by
    cases hi : P.info? T with
    | none => rw [hi] at hz; cases hz
    | some i =>
      rw [hi] at hz
      simp only [Option.bind_some] at hz
      simp [zeroValue, typeInfo, hi, hz]
  have same : l = k → L' = L := fun e => by
    obtain ⟨A, C, rfl, rfl⟩ := hu
    subst e
    simp
  have h1 := hx.eval rfl G.fo
  rcases hown0.2 with ⟨rfl, hn0⟩ | ⟨gb, cap, cur, rfl, hbg, hg, hnc, hcm, hcs, htake⟩
  · have hxs : xs = [] := List.eq_nil_of_length_eq_zero hn0
    subst hxs
    have hk0 : k = 0 := by simpa using hk.2
    subst hk0
    have hl0 : l = 0 := by omega
    subst hl0
    have he : (execOp a.eval ⟨none, .call { callee := .builtin .clear, args := #[x], argTypes := #[t] }, ty, pos, af, none⟩).run P w = .ok (.value (.tuple #[])) w := by
      simp only [subS] at h1
      simp [execOp, resolve, invoke, builtin, h1, Builtin.clear_, run_underlying ht]
    rw [he]
    rw [same rfl] at next
    exact next _ _ G
  · by_cases hlk : l = k
    · have he : (execOp a.eval ⟨none, .call { callee := .builtin .clear, args := #[x], argTypes := #[t] }, ty, pos, af, none⟩).run P w = .ok (.value (.tuple #[])) w := by
        subst hlk
        simp only [subS, Nat.sub_self] at h1
        by_cases hc : cap = l
        · rw [if_pos hc] at h1
          simp [execOp, resolve, invoke, builtin, h1, Builtin.clear_, run_underlying ht]
        · rw [if_neg hc] at h1
          simp [execOp, resolve, invoke, builtin, h1, Builtin.clear_, run_underlying ht]
      rw [he]
      rw [same hlk] at next
      exact next _ _ G
    · have hc : ¬ cap = l := by omega
      have e1 : subS E.size (.slice (some ⟨gb, 0, none⟩) xs.length cap) l k = .slice (some ⟨gb, l * E.size, none⟩) (k - l) (cap - l) := by
        show Value.slice (if cap = l then _ else _) _ _ = _
        rw [if_neg hc, Option.map_some, addr_add, Nat.zero_add]
      rw [e1] at h1
      have hfit : l * E.size + 0 + (E.row (List.replicate (k - l) E.zero)).length ≤ cur.size := by
        rw [E.row_length, List.length_replicate, hcs, Nat.add_zero, ← Nat.add_mul]
        exact Nat.mul_le_mul_right _ (by omega)
      have hst := run_storeCells_at P gb (l * E.size) T (E.row (List.replicate (k - l) E.zero)) 0 cur w hg hfit (E.row_oneCell _)
      simp only [Nat.add_zero] at hst
      have hzc : (Builtin.zeroCells (E.val E.zero).cells (k - l)).toList = E.row (List.replicate (k - l) E.zero) := by
        have : (E.val E.zero).cells.size = E.size := by rw [Enc.cells_val, List.size_toArray, Enc.len]
        show (madeCells (E.val E.zero).cells ((k - l) * (E.val E.zero).cells.size)).toList = _
        rw [this]
        exact made_toList E E.zero (k - l) hsz'
      have hkl : ∃ q, k - l = q + 1 := ⟨k - l - 1, by omega⟩
      have he : (execOp a.eval ⟨none, .call { callee := .builtin .clear, args := #[x], argTypes := #[t] }, ty, pos, af, none⟩).run P w = .ok (.value (.tuple #[])) (w.setRow gb (cur.toList.take (l * E.size) ++ E.row (List.replicate (k - l) E.zero) ++ cur.toList.drop (l * E.size + (E.row (List.replicate (k - l) E.zero)).length)).toArray) := by
        obtain ⟨q, hq⟩ := hkl
        rw [hq] at h1 hst hzc ⊢
        simp [execOp, resolve, invoke, builtin, h1, Builtin.clear_, run_underlying ht, hzv, hzc, hst]
      rw [he]
      have hsp := own_splice (ys := List.replicate (k - l) E.zero) (k := l) hg hnc hcm hcs htake (by rw [List.length_replicate]; omega)
      rw [List.length_replicate] at hsp
      have e2 : l + (k - l) = k := by omega
      rw [e2] at hsp
      refine next _ _ (G.world (G.inv.upd hu ((setRow_keeps _ _ _).mono (fun q hq => ?_)) hsp ?_))
      · subst hq; rfl
      · intro b hb
        exact ⟨.inl hb, by simpa using (hlt b hb).2⟩
/-- What of a slice needs no world. -/
def Shq (v : Value) (n : Nat) : Prop := ∃ a cap, v = .slice a n cap ∧ n ≤ cap
theorem IsSl.shq {E : Enc α} {w : World} {v : Value} {xs : List α} (h : IsSl E w v xs) : Shq v xs.length := by
  obtain ⟨a, cap, e, h1, _⟩ := h
  exact ⟨a, cap, e, h1⟩
theorem Ev.sliceHS {E : Enc α} {v : Value} {e n : Nat} {hi : Operand} {k : Int} (ht : P.underlying t = some (.slice e)) (T : TyOK P e E) (hx : Opd F g x v) (hhi : Opd F g hi (I k)) (h : Shq v n) (hb : g = true → 0 ≤ k ∧ k ≤ n) :
    Ev P K F L g (.slice t x none (some hi) none) ty (subS E.size v 0 k.toNat) := fun hg a G w hw dst pos af gd => by
  obtain ⟨b, cap, rfl, h1⟩ := h
  obtain ⟨h2, h3⟩ := hb hg
  have hu : (underlying t).run P w = .ok (.slice e) w := by simp [underlying, ht]
  have h5 : 0 ≤ k ∧ k ≤ (cap : Int) := by omega
  simp [execOp, Instr.sliceAt, hu, Instr.slice, Instr.sliceBounds, Instr.sliceBound, asIntOf, hx.eval hg G, hhi.eval hg G, I, h5, run_sizeOf T, subS]
theorem Ev.sliceLS {E : Enc α} {v : Value} {e n : Nat} {lo : Operand} {l : Int} (ht : P.underlying t = some (.slice e)) (T : TyOK P e E) (hx : Opd F g x v) (hlo : Opd F g lo (I l)) (h : Shq v n) (hb : g = true → 0 ≤ l ∧ l ≤ n) :
    Ev P K F L g (.slice t x (some lo) none none) ty (subS E.size v l.toNat n) := fun hg a G w hw dst pos af gd => by
  obtain ⟨b, cap, rfl, h1⟩ := h
  obtain ⟨h2, h3⟩ := hb hg
  have hu : (underlying t).run P w = .ok (.slice e) w := by simp [underlying, ht]
  have h5 : 0 ≤ l ∧ l ≤ (n : Int) := by omega
  simp [execOp, Instr.sliceAt, hu, Instr.slice, Instr.sliceBounds, Instr.sliceBound, asIntOf, hx.eval hg G, hlo.eval hg G, I, h5, run_sizeOf T, subS]
end
end Go.Gx

/- Part U: a range over a string. -/
namespace Go.Gx
open Go Go.RowKit

section
variable {α β γ : Type} {P : Program}
variable {K : Ctx} {F : Fr} {L : List Res} {g : Bool} {Q : Exit → Act → World → Prop} {N : Act → World → Prop} {ops : Array Oper}
  {op : Op} {ty t t' : TypeId} {pos : String} {af : Array Edge} {d : Nat} {x y : Operand}

/-- What stands at or above 128 is told as something at or above 128. -/
theorem decode_high (s : ByteArray) (i : Nat) (h : 128 ≤ (s.get! i).toNat) : 128 ≤ (Utf8.decode s i).1 := by
  unfold Utf8.decode
  simp only [Nat.add_zero]
  rw [if_neg (by omega)]
  split
  · split <;> first | (simp only; omega) | (simp [Utf8.runeError])
  split
  · split
    · rename_i hc
      simp only [Bool.and_eq_true, decide_eq_true_eq] at hc
      simp only
      omega
    · simp [Utf8.runeError]
  split
  · split
    · rename_i hc
      simp only [Bool.and_eq_true, decide_eq_true_eq] at hc
      simp only
      omega
    · simp [Utf8.runeError]
  · simp [Utf8.runeError]
def StrIt (r : Nat) (s : ByteArray) (p : Nat) : Res where
  foot := fun k => k = r
  A := fun w => w.heap[r]? = some (.stringIter s p)
  st := fun w w' h h1 => by rw [h r rfl]; exact h1
theorem startRangeS {s : ByteArray} (ht : P.underlying t = some .string) (hx : Opd F true x (.string s)) (next : ∀ r, Sat K N ((d, true, .pointer (some ⟨r, 0, none⟩)) :: F) (StrIt r s 0 :: L)) (hd : Nat.blt d K.n = true := by rfl) :
    Sat K (opThen P ops Q ⟨some d, .range t x, ty, pos, af, none⟩ N) F L := fun a w G => by
  refine opThen_plain rfl ?_
  unfold Oper.wp
  have hru : (underlying t).run P w = .ok .string w := by simp [underlying, ht]
  have hr : (execOp a.eval ⟨some d, .range t x, ty, pos, af, none⟩).run P w = .ok (.value (.pointer (some ⟨w.heap.size, 0, none⟩))) { w with heap := w.heap.push (.stringIter s 0) } := by
    simp [execOp, Instr.range, hx.eval rfl G.fo, hru]
  rw [hr]
  refine next w.heap.size _ _ (G.put d true _ _ (by simpa [Nat.blt_eq] using hd) rfl (G.inv.add (Keeps.alloc _ _ _) ?_ ?_))
  · show _ = _
    simp
  · intro b hb
    have : b = w.heap.size := hb
    subst this
    simp
theorem nextStr {r p : Nat} {s : ByteArray} {L' : Nat → List Res} (hx : Opd F true x (.pointer (some ⟨r, 0, none⟩))) (hU : ∀ q, Upd L (StrIt r s p) (StrIt r s q) (L' q))
    (nil : ¬ p < s.size → Sat K N ((d, true, .tuple #[.bool false]) :: F) (L' p))
    (next : p < s.size → Sat K N ((d, true, .tuple #[.bool true, I p, .int .i32 (Utf8.decode s p).1]) :: F) (L' (p + (Utf8.decode s p).2))) (hd : Nat.blt d K.n = true := by rfl) :
    Sat K (opThen P ops Q ⟨some d, .next x true, ty, pos, af, none⟩ N) F L := fun a w G => by
  refine opThen_plain rfl ?_
  unfold Oper.wp
  have h1 : w.heap[r]? = some (.stringIter s p) := (G.inv.own _ (hU p).mem).1
  have hlt : r < w.heap.size := (Array.getElem?_eq_some_iff.1 h1).1
  have hd' : d < K.n := by simpa [Nat.blt_eq] using hd
  have hgo : (getObj r).run P w = .ok (.stringIter s p) w := by simp [getObj, Sem.run, h1]
  have hso : ∀ o, (setObj r o).run P w = .ok () { w with heap := w.heap.setIfInBounds r o } := fun o => by simp [setObj, Sem.run, h1]
  by_cases hp : p < s.size
  · have hr : (execOp a.eval ⟨some d, .next x true, ty, pos, af, none⟩).run P w = .ok (.value (.tuple #[.bool true, I p, .int .i32 (Utf8.decode s p).1])) { w with heap := w.heap.setIfInBounds r (.stringIter s (p + (Utf8.decode s p).2)) } := by
      simp [execOp, Instr.next, hx.eval rfl G.fo, hgo, hp, hso, goInt, I]
    rw [hr]
    refine next hp _ _ (G.put d true _ _ hd' rfl (G.inv.upd (hU _) (setIf_keeps w r _) ?_ ?_))
    · show _ = _
      simp [hlt]
    · intro k hk
      have : k = r := hk
      subst this
      exact ⟨.inl rfl, by simpa using hlt⟩
  · have hr : (execOp a.eval ⟨some d, .next x true, ty, pos, af, none⟩).run P w = .ok (.value (.tuple #[.bool false])) w := by
      simp [execOp, Instr.next, hx.eval rfl G.fo, hgo, hp]
    rw [hr]
    refine nil hp _ _ (G.put d true _ _ hd' rfl (G.inv.upd (hU p) (Keeps.refl _ _) h1 ?_))
    intro k hk
    have : k = r := hk
    subst this
    exact ⟨.inl rfl, hlt⟩
theorem Ev.eql_i32 {m n : Int} (hx : Opd F g x (.int .i32 m)) (hy : Opd F g y (.int .i32 n)) : Ev P K F L g (.binOp .eql t x y t') ty (.bool (decide (m = n))) :=
  Ev.bini hx hy (run_cmp (by unfold Op.intCmp; rfl) (.inl rfl))
theorem Ev.leq_i32 {m n : Int} (hx : Opd F g x (.int .i32 m)) (hy : Opd F g y (.int .i32 n)) : Ev P K F L g (.binOp .leq t x y t') ty (.bool (decide (m ≤ n))) :=
  Ev.bini hx hy (run_cmp rfl (.inr (.inr (.inr (.inl rfl)))))
theorem Ev.geq_i32 {m n : Int} (hx : Opd F g x (.int .i32 m)) (hy : Opd F g y (.int .i32 n)) : Ev P K F L g (.binOp .geq t x y t') ty (.bool (decide (n ≤ m))) :=
  Ev.bini hx hy (run_cmp rfl (.inr (.inr (.inr (.inr (.inr rfl))))))
theorem Ev.lenS {s : ByteArray} (ht : P.underlying t = some .string) (hx : Opd F g x (.string s)) : Ev P K F L g (.call { callee := .builtin .len, args := #[x], argTypes := #[t] }) ty (I s.size) := fun hg a G w _ dst pos af gd => by
  have hru : (underlying t).run P w = .ok .string w := by simp [underlying, ht]
  simp [execOp, resolve, invoke, builtin, Builtin.len_, hx.eval hg G, hru, goInt, I]
end
end Go.Gx

/- Part V: closures with things bound ahead of their arguments (method values); bits of numbers that are not below zero. -/
namespace Go.Gx
open Go Go.RowKit

section
variable {α β γ : Type} {P : Program}
variable {K : Ctx} {F : Fr} {L : List Res} {g : Bool} {Q : Exit → Act → World → Prop} {N : Act → World → Prop} {ops : Array Oper}
  {op : Op} {ty t t' : TypeId} {pos : String} {af : Array Edge} {d : Nat} {x y : Operand}

def bnd (f : FuncId) (fst cap : List Value) : OV := ⟨.func (.func f) fst.toArray cap.toArray, rfl⟩
theorem Ev.makeBound {f : FuncId} {fs caps : List Operand} {us vs : List Value} (h1 : Opds F g fs us) (h : Opds F g caps vs) : Ev P K F L g (.makeFunc (.func f) fs.toArray caps.toArray) ty (bnd f us vs).v := fun hg a G w hw dst pos af gd => by
  have e1 := h1.eval hg G
  have e2 := h.eval hg G
  simp [execOp, Instr.makeFunc, bnd, e1, e2]
theorem exec_callb {f : FuncId} {fst cap : List Value} {args : List Operand} {ats : Array TypeId} {vs : List Value} (hx : Opd F g x (bnd f fst cap).v) (hen : Enters P f) (hargs : Opds F g args vs) (hg : g = true) {a : Act} (G : FrOK K F a) (w : World) {dst : Option Tmp} {gd : Option (Nat × Bool)} :
    (execOp a.eval ⟨dst, .call { callee := .value x, args := args.toArray, argTypes := ats }, ty, pos, af, gd⟩).run P w = .ok (.enter f (fst ++ vs ++ cap).toArray) w := by
  have h1 := hargs.eval hg G
  have h2 := hx.eval hg G
  have h3 : (bnd f fst cap).v = .func (.func f) fst.toArray cap.toArray := rfl
  rw [h3] at h2
  simp [execOp, resolve, Deferred.ofValue, invoke, run_callFunc_enter hen, h1, h2]
/-- A bound closure is called, and hands back just u. -/
theorem callbv {f : FuncId} {fst cap : List Value} {args : List Operand} {ats : Array TypeId} {vs : List Value} {u : Value} (hx : Opd F true x (bnd f fst cap).v) (hen : Enters P f) (hargs : Opds F true args vs)
    (hC : ∀ w, WInv K L w → Calls P f (fst ++ vs ++ cap).toArray w (RetV w u)) (next : Sat K N ((d, true, u) :: F) L) (hd : Nat.blt d K.n = true := by rfl) :
    Sat K (opThen P ops Q ⟨some d, .call { callee := .value x, args := args.toArray, argTypes := ats }, ty, pos, af, none⟩ N) F L := fun a w G => by
  refine opThen_plain rfl ?_
  unfold Oper.wp
  rw [exec_callb hx hen hargs rfl G.fo]
  refine (hC w G.inv).mono ?_
  rintro e w' ⟨rfl, hk⟩
  exact next _ _ (G.put d true u u (by simpa [Nat.blt_eq] using hd) rfl (G.inv.grow hk))
/-- f, with what is bound to it, answers g x y, in every world that is w0 but for M. -/
def FnB2 (P : Program) (f : FuncId) (fst cap : List Value) (M : Nat → Prop) (w0 : World) (E : Enc α) (E' : Enc γ) (E'' : Enc β) (D : α → γ → Prop) (g : α → γ → β) : Prop :=
  ∀ x y w', D x y → Keeps M w0 w' → Calls P f (fst ++ [E.val x, E'.val y] ++ cap).toArray w' (RetV w' (E''.val (g x y)))
theorem FnB2.call {f : FuncId} {fst cap : List Value} {E : Enc α} {E' : Enc γ} {E'' : Enc β} {D : α → γ → Prop} {g : α → γ → β} (h : FnB2 P f fst cap K.M K.w0 E E' E'' D g) {x : α} {y : γ} (hD : D x y) (w : World) (I : WInv K L w) : Calls P f (fst ++ [E.val x, E'.val y] ++ cap).toArray w (RetV w (E''.val (g x y))) := h x y w hD I.keeps
theorem Ev.and_n {m n : Int} (hx : Opd F g x (I m)) (hy : Opd F g y (I n)) (hm : g = true → 0 ≤ m ∧ m ≤ 9223372036854775807) (hn : g = true → 0 ≤ n ∧ n ≤ 9223372036854775807) : Ev P K F L g (.binOp .and t x y t') ty (I ((m.toNat &&& n.toNat : Nat) : Int)) := fun hg => by
  have h1 := hm hg
  have h2 := hn hg
  obtain ⟨m', rfl⟩ := Int.eq_ofNat_of_zero_le h1.1
  obtain ⟨n', rfl⟩ := Int.eq_ofNat_of_zero_le h2.1
  exact Ev.bits_i (op := .and) (.inl rfl) hx hy (fun _ => by omega) (fun _ => by omega) rfl hg
/-- What a function that tells does to a state: one thing more. -/
def TellL (P : Program) (f : FuncId) (cap : List Value) (N : Nat) (E : Enc α) (S : OV → List β → Res) (D : α → Prop) (mk : α → β) : Prop :=
  ∀ x o l w', D x → l.length < N → At (S o l) w' → Calls P f (E.val x :: cap).toArray w' (RetR w' (S o l) (fun _ : OV => True) (fun _ => .tuple #[]) (fun o' => S o' (l ++ [mk x])))
theorem TellL.call {f : FuncId} {cap : List Value} {n : Nat} {E : Enc α} {S : OV → List β → Res} {D : α → Prop} {mk : α → β} (h : TellL P f cap n E S D mk) {x : α} {o : OV} {l : List β} (hD : D x) (hn : l.length < n) (hm : S o l ∈ L) (w : World) (I : WInv K L w) : Calls P f ([E.val x] ++ cap).toArray w (RetR w (S o l) (fun _ : OV => True) (fun _ => .tuple #[]) (fun o' => S o' (l ++ [mk x]))) := h x o l w hD hn (at_mem hm w I)
theorem bytes_beq (a b : ByteArray) : (a.toList == b.toList) = decide (a = b) := by
  rw [Bool.eq_iff_iff, decide_eq_true_iff, beq_iff_eq]
  constructor
  · intro h
    rw [ByteArray.toList_eq, ByteArray.toList_eq] at h
    cases a; cases b
    simp only [Array.toList_inj] at h
    exact congrArg _ h
  · intro h
    rw [h]
theorem Ev.eql_s {a b : ByteArray} (hx : Opd F g x (.string a)) (hy : Opd F g y (.string b)) : Ev P K F L g (.binOp .eql t x y t') ty (.bool (decide (a = b))) :=
  Ev.bin hx hy (fun w => eqGuard_string w) (fun w => by
    rw [binOp_string_eql, Sem.run_pure, bytes_beq])
theorem Ev.neq_s {a b : ByteArray} (hx : Opd F g x (.string a)) (hy : Opd F g y (.string b)) : Ev P K F L g (.binOp .neq t x y t') ty (.bool (decide (¬ a = b))) :=
  Ev.bin hx hy (fun w => eqGuard_string w) (fun w => by
    rw [binOp_string_neq, Sem.run_pure, bytes_beq]
    by_cases h : a = b <;> simp [h])
/-- The things of L', wherever they stand in L. -/
def SubP (L' L : List Res) : Prop := ∃ L0, L0.Perm L ∧ L'.Sublist L0
theorem SubP.nil : SubP [] L := ⟨L, List.Perm.refl _, List.nil_sublist _⟩
theorem SubP.of {L' : List Res} (h : L'.Sublist L) : SubP L' L := ⟨L, List.Perm.refl _, h⟩
theorem SubP.cons {r : Res} {L L1 L' : List Res} (h : Rem L r L1) (hs : SubP L' L1) : SubP (r :: L') L := by
  obtain ⟨L0, h0, h1⟩ := hs
  exact ⟨r :: L0, (h0.cons r).trans h.perm, h1.cons_cons r⟩
theorem WInv.subP {L' : List Res} {w : World} (h : WInv K L w) (hs : SubP L' L) : WInv K L' w := by
  obtain ⟨L0, h0, h1⟩ := hs
  exact (h.perm h0).sub h1
theorem arr {L' : List Res} {X : Act → World → Prop} (h : SubP L' L) (next : Sat K X F L') : Sat K X F L := fun a w G => next a w ⟨G.fo, G.inv.subP h⟩
theorem meetP {X : Type} {J : X → Prop} {Fx : X → Fr} {Lx : X → List Res} (x' : X) (hJ : J x') (hF : Sub F (Fx x')) (hL : SubP (Lx x') L) :
    Sat K (fun a w => ∃ x', J x' ∧ Good K (Fx x') (Lx x') a w) F L := fun a w G => ⟨x', hJ, (G.sub hF (List.Sublist.refl _)).world (G.inv.subP hL)⟩
theorem nextP {X : Type} {J : X → Prop} {Fx : X → Fr} {Lx : X → List Res} {μ : X → Nat} {x : X} (x' : X) (hJ : J x') (hlt : μ x' < μ x) (hF : Sub F (Fx x')) (hL : SubP (Lx x') L) :
    Sat K (fun a w => ∃ x', J x' ∧ μ x' < μ x ∧ Good K (Fx x') (Lx x') a w) F L := fun a w G => ⟨x', hJ, hlt, (G.sub hF (List.Sublist.refl _)).world (G.inv.subP hL)⟩
theorem retNP {X : Type} {n : Nat} {w0 : World} {L : List Res} {J : X → Prop} {val : X → Value} {R : X → List Res} {v : Value} (x : X) (hJ : J x) (hv : v = val x) (hs : SubP (R x) L) (w : World) (h : WInv ⟨n, w0, Nope⟩ L w) : RetN w0 J val R (.returned v) w :=
  retN x hJ hv (List.Sublist.refl _) w (h.subP hs)
/-- Several things as one. -/
def Seps (r : Res) : List Res → Res
  | [] => r
  | s :: l => Sep r (Seps s l)
theorem WInv.seps {w : World} : ∀ (l : List Res) (r : Res) (M : List Res), WInv K (r :: (l ++ M)) w → WInv K (Seps r l :: M) w
  | [], r, M, h => h
  | s :: l, r, M, h => by
    have h1 : WInv K (s :: (l ++ (r :: M))) w := h.perm (by
      refine List.Perm.trans ?_ (List.Perm.swap _ _ _)
      exact List.Perm.cons s List.perm_middle)
    have h2 := WInv.seps l s (r :: M) h1
    exact (h2.perm (List.Perm.swap _ _ _)).sepIn
theorem WInv.unseps {w : World} : ∀ (l : List Res) (r : Res) (M : List Res), WInv K (Seps r l :: M) w → WInv K (r :: (l ++ M)) w
  | [], r, M, h => h
  | s :: l, r, M, h => by
    have h1 : WInv K (Seps s l :: r :: M) w := (WInv.sepOut h).perm (List.Perm.swap _ _ _)
    have h2 := WInv.unseps l s (r :: M) h1
    refine h2.perm ?_
    refine List.Perm.trans (List.Perm.swap _ _ _) ?_
    exact List.Perm.cons s List.perm_middle.symm
theorem sepsIn {l M : List Res} {r : Res} {X : Act → World → Prop} (h : SubP (r :: (l ++ M)) L) (next : Sat K X F (Seps r l :: M)) : Sat K X F L := fun a w G =>
  next a w ⟨G.fo, WInv.seps l r M (G.inv.subP h)⟩
theorem sepsOut {l M : List Res} {r : Res} {X : Act → World → Prop} (h : Rem L (Seps r l) M) (next : Sat K X F (r :: (l ++ M))) : Sat K X F L := fun a w G =>
  next a w ⟨G.fo, WInv.unseps l r M (G.inv.perm h.perm)⟩
theorem WInv.disj {r s : Res} {L1 L2 : List Res} {w : World} (h : WInv K L w) (h1 : Rem L r L1) (h2 : Rem L1 s L2) : r.Disj s := by
  have h3 := (h.perm h1.perm).dis
  rw [List.pairwise_cons] at h3
  exact h3.1 s (by obtain ⟨A, C, rfl, rfl⟩ := h2; simp)
/-- 's[:k]' of a slice's first part, beyond its end. -/
theorem Ev.sliceUpH {E : Enc α} {v : Value} {xs : List α} {e : TypeId} {hi : Operand} {k : Int} {n : Nat} (ht : P.underlying t = some (.slice e)) (T : TyOK P e E) (hx : Opd F g x (subS E.size v 0 n)) (hhi : Opd F g hi (I k))
    (h : ∀ w, WInv K L w → IsSl E w v xs) (hb : g = true → 0 ≤ k ∧ k ≤ xs.length) : Ev P K F L g (.slice t x none (some hi) none) ty (subS E.size v 0 k.toNat) := fun hg a G w hw dst pos af gd => by
  obtain ⟨b, cap, rfl, h1, _, _⟩ := h w hw
  obtain ⟨h2, h4⟩ := hb hg
  have hu : (underlying t).run P w = .ok (.slice e) w := by simp [underlying, ht]
  have h5 : 0 ≤ k ∧ k ≤ (cap : Int) := by omega
  have h7 := hx.eval hg G
  simp only [subS, Nat.sub_zero, Nat.zero_mul] at h7
  simp [execOp, Instr.sliceAt, hu, Instr.slice, Instr.sliceBounds, Instr.sliceBound, asIntOf, h7, hhi.eval hg G, I, h5, run_sizeOf T, subS]
  cases b <;> simp [Addr.add]
theorem Ev.lenQ {v : Value} {n : Nat} {e : TypeId} (ht : P.underlying t = some (.slice e)) (hx : Opd F g x v) (h : Shq v n) :
    Ev P K F L g (.call { callee := .builtin .len, args := #[x], argTypes := #[t] }) ty (I n) := fun hg a G w hw dst pos af gd => by
  obtain ⟨b, cap, rfl, _⟩ := h
  have hu : (underlying t).run P w = .ok (.slice e) w := by simp [underlying, ht]
  simp [execOp, resolve, invoke, builtin, Builtin.len_, hx.eval hg G, hu, goInt, I]
/-- Nothing at all. -/
def Emp : Res where
  foot := fun _ => False
  A := fun _ => True
  st := fun _ _ _ _ => trivial
theorem retD {n : Nat} {w0 : World} {L : List Res} {r : Res} {v : Value} {val : Unit → Value} (hv : v = val ()) (w : World) (h : WInv ⟨n, w0, r.foot⟩ L w) : RetR w0 r (fun _ : Unit => True) val (fun _ => Emp) (.returned v) w :=
  ⟨(), trivial, by rw [hv], h.keeps, trivial, fun b hb => hb.elim⟩
end
end Go.Gx

/- Part W: short forms, whose usual facts are found by themselves. -/
namespace Go.Gx
open Go Go.RowKit

section
variable {α β γ : Type} {P : Program}
variable {K : Ctx} {F : Fr} {L : List Res} {g : Bool} {Q : Exit → Act → World → Prop} {N : Act → World → Prop} {ops : Array Oper}
  {op : Op} {ty t t' : TypeId} {pos : String} {af : Array Edge} {d : Nat} {x y : Operand} {v : Value}

theorem tk {Lq : List Res} {fuel : Nat} {listed : Array Bool} (i : Nat) (hi : ops[i]? = some ⟨some d, op, ty, pos, af, none⟩)
    (h : Ev P K F Lq true op ty v) (next : Sat K (heldX P K ops Q Lq fuel (listed.setIfInBounds i true)) ((d, true, v) :: F) L) (hs : Region.noSelect ops = true := by kernel_rfl)
    (hf : Region.free .any ops listed i = true := by kernel_rfl) (hr : (Region.ready .any ops listed).contains i = true := by kernel_rfl)
    (hL : Lq.Sublist L := by repeat first | exact sR | exact sN | apply sC | apply sS | apply sA) (hd : Nat.blt d K.n = true := by rfl) :
    Sat K (heldX P K ops Q Lq (fuel + 1) listed) F L := take i hi hs hf hr hL h next hd
theorem tkg {Lq : List Res} {fuel : Nat} {listed : Array Bool} {j tg : Nat} {want c1 c2 : Bool} (i : Nat) (hi : ops[i]? = some ⟨some d, op, ty, pos, af, some (j, want)⟩)
    (hj : (ops[j]?).bind (·.dst) = some tg) (hg : look F tg = some (c1, .bool c2))
    (h : Ev P K F Lq (c1 && (c2 == want)) op ty v) (next : Sat K (heldX P K ops Q Lq fuel (listed.setIfInBounds i true)) ((d, (c1 && (c2 == want)), v) :: F) L) (hs : Region.noSelect ops = true := by kernel_rfl)
    (hf : Region.free .any ops listed i = true := by kernel_rfl) (hr : (Region.ready .any ops listed).contains i = true := by kernel_rfl)
    (hL : Lq.Sublist L := by repeat first | exact sR | exact sN | apply sC | apply sS | apply sA) (hd : Nat.blt d K.n = true := by rfl) :
    Sat K (heldX P K ops Q Lq (fuel + 1) listed) F L := takeg i hi hs hf hr hL hj hg h next hd
theorem hdn {Lq : List Res} {fuel : Nat} {listed : Array Bool} (h : Sat K (heldX P K ops Q Lq fuel listed) F L) (hL : Lq.Sublist L := by repeat first | exact sR | exact sN | apply sC | apply sS | apply sA) : Sat K (heldN P K ops Q Lq fuel listed) F L := heldN_of hL h
theorem al1 {Lq : List Res} {fuel : Nat} {listed : Array Bool} (i : Nat) {o : Oper} (ho : ops[i]? = some o) (h : Sat K (opThen P ops (NoPanic Q) o (heldN P K ops Q Lq fuel (listed.setIfInBounds i true))) F L)
    (hr : Region.ready .any ops listed = [i] := by kernel_rfl) : Sat K (heldX P K ops Q Lq (fuel + 1) listed) F L := all [i] hr (List.cons_ne_nil _ _) (.cons ho h .nil)
theorem ovr {Lq : List Res} {fuel : Nat} {listed : Array Bool} (h : Sat K (Q .normal) F L) (hr : Region.ready .any ops listed = [] := by kernel_rfl) :
    Sat K (heldX P K ops Q Lq fuel listed) F L := over hr h
theorem nb : (∀ a b : Bool, ((a && b) = true) = (a = true ∧ b = true)) ∧ (∀ a b : Bool, ((a || b) = true) = (a = true ∨ b = true)) ∧ (∀ a b : Bool, ((a || b) = false) = (a = false ∧ b = false)) ∧ (∀ a b : Bool, ((a && b) = false) = (a = false ∨ b = false)) ∧
    (∀ a : Bool, ((!a) = true) = (a = false)) ∧ (∀ a : Bool, ((!a) = false) = (a = true)) ∧ (∀ (p : Prop) [Decidable p], (decide p = true) = p) ∧ (∀ (p : Prop) [Decidable p], (decide p = false) = ¬p) ∧ (∀ (p : Prop) [Decidable p], (¬¬p) = p) := by
  refine ⟨by decide, by decide, by decide, by decide, by decide, by decide, fun p _ => ?_, fun p _ => ?_, fun p _ => ?_⟩
  · simp
  · simp
  · simp
theorem Ev.ldv {E : Enc α} {E' : Enc β} {b o : Nat} {xv : α} {T : TypeId} (TT : TyOK P t E') (hx : Opd F g x (.pointer (some ⟨b, o, none⟩))) (l : Lens E E' o)
    (hm : Var b E xv T ∈ L := by repeat first | exact mH | apply mT | apply mA) : Ev P K F L g (.load t x) ty (E'.val (l.get xv)) := Ev.load TT hx (ptsVar hm l)
theorem stv {E : Enc α} {E' : Enc β} {b o : Nat} {xv : α} {yv : β} {T' : TypeId} {L' : List Res} (T : TyOK P t E') (l : Lens E E' o) (hx : Opd F true x (.pointer (some ⟨b, o, none⟩))) (hy : Opd F true y (E'.val yv))
    (next : Sat K N F L') (hu : Upd L (Var b E xv T') (Var b E (l.set xv yv) T') L' := by repeat first | exact Upd.head | apply Upd.tail | apply Upd.right) :
    Sat K (opThen P ops Q ⟨none, .store t x y, ty, pos, af, none⟩ N) F L := storeV T l hx hy hu next
/-- A loaded value, told. -/
theorem Ev.ldx {E : Enc α} {E' : Enc β} {b o : Nat} {xv : α} {T : TypeId} (z : β) (TT : TyOK P t E') (hx : Opd F g x (.pointer (some ⟨b, o, none⟩))) (l : Lens E E' o)
    (hm : Var b E xv T ∈ L := by repeat first | exact mH | apply mT | apply mA) (e : l.get xv = z := by rfl) : Ev P K F L g (.load t x) ty (E'.val z) := e ▸ Ev.load TT hx (ptsVar hm l)
theorem app {E : Enc α} {v u : Value} {xs ys : List α} {T : TypeId} {L' : Value → List Res} {z : Value} {by' : Nat} (ht : P.underlying t = some (.slice T)) (TT : TyOK P T E)
    (hz : (P.info? T).map (fun i => (i.zero, i.bytes)) = some (some z, by')) (hzs : z.cells.size = E.size) (hx : Opd F true x v) (hy : Opd F true y u) (next : ∀ o : OV, Sat K N ((d, true, o.v) :: F) (L' o.v))
    (hsz : Nat.blt 0 E.size = true := by rfl)
    (hu : ∀ v', Upd L (OwnS v E xs T) (OwnS v' E (xs ++ ys) T) (L' v') := by intro _; repeat first | exact Upd.head | apply Upd.tail | apply Upd.right)
    (hsrc : ∀ w, WInv K L w → IsSl E w u ys := by first | exact isSl_own (by repeat first | exact mH | apply mT | apply mA) | exact fun w I => IsSl.keep0 (by assumption) I.keeps)
    (hby : xs.length + ys.length ≤ maxLen ∧ (xs.length + ys.length) * by' ≤ 140737488355328) (hd : Nat.blt d K.n = true := by rfl) :
    Sat K (opThen P ops Q ⟨some d, .call { callee := .builtin .append, args := #[x, y], argTypes := #[t, t] }, ty, pos, af, none⟩ N) F L :=
  append ht TT hsz hz hzs hx hy hu hsrc hby next hd
theorem mt {X : Type} {J : X → Prop} {Fx : X → Fr} {Lx : X → List Res} (x' : X) (hJ : J x') (hF : Sub F (Fx x') := by repeat first | exact Sub.nil | refine Sub.cons rfl ?_) (hL : (Lx x').Sublist L := by repeat first | exact sR | exact sN | apply sC | apply sS | apply sA) :
    Sat K (fun a w => ∃ x', J x' ∧ Good K (Fx x') (Lx x') a w) F L := meet x' hJ hF hL
theorem mtP {X : Type} {J : X → Prop} {Fx : X → Fr} {Lx : X → List Res} (x' : X) (hJ : J x') (hF : Sub F (Fx x') := by repeat first | exact Sub.nil | refine Sub.cons rfl ?_) (hL : SubP (Lx x') L := by repeat first | exact SubP.nil | refine SubP.cons (by repeat first | exact Rem.head | apply Rem.tail) ?_) :
    Sat K (fun a w => ∃ x', J x' ∧ Good K (Fx x') (Lx x') a w) F L := meetP x' hJ hF hL
theorem nx {X : Type} {J : X → Prop} {Fx : X → Fr} {Lx : X → List Res} {μ : X → Nat} {x : X} (x' : X) (hJ : J x') (hlt : μ x' < μ x) (hF : Sub F (Fx x') := by repeat first | exact Sub.nil | refine Sub.cons rfl ?_) (hL : (Lx x').Sublist L := by repeat first | exact sR | exact sN | apply sC | apply sS | apply sA) :
    Sat K (fun a w => ∃ x', J x' ∧ μ x' < μ x ∧ Good K (Fx x') (Lx x') a w) F L := next x' hJ hlt hF hL
theorem nxP {X : Type} {J : X → Prop} {Fx : X → Fr} {Lx : X → List Res} {μ : X → Nat} {x : X} (x' : X) (hJ : J x') (hlt : μ x' < μ x) (hF : Sub F (Fx x') := by repeat first | exact Sub.nil | refine Sub.cons rfl ?_) (hL : SubP (Lx x') L := by repeat first | exact SubP.nil | refine SubP.cons (by repeat first | exact Rem.head | apply Rem.tail) ?_) :
    Sat K (fun a w => ∃ x', J x' ∧ μ x' < μ x ∧ Good K (Fx x') (Lx x') a w) F L := nextP x' hJ hlt hF hL
theorem lp {X : Type} {c : Code} (J : X → Prop) (Fx : X → Fr) (Lx : X → List Res) (μ : X → Nat) (x0 : X) (h0 : J x0)
    (round : ∀ x, J x → Sat K (c.wp P (Exit.then (fun a w => ∃ x', J x' ∧ μ x' < μ x ∧ Good K (Fx x') (Lx x') a w) Q)) (Fx x) (Lx x)) (hF : Sub F (Fx x0) := by repeat first | exact Sub.nil | refine Sub.cons rfl ?_) (hL : (Lx x0).Sublist L := by repeat first | exact sR | exact sN | apply sC | apply sS | apply sA) :
    Sat K ((Code.loop c).wp P Q) F L := loop J Fx Lx μ x0 h0 hF hL round
end
end Go.Gx
