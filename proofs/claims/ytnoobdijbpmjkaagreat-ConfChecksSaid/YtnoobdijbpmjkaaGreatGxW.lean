/- Part W: short forms, whose usual facts are found by themselves. -/
import Derived.Test.YtnoobdijbpmjkaaGreatGxV
set_option linter.unusedVariables false
set_option linter.unusedSimpArgs false
namespace Go.Gx
open Go Go.RowKit

section
variable {α β γ : Type} {P : Program}
variable {K : Ctx} {F : Fr} {L : List Res} {g : Bool} {Q : Exit → Act → World → Prop} {N : Act → World → Prop} {ops : Array Oper}
  {op : Op} {ty t t' : TypeId} {pos : String} {af : Array Edge} {d : Nat} {x y : Operand} {v : Value}

theorem tk {Lq : List Res} {fuel : Nat} {listed : Array Bool} (i : Nat) (hi : ops[i]? = some ⟨some d, op, ty, pos, af, none⟩)
    (h : Ev P K F Lq true op ty v) (next : Sat K (heldX P K ops Q Lq fuel (listed.setIfInBounds i true)) ((d, true, v) :: F) L) (hs : Region.noSelect ops = true := by kernel_rfl)
    (hf : Region.free .any ops listed i = true := by kernel_rfl) (hr : (Region.ready .any ops listed).contains i = true := by kernel_rfl)
    (hL : Lq.Sublist L := by repeat first | exact sR | exact sN | apply sC | apply sS | apply sA) (hd : Nat.blt d K.n = true := by rfl) :
    Sat K (heldX P K ops Q Lq (fuel + 1) listed) F L := take i hi hs hf hr hL h next hd
theorem tkg {Lq : List Res} {fuel : Nat} {listed : Array Bool} {j tg : Nat} {want c1 c2 : Bool} (i : Nat) (hi : ops[i]? = some ⟨some d, op, ty, pos, af, some (j, want)⟩)
    (hj : (ops[j]?).bind (·.dst) = some tg) (hg : look F tg = some (c1, .bool c2))
    (h : Ev P K F Lq (c1 && (c2 == want)) op ty v) (next : Sat K (heldX P K ops Q Lq fuel (listed.setIfInBounds i true)) ((d, (c1 && (c2 == want)), v) :: F) L) (hs : Region.noSelect ops = true := by kernel_rfl)
    (hf : Region.free .any ops listed i = true := by kernel_rfl) (hr : (Region.ready .any ops listed).contains i = true := by kernel_rfl)
    (hL : Lq.Sublist L := by repeat first | exact sR | exact sN | apply sC | apply sS | apply sA) (hd : Nat.blt d K.n = true := by rfl) :
    Sat K (heldX P K ops Q Lq (fuel + 1) listed) F L := takeg i hi hs hf hr hL hj hg h next hd
theorem hdn {Lq : List Res} {fuel : Nat} {listed : Array Bool} (h : Sat K (heldX P K ops Q Lq fuel listed) F L) (hL : Lq.Sublist L := by repeat first | exact sR | exact sN | apply sC | apply sS | apply sA) : Sat K (heldN P K ops Q Lq fuel listed) F L := heldN_of hL h
theorem al1 {Lq : List Res} {fuel : Nat} {listed : Array Bool} (i : Nat) {o : Oper} (ho : ops[i]? = some o) (h : Sat K (opThen P ops (NoPanic Q) o (heldN P K ops Q Lq fuel (listed.setIfInBounds i true))) F L)
    (hr : Region.ready .any ops listed = [i] := by kernel_rfl) : Sat K (heldX P K ops Q Lq (fuel + 1) listed) F L := all [i] hr (List.cons_ne_nil _ _) (.cons ho h .nil)
theorem ovr {Lq : List Res} {fuel : Nat} {listed : Array Bool} (h : Sat K (Q .normal) F L) (hr : Region.ready .any ops listed = [] := by kernel_rfl) :
    Sat K (heldX P K ops Q Lq fuel listed) F L := over hr h
theorem nb : (∀ a b : Bool, ((a && b) = true) = (a = true ∧ b = true)) ∧ (∀ a b : Bool, ((a || b) = true) = (a = true ∨ b = true)) ∧ (∀ a b : Bool, ((a || b) = false) = (a = false ∧ b = false)) ∧ (∀ a b : Bool, ((a && b) = false) = (a = false ∨ b = false)) ∧
    (∀ a : Bool, ((!a) = true) = (a = false)) ∧ (∀ a : Bool, ((!a) = false) = (a = true)) ∧ (∀ (p : Prop) [Decidable p], (decide p = true) = p) ∧ (∀ (p : Prop) [Decidable p], (decide p = false) = ¬p) ∧ (∀ (p : Prop) [Decidable p], (¬¬p) = p) := by
  refine ⟨by decide, by decide, by decide, by decide, by decide, by decide, fun p _ => ?_, fun p _ => ?_, fun p _ => ?_⟩
  · simp
  · simp
  · simp
theorem Ev.ldv {E : Enc α} {E' : Enc β} {b o : Nat} {xv : α} {T : TypeId} (TT : TyOK P t E') (hx : Opd F g x (.pointer (some ⟨b, o, none⟩))) (l : Lens E E' o)
    (hm : Var b E xv T ∈ L := by repeat first | exact mH | apply mT | apply mA) : Ev P K F L g (.load t x) ty (E'.val (l.get xv)) := Ev.load TT hx (ptsVar hm l)
theorem stv {E : Enc α} {E' : Enc β} {b o : Nat} {xv : α} {yv : β} {T' : TypeId} {L' : List Res} (T : TyOK P t E') (l : Lens E E' o) (hx : Opd F true x (.pointer (some ⟨b, o, none⟩))) (hy : Opd F true y (E'.val yv))
    (next : Sat K N F L') (hu : Upd L (Var b E xv T') (Var b E (l.set xv yv) T') L' := by repeat first | exact Upd.head | apply Upd.tail | apply Upd.right) :
    Sat K (opThen P ops Q ⟨none, .store t x y, ty, pos, af, none⟩ N) F L := storeV T l hx hy hu next
end
end Go.Gx
