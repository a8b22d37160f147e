/- Part L: an array out of a slice. -/
import Derived.Test.YtakmoeladkajdaaGreatHxK
set_option linter.unusedVariables false
set_option linter.unusedSimpArgs false
namespace Go.Gx
open Go Go.RowKit
section
variable {α β γ : Type} {P : Program}
variable {K : Ctx} {F : Fr} {L : List Res} {g : Bool} {Q : Exit → Act → World → Prop} {N : Act → World → Prop} {ops : Array Oper}
  {op : Op} {ty t t' : TypeId} {pos : String} {af : Array Edge} {d : Nat} {x y : Operand}
def vecOf (n : Nat) (xs : List α) (z : α) : Vector α n := Vector.ofFn fun i => xs.getD i.val z
theorem vecOf_toList {n : Nat} {xs : List α} {z : α} (h : xs.length = n) : (vecOf n xs z).toList = xs := by
  apply List.ext_getElem
  · simp [h]
  · intro i h1 h2
    simp [vecOf, List.getD, h2]
theorem Ev.toArr {E : Enc α} {v : Value} {xs : List α} {e : TypeId} {n : Nat} (ht : P.underlying t = some (.array n e)) (hx : Opd F g x v) (h : ∀ w, WInv K L w → IsSl E w v xs) (hn : g = true → 0 < n ∧ n ≤ xs.length) :
    Ev P K F L g (.sliceToArrayPointer t x) ty (elemPtr v 0) := fun hg a G w hw dst pos af gd => by
  obtain ⟨b, cap, rfl, _, _, h2, h3⟩ := h w hw
  obtain ⟨hn0, hn1⟩ := hn hg
  have hu : (underlying t).run P w = .ok (.array n e) w := by simp [underlying, ht]
  have hne : xs ≠ [] := fun e => by rw [e] at hn1; simp at hn1; omega
  cases b with
  | none => exact absurd (h2 rfl).1 hne
  | some p =>
    have hp := (h3 p rfl).1 hne
    obtain ⟨pb, po, ps⟩ := p
    simp only at hp
    subst hp
    have hlt : ¬ xs.length < n := by omega
    simp [execOp, Instr.arrayAt, hx.eval hg G, hu, hlt, elemPtr]
theorem Ev.loadArr {E : Enc α} {v : Value} {xs : List α} {n : Nat} (T : TyOK P t (arrE n E)) (hx : Opd F g x (elemPtr v 0)) (h : ∀ w, WInv K L w → IsSl E w v xs) (hn : g = true → 0 < n ∧ xs.length = n) :
    Ev P K F L g (.load t x) ty ((arrE n E).val (vecOf n xs E.zero)) := fun hg a G w hw dst pos af gd => by
  obtain ⟨b, cap, rfl, _, _, h2, h3⟩ := h w hw
  obtain ⟨hn0, hn1⟩ := hn hg
  have hne : xs ≠ [] := fun e => by rw [e] at hn1; simp at hn1; omega
  cases b with
  | none => exact absurd (h2 rfl).1 hne
  | some p =>
    obtain ⟨hp, hc⟩ := h3 p rfl
    have hq : PtsTo (arrE n E) w p.block p.off (vecOf n xs E.zero) := fun j u hu => hc j u (by
      have e : (arrE n E).cells (vecOf n xs E.zero) = E.row (vecOf n xs E.zero).toList := rfl
      rw [e, vecOf_toList hn1] at hu
      exact hu)
    have hx' : Opd F g x (.pointer (some ⟨p.block, p.off, none⟩)) := hx
    simp only [execOp, hx'.eval hg G, Instr.loadAt, Instr.sureAddr, Sem.run_bind, Sem.run_pure, Result.andThen_ok, run_loadVar_pts T hq]
end
end Go.Gx
