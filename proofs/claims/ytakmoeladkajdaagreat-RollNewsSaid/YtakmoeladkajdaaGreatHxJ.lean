/- Part J: pointers, closures. -/
import Derived.Laws.Pointers
import Derived.Test.YtakmoeladkajdaaGreatHxI
set_option linter.unusedVariables false
set_option linter.unusedSimpArgs false
namespace Go.Gx
open Go Go.RowKit
section
variable {α β γ : Type} {P : Program}
variable {K : Ctx} {F : Fr} {L : List Res} {g : Bool} {Q : Exit → Act → World → Prop} {N : Act → World → Prop} {ops : Array Oper}
  {op : Op} {ty t t' : TypeId} {pos : String} {af : Array Edge} {d : Nat} {x y : Operand}
theorem Ev.nilCheck {a : Addr} (hx : Opd F g x (.pointer (some a))) : Ev P K F L g (.nilCheck x) ty (.pointer (some a)) := fun hg ac G w _ dst pos af gd => by
  simp only [execOp, hx.eval hg G, Sem.run_pure]
theorem eqGuard_ptr {op : BinOp} {p q : Option Addr} (w : World) : (eqGuard op t x y (.pointer p) (.pointer q)).run P w = .ok () w := by
  unfold eqGuard
  cases op <;> rfl
theorem pointee_of {e : TypeId} (ht : P.underlying t = some (.pointer e)) : P.underlying t = some (.pointer (P.pointee t)) := by
  unfold Program.pointee
  rw [ht]
theorem Ev.eql_p {e : TypeId} {p : Option Addr} (ht : P.underlying t = some (.pointer e)) (hx : Opd F g x (.pointer p)) (hy : Opd F g y (.pointer none)) : Ev P K F L g (.binOp .eql t x y t') ty (.bool p.isNone) :=
  Ev.bin hx hy (fun w => eqGuard_ptr w) (fun w => run_eql_pointer_nil w t p (pointee_of ht))
theorem Ev.neq_p {e : TypeId} {p : Option Addr} (ht : P.underlying t = some (.pointer e)) (hx : Opd F g x (.pointer p)) (hy : Opd F g y (.pointer none)) : Ev P K F L g (.binOp .neq t x y t') ty (.bool (!p.isNone)) :=
  Ev.bin hx hy (fun w => eqGuard_ptr w) (fun w => run_neq_pointer_nil w t p (pointee_of ht))
def clo (f : FuncId) (cap : List Value) : OV := ⟨.func (.func f) #[] cap.toArray, rfl⟩
theorem Ev.makeFunc {f : FuncId} {caps : List Operand} {vs : List Value} (h : Opds F g caps vs) : Ev P K F L g (.makeFunc (.func f) #[] caps.toArray) ty (clo f vs).v := fun hg a G w _ dst pos af gd => by
  have h1 := h.eval hg G
  simp [execOp, Instr.makeFunc, clo, h1]
theorem exec_callc {f : FuncId} {cap : List Value} {args : List Operand} {ats : Array TypeId} {vs : List Value} (hx : Opd F g x (clo f cap).v) (hen : Enters P f) (hargs : Opds F g args vs) (hg : g = true) {a : Act} (G : FrOK K F a) (w : World) {dst : Option Tmp} {gd : Option (Nat × Bool)} :
    (execOp a.eval ⟨dst, .call { callee := .value x, args := args.toArray, argTypes := ats }, ty, pos, af, gd⟩).run P w = .ok (.enter f (vs ++ cap).toArray) w := by
  have h1 := hargs.eval hg G
  have h2 := hx.eval hg G
  have h3 : (clo f cap).v = .func (.func f) #[] cap.toArray := rfl
  rw [h3] at h2
  simp [execOp, resolve, Deferred.ofValue, invoke, run_callFunc_enter hen, h1, h2]
theorem callcv {f : FuncId} {cap : List Value} {args : List Operand} {ats : Array TypeId} {vs : List Value} {u : Value} (hx : Opd F true x (clo f cap).v) (hen : Enters P f) (hargs : Opds F true args vs)
    (hC : ∀ w, WInv K L w → Calls P f (vs ++ cap).toArray w (RetV w u)) (next : Sat K N ((d, true, u) :: F) L) (hd : Nat.blt d K.n = true := by rfl) :
    Sat K (opThen P ops Q ⟨some d, .call { callee := .value x, args := args.toArray, argTypes := ats }, ty, pos, af, none⟩ N) F L := fun a w G => by
  refine opThen_plain rfl ?_
  unfold Oper.wp
  rw [exec_callc hx hen hargs rfl G.fo]
  refine (hC w G.inv).mono ?_
  rintro e w' ⟨rfl, hk⟩
  exact next _ _ (G.put d true u u (by simpa [Nat.blt_eq] using hd) rfl (G.inv.grow hk))
theorem PtsTo.keep {E : Enc α} {w w' : World} {b off : Nat} {x : α} (h : PtsTo E w b off x) (k : Keeps Nope w w') : PtsTo E w' b off x := fun j u hu => by
  have h1 := h j u hu
  have hb : b < w.heap.size := by
    rcases Nat.lt_or_ge b w.heap.size with h2 | h2
    · exact h2
    · simp [World.cell?, Array.getElem?_eq_none h2] at h1
  rw [← h1]
  simp only [World.cell?]
  rw [k.block b hb (fun h => h)]
@[simp] theorem eqA_dec [DecidableEq α] {n : Nat} (x y : Vector α n) : eqA n eqd x y = decide (x = y) := by
  rw [Bool.eq_iff_iff, decide_eq_true_iff]
  exact eqA_iff eqd_iff x y
@[simp] theorem eqd_dec [DecidableEq α] (x y : α) : eqd x y = decide (x = y) := rfl
@[simp] theorem take_vec {n : Nat} (x : Vector α n) : x.toList.take n = x.toList := List.take_of_length_le (by simp)
theorem ptsL {E : Enc α} {E' : Enc β} {b o : Nat} {xv : α} (h : ∀ w, WInv K L w → PtsTo E w b 0 xv) (l : Lens E E' o) (w : World) (I : WInv K L w) : PtsTo E' w b o (l.get xv) := by
  have h2 := l.pts (h w I)
  rwa [Nat.zero_add] at h2
end
end Go.Gx
