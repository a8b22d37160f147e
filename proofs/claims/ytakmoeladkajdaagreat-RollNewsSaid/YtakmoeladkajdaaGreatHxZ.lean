/- Part Z: interfaces; maps whose values are of any type. -/
import Derived.Laws.Cover3
import Derived.Test.YtakmoeladkajdaaGreatHxY
set_option linter.unusedVariables false
set_option linter.unusedSimpArgs false
namespace Go.Gx
open Go Go.RowKit
section
variable {α β γ : Type} {P : Program}
variable {K : Ctx} {F : Fr} {L : List Res} {g : Bool} {Q : Exit → Act → World → Prop} {N : Act → World → Prop} {ops : Array Oper}
  {op : Op} {ty t t' : TypeId} {pos : String} {af : Array Edge} {d : Nat} {x y : Operand}
def isIf : TypeDesc → Bool
  | .interface _ => true
  | _ => false
def isPtr : TypeDesc → Bool
  | .pointer _ => true
  | _ => false
def ifc (t : TypeId) (v : Value) : OV := ⟨.iface t v, rfl⟩
theorem Ev.makeIf {T : TypeId} {dd : TypeDesc} {u : Value} (ht : P.underlying T = some dd) (hn : isIf dd = false) (hx : Opd F g x u) : Ev P K F L g (.makeInterface T x) ty (ifc T u).v := fun hg a G w _ dst pos af gd => by
  have hu : (underlying T).run P w = .ok dd w := by simp [underlying, ht]
  have h1 := hx.eval hg G
  cases dd <;> first | (cases hn; done) | simp [execOp, Instr.makeInterface, hu, h1, ifc]
def MethAt (P : Program) (t : TypeId) (v : Value) (name : String) (f : FuncId) (r : Value) : Prop := ∀ w, (method (P.types.size + Made.depth) t v name).run P w = .ok (f, r) w
theorem MethAt.val {T : TypeId} {u : Value} {name : String} {f : FuncId} {dd : TypeDesc} (hi : ((P.info? T).bind fun i => (i.methods.find? (·.name == name)).map fun m => (m.path, m.func)) = some (#[], some (f, false)))
    (ht : P.underlying T = some dd) (hn : isPtr dd = false) (hs : P.types.size ≠ 0) : MethAt P T u name f u := fun w => by
  obtain ⟨k, hk⟩ : ∃ k, P.types.size + Made.depth = k + 1 := ⟨P.types.size + Made.depth - 1, by omega⟩
  rw [hk]
  cases hin : P.info? T with
  | none => rw [hin] at hi; cases hi
  | some i =>
    rw [hin] at hi
    simp only [Option.bind_some] at hi
    cases hm : i.methods.find? (·.name == name) with
    | none => rw [hm] at hi; cases hi
    | some m =>
      rw [hm] at hi
      simp only [Option.map_some, Option.some.injEq, Prod.mk.injEq] at hi
      obtain ⟨h1, h2⟩ := hi
      have hu : (underlying T).run P w = .ok dd w := by simp [underlying, ht]
      cases dd <;> first | (cases hn; done) | simp [method, typeInfo, hin, hm, h1, h2, follow, receiverAt, hu, Place.get]
theorem exec_calli {T : TypeId} {u r : Value} {name : String} {f : FuncId} {args : List Operand} {ats : Array TypeId} {vs : List Value} (hx : Opd F g x (ifc T u).v) (hm : MethAt P T u name f r) (hen : Enters P f) (hargs : Opds F g args vs) (hg : g = true) {a : Act} (G : FrOK K F a) (w : World) {dst : Option Tmp} {gd : Option (Nat × Bool)} :
    (execOp a.eval ⟨dst, .call { callee := .invoke x name, args := args.toArray, argTypes := ats }, ty, pos, af, gd⟩).run P w = .ok (.enter f (r :: vs).toArray) w := by
  have h1 := hargs.eval hg G
  have h2 := hx.eval hg G
  have h3 : (ifc T u).v = .iface T u := rfl
  rw [h3] at h2
  have h4 := hm w
  simp [execOp, resolve, invoke, callMethod, run_callFunc_enter hen, h1, h2, h4]
def IfAt (P : Program) (o : OV) (name : String) (vs : List Value) (w : World) (u : Value) : Prop := ∃ T v r f, o = ifc T v ∧ MethAt P T v name f r ∧ Enters P f ∧ Calls P f (r :: vs).toArray w (RetV w u)
theorem callIf {o : OV} {u2 : Value} {name : String} {args : List Operand} {ats : Array TypeId} {vs : List Value} (hx : Opd F true x o.v) (hargs : Opds F true args vs)
    (hC : ∀ w, WInv K L w → IfAt P o name vs w u2) (next : Sat K N ((d, true, u2) :: F) L) (hd : Nat.blt d K.n = true := by rfl) :
    Sat K (opThen P ops Q ⟨some d, .call { callee := .invoke x name, args := args.toArray, argTypes := ats }, ty, pos, af, none⟩ N) F L := fun a w G => by
  obtain ⟨T, v, r, f, rfl, hm, hen, hc⟩ := hC w G.inv
  refine opThen_plain rfl ?_
  unfold Oper.wp
  rw [exec_calli hx hm hen hargs rfl G.fo]
  refine hc.mono ?_
  rintro e w' ⟨rfl, hk⟩
  exact next _ _ (G.put d true u2 u2 (by simpa [Nat.blt_eq] using hd) rfl (G.inv.grow hk))
theorem Ev.neq_m {kt vt : TypeId} {b : Option Nat} (ht : P.underlying t = some (.map kt vt)) (hx : Opd F g x (.map b)) (hy : Opd F g y (.map none)) : Ev P K F L g (.binOp .neq t x y t') ty (.bool (!b.isNone)) :=
  Ev.bin hx hy (fun w => by unfold eqGuard; rfl) (fun w => run_neq_map_nil w t kt vt b ht)
theorem Ev.lookupFV {kt vt : TypeId} {E : Enc α} {V : Enc β} {q : α → α → Bool} {dd : TypeDesc} {b : Nat} {l : List (α × β)} {k : α} (ht : P.underlying t = some (.map kt vt)) (hu : P.underlying kt = some dd) (hk : KeyOK P kt E q) (hz : (P.info? vt).bind (·.zero) = some (V.val V.zero))
    (hx : Opd F g x (.map (some b))) (hy : Opd F g y (E.val k)) (hm : g = true → ∀ w, WInv K L w → MapAt w b E V l) :
    Ev P K F L g (.lookup t x y false) ty (V.val ((findV q k l).getD V.zero)) := Ev.lookup2 (co := false) ht hu hk hz hx hy hm
theorem Seps.A {w : World} : ∀ (l : List Res) (r : Res), (Seps r l).A w → r.A w ∧ ∀ q ∈ l, q.A w
  | [], r, h => ⟨h, fun q hq => by simp at hq⟩
  | s :: l, r, h => by
    have h1 : r.A w ∧ (Seps s l).A w ∧ _ := h
    obtain ⟨h2, h3⟩ := Seps.A l s h1.2.1
    exact ⟨h1.1, fun q hq => by
      rcases List.mem_cons.1 hq with rfl | hq
      · exact h2
      · exact h3 q hq⟩
theorem takeSeps {l L0 M : List Res} {r : Res} {X : Act → World → Prop} (h : Rem L0 r M) (next : Sat K X F (Seps r l :: M)) : Sat K X F (l ++ L0) :=
  sepsIn ⟨r :: (l ++ M), (List.perm_middle.symm).trans (List.Perm.append_left l h.perm), List.Sublist.refl _⟩ next
end
end Go.Gx
