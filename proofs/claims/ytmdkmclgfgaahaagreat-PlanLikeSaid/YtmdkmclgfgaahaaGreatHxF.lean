/- Part F: make, copy, comparing bytes, small things. -/
import Derived.Lib.Bytealg
import Derived.Laws.Externs
import Derived.Test.YtmdkmclgfgaahaaGreatHxE
set_option linter.unusedVariables false
set_option linter.unusedSimpArgs false
namespace Go.Gx
open Go Go.RowKit
section
variable {α β γ : Type} {P : Program}
variable {K : Ctx} {F : Fr} {L : List Res} {g : Bool} {Q : Exit → Act → World → Prop} {N : Act → World → Prop} {ops : Array Oper}
  {op : Op} {ty t t' : TypeId} {pos : String} {af : Array Edge} {d : Nat} {x y : Operand}
def byteArr (xs : List UInt8) : ByteArray := ⟨xs.toArray⟩
theorem Ev.ext {f : FuncId} {fn : Func} {e : Array Value → Sem Value} {args : List Operand} {ats : Array TypeId} {vs : List Value} {v : Value} (hf : P.funcs[f]? = some fn) (hname : (fn.name == "runtime.NumGoroutine") = false)
    (hb : fn.body.isNone = true) (hn : Extern.findNext fn = none) (he : Extern.find fn = some e) (hargs : Opds F g args vs) (h : ∀ w, WInv K L w → (e vs.toArray).run P w = .ok v w) :
    Ev P K F L g (.call { callee := .value (.func f), args := args.toArray, argTypes := ats }) ty v := fun hg a G w hw dst pos af gd => by
  have h1 := hargs.eval hg G
  simp [execOp, resolve, Deferred.ofValue, invoke, Act.eval, run_callFunc_extern hf hname hb hn he, h1, h w hw]
theorem Ev.extract {i : Nat} {vs : List Value} {v : Value} (hx : Opd F g x (.tuple vs.toArray)) (hv : vs[i]? = some v) : Ev P K F L g (.extract x i) ty v := fun hg a G w hw dst pos af gd => by
  simp [execOp, Instr.extract, hx.eval hg G, hv]
theorem Ev.min_i {m n : Int} (hx : Opd F g x (I m)) (hy : Opd F g y (I n)) {ats : Array TypeId} : Ev P K F L g (.call { callee := .builtin .min, args := #[x, y], argTypes := ats }) ty (I (min m n)) := fun hg a G w hw dst pos af gd => by
  simp [execOp, resolve, invoke, builtin, Builtin.min_, Builtin.min2, hx.eval hg G, hy.eval hg G, I]
  omega
theorem Ev.fieldAddrS {E : Enc α} {v : Value} {xs : List α} {i : Int} {k s f o : Nat} (hx : Opd F g x (elemPtr v k)) (h : ∀ w, WInv K L w → IsSl E w v xs) (hi : g = true → 0 ≤ i ∧ i < xs.length)
    (hf : (P.underlying s).bind (fun d => match d with | .struct fs => (fs[f]?).bind (fun fd => (P.info? fd.type).map (fun i => (fd.offset, Nat.beq i.size 0))) | _ => none) = some (o, false)) :
    Ev P K F L g (.fieldAddr s x f) ty (elemPtr v (k + o)) := fun hg a G w hw dst pos af gd => by
  obtain ⟨b, cap, rfl, h1, _, h2, h3⟩ := h w hw
  have hi' := hi hg
  cases b with
  | none =>
    have := (h2 rfl).1
    subst this
    simp at hi'
    omega
  | some p =>
    have hx' : Opd F g x (.pointer (some ⟨p.block, p.off + k, none⟩)) := hx
    have := Ev.fieldAddr (P := P) (K := K) (L := L) (ty := ty) hx' hf hg a G w hw dst pos af gd
    rw [this, Nat.add_assoc]
    rfl
theorem Ev.loadS0 {E : Enc α} {v : Value} {xs : List α} {i : Int} (T : TyOK P t E) (hx : Opd F g x (elemPtr v (i.toNat * E.size))) (h : ∀ w, WInv K L w → IsSl E w v xs) (hi : g = true → 0 ≤ i ∧ i < xs.length) :
    Ev P K F L g (.load t x) ty (E.val (xs.getD i.toNat E.zero)) := Ev.loadS T (Lens.id E) (Nat.add_zero _).symm hx h hi
theorem Ev.to {v v' : Value} (h : Ev P K F L g op ty v) (e : v = v') : Ev P K F L g op ty v' := e ▸ h
theorem opgF {j tg : Nat} {want c2 : Bool} (hj : (ops[j]?).bind (·.dst) = some tg) (hg : look F tg = some (true, .bool c2)) (hw : c2 = !want) {v : Value}
    (next : Sat K N ((d, false, v) :: F) L) (hd : Nat.blt d K.n = true := by rfl) : Sat K (opThen P ops Q ⟨some d, op, ty, pos, af, some (j, want)⟩ N) F L := fun a w G => by
  have hw' := wanted_of (o := ⟨some d, op, ty, pos, af, some (j, want)⟩) rfl hj hg G.fo
  unfold opThen
  rw [hw', hw]
  have e : (true && ((!want) == want)) = false := by cases want <;> rfl
  rw [e, if_neg Bool.false_ne_true]
  exact next _ _ (G.put d false v undef (by simpa [Nat.blt_eq] using hd) rfl G.inv)
end
end Go.Gx
