/- Part F: make, copy, comparing bytes, small things. -/
import Derived.Lib.Bytealg
import Derived.Laws.Externs
import Derived.Test.YtmdkmclgfgaahaaHxE
set_option linter.unusedVariables false
set_option linter.unusedSimpArgs false
namespace Go.Gx
open Go Go.RowKit
section
variable {α β γ : Type} {P : Program}
variable {K : Ctx} {F : Fr} {L : List Res} {g : Bool} {Q : Exit → Act → World → Prop} {N : Act → World → Prop} {ops : Array Oper}
  {op : Op} {ty t t' : TypeId} {pos : String} {af : Array Edge} {d : Nat} {x y : Operand}
theorem made_toList (E : Enc α) (x : α) (c : Nat) (hsz : 0 < E.size) : (madeCells (E.val x).cells (c * E.size)).toList = E.row (List.replicate c x) := by
  apply List.ext_getElem?
  intro k
  have hz : (E.val x).cells.size = E.size := by simp [E.cells_val, E.len]
  by_cases hk : k < c * E.size
  · have h1 : k / E.size < c := Nat.div_lt_of_lt_mul (by rwa [Nat.mul_comm] at hk)
    have h2 : k % E.size < E.size := Nat.mod_lt _ hsz
    have h3 : k = k / E.size * E.size + k % E.size := by rw [Nat.mul_comm]; exact (Nat.div_add_mod k E.size).symm
    have h4 := E.row_get (List.replicate c x) (k / E.size) (k % E.size) x (by simpa using h1) h2
    rw [← h3] at h4
    rw [h4]
    have h5 : (List.replicate c x).getD (k / E.size) x = x := by simp [List.getD, h1]
    rw [h5]
    have h6 : k % E.size < (E.cells x).length := by rw [E.len]; exact h2
    have h7 : k % E.size < (E.val x).cells.size := by rw [hz]; exact h2
    simp only [madeCells, Array.getElem?_toList, Array.getElem?_map, Array.getElem?_range, hk, if_true, Option.map_some, hz]
    rw [getElem!_pos (E.val x).cells (k % E.size) h7, List.getElem?_eq_getElem h6]
    simp [E.cells_val]
  · rw [List.getElem?_eq_none (by rw [Array.length_toList, size_madeCells]; omega), List.getElem?_eq_none (by rw [E.row_length]; simp; omega)]
theorem makeSl {E : Enc α} {e : TypeId} {l c : Int} {by' : Nat} (ht : P.underlying t = some (.slice e)) (T : TyOK P e E) (hsz : Nat.blt 0 E.size = true) (hz : (P.info? e).map (fun i => (i.zero, i.bytes)) = some (some (E.val E.zero), by'))
    (hx : Opd F true x (I l)) (hy : Opd F true y (I c)) (h0 : 0 ≤ l ∧ l ≤ c) (hb : (by' : Int) * c ≤ 281474976710656 ∧ c ≤ 9223372036854775807)
    (next : ∀ o : OV, Sat K N ((d, true, o.v) :: F) (OwnS o.v E (List.replicate l.toNat E.zero) e :: L)) (hd : Nat.blt d K.n = true := by rfl) :
    Sat K (opThen P ops Q ⟨some d, .makeSlice t x y, ty, pos, af, none⟩ N) F L := fun a w G => by
  refine opThen_plain rfl ?_
  unfold Oper.wp
  cases hi : P.info? e with
  | none => rw [hi] at hz; cases hz
  | some i =>
    rw [hi] at hz
    simp only [Option.map_some, Option.some.injEq, Prod.mk.injEq] at hz
    obtain ⟨hz1, hz2⟩ := hz
    obtain ⟨i', hi', hes⟩ := T.sz
    rw [hi] at hi'
    obtain rfl := Option.some.inj hi'
    have hsz' : 0 < E.size := by simpa [Nat.blt_eq] using hsz
    have hr := run_make (P := P) w t e i (E.val E.zero) ht hi hz1 .i64 .i64 l c h0.1 h0.2 (by rw [hz2]; exact hb.1) hb.2
    rw [hes] at hr
    have he : (execOp a.eval ⟨some d, .makeSlice t x y, ty, pos, af, none⟩).run P w = .ok (.value (.slice (some ⟨w.heap.size, 0, none⟩) l.toNat c.toNat)) (w.alloc (.cells (madeCells (E.val E.zero).cells (c.toNat * E.size)) e)) := by
      have hx' := hx.eval rfl G.fo
      have hy' := hy.eval rfl G.fo
      unfold I at hx' hy'
      simp only [execOp, hx', hy', Sem.run_bind, hr, Result.andThen_ok, Sem.run_pure]
    rw [he]
    have hm : maxLen = 9223372036854775807 := rfl
    refine next ⟨_, rfl⟩ _ _ (G.put d true _ _ (by simpa [Nat.blt_eq] using hd) rfl (G.inv.add (Keeps.alloc _ _ _) ?_ ?_))
    · refine ⟨E.row_length _, .inr ⟨w.heap.size, c.toNat, _, by rw [List.length_replicate], Nat.zero_le _, heap_alloc_new w _, ?_, by omega, ?_, ?_⟩⟩
      · rw [List.length_replicate]; omega
      · rw [size_madeCells]
      · rw [made_toList E E.zero c.toNat hsz', List.length_replicate, E.row_take]
        congr 1
        rw [List.take_replicate, Nat.min_eq_left (by omega)]
    · intro b hb
      have hb' : some w.heap.size = some b := hb
      have := Option.some.inj hb'
      subst this
      exact ⟨Nat.le_refl _, by simp⟩
def byteArr (xs : List UInt8) : ByteArray := ⟨xs.toArray⟩
theorem Ev.ext {f : FuncId} {fn : Func} {e : Array Value → Sem Value} {args : List Operand} {ats : Array TypeId} {vs : List Value} {v : Value} (hf : P.funcs[f]? = some fn) (hname : (fn.name == "runtime.NumGoroutine") = false)
    (hb : fn.body.isNone = true) (hn : Extern.findNext fn = none) (he : Extern.find fn = some e) (hargs : Opds F g args vs) (h : ∀ w, WInv K L w → (e vs.toArray).run P w = .ok v w) :
    Ev P K F L g (.call { callee := .value (.func f), args := args.toArray, argTypes := ats }) ty v := fun hg a G w hw dst pos af gd => by
  have h1 := hargs.eval hg G
  simp [execOp, resolve, Deferred.ofValue, invoke, Act.eval, run_callFunc_extern hf hname hb hn he, h1, h w hw]
theorem Ev.extract {i : Nat} {vs : List Value} {v : Value} (hx : Opd F g x (.tuple vs.toArray)) (hv : vs[i]? = some v) : Ev P K F L g (.extract x i) ty v := fun hg a G w hw dst pos af gd => by
  simp [execOp, Instr.extract, hx.eval hg G, hv]
theorem Ev.min_i {m n : Int} (hx : Opd F g x (I m)) (hy : Opd F g y (I n)) {ats : Array TypeId} : Ev P K F L g (.call { callee := .builtin .min, args := #[x, y], argTypes := ats }) ty (I (min m n)) := fun hg a G w hw dst pos af gd => by
  simp [execOp, resolve, invoke, builtin, Builtin.min_, Builtin.min2, hx.eval hg G, hy.eval hg G, I]
  omega
theorem Ev.fieldAddrS {E : Enc α} {v : Value} {xs : List α} {i : Int} {k s f o : Nat} (hx : Opd F g x (elemPtr v k)) (h : ∀ w, WInv K L w → IsSl E w v xs) (hi : g = true → 0 ≤ i ∧ i < xs.length)
    (hf : (P.underlying s).bind (fun d => match d with | .struct fs => (fs[f]?).bind (fun fd => (P.info? fd.type).map (fun i => (fd.offset, Nat.beq i.size 0))) | _ => none) = some (o, false)) :
    Ev P K F L g (.fieldAddr s x f) ty (elemPtr v (k + o)) := fun hg a G w hw dst pos af gd => by
  obtain ⟨b, cap, rfl, h1, _, h2, h3⟩ := h w hw
  have hi' := hi hg
  cases b with
  | none =>
    have := (h2 rfl).1
    subst this
    simp at hi'
    omega
  | some p =>
    have hx' : Opd F g x (.pointer (some ⟨p.block, p.off + k, none⟩)) := hx
    have := Ev.fieldAddr (P := P) (K := K) (L := L) (ty := ty) hx' hf hg a G w hw dst pos af gd
    rw [this, Nat.add_assoc]
    rfl
theorem Ev.loadS0 {E : Enc α} {v : Value} {xs : List α} {i : Int} (T : TyOK P t E) (hx : Opd F g x (elemPtr v (i.toNat * E.size))) (h : ∀ w, WInv K L w → IsSl E w v xs) (hi : g = true → 0 ≤ i ∧ i < xs.length) :
    Ev P K F L g (.load t x) ty (E.val (xs.getD i.toNat E.zero)) := Ev.loadS T (Lens.id E) (Nat.add_zero _).symm hx h hi
theorem Ev.to {v v' : Value} (h : Ev P K F L g op ty v) (e : v = v') : Ev P K F L g op ty v' := e ▸ h
theorem opgT {dst : Option Tmp} {j tg : Nat} {want c2 : Bool} (hj : (ops[j]?).bind (·.dst) = some tg) (hg : look F tg = some (true, .bool c2)) (hw : c2 = want)
    (h : Sat K (opThen P ops Q ⟨dst, op, ty, pos, af, none⟩ N) F L) : Sat K (opThen P ops Q ⟨dst, op, ty, pos, af, some (j, want)⟩ N) F L := fun a w G => by
  have hw' := wanted_of (o := ⟨dst, op, ty, pos, af, some (j, want)⟩) rfl hj hg G.fo
  have h1 := h a w G
  unfold opThen at h1 ⊢
  rw [hw', hw]
  simp only [Region.wanted, if_true, beq_self_eq_true, Bool.and_self] at h1 ⊢
  exact h1
theorem opgF {j tg : Nat} {want c2 : Bool} (hj : (ops[j]?).bind (·.dst) = some tg) (hg : look F tg = some (true, .bool c2)) (hw : c2 = !want) {v : Value}
    (next : Sat K N ((d, false, v) :: F) L) (hd : Nat.blt d K.n = true := by rfl) : Sat K (opThen P ops Q ⟨some d, op, ty, pos, af, some (j, want)⟩ N) F L := fun a w G => by
  have hw' := wanted_of (o := ⟨some d, op, ty, pos, af, some (j, want)⟩) rfl hj hg G.fo
  unfold opThen
  rw [hw', hw]
  have e : (true && ((!want) == want)) = false := by cases want <;> rfl
  rw [e, if_neg Bool.false_ne_true]
  exact next _ _ (G.put d false v undef (by simpa [Nat.blt_eq] using hd) rfl G.inv)
end
end Go.Gx
