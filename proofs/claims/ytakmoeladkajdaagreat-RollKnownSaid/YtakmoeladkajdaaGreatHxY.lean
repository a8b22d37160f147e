/- Part Y: ranges over functions: the loop, its rounds, functions that call yield. -/
import Derived.RangeFuncRecord
import Derived.TacticsIn
import Derived.OrdersIn
import Derived.Test.YtakmoeladkajdaaGreatHxW
set_option linter.unusedVariables false
set_option linter.unusedSimpArgs false
namespace Go.Gx
open Go Go.RowKit
section
variable {α β γ σ : Type} {P : Program}
variable {K : Ctx} {F : Fr} {L : List Res} {g : Bool} {Q : Exit → Act → World → Prop} {N : Act → World → Prop} {ops : Array Oper} {o : Oper} {rest : List Oper}
  {op : Op} {ty t t' : TypeId} {pos : String} {af : Array Edge} {d : Nat} {x y : Operand} {ro : Option Nat}
abbrev WR (ro : Option Nat) : Fence := { Fence.wide with round := ro }
theorem wr_calls {n : Nat} {f : FuncId} {args : Array Value} {w : World} {R : Ending → World → Prop} (h : Calls P f args w R) : CallsIn (WR ro) n P f args w R := callsIn_wide (n := n).2 h
theorem wr_rows {n : Nat} {row : String} {args : Array Value} {w : World} {R : Value → World → Prop} (h : Rows P row args w R) : RowsIn (WR ro) n P row args w R := fun c cs _ =>
  let ⟨v, w', r, s⟩ := h c cs; ⟨v, w', r, stepsIn_wide.2 s⟩
theorem wr_round {n m : Nat} {ro' : Option Nat} {l : Nat} {f : FuncId} {tm : Array Value} {asg bd : Code} {w : World} {R : Ending → World → Prop} (h : RoundIn (WR ro') m P l f tm asg bd w R) : RoundIn (WR ro) n P l f tm asg bd w R :=
  ⟨trivial, fun c cs _ => h.2 c cs (room_wide _)⟩
structure NoOut (Q : Exit → Act → World → Prop) : Prop where
  no : ¬ LetsOut Q
theorem noThen (h : NoOut Q) : NoOut (Exit.then N Q) := ⟨h.no⟩
theorem noFalse : NoOut (fun _ _ _ => False) := ⟨fun ⟨_, _, h⟩ => h⟩
theorem noBlock {id : Nat} (h : NoOut Q) : NoOut (Exit.inBlock id Q) := ⟨h.no⟩
theorem noBody {fn : Func} {R : Ending → World → Prop} (h : ∀ w, ¬ R .outgrown w) : NoOut (bodyPost P fn R) := ⟨fun ⟨_, w, hw⟩ => h w hw⟩
theorem noBodyM {F : Fence} {n : Nat} {fn : Func} {R : Ending → World → Prop} (h : ∀ w, ¬ R .outgrown w) : NoOut (bodyPostM F n P fn R) := ⟨fun ⟨_, w, hw⟩ => h w hw⟩
theorem noRetR {X : Type} {w0 : World} {r : Res} {J : X → Prop} {val : X → Value} {r' : X → Res} : ∀ w, ¬ RetR w0 r J val r' .outgrown w := fun w ⟨_, _, h, _⟩ => by cases h
theorem noRetN {X : Type} {w0 : World} {J : X → Prop} {val : X → Value} {R : X → List Res} : ∀ w, ¬ RetN w0 J val R .outgrown w := fun w ⟨_, _, h, _⟩ => by cases h
theorem noRetV {w0 : World} {v : Value} : ∀ w, ¬ RetV w0 v .outgrown w := fun w h => by cases h.1
theorem noRetO {w0 : World} {E : Enc α} {xs : List α} {T : TypeId} : ∀ w, ¬ RetO w0 E xs T .outgrown w := fun w ⟨_, h, _⟩ => by cases h
theorem oper_in {n : Nat} (hd : ∀ c, o.op ≠ .defer c) {a : Act} {w : World} (h : o.wp P a w N Q) : o.wpIn (WR ro) n P a w N Q := by
  refine ⟨fun _ _ => trivial, ?_⟩
  rw [Oper.semAt_eq _ _ _ hd]
  unfold Oper.wp at h
  generalize (execOp a.eval o).run P w = r at h ⊢
  cases r with
  | ok v w' =>
    cases v <;> simp only [Oper.upon] at h <;> first
      | exact h
      | exact h.elim
      | exact ⟨fun e => absurd e Bool.false_ne_true, wr_calls h⟩
      | exact ⟨fun e => absurd e Bool.false_ne_true, wr_rows h⟩
  | halt v w' => cases v <;> first | exact h | exact h.elim
def opI (ro : Option Nat) (P : Program) (ops : Array Oper) (Q : Exit → Act → World → Prop) (o : Oper) (N : Act → World → Prop) (a : Act) (w : World) : Prop :=
  if Region.wanted o (yielded ops a.tmps) then o.wpIn (WR ro) 0 P a w N Q else N (a.put o.dst undef) w
theorem opI_of (h : Sat K (opThen P ops Q o N) F L) (hd : ∀ c, o.op ≠ .defer c) (hq : NoOut Q) : Sat K (opI ro P ops Q o N) F L := fun a w G => by
  have h1 := h a w G
  unfold opThen at h1
  unfold opI
  split
  · rename_i hw
    rw [if_pos hw] at h1
    exact oper_in hd (h1.resolve_right fun e => hq.no e.2)
  · rename_i hw
    rw [if_neg hw] at h1
    exact h1
theorem consI (h : Sat K (opI ro P ops Q o (wpListIn (WR ro) 0 P ops Q rest)) F L) : Sat K (wpListIn (WR ro) 0 P ops Q (o :: rest)) F L := fun a w G => by
  have h1 := h a w G
  unfold opI at h1
  unfold wpListIn
  split
  · rename_i hw; rw [if_pos hw] at h1; exact h1
  · rename_i hw; rw [if_neg hw] at h1; exact ⟨fun _ _ => trivial, h1⟩
theorem consT (h : Sat K (opThen P ops Q o (wpListIn (WR ro) 0 P ops Q rest)) F L) (hd : ∀ c, o.op ≠ .defer c := by nofun) (hq : NoOut Q := by repeat first | exact noRd | exact noFalse | exact noBody noRetR | exact noBody noRetN | exact noBody noRetV | exact noBody noRetO | exact noBodyM noRetR | exact noBodyM noRetN | exact noBodyM noRetV | exact noBodyM noRetO | apply noThen | apply noBlock) :
    Sat K (wpListIn (WR ro) 0 P ops Q (o :: rest)) F L := consI (opI_of h hd hq)
theorem nilI (h : Sat K (Q .normal) F L) : Sat K (wpListIn (WR ro) 0 P ops Q []) F L := h
theorem regionI {id : Nat} {l : List Oper} (h : Sat K (wpListIn (WR ro) 0 P l.toArray Q l) F L) : Sat K ((Code.region id l.toArray false).wpIn (WR ro) 0 P Q) F L := fun a w G => wpIn_region_lit (h a w G)
theorem wideI {c : Code} (h : Sat K (c.wpIn (WR none) 0 P Q) F L) : Sat K (c.wp P Q) F L := fun a w G => wpIn_wide.1 (h a w G)
section
variable {md : Region.Mode} {S : World → Prop}
def noDef (ops : Array Oper) : Bool := ops.all fun o => match o.op with | .defer _ => false | _ => true
theorem noDef_of (h : noDef ops = true) {j : Nat} {o : Oper} (hj : ops[j]? = some o) : ∀ c, o.op ≠ .defer c := fun c e => by
  have h1 := Array.all_eq_true'.1 h o (Array.mem_of_getElem? hj)
  rw [e] at h1
  cases h1
theorem yieldsI {i : Nat} {o : Oper} {v : Value} {a : Act} (hi : ops[i]? = some o) (hd : ∀ c, o.op ≠ .defer c) (hy : YieldsIf P ops S o v a)
    {N : Act → World → Prop} {w : World} (hS : S w) (h : N (a.put o.dst v) w) : wpOpIn (WR ro) 0 P ops Q i N a w := by
  unfold Go.wpOpIn
  simp only [hi]
  rcases hy with ⟨hw, hv⟩ | ⟨hw, rfl⟩
  · simp only [hw, if_true]
    refine ⟨fun _ _ => trivial, ?_⟩
    rw [Oper.semAt_eq _ _ _ hd, hv w hS]
    exact h
  · simp only [hw, Bool.false_eq_true, if_false]; exact ⟨fun _ _ => trivial, h⟩
theorem wpOpI_putIf {j : Nat} {oi oj : Oper} {v : Value} (hj : ops[j]? = some oj) (hap : oi.apart ops oj = true)
    (hsi : ∀ cs b, oi.op ≠ .select cs b) (hsj : ∀ cs b, oj.op ≠ .select cs b) (hdj : ∀ c, oj.op ≠ .defer c)
    (hQ : ∀ c a w, Q (.panic c) (a.put oi.dst v) w → Q (.panic c) a w) {N : Act → World → Prop} {a : Act} {w : World}
    (hy : YieldsIf P ops S oi v a) (h : wpOpIn (WR ro) 0 P ops Q j N (a.put oi.dst v) w) :
    wpOpIn (WR ro) 0 P ops Q j (fun a' w' => YieldsIf P ops S oi v a' ∧ N (a'.put oi.dst v) w') a w := by
  obtain ⟨h1, h2, h3⟩ := Oper.apart_spec hap
  have keep : ∀ (a : Act), YieldsIf P ops S oi v a → ∀ u, YieldsIf P ops S oi v (a.put oj.dst u) := fun a hy u =>
    hy.of_same (execOp_put oi hsi a oj.dst u h3) (wanted_put oi a oj.dst u h3)
  unfold wpOpIn at *
  simp only [hj] at *
  rw [wanted_put oj a oi.dst v h1] at h
  split
  · rename_i hw
    simp only [hw, if_true] at h
    refine ⟨fun _ _ => trivial, ?_⟩
    have h := h.2
    rw [Oper.semAt_eq _ _ _ hdj] at h ⊢
    rw [execOp_put oj hsj a oi.dst v h1] at h
    generalize (execOp a.eval oj).run P w = r at *
    cases r with
    | ok n w' =>
      cases n <;> simp only [Oper.uponIn] at h ⊢
      case value u => exact ⟨keep a hy u, by rw [← Act.put_comm a v u h2]; exact h⟩
      case skip => exact ⟨keep a hy _, by rw [← Act.put_comm a v undef h2]; exact h⟩
      case defer d => exact ⟨keep { a with defers := d :: a.defers } (hy.of_same rfl rfl) _, by rw [← Act.put_comm _ v undef h2, ← Act.put_defers]; exact h⟩
      case enter f args =>
        refine ⟨h.1, CallsIn.mono h.2 fun e w'' he => ?_⟩
        cases e with
        | returned u => exact ⟨keep a hy u, by rw [← Act.put_comm a v u h2]; exact he⟩
        | panicked c => exact hQ _ _ _ he
        | outgrown => exact he
      case row row args => exact ⟨h.1, RowsIn.mono h.2 fun u w'' he => ⟨keep a hy u, by rw [← Act.put_comm a v u h2]; exact he⟩⟩
      case round l f tm asg bd =>
        refine ⟨h.1, RoundIn.mono h.2 fun e w'' he => ?_⟩
        cases e with
        | returned u => exact ⟨keep a hy u, by rw [← Act.put_comm a v u h2]; exact he⟩
        | panicked c => exact hQ _ _ _ he
        | outgrown => exact he
    | halt x w' =>
      cases x <;> simp only [Oper.uponIn] at h ⊢
      case panic u => exact hQ _ _ _ h
  · rename_i hw
    simp only [hw] at h
    exact ⟨fun _ _ => trivial, keep a hy _, by rw [← Act.put_comm a v undef h2]; exact h.2⟩
def wpAnyHI (ro : Option Nat) (P : Program) (md : Region.Mode) (ops : Array Oper) (Q : Exit → Act → World → Prop) (S : World → Prop) : Nat → Array Bool → Act → World → Prop
  | 0, listed, a, w => Region.ready md ops listed = [] ∧ Q .normal a w
  | fuel + 1, listed, a, w =>
    (Region.ready md ops listed = [] → Q .normal a w) ∧
    ∀ i ∈ Region.ready md ops listed, wpOpIn (WR ro) 0 P ops Q i (fun a' w' => S w' ∧ wpAnyHI ro P md ops Q S fuel (listed.setIfInBounds i true) a' w') a w
theorem wpAnyIn_heldI : ∀ (fuel : Nat) (listed : Array Bool) (a : Act) (w : World), wpAnyHI ro P md ops Q S fuel listed a w → wpAnyIn (WR ro) 0 P md ops Q fuel listed a w
  | 0, _, _, _, h => h
  | fuel + 1, _, _, _, h => ⟨h.1, fun i hi => wpOpIn_mono (fun a' w' h' => wpAnyIn_heldI fuel _ a' w' h'.2) (h.2 i hi)⟩
theorem wpAnyHI_first (hnd : noDef ops = true) {i : Nat} {oi : Oper} {v : Value} (hi : ops[i]? = some oi) (hsel : ∀ (j : Nat) (o : Oper) cs b, ops[j]? = some o → o.op ≠ .select cs b)
    (hQ : ∀ c a w, Q (.panic c) (a.put oi.dst v) w → Q (.panic c) a w) :
    ∀ (fuel : Nat) (listed : Array Bool) (a : Act) (w : World),
      (∀ j oj, ops[j]? = some oj → j ≠ i → listed.getD j true = false → (∀ e ∈ oj.after, Region.binds md e = true → e.on ≠ i) → oi.apart ops oj = true) →
      i ∈ Region.ready md ops listed → YieldsIf P ops S oi v a → S w →
      wpAnyHI ro P md ops Q S fuel (listed.setIfInBounds i true) (a.put oi.dst v) w → wpAnyHI ro P md ops Q S (fuel + 1) listed a w := by
  intro fuel
  induction fuel with
  | zero =>
    intro listed a w _ hr hy hS H
    refine ⟨fun h => (by rw [h] at hr; cases hr), fun j hj => ?_⟩
    by_cases hji : j = i
    · subst hji; exact yieldsI hi (noDef_of hnd hi) hy hS ⟨hS, H⟩
    · have := ready_mono hj hji
      rw [H.1] at this
      cases this
  | succ fuel ih =>
    intro listed a w hfree hr hy hS H
    refine ⟨fun h => (by rw [h] at hr; cases hr), fun j hj => ?_⟩
    by_cases hji : j = i
    · subst hji; exact yieldsI hi (noDef_of hnd hi) hy hS ⟨hS, H⟩
    · have h1 := H.2 j (ready_mono hj hji)
      obtain ⟨hjun, oj, hoj, hall⟩ := mem_ready.1 hj
      have hnot : ∀ e ∈ oj.after, Region.binds md e = true → e.on ≠ i := fun e he hb heq => by
        have h1 := hall e he hb
        have h0 := (mem_ready.1 hr).1
        rw [heq] at h1
        rcases Nat.lt_or_ge i listed.size with h' | h'
        · simp [h'] at h0 h1; rw [h0] at h1; cases h1
        · simp [Array.getElem?_eq_none h'] at h1
      have h2 := wpOpI_putIf hoj (hfree j oj hoj hji hjun hnot) (fun cs b => hsel i oi cs b hi) (fun cs b => hsel j oj cs b hoj) (noDef_of hnd hoj) hQ hy h1
      have hfree' : ∀ k ok, ops[k]? = some ok → k ≠ i → (listed.setIfInBounds j true).getD k true = false →
          (∀ e ∈ ok.after, Region.binds md e = true → e.on ≠ i) → oi.apart ops ok = true := fun k ok hk hki hun hno => by
        refine hfree k ok hk hki ?_ hno
        by_cases hjk : j = k
        · subst hjk; exact hjun
        · rw [getD_set_ne true hjk] at hun; exact hun
      refine wpOpIn_mono (fun a' w' h3 => ⟨h3.2.1, ih (listed.setIfInBounds j true) a' w' hfree' (ready_mono hr (Ne.symm hji)) h3.1 h3.2.1 ?_⟩) h2
      rw [Array.setIfInBounds_comm _ _ hji]
      exact h3.2.2
end
abbrev heldY (ro : Option Nat) (P : Program) (K : Ctx) (ops : Array Oper) (Q : Exit → Act → World → Prop) (Lq : List Res) (fuel : Nat) (listed : Array Bool) : Act → World → Prop :=
  wpAnyHI ro P .any ops (NoPanic Q) (fun w => WInv K Lq w) fuel listed
theorem noPanicQ (h : NoOut Q) : NoOut (NoPanic Q) := ⟨fun ⟨a, w, hq⟩ => h.no ⟨a, w, hq⟩⟩
theorem drawIn {id : Nat} {l : List Oper} (Lq : List Res) (hm : P.follows .mixedOrders = true)
    (h : Sat K (heldY ro P K l.toArray Q Lq l.toArray.size (Array.replicate l.toArray.size false)) F L) : Sat K ((Code.region id l.toArray true).wpIn (WR ro) 0 P Q) F L := fun a w G => by
  have h1 : (Code.region id l.toArray true).wpIn (WR ro) 0 P (NoPanic Q) a w := wpIn_region_draw fun t => by
    simp only [Region.schedule, hm, Bool.true_or, if_true]
    exact wpAnyIn_sound l.toArray.size t _ a _ (wpAnyIn_heldI _ _ _ _ (h a _ (G.world (G.inv.grow (Keeps.drew _ _)))))
  refine wpIn_mono h1 ?_
  intro e a' w' hq
  cases e <;> first | exact hq | exact hq.elim | (simp [NoPanic] at hq)
theorem tkI {Lq : List Res} {fuel : Nat} {listed : Array Bool} {v : Value} (i : Nat) (hi : ops[i]? = some ⟨some d, op, ty, pos, af, none⟩)
    (h : Ev P K F Lq true op ty v) (next : Sat K (heldY ro P K ops Q Lq fuel (listed.setIfInBounds i true)) ((d, true, v) :: F) L)
    (hnd : noDef ops = true := by kernel_rfl) (hs : Region.noSelect ops = true := by kernel_rfl) (hf : Region.free .any ops listed i = true := by kernel_rfl) (hr : (Region.ready .any ops listed).contains i = true := by kernel_rfl)
    (hL : Lq.Sublist L := by repeat first | exact sR | exact sN | apply sC | apply sS | apply sA) (hd : Nat.blt d K.n = true := by rfl) :
    Sat K (heldY ro P K ops Q Lq (fuel + 1) listed) F L := fun a w G => by
  refine wpAnyHI_first (oi := ⟨some d, op, ty, pos, af, none⟩) (v := v) hnd hi (Region.noSelect_spec hs) (fun c a w h => h) fuel listed a w (Region.free_spec hi hf) (by simpa using hr) (.inl ⟨by simp [Region.wanted], fun w' hw' => h rfl a G.fo w' hw' _ _ _ _⟩) (G.inv.sub hL) ?_
  exact next _ _ (G.put d true v v (by simpa [Nat.blt_eq] using hd) rfl G.inv)
theorem tkgI {Lq : List Res} {fuel : Nat} {listed : Array Bool} {v : Value} {j tg : Nat} {want c1 c2 : Bool} (i : Nat) (hi : ops[i]? = some ⟨some d, op, ty, pos, af, some (j, want)⟩)
    (hj : (ops[j]?).bind (·.dst) = some tg) (hg : look F tg = some (c1, .bool c2))
    (h : Ev P K F Lq (c1 && (c2 == want)) op ty v) (next : Sat K (heldY ro P K ops Q Lq fuel (listed.setIfInBounds i true)) ((d, (c1 && (c2 == want)), v) :: F) L)
    (hnd : noDef ops = true := by kernel_rfl) (hs : Region.noSelect ops = true := by kernel_rfl) (hf : Region.free .any ops listed i = true := by kernel_rfl) (hr : (Region.ready .any ops listed).contains i = true := by kernel_rfl)
    (hL : Lq.Sublist L := by repeat first | exact sR | exact sN | apply sC | apply sS | apply sA) (hd : Nat.blt d K.n = true := by rfl) :
    Sat K (heldY ro P K ops Q Lq (fuel + 1) listed) F L := fun a w G => by
  have hw := wanted_of (o := ⟨some d, op, ty, pos, af, some (j, want)⟩) rfl hj hg G.fo
  have hd' : d < K.n := by simpa [Nat.blt_eq] using hd
  cases hc : (c1 && (c2 == want)) with
  | true =>
    rw [hc] at hw
    rw [hc] at next
    refine wpAnyHI_first (oi := ⟨some d, op, ty, pos, af, some (j, want)⟩) (v := v) hnd hi (Region.noSelect_spec hs) (fun c a w h => h) fuel listed a w (Region.free_spec hi hf) (by simpa using hr) (.inl ⟨hw, fun w' hw' => h hc a G.fo w' hw' _ _ _ _⟩) (G.inv.sub hL) ?_
    exact next _ _ (G.put d true v v hd' rfl G.inv)
  | false =>
    rw [hc] at hw
    rw [hc] at next
    refine wpAnyHI_first (oi := ⟨some d, op, ty, pos, af, some (j, want)⟩) (v := undef) hnd hi (Region.noSelect_spec hs) (fun c a w h => h) fuel listed a w (Region.free_spec hi hf) (by simpa using hr) (.inr ⟨hw, rfl⟩) (G.inv.sub hL) ?_
    exact next _ _ (G.put d false v undef hd' rfl G.inv)
def heldYN (ro : Option Nat) (P : Program) (K : Ctx) (ops : Array Oper) (Q : Exit → Act → World → Prop) (Lq : List Res) (fuel : Nat) (listed : Array Bool) (a : Act) (w : World) : Prop :=
  WInv K Lq w ∧ heldY ro P K ops Q Lq fuel listed a w
theorem hdnI {Lq : List Res} {fuel : Nat} {listed : Array Bool} (h : Sat K (heldY ro P K ops Q Lq fuel listed) F L) (hL : Lq.Sublist L := by repeat first | exact sR | exact sN | apply sC | apply sS | apply sA) : Sat K (heldYN ro P K ops Q Lq fuel listed) F L :=
  fun a w G => ⟨G.inv.sub hL, h a w G⟩
def EachI (ro : Option Nat) (K : Ctx) (F : Fr) (L : List Res) (P : Program) (ops : Array Oper) (Q : Exit → Act → World → Prop) (Lq : List Res) (fuel : Nat) (listed : Array Bool) (rs : List Nat) : Prop :=
  ∀ i ∈ rs, ∃ o, ops[i]? = some o ∧ Sat K (opI ro P ops (NoPanic Q) o (heldYN ro P K ops Q Lq fuel (listed.setIfInBounds i true))) F L
theorem EachI.nil {Lq : List Res} {fuel : Nat} {listed : Array Bool} : EachI ro K F L P ops Q Lq fuel listed [] := fun _ h => absurd h List.not_mem_nil
theorem EachI.cons {Lq : List Res} {fuel : Nat} {listed : Array Bool} {i : Nat} {rs : List Nat} {o : Oper} (ho : ops[i]? = some o) (h : Sat K (opI ro P ops (NoPanic Q) o (heldYN ro P K ops Q Lq fuel (listed.setIfInBounds i true))) F L)
    (hr : EachI ro K F L P ops Q Lq fuel listed rs) : EachI ro K F L P ops Q Lq fuel listed (i :: rs) := fun j hj => by
  rcases List.mem_cons.1 hj with rfl | hj
  · exact ⟨o, ho, h⟩
  · exact hr j hj
theorem allI {Lq : List Res} {fuel : Nat} {listed : Array Bool} (rs : List Nat) (hr : Region.ready .any ops listed = rs) (hne : rs ≠ [])
    (h : EachI ro K F L P ops Q Lq fuel listed rs) : Sat K (heldY ro P K ops Q Lq (fuel + 1) listed) F L := fun a w G => by
  refine ⟨fun h0 => absurd (hr ▸ h0) hne, fun i hi => ?_⟩
  rw [hr] at hi
  obtain ⟨o, ho, hs⟩ := h i hi
  have := hs a w G
  unfold opI at this
  unfold wpOpIn
  simp only [ho]
  split
  · rename_i hw; rw [if_pos hw] at this; exact this
  · rename_i hw; rw [if_neg hw] at this; exact ⟨fun _ _ => trivial, this⟩
theorem al1I {Lq : List Res} {fuel : Nat} {listed : Array Bool} (i : Nat) {o : Oper} (ho : ops[i]? = some o) (h : Sat K (opI ro P ops (NoPanic Q) o (heldYN ro P K ops Q Lq fuel (listed.setIfInBounds i true))) F L)
    (hr : Region.ready .any ops listed = [i] := by kernel_rfl) : Sat K (heldY ro P K ops Q Lq (fuel + 1) listed) F L := allI [i] hr (List.cons_ne_nil _ _) (.cons ho h .nil)
theorem ovrI {Lq : List Res} {fuel : Nat} {listed : Array Bool} (h : Sat K (Q .normal) F L) (hr : Region.ready .any ops listed = [] := by kernel_rfl) :
    Sat K (heldY ro P K ops Q Lq fuel listed) F L := fun a w G => by
  cases fuel with
  | zero => exact ⟨hr, NoPanic.normal (h a w G)⟩
  | succ n => exact ⟨fun _ => NoPanic.normal (h a w G), by rw [hr]; simp⟩
theorem Ev.vac {v : Value} (hg : g = false) : Ev P K F L g op ty v := fun h => by rw [hg] at h; cases h
theorem opgTI {dst : Option Nat} {j tg : Nat} {want c2 : Bool} (hj : (ops[j]?).bind (·.dst) = some tg) (hg : look F tg = some (true, .bool c2)) (hw : c2 = want)
    (h : Sat K (opI ro P ops Q ⟨dst, op, ty, pos, af, none⟩ N) F L) : Sat K (opI ro P ops Q ⟨dst, op, ty, pos, af, some (j, want)⟩ N) F L := fun a w G => by
  have hw' := wanted_of (o := ⟨dst, op, ty, pos, af, some (j, want)⟩) rfl hj hg G.fo
  have h1 := h a w G
  unfold opI at h1 ⊢
  rw [if_pos (by simp [Region.wanted])] at h1
  rw [if_pos (by rw [hw', hw]; cases want <;> rfl)]
  exact h1
theorem gd {ζ : Type} {Fa : ζ → Fr} {La : ζ → List Res} {Q : Exit → Act → World → Prop} (z : ζ) (hF : Sub F (Fa z)) (hL : (La z).Sublist L) : Sat K (Exit.then (fun a' w' => ∃ z, Good K (Fa z) (La z) a' w') Q .normal) F L := fun a w G => ⟨z, G.sub hF hL⟩
theorem opT (h : Sat K (opThen P ops Q o N) F L) (hd : ∀ c, o.op ≠ .defer c := by nofun) (hq : NoOut Q := by first | exact noPanicQ noRd | exact noPanicQ noFalse | (refine noPanicQ ?_; repeat first | exact noRd | exact noFalse | exact noBody noRetR | exact noBody noRetN | exact noBody noRetV | exact noBody noRetO | exact noBodyM noRetR | exact noBodyM noRetN | exact noBodyM noRetV | exact noBodyM noRetO | apply noThen | apply noBlock)) : Sat K (opI ro P ops Q o N) F L := opI_of h hd hq
theorem seqI {x y : Code} (h : Sat K (x.wpIn (WR ro) 0 P (Exit.then (y.wpIn (WR ro) 0 P Q) Q)) F L) : Sat K ((Code.seq x y).wpIn (WR ro) 0 P Q) F L := fun a w G => wpIn_seq (h a w G)
theorem skipI (h : Sat K (Q .normal) F L) : Sat K (Code.skip.wpIn (WR ro) 0 P Q) F L := fun a w G => wpIn_skip (h a w G)
theorem blockI {id : Nat} {c : Code} (h : Sat K (c.wpIn (WR ro) 0 P (Exit.inBlock id Q)) F L) : Sat K ((Code.block id c).wpIn (WR ro) 0 P Q) F L := fun a w G => wpIn_block (h a w G)
theorem iteI {t : Nat} {b : Bool} {x y : Code} (hb : look F t = some (true, .bool b)) (h1 : b = true → Sat K (x.wpIn (WR ro) 0 P Q) F L) (h2 : b = false → Sat K (y.wpIn (WR ro) 0 P Q) F L) :
    Sat K ((Code.cond (.tmp t) x y).wpIn (WR ro) 0 P Q) F L := fun a w G => by
  have hv : a.eval (.tmp t) = .bool b := (Opd.t hb : Opd F true (.tmp t) (.bool b)).eval rfl G.fo
  exact wpIn_cond_split hv (fun h => h1 h a w G) (fun h => h2 h a w G)
theorem iteDI {t : Nat} {p : Prop} [Decidable p] {x y : Code} (hb : look F t = some (true, .bool (decide p))) (h1 : p → Sat K (x.wpIn (WR ro) 0 P Q) F L) (h2 : ¬ p → Sat K (y.wpIn (WR ro) 0 P Q) F L) :
    Sat K ((Code.cond (.tmp t) x y).wpIn (WR ro) 0 P Q) F L := iteI hb (fun h => h1 (of_decide_eq_true h)) (fun h => h2 (of_decide_eq_false h))
def CallsV (P : Program) (v : Value) (args : List Value) (w : World) (R : Ending → World → Prop) : Prop :=
  (∃ f fst cap, v = (bnd f fst cap).v ∧ Enters P f ∧ Calls P f (fst ++ args ++ cap).toArray w R) ∨
  (∃ l f tm asg bd, v = .func (.yield l) #[] #[] ∧ (Instr.yield l args.toArray).run P w = .ok (.round l f tm asg bd) w ∧ RoundIn (WR none) 0 P l f tm asg bd w R)
theorem CallsV.of {f : FuncId} {fst cap args : List Value} {w : World} {R : Ending → World → Prop} (hen : Enters P f) (h : Calls P f (fst ++ args ++ cap).toArray w R) : CallsV P (bnd f fst cap).v args w R := .inl ⟨f, fst, cap, rfl, hen, h⟩
theorem CallsV.mono {v : Value} {args : List Value} {w : World} {R R' : Ending → World → Prop} (h : CallsV P v args w R) (hr : ∀ e w', R e w' → R' e w') : CallsV P v args w R' := by
  rcases h with ⟨f, fst, cap, h1, h2, h3⟩ | ⟨l, f, tm, asg, bd, h1, h2, h3⟩
  · exact .inl ⟨f, fst, cap, h1, h2, h3.mono hr⟩
  · exact .inr ⟨l, f, tm, asg, bd, h1, h2, h3.mono hr⟩
theorem exec_yield {l : Nat} {f : FuncId} {tm : Array Value} {asg bd : Code} {args : List Operand} {ats : Array TypeId} {vs : List Value} (hx : Opd F g x (.func (.yield l) #[] #[])) (hargs : Opds F g args vs) (hg : g = true) {a : Act} (G : FrOK K F a) (w : World) {dst : Option Tmp} {gd : Option (Nat × Bool)}
    (h : (Instr.yield l vs.toArray).run P w = .ok (.round l f tm asg bd) w) :
    (execOp a.eval ⟨dst, .call { callee := .value x, args := args.toArray, argTypes := ats }, ty, pos, af, gd⟩).run P w = .ok (.round l f tm asg bd) w := by
  have h1 := hargs.eval hg G
  have h2 := hx.eval hg G
  simp [execOp, resolve, Deferred.ofValue, invoke, h1, h2, h]
theorem callY {X : Type} {yv : Value} {args : List Operand} {ats : Array TypeId} {vs : List Value} {r : Res} {r' : X → Res} {L' : X → List Res} (J : X → Prop) (val : X → Value) (hu : ∀ q, Upd L r (r' q) (L' q)) (hx : Opd F true x yv) (hargs : Opds F true args vs)
    (hC : ∀ w, WInv K L w → CallsV P yv vs w (RetR w r J val r')) (next : ∀ q, J q → Sat K N ((d, true, val q) :: F) (L' q)) (hd : Nat.blt d K.n = true := by rfl) :
    Sat K (opI ro P ops Q ⟨some d, .call { callee := .value x, args := args.toArray, argTypes := ats }, ty, pos, af, none⟩ N) F L := fun a w G => by
  unfold opI
  rw [if_pos (by simp [Region.wanted])]
  refine ⟨fun _ _ => trivial, ?_⟩
  rw [Oper.semAt_eq _ _ _ (by nofun)]
  have key : ∀ e w', RetR w r J val r' e w' → (match e with
       | .returned v => N (a.put (some d) v) w'
       | .panicked chain => Q (.panic chain) a w'
       | .outgrown => LetsOut Q) := by
    rintro e w' ⟨q, hJ, rfl, hk, ha, hf⟩
    exact next q hJ _ _ (G.put d true (val q) (val q) (by simpa [Nat.blt_eq] using hd) rfl (G.inv.upd (hu q) hk ha hf))
  rcases hC w G.inv with ⟨f, fst, cap, rfl, hen, hc⟩ | ⟨l, f, tm, asg, bd, rfl, hy, hc⟩
  · rw [exec_callb hx hen hargs rfl G.fo]
    exact ⟨fun e => absurd e Bool.false_ne_true, wr_calls (hc.mono fun e w' h => by have := key e w' h; cases e <;> exact this)⟩
  · rw [exec_yield hx hargs rfl G.fo w hy]
    exact ⟨fun e => absurd e Bool.false_ne_true, wr_round (hc.mono fun e w' h => by have := key e w' h; cases e <;> exact this)⟩
def YieldAt (P : Program) (yv : Value) (enc : α → List Value) (w0 : World) (M : Nat → Prop) (ok : α → σ → Prop) (S : σ → Res) (J : α → σ → Bool × σ → Prop) : Prop :=
  ∀ x s w, ok x s → Keeps M w0 w → At (S s) w → (∀ b, (S s).foot b → w0.heap.size ≤ b ∨ M b) → CallsV P yv (enc x) w (RetR w (S s) (J x s) (fun q => .bool q.1) (fun q => S q.2))
theorem YieldAt.call {yv : Value} {enc : α → List Value} {ok : α → σ → Prop} {S : σ → Res} {J : α → σ → Bool × σ → Prop} (h : YieldAt P yv enc K.w0 K.M ok S J) {x : α} {s : σ} (hx : ok x s) (hm : S s ∈ L) (w : World) (I : WInv K L w) :
    CallsV P yv (enc x) w (RetR w (S s) (J x s) (fun q => .bool q.1) (fun q => S q.2)) :=
  h x s w hx I.keeps (at_mem hm w I) (fun b hb => ((I.own _ hm).2 b hb).1)
def RunsY (J : α → σ → Bool × σ → Prop) : List α → σ → σ → Prop
  | [], s, t => t = s
  | x :: xs, s, t => ∃ q, J x s q ∧ (if q.1 = true then RunsY J xs q.2 t else t = q.2)
theorem WInv.later {r : Res} {w w' : World} (I : WInv K L w) (hm : r ∈ L) (k : Keeps r.foot w w') : Keeps K.M K.w0 w' :=
  I.keeps.trans' k (fun i hi hr => (((I.own r hm).2 i hr).1).resolve_left (by omega))
theorem YieldAt.later {yv : Value} {enc : α → List Value} {ok : α → σ → Prop} {S : σ → Res} {J : α → σ → Bool × σ → Prop} (h : YieldAt P yv enc K.w0 K.M ok S J) {s : σ} (hm : S s ∈ L) (w : World) (I : WInv K L w) :
    YieldAt P yv enc w (S s).foot ok S J := fun x s' w' hx k ha hf => h x s' w' hx (I.later hm k) ha (fun b hb => by
  rcases hf b hb with h1 | h1
  · exact .inl (Nat.le_trans I.keeps.size h1)
  · exact ((I.own _ hm).2 b h1).1)
def RunsB (J : α → σ → Bool × σ → Prop) : List α → σ → Bool × σ → Prop
  | [], s, q => q = (true, s)
  | x :: xs, s, q => ∃ r, J x s r ∧ (if r.1 = true then RunsB J xs r.2 q else q = (false, r.2))
theorem RunsB.append {J : α → σ → Bool × σ → Prop} : ∀ {xs ys : List α} {s : σ} {r q : Bool × σ}, RunsB J xs s r → (if r.1 = true then RunsB J ys r.2 q else q = (false, r.2)) → RunsB J (xs ++ ys) s q
  | [], ys, s, r, q, h, k => by
    rw [show r = (true, s) from h] at k
    exact k
  | x :: xs, ys, s, r, q, ⟨z, hz, h⟩, k => by
    refine ⟨z, hz, ?_⟩
    split
    · rename_i hb
      rw [if_pos hb] at h
      exact RunsB.append h k
    · rename_i hb
      rw [if_neg hb] at h
      rw [h] at k
      exact k
def Okay (ok : α → σ → Prop) (J : α → σ → Bool × σ → Prop) : List α → σ → Prop
  | [], _ => True
  | x :: xs, s => ok x s ∧ ∀ q, J x s q → q.1 = true → Okay ok J xs q.2
theorem Okay.left {ok : α → σ → Prop} {J : α → σ → Bool × σ → Prop} : ∀ {xs ys : List α} {s : σ}, Okay ok J (xs ++ ys) s → Okay ok J xs s
  | [], _, _, _ => trivial
  | _ :: _, _, _, ⟨h1, h2⟩ => ⟨h1, fun q hq hb => (h2 q hq hb).left⟩
theorem Okay.right {ok : α → σ → Prop} {J : α → σ → Bool × σ → Prop} : ∀ {xs ys : List α} {s : σ} {q : Bool × σ}, Okay ok J (xs ++ ys) s → RunsB J xs s q → q.1 = true → Okay ok J ys q.2
  | [], ys, s, q, h, hr, _ => by rw [show q = (true, s) from hr]; exact h
  | x :: xs, ys, s, q, ⟨h1, h2⟩, ⟨z, hz, h⟩, hb => by
    by_cases hz1 : z.1 = true
    · rw [if_pos hz1] at h
      exact (h2 z hz hz1).right h hb
    · rw [if_neg hz1] at h
      rw [h] at hb
      cases hb
theorem RunsB.runs {J : α → σ → Bool × σ → Prop} : ∀ {xs : List α} {s : σ} {q : Bool × σ}, RunsB J xs s q → RunsY J xs s q.2
  | [], s, q, h => by rw [show q = (true, s) from h]; rfl
  | x :: xs, s, q, ⟨z, hz, h⟩ => by
    refine ⟨z, hz, ?_⟩
    split
    · rename_i hb
      rw [if_pos hb] at h
      exact RunsB.runs h
    · rename_i hb
      rw [if_neg hb] at h
      rw [h]
def IterAt (P : Program) (gv : Value) (enc : α → List Value) (w0 : World) (M : Nat → Prop) (xs : List α) : Prop :=
  ∀ (σ : Type) (S : σ → Res) (ok : α → σ → Prop) (J : α → σ → Bool × σ → Prop) (yv : OV) (w : World) (s : σ), Okay ok J xs s → Keeps M w0 w → (∀ b, (S s).foot b → w0.heap.size ≤ b ∨ M b) → At (S s) w →
    YieldAt P yv.v enc w (S s).foot ok S J → CallsV P gv [yv.v] w (RetR w (S s) (RunsY J xs s) (fun _ => .tuple #[]) S)
def Blk (b : Nat) (o : Obj) : Res where
  foot := fun k => k = b
  A := fun w => w.heap[b]? = some o
  st := fun w w' h h1 => by rw [h b rfl]; exact h1
def Dm (m : List Nat) : Res where
  foot := fun k => k ∈ m
  A := fun w => m.Nodup ∧ ∀ D ∈ m, w.heap[D]? = some (.deferred (some []))
  st := fun w w' h ⟨h1, h2⟩ => ⟨h1, fun D hD => by rw [h D hD]; exact h2 D hD⟩
theorem dm0 {X : Act → World → Prop} (h : Sat K X F (Dm [] :: L)) : Sat K X F L := fun a w G => h a w (G.world (G.inv.add (Keeps.refl _ _) ⟨List.nodup_nil, fun _ h => absurd h List.not_mem_nil⟩ (fun b hb => absurd hb List.not_mem_nil)))
theorem Keeps.putObj {M : Nat → Prop} (w : World) {l : Nat} (o : Obj) (h : M l) : Keeps M w (w.putObj l o) :=
  ⟨rfl, rfl, rfl, by simp, fun k _ hm => World.putObj_heap_other (fun e => hm (e ▸ h))⟩
def MS (S : σ → Res) (s : σ) (n0 : Nat) : Nat → Prop := fun b => (S s).foot b ∨ n0 ≤ b
def rdEnds (w : World) (S : σ → Res) (s : σ) (n0 : Nat) (J : σ → Prop) (w' : World) : Prop := ∃ s', J s' ∧ Keeps (MS S s n0) w w' ∧ (S s').A w' ∧ ∀ b, (S s').foot b → ((S s).foot b ∨ n0 ≤ b) ∧ b < w'.heap.size
def rdQ (w : World) (S : σ → Res) (s : σ) (n0 : Nat) (Jn : σ → Prop) (Jx : Code → σ → Prop) : Exit → Act → World → Prop
  | .normal, _, w' => rdEnds w S s n0 Jn w'
  | .ret, _, w' => rdEnds w S s n0 (Jx .ret) w'
  | .exit id, _, w' => rdEnds w S s n0 (Jx (.exit id)) w'
  | _, _, _ => False
theorem noRd {w : World} {S : σ → Res} {s : σ} {n0 : Nat} {Jn : σ → Prop} {Jx : Code → σ → Prop} : NoOut (rdQ w S s n0 Jn Jx) := ⟨fun ⟨_, _, h⟩ => h⟩
theorem rdEnd {n n0 : Nat} {w0 : World} {L : List Res} {S : σ → Res} {s : σ} {J : σ → Prop} (hn : n0 ≤ w0.heap.size) (s' : σ) (hJ : J s') (hm : S s' ∈ L) (w : World) (h : WInv ⟨n, w0, MS S s n0⟩ L w) : rdEnds w0 S s n0 J w :=
  ⟨s', hJ, h.keeps, (h.own _ hm).1, fun b hb => ⟨by
    rcases ((h.own _ hm).2 b hb).1 with h1 | h1
    · exact .inr (Nat.le_trans hn h1)
    · exact h1, ((h.own _ hm).2 b hb).2⟩⟩
theorem rdN {n n0 : Nat} {w0 : World} {S : σ → Res} {s : σ} {Jn : σ → Prop} {Jx : Code → σ → Prop} (hn : n0 ≤ w0.heap.size) (s' : σ) (hJ : Jn s') (hm : S s' ∈ L) : Sat ⟨n, w0, MS S s n0⟩ (rdQ w0 S s n0 Jn Jx .normal) F L := fun a w G => rdEnd hn s' hJ hm w G.inv
def putF : List Nat → List Value → Fr → Fr
  | p :: ps, v :: vs, F => putF ps vs ((p, true, v) :: F)
  | _, _, F => F
theorem frOK_putF : ∀ (ps : List Nat) (vs : List Value) (F : Fr) (a : Act), FrOK K F a → (∀ p ∈ ps, p < K.n) → FrOK K (putF ps vs F) ⟨(ps.zip vs).foldl (fun t (p, v) => t.setIfInBounds p v) a.tmps, a.defers⟩
  | [], _, F, a, h, _ => h
  | _ :: _, [], F, a, h, _ => h
  | p :: ps, v :: vs, F, a, h, hp => by
    have h1 := h.put p true v v (hp p List.mem_cons_self) rfl
    exact frOK_putF ps vs _ _ h1 (fun q hq => hp q (List.mem_cons_of_mem _ hq))
theorem FrOK.marks {F : Fr} {a : Act} (h : FrOK K F a) (m : List Nat) : FrOK K (dm m :: F) ⟨a.tmps, m.map mkD⟩ :=
  ⟨h.size, h.le, fun c v hl => by
    have e : look0 (dm m :: F) DS = some (true, mkV m) := rfl
    rw [e] at hl
    cases hl
    exact ⟨m, rfl, rfl⟩, fun t c v hl => by
    obtain ⟨hne, hl⟩ := look_at hl
    have e : look0 (dm m :: F) t = look0 F t := by
      have : Nat.beq 1000000 t = false := beq_ne (fun e => hne e.symm)
      simp only [look0, this, cond_false]
    rw [e] at hl
    exact h.fr t c v (by rw [look_of hne]; exact hl)⟩
def lrec (fn : FuncId) (tm : Array Value) (ps : Array Tmp) (asg bd : Code) (D : Nat) (j : Option Code) : Loop := { state := if j.isNone then .ready else .done, pending := j, fn, tmps := tm, params := ps, assign := asg, body := bd, defers := D }
def LS (S : σ → Res) (l : Nat) (rc : Option Code → Loop) (D : Nat) (q : σ × Option Code) : Res := Sep (S q.1) (Sep (Blk l (.loop (rc q.2))) (Blk D (.deferred (some []))))
theorem round_at {l D : Nat} {fn : FuncId} {tm : Array Value} {ps : List Nat} {ac bd : Code} {S : σ → Res} {s : σ} {vs : List Value} {Jn : σ → Prop} {Jx : Code → σ → Prop} {w : World}
    (hps : vs.length = ps.length) (h : At (LS S l (lrec fn tm ps.toArray ac bd D) D (s, none)) w)
    (hb : ac.wpIn (WR (some l)) 0 P (Exit.then (fun a' w' => Keeps Nope w w' ∧ ∀ w2, Keeps (fun b => b = l) w' w2 → At (S s) w2 → bd.wpIn (WR (some l)) 0 P (rdQ w2 S s w.heap.size Jn Jx) a' w2) (fun _ _ _ => False)) ⟨(ps.zip vs).foldl (fun t (p, v) => t.setIfInBounds p v) tm, []⟩ w) :
    CallsV P (.func (.yield l) #[] #[]) vs w (RetR w (LS S l (lrec fn tm ps.toArray ac bd D) D (s, none))
      (fun q : Bool × (σ × Option Code) => (q.1 = true ∧ q.2.2 = none ∧ Jn q.2.1) ∨ (∃ c, q.1 = false ∧ q.2.2 = some c ∧ Jx c q.2.1)) (fun q => .bool q.1) (fun q => LS S l (lrec fn tm ps.toArray ac bd D) D q.2)) := by
  obtain ⟨⟨h1, ⟨h2, h3, h4⟩, h5⟩, h6⟩ := h
  have h2' : w.heap[l]? = some (.loop (lrec fn tm ps.toArray ac bd D none)) := h2
  have hzip : (ps.toArray.zip vs.toArray).foldl (fun t (x : Tmp × Value) => t.setIfInBounds x.1 x.2) tm = (ps.zip vs).foldl (fun t (x : Nat × Value) => t.setIfInBounds x.1 x.2) tm := by
    rw [List.zip_toArray, List.foldl_toArray]
  have hlw : l < w.heap.size := h6 l (.inr (.inl rfl))
  have hDw : D < w.heap.size := h6 D (.inr (.inr rfl))
  have hlD : l ≠ D := fun e => h4 l rfl e
  have hSl : ¬ (S s).foot l := fun e => h5 l e (.inl rfl)
  have hSD : ¬ (S s).foot D := fun e => h5 D e (.inr rfl)
  have hy := run_yield (P := P) (args := vs.toArray) h2' (by simp [lrec, hps])
  rw [show (lrec fn tm ps.toArray ac bd D none).params.zip vs.toArray = ps.toArray.zip vs.toArray from rfl, show (lrec fn tm ps.toArray ac bd D none).tmps = tm from rfl, hzip] at hy
  refine .inr ⟨l, fn, _, ac, bd, rfl, hy, roundIn_of_wpIn trivial (wpIn_mono hb ?_)⟩
  intro e0 a0 w' hq
  cases e0 with
  | normal => ?_
  | exit _ => exact hq.elim
  | goto _ => exact hq.elim
  | ret => exact hq.elim
  | panic _ => exact hq.elim
  | outgrown => exact hq.elim
  obtain ⟨k0, hb⟩ := hq
  have h2'' : w'.heap[l]? = some (.loop (lrec fn tm ps.toArray ac bd D none)) := (k0.block l hlw (fun e => e)).trans h2'
  have hlw' : l < w'.heap.size := Nat.lt_of_lt_of_le hlw k0.size
  refine ⟨_, run_beginRound h2'' rfl, ?_⟩
  obtain ⟨w2, hw2⟩ : ∃ w2, w2 = w'.putObj l (.loop { lrec fn tm ps.toArray ac bd D none with state := .busy }) := ⟨_, rfl⟩
  rw [← hw2]
  have k1 : Keeps (fun b => b = l) w' w2 := by rw [hw2]; exact Keeps.putObj w' _ rfl
  have k2 : Keeps (fun b => b = l) w w2 := (k0.mono (fun _ h => h.elim)).trans k1
  have hz2 : w.heap.size ≤ w2.heap.size := k2.size
  have hl2 : w2.heap[l]? = some (.loop { lrec fn tm ps.toArray ac bd D none with state := .busy }) := by rw [hw2]; exact World.putObj_heap_same hlw'
  have hD2 : w2.heap[D]? = some (.deferred (some [])) := (k2.block D hDw (fun e => hlD e.symm)).trans h3
  have hA2 : (S s).A w2 := (S s).st w w2 (fun b hb => k2.block b (h6 b (.inl hb)) (fun e => hSl (e ▸ hb))) h1
  have hAt2 : At (S s) w2 := ⟨hA2, fun b hb => Nat.lt_of_lt_of_le (h6 b (.inl hb)) hz2⟩
  have hbd := hb w2 k1 hAt2
  have fin : ∀ (j : Option Code) (s' : σ) (w3 : World), Keeps (MS S s w.heap.size) w2 w3 → (S s').A w3 → (∀ b, (S s').foot b → ((S s).foot b ∨ w.heap.size ≤ b) ∧ b < w3.heap.size) →
      ∃ w4, (Instr.endRound l j).run P w3 = .ok (.bool j.isNone) w4 ∧ Keeps (LS S l (lrec fn tm ps.toArray ac bd D) D (s, none)).foot w w4 ∧ (LS S l (lrec fn tm ps.toArray ac bd D) D (s', j)).A w4 ∧
        ∀ b, (LS S l (lrec fn tm ps.toArray ac bd D) D (s', j)).foot b → ((LS S l (lrec fn tm ps.toArray ac bd D) D (s, none)).foot b ∨ w.heap.size ≤ b) ∧ b < w4.heap.size := fun j s' w3 k3 ha hf => by
    have hl3 : w3.heap[l]? = some (.loop { lrec fn tm ps.toArray ac bd D none with state := .busy }) := (k3.block l (by omega) (fun e => e.elim hSl (by omega))).trans hl2
    have hD3 : w3.heap[D]? = some (.deferred (some [])) := (k3.block D (by omega) (fun e => e.elim hSD (by omega))).trans hD2
    have hz3 : w.heap.size ≤ w3.heap.size := Nat.le_trans hz2 k3.size
    have hr := run_endRound (P := P) j hl3
    have hS'l : ¬ (S s').foot l := fun e => by
      rcases (hf l e).1 with h | h
      · exact hSl h
      · omega
    have hS'D : ¬ (S s').foot D := fun e => by
      rcases (hf D e).1 with h | h
      · exact hSD h
      · omega
    refine ⟨_, hr, ?_, ?_, ?_⟩
    · refine ((k2.mono (M' := (LS S l (lrec fn tm ps.toArray ac bd D) D (s, none)).foot) (fun i e => .inr (.inl e))).trans' k3 (fun i hi e => e.elim .inl (fun h => absurd h (by omega)))).trans (Keeps.putObj w3 _ (.inr (.inl rfl)))
    · refine ⟨(S s').st w3 _ (fun b hb => World.putObj_heap_other (fun e => hS'l (e ▸ hb))) ha, ⟨?_, ?_, h4⟩, ?_⟩
      · exact World.putObj_heap_same (by omega)
      · exact (World.putObj_heap_other (fun e => hlD e.symm)).trans hD3
      · rintro b hb (e | e)
        · exact hS'l (e ▸ hb)
        · exact hS'D (e ▸ hb)
    · rintro b (hb | hb | hb)
      · have := hf b hb
        refine ⟨?_, by simpa using this.2⟩
        rcases this.1 with h | h
        · exact .inl (.inl h)
        · exact .inr (by omega)
      · exact ⟨.inl (.inr (.inl hb)), by have : b = l := hb; simp; omega⟩
      · exact ⟨.inl (.inr (.inr hb)), by have : b = D := hb; simp; omega⟩
  refine wpIn_mono hbd ?_
  intro e a3 w3 hp
  cases e with
  | normal =>
    obtain ⟨s', hJ, k3, ha, hf⟩ := hp
    obtain ⟨w4, hr, c1, c2, c3⟩ := fin none s' w3 k3 ha hf
    exact ⟨_, _, hr, (true, (s', none)), .inl ⟨rfl, rfl, hJ⟩, rfl, c1, c2, c3⟩
  | ret =>
    obtain ⟨s', hJ, k3, ha, hf⟩ := hp
    obtain ⟨w4, hr, c1, c2, c3⟩ := fin (some .ret) s' w3 k3 ha hf
    exact ⟨_, _, hr, (false, (s', some .ret)), .inr ⟨_, rfl, rfl, hJ⟩, rfl, c1, c2, c3⟩
  | exit id =>
    obtain ⟨s', hJ, k3, ha, hf⟩ := hp
    obtain ⟨w4, hr, c1, c2, c3⟩ := fin (some (.exit id)) s' w3 k3 ha hf
    exact ⟨_, _, hr, (false, (s', some (.exit id))), .inr ⟨_, rfl, rfl, hJ⟩, rfl, c1, c2, c3⟩
  | goto t => exact hp.elim
  | panic ch => exact hp.elim
  | outgrown => exact hp.elim
def RunsN (J : α → σ → σ → Prop) : List α → σ → σ → Prop
  | [], s, t => t = s
  | x :: xs, s, t => ∃ q, J x s q ∧ RunsN J xs q t
def RunsX (J : α → σ → σ → Prop) (Jx : α → σ → Code → σ → Prop) (c : Code) : List α → σ → σ → Prop
  | [], _, _ => False
  | x :: xs, s, t => Jx x s c t ∨ ∃ q, J x s q ∧ RunsX J Jx c xs q t
theorem runs_of {J : α → σ → σ → Prop} {Jx : α → σ → Code → σ → Prop} : ∀ (xs : List α) (s : σ) (q : σ × Option Code),
    RunsY (fun x (s : σ × Option Code) (q : Bool × (σ × Option Code)) => (q.1 = true ∧ q.2.2 = none ∧ J x s.1 q.2.1) ∨ (∃ c, q.1 = false ∧ q.2.2 = some c ∧ Jx x s.1 c q.2.1)) xs (s, none) q →
    (q.2 = none ∧ RunsN J xs s q.1) ∨ (∃ c, q.2 = some c ∧ RunsX J Jx c xs s q.1)
  | [], s, q, h => .inl (by rw [show q = (s, none) from h]; exact ⟨rfl, rfl⟩)
  | x :: xs, s, q, ⟨r, hr, h⟩ => by
    obtain ⟨b, s', j⟩ := r
    rcases hr with ⟨h1, h2, h3⟩ | ⟨c, h1, h2, h3⟩
    · simp only at h1 h2 h3
      subst h1 h2
      rw [if_pos rfl] at h
      rcases runs_of xs s' q h with ⟨e1, e2⟩ | ⟨c, e1, e2⟩
      · exact .inl ⟨e1, s', h3, e2⟩
      · exact .inr ⟨c, e1, .inr ⟨s', h3, e2⟩⟩
    · simp only at h1 h2 h3
      subst h1 h2
      rw [if_neg Bool.false_ne_true] at h
      subst h
      exact .inr ⟨c, rfl, .inl h3⟩
theorem RunsN.snoc {J : α → σ → σ → Prop} {x : α} {t' : σ} : ∀ {xs : List α} {s t : σ}, RunsN J xs s t → J x t t' → RunsN J (xs ++ [x]) s t'
  | [], s, t, h, hj => ⟨t', by rw [← show t = s from h]; exact hj, rfl⟩
  | y :: xs, s, t, ⟨q, h1, h⟩, hj => ⟨q, h1, RunsN.snoc h hj⟩
theorem okay_of {Jn : α → σ → σ → Prop} {Jx : α → σ → Code → σ → Prop} {xs : List α} {s0 : σ} : ∀ (post pre : List α) (s : σ), xs = pre ++ post → RunsN Jn pre s0 s →
    Okay (fun x (q : σ × Option Code) => q.2 = none ∧ ∃ pre post, xs = pre ++ x :: post ∧ RunsN Jn pre s0 q.1)
      (fun x (s : σ × Option Code) (q : Bool × (σ × Option Code)) => (q.1 = true ∧ q.2.2 = none ∧ Jn x s.1 q.2.1) ∨ (∃ c, q.1 = false ∧ q.2.2 = some c ∧ Jx x s.1 c q.2.1)) post (s, none)
  | [], _, _, _, _ => trivial
  | x :: post, pre, s, e, hr => ⟨⟨rfl, pre, post, e, hr⟩, fun q hq hb => by
    obtain ⟨b, s', j⟩ := q
    rcases hq with ⟨h1, h2, h3⟩ | ⟨c, h1, h2, h3⟩
    · simp only at h1 h2 h3
      subst h2
      exact okay_of post (pre ++ [x]) s' (by rw [e, List.append_assoc]; rfl) (hr.snoc h3)
    · simp only at h1 hb
      rw [hb] at h1
      cases h1⟩
theorem rangeF2 {ζ : Type} {m : List Nat} {L1 L2 : List Res} {gv : Value} {gx : Operand} {ps : List Nat} {ac bd : Code} (enc : α → List Value) (S : σ → Res) (s0 : σ) (xs : List α) (Jn : α → σ → σ → Prop) (Jx : α → σ → Code → σ → Prop) (Fa : α → ζ → Fr) (La : α → ζ → List Res)
    (hm : Rem L (S s0) L1) (hm2 : Rem L1 (Dm m) L2) (hD : look0 F 1000000 = some (true, mkV m)) (hg : Opd F true gx gv) (hgv : ∃ f fst cap, gv = (bnd f fst cap).v) (hps : ∀ x, (enc x).length = ps.length) (hpn : ps.all (fun p => Nat.blt p K.n) = true)
    (iter : ∀ w, WInv K L w → (∀ w', Keeps (S s0).foot w w' → WInv K L1 w') → IterAt P gv enc w (S s0).foot xs)
    (asg : ∀ (l : Nat) x w, Sat ⟨K.n, w, Nope⟩ (ac.wpIn (WR (some l)) 0 P (Exit.then (fun a' w' => ∃ z, Good ⟨K.n, w, Nope⟩ (Fa x z) (La x z) a' w') (fun _ _ _ => False))) (putF ps (enc x) (dz :: F)) [])
    (body : ∀ (l : Nat) x s z n0 w, (∃ pre post, xs = pre ++ x :: post ∧ RunsN Jn pre s0 s) → n0 ≤ w.heap.size → (∀ b, (S s).foot b → K.w0.heap.size ≤ b ∨ K.M b) → (∀ w', Keeps (MS S s n0) w w' → WInv K L1 w') → Sat ⟨K.n, w, MS S s n0⟩ (bd.wpIn (WR (some l)) 0 P (rdQ w S s n0 (Jn x s) (Jx x s))) (Fa x z) (S s :: La x z))
    (next : ∀ s D, RunsN Jn xs s0 s → Sat K (Q .normal) (dm (D :: m) :: F) (S s :: Dm (D :: m) :: L2))
    (stop : ∀ c s D, RunsX Jn Jx c xs s0 s → Sat K (c.wp P Q) (dm (D :: m) :: F) (S s :: Dm (D :: m) :: L2)) :
    Sat K ((Code.rangeFunc gx ps.toArray ac bd).wp P Q) F L := fun a w G => by
  refine wpIn_wide (n := 0).1 (wpIn_rangeFunc ?_)
  intro fn _
  obtain ⟨f, fst, cap, rfl⟩ := hgv
  -- the two blocks
  obtain ⟨W1, hW1⟩ : ∃ W1, W1 = (w.alloc (.deferred (some []))).alloc (.loop (lrec fn a.tmps ps.toArray ac bd w.heap.size none)) := ⟨_, rfl⟩
  have hz1 : W1.heap.size = w.heap.size + 2 := by rw [hW1]; simp
  have hl1 : W1.heap[w.heap.size + 1]? = some (.loop (lrec fn a.tmps ps.toArray ac bd w.heap.size none)) := by
    rw [hW1]; have := World.alloc_heap_new (w.alloc (.deferred (some []))) (.loop (lrec fn a.tmps ps.toArray ac bd w.heap.size none)); rwa [World.size_alloc] at this
  have hD1 : W1.heap[w.heap.size]? = some (.deferred (some [])) := by
    rw [hW1]; exact (Below.heap_alloc _ _ _ (by simp)).trans (World.alloc_heap_new w _)
  have k1 : Keeps Nope w W1 := by
    rw [hW1]
    exact (Keeps.alloc Nope w _).trans (Keeps.alloc Nope _ _)
  obtain ⟨l, hl⟩ : ∃ l, l = w.heap.size + 1 := ⟨_, rfl⟩
  obtain ⟨D, hDe⟩ : ∃ D, D = w.heap.size := ⟨_, rfl⟩
  rw [← hl] at hl1
  rw [← hDe] at hD1 hl1
  have hI := G.inv.perm hm.perm
  have hSw := hI.own _ List.mem_cons_self
  have hb0 : ∀ b, (S s0).foot b → b < w.heap.size := fun b hb => (hSw.2 b hb).2
  have hLS : (LS S l (lrec fn a.tmps ps.toArray ac bd D) D (s0, none)).A W1 := by
    refine ⟨(S s0).st w W1 (fun b hb => k1.block b (hb0 b hb) (fun h => h)) hSw.1, ⟨hl1, hD1, ?_⟩, ?_⟩
    · intro b hb hb'
      have e1 : b = l := hb
      have e2 : b = D := hb'
      omega
    · rintro b hb (hb' | hb')
      · have e1 : b = l := hb'
        have := hb0 b hb
        omega
      · have e2 : b = D := hb'
        have := hb0 b hb
        omega
  have hLSf : ∀ b, (LS S l (lrec fn a.tmps ps.toArray ac bd D) D (s0, none)).foot b → ((S s0).foot b ∨ w.heap.size ≤ b) ∧ b < W1.heap.size := by
    rintro b (hb | hb | hb)
    · exact ⟨.inl hb, by have := hb0 b hb; omega⟩
    · have e1 : b = l := hb
      exact ⟨.inr (by omega), by omega⟩
    · have e1 : b = D := hb
      exact ⟨.inr (by omega), by omega⟩
  have I1 : WInv K (LS S l (lrec fn a.tmps ps.toArray ac bd D) D (s0, none) :: L1) W1 := hI.upd Upd.head (k1.mono (fun _ h => h.elim)) hLS hLSf
  -- what others have stays
  have hbut : ∀ w', Keeps (LS S l (lrec fn a.tmps ps.toArray ac bd D) D (s0, none)).foot W1 w' → WInv K L1 w' := fun w' k => I1.but Rem.head k
  have hbut0 : ∀ w', Keeps (S s0).foot w w' → WInv K L1 w' := fun w' k => G.inv.but hm k
  have hit := iter w G.inv hbut0
  have hcv := hit (σ × Option Code) (LS S l (lrec fn a.tmps ps.toArray ac bd D) D) (fun x q => q.2 = none ∧ ∃ pre post, xs = pre ++ x :: post ∧ RunsN Jn pre s0 q.1)
    (fun x (s : σ × Option Code) (q : Bool × (σ × Option Code)) => (q.1 = true ∧ q.2.2 = none ∧ Jn x s.1 q.2.1) ∨ (∃ c, q.1 = false ∧ q.2.2 = some c ∧ Jx x s.1 c q.2.1)) (⟨.func (.yield l) #[] #[], rfl⟩ : OV) W1 (s0, none) (okay_of xs [] s0 rfl rfl)
    (k1.mono (fun _ h => h.elim)) (fun b hb => (hLSf b hb).1.symm) ⟨hLS, fun b hb => (hLSf b hb).2⟩ (by
    rintro x ⟨s, j⟩ w2 ⟨hj, hx⟩ k2 hA hf
    simp only at hj hx
    subst hj
    refine round_at (hps x) hA ?_
    have hfo0 : FrOK ⟨K.n, w2, Nope⟩ F a := ⟨G.fo.size, G.fo.le, G.fo.defers, G.fo.fr⟩
    refine wpIn_mono (asg l x w2 _ w2 ⟨frOK_putF ps (enc x) _ _ (hfo0.marks []) (fun p hp => by simpa [Nat.blt_eq] using List.all_eq_true.1 hpn p hp), WInv.start⟩) ?_
    intro e0 a0 w' hq
    cases e0 with
    | normal => ?_
    | exit _ => exact hq.elim
    | goto _ => exact hq.elim
    | ret => exact hq.elim
    | panic _ => exact hq.elim
    | outgrown => exact hq.elim
    obtain ⟨z, hq⟩ := hq
    refine ⟨hq.inv.keeps, fun w3 k3 hA3 => ?_⟩
    have hk : Keeps (LS S l (lrec fn a.tmps ps.toArray ac bd D) D (s0, none)).foot W1 w3 := (k2.trans (hq.inv.keeps.mono (fun _ h => h.elim))).trans (k3.mono (fun i e => .inr (.inl e)))
    have hz : w2.heap.size ≤ w3.heap.size := Nat.le_trans hq.inv.keeps.size k3.size
    have hl2 : l < w2.heap.size := hA.2 l (.inr (.inl rfl))
    have hbut3 : ∀ w', Keeps (MS S s w2.heap.size) w3 w' → WInv K L1 w' := fun w' k => hbut w' (hk.trans' k (fun i hi hm => by
      rcases hm with hm | hm
      · rcases hf i (.inl hm) with h | h
        · omega
        · exact h
      · have := k2.size
        omega))
    refine body l x s z w2.heap.size w3 hx hz (fun b hb => by
      rcases hf b (.inl hb) with h | h
      · have h1 := G.inv.keeps.size
        exact .inl (by omega)
      · exact ((I1.own _ List.mem_cons_self).2 b h).1) hbut3 _ w3 ⟨⟨hq.fo.size, hq.fo.le, hq.fo.defers, hq.fo.fr⟩, ⟨Keeps.refl _ _, ?_, ?_⟩⟩
    · intro r hr
      rcases List.mem_cons.1 hr with rfl | hr
      · exact ⟨hA3.1, fun b hb => ⟨.inr (.inl hb), hA3.2 b hb⟩⟩
      · obtain ⟨r1, r2⟩ := hq.inv.own r hr
        have hge : ∀ b, r.foot b → w2.heap.size ≤ b := fun b hb => by
          rcases (r2 b hb).1 with h | h
          · exact h
          · exact h.elim
        refine ⟨r.st _ _ (fun b hb => k3.block b (r2 b hb).2 (fun e => by have e1 : b = l := e; have := hge b hb; omega)) r1, fun b hb => ⟨.inr (.inr (hge b hb)), Nat.lt_of_lt_of_le (r2 b hb).2 k3.size⟩⟩
    · refine List.pairwise_cons.2 ⟨fun r hr b hb hb' => ?_, hq.inv.dis⟩
      have h1 := hA.2 b (.inl hb)
      rcases ((hq.inv.own r hr).2 b hb').1 with h | h
      · have h : w2.heap.size ≤ b := h
        omega
      · exact h.elim)
  rcases hcv with ⟨f', fst', cap', e, hen, hc⟩ | ⟨_, _, _, _, _, e, _⟩
  rotate_left
  · cases e
  have hfe : f = f' ∧ fst = fst' ∧ cap = cap' := by
    have := Value.func.inj e
    simpa using this
  obtain ⟨rfl, rfl, rfl⟩ := hfe
  refine ⟨l, [mkD D], W1, { target := .fn (.func f) cap.toArray, args := (fst ++ [Value.func (.yield l) #[] #[]]).toArray }, W1, f, (fst ++ [Value.func (.yield l) #[] #[]] ++ cap).toArray, W1, ?_, ?_, fun _ _ => trivial, ?_, fun e => absurd e Bool.false_ne_true, ?_⟩
  · rw [hW1, hl, hDe]; exact run_enterLoop_outer _ _ _ _ _
  · have h2 : a.eval gx = .func (.func f) fst.toArray cap.toArray := hg.eval rfl G.fo
    simp [resolve, h2, Deferred.ofValue]
    rfl
  · simp [invoke, run_callFunc_enter hen]
  refine (wr_calls (ro := none) (n := 0 - 1) hc).mono ?_
  rintro e w5 ⟨⟨s, j⟩, hruns, rfl, k5, hA5, hf5⟩
  have I5 : WInv K (LS S l (lrec fn a.tmps ps.toArray ac bd D) D (s, j) :: L1) w5 := I1.upd Upd.head k5 hA5 hf5
  have hl5 : w5.heap[l]? = some (.loop (lrec fn a.tmps ps.toArray ac bd D j)) := hA5.2.1.1
  have hr := run_endLoop (P := P) hl5 (by unfold lrec; cases j <;> simp)
  have I6 : WInv K (S s :: Dm (D :: m) :: L2) (w5.putObj l (.loop { lrec fn a.tmps ps.toArray ac bd D j with state := .exhausted })) := by
    have J1 : WInv K (S s :: Blk l (.loop (lrec fn a.tmps ps.toArray ac bd D j)) :: Blk D (.deferred (some [])) :: L1) w5 := by
      have h1 := I5.sepOut
      have h2 := (h1.perm (List.Perm.swap _ _ _) : WInv K (Sep (Blk l (.loop (lrec fn a.tmps ps.toArray ac bd D j))) (Blk D (.deferred (some []))) :: S s :: L1) w5).sepOut
      exact h2.perm ((List.perm_middle (l₁ := [Blk l _, Blk D _]) (a := S s) (l₂ := L1)).symm)
    have hll : l < w5.heap.size := (Array.getElem?_eq_some_iff.1 hl5).1
    have J2 : WInv K (S s :: Blk l (.loop { lrec fn a.tmps ps.toArray ac bd D j with state := .exhausted }) :: Blk D (.deferred (some [])) :: L1) (w5.putObj l (.loop { lrec fn a.tmps ps.toArray ac bd D j with state := .exhausted })) :=
      J1.upd (Upd.tail Upd.head) (Keeps.putObj w5 _ rfl) (World.putObj_heap_same hll) (fun b hb => ⟨.inl hb, by have : b = l := hb; simp; omega⟩)
    have J3 := J2.sub (L' := S s :: Blk D (.deferred (some [])) :: L1) (by exact List.Sublist.cons_cons _ (List.Sublist.cons _ (List.Sublist.refl _)))
    have J4 := J3.perm (L' := Blk D (.deferred (some [])) :: Dm m :: S s :: L2) (by
      have p1 : (Dm m :: L2).Perm L1 := hm2.perm
      refine List.Perm.trans (List.Perm.cons _ (List.Perm.swap _ _ _)) ?_
      refine List.Perm.trans (List.Perm.swap _ _ _) ?_
      exact List.Perm.cons _ (List.Perm.cons _ p1))
    obtain ⟨c1, c2, c3⟩ := J4
    rw [List.pairwise_cons, List.pairwise_cons] at c3
    obtain ⟨d1, d2⟩ := c2 _ List.mem_cons_self
    obtain ⟨⟨e1, e2⟩, e3⟩ := c2 _ (List.mem_cons_of_mem _ List.mem_cons_self)
    have J5 : WInv K (Dm (D :: m) :: S s :: L2) (w5.putObj l (.loop { lrec fn a.tmps ps.toArray ac bd D j with state := .exhausted })) := by
      refine ⟨c1, ?_, List.pairwise_cons.2 ⟨?_, c3.2.2⟩⟩
      · intro q hq
        rcases List.mem_cons.1 hq with rfl | hq
        · refine ⟨⟨List.nodup_cons.2 ⟨fun hDm => c3.1 _ List.mem_cons_self D rfl hDm, e1⟩, fun E hE => ?_⟩, fun b hb => ?_⟩
          · rcases List.mem_cons.1 hE with rfl | hE
            · exact d1
            · exact e2 E hE
          · rcases List.mem_cons.1 hb with rfl | hb
            · exact d2 _ rfl
            · exact e3 b hb
        · exact c2 q (List.mem_cons_of_mem _ (List.mem_cons_of_mem _ hq))
      · intro q hq b hb hb'
        rcases List.mem_cons.1 hb with rfl | hb
        · exact c3.1 q (List.mem_cons_of_mem _ hq) _ rfl hb'
        · exact c3.2.1 q hq b hb hb'
    exact J5.perm (List.Perm.swap _ _ _)
  have hfo : FrOK K (dm (D :: m) :: F) { a with defers := [mkD D] ++ a.defers } := by
    obtain ⟨m', h1, h2⟩ := G.fo.defers _ _ hD
    have h3 := mkV_inj h1
    subst h3
    have := G.fo.marks (D :: m)
    rw [List.map_cons, ← h2] at this
    exact this
  refine ⟨j, _, hr, ?_⟩
  rcases runs_of xs s0 (s, j) hruns with ⟨h1, h2⟩ | ⟨c, h1, h2⟩
  · simp only at h1
    subst h1
    exact next s D h2 _ _ ⟨hfo, I6⟩
  · simp only at h1
    subst h1
    exact wpIn_wide.2 (stop c s D h2 _ _ ⟨hfo, I6⟩)
theorem RunsN.inv {J : α → σ → σ → Prop} {Inv : σ → Prop} (h : ∀ x s s', Inv s → J x s s' → Inv s') : ∀ {xs : List α} {s t : σ}, RunsN J xs s t → Inv s → Inv t
  | [], s, t, hr, hi => by rw [show t = s from hr]; exact hi
  | x :: xs, s, t, ⟨q, h1, hr⟩, hi => RunsN.inv h hr (h x s q hi h1)
theorem rangeF {ζ : Type} {m : List Nat} {L1 L2 : List Res} {gv : Value} {gx : Operand} {ps : List Nat} {ac bd : Code} (enc : α → List Value) (S : σ → Res) (s0 : σ) (xs : List α) (Jn : α → σ → σ → Prop) (Jx : α → σ → Code → σ → Prop) (Fa : α → ζ → Fr) (La : α → ζ → List Res) (Inv : σ → Prop) (hI0 : Inv s0) (hIn : ∀ x s s', Inv s → Jn x s s' → Inv s')
    (hm : Rem L (S s0) L1) (hm2 : Rem L1 (Dm m) L2) (hD : look0 F 1000000 = some (true, mkV m)) (hg : Opd F true gx gv) (hgv : ∃ f fst cap, gv = (bnd f fst cap).v) (hps : ∀ x, (enc x).length = ps.length) (hpn : ps.all (fun p => Nat.blt p K.n) = true)
    (iter : ∀ w, WInv K L w → (∀ w', Keeps (S s0).foot w w' → WInv K L1 w') → IterAt P gv enc w (S s0).foot xs)
    (asg : ∀ (l : Nat) x w, Sat ⟨K.n, w, Nope⟩ (ac.wpIn (WR (some l)) 0 P (Exit.then (fun a' w' => ∃ z, Good ⟨K.n, w, Nope⟩ (Fa x z) (La x z) a' w') (fun _ _ _ => False))) (putF ps (enc x) (dz :: F)) [])
    (body : ∀ (l : Nat) x s z n0 w, x ∈ xs → n0 ≤ w.heap.size → Inv s → (∀ b, (S s).foot b → K.w0.heap.size ≤ b ∨ K.M b) → (∀ w', Keeps (MS S s n0) w w' → WInv K L1 w') → Sat ⟨K.n, w, MS S s n0⟩ (bd.wpIn (WR (some l)) 0 P (rdQ w S s n0 (Jn x s) (Jx x s))) (Fa x z) (S s :: La x z))
    (next : ∀ s D, RunsN Jn xs s0 s → Sat K (Q .normal) (dm (D :: m) :: F) (S s :: Dm (D :: m) :: L2))
    (stop : ∀ c s D, RunsX Jn Jx c xs s0 s → Sat K (c.wp P Q) (dm (D :: m) :: F) (S s :: Dm (D :: m) :: L2)) :
    Sat K ((Code.rangeFunc gx ps.toArray ac bd).wp P Q) F L :=
  rangeF2 enc S s0 xs Jn Jx Fa La hm hm2 hD hg hgv hps hpn iter asg (fun l x s z n0 w hx hn hf hb => by
    obtain ⟨pre, post, e, hr⟩ := hx
    exact body l x s z n0 w (by rw [e]; simp) hn (RunsN.inv hIn hr hI0) hf hb) next stop
theorem emp0 {X : Act → World → Prop} (h : Sat K X F (Emp :: L)) : Sat K X F L := fun a w G => h a w (G.world (G.inv.add (Keeps.refl _ _) trivial (fun b hb => hb.elim)))
theorem enterM {f : FuncId} {fn : Func} {c : Code} {args : Array Value} {w : World} {R : Ending → World → Prop} (M : Nat → Prop) (n : Nat) (L : List Res)
    (hf : P.funcs[f]? = some fn) (hb : fn.body = some c) (hn : fn.ntmps = n) (hsz : args.size ≤ n) (hL : WInv ⟨n, w, M⟩ L w)
    (h : Sat ⟨n, w, M⟩ (c.wp P (bodyPostM (WR none) 0 P fn R)) (dz :: enumF 0 args.toList) (Dm [] :: L)) (hn2 : Nat.ble n 1000000 = true := by rfl) : Calls P f args w R := by
  refine callsIn_wide (n := 0).1 (callsIn_of_wp_marks (F := Fence.wide) hf hb trivial (wpIn_wide.2 (dm0 h _ _ ⟨⟨?_, Nat.le_of_ble_eq_true hn2, ?_, ?_⟩, hL⟩)))
  · simp only [Array.size_append, Array.size_replicate]; show args.size + (fn.ntmps - args.size) = n; omega
  · intro c v hl
    have e : look0 (dz :: enumF 0 args.toList) DS = some (true, mkV []) := rfl
    rw [e] at hl
    cases hl
    exact ⟨[], rfl, rfl⟩
  · intro t c v hl
    obtain ⟨hne, hl⟩ := look_at hl
    have e : look0 (dz :: enumF 0 args.toList) t = look0 (enumF 0 args.toList) t := by
      have : Nat.beq 1000000 t = false := beq_ne (fun e => hne e.symm)
      simp only [look0, this, cond_false]
    rw [e] at hl
    obtain ⟨rfl, _, h3⟩ := look_enumF _ _ _ _ _ hl
    simp only [Nat.sub_zero] at h3
    rw [Array.getElem?_append_left (by
      have := List.getElem?_eq_some_iff.1 h3
      obtain ⟨h4, _⟩ := this
      simpa using h4)]
    simpa using h3
theorem enterM0 {f : FuncId} {fn : Func} {c : Code} {args : Array Value} {w : World} {R : Ending → World → Prop} (n : Nat)
    (hf : P.funcs[f]? = some fn) (hb : fn.body = some c) (hn : fn.ntmps = n) (hsz : args.size ≤ n)
    (h : Sat ⟨n, w, Nope⟩ (c.wp P (bodyPostM (WR none) 0 P fn R)) (dz :: enumF 0 args.toList) [Dm []]) (hn2 : Nat.ble n 1000000 = true := by rfl) : Calls P f args w R :=
  enterM Nope n [] hf hb hn hsz WInv.start h hn2
theorem leaves_marks {fn : Func} {tm : Array Value} {R : Ending → World → Prop} {v : Value} : ∀ (m : List Nat) (w : World), WInv K (Dm m :: L) w →
    (∀ w, WInv K L w → (results fn tm).run P w = .ok v w ∧ R (.returned v) w) → LeavesInM (WR none) 0 P fn tm R (m.map mkD) .returning w
  | [], w, I, h => by
    obtain ⟨h1, h2⟩ := h w (I.sub (List.Sublist.cons _ (List.Sublist.refl _)))
    exact ⟨_, h1, h2⟩
  | D :: m, w, I, h => by
    obtain ⟨⟨h1, h2⟩, h3⟩ := I.own _ List.mem_cons_self
    have hD := h2 D List.mem_cons_self
    rw [List.nodup_cons] at h1
    refine ⟨by simp, .inl ⟨D, _, rfl, run_takeDeferred hD, leaves_marks m _ ?_ h⟩⟩
    refine (I.upd (r' := Dm m) Upd.head (Keeps.putObj w _ (List.mem_cons_self)) ⟨h1.2, fun E hE => ?_⟩ (fun b hb => ⟨.inl (List.mem_cons_of_mem _ hb), ?_⟩))
    · have hne : E ≠ D := fun e => h1.1 (by rw [← e]; exact hE)
      exact (World.putObj_heap_other hne).trans (h2 E (List.mem_cons_of_mem _ hE))
    · simpa using (h3 b (List.mem_cons_of_mem _ hb)).2
theorem doneM_ {fn : Func} {R : Ending → World → Prop} {rs : List ResultVar} {vs : List Value} {m : List Nat} {L' : List Res} (hr : fn.results = rs.toArray) (hD : look0 F 1000000 = some (true, mkV m)) (hm : Rem L (Dm m) L') (h : RV P K F L' rs vs)
    (hR : ∀ w, WInv K L' w → R (.returned (tupV vs)) w) {a : Act} {w : World} (G : Good K F L a w) : LeavesInM (WR none) 0 P fn a.tmps R a.defers .returning w := by
  obtain ⟨m', h1, h2⟩ := G.fo.defers _ _ hD
  rw [← mkV_inj h1] at h2
  rw [h2]
  exact leaves_marks (L := L') m w (G.inv.perm hm.perm) (fun w' I' => ⟨results_of_RV hr h ⟨G.fo, I'⟩, hR w' I'⟩)
theorem doneM {fn : Func} {R : Ending → World → Prop} {rs : List ResultVar} {vs : List Value} {m : List Nat} {L' : List Res} (hm : Rem L (Dm m) L') (hD : look0 F 1000000 = some (true, mkV m)) (hr : fn.results = rs.toArray) (h : RV P K F L' rs vs)
    (hR : ∀ w, WInv K L' w → R (.returned (tupV vs)) w) : Sat K (bodyPostM (WR none) 0 P fn R .ret) F L :=
  fun a w G => doneM_ hr hD hm h hR G
end
end Go.Gx
