/- Part H: slices within slices, calls that hand back several new things, letters of strings. -/
import Derived.Test.YtjjlofjpdklbgaaGxG
set_option linter.unusedVariables false
set_option linter.unusedSimpArgs false
namespace Go.Gx
open Go Go.RowKit

section
variable {α β γ : Type} {P : Program}
variable {K : Ctx} {F : Fr} {L : List Res} {g : Bool} {Q : Exit → Act → World → Prop} {N : Act → World → Prop} {ops : Array Oper}
  {op : Op} {ty t t' : TypeId} {pos : String} {af : Array Edge} {d : Nat} {x y : Operand}

theorem subS_one (s : Nat) (v : Value) (l h : Nat) (hv : v.oneCell' = true) : (subS s v l h).oneCell' = true := by
  cases v <;> first | exact hv | rfl
/-- A slice of a slice. -/
def OV.sub (s : Nat) (o : OV) (l h : Nat) : OV := ⟨subS s o.v l h, subS_one s o.v l h o.one⟩
@[simp] theorem OV.sub_v (s : Nat) (o : OV) (l h : Nat) : (OV.sub s o l h).v = subS s o.v l h := rfl
theorem subS_sub0 (s : Nat) (v : Value) (n k : Nat) : subS s (subS s v 0 n) 0 k = subS s v 0 k := by
  cases v <;> try rfl
  rename_i a l c
  simp only [subS, Nat.sub_zero, Nat.zero_mul]
  cases a <;> simp [Addr.add]

/-- v[:n][:k], k beyond n. -/
theorem Ev.sliceUp {E : Enc α} {v : Value} {xs : List α} {e : TypeId} {hi : Operand} {k : Int} {n : Nat} (ht : P.underlying t = some (.slice e)) (T : TyOK P e E) (hx : Opd F g x (subS E.size v 0 n)) (hhi : Opd F g hi (I k))
    (h : ∀ w, WInv K L w → IsSl E w v xs) (hb : g = true → 0 ≤ k ∧ k ≤ xs.length) : Ev P K F L g (.slice t x none (some hi) none) ty (subS E.size v 0 k.toNat) := fun hg a G w hw dst pos af gd => by
  obtain ⟨b, cap, rfl, h1, _, _⟩ := h w hw
  obtain ⟨h2, h3⟩ := hb hg
  have hu : (underlying t).run P w = .ok (.slice e) w := by simp [underlying, ht]
  have h5 : 0 ≤ k ∧ k ≤ (cap : Int) := by omega
  have h6 := hx.eval hg G
  simp only [subS, Nat.sub_zero, Nat.zero_mul] at h6
  simp [execOp, Instr.sliceAt, hu, Instr.slice, Instr.sliceBounds, Instr.sliceBound, asIntOf, h6, hhi.eval hg G, I, h5, run_sizeOf T, subS]
  cases b <;> simp [Addr.add]

theorem IsSl.head {E : Enc α} {w : World} {v : Value} {xs ys : List α} (h : IsSl E w v (xs ++ ys)) : IsSl E w (subS E.size v 0 xs.length) xs := by
  have := h.sub (l := 0) (k := xs.length) (Nat.zero_le _) (by simp)
  simpa using this

/-- It hands back several new things. -/
def RetN {X : Type} (w : World) (J : X → Prop) (val : X → Value) (R : X → List Res) : Ending → World → Prop := fun e w' => ∃ x, J x ∧ e = .returned (val x) ∧ Keeps Nope w w' ∧ News w w' (R x)

theorem calln {X : Type} {f : FuncId} {args : List Operand} {ats : Array TypeId} {vs : List Value} (J : X → Prop) (val : X → Value) (R : X → List Res) (hen : Enters P f) (hargs : Opds F true args vs)
    (hC : ∀ w, WInv K L w → Calls P f vs.toArray w (RetN w J val R)) (next : ∀ x, J x → Sat K N ((d, true, val x) :: F) (R x ++ L)) (hd : Nat.blt d K.n = true := by rfl) :
    Sat K (opThen P ops Q ⟨some d, .call { callee := .value (.func f), args := args.toArray, argTypes := ats }, ty, pos, af, none⟩ N) F L :=
  callx J val (fun x => R x ++ L) hen hargs (fun w hw => (hC w hw).mono fun e w' ⟨x, hJ, he, hk, hR⟩ => ⟨x, hJ, he, hw.adds hk hR.1 hR.2⟩) next hd

theorem retN {X : Type} {n : Nat} {w0 : World} {L : List Res} {J : X → Prop} {val : X → Value} {R : X → List Res} {v : Value} (x : X) (hJ : J x) (hv : v = val x) (hs : (R x).Sublist L) : ∀ w, WInv ⟨n, w0, Nope⟩ L w → RetN w0 J val R (.returned v) w := fun w h =>
  ⟨x, hJ, by rw [hv], h.keeps, fun r hr => by
    obtain ⟨h1, h2⟩ := h.own _ (hs.subset hr)
    refine ⟨h1, fun b hb => ⟨?_, (h2 b hb).2⟩⟩
    rcases (h2 b hb).1 with h3 | h3
    · exact h3
    · exact h3.elim, h.dis.sublist hs⟩

/-- What never turns of a slice. -/
def Shp (v : Value) (n : Nat) : Prop := ∃ a cap, v = .slice a n cap ∧ (a = none → n = 0) ∧ ∀ p, a = some p → n ≠ 0 → p.spot = none
theorem IsSl.shp {E : Enc α} {w : World} {v : Value} {xs : List α} (h : IsSl E w v xs) : Shp v xs.length := by
  obtain ⟨a, cap, rfl, _, _, h2, h3⟩ := h
  exact ⟨a, cap, rfl, fun e => by rw [(h2 e).1]; rfl, fun p hp hn => (h3 p hp).1 (fun e => hn (by rw [e]; rfl))⟩
theorem know {X : Act → World → Prop} {p : Prop} (h : ∀ w, WInv K L w → p) (n : p → Sat K X F L) : Sat K X F L := fun a w G => n (h w G.inv) a w G
theorem Ev.indexAddrV {v : Value} {n : Nat} {e : TypeId} {E : Enc α} {i : Int} (ht : P.underlying t = some (.slice e)) (T : TyOK P e E) (hx : Opd F g x v) (hy : Opd F g y (I i))
    (h : Shp v n) (hi : g = true → 0 ≤ i ∧ i < n) :
    Ev P K F L g (.indexAddr t x y) ty (elemPtr v (i.toNat * E.size)) := fun hg a G w hw dst pos af gd => by
  obtain ⟨b, cap, rfl, h2, h3⟩ := h
  have hi' := hi hg
  have hu : (underlying t).run P w = .ok (.slice e) w := by simp [underlying, ht]
  cases b with
  | none =>
    have := h2 rfl
    omega
  | some p =>
    have hp := h3 p rfl (by omega)
    obtain ⟨pb, po, ps⟩ := p
    simp only at hp
    subst hp
    simp [execOp, Instr.indexAt, asIntOf, hx.eval hg G, hy.eval hg G, I, hu, hi', run_sizeOf T, elemPtr, addr_add]
theorem xor_zero {x y : Nat} (h : x ^^^ y = 0) : x = y := by
  have h2 := congrArg (fun z => x ^^^ z) h
  simp only [← Nat.xor_assoc, Nat.xor_self, Nat.zero_xor, Nat.xor_zero] at h2
  exact h2.symm

theorem freeze_cell (w : World) (a b : Addr) (n : Nat) : (w.freeze a n).cell? b = w.cell? b := by
  unfold World.freeze
  split
  · rfl
  · simp only [World.cell?, Array.getElem?_modify]
    by_cases h : a.block = b.block
    · rw [if_pos h, ← h]
      cases w.heap[a.block]? with
      | none => rfl
      | some o => cases o <;> rfl
    · rw [if_neg h]
theorem IsSl.cells_eq {E : Enc α} {w w' : World} {v : Value} {xs : List α} (h : IsSl E w v xs) (hc : ∀ a : Addr, v.ownBlock = some a.block → w'.cell? a = w.cell? a) : IsSl E w' v xs := by
  obtain ⟨a, cap, rfl, h1, h2, h3, h4⟩ := h
  refine ⟨a, cap, rfl, h1, h2, h3, fun p hp => ?_⟩
  obtain ⟨h5, h6⟩ := h4 p hp
  subst hp
  exact ⟨h5, fun j u hu => by rw [hc ⟨p.block, p.off + j, none⟩ rfl]; exact h6 j u hu⟩
/-- A slice of one's own that is only read from now on. -/
def RdS (v : Value) (E : Enc α) (xs : List α) : Res where
  foot := fun b => v.ownBlock = some b
  A := fun w => IsSl E w v xs
  st := fun w w' h h1 => h1.cells_eq (fun a ha => by simp only [World.cell?]; rw [h _ ha])
theorem isSl_rd {E : Enc α} {v : Value} {xs : List α} (hm : RdS v E xs ∈ L) (w : World) (h : WInv K L w) : IsSl E w v xs := (h.own _ hm).1
/-- '[]byte("..")' of a constant: the slice's conversion to its own type. -/
theorem convMark {v : Value} {e T : TypeId} {xs : List UInt8} {L' : List Res} (ht : P.underlying t = some (.slice e)) (he : P.underlying e = some (.int .u8)) (hx : Opd F true x v) (hne : xs ≠ []) (hu : Upd L (OwnS v u8E xs T) (RdS v u8E xs) L')
    (next : Sat K N ((d, true, v) :: F) L') (hd : Nat.blt d K.n = true := by rfl) :
    Sat K (opThen P ops Q ⟨some d, .convert t t x, ty, pos, af, none⟩ N) F L := fun a w G => by
  refine opThen_plain rfl ?_
  unfold Oper.wp
  have hown : w.ownsRow 0 T u8E.size v xs.length (u8E.row xs) := (G.inv.own _ hu.mem).1
  have hsl := IsSl.of_own hown
  have hlt := hown.lt
  have hone := hsl.one
  rcases hown.2 with ⟨_, hn0⟩ | ⟨gb, cap, cur, rfl, hbg, hg, hnc, hcm, hcs2, htake⟩
  · exact absurd (List.eq_nil_of_length_eq_zero hn0) hne
  · have hsh : w.shape? gb = some (T, cur.size) := by
      unfold World.shape?
      rw [hg]
    have hr : (execOp a.eval ⟨some d, .convert t t x, ty, pos, af, none⟩).run P w = .ok (.value (.slice (some ⟨gb, 0, none⟩) xs.length cap)) (w.freeze ⟨gb, cur.size, none⟩ 1) := by
      simp [execOp, hx.eval rfl G.fo, convert, run_underlying ht, run_underlying he, markStringish, hsh]
    rw [hr]
    have hk : Keeps (fun k => Value.ownBlock (.slice (some ⟨gb, 0, none⟩) xs.length cap) = some k) w (w.freeze ⟨gb, cur.size, none⟩ 1) := by
      unfold World.freeze
      rw [if_neg (by decide)]
      refine ⟨rfl, rfl, rfl, by simp, fun k hk hm => ?_⟩
      have hne' : ¬ gb = k := fun e => hm (by rw [← e]; rfl)
      simp only [Array.getElem?_modify]
      rw [if_neg hne']
    refine next _ _ (G.put d true _ _ (by simpa [Nat.blt_eq] using hd) rfl (G.inv.upd hu hk (hsl.cells_eq (fun a _ => freeze_cell _ _ _ _)) (fun b hb => ?_)))
    refine ⟨.inl hb, Nat.lt_of_lt_of_le (hlt b hb).2 hk.size⟩

/-- A letter of a string. -/
theorem Ev.indexS {k : IntKind} {n : Int} {s : ByteArray} {b : UInt8} (ht : P.underlying t = some .string) (hx : Opd F g x (.string s)) (hy : Opd F g y (.int k n)) (hi : g = true → 0 ≤ n ∧ s[n.toNat]? = some b) :
    Ev P K F L g (.index t x y) ty (U8 b) := fun hg a G w hw dst pos af gd => by
  obtain ⟨h1, h2⟩ := hi hg
  have hu : (underlying t).run P w = .ok .string w := by simp [underlying, ht]
  simp only [execOp, Instr.index, asIntOf, hx.eval hg G, hy.eval hg G, Sem.run_bind, Sem.run_pure, Result.andThen_ok, hu, h1, if_true, h2, U8]
end
end Go.Gx
