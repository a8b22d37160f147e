/- Part I: many slices of one's own, numbered. -/
import Derived.Test.YtjjlofjpdklbgaaGxH
set_option linter.unusedVariables false
set_option linter.unusedSimpArgs false
namespace Go.Gx
open Go Go.RowKit

section
variable {α β γ : Type} {P : Program}
variable {K : Ctx} {F : Fr} {L : List Res} {g : Bool} {Q : Exit → Act → World → Prop} {N : Act → World → Prop} {ops : Array Oper}
  {op : Op} {ty t t' : TypeId} {pos : String} {af : Array Edge} {d : Nat} {x y : Operand}

/-- The slices os, of one's own, that read as xss; the last one first. -/
def rowsR (E : Enc α) (T : TypeId) : List OV → List (List α) → List Res
  | o :: os, xs :: xss => rowsR E T os xss ++ [OwnS o.v E xs T]
  | _, _ => []
theorem Upd.left {A A' B : List Res} {r r' : Res} (h : Upd A r r' A') : Upd (A ++ B) r r' (A' ++ B) := by
  obtain ⟨X, Y, rfl, rfl⟩ := h
  exact ⟨X, Y ++ B, by simp, by simp⟩
theorem Upd.right {A B B' : List Res} {r r' : Res} (h : Upd B r r' B') : Upd (A ++ B) r r' (A ++ B') := by
  obtain ⟨X, Y, rfl, rfl⟩ := h
  exact ⟨A ++ X, Y, by simp, by simp⟩
theorem rowsR_snoc {E : Enc α} {T : TypeId} : ∀ {os : List OV} {xss : List (List α)} (o : OV) (xs : List α), os.length = xss.length → rowsR E T (os ++ [o]) (xss ++ [xs]) = OwnS o.v E xs T :: rowsR E T os xss
  | [], [], o, xs, _ => rfl
  | o :: os, xs :: xss, o', xs', h => by
    simp only [List.cons_append, rowsR]
    rw [rowsR_snoc o' xs' (by simpa using h)]
    rfl
  | [], _ :: _, _, _, h => by simp at h
  | _ :: _, [], _, _, h => by simp at h
theorem rowsR_upd {E : Enc α} {T : TypeId} : ∀ {os : List OV} {xss : List (List α)} {i : Nat} (o' : OV) (xs' : List α), i < os.length → i < xss.length →
    Upd (rowsR E T os xss) (OwnS (os.getD i nilSl).v E (xss.getD i []) T) (OwnS o'.v E xs' T) (rowsR E T (os.set i o') (xss.set i xs'))
  | o :: os, xs :: xss, 0, o', xs', _, _ => Upd.right Upd.head
  | o :: os, xs :: xss, i + 1, o', xs', h1, h2 => by
    have := rowsR_upd (E := E) (T := T) (os := os) (xss := xss) (i := i) o' xs' (by simpa using h1) (by simpa using h2)
    exact Upd.left (by simpa [List.getD] using this)
  | [], _, _, _, _, h, _ => by simp at h
  | _ :: _, [], _, _, _, _, h => by simp at h
theorem rowsR_set {E : Enc α} {T : TypeId} {os : List OV} {xss : List (List α)} {i : Nat} {xs : List α} (o' : OV) (xs' : List α) (h1 : i < os.length) (h2 : i < xss.length) :
    Upd (rowsR E T os (xss.set i xs)) (OwnS (os.getD i nilSl).v E xs T) (OwnS o'.v E xs' T) (rowsR E T (os.set i o') (xss.set i xs')) := by
  have h := rowsR_upd (E := E) (T := T) (os := os) (xss := xss.set i xs) (i := i) o' xs' h1 (by simpa using h2)
  have e : (xss.set i xs).getD i [] = xs := by simp [List.getD, h2]
  rw [e, List.set_set] at h
  exact h
theorem rowsR_set' {E : Enc α} {T : TypeId} {os : List OV} {xss : List (List α)} {i : Nat} {xs : List α} (xs' : List α) (h1 : i < os.length) (h2 : i < xss.length) :
    Upd (rowsR E T os (xss.set i xs)) (OwnS (os.getD i nilSl).v E xs T) (OwnS (os.getD i nilSl).v E xs' T) (rowsR E T os (xss.set i xs')) := by
  have h := rowsR_set (E := E) (T := T) (os := os) (xss := xss) (xs := xs) (os.getD i nilSl) xs' h1 h2
  have e : os.set i (os.getD i nilSl) = os := by simp [List.getD, h1]
  rw [e] at h
  exact h
theorem isSl_rows {E : Enc α} {T : TypeId} {os : List OV} {xss : List (List α)} {i : Nat} (h1 : i < os.length) (h2 : i < xss.length) (hs : ∀ r ∈ rowsR E T os xss, r ∈ L) (w : World) (h : WInv K L w) : IsSl E w (os.getD i nilSl).v (xss.getD i []) :=
  isSl_own (hs _ (rowsR_upd (os.getD i nilSl) [] h1 h2).mem) w h
theorem isSl_rows' {E : Enc α} {T : TypeId} {os : List OV} {xss : List (List α)} {i : Nat} {xs : List α} (e : xss.getD i [] = xs) (h1 : i < os.length) (h2 : i < xss.length) (hs : ∀ r ∈ rowsR E T os xss, r ∈ L) (w : World) (h : WInv K L w) : IsSl E w (os.getD i nilSl).v xs := e ▸ isSl_rows h1 h2 hs w h
theorem isSl_rowSet {E : Enc α} {T : TypeId} {os : List OV} {xss : List (List α)} {i : Nat} {xs : List α} (h1 : i < os.length) (h2 : i < xss.length) (hs : ∀ r ∈ rowsR E T os (xss.set i xs), r ∈ L) (w : World) (h : WInv K L w) : IsSl E w (os.getD i nilSl).v xs :=
  isSl_own (hs _ (rowsR_set (os.getD i nilSl) [] h1 h2).mem) w h
/-- append, what is owned behind it told by the new slice. -/
theorem appendO {E : Enc α} {v u : Value} {xs ys : List α} {T : TypeId} {L' : OV → List Res} {z : Value} {by' : Nat} (ht : P.underlying t = some (.slice T)) (TT : TyOK P T E) (hsz : Nat.blt 0 E.size = true)
    (hz : (P.info? T).map (fun i => (i.zero, i.bytes)) = some (some z, by')) (hzs : z.cells.size = E.size)
    (hx : Opd F true x v) (hy : Opd F true y u) (hu : ∀ o : OV, Upd L (OwnS v E xs T) (OwnS o.v E (xs ++ ys) T) (L' o)) (hsrc : ∀ w, WInv K L w → IsSl E w u ys) (hby : xs.length + ys.length ≤ maxLen ∧ (xs.length + ys.length) * by' ≤ 140737488355328)
    (next : ∀ o : OV, Sat K N ((d, true, o.v) :: F) (L' o)) (hd : Nat.blt d K.n = true := by rfl) :
    Sat K (opThen P ops Q ⟨some d, .call { callee := .builtin .append, args := #[x, y], argTypes := #[t, t] }, ty, pos, af, none⟩ N) F L := fun a w G => by
  refine opThen_plain rfl ?_
  unfold Oper.wp
  have hown := (G.inv.own _ (hu nilSl).mem).1
  obtain ⟨v', w', hr, h1, h2, h3⟩ := run_append (P := P) (ty := ty) ht TT (by simpa [Nat.blt_eq] using hsz) hz hzs hown (hsrc w G.inv) hby.1 hby.2
  have he : (execOp a.eval ⟨some d, .call { callee := .builtin .append, args := #[x, y], argTypes := #[t, t] }, ty, pos, af, none⟩).run P w = .ok (.value v') w' := by
    simp [execOp, resolve, invoke, builtin, hx.eval rfl G.fo, hy.eval rfl G.fo, hr]
  rw [he]
  refine next ⟨v', own_one h1⟩ _ _ (G.put d true _ _ (by simpa [Nat.blt_eq] using hd) rfl (G.inv.upd (hu ⟨v', own_one h1⟩) ((Keeps.of_grown h2).mono (fun i hi => hi)) h1 ?_))
  intro b hb
  have hlt := (h1.lt b hb).2
  refine ⟨?_, hlt⟩
  have hb' : v'.ownBlock = some b := hb
  rcases h3 with h3 | h3
  · exact .inl (h3.symm.trans hb')
  · rw [h3] at hb'
    exact .inr (Nat.le_of_eq (Option.some.inj hb'))
theorem set_getD {α : Type} (l : List α) (i : Nat) (d : α) (h : i < l.length) : l.set i (l.getD i d) = l := by simp [List.getD, h]
end
end Go.Gx
