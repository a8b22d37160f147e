/- Part N: a call under a guard that hands back something new. -/
import Derived.Test.YtnoobdijbpmjkaaGreatHxM
import Derived.Test.YtnoobdijbpmjkaaGreatHxG
set_option linter.unusedVariables false
set_option linter.unusedSimpArgs false
namespace Go.Gx
open Go Go.RowKit
section
variable {α β γ : Type} {P : Program}
variable {K : Ctx} {F : Fr} {L : List Res} {g : Bool} {Q : Exit → Act → World → Prop} {N : Act → World → Prop} {ops : Array Oper}
  {op : Op} {ty t t' : TypeId} {pos : String} {af : Array Edge} {d : Nat} {x y : Operand}
def GdS (c : Bool) (v : Value) (E : Enc α) (xs : List α) (T : TypeId) : Res where
  foot := fun b => c = true ∧ (OwnS v E xs T).foot b
  A := fun w => c = true → (OwnS v E xs T).A w
  st := fun w w' h h1 hc => (OwnS v E xs T).st w w' (fun b hb => h b ⟨hc, hb⟩) (h1 hc)
theorem own_pre {w : World} {v : Value} {E : Enc α} {xs : List α} {T : TypeId} {k : Nat} (h : (OwnS v E xs T).A w) (hk : k ≤ xs.length) : (OwnS (subS E.size v 0 k) E (xs.take k) T).A w ∧ (subS E.size v 0 k).ownBlock = v.ownBlock := by
  have h' : w.ownsRow 0 T E.size v xs.length (E.row xs) := h
  have hl : (xs.take k).length = k := by simp; omega
  rcases h'.2 with ⟨rfl, hn⟩ | ⟨g, cap, cur, rfl, hb, hg, h1, h2, h3, h4⟩
  · have hx : xs = [] := List.eq_nil_of_length_eq_zero hn
    subst hx
    have hk0 : k = 0 := by simpa using hk
    subst hk0
    exact ⟨h, rfl⟩
  · have e : subS E.size (.slice (some ⟨g, 0, none⟩) xs.length cap) 0 k = .slice (some ⟨g, 0, none⟩) k cap := by
      unfold subS
      split <;> simp_all [Addr.add]
    rw [e]
    refine ⟨?_, rfl⟩
    refine ⟨E.row_length _, .inr ⟨g, cap, cur, by rw [hl], hb, hg, by rw [hl]; omega, h2, h3, ?_⟩⟩
    rw [hl, ← E.row_take, ← h4, List.take_take]
    congr 1
    exact (Nat.min_eq_left (Nat.mul_le_mul_right _ hk)).symm
theorem cutOwn {X : Act → World → Prop} {v : Value} {E : Enc α} {xs : List α} {T : TypeId} {L' : List Res} (k : Nat) (hu : Upd L (OwnS v E xs T) (OwnS (subS E.size v 0 k) E (xs.take k) T) L') (hk : k ≤ xs.length) (h : Sat K X F L') : Sat K X F L := fun a w G => by
  obtain ⟨h1, h2⟩ := own_pre (G.inv.own _ hu.mem).1 hk
  refine h a w (G.world (G.inv.upd hu (Keeps.refl _ _) h1 fun b hb => ?_))
  have hb' : (OwnS v E xs T).foot b := by
    have : (subS E.size v 0 k).ownBlock = some b := hb
    rw [h2] at this
    exact this
  exact ⟨.inl hb', ((G.inv.own _ hu.mem).2 b hb').2⟩
end
end Go.Gx
