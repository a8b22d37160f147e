/- packet -/
import Derived.Test.YtegcihhhighipaaP3
set_option linter.unusedVariables false
set_option linter.unusedSimpArgs false
namespace Go.Proofs.Ytegcihhhighipaa
open Go Go.Gx

/-- A number laid at a place. -/
def layB (xs : List UInt8) (p : Int) (s : UInt16) : List UInt8 := (xs.set p.toNat (shr16 s 8).toUInt8).set (p + 1).toNat s.toUInt8
@[simp] theorem layB_length (xs : List UInt8) (p : Int) (s : UInt16) : (layB xs p s).length = xs.length := by simp [layB]

theorem lay_ok (v : Value) (xs : List UInt8) (p : Int) (s : UInt16) (w : World) (hp : 0 ≤ p ∧ p + 1 < xs.length) (hx : (OwnS v u8E xs 5).A w) (hb : ∀ b, v.ownBlock = some b → b < w.heap.size) : Calls Try.prog 35 #[v, I p, U16 s] w (RetW v u8E xs (layB xs p s) 5 (.tuple #[]) w) := by
  have hbl : xs.length ≤ 9223372036854775807 := (IsSl.of_own hx).le
  refine enter (OwnS v u8E xs 5).foot 18 [OwnS v u8E xs 5] Try.func35 rfl rfl (Nat.le_of_ble_eq_true rfl) (start_own hx hb) ?_
  refine seq ?_
  refine region ?_
  refine cons (opv (Ev.move (.t rfl)) ?_)
  refine cons (opv (Ev.move (.t rfl)) ?_)
  refine cons (opv (Ev.move (.t rfl)) ?_)
  refine cons (opv (Ev.shr_u16 (.t rfl) (.c rfl) (fun _ => by decide)) ?_)
  refine cons (opv (Ev.conv_u16_u8 Try.underlying5 Try.underlying25 (.t rfl)) ?_)
  refine cons (opv (Ev.indexAddr Try.underlying27 ty5 (.t rfl) (.t rfl) (fun w I => isSl_own (by repeat first | exact mH | apply mT | apply mA) w I) (fun _ => by omega)) ?_)
  refine cons (storeS0 ty5 (.t rfl) (.t rfl) (by repeat first | exact Upd.head | apply Upd.tail | apply Upd.right) (by omega) ?_)
  refine nil ?_
  refine pN ?_
  refine region ?_
  refine cons (opv (Ev.move (.t rfl)) ?_)
  refine cons (opv (Ev.move (.t rfl)) ?_)
  refine cons (opv (Ev.add_i (.t rfl) (.c (v := I 1) rfl) (fun _ => by omega)) ?_)
  refine cons (opv (Ev.move (.t rfl)) ?_)
  refine cons (opv (Ev.conv_u16_u8 Try.underlying5 Try.underlying25 (.t rfl)) ?_)
  refine cons (opv (Ev.indexAddr Try.underlying27 ty5 (.t rfl) (.t rfl) (fun w I => isSl_own (by repeat first | exact mH | apply mT | apply mA) w I) (fun _ => by rw [List.length_set]; omega)) ?_)
  refine cons (storeS0 ty5 (.t rfl) (.t rfl) (by repeat first | exact Upd.head | apply Upd.tail | apply Upd.right) (by rw [List.length_set]; omega) ?_)
  refine nil ?_
  refine done' rfl .nil (fun w I => ?_)
  exact ⟨rfl, I.keeps, (I.own _ List.mem_cons_self).1⟩
end Go.Proofs.Ytegcihhhighipaa
