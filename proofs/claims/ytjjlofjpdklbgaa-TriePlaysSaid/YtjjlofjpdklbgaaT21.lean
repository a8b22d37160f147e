/- trie -/
import Derived.Test.YtjjlofjpdklbgaaT20
set_option linter.unusedVariables false
set_option linter.unusedSimpArgs false
namespace Go.Proofs.Ytjjlofjpdklbgaa
open Go Go.Gx

def Tt.nodes (t : Tt) : List PT := t.l.pre ++ t.r.pre
def Tt.shape (t : Tt) : List SPrefix := t.nodes.map (fun x => x.key.1)
abbrev shpJ : PT → OV × List SPrefix → OV × List SPrefix → Prop := fun x s s' => s'.2 = s.2 ++ [x.key.1]
theorem shpN : ∀ {xs : List PT} {s t : OV × List SPrefix}, RunsN shpJ xs s t → t.2 = s.2 ++ xs.map (fun x => x.key.1)
  | [], s, t, h => by rw [show t = s from h]; simp
  | x :: xs, s, t, ⟨q, h1, h⟩ => by
    rw [shpN h, show q.2 = _ from h1, List.append_assoc]
    rfl

theorem zb36 : (Try.prog.info? 36).map (fun i => (i.zero, i.bytes)) = some (some (ePrefix.val ePrefix.zero), 32) := by kernel_rfl

theorem zs36 : (ePrefix.val ePrefix.zero).cells.size = ePrefix.size := by rw [Enc.cells_val, List.size_toArray, Enc.len]

theorem shape_ok (t : Tt) (w : World) (ht : t.At w) (ho : t.OK) (hn : t.nodes.length ≤ 4000000000) : Calls Try.prog 19 #[t.ptr.v] w (RetO w ePrefix t.shape 36) := by
  refine enterM0 16 Try.func19 rfl rfl (Nat.le_of_ble_eq_true rfl) ?_
  refine seq (region (cons (opv (Ev.assign (.c (v := (Go.Value.slice none 0 0)) rfl)) ?_)))
  refine nil (pN (seq (region (cons (alloc z51 (fun b1 => ?_))))))
  refine nil (pN (seq (seq (takeNil ePrefix 36 ?_))))
  refine region (cons (opv (Ev.move (.t rfl)) (cons (opv (Ev.makeBound (f := 43) (.cons (.t rfl) .nil) .nil) ?_))))
  refine nil (pN (block (sepIn (r := Var b1 (ovE nilSl) nilSl 51) (s := OwnS nilSl.v ePrefix [] 36) (by repeat first | exact Rem.head | apply Rem.tail) (by repeat first | exact Rem.head | apply Rem.tail) ?_)))
  refine rangeF2 (ζ := Unit) (m := []) (ps := [7]) encN (fun s : OV × List SPrefix => Sep (Var b1 (ovE nilSl) s.1 51) (OwnS s.1.v ePrefix s.2 36)) ((nilSl, []) : OV × List SPrefix) t.nodes shpJ (fun _ _ _ _ => False) (fun x z => [dz, (3, true, .pointer (some ⟨b1, 0, none⟩)), (4, true, x.ptr.v)]) (fun x z => ([] : List Res)) (by repeat first | exact Rem.head | apply Rem.tail) (by repeat first | exact Rem.head | apply Rem.tail) rfl (.t rfl) ⟨43, [t.ptr.v], [], rfl⟩ (fun _ => rfl) rfl (fun w I hb => nodes_iter t ho w _ (fun w1 k => ht.keep (hb w1 k).keeps)) (fun l x w => ?_) (fun l x s zv n0 w hx hn0 hft hb => ?_) (fun s D hr => ?_) (fun c s D hr => ?_)
  · refine regionI (consT (opv (Ev.assign (.t rfl)) (nilI (gd () (by repeat first | exact Sub.nil | refine Sub.cons rfl ?_) (by repeat first | exact sR | exact sN | apply sC | apply sS | apply sA)))))
  · obtain ⟨pre, post, hxe, hxr⟩ := hx
    have hx : x ∈ t.l.pre ++ t.r.pre := by rw [show t.l.pre ++ t.r.pre = _ from hxe]; simp
    obtain ⟨b, q, u, h, l, r, rfl⟩ : ∃ b q u h l r, x = PT.node b q u h l r := by
      rcases List.mem_append.1 hx with hx | hx
      · exact PT.pre_node hx
      · exact PT.pre_node hx
    have hxat : ∀ w1, Keeps (MS (fun s : OV × List SPrefix => Sep (Var b1 (ovE nilSl) s.1 51) (OwnS s.1.v ePrefix s.2 36)) s n0) w w1 → (PT.node b q u h l r).At w1 := fun w1 k => by
      have h9 := ht.keep (hb w1 k).keeps
      rcases List.mem_append.1 hx with hx | hx
      · exact PT.pre_at h9.2.1 hx
      · exact PT.pre_at h9.2.2 hx
    have hsl : s.2.length ≤ 4000000000 := by
      have h8 := shpN hxr
      have h9 : t.nodes.length = _ := congrArg List.length hxe
      rw [h8]
      simp only [List.length_append, List.length_cons, List.length_map, List.length_nil] at h9 ⊢
      omega
    refine sepOut Rem.head ?_
    refine blockI (drawIn [] (by kernel_rfl) ?_)
    refine tkI 1 rfl (Ev.to (v' := .pointer (some ⟨b, 0, none⟩)) (Ev.move (.t rfl)) (rfl)) ?_
    refine tkI 2 rfl (Ev.nilCheck (.t rfl)) ?_
    refine tkI 3 rfl (Ev.fieldAddr (o := 0) (.t rfl) (by kernel_rfl)) ?_
    refine tkI 4 rfl (Ev.load ty36 (.t rfl) (ptsL (fun w I => (hxat w I.keeps).1) STrieNode.l_p)) ?_
    refine allI [0, 5] (by kernel_rfl) (by decide) (.cons rfl ?_ (.cons rfl ?_ .nil))
    · refine opT (opv (Ev.to (v' := s.1.v) (Ev.ldv ty51 (.t rfl) (Lens.id _)) (rfl)) ?_)
      refine hdnI (al1I 5 rfl (opT (buildSlice (E := ePrefix) Try.underlying51 ty36 z36 (.cons (.t rfl) .nil) rfl rfl (fun v2 => ?_))))
      refine hdnI (al1I 6 rfl (opT (app (E := ePrefix) Try.underlying51 ty36 zb36 zs36 (.t rfl) (.t rfl) (fun v3 => ?_) (hby := ⟨by (show _ ≤ 9223372036854775807); first | omega | (simp; done) | (simp; omega), by first | omega | (simp; done) | (simp; omega)⟩))))
      refine hdnI (al1I 7 rfl (opT (stv ty51 (Lens.id _) (.t rfl) (.t rfl) ?_)))
      refine hdnI (ovrI (bN (sepIn (r := Var b1 (ovE nilSl) v3 51) (s := OwnS v3.v ePrefix (s.2 ++ [q]) 36) (by repeat first | exact Rem.head | apply Rem.tail) (by repeat first | exact Rem.head | apply Rem.tail) ?_)))
      exact rdN hn0 ((v3, s.2 ++ [q]) : OV × List SPrefix) rfl mH
    · refine opT (buildSlice (E := ePrefix) Try.underlying51 ty36 z36 (.cons (.t rfl) .nil) rfl rfl (fun v4 => ?_))
      refine hdnI (al1I 0 rfl (opT (opv (Ev.to (v' := s.1.v) (Ev.ldv ty51 (.t rfl) (Lens.id _)) (rfl)) ?_)))
      refine hdnI (al1I 6 rfl (opT (app (E := ePrefix) Try.underlying51 ty36 zb36 zs36 (.t rfl) (.t rfl) (fun v5 => ?_) (hby := ⟨by (show _ ≤ 9223372036854775807); first | omega | (simp; done) | (simp; omega), by first | omega | (simp; done) | (simp; omega)⟩))))
      refine hdnI (al1I 7 rfl (opT (stv ty51 (Lens.id _) (.t rfl) (.t rfl) ?_)))
      refine hdnI (ovrI (bN (sepIn (r := Var b1 (ovE nilSl) v5 51) (s := OwnS v5.v ePrefix (s.2 ++ [q]) 36) (by repeat first | exact Rem.head | apply Rem.tail) (by repeat first | exact Rem.head | apply Rem.tail) ?_)))
      exact rdN hn0 ((v5, s.2 ++ [q]) : OV × List SPrefix) rfl mH
  · have hsh := shpN hr
    refine sepOut Rem.head ?_
    refine bN (pN (seq (region (cons (opv (Ev.to (v' := s.1.v) (Ev.ldv ty51 (.t rfl) (Lens.id _)) (rfl)) ?_)))))
    refine cons (opv (Ev.assign (.t rfl)) (nil (pN (ret (doneM (by repeat first | exact Rem.head | apply Rem.tail) rfl rfl (.tmp rfl .nil) (retOE (by repeat first | exact mH | apply mT | apply mA) ?_))))))
    unfold Tt.shape; simpa using hsh
  · exact (runsX_false hr).elim
end Go.Proofs.Ytjjlofjpdklbgaa
