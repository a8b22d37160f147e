/- Part G: what comes in: the arguments' data, opened. -/
import Derived.WalkKit
import Derived.ProofKit
import Derived.OpenShut
import Derived.ShutString
import Derived.ChangeOld
import Derived.Below
import Derived.SizedLaws
import Derived.JoinedCond
import Derived.Test.YtljifjflnakmoaaGreatRows
import Derived.Test.YtljifjflnakmoaaGreatHxF
set_option linter.unusedVariables false
set_option linter.unusedSimpArgs false
namespace Go.Gx
open Go Go.RowKit
section
variable {α β:Type} {P:Program} {t e:TypeId}
abbrev Kn (α:Type):=World→α→(H:Type)→DataW H→Prop
structure Opn (P:Program) (t:TypeId) (E:Enc α) (Q:Kn α):Prop where
 cells:P.cellsOf t = E.size
 op:∀ {H:Type} (enc:TypeId × Value→H) (w:World) (sp:Nat→Bool) (held:Bool) (fuel:Nat) (cs:List Value) (x:DataW H × List MemPlace),DataW.trod enc P w 0 sp held fuel t cs = some x→∃ a,cs = E.cells a ∧ Q w a H x.1
 val:∀ (w:World) (r:Reach) (b:Nat) (v:Value) (a:α),Value.okWide P w r b t v→v.cells.toList = E.cells a→v = E.val a
theorem Opn.open {E:Enc α} {Q:Kn α} (O:Opn P t E Q) {H:Type} {enc:TypeId × Value→H} {w:World} {sp:Nat→Bool} {held:Bool} {r:Reach} {b:Nat} {v:Value} {d:DataW H} {ps:List MemPlace}
 (hv:Value.okWide P w r b t v) (h:DataW.Trod enc P w 0 sp held t v d ps):∃ a,v = E.val a ∧ Q w a H d:=by
 obtain ⟨fuel,hf⟩:=h;obtain ⟨a,h1,h2⟩:=O.op enc w sp held fuel _ _ hf;exact ⟨a,O.val w r b v a hv h1,h2⟩
theorem Opn.mono {E:Enc α} {Q Q':Kn α} (O:Opn P t E Q) (h:∀ w a H d,Q w a H d→Q' w a H d):Opn P t E Q' :=
 ⟨O.cells,fun enc w sp held fuel cs x hx=>by
  obtain ⟨a,h1,h2⟩:=O.op enc w sp held fuel cs x hx;exact ⟨a,h1,h w a _ _ h2⟩,O.val⟩
structure dh (P:Program) (fs:List Field) (off:Nat) (E:Enc α) (Q:World→α→(H:Type)→List (DataW H)→Prop):Prop where
 op:∀ {H:Type} (enc:TypeId × Value→H) (w:World) (sp:Nat→Bool) (held:Bool) (n:Nat) (cs:List Value) (xs:List (DataW H × List MemPlace)),xs.length = fs.length →
  (∀ i (h1:i < fs.length) (h2:i < xs.length),DataW.trod enc P w 0 sp held n fs[i].type ((cs.drop fs[i].offset).take (P.cellsOf fs[i].type)) = some xs[i])→∃ a,(cs.drop off).take E.size = E.cells a ∧ Q w a H (xs.map (·.1))
theorem dh.one {f:Field} {off:Nat} {E:Enc α} {Q:Kn α} (ho:f.offset = off) (O:Opn P f.type E Q):dh P [f] off E (fun w a H ds=>∃ d,ds = [d] ∧ Q w a H d) where
 op enc w sp held n cs xs hl h:=by
  have hx:=h 0 (by simp) (by rw [hl]; simp);simp only [List.getElem_cons_zero] at hx;rw [O.cells,ho] at hx;obtain ⟨a,h1,h2⟩:=O.op enc w sp held n _ _ hx;refine ⟨a,h1,_,?_,h2⟩
  match xs,hl with
  | [x],_=>rfl
theorem dh.cons {f:Field} {fs:List Field} {off:Nat} {E:Enc α} {E':Enc β} {Q:Kn α} {Q':World→β→(H:Type)→List (DataW H)→Prop} (ho:f.offset = off) (O:Opn P f.type E Q) (R:dh P fs (off + E.size) E' Q') :
 dh P (f :: fs) off (bh E E') (fun w x H ds=>∃ d r,ds = d :: r ∧ Q w x.1 H d ∧ Q' w x.2 H r) where
 op enc w sp held n cs xs hl h:=by
  match xs,hl with
  | x :: xs,hl =>
    have hx:=h 0 (by simp) (by simp);simp only [List.getElem_cons_zero] at hx;rw [O.cells,ho] at hx;obtain ⟨a,h1,h2⟩:=O.op enc w sp held n _ _ hx;obtain ⟨b,h3,h4⟩:=R.op enc w sp held n cs xs (by simpa using hl) (fun i h1 h2=>h (i + 1) (by simp; omega) (by simp; omega));refine ⟨(a,b),?_,_,_,rfl,h2,h4⟩;show (cs.drop off).take (E.size + E'.size) = E.cells a ++ E'.cells b;rw [List.take_add,h1,List.drop_drop,h3]
end
end Go.Gx
