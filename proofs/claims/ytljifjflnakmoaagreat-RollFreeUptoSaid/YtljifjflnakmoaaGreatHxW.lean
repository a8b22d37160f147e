/- Part W: short forms, whose usual facts are found by themselves. -/
import Derived.Test.YtljifjflnakmoaaGreatHxV
set_option linter.unusedVariables false
set_option linter.unusedSimpArgs false
namespace Go.Gx
open Go Go.RowKit
section
variable {α β γ:Type} {P:Program}
variable {K:Ctx} {F:Fr} {L:List Res} {g:Bool} {Q:Exit→Act→World→Prop} {N:Act→World→Prop} {ops:Array Oper}
 {op:Op} {ty t t':TypeId} {pos:String} {af:Array Edge} {d:Nat} {x y:Operand} {v:Value}
theorem tk {Lq:List Res} {fuel:Nat} {listed:Array Bool} (i:Nat) (hi:ops[i]? = some ⟨some d,op,ty,pos,af,none⟩)
 (h:Ev P K F Lq true op ty v) (next:Sat K (gq P K ops Q Lq fuel (listed.setIfInBounds i true)) ((d,true,v) :: F) L) (hs:Region.noSelect ops = true:=by kernel_rfl)
 (hf:Region.free .any ops listed i = true:=by kernel_rfl) (hr:(Region.ready .any ops listed).contains i = true:=by kernel_rfl)
 (hL:Lq.Sublist L:=by repeat first | exact sR | exact sN | apply sC | apply sS | apply sA) (hd:Nat.blt d K.n = true:=by rfl) :
 Sat K (gq P K ops Q Lq (fuel + 1) listed) F L:=take i hi hs hf hr hL h next hd
theorem tkg {Lq:List Res} {fuel:Nat} {listed:Array Bool} {j tg:Nat} {want c1 c2:Bool} (i:Nat) (hi:ops[i]? = some ⟨some d,op,ty,pos,af,some (j,want)⟩)
 (hj:(ops[j]?).bind (·.dst) = some tg) (hg:look F tg = some (c1,.bool c2))
 (h:Ev P K F Lq (c1 && (c2 == want)) op ty v) (next:Sat K (gq P K ops Q Lq fuel (listed.setIfInBounds i true)) ((d,(c1 && (c2 == want)),v) :: F) L) (hs:Region.noSelect ops = true:=by kernel_rfl)
 (hf:Region.free .any ops listed i = true:=by kernel_rfl) (hr:(Region.ready .any ops listed).contains i = true:=by kernel_rfl)
 (hL:Lq.Sublist L:=by repeat first | exact sR | exact sN | apply sC | apply sS | apply sA) (hd:Nat.blt d K.n = true:=by rfl) :
 Sat K (gq P K ops Q Lq (fuel + 1) listed) F L:=takeg i hi hs hf hr hL hj hg h next hd
theorem hdn {Lq:List Res} {fuel:Nat} {listed:Array Bool} (h:Sat K (gq P K ops Q Lq fuel listed) F L) (hL:Lq.Sublist L:=by repeat first | exact sR | exact sN | apply sC | apply sS | apply sA):Sat K (heldN P K ops Q Lq fuel listed) F L:=heldN_of hL h
theorem al1 {Lq:List Res} {fuel:Nat} {listed:Array Bool} (i:Nat) {o:Oper} (ho:ops[i]? = some o) (h:Sat K (bH P K ops Q o (heldN P K ops Q Lq fuel (listed.setIfInBounds i true))) F L)
 (hr:Region.ready .any ops listed = [i]:=by kernel_rfl):Sat K (gq P K ops Q Lq (fuel + 1) listed) F L:=all [i] hr (List.cons_ne_nil _ _) (.cons ho h .nil)
theorem ovr {Lq:List Res} {fuel:Nat} {listed:Array Bool} (h:Sat K (Q .normal) F L) (hr:Region.ready .any ops listed = []:=by kernel_rfl) :
 Sat K (gq P K ops Q Lq fuel listed) F L:=over hr h
theorem nb:(∀ a b:Bool,((a && b) = true) = (a = true ∧ b = true)) ∧ (∀ a b:Bool,((a || b) = true) = (a = true ∨ b = true)) ∧ (∀ a b:Bool,((a || b) = false) = (a = false ∧ b = false)) ∧ (∀ a b:Bool,((a && b) = false) = (a = false ∨ b = false)) ∧
 (∀ a:Bool,((!a) = true) = (a = false)) ∧ (∀ a:Bool,((!a) = false) = (a = true)) ∧ (∀ (p:Prop) [Decidable p],(decide p = true) = p) ∧ (∀ (p:Prop) [Decidable p],(decide p = false) = ¬p) ∧ (∀ (p:Prop) [Decidable p],(¬¬p) = p):=by
 refine ⟨by decide,by decide,by decide,by decide,by decide,by decide,fun p _=>?_,fun p _=>?_,fun p _=>?_⟩
 ·simp
 ·simp
 ·simp
theorem Ev.ldv {E:Enc α} {E':Enc β} {b o:Nat} {xv:α} {T:TypeId} (TT:ee P t E') (hx:Opd F g x (.pointer (some ⟨b,o,none⟩))) (l:ah E E' o)
 (hm:Var b E xv T ∈ L:=by repeat first | exact mH | apply mT | apply mA):Ev P K F L g (.load t x) ty (E'.val (l.get xv)):=Ev.load TT hx (br hm l)
theorem stv {E:Enc α} {E':Enc β} {b o:Nat} {xv:α} {yv:β} {T':TypeId} {L':List Res} (T:ee P t E') (l:ah E E' o) (hx:Opd F true x (.pointer (some ⟨b,o,none⟩))) (hy:Opd F true y (E'.val yv))
 (next:Sat K N F L') (hu:Upd L (Var b E xv T') (Var b E (l.set xv yv) T') L':=by repeat first | exact Upd.head | apply Upd.tail | apply Upd.right) :
 Sat K (bH P K ops Q ⟨none,.store t x y,ty,pos,af,none⟩ N) F L:=storeV T l hx hy hu next
theorem Ev.ldx {E:Enc α} {E':Enc β} {b o:Nat} {xv:α} {T:TypeId} (z:β) (TT:ee P t E') (hx:Opd F g x (.pointer (some ⟨b,o,none⟩))) (l:ah E E' o)
 (hm:Var b E xv T ∈ L:=by repeat first | exact mH | apply mT | apply mA) (e:l.get xv = z:=by rfl):Ev P K F L g (.load t x) ty (E'.val z):=e ▸ Ev.load TT hx (br hm l)
theorem app {E:Enc α} {v u:Value} {xs ys:List α} {T:TypeId} {L':Value→List Res} {z:Value} {by':Nat} (ht:P.underlying t = some (.slice T)) (TT:ee P T E)
 (hz:(P.info? T).map (fun i=>(i.zero,i.bytes)) = some (some z,by')) (hzs:z.cells.size = E.size) (hx:Opd F true x v) (hy:Opd F true y u) (next:∀ o:OV,Sat K N ((d,true,o.v) :: F) (L' o.v))
 (hsz:Nat.blt 0 E.size = true:=by rfl)
 (hu:∀ v',Upd L (aT v E xs T) (aT v' E (xs ++ ys) T) (L' v'):=by intro _; repeat first | exact Upd.head | apply Upd.tail | apply Upd.right)
 (hsrc:∀ w,aP K L w→aO E w u ys:=by first | exact fJ (by repeat first | exact mH | apply mT | apply mA) | exact fun w I=>aO.aV (by assumption) I.keeps)
 (hby:xs.length + ys.length ≤ maxLen ∧ (xs.length + ys.length) * by' ≤ 140737488355328) (hd:Nat.blt d K.n = true:=by rfl) :
 Sat K (bH P K ops Q ⟨some d,.call { callee:=.builtin .append,args:=#[x,y],argTypes:=#[t,t] },ty,pos,af,none⟩ N) F L :=
 append ht TT hsz hz hzs hx hy hu hsrc hby next hd
theorem mt {X:Type} {J:X→Prop} {Fx:X→Fr} {Lx:X→List Res} (x':X) (hJ:J x') (hF:Sub F (Fx x'):=by repeat first | exact Sub.nil | refine Sub.cons rfl ?_) (hL:(Lx x').Sublist L:=by repeat first | exact sR | exact sN | apply sC | apply sS | apply sA) :
 Sat K (fun a w=>∃ x',J x' ∧ Good K (Fx x') (Lx x') a w) F L:=meet x' hJ hF hL
theorem mtP {X:Type} {J:X→Prop} {Fx:X→Fr} {Lx:X→List Res} (x':X) (hJ:J x') (hF:Sub F (Fx x'):=by repeat first | exact Sub.nil | refine Sub.cons rfl ?_) (hL:fU (Lx x') L:=by repeat first | exact fU.nil | refine fU.cons (by repeat first | exact Rem.head | apply Rem.tail) ?_) :
 Sat K (fun a w=>∃ x',J x' ∧ Good K (Fx x') (Lx x') a w) F L:=meetP x' hJ hF hL
theorem nx {X:Type} {J:X→Prop} {Fx:X→Fr} {Lx:X→List Res} {μ:X→Nat} {x:X} (x':X) (hJ:J x') (hlt:μ x' < μ x) (hF:Sub F (Fx x'):=by repeat first | exact Sub.nil | refine Sub.cons rfl ?_) (hL:(Lx x').Sublist L:=by repeat first | exact sR | exact sN | apply sC | apply sS | apply sA) :
 Sat K (fun a w=>∃ x',J x' ∧ μ x' < μ x ∧ Good K (Fx x') (Lx x') a w) F L:=next x' hJ hlt hF hL
theorem nxP {X:Type} {J:X→Prop} {Fx:X→Fr} {Lx:X→List Res} {μ:X→Nat} {x:X} (x':X) (hJ:J x') (hlt:μ x' < μ x) (hF:Sub F (Fx x'):=by repeat first | exact Sub.nil | refine Sub.cons rfl ?_) (hL:fU (Lx x') L:=by repeat first | exact fU.nil | refine fU.cons (by repeat first | exact Rem.head | apply Rem.tail) ?_) :
 Sat K (fun a w=>∃ x',J x' ∧ μ x' < μ x ∧ Good K (Fx x') (Lx x') a w) F L:=nextP x' hJ hlt hF hL
theorem lp {X:Type} {c:Code} (J:X→Prop) (Fx:X→Fr) (Lx:X→List Res) (μ:X→Nat) (x0:X) (h0:J x0)
 (round:∀ x,J x→Sat K (c.wpK P K (Exit.then (fun a w=>∃ x',J x' ∧ μ x' < μ x ∧ Good K (Fx x') (Lx x') a w) Q)) (Fx x) (Lx x)) (hF:Sub F (Fx x0):=by repeat first | exact Sub.nil | refine Sub.cons rfl ?_) (hL:(Lx x0).Sublist L:=by repeat first | exact sR | exact sN | apply sC | apply sS | apply sA) :
 Sat K ((Code.loop c).wpK P K Q) F L:=loop J Fx Lx μ x0 h0 hF hL round
end
end Go.Gx
