/- Part Z: interfaces; maps whose values are of any type. -/
import Derived.Laws.Cover3
import Derived.Test.YtljifjflnakmoaaGreatHxY
set_option linter.unusedVariables false
set_option linter.unusedSimpArgs false
namespace Go.Gx
open Go Go.RowKit
section
variable {α β γ:Type} {P:Program}
variable {K:Ctx} {F:Fr} {L:List Res} {g:Bool} {Q:Exit→Act→World→Prop} {N:Act→World→Prop} {ops:Array Oper}
 {op:Op} {ty t t':TypeId} {pos:String} {af:Array Edge} {d:Nat} {x y:Operand}
def isIf:TypeDesc→Bool
 | .interface _=>true
 | _=>false
def isPtr:TypeDesc→Bool
 | .pointer _=>true
 | _=>false
def ifc (t:TypeId) (v:Value):OV:=⟨.iface t v,rfl⟩
theorem Ev.makeIf {T:TypeId} {dd:TypeDesc} {u:Value} (ht:P.underlying T = some dd) (hn:isIf dd = false) (hx:Opd F g x u):Ev P K F L g (.makeInterface T x) ty (ifc T u).v:=.of rfl (fun hg a G w hw dst pos af gd=>by
 refine .bind ?_ fun _=>.pure _
 unfold Instr.makeInterface;refine .under ht ?_;cases dd <;> first | (cases hn; done) | exact .pure _) fun hg a G w _ dst pos af gd=>by
 have hu:(underlying T).run P w = .ok dd w:=by simp [underlying,ht]
 have h1:=hx.eval hg G;cases dd <;> first | (cases hn; done) | simp [execOp,Instr.makeInterface,hu,h1,ifc]
def pf (P:Program) (t:TypeId) (v:Value) (name:String) (f:FuncId) (r:Value):Prop:=(∀ w,(method (P.types.size + Made.depth) t v name).run P w = .ok (f,r) w) ∧ ∀ pm fr,Tm P pm fr (method (P.types.size + Made.depth) t v name)
theorem pf.val {T:TypeId} {u:Value} {name:String} {f:FuncId} {dd:TypeDesc} (hi:((P.info? T).bind fun i=>(i.methods.find? (·.name == name)).map fun m=>(m.path,m.func)) = some (#[],some (f,false)))
 (ht:P.underlying T = some dd) (hn:isPtr dd = false) (hs:P.types.size ≠ 0):pf P T u name f u:=by
 refine ⟨fun w=>?_,fun pm fr=>?_⟩
 rotate_left
 ·obtain ⟨k,hk⟩:∃ k,P.types.size + Made.depth = k + 1:=⟨P.types.size + Made.depth - 1,by omega⟩;rw [hk];cases hin:P.info? T with
  | none=>rw [hin] at hi; cases hi
  | some i =>
    rw [hin] at hi;simp only [Option.bind_some] at hi;cases hm:i.methods.find? (·.name == name) with
    | none=>rw [hm] at hi; cases hi
    | some m =>
      rw [hm] at hi;simp only [Option.map_some,Option.some.injEq,Prod.mk.injEq] at hi;obtain ⟨h1,h2⟩:=hi;unfold method;refine .info hin ?_;simp only [hm,h1,h2];refine .known (b:=(T,.val u)) (.pure _) (fun v=>rfl) (.bind ?_ fun _=>.pure _);unfold receiverAt;refine .under ht ?_;cases dd <;> first | (cases hn; done) | exact .pure _
 obtain ⟨k,hk⟩:∃ k,P.types.size + Made.depth = k + 1:=⟨P.types.size + Made.depth - 1,by omega⟩;rw [hk];cases hin:P.info? T with
 | none=>rw [hin] at hi; cases hi
 | some i =>
   rw [hin] at hi;simp only [Option.bind_some] at hi;cases hm:i.methods.find? (·.name == name) with
   | none=>rw [hm] at hi; cases hi
   | some m =>
     rw [hm] at hi;simp only [Option.map_some,Option.some.injEq,Prod.mk.injEq] at hi;obtain ⟨h1,h2⟩:=hi;have hu:(underlying T).run P w = .ok dd w:=by simp [underlying,ht]
     cases dd <;> first | (cases hn; done) | simp [method,typeInfo,hin,hm,h1,h2,follow,receiverAt,hu,Place.get]
theorem exec_calli {T:TypeId} {u r:Value} {name:String} {f:FuncId} {args:List Operand} {ats:Array TypeId} {vs:List Value} (hx:Opd F g x (ifc T u).v) (hm:pf P T u name f r) (hen:cv P f) (hargs:fq F g args vs) (hg:g = true) {a:Act} (G:gB K F a) {pm:Nat→Prop} {fr:Nat} (w:World) (hn:a9 w) {dst:Option Tmp} {gd:Option (Nat × Bool)} :
 (execOp a.eval ⟨dst,.call { callee:=.invoke x name,args:=args.toArray,argTypes:=ats },ty,pos,af,gd⟩).wpS P pm fr (fun n w'=>n = .enter f (r :: vs).toArray ∧ w' = w) w:=by
 have h1:=hargs.eval hg G;have h2:=hx.eval hg G;have h3:(ifc T u).v = .iface T u:=rfl;rw [h3] at h2;have e:execOp a.eval ⟨dst,.call { callee:=.invoke x name,args:=args.toArray,argTypes:=ats },ty,pos,af,gd⟩ = (program >>= fun p=>method (p.types.size + Made.depth) T u name >>= fun q=>callFunc q.1 (#[q.2] ++ vs.toArray)):=by
  simp [execOp,resolve,invoke,callMethod,h1,h2]
 rw [e];show ((method (P.types.size + Made.depth) T u name >>= fun q=>callFunc q.1 (#[q.2] ++ vs.toArray)):Sem Next).wpS P pm fr _ w;refine bA _ _ _ (aU ?_ _ _ (hm.2 pm fr w hn _ _ (hm.1 w)));rintro q w' ⟨rfl,rfl⟩;have h4:=dZ (P:=P) hen (#[r] ++ vs.toArray) (pm:=pm) (fr:=fr) w'
 simpa using h4
def IfAt (P:Program) (o:OV) (name:String) (vs:List Value) (w:World) (u:Value):Prop:=∃ T v r f,o = ifc T v ∧ pf P T v name f r ∧ cv P f ∧ Calls P f (r :: vs).toArray w (bG w u)
theorem callIf {o:OV} {u2:Value} {name:String} {args:List Operand} {ats:Array TypeId} {vs:List Value} (hx:Opd F true x o.v) (hargs:fq F true args vs)
 (hC:∀ w,aP K L w→IfAt P o name vs w u2) (next:Sat K N ((d,true,u2) :: F) L) (hd:Nat.blt d K.n = true:=by rfl) :
 Sat K (bH P K ops Q ⟨some d,.call { callee:=.invoke x name,args:=args.toArray,argTypes:=ats },ty,pos,af,none⟩ N) F L:=fun a w G=>by
 obtain ⟨T,v,r,f,rfl,hm,hen,hc⟩:=hC w G.inv;exact bF rfl rfl fun hn=>qR (X:=Unit) rfl (fun _=>True) (fun _=>u2) (fun _=>L) G (exec_calli hx hm hen hargs rfl G.fo w hn) (hc.here G.inv fun _ h=>h.elim) (fun _ h=>h.elim)
  (fun v w' q=>⟨(),trivial,(gW G.inv q).1,(gW G.inv q).2⟩) (fun _ _=>next) hd
theorem Ev.neq_m {kt vt:TypeId} {b:Option Nat} (ht:P.underlying t = some (.map kt vt)) (hx:Opd F g x (.map b)) (hy:Opd F g y (.map none)):Ev P K F L g (.binOp .neq t x y t') ty (.bool (!b.isNone)) :=
 Ev.bin hx hy (fun w=>by unfold eqGuard; rfl) (fun w=>run_neq_map_nil w t kt vt b ht) (by unfold eqGuard; exact .pure _) (by
  refine .bind ?_ fun _=>.pure _
  show Tm P _ _ (Op.equalIn (9999 + 1) t (.map b) (.map none));unfold Op.equalIn;refine .under ht ?_;cases b <;> exact .pure _)
theorem Ev.lookupFV {kt vt:TypeId} {E:Enc α} {V:Enc β} {q:α→α→Bool} {dd:TypeDesc} {b:Nat} {l:List (α × β)} {k:α} (ht:P.underlying t = some (.map kt vt)) (hu:P.underlying kt = some dd) (hk:lS P kt E q) (hz:(P.info? vt).bind (·.zero) = some (V.val V.zero))
 (hx:Opd F g x (.map (some b))) (hy:Opd F g y (E.val k)) (hm:g = true→∀ w,aP K L w→iw w b E V l) :
 Ev P K F L g (.lookup t x y false) ty (V.val ((cO q k l).getD V.zero)):=Ev.w9 (co:=false) ht hu hk hz hx hy hm
theorem gi.A {w:World}:∀ (l:List Res) (r:Res),(gi r l).A w→r.A w ∧ ∀ q ∈ l,q.A w
 | [],r,h=>⟨h,fun q hq=>by simp at hq⟩
 | s :: l,r,h=>by
   have h1:r.A w ∧ (gi s l).A w ∧ _:=h;obtain ⟨h2,h3⟩:=gi.A l s h1.2.1;exact ⟨h1.1,fun q hq=>by
    rcases List.mem_cons.1 hq with rfl | hq
    ·exact h2
    ·exact h3 q hq⟩
theorem mP {l L0 M:List Res} {r:Res} {X:Act→World→Prop} (h:Rem L0 r M) (next:Sat K X F (gi r l :: M)):Sat K X F (l ++ L0) :=
 sepsIn ⟨r :: (l ++ M),(List.perm_middle.symm).trans (List.Perm.append_left l h.perm),List.Sublist.refl _⟩ next
end
section
variable {α β γ:Type}
@[simp] theorem tupV_one (v:Value):jY [v] = v:=rfl
@[simp] theorem tupV_two (v u:Value):jY [v,u] = .tuple #[v,u]:=rfl
@[simp] theorem tupV_three (v u x:Value):jY [v,u,x] = .tuple #[v,u,x]:=rfl
@[simp] theorem ah.comp_get {E:Enc α} {E':Enc β} {E'':Enc γ} {o o':Nat} (l:ah E E' o) (m:ah E' E'' o') (x:α):(l.comp m).get x = m.get (l.get x):=rfl
@[simp] theorem ah.comp_set {E:Enc α} {E':Enc β} {E'':Enc γ} {o o':Nat} (l:ah E E' o) (m:ah E' E'' o') (x:α) (y:γ):(l.comp m).set x y = l.set x (m.set (l.get x) y):=rfl
@[simp] theorem ah.id_get (E:Enc α) (x:α):(ah.id E).get x = x:=rfl
@[simp] theorem ah.id_set (E:Enc α) (x y:α):(ah.id E).set x y = y:=rfl
@[simp] theorem lArr_get {n:Nat} (E:Enc α) (i:Nat) (hi:i < n) (x:Vector α n):(jd E i hi).get x = x[i]:=rfl
@[simp] theorem lArr_set {n:Nat} (E:Enc α) (i:Nat) (hi:i < n) (x:Vector α n) (y:α):(jd E i hi).set x y = x.set i y:=rfl
@[simp] theorem OV.sub_v (s:Nat) (o:OV) (l h:Nat):(OV.sub s o l h).v = lD s o.v l h:=rfl
@[simp] theorem eqA_dec [DecidableEq α] {n:Nat} (x y:Vector α n):eqA n eqd x y = decide (x = y):=by
  rw [Bool.eq_iff_iff,decide_eq_true_iff];exact eqA_iff dy x y
@[simp] theorem eqd_dec [DecidableEq α] (x y:α):eqd x y = decide (x = y):=rfl
@[simp] theorem take_vec {n:Nat} (x:Vector α n):x.toList.take n = x.toList:=List.take_of_length_le (by simp)
end
end Go.Gx
