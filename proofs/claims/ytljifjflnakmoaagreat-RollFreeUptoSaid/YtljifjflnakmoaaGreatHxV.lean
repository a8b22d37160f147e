/- Part V: closures with things bound ahead of their arguments (method values); bits of numbers that are not below zero. -/
import Derived.Test.YtljifjflnakmoaaGreatHxU
set_option linter.unusedVariables false
set_option linter.unusedSimpArgs false
namespace Go.Gx
open Go Go.RowKit
section
variable {α β γ:Type} {P:Program}
variable {K:Ctx} {F:Fr} {L:List Res} {g:Bool} {Q:Exit→Act→World→Prop} {N:Act→World→Prop} {ops:Array Oper}
 {op:Op} {ty t t':TypeId} {pos:String} {af:Array Edge} {d:Nat} {x y:Operand}
def bnd (f:FuncId) (fst cap:List Value):OV:=⟨.func (.func f) fst.toArray cap.toArray,rfl⟩
theorem Ev.nS {f:FuncId} {fs caps:List Operand} {us vs:List Value} (h1:fq F g fs us) (h:fq F g caps vs):Ev P K F L g (.makeFunc (.func f) fs.toArray caps.toArray) ty (bnd f us vs).v:=.of rfl (fun _ _ _ _ _ _ _ _ _=>.bind (.pure _) fun _=>.pure _) fun hg a G w hw dst pos af gd=>by
 have e1:=h1.eval hg G;have e2:=h.eval hg G;simp [execOp,Instr.makeFunc,bnd,e1,e2]
theorem ua {f:FuncId} {fst cap:List Value} {args:List Operand} {ats:Array TypeId} {vs:List Value} (hx:Opd F g x (bnd f fst cap).v) (hen:cv P f) (hargs:fq F g args vs) (hg:g = true) {a:Act} (G:gB K F a) {pm:Nat→Prop} {fr:Nat} (w:World) {dst:Option Tmp} {gd:Option (Nat × Bool)} :
 (execOp a.eval ⟨dst,.call { callee:=.value x,args:=args.toArray,argTypes:=ats },ty,pos,af,gd⟩).wpS P pm fr (fun n w'=>n = .enter f (fst ++ vs ++ cap).toArray ∧ w' = w) w:=by
 have h1:=hargs.eval hg G;have h2:=hx.eval hg G;have h3:(bnd f fst cap).v = .func (.func f) fst.toArray cap.toArray:=rfl;rw [h3] at h2;have e:execOp a.eval ⟨dst,.call { callee:=.value x,args:=args.toArray,argTypes:=ats },ty,pos,af,gd⟩ = callFunc f (fst ++ vs ++ cap).toArray:=by
  simp [execOp,resolve,Deferred.ofValue,invoke,h1,h2]
 rw [e];exact dZ hen _ w
theorem callbv {f:FuncId} {fst cap:List Value} {args:List Operand} {ats:Array TypeId} {vs:List Value} {u:Value} (hx:Opd F true x (bnd f fst cap).v) (hen:cv P f) (hargs:fq F true args vs)
 (hC:∀ w,aP K L w→Calls P f (fst ++ vs ++ cap).toArray w (bG w u)) (next:Sat K N ((d,true,u) :: F) L) (hd:Nat.blt d K.n = true:=by rfl) :
 Sat K (bH P K ops Q ⟨some d,.call { callee:=.value x,args:=args.toArray,argTypes:=ats },ty,pos,af,none⟩ N) F L:=fun a w G =>
 bF rfl rfl fun _=>qR (X:=Unit) rfl (fun _=>True) (fun _=>u) (fun _=>L) G (ua hx hen hargs rfl G.fo w) ((hC w G.inv).here G.inv fun _ h=>h.elim) (fun _ h=>h.elim)
  (fun v w' q=>⟨(),trivial,(gW G.inv q).1,(gW G.inv q).2⟩) (fun _ _=>next) hd
def FnB2 (P:Program) (f:FuncId) (fst cap:List Value) (M:Nat→Prop) (w0:World) (E:Enc α) (E':Enc γ) (E'':Enc β) (D:α→γ→Prop) (g:α→γ→β):Prop :=
 ∀ x y w',D x y→aJ M w0 w'→Calls P f (fst ++ [E.val x,E'.val y] ++ cap).toArray w' (bG w' (E''.val (g x y)))
theorem FnB2.call {f:FuncId} {fst cap:List Value} {E:Enc α} {E':Enc γ} {E'':Enc β} {D:α→γ→Prop} {g:α→γ→β} (h:FnB2 P f fst cap K.M K.w0 E E' E'' D g) {x:α} {y:γ} (hD:D x y) (w:World) (I:aP K L w):Calls P f (fst ++ [E.val x,E'.val y] ++ cap).toArray w (bG w (E''.val (g x y))):=h x y w hD I.keeps
theorem Ev.and_n {m n:Int} (hx:Opd F g x (I m)) (hy:Opd F g y (I n)) (hm:g = true→0 ≤ m ∧ m ≤ 9223372036854775807) (hn:g = true→0 ≤ n ∧ n ≤ 9223372036854775807):Ev P K F L g (.binOp .and t x y t') ty (I ((m.toNat &&& n.toNat:Nat):Int)):=fun hg=>by
 have h1:=hm hg;have h2:=hn hg;obtain ⟨m',rfl⟩:=Int.eq_ofNat_of_zero_le h1.1;obtain ⟨n',rfl⟩:=Int.eq_ofNat_of_zero_le h2.1;exact Ev.bits_i (op:=.and) (.inl rfl) hx hy (fun _=>by omega) (fun _=>by omega) rfl hg
def TellL (P:Program) (f:FuncId) (cap:List Value) (N:Nat) (E:Enc α) (S:OV→List β→Res) (D:α→Prop) (mk:α→β):Prop :=
 ∀ x o l w',D x→l.length < N→At (S o l) w'→Calls P f (E.val x :: cap).toArray w' (fV w' (S o l) (fun _:OV=>True) (fun _=>.tuple #[]) (fun o'=>S o' (l ++ [mk x])))
theorem TellL.call {f:FuncId} {cap:List Value} {n:Nat} {E:Enc α} {S:OV→List β→Res} {D:α→Prop} {mk:α→β} (h:TellL P f cap n E S D mk) {x:α} {o:OV} {l:List β} (hD:D x) (hn:l.length < n) (hm:S o l ∈ L) (w:World) (I:aP K L w):Calls P f ([E.val x] ++ cap).toArray w (fV w (S o l) (fun _:OV=>True) (fun _=>.tuple #[]) (fun o'=>S o' (l ++ [mk x]))):=h x o l w hD hn (at_mem hm w I)
theorem bytes_beq (a b:ByteArray):(a.toList == b.toList) = decide (a = b):=by
 rw [Bool.eq_iff_iff,decide_eq_true_iff,beq_iff_eq];constructor
 ·intro h;rw [ByteArray.toList_eq,ByteArray.toList_eq] at h;cases a; cases b;simp only [Array.toList_inj] at h;exact congrArg _ h
 ·intro h;rw [h]
theorem Ev.neq_s {a b:ByteArray} (hx:Opd F g x (.string a)) (hy:Opd F g y (.string b)):Ev P K F L g (.binOp .neq t x y t') ty (.bool (decide (¬ a = b))) :=
 Ev.bin hx hy (fun w=>nF w) (fun w=>by
  rw [binOp_string_neq,Sem.run_pure,bytes_beq]
  by_cases h:a = b <;> simp [h]) lf (by rw [binOp_string_neq]; exact .pure _)
def fU (L' L:List Res):Prop:=∃ L0,L0.Perm L ∧ L'.Sublist L0
theorem fU.nil:fU [] L:=⟨L,List.Perm.refl _,List.nil_sublist _⟩
theorem fU.of {L':List Res} (h:L'.Sublist L):fU L' L:=⟨L,List.Perm.refl _,h⟩
theorem fU.cons {r:Res} {L L1 L':List Res} (h:Rem L r L1) (hs:fU L' L1):fU (r :: L') L:=by
 obtain ⟨L0,h0,h1⟩:=hs;exact ⟨r :: L0,(h0.cons r).trans h.perm,h1.cons_cons r⟩
theorem aP.subP {L':List Res} {w:World} (h:aP K L w) (hs:fU L' L):aP K L' w:=by
 obtain ⟨L0,h0,h1⟩:=hs;exact (h.perm h0).sub h1
theorem meetP {X:Type} {J:X→Prop} {Fx:X→Fr} {Lx:X→List Res} (x':X) (hJ:J x') (hF:Sub F (Fx x')) (hL:fU (Lx x') L) :
 Sat K (fun a w=>∃ x',J x' ∧ Good K (Fx x') (Lx x') a w) F L:=fun a w G=>⟨x',hJ,(G.sub hF (List.Sublist.refl _)).world (G.inv.subP hL)⟩
theorem nextP {X:Type} {J:X→Prop} {Fx:X→Fr} {Lx:X→List Res} {μ:X→Nat} {x:X} (x':X) (hJ:J x') (hlt:μ x' < μ x) (hF:Sub F (Fx x')) (hL:fU (Lx x') L) :
 Sat K (fun a w=>∃ x',J x' ∧ μ x' < μ x ∧ Good K (Fx x') (Lx x') a w) F L:=fun a w G=>⟨x',hJ,hlt,(G.sub hF (List.Sublist.refl _)).world (G.inv.subP hL)⟩
theorem ft {X:Type} {n:Nat} {e0:En} {w0:World} {L:List Res} {J:X→Prop} {val:X→Value} {R:X→List Res} {v:Value} (x:X) (hJ:J x) (hv:v = val x) (hs:fU (R x) L) (w:World) (h:aP ⟨n,w0,dI,e0⟩ L w):gL w0 J val R (.returned v) w :=
 ln x hJ hv (List.Sublist.refl _) w (h.subP hs)
def gi (r:Res):List Res→Res
 | []=>r
 | s :: l=>Sep r (gi s l)
theorem aP.seps {w:World}:∀ (l:List Res) (r:Res) (M:List Res),aP K (r :: (l ++ M)) w→aP K (gi r l :: M) w
 | [],r,M,h=>h
 | s :: l,r,M,h=>by
   have h1:aP K (s :: (l ++ (r :: M))) w:=h.perm (by
    refine List.Perm.trans ?_ (List.Perm.swap _ _ _);exact List.Perm.cons s List.perm_middle)
   have h2:=aP.seps l s (r :: M) h1;exact (h2.perm (List.Perm.swap _ _ _)).px
theorem sepsIn {l M:List Res} {r:Res} {X:Act→World→Prop} (h:fU (r :: (l ++ M)) L) (next:Sat K X F (gi r l :: M)):Sat K X F L:=fun a w G =>
 next a w ⟨G.fo,aP.seps l r M (G.inv.subP h)⟩
def Emp:Res where
 bQ:=fun _=>False
 A:=fun _=>True
 st:=fun _ _ _ _=>trivial
theorem Ev.eql_s {a b:ByteArray} (hx:Opd F g x (.string a)) (hy:Opd F g y (.string b)):Ev P K F L g (.binOp .eql t x y t') ty (.bool (decide (a = b))) :=
 Ev.bin hx hy (fun w=>nF w) (fun w=>by
  rw [binOp_string_eql,Sem.run_pure,bytes_beq]) lf (by rw [binOp_string_eql]; exact .pure _)
end
end Go.Gx
