/- Part D: structs and arrays as values: how they lie, their parts, whether two are the same; composite literals. -/
import Derived.Test.YtljifjflnakmoaaGreatHxC
set_option linter.unusedVariables false
set_option linter.unusedSimpArgs false
namespace Go.Gx
open Go Go.RowKit
section
variable {α β γ:Type}
def bh (E:Enc α) (E':Enc β):Enc (α × β) where
 size:=E.size + E'.size
 agg:=true
 cells x:=E.cells x.1 ++ E'.cells x.2
 zero:=(E.zero,E'.zero)
 len x:=by rw [List.length_append,E.len,E'.len]
 one x v hv:=by
  rcases List.mem_append.1 hv with h | h
  ·exact E.one _ v h
  ·exact E'.one _ v h
 sc h:=by cases h
def gI (E:Enc β) (to:β→α) (of:α→β):Enc α where
 size:=E.size
 agg:=true
 cells x:=E.cells (of x)
 zero:=to E.zero
 len x:=E.len _
 one x:=E.one _
 sc h:=by cases h
def fN (n:Nat) (E:Enc α):Enc (Vector α n) where
 size:=n * E.size
 agg:=true
 cells x:=E.row x.toList
 zero:=Vector.replicate n E.zero
 len x:=by rw [E.bZ,Vector.length_toList]
 one x:=E.lg _
 sc h:=by cases h
def lFst (E:Enc α) (E':Enc β):ah (bh E E') E 0 where
 get x:=x.1
 set x y:=(y,x.2)
 fits:=by simp [bh]
 oU x:=by simp [bh,← E.len x.1]
 ny x y:=by simp [bh,← E.len x.1]
def lSnd (E:Enc α) (E':Enc β):ah (bh E E') E' E.size where
 get x:=x.2
 set x y:=(x.1,y)
 fits:=by simp [bh]
 oU x:=by simp [bh,← E.len x.1,← E'.len x.2]
 ny x y:=by
  have h:(E.cells x.1 ++ E'.cells x.2).length = E.size + E'.size:=by rw [List.length_append,E.len,E'.len]
  simp only [bh];rw [← h,List.drop_length,List.append_nil,List.take_append_of_le_length (by rw [E.len]; exact Nat.le_refl _),List.take_of_length_le (by rw [E.len]; exact Nat.le_refl _)]
def lIso (E:Enc β) (to:β→α) (of:α→β) (h:∀ x,of (to x) = x) {E':Enc γ} {o:Nat} (l:ah E E' o):ah (gI E to of) E' o where
 get x:=l.get (of x)
 set x y:=to (l.set (of x) y)
 fits:=l.fits
 oU x:=l.oU _
 ny x y:=by
  show E.cells (of (to _)) = _;rw [h]; exact l.ny _ _
def jd {n:Nat} (E:Enc α) (i:Nat) (hi:i < n):ah (fN n E) E (i * E.size) where
 get x:=x[i]
 set x y:=x.set i y
 fits:=by
  show i * E.size + E.size ≤ n * E.size;have:(i + 1) * E.size ≤ n * E.size:=Nat.mul_le_mul_right _ hi
  rwa [Nat.add_mul,Nat.one_mul] at this
 oU x:=by
  have hl:x.toList.length = n:=Vector.length_toList;show ((E.row x.toList).drop (i * E.size)).take E.size = E.cells x[i];have h1:=E.jy x.toList i;have h2:x.toList.drop i = x[i] :: x.toList.drop (i + 1):=by
   rw [List.drop_eq_getElem_cons (by rw [hl]; exact hi)]; simp
  have e:E.row (x[i] :: x.toList.drop (i + 1)) = E.cells x[i] ++ E.row (x.toList.drop (i + 1)):=by simp [Enc.row]
  rw [h1,h2,e,← E.len x[i],List.take_left]
 ny x y:=by
  have hl:x.toList.length = n:=Vector.length_toList;show E.row (x.set i y).toList = _;have h1:(x.set i y).toList = x.toList.set i y:=by simp [Vector.toList_set]
  rw [h1,E.row_set _ _ _ (by rw [hl]; exact hi)]
  rfl
variable {P:Program}
def j8 (P:Program) (t:TypeId) (E:Enc α) (q:α→α→Bool) (n:Nat):Prop :=
 (∀ d,n ≤ d→∀ w x y,(Op.equalIn d t (E.val x) (E.val y)).run P w = .ok (q x y) w) ∧ ∀ d,n ≤ d→∀ x y pm fr,Tm P pm fr (Op.equalIn d t (E.val x) (E.val y))
def eqd [DecidableEq α] (x y:α):Bool:=decide (x = y)
theorem ub {t:TypeId} {k:IntKind} {f:α→Int} (E:Enc α) (hE:∀ x,E.val x = .int k (f x)) (hu:P.underlying t = some (.int k)) {q:α→α→Bool} (hq:∀ x y,(f x == f y) = q x y):j8 P t E q 1:=by
 refine ⟨?_,?_⟩
 ·intro d hd w x y;obtain ⟨d,rfl⟩:=Nat.exists_eq_add_of_le' hd;rw [hE,hE,run_equalIn_int w d t k k _ _ hu,hq]
 ·intro d hd x y pm fr;obtain ⟨d,rfl⟩:=Nat.exists_eq_add_of_le' hd;rw [hE,hE];unfold Op.equalIn;refine .under hu ?_;simp only [if_true];exact .pure _
theorem xw {t:TypeId} (hu:P.underlying t = some (.int .u8)):j8 P t u8E eqd 1:=ub u8E (fun _=>rfl) hu (fun x y=>by
 show decide ((x.toNat:Int) = y.toNat) = decide (x = y); simp only [xC])
theorem eqok_u16 {t:TypeId} (hu:P.underlying t = some (.int .u16)):j8 P t od eqd 1:=ub od (fun _=>rfl) hu (fun x y=>by
 show decide ((x.toNat:Int) = y.toNat) = decide (x = y); simp only [ur])
theorem eqok_i {t:TypeId} (hu:P.underlying t = some (.int .i64)):j8 P t iE eqd 1:=ub iE (fun _=>rfl) hu (fun _ _=>rfl)
theorem eqok_b {t:TypeId} (hu:P.underlying t = some .bool):j8 P t bE eqd 1:=by
 refine ⟨?_,?_⟩
 ·intro d hd w x y;obtain ⟨d,rfl⟩:=Nat.exists_eq_add_of_le' hd;show (Op.equalIn (d + 1) t (.bool x) (.bool y)).run P w = _;rw [run_equalIn_bool' w d t x y hu];cases x <;> cases y <;> rfl
 ·intro d hd x y pm fr;obtain ⟨d,rfl⟩:=Nat.exists_eq_add_of_le' hd;show Tm P pm fr (Op.equalIn (d + 1) t (.bool x) (.bool y));unfold Op.equalIn;exact .under hu (.pure _)
def eqs (x y:ByteArray):Bool:=x == y
theorem eqok_s {t:TypeId} (hu:P.underlying t = some .string):j8 P t sE eqs 1:=by
 refine ⟨?_,?_⟩
 ·intro d hd w x y;obtain ⟨d,rfl⟩:=Nat.exists_eq_add_of_le' hd;show (Op.equalIn (d + 1) t (.string x) (.string y)).run P w = _;have hu':(underlying t).run P w = .ok .string w:=by simp [underlying,hu]
  simp only [Op.equalIn,Sem.run_bind,hu',Result.andThen_ok,Sem.run_pure]
  rfl
 ·intro d hd x y pm fr;obtain ⟨d,rfl⟩:=Nat.exists_eq_add_of_le' hd;show Tm P pm fr (Op.equalIn (d + 1) t (.string x) (.string y));unfold Op.equalIn;exact .under hu (.pure _)
theorem gV {E:Enc α} {E':Enc β} {o:Nat} {t:TypeId} (T:ee P t E') (l:ah E E' o) (x:α) (w:World):(part t (E.cells x).toArray o).run P w = .ok (E'.val (l.get x)) w:=by
 have h:=l.oU x;simp only [part,Sem.run_bind,vp T,Result.andThen_ok];unfold Enc.val;cases ha:E'.agg with
 | true =>
   simp only [if_true,Sem.run_bind,run_sizeOf T,Result.andThen_ok,Sem.run_pure,cond_true]
   congr 2
   rw [← h];apply Array.ext';simp [List.take_drop]
 | false =>
   have hs:=E'.sc ha;simp only [Bool.false_eq_true,if_false,cond_false];have hl:(E'.cells (l.get x)).length = 1:=by rw [E'.len,hs]
   match hc:E'.cells (l.get x),hl with
   | [v],_ =>
     rw [hc,hs] at h;have h2:(E.cells x)[o]? = some v:=by
      have h3:(((E.cells x).drop o).take 1)[0]? = some v:=by rw [h]; rfl
      rw [List.getElem?_take] at h3
      simpa [List.getElem?_drop] using h3
     simp [h2]
def EqF (P:Program) (E:Enc α) (n:Nat) (fs:List Field) (q:α→α→Bool):Prop :=
 (∀ d,n ≤ d→∀ w x y,(Op.eqFields d (E.cells x).toArray (E.cells y).toArray fs).run P w = .ok (q x y) w) ∧
 ∀ d,n ≤ d→∀ x y,∀ f ∈ fs,f.name ≠ "_"→∃ a b,(∀ v,(part f.type (E.cells x).toArray f.offset).run P v = .ok a v) ∧ (∀ v,(part f.type (E.cells y).toArray f.offset).run P v = .ok b v) ∧ ∀ pm fr,Tm P pm fr (Op.equalIn d f.type a b)
theorem EqF.nil {E:Enc α} {n:Nat}:EqF P E n [] (fun _ _=>true):=⟨fun d _ w x y=>rfl,fun d _ x y f hf=>by cases hf⟩
theorem EqF.cons {E:Enc α} {E':Enc β} {n o:Nat} {f:Field} {fs:List Field} {q':β→β→Bool} {q:α→α→Bool} (hn:f.name ≠ "_") (ho:f.offset = o) (l:ah E E' o) (T:ee P f.type E') (h:j8 P f.type E' q' n) (hr:EqF P E n fs q) :
 EqF P E n (f :: fs) (fun x y=>q' (l.get x) (l.get y) && q x y):=by
 subst ho;refine ⟨fun d hd w x y=>?_,fun d hd x y g hg hne=>?_⟩
 ·simp only [Op.eqFields,hn,ne_eq,not_false_eq_true,if_true,Sem.run_bind,gV T l,Result.andThen_ok,h.1 d hd,Sem.run_ite,Sem.run_pure,hr.1 d hd];cases q' (l.get x) (l.get y) <;> simp
 ·rcases List.mem_cons.1 hg with rfl | hg
  ·exact ⟨_,_,fun v=>gV T l x v,fun v=>gV T l y v,h.2 d hd _ _⟩
  ·exact hr.2 d hd x y g hg hne
theorem nE {t:TypeId} {E:Enc α} {fs:List Field} {q q':α→α→Bool} {n:Nat} (hu:P.underlying t = some (.struct fs.toArray)) (hs:P.stoodInHeld t = false) (ha:E.agg = true) (h:EqF P E n fs q) (hq:∀ x y,q x y = q' x y):j8 P t E q' (n + 1):=by
 refine ⟨?_,?_⟩
 ·intro d hd w x y;obtain ⟨d,rfl⟩:=Nat.exists_eq_add_of_le' (Nat.le_trans (Nat.le_add_left 1 n) hd);have hf:P.fieldsOf t = fs.toArray:=by simp [Program.fieldsOf,hu]
  unfold Enc.val;rw [ha,cond_true,cond_true,run_equalIn_struct w d t _ _ (by rw [hf]; exact hu) hs,hf];rw [show fs.toArray.toList = fs from rfl,h.1 d (by omega) w x y,hq]
 ·intro d hd x y pm fr;obtain ⟨d,rfl⟩:=Nat.exists_eq_add_of_le' (Nat.le_trans (Nat.le_add_left 1 n) hd);unfold Enc.val;rw [ha,cond_true,cond_true];unfold Op.equalIn;refine .under hu (.iB ?_);simp only [hs,Bool.false_eq_true,if_false];rw [← Array.forIn_toList];refine .bind (.tV _ _ _ fun f hf s=>?_) fun r=>?_
  ·by_cases hn:f.name = "_"
   ·simp only [hn,ne_eq,not_true_eq_false,if_false];exact .pure _
   ·simp only [hn,ne_eq,not_false_eq_true,if_true];obtain ⟨a,b,h1,h2,h3⟩:=h.2 d (by omega) x y f hf hn;refine .known (.part _ _ _) h1 (.known (.part _ _ _) h2 (.bind (h3 _ _) fun r=>?_));split <;> exact .pure _
  ·split <;> exact .pure _
def eqL (q:α→α→Bool):List α→List α→Bool
 | [],_=>true
 | _ :: _,[]=>true
 | x :: xs,y :: ys=>q x y && eqL q xs ys
def eqA (n:Nat) (q:α→α→Bool) (x y:Vector α n):Bool:=eqL q x.toList y.toList
theorem eqL_iff {q:α→α→Bool} (hq:∀ x y,q x y = true ↔ x = y):∀ xs ys:List α,xs.length = ys.length→(eqL q xs ys = true ↔ xs = ys)
 | [],[],_=>by simp [eqL]
 | x :: xs,y :: ys,h=>by
   simp only [eqL,Bool.and_eq_true,hq,eqL_iff hq xs ys (by simpa using h),List.cons.injEq]
theorem eqA_iff {n:Nat} {q:α→α→Bool} (hq:∀ x y,q x y = true ↔ x = y) (x y:Vector α n):eqA n q x y = true ↔ x = y:=by
 unfold eqA;rw [eqL_iff hq _ _ (by rw [Vector.length_toList,Vector.length_toList]),Vector.toList_inj]
theorem dy [DecidableEq α] (x y:α):eqd x y = true ↔ x = y:=by unfold eqd; exact decide_eq_true_iff
theorem iJ (x y:ByteArray):eqs x y = true ↔ x = y:=by
 unfold eqs;rw [beq_toListBytes,beq_iff_eq,ByteArray.toList_eq,ByteArray.toList_eq];obtain ⟨⟨x⟩⟩:=x;obtain ⟨⟨y⟩⟩:=y;simp
theorem eqL_drop {q:α→α→Bool} {xs ys:List α} {i:Nat} (h1:i < xs.length) (h2:i < ys.length):eqL q (xs.drop i) (ys.drop i) = (q xs[i] ys[i] && eqL q (xs.drop (i + 1)) (ys.drop (i + 1))):=by
 rw [List.drop_eq_getElem_cons h1,List.drop_eq_getElem_cons h2]; rfl
theorem uc {t e:TypeId} {n m:Nat} {E:Enc α} {q:α→α→Bool} (hu:P.underlying t = some (.array n e)) (T:ee P e E) (h:j8 P e E q m):j8 P t (fN n E) (eqA n q) (m + 1):=by
 refine ⟨?_,?_⟩
 ·intro d hd w x y;obtain ⟨d,rfl⟩:=Nat.exists_eq_add_of_le' (Nat.le_trans (Nat.le_add_left 1 m) hd);have hru:(underlying t).run P w = .ok (.array n e) w:=by simp [underlying,hu]
  show (Op.equalIn (d + 1) t (.agg (E.row x.toList).toArray) (.agg (E.row y.toList).toArray)).run P w = _;have hp:∀ (v:Vector α n) (i:Nat) (hi:i < n) (w:World),(part e (E.row v.toList).toArray (i * E.size)).run P w = .ok (E.val v[i]) w:=fun v i hi w=>gV T (jd E i hi) v w
  simp only [Op.equalIn,Sem.run_bind,hru,Result.andThen_ok,run_sizeOf T];have hx:x.toList.length = n:=Vector.length_toList;have hy:y.toList.length = n:=Vector.length_toList;have key:∀ k i,k = n - i→i ≤ n→∀ (f:Option Bool × Unit→Sem Bool),(∀ r w,r.1 = none→(f r).run P w = .ok true w)→(∀ b r w,r.1 = some b→(f r).run P w = .ok b w) →
   ((forIn (List.range' i k) ((none,()):Option Bool × Unit) (fun i _=>do
     let a ← part e (E.row x.toList).toArray (i * E.size)
     let b ← part e (E.row y.toList).toArray (i * E.size)
     let r ← Op.equalIn d e a b
     if (!r) = true then pure (ForInStep.done (some false,())) else pure (ForInStep.yield (none,())))) >>= f).run P w =
   .ok (eqL q (x.toList.drop i) (y.toList.drop i)) w:=by
   intro k
   induction k with
   | zero =>
     intro i hk hi f h1 _;have e1:x.toList.drop i = []:=List.drop_eq_nil_of_le (by omega);rw [e1];simp [eqL,h1]
   | succ k ih =>
     intro i hk hi f h1 h2;have hlt:i < n:=by omega
     rw [eqL_drop (by omega) (by omega)];simp only [List.range'_succ,List.forIn_cons,Sem.run_bind,hp x i hlt,hp y i hlt,Result.andThen_ok,h.1 d (by omega),Sem.run_ite,Sem.run_pure];have ex:x.toList[i]'(by omega) = x[i]:=by simp
     have ey:y.toList[i]'(by omega) = y[i]:=by simp
     rw [ex,ey];cases hq:q x[i] y[i] with
     | false =>
       simp only [Bool.not_false,if_true,Result.andThen_ok,Bool.false_and,Sem.run_pure];exact h2 false _ _ rfl
     | true =>
       simp only [Bool.not_true,Bool.false_eq_true,if_false,Result.andThen_ok,Bool.true_and];have:=ih (i + 1) (by omega) (by omega) f h1 h2
       simpa only [Sem.run_bind] using this
  rw [Std.Legacy.Range.forIn_eq_forIn_range'];simp only [Std.Legacy.Range.size];have e0:(n - 0 + 1 - 1) / 1 = n:=by simp
  rw [e0];have hk:=key n 0 (by omega) (Nat.zero_le _) (fun a=>match a.fst with
   | some r=>pure r
   | none=>pure true) (fun r w hr=>by simp only [hr]; rfl) (fun b r w hr=>by simp only [hr]; rfl)
  rw [Sem.run_bind] at hk;rw [show eqA n q x y = eqL q (x.toList.drop 0) (y.toList.drop 0) from rfl,← hk]
  congr 1
  funext a w'
  obtain ⟨r,u⟩:=a;cases r <;> rfl
 ·intro d hd x y pm fr;obtain ⟨d,rfl⟩:=Nat.exists_eq_add_of_le' (Nat.le_trans (Nat.le_add_left 1 m) hd);show Tm P pm fr (Op.equalIn (d + 1) t (.agg (E.row x.toList).toArray) (.agg (E.row y.toList).toArray));unfold Op.equalIn;refine .under hu (.known (.sizeOf _) (fun v=>run_sizeOf T v) ?_);rw [Std.Legacy.Range.forIn_eq_forIn_range'];refine .bind (.tV _ _ _ fun i hi s=>?_) fun r=>?_
  ·have hlt:i < n:=by
    have:=(List.mem_range'.1 hi).choose_spec;simp [Std.Legacy.Range.size] at this;omega
   refine .known (.part _ _ _) (fun v=>gV T (jd E i hlt) x v) (.known (.part _ _ _) (fun v=>gV T (jd E i hlt) y v) (.bind (h.2 d (by omega) _ _ _ _) fun r=>?_));split <;> exact .pure _
  ·obtain ⟨r,u⟩:=r;cases r <;> exact .pure _
variable {K:Ctx} {F:Fr} {L:List Res} {g:Bool} {Q:Exit→Act→World→Prop} {N:Act→World→Prop} {ops:Array Oper}
 {op:Op} {ty t t':TypeId} {pos:String} {af:Array Edge} {d:Nat} {x y:Operand}
theorem mN {pm:Nat→Prop} {fr:Nat} {op:BinOp} {t:TypeId} {x y:Operand} {xs ys:Array Value} (hm:P.eqGuardType P.depth t = false):Tm P pm fr (eqGuard op t x y (.agg xs) (.agg ys)):=by
 unfold eqGuard;cases op <;> first
  | exact .pure _
  | (refine .iB (.iB ?_)
     simp only [hm,Bool.not_false,if_true];exact .pure _)
theorem Ev.eqlS {E:Enc α} {q:α→α→Bool} {n:Nat} {u v:α} (ha:E.agg = true) (h:j8 P t E q n) (hn:Nat.ble n 9999 = true) (hm:P.eqGuardType P.depth t = false) (hx:Opd F g x (E.val u)) (hy:Opd F g y (E.val v)) :
 Ev P K F L g (.binOp .eql t x y t') ty (.bool (q u v)) :=
 Ev.bin hx hy (fun w=>by
  unfold Enc.val; rw [ha]; exact run_eqGuard_agg (P:=P) w _ t x y _ _ hm) (fun w=>by
  have h1:=h.1 10000 (Nat.le_trans (by simpa [Nat.ble_eq] using hn) (by omega)) w u v;unfold Enc.val at h1 ⊢;rw [ha] at h1 ⊢;simp only [cond_true] at h1 ⊢;rw [run_eql_struct (P:=P) w,h1]
  rfl) (by unfold Enc.val; rw [ha]; exact mN hm) (by
  have h2:=h.2 10000 (Nat.le_trans (by simpa [Nat.ble_eq] using hn) (by omega)) u v (pmK K) K.E.fr;unfold Enc.val at h2 ⊢;rw [ha] at h2 ⊢;exact .bind h2 fun _=>.pure _)
theorem Ev.neqS {E:Enc α} {q:α→α→Bool} {n:Nat} {u v:α} (ha:E.agg = true) (h:j8 P t E q n) (hn:Nat.ble n 9999 = true) (hm:P.eqGuardType P.depth t = false) (hx:Opd F g x (E.val u)) (hy:Opd F g y (E.val v)) :
 Ev P K F L g (.binOp .neq t x y t') ty (.bool (!q u v)) :=
 Ev.bin hx hy (fun w=>by
  unfold Enc.val; rw [ha]; exact run_eqGuard_agg (P:=P) w _ t x y _ _ hm) (fun w=>by
  have h1:=h.1 10000 (Nat.le_trans (by simpa [Nat.ble_eq] using hn) (by omega)) w u v;unfold Enc.val at h1 ⊢;rw [ha] at h1 ⊢;simp only [cond_true] at h1 ⊢;rw [run_neq_struct (P:=P) w,h1]
  rfl) (by unfold Enc.val; rw [ha]; exact mN hm) (by
  have h2:=h.2 10000 (Nat.le_trans (by simpa [Nat.ble_eq] using hn) (by omega)) u v (pmK K) K.E.fr;unfold Enc.val at h2 ⊢;rw [ha] at h2 ⊢;exact .bind h2 fun _=>.pure _)
theorem foldl_set:∀ (vs:List Value) (off:Nat) (k:Nat) (cur:Array Value),off + k + vs.length ≤ cur.size →
 ((vs.zipIdx k).foldl (fun cs (c:Value × Nat)=>cs.setIfInBounds (off + c.2) c.1) cur).toList = cur.toList.take (off + k) ++ vs ++ cur.toList.drop (off + k + vs.length)
 | [],off,k,cur,_=>by simp
 | v :: vs,off,k,cur,h=>by
   simp only [List.zipIdx_cons,List.foldl_cons];rw [foldl_set vs off (k + 1) _ (by simp only [List.length_cons] at h; simp; omega)];simp only [List.length_cons] at h;rw [Array.toList_setIfInBounds];have h0:off + k < cur.toList.length:=by simp; omega
   rw [List.set_eq_take_append_cons_drop,if_pos h0];have e1:(cur.toList.take (off + k) ++ v :: cur.toList.drop (off + k + 1)).take (off + (k + 1)) = cur.toList.take (off + k) ++ [v]:=by
    rw [List.take_append];have hl:(cur.toList.take (off + k)).length = off + k:=by rw [List.length_take]; omega
    rw [hl,List.take_take,Nat.min_eq_right (by omega),show off + (k + 1) - (off + k) = 1 by omega]
    rfl
   have e2:(cur.toList.take (off + k) ++ v :: cur.toList.drop (off + k + 1)).drop (off + (k + 1) + vs.length) = cur.toList.drop (off + k + (vs.length + 1)):=by
    rw [List.drop_append];have hl:(cur.toList.take (off + k)).length = off + k:=by rw [List.length_take]; omega
    rw [hl,List.drop_eq_nil_of_le (by rw [hl]; omega),show off + (k + 1) + vs.length - (off + k) = vs.length + 1 by omega,List.drop_succ_cons,List.drop_drop,List.nil_append]
    congr 1
    omega
   rw [e1,e2];simp
theorem fill_lens {E:Enc α} {E':Enc β} {o:Nat} (l:ah E E' o) (z:α) (v:β) :
 (((E'.val v).cells.zipIdx.foldl (fun cs (c:Value × Nat)=>cs.setIfInBounds (o + c.2) c.1) (E.cells z).toArray)) = (E.cells (l.set z v)).toArray:=by
 apply Array.ext';rw [E'.eQ,← Array.foldl_toList];have e:((E'.cells v).toArray.zipIdx).toList = (E'.cells v).zipIdx:=by simp
 rw [e,foldl_set _ o 0 _ (by simp [E'.len,E.len]; have:=l.fits; omega),l.ny];simp [E'.len]
def ay (P:Program) (E:Enc α) (place:Nat→Option (Nat × Nat)):List (Nat × Value)→α→α→Prop
 | [],z,r=>r = z
 | (i,v) :: ps,z,r=>∃ cs,Instr.fill place (E.cells z).toArray [(i,v)] = some cs ∧ ∃ z',cs = (E.cells z').toArray ∧ ay P E place ps z' r
theorem ay.nil {E:Enc α} {place:Nat→Option (Nat × Nat)} {z:α}:ay P E place [] z z:=rfl
theorem ay.cons {E:Enc α} {E':Enc β} {place:Nat→Option (Nat × Nat)} {i o:Nat} {v:β} {ps:List (Nat × Value)} {z r:α} (l:ah E E' o) (hp:place i = some (o,E'.size)) (h:ay P E place ps (l.set z v) r):ay P E place ((i,E'.val v) :: ps) z r:=by
 refine ⟨_,?_,l.set z v,fill_lens l z v,h⟩;unfold Instr.fill;rw [hp];have h1:(E'.val v).cells.size = E'.size:=by simp [E'.eQ,E'.len]
 have h2:¬ ((E'.val v).cells.size ≠ E'.size ∨ o + (E'.val v).cells.size > (E.cells z).toArray.size):=by
  have:=l.fits;rw [h1]; simp [E.len]; omega
 simp only [Bool.or_eq_true,decide_eq_true_eq] at *;rw [if_neg h2]
 rfl
theorem fill_cons (place:Nat→Option (Nat × Nat)) (cs:Array Value) (p:Nat × Value) (ps:List (Nat × Value)):Instr.fill place cs (p :: ps) = (Instr.fill place cs [p]).bind (fun cs=>Instr.fill place cs ps):=by
 obtain ⟨i,v⟩:=p;simp only [Instr.fill];cases place i with
 | none=>rfl
 | some os =>
   obtain ⟨o,s⟩:=os;simp only;split <;> rfl
theorem ay.run {E:Enc α} {place:Nat→Option (Nat × Nat)}:∀ {ps:List (Nat × Value)} {z r:α},ay P E place ps z r→Instr.fill place (E.cells z).toArray ps = some (E.cells r).toArray
 | [],z,r,h=>by rw [show r = z from h]; rfl
 | p :: ps,z,r,h=>by
   obtain ⟨cs,h1,z',rfl,h2⟩:=h;rw [fill_cons,h1,Option.bind_some];exact ay.run h2
def kR (F:Fr) (g:Bool):List (Nat × Operand)→List (Nat × Value)→Prop
 | [],vs=>vs = []
 | (i,x) :: ps,vs=>∃ v us,vs = (i,v) :: us ∧ Opd F g x v ∧ kR F g ps us
theorem kR.nil:kR F g [] []:=rfl
theorem kR.cons {i:Nat} {v:Value} {ps:List (Nat × Operand)} {us:List (Nat × Value)} (h:Opd F g x v) (hs:kR F g ps us):kR F g ((i,x) :: ps) ((i,v) :: us):=⟨v,us,rfl,h,hs⟩
theorem kR.eval:∀ {ps:List (Nat × Operand)} {vs:List (Nat × Value)},kR F g ps vs→g = true→∀ {a:Act},gB K F a→ps.map (fun p=>(p.1,a.eval p.2)) = vs
 | [],_,h,_,_,_=>by rw [show _ = [] from h]; rfl
 | (i,x) :: ps,vs,h,hg,a,G=>by
   obtain ⟨v,us,rfl,h,hs⟩:=h;simp [h.eval hg G,kR.eval hs hg G]
theorem Tm.build {pm:Nat→Prop} {fr:Nat} (t:TypeId) (ps:Array (Nat × Value)):Tm P pm fr (Instr.build t ps):=by
 unfold Instr.build;refine .bind (.zeroValue _) fun z=>.bind (.underlying _) fun d=>?_
 cases d with
 | struct fields =>
   dsimp only;refine .bind ?_ fun places=>?_
   ·rw [← Array.toArray_toList (xs:=fields),List.mapM_toArray];exact .map _ (.mapM _ (fun f=>.bind (.sizeOf _) fun _=>.pure _) _)
   ·split
    ·exact .pure _
    ·exact .stuck _
 | array n e =>
   dsimp only;refine .bind (.sizeOf _) fun _=>?_
   split
   ·exact .pure _
   ·exact .stuck _
 | _=>exact .stuck _
theorem Ev.bu {E:Enc α} {ps:List (Nat × Operand)} {vs:List (Nat × Value)} {r:α} {fs:List Field} {places:List (Nat × Nat)} (hz:(P.info? t).bind (·.zero) = some (E.val E.zero)) (ha:E.agg = true) (hu:P.underlying t = some (.struct fs.toArray))
 (hp:fs.mapM (fun f=>(P.info? f.type).map (fun i=>(f.offset,i.size))) = some places) (hv:kR F g ps vs) (hf:ay P E (fun i=>places[i]?) vs E.zero r) :
 Ev P K F L g (.build t ps.toArray) ty (E.val r):=.of rfl (fun _ _ _ _ _ _ _ _ _=>.bind (.build _ _) fun _=>.pure _) fun hg a G w hw dst pos af gd=>by
 have h1:=hv.eval hg G;cases hi:P.info? t with
 | none=>rw [hi] at hz; cases hz
 | some i =>
   rw [hi] at hz;simp only [Option.bind_some] at hz;have hru:(underlying t).run P w = .ok (.struct fs.toArray) w:=by simp [underlying,hu]
   have hpl:∀ (fs:List Field) (places:List (Nat × Nat)),fs.mapM (fun f=>(P.info? f.type).map (fun i=>(f.offset,i.size))) = some places →
    (fs.mapM (fun f=>do pure (f.offset,← sizeOf f.type):Field→Sem (Nat × Nat))).run P w = .ok places w:=by
    intro fs
    induction fs with
    | nil=>intro places h; simp at h; subst h; rfl
    | cons f fs ih =>
      intro places h;simp only [List.mapM_cons,Option.bind_eq_bind,Option.bind_eq_some_iff,Option.pure_def] at h;obtain ⟨p,hp,qs,hqs,hh⟩:=h;cases hif:P.info? f.type with
      | none=>rw [hif] at hp; cases hp
      | some fi =>
        rw [hif] at hp;simp only [Option.map_some,Option.some.injEq] at hp hh;subst hp; subst hh;have hsz:(sizeOf f.type).run P w = .ok fi.size w:=by simp [sizeOf,typeInfo,hif]
        simp only [List.mapM_cons,Sem.run_bind,hsz,Result.andThen_ok,Sem.run_pure,ih qs hqs]
   have hpl':=hpl fs places hp;have hr:=hf.run;have hzc:(E.val E.zero).cells = (E.cells E.zero).toArray:=E.eQ _;have hvs:(List.map (fun x=>(x.fst,a.eval x.snd)) ps) = vs:=h1;have hfin:(Value.agg (E.cells r).toArray) = E.val r:=by unfold Enc.val; rw [ha]; rfl
   simp only [execOp,Instr.build,zeroValue,typeInfo,Sem.run_bind,run_program,Result.andThen_ok,hi,Sem.run_pure,hz,hru,List.mapM_toArray,Sem.run_map,hpl',hzc,List.map_toArray,hvs];have e:(fun (i:Nat)=>(places.toArray)[i]?) = (fun (i:Nat)=>places[i]?):=by funext i; simp
   simp only [e,hr,hfin,Sem.run_pure,Result.andThen_ok]
theorem Ev.buildA {E:Enc α} {ps:List (Nat × Operand)} {vs:List (Nat × Value)} {n:Nat} {e:TypeId} {r:Vector α n} (hz:(P.info? t).bind (·.zero) = some ((fN n E).val (fN n E).zero)) (hu:P.underlying t = some (.array n e)) (T:ee P e E)
 (hv:kR F g ps vs) (hf:ay P (fN n E) (fun i=>some (i * E.size,E.size)) vs (fN n E).zero r):Ev P K F L g (.build t ps.toArray) ty ((fN n E).val r):=.of rfl (fun _ _ _ _ _ _ _ _ _=>.bind (.build _ _) fun _=>.pure _) fun hg a G w hw dst pos af gd=>by
 have h1:=hv.eval hg G;cases hi:P.info? t with
 | none=>rw [hi] at hz; cases hz
 | some i =>
   rw [hi] at hz;simp only [Option.bind_some] at hz;have hru:(underlying t).run P w = .ok (.array n e) w:=by simp [underlying,hu]
   have hr:=hf.run;have hzc:((fN n E).val (fN n E).zero).cells = ((fN n E).cells (fN n E).zero).toArray:=(fN n E).eQ _;have hvs:(List.map (fun x=>(x.fst,a.eval x.snd)) ps) = vs:=h1;simp only [execOp,Instr.build,zeroValue,typeInfo,Sem.run_bind,run_program,Result.andThen_ok,hi,Sem.run_pure,hz,hru,run_sizeOf T,hzc,List.map_toArray,hvs,hr]
   rfl
def unitE:Enc Unit where
 size:=0
 agg:=true
 cells _:=[]
 zero:=()
 len _:=rfl
 one _ v hv:=absurd hv List.not_mem_nil
 sc h:=by cases h
end
end Go.Gx
