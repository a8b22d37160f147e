/- Part C: data as cells of memory: how values of a type lie, what is read, what is written, slices of one's own. -/
import Derived.Laws.CopyRow
import Derived.Laws.MakeOwn
import Derived.Laws.AppendOwnNone
import Derived.Laws.StructEq
import Derived.Laws.Build
import Derived.Test.YtljifjflnakmoaaGreatHxB
set_option linter.unusedVariables false
set_option linter.unusedSimpArgs false
namespace Go.Gx
open Go Go.RowKit
section
variable {P:Program} {pm:Nat→Prop} {fr:Nat}
theorem Tm.indexAt (t:TypeId) (v i:Value):Tm P pm fr (Instr.indexAt t v i):=by
 unfold Instr.indexAt
 repeat' with_reducible first
  | exact .pure _
  | exact .stuck _
  | exact .fc _
  | exact .boundsPanic _ _ _ _
  | exact .runtimePanic _
  | exact .dead (.bind (.runtimePanic _) _)
  | exact .dead (.bind (.boundsPanic _ _ _ _) _)
  | refine .bind (.underlying _) fun _=>?_
  | refine .bind (.sizeOf _) fun _=>?_
  | refine .bind (.typeInfo _) fun _=>?_
  | refine .bind (.sureAddr _) fun _=>?_
  | refine .bind (.asAddr _) fun _=>?_
  | refine .bind (.asIntOf _) fun _=>?_
  | refine .bind (.asInt _) fun _=>?_
  | refine .bind (.zeroValue _) fun _=>?_
  | refine .bind (.loadCells _ _) fun _=>?_
  | refine .bind (.choose _) fun _=>?_
  | refine .bind (.askRoom _) fun _=>?_
  | refine .bind (.newRow _ _) fun _=>?_
  | refine .bind (.pure _) fun _=>?_
  | refine .bind (.stuck _) fun _=>?_
  | refine .bind (.fc _) fun _=>?_
  | refine .bind (.map _ (.choose _)) fun _=>?_
  | split
  | dsimp only
theorem Tm.sliceBound (x:Value) (y:Nat) (c:BoundsCode):Tm P pm fr (Instr.sliceBound x y c):=by
 unfold Instr.sliceBound
 repeat' with_reducible first
  | exact .pure _
  | exact .stuck _
  | exact .fc _
  | exact .boundsPanic _ _ _ _
  | exact .runtimePanic _
  | exact .dead (.bind (.runtimePanic _) _)
  | exact .dead (.bind (.boundsPanic _ _ _ _) _)
  | refine .bind (.underlying _) fun _=>?_
  | refine .bind (.sizeOf _) fun _=>?_
  | refine .bind (.typeInfo _) fun _=>?_
  | refine .bind (.sureAddr _) fun _=>?_
  | refine .bind (.asAddr _) fun _=>?_
  | refine .bind (.asIntOf _) fun _=>?_
  | refine .bind (.asInt _) fun _=>?_
  | refine .bind (.zeroValue _) fun _=>?_
  | refine .bind (.loadCells _ _) fun _=>?_
  | refine .bind (.choose _) fun _=>?_
  | refine .bind (.askRoom _) fun _=>?_
  | refine .bind (.newRow _ _) fun _=>?_
  | refine .bind (.pure _) fun _=>?_
  | refine .bind (.stuck _) fun _=>?_
  | refine .bind (.fc _) fun _=>?_
  | refine .bind (.map _ (.choose _)) fun _=>?_
  | split
  | dsimp only
theorem Tm.sliceBounds (b:Bool) (len cap:Nat) (lo hi mx:Option Value):Tm P pm fr (Instr.sliceBounds b len cap lo hi mx):=by
 unfold Instr.sliceBounds
 repeat' with_reducible first
  | exact .pure _
  | exact .stuck _
  | exact .fc _
  | exact .boundsPanic _ _ _ _
  | exact .runtimePanic _
  | exact .dead (.bind (.runtimePanic _) _)
  | exact .dead (.bind (.boundsPanic _ _ _ _) _)
  | refine .bind (.underlying _) fun _=>?_
  | refine .bind (.sizeOf _) fun _=>?_
  | refine .bind (.typeInfo _) fun _=>?_
  | refine .bind (.sureAddr _) fun _=>?_
  | refine .bind (.asAddr _) fun _=>?_
  | refine .bind (.asIntOf _) fun _=>?_
  | refine .bind (.asInt _) fun _=>?_
  | refine .bind (.zeroValue _) fun _=>?_
  | refine .bind (.loadCells _ _) fun _=>?_
  | refine .bind (.choose _) fun _=>?_
  | refine .bind (.askRoom _) fun _=>?_
  | refine .bind (.newRow _ _) fun _=>?_
  | refine .bind (.pure _) fun _=>?_
  | refine .bind (.stuck _) fun _=>?_
  | refine .bind (.fc _) fun _=>?_
  | refine .bind (.map _ (.choose _)) fun _=>?_
  | refine .bind (.sliceBound _ _ _) fun _=>?_
  | split
  | dsimp only
theorem Tm.sliceI (t:TypeId) (x:Value) (lo hi mx:Option Value):Tm P pm fr (Instr.slice t x lo hi mx):=by
 unfold Instr.slice
 repeat' with_reducible first
  | exact .pure _
  | exact .stuck _
  | exact .fc _
  | exact .boundsPanic _ _ _ _
  | exact .runtimePanic _
  | exact .dead (.bind (.runtimePanic _) _)
  | exact .dead (.bind (.boundsPanic _ _ _ _) _)
  | refine .bind (.underlying _) fun _=>?_
  | refine .bind (.sizeOf _) fun _=>?_
  | refine .bind (.typeInfo _) fun _=>?_
  | refine .bind (.sureAddr _) fun _=>?_
  | refine .bind (.asAddr _) fun _=>?_
  | refine .bind (.asIntOf _) fun _=>?_
  | refine .bind (.asInt _) fun _=>?_
  | refine .bind (.zeroValue _) fun _=>?_
  | refine .bind (.loadCells _ _) fun _=>?_
  | refine .bind (.choose _) fun _=>?_
  | refine .bind (.askRoom _) fun _=>?_
  | refine .bind (.newRow _ _) fun _=>?_
  | refine .bind (.pure _) fun _=>?_
  | refine .bind (.stuck _) fun _=>?_
  | refine .bind (.fc _) fun _=>?_
  | refine .bind (.map _ (.choose _)) fun _=>?_
  | refine .bind (.sliceBounds _ _ _ _ _ _) fun _=>?_
  | split
  | dsimp only
theorem Tm.sliceAt (t:TypeId) (x:Value) (lo hi mx:Option Value):Tm P pm fr (Instr.sliceAt t x lo hi mx):=by
 unfold Instr.sliceAt
 repeat' with_reducible first
  | exact .pure _
  | exact .stuck _
  | exact .fc _
  | exact .boundsPanic _ _ _ _
  | exact .runtimePanic _
  | exact .dead (.bind (.runtimePanic _) _)
  | exact .dead (.bind (.boundsPanic _ _ _ _) _)
  | exact .sliceI _ _ _ _ _
  | refine .bind (.underlying _) fun _=>?_
  | refine .bind (.sizeOf _) fun _=>?_
  | refine .bind (.typeInfo _) fun _=>?_
  | refine .bind (.sureAddr _) fun _=>?_
  | refine .bind (.asAddr _) fun _=>?_
  | refine .bind (.asIntOf _) fun _=>?_
  | refine .bind (.asInt _) fun _=>?_
  | refine .bind (.zeroValue _) fun _=>?_
  | refine .bind (.loadCells _ _) fun _=>?_
  | refine .bind (.choose _) fun _=>?_
  | refine .bind (.askRoom _) fun _=>?_
  | refine .bind (.newRow _ _) fun _=>?_
  | refine .bind (.pure _) fun _=>?_
  | refine .bind (.stuck _) fun _=>?_
  | refine .bind (.fc _) fun _=>?_
  | refine .bind (.map _ (.choose _)) fun _=>?_
  | refine .bind (.sliceBounds _ _ _ _ _ _) fun _=>?_
  | split
  | dsimp only
theorem Tm.firstCells (size n:Nat) (x:Value):Tm P pm fr (Builtin.firstCells size n x):=by
 unfold Builtin.firstCells
 repeat' with_reducible first
  | exact .pure _
  | exact .stuck _
  | exact .fc _
  | exact .boundsPanic _ _ _ _
  | exact .runtimePanic _
  | exact .dead (.bind (.runtimePanic _) _)
  | exact .dead (.bind (.boundsPanic _ _ _ _) _)
  | exact .loadCells _ _
  | refine .bind (.underlying _) fun _=>?_
  | refine .bind (.sizeOf _) fun _=>?_
  | refine .bind (.typeInfo _) fun _=>?_
  | refine .bind (.sureAddr _) fun _=>?_
  | refine .bind (.asAddr _) fun _=>?_
  | refine .bind (.asIntOf _) fun _=>?_
  | refine .bind (.asInt _) fun _=>?_
  | refine .bind (.zeroValue _) fun _=>?_
  | refine .bind (.loadCells _ _) fun _=>?_
  | refine .bind (.choose _) fun _=>?_
  | refine .bind (.askRoom _) fun _=>?_
  | refine .bind (.newRow _ _) fun _=>?_
  | refine .bind (.pure _) fun _=>?_
  | refine .bind (.stuck _) fun _=>?_
  | refine .bind (.fc _) fun _=>?_
  | refine .bind (.map _ (.choose _)) fun _=>?_
  | split
  | dsimp only
theorem Tm.lenOf (x:Value):Tm P pm fr (Builtin.lenOf x):=by
 unfold Builtin.lenOf
 repeat' with_reducible first
  | exact .pure _
  | exact .stuck _
  | exact .fc _
  | exact .boundsPanic _ _ _ _
  | exact .runtimePanic _
  | exact .dead (.bind (.runtimePanic _) _)
  | exact .dead (.bind (.boundsPanic _ _ _ _) _)
  | refine .bind (.underlying _) fun _=>?_
  | refine .bind (.sizeOf _) fun _=>?_
  | refine .bind (.typeInfo _) fun _=>?_
  | refine .bind (.sureAddr _) fun _=>?_
  | refine .bind (.asAddr _) fun _=>?_
  | refine .bind (.asIntOf _) fun _=>?_
  | refine .bind (.asInt _) fun _=>?_
  | refine .bind (.zeroValue _) fun _=>?_
  | refine .bind (.loadCells _ _) fun _=>?_
  | refine .bind (.choose _) fun _=>?_
  | refine .bind (.askRoom _) fun _=>?_
  | refine .bind (.newRow _ _) fun _=>?_
  | refine .bind (.pure _) fun _=>?_
  | refine .bind (.stuck _) fun _=>?_
  | refine .bind (.fc _) fun _=>?_
  | refine .bind (.map _ (.choose _)) fun _=>?_
  | split
  | dsimp only
theorem Tm.append {t ty:TypeId} {v u:Value} {T:TypeId} (ht:P.underlying t = some (.slice T)) (hv:∀ b,v.ownBlock = some b→pm b ∧ fr ≤ b):Tm P pm fr (Builtin.append_ #[t,t] ty #[v,u]):=by
 unfold Builtin.append_;simp only [List.getElem?_toArray,List.getElem?_cons_zero,List.getElem?_cons_succ];refine .under ht ?_;cases v <;> first | exact .halt _ | skip
 rename_i base sLen sCap;have hst:∀ a,base = some a→∀ (k:Nat) (vs:List Value),Tm P pm fr (Go.storeCells (a.add k) vs):=fun a e k vs=>by
  have hb:(a.add k).block = a.block:=by unfold Addr.add; split <;> rfl
  obtain ⟨h1,h2⟩:=hv a.block (by rw [e]; rfl);exact .storeCells _ (by rw [hb]; exact h1) (by rw [hb]; exact h2) _ _
 refine .bind (.sizeOf _) fun size=>.under ht (.known (b:=false) (.pure _) (fun v=>rfl) ?_)
 simp only [Bool.false_eq_true,if_false,Bool.not_false,if_true,false_or]
 repeat' with_reducible first
  | exact .pure _
  | exact .stuck _
  | exact .fc _
  | exact .boundsPanic _ _ _ _
  | exact .runtimePanic _
  | exact .dead (.bind (.runtimePanic _) _)
  | exact .dead (.bind (.boundsPanic _ _ _ _) _)
  | refine .bind (.underlying _) fun _=>?_
  | refine .bind (.sizeOf _) fun _=>?_
  | refine .bind (.typeInfo _) fun _=>?_
  | refine .bind (.sureAddr _) fun _=>?_
  | refine .bind (.asAddr _) fun _=>?_
  | refine .bind (.asIntOf _) fun _=>?_
  | refine .bind (.asInt _) fun _=>?_
  | refine .bind (.zeroValue _) fun _=>?_
  | refine .bind (.loadCells _ _) fun _=>?_
  | refine .bind (.choose _) fun _=>?_
  | refine .bind (.askRoom _) fun _=>?_
  | refine .bind (.newRow _ _) fun _=>?_
  | refine .bind (.pure _) fun _=>?_
  | refine .bind (.stuck _) fun _=>?_
  | refine .bind (.fc _) fun _=>?_
  | refine .bind (.map _ (.choose _)) fun _=>?_
  | refine .bind (.lenOf _) fun _=>?_
  | refine .bind (.firstCells _ _ _) fun _=>?_
  | refine .bind (hst _ rfl _ _) fun _=>?_
  | split
  | dsimp only
  | exact .dead (.bind (.behind fun _=>by split <;> first | exact .fc _ | exact .behind fun _=>.fc _) _)
end
structure Enc (α:Type) where
 size:Nat
 agg:Bool
 cells:α→List Value
 zero:α
 len:∀ x,(cells x).length = size
 one:∀ x v,v ∈ cells x→v.oneCell' = true
 sc:agg = false→size = 1
def Enc.val {α:Type} (E:Enc α) (x:α):Value:=bif E.agg then .agg (E.cells x).toArray else (E.cells x).headD undef
def scE {α:Type} (f:α→Value) (z:α) (h:∀ x,(f x).oneCell' = true):Enc α :=
 { size:=1,agg:=false,cells:=fun x=>[f x],zero:=z,len:=fun _=>rfl,one:=fun x v hv=>by simp at hv; rw [hv]; exact h x,sc:=fun _=>rfl }
def u8E:Enc UInt8:=scE U8 0 (fun _=>rfl)
def od:Enc UInt16:=scE U16 0 (fun _=>rfl)
def u32E:Enc UInt32:=scE U32 0 (fun _=>rfl)
def fR:Enc UInt64:=scE U64 0 (fun _=>rfl)
def iE:Enc Int:=scE I 0 (fun _=>rfl)
def bE:Enc Bool:=scE Value.bool false (fun _=>rfl)
def sE:Enc ByteArray:=scE Value.string ByteArray.empty (fun _=>rfl)
section
variable {α β γ:Type}
structure OV where
 v:Value
 one:v.oneCell' = true
def ovE (z:OV):Enc OV:=scE OV.v z OV.one
def ai:OV:=⟨.slice none 0 0,rfl⟩
def bP:OV:=⟨.pointer none,rfl⟩
def gO:OV:=⟨.map none,rfl⟩
def cK:OV:=⟨.nilFunc,rfl⟩
def eB:OV:=⟨.nilIface,rfl⟩
def Enc.row (E:Enc α) (xs:List α):List Value:=xs.flatMap E.cells
theorem Enc.bZ (E:Enc α) (xs:List α):(E.row xs).length = xs.length * E.size:=by
 induction xs with
 | nil=>simp [Enc.row]
 | cons x xs ih =>
   have:E.row (x :: xs) = E.cells x ++ E.row xs:=by simp [Enc.row]
   rw [this,List.length_append,ih,E.len,List.length_cons,Nat.add_mul]; omega
theorem Enc.ja (E:Enc α) (xs ys:List α):E.row (xs ++ ys) = E.row xs ++ E.row ys:=by simp [Enc.row]
theorem Enc.lg (E:Enc α) (xs:List α):∀ v ∈ E.row xs,v.oneCell' = true:=by
 intro v hv;simp only [Enc.row,List.mem_flatMap] at hv;obtain ⟨x,_,h⟩:=hv;exact E.one x v h
theorem Enc.mV (E:Enc α) (xs:List α) (k:Nat):(E.row xs).take (k * E.size) = E.row (xs.take k):=by
 induction xs generalizing k with
 | nil=>simp [Enc.row]
 | cons x xs ih =>
   cases k with
   | zero=>simp [Enc.row]
   | succ k =>
     have e:E.row (x :: xs) = E.cells x ++ E.row xs:=by simp [Enc.row]
     have e2:E.row (x :: xs.take k) = E.cells x ++ E.row (xs.take k):=by simp [Enc.row]
     rw [List.take_succ_cons,e,e2,← ih k,Nat.add_mul,Nat.one_mul,Nat.add_comm,← E.len x,List.take_length_add_append]
theorem Enc.jy (E:Enc α) (xs:List α) (k:Nat):(E.row xs).drop (k * E.size) = E.row (xs.drop k):=by
 induction xs generalizing k with
 | nil=>simp [Enc.row]
 | cons x xs ih =>
   cases k with
   | zero=>simp [Enc.row]
   | succ k =>
     have e:E.row (x :: xs) = E.cells x ++ E.row xs:=by simp [Enc.row]
     rw [List.drop_succ_cons,e,← ih k,Nat.add_mul,Nat.one_mul,Nat.add_comm,← E.len x,List.drop_length_add_append]
theorem Enc.wJ (E:Enc α) (xs:List α) (i j:Nat) (d:α) (hi:i < xs.length) (hj:j < E.size):(E.row xs)[i * E.size + j]? = (E.cells (xs.getD i d))[j]?:=by
 have h1:(E.row xs)[i * E.size + j]? = ((E.row xs).drop (i * E.size))[j]?:=by rw [List.getElem?_drop]
 rw [h1,E.jy];have h2:xs.drop i = xs.getD i d :: xs.drop (i + 1):=by
  rw [List.drop_eq_getElem_cons hi]; simp [List.getD,hi]
 rw [h2];have e:E.row (xs.getD i d :: xs.drop (i + 1)) = E.cells (xs.getD i d) ++ E.row (xs.drop (i + 1)):=by simp [Enc.row]
 rw [e,List.getElem?_append_left (by rw [E.len]; exact hj)]
theorem Enc.row_set (E:Enc α) (xs:List α) (i:Nat) (x:α) (hi:i < xs.length):E.row (xs.set i x) = (E.row xs).take (i * E.size) ++ E.cells x ++ (E.row xs).drop (i * E.size + E.size):=by
 have h1:xs.set i x = xs.take i ++ x :: xs.drop (i + 1):=by rw [List.set_eq_take_append_cons_drop,if_pos hi]
 have e:i * E.size + E.size = (i + 1) * E.size:=by rw [Nat.add_mul,Nat.one_mul]
 rw [h1,E.ja,e,E.mV,E.jy];simp [Enc.row]
theorem Enc.eQ (E:Enc α) (x:α):(E.val x).cells = (E.cells x).toArray:=by
 unfold Enc.val;cases h:E.agg with
 | true=>rfl
 | false =>
   have hl:(E.cells x).length = 1:=by rw [E.len,E.sc h]
   match hc:E.cells x,hl with
   | [v],_ =>
     have h1:=E.one x v (by rw [hc]; exact List.mem_cons_self);cases v <;> simp_all [Value.cells,Value.oneCell']
def cq (E:Enc α) (w:World) (b off:Nat) (x:α):Prop:=∀ j u,(E.cells x)[j]? = some u→w.cell? ⟨b,off + j,none⟩ = some u
structure ee (P:Program) (t:TypeId) (E:Enc α):Prop where
 ag:∃ d,P.underlying t = some d ∧ (match d with | .struct _ | .array _ _=>true | _=>false) = E.agg
 sz:∃ i,P.info? t = some i ∧ i.size = E.size
theorem ee.mk' {P:Program} {t:TypeId} {E:Enc α} (h1:(P.underlying t).map (fun d=>match d with | .struct _ | .array _ _=>true | _=>false) = some E.agg)
 (h2:(P.info? t).map (·.size) = some E.size):ee P t E:=by
 constructor
 ·cases h:P.underlying t with
  | none=>rw [h] at h1; cases h1
  | some d=>rw [h] at h1; simp only [Option.map_some,Option.some.injEq] at h1; exact ⟨d,rfl,h1⟩
 ·cases h:P.info? t with
  | none=>rw [h] at h2; cases h2
  | some i=>rw [h] at h2; simp only [Option.map_some,Option.some.injEq] at h2; exact ⟨i,rfl,h2⟩
theorem fO (b off j:Nat):(⟨b,off,none⟩:Addr).add j = ⟨b,off + j,none⟩:=by
 unfold Addr.add;split
 ·rename_i h; subst h; rfl
 ·rfl
variable {P:Program}
theorem vp {t:TypeId} {E:Enc α} (T:ee P t E) (w:World):(isAgg t).run P w = .ok E.agg w:=by
 obtain ⟨d,hd,he⟩:=T.ag;have hu:(underlying t).run P w = .ok d w:=by simp [underlying,hd]
 simp only [isAgg,Sem.run_bind,hu,Result.andThen_ok,← he];cases d <;> rfl
theorem run_sizeOf {t:TypeId} {E:Enc α} (T:ee P t E) (w:World):(sizeOf t).run P w = .ok E.size w:=by
 obtain ⟨i,hi,he⟩:=T.sz;simp [sizeOf,typeInfo,hi,he]
theorem hZ {t:TypeId} {E:Enc α} (T:ee P t E) {w:World} {b off:Nat} {x:α} (h:cq E w b off x):(loadVar t ⟨b,off,none⟩).run P w = .ok (E.val x) w:=by
 simp only [loadVar,Sem.run_bind,vp T,Result.andThen_ok];unfold Enc.val;cases ha:E.agg with
 | true =>
   have h1:=run_loadCells_list (P:=P) w ⟨b,off,none⟩ (E.cells x) (fun j v hv=>by rw [fO]; exact h j v hv);rw [E.len] at h1;simp only [if_true,Sem.run_bind,run_sizeOf T,Result.andThen_ok,h1,Sem.run_pure,cond_true]
 | false =>
   have hl:(E.cells x).length = 1:=by rw [E.len,E.sc ha]
   simp only [Bool.false_eq_true,if_false,cond_false]
   match hc:E.cells x,hl with
   | [v],_ =>
     have h1:=h 0 v (by rw [hc]; rfl);simp only [Nat.add_zero] at h1;simp [h1]
theorem rvp {t:TypeId} {E:Enc α} (T:ee P t E) {pm:Nat→Prop} {fr:Nat} {w:World} {b off:Nat} {x:α} (h:cq E w b off x) (hn:a9 w):(loadVar t ⟨b,off,none⟩).wpS P pm fr (fun y w'=>y = E.val x ∧ w' = w) w:=Tm.loadVar t _ w hn _ _ (hZ T h)
theorem RV.cellP {K:Ctx} {F:Fr} {L:List Res} {t:Nat} {ty:TypeId} {E:Enc α} {b off:Nat} {x:α} {rs:List ResultVar} {vs:List Value} (h:look F t = some (true,.pointer (some ⟨b,off,none⟩))) (T:ee P ty E) (hp:∀ w,aP K L w→cq E w b off x) (hr:RV P K F L rs vs):RV P K F L (.cell t ty :: rs) (E.val x :: vs):=.cell h (fun w I hn=>rvp T (hp w I) hn) hr
structure ah (E:Enc α) (E':Enc β) (off:Nat) where
 get:α→β
 set:α→β→α
 fits:off + E'.size ≤ E.size
 oU:∀ x,((E.cells x).drop off).take E'.size = E'.cells (get x)
 ny:∀ x y,E.cells (set x y) = (E.cells x).take off ++ E'.cells y ++ (E.cells x).drop (off + E'.size)
def ah.id (E:Enc α):ah E E 0 where
 get x:=x
 set _ y:=y
 fits:=by omega
 oU x:=by simp [← E.len x]
 ny x y:=by simp [← E.len x]
def ah.comp {E:Enc α} {E':Enc β} {E'':Enc γ} {o o':Nat} (l:ah E E' o) (m:ah E' E'' o'):ah E E'' (o + o') where
 get x:=m.get (l.get x)
 set x y:=l.set x (m.set (l.get x) y)
 fits:=by have:=l.fits; have:=m.fits; omega
 oU x:=by
  have h1:=l.oU x;have h2:=m.oU (l.get x);have h3:=m.fits;rw [← h1] at h2;rw [← h2,List.drop_take,List.take_take,List.drop_drop,Nat.min_eq_left (by omega)]
 ny x y:=by
  have h1:=l.oU x;have h3:=m.fits;have h4:=l.fits;rw [l.ny,m.ny,← h1,List.take_take,List.drop_take,List.drop_drop,Nat.min_eq_left (by omega)];have e1:(E.cells x).take (o + o') = (E.cells x).take o ++ ((E.cells x).drop o).take o':=by rw [List.take_add]
  have e2:(E.cells x).drop (o + o' + E''.size) = ((E.cells x).drop (o + (o' + E''.size))).take (E'.size - (o' + E''.size)) ++ (E.cells x).drop (o + E'.size):=by
   have e3:(E.cells x).drop (o + E'.size) = ((E.cells x).drop (o + (o' + E''.size))).drop (E'.size - (o' + E''.size)):=by
    rw [List.drop_drop]
    congr 1
    omega
   rw [e3,List.take_append_drop,Nat.add_assoc]
  rw [e1,e2];simp [List.append_assoc]
theorem ah.pts {E:Enc α} {E':Enc β} {o:Nat} (l:ah E E' o) {w:World} {b off:Nat} {x:α} (h:cq E w b off x):cq E' w b (off + o) (l.get x):=by
 intro j u hu;rw [← l.oU x] at hu;rw [List.getElem?_take] at hu;split at hu
 ·rw [List.getElem?_drop] at hu;rw [Nat.add_assoc];exact h (o + j) u hu
 ·cases hu
def Var (b:Nat) (E:Enc α) (x:α) (T:TypeId):Res where
 bQ:=fun k=>k = b
 A:=fun w=>w.heap[b]? = some (.cells (E.cells x).toArray T (0,0))
 st:=fun w w' h h1=>by rw [h b rfl]; exact h1
theorem gE {E:Enc α} {w:World} {b:Nat} {x:α} {T:TypeId} (h:w.heap[b]? = some (.cells (E.cells x).toArray T (0,0))):cq E w b 0 x:=by
 intro j u hu;simp [World.cell?,h,hu]
variable {K:Ctx} {F:Fr} {L:List Res} {g:Bool} {Q:Exit→Act→World→Prop} {N:Act→World→Prop} {ops:Array Oper}
 {op:Op} {ty t t':TypeId} {pos:String} {af:Array Edge} {d:Nat} {x y:Operand}
theorem br {E:Enc α} {E':Enc β} {b o:Nat} {xv:α} {T:TypeId} (hm:Var b E xv T ∈ L) (l:ah E E' o) (w:World) (h:aP K L w):cq E' w b o (l.get xv):=by
 have h1:=(h.own _ hm).1;have h2:=l.pts (gE (E:=E) (x:=xv) h1)
 rwa [Nat.zero_add] at h2
theorem Ev.load {E:Enc α} {b off:Nat} {xv:α} (T:ee P t E) (hx:Opd F g x (.pointer (some ⟨b,off,none⟩))) (h:∀ w,aP K L w→cq E w b off xv) :
 Ev P K F L g (.load t x) ty (E.val xv):=.of rfl (fun _ _ _ _ _ _ _ _ _=>.bind (.bind (.sureAddr _) fun _=>.loadVar _ _) fun _=>.pure _) fun hg a G w hw dst pos af gd=>by
 simp only [execOp,hx.eval hg G,Instr.loadAt,Instr.sureAddr,Sem.run_bind,Sem.run_pure,Result.andThen_ok,hZ T (h w hw)]
theorem Ev.fieldAddr {b off s f o:Nat} (hx:Opd F g x (.pointer (some ⟨b,off,none⟩)))
 (hf:(P.underlying s).bind (fun d=>match d with | .struct fs=>(fs[f]?).bind (fun fd=>(P.info? fd.type).map (fun i=>(fd.offset,Nat.beq i.size 0))) | _=>none) = some (o,false)) :
 Ev P K F L g (.fieldAddr s x f) ty (.pointer (some ⟨b,off + o,none⟩)):=.of rfl (fun hg a G w hw _ _ _ _=>by
 show Tm P _ _ (Instr.fieldAt s (a.eval x) f >>= fun r=>pure (Next.value r));rw [hx.eval hg G];refine .bind ?_ fun _=>.pure _
 cases hu:P.underlying s with
 | none=>rw [hu] at hf; cases hf
 | some dsc =>
   rw [hu] at hf;cases dsc <;> simp only [Option.bind_some,reduceCtorEq] at hf
   rename_i fs;cases hfd:fs[f]? with
   | none=>rw [hfd] at hf; cases hf
   | some fd =>
     rw [hfd] at hf;simp only [Option.bind_some] at hf;cases hi:P.info? fd.type with
     | none=>rw [hi] at hf; cases hf
     | some i =>
       rw [hi] at hf;simp only [Option.map_some,Option.some.injEq,Prod.mk.injEq] at hf;have h2':¬ i.size = 0:=Nat.ne_of_beq_eq_false hf.2;unfold Instr.fieldAt;refine .under hu ?_;simp only [hfd];refine .bind (.pure _) fun q=>.bind ?_ fun _=>.pure _
       unfold fieldPlace;refine .known (b:=i.size) (.sizeOf _) (fun v=>by simp [sizeOf,typeInfo,hi]) ?_;rw [if_neg h2'];exact .pure _) fun hg a G w hw dst pos af gd=>by
 cases hu:P.underlying s with
 | none=>rw [hu] at hf; cases hf
 | some dsc =>
   rw [hu] at hf;cases dsc <;> simp only [Option.bind_some,reduceCtorEq] at hf
   rename_i fs;cases hfd:fs[f]? with
   | none=>rw [hfd] at hf; cases hf
   | some fd =>
     rw [hfd] at hf;simp only [Option.bind_some] at hf;cases hi:P.info? fd.type with
     | none=>rw [hi] at hf; cases hf
     | some i =>
       rw [hi] at hf;simp only [Option.map_some,Option.some.injEq,Prod.mk.injEq] at hf;obtain ⟨h1,h2⟩:=hf;have h2':¬ i.size = 0:=Nat.ne_of_beq_eq_false h2;have hru:(underlying s).run P w = .ok (.struct fs) w:=by simp [underlying,hu]
       have hsz:(sizeOf fd.type).run P w = .ok i.size w:=by simp [sizeOf,typeInfo,hi]
       simp only [execOp,hx.eval hg G,Instr.fieldAt,Instr.sureAddr,Sem.run_bind,Sem.run_pure,Result.andThen_ok,hru,hfd,fieldPlace,hsz,if_neg h2',fO,h1]
theorem box {E:Enc α} {xv:α} (hx:Opd F true x (E.val xv)) (next:∀ b,Sat K N ((d,true,.pointer (some ⟨b,0,none⟩)) :: F) (Var b E xv t :: L)) (hd:Nat.blt d K.n = true:=by rfl) :
 Sat K (bH P K ops Q ⟨some d,.box t x,ty,pos,af,none⟩ N) F L:=fun a w G=>by
 refine bF rfl rfl fun hn=>?_
 have hr:(execOp a.eval ⟨some d,.box t x,ty,pos,af,none⟩).run P w = .ok (.value (.pointer (some ⟨w.heap.size,0,none⟩))) { w with heap:=w.heap.push (.cells (E.cells xv).toArray t) }:=by
  simp [execOp,hx.eval rfl G.fo,Instr.box,newVar,newRow,E.eQ]
 refine nc hr (.bind (.bind (.newVar _ _) fun _=>.pure _) fun _=>.pure _) hn (next w.heap.size _ _ (G.put d true _ _ (by simpa [Nat.blt_eq] using hd) rfl (G.inv.add (aJ.alloc _ _ _) ?_ ?_)))
 ·show (w.heap.push _)[w.heap.size]? = _;simp
 ·intro b hb;have:b = w.heap.size:=hb;subst this;exact ⟨Nat.le_refl _,by simp⟩
theorem alloc {E:Enc α} (hz:(P.info? t).bind (·.zero) = some (E.val E.zero)) (next:∀ b,Sat K N ((d,true,.pointer (some ⟨b,0,none⟩)) :: F) (Var b E E.zero t :: L)) (hd:Nat.blt d K.n = true:=by rfl) :
 Sat K (bH P K ops Q ⟨some d,.alloc t,ty,pos,af,none⟩ N) F L:=fun a w G=>by
 refine bF rfl rfl fun hn=>?_
 cases hi:P.info? t with
 | none=>rw [hi] at hz; cases hz
 | some i =>
   rw [hi] at hz;simp only [Option.bind_some] at hz;have hr:(execOp a.eval ⟨some d,.alloc t,ty,pos,af,none⟩).run P w = .ok (.value (.pointer (some ⟨w.heap.size,0,none⟩))) { w with heap:=w.heap.push (.cells (E.cells E.zero).toArray t) }:=by
    simp [execOp,Instr.alloc,zeroValue,typeInfo,hi,hz,newVar,newRow,E.eQ]
   refine nc hr (.bind (.bind (.zeroValue _) fun _=>.bind (.newVar _ _) fun _=>.pure _) fun _=>.pure _) hn (next w.heap.size _ _ (G.put d true _ _ (by simpa [Nat.blt_eq] using hd) rfl (G.inv.add (aJ.alloc _ _ _) ?_ ?_)))
   ·show (w.heap.push _)[w.heap.size]? = _;simp
   ·intro b hb;have:b = w.heap.size:=hb;subst this;exact ⟨Nat.le_refl _,by simp⟩
theorem gC (w:World) (g:Nat) (cs:Array Value):aJ (fun k=>k = g) w (w.setRow g cs) :=
 ⟨rfl,rfl,rfl,by simp,fun k _ hk=>setRow_other w g k cs hk⟩
theorem kz {E:Enc β} (T:ee P t E) {w:World} {b o:Nat} {cur:List Value} {T':TypeId} {yv:β} (hb:w.heap[b]? = some (.cells cur.toArray T' (0,0))) (hfit:o + E.size ≤ cur.length) :
 (storeVar t ⟨b,o,none⟩ (E.val yv)).run P w = .ok () (w.setRow b (cur.take o ++ E.cells yv ++ cur.drop (o + E.size)).toArray):=by
 have h1:=run_storeCells_at P b o T' (E.cells yv) 0 cur.toArray w hb (by simp [E.len]; omega) (E.one yv);simp only [Nat.add_zero,E.len] at h1;have hsz:¬ ((E.cells yv).toArray.size ≠ E.size):=by simp [E.len]
 simp only [storeVar,Sem.run_bind,run_sizeOf T,Result.andThen_ok,E.eQ,if_neg hsz,h1]
theorem storeV {E:Enc α} {E':Enc β} {b o:Nat} {xv:α} {yv:β} {T':TypeId} {L':List Res} (T:ee P t E') (l:ah E E' o) (hx:Opd F true x (.pointer (some ⟨b,o,none⟩))) (hy:Opd F true y (E'.val yv))
 (hu:Upd L (Var b E xv T') (Var b E (l.set xv yv) T') L') (next:Sat K N F L'):Sat K (bH P K ops Q ⟨none,.store t x y,ty,pos,af,none⟩ N) F L:=fun a w G=>by
 refine bF rfl rfl fun hn=>?_
 have hb:w.heap[b]? = some (.cells (E.cells xv).toArray T' (0,0)):=(G.inv.own _ hu.mem).1;have hr:=kz (P:=P) T (o:=o) (yv:=yv) hb (by rw [E.len]; exact l.fits);have he:(execOp a.eval ⟨none,.store t x y,ty,pos,af,none⟩).run P w = .ok .skip (w.setRow b (E.cells (l.set xv yv)).toArray):=by
  simp only [execOp,hx.eval rfl G.fo,hy.eval rfl G.fo,Instr.storeAt,Instr.sureAddr,Sem.run_bind,Sem.run_pure,Result.andThen_ok,hr,l.ny]
 have hm:=hu.mem;refine opRunS he ?_ hn ?_
 ·show Tm P _ _ (Instr.storeAt t (a.eval x) (a.eval y) >>= fun _=>pure Next.skip);rw [hx.eval rfl G.fo];exact .bind (.known (b:=⟨b,o,none⟩) (.sureAddr _) (fun v=>rfl) (.storeVar _ _ _ ((G.inv.own _ hm).2 b rfl).1 (G.inv.fr hm b rfl))) fun _=>.pure _
 have hlt:b < w.heap.size:=(Array.getElem?_eq_some_iff.1 hb).1;refine next _ _ (G.world (G.inv.upd hu (gC _ _ _) (setRow_heap w b _ _ _ _ hb) ?_));intro k hk;have:k = b:=hk;subst this;exact ⟨.inl rfl,by simpa using hlt⟩
end
section
variable {α β γ:Type} {P:Program}
def aO (E:Enc α) (w:World) (v:Value) (xs:List α):Prop :=
 ∃ a cap,v = .slice a xs.length cap ∧ xs.length ≤ cap ∧ cap ≤ maxLen ∧ (a = none→xs = [] ∧ cap = 0) ∧
   ∀ p,a = some p→(xs ≠ []→p.spot = none) ∧ ∀ j u,(E.row xs)[j]? = some u→w.cell? ⟨p.block,p.off + j,none⟩ = some u
theorem aO.nil (E:Enc α) (w:World):aO E w (.slice none 0 0) []:=⟨none,0,rfl,Nat.le_refl _,Nat.zero_le _,fun _=>⟨rfl,rfl⟩,fun _ h=>by cases h⟩
theorem aO.le {E:Enc α} {w:World} {v:Value} {xs:List α} (h:aO E w v xs):xs.length ≤ 9223372036854775807:=by
 obtain ⟨a,cap,_,h1,h2,_⟩:=h;have:maxLen = 9223372036854775807:=rfl;omega
theorem aO.cn {E:Enc α} {w w':World} {v:Value} {xs:List α} {M:Nat→Prop} (h:aO E w v xs) (k:aJ M w w') (hM:∀ b,v.ownBlock = some b→¬ M b):aO E w' v xs:=by
 obtain ⟨a,cap,rfl,h1,h2,h3,h4⟩:=h;refine ⟨a,cap,rfl,h1,h2,h3,fun p hp=>?_⟩;obtain ⟨h5,h6⟩:=h4 p hp;subst hp;refine ⟨h5,fun j u hu=>?_⟩;have h7:=h6 j u hu;have hlt:p.block < w.heap.size:=World.block_lt_of_cell? w ⟨p.block,p.off + j,none⟩ h7;exact (World.cell?_of_block (w:=w) (a:=⟨p.block,p.off + j,none⟩) (k.block _ hlt (hM _ rfl))).trans h7
theorem aO.aV {E:Enc α} {w w':World} {v:Value} {xs:List α} (h:aO E w v xs) (k:aJ dI w w'):aO E w' v xs:=h.cn k (fun _ _ h=>h)
def aT (v:Value) (E:Enc α) (xs:List α) (T:TypeId):Res where
 bQ:=fun b=>v.ownBlock = some b
 A:=fun w=>w.ownsRow 0 T E.size v xs.length (E.row xs)
 st:=fun w w' h h1=>by
  refine ⟨h1.1,?_⟩
  rcases h1.2 with h2 | ⟨g,cap,cur,hv,hg,hh,r⟩
  ·exact .inl h2
  ·exact .inr ⟨g,cap,cur,hv,hg,by rw [h g (by rw [hv]; rfl)]; exact hh,r⟩
theorem aO.gN {E:Enc α} {w:World} {v:Value} {xs:List α} {T:TypeId} (h:w.ownsRow 0 T E.size v xs.length (E.row xs)):aO E w v xs:=by
 rcases h.2 with ⟨rfl,h2⟩ | ⟨g,cap,cur,rfl,hg,hh,h3,h4,h5,h6⟩
 ·have:xs = []:=List.eq_nil_of_length_eq_zero h2;subst this;exact aO.nil E w
 ·refine ⟨_,cap,rfl,h3,h4,fun h=>(by cases h),fun p hp=>?_⟩;cases hp;refine ⟨fun _=>rfl,fun j u hu=>?_⟩;rw [← h6,List.getElem?_take] at hu;split at hu
  ·simp only [World.cell?,hh,Nat.zero_add]
   simpa using hu
  ·cases hu
theorem fJ {K:Ctx} {L:List Res} {E:Enc α} {v:Value} {xs:List α} {T:TypeId} (hm:aT v E xs T ∈ L) (w:World) (h:aP K L w):aO E w v xs:=aO.gN (h.own _ hm).1
def gg (v:Value) (k:Nat):Value :=
 match v with
 | .slice (some a) _ _=>.pointer (some ⟨a.block,a.off + k,none⟩)
 | _=>undef
def lD (size:Nat) (v:Value) (l h:Nat):Value :=
 match v with
 | .slice a _ cap=>.slice (if cap = l then a else a.map (·.add (l * size))) (h - l) (cap - l)
 | v=>v
variable {K:Ctx} {F:Fr} {L:List Res} {g:Bool} {Q:Exit→Act→World→Prop} {N:Act→World→Prop} {ops:Array Oper}
 {op:Op} {ty t t':TypeId} {pos:String} {af:Array Edge} {d:Nat} {x y:Operand}
theorem Ev.len {E:Enc α} {v:Value} {xs:List α} {e:TypeId} (ht:P.underlying t = some (.slice e)) (hx:Opd F g x v) (h:∀ w,aP K L w→aO E w v xs) :
 Ev P K F L g (.call { callee:=.builtin .len,args:=#[x],argTypes:=#[t] }) ty (I xs.length):=.of rfl (fun hg a G w hw _ _ _ _=>by
 obtain ⟨b,cap,rfl,_⟩:=h w hw;have e:∀ dst pos af gd,execOp a.eval ⟨dst,.call { callee:=.builtin .len,args:=#[x],argTypes:=#[t] },ty,pos,af,gd⟩ = (Builtin.len_ #[t] ty #[.slice b xs.length cap] >>= fun r=>pure (Next.value r)):=fun _ _ _ _=>by
  simp [execOp,resolve,invoke,builtin,hx.eval hg G]
 rw [e];exact .bind (.under ht (.pure _)) fun _=>.pure _) fun hg a G w hw dst pos af gd=>by
 obtain ⟨b,cap,rfl,_⟩:=h w hw;have hu:(underlying t).run P w = .ok (.slice e) w:=by simp [underlying,ht]
 simp [execOp,resolve,invoke,builtin,Builtin.len_,hx.eval hg G,hu,goInt,I]
theorem Ev.indexAddr {E:Enc α} {v:Value} {xs:List α} {e:TypeId} {i:Int} (ht:P.underlying t = some (.slice e)) (T:ee P e E) (hx:Opd F g x v) (hy:Opd F g y (I i))
 (h:∀ w,aP K L w→aO E w v xs) (hi:g = true→0 ≤ i ∧ i < xs.length) :
 Ev P K F L g (.indexAddr t x y) ty (gg v (i.toNat * E.size)):=.of rfl (fun _ _ _ _ _ _ _ _ _=>.bind (.indexAt _ _ _) fun _=>.pure _) fun hg a G w hw dst pos af gd=>by
 obtain ⟨b,cap,rfl,h1,_,h2,h3⟩:=h w hw;have hi':=hi hg;have hu:(underlying t).run P w = .ok (.slice e) w:=by simp [underlying,ht]
 cases b with
 | none =>
   have:=(h2 rfl).1;subst this;simp at hi';omega
 | some p =>
   have hp:=(h3 p rfl).1 (fun e=>by rw [e] at hi'; simp at hi'; omega);obtain ⟨pb,po,ps⟩:=p;simp only at hp;subst hp;simp [execOp,Instr.indexAt,asIntOf,hx.eval hg G,hy.eval hg G,I,hu,hi',run_sizeOf T,gg,fO]
theorem aO.pts {E:Enc α} {E':Enc β} {w:World} {v:Value} {xs:List α} {o:Nat} (h:aO E w v xs) (l:ah E E' o) {i:Nat} (hi:i < xs.length) (z:α) :
 ∃ b off,gg v (i * E.size + o) = .pointer (some ⟨b,off,none⟩) ∧ cq E' w b off (l.get (xs.getD i z)):=by
 obtain ⟨a,cap,rfl,_,_,h2,h3⟩:=h;cases a with
 | none =>
   have:=(h2 rfl).1;subst this;simp at hi
 | some p =>
   obtain ⟨_,h5⟩:=h3 p rfl;refine ⟨p.block,p.off + (i * E.size + o),rfl,?_⟩;have h6:cq E w p.block (p.off + i * E.size) (xs.getD i z):=by
    intro j u hu;have hj:j < E.size:=by
     have:=(List.getElem?_eq_some_iff.1 hu).1
     rwa [E.len] at this
    rw [← E.wJ xs i j z hi hj] at hu;have:=h5 _ u hu
    rwa [← Nat.add_assoc] at this
   have h7:=l.pts h6
   rwa [Nat.add_assoc] at h7
theorem Ev.pM {E:Enc α} {E':Enc β} {v:Value} {xs:List α} {i:Int} {o k:Nat} (T:ee P t E') (l:ah E E' o) (hk:k = i.toNat * E.size + o) (hx:Opd F g x (gg v k)) (h:∀ w,aP K L w→aO E w v xs)
 (hi:g = true→0 ≤ i ∧ i < xs.length):Ev P K F L g (.load t x) ty (E'.val (l.get (xs.getD i.toNat E.zero))):=.of rfl (fun _ _ _ _ _ _ _ _ _=>.bind (.bind (.sureAddr _) fun _=>.loadVar _ _) fun _=>.pure _) fun hg a G w hw dst pos af gd=>by
 have hi':=hi hg;obtain ⟨b,off,h1,h2⟩:=(h w hw).pts l (i:=i.toNat) (by omega) E.zero;subst hk;rw [h1] at hx;simp only [execOp,hx.eval hg G,Instr.loadAt,Instr.sureAddr,Sem.run_bind,Sem.run_pure,Result.andThen_ok,hZ T h2]
theorem aO.sub {E:Enc α} {w:World} {v:Value} {xs:List α} (h:aO E w v xs) {l k:Nat} (hl:l ≤ k) (hk:k ≤ xs.length):aO E w (lD E.size v l k) ((xs.take k).drop l):=by
 obtain ⟨a,cap,rfl,h1,h2,h3,h4⟩:=h;have hlen:((xs.take k).drop l).length = k - l:=by simp; omega
 refine ⟨if cap = l then a else a.map (·.add (l * E.size)),cap - l,by rw [hlen]; rfl,by rw [hlen]; omega,by omega,?_,?_⟩
 ·intro hn;have ha:a = none:=by
   split at hn
   ·exact hn
   ·cases a with
    | none=>rfl
    | some p=>cases hn
  obtain ⟨rfl,rfl⟩:=h3 ha;simp
 ·intro p hp;split at hp
  ·rename_i hc;subst hp;obtain ⟨h5,h6⟩:=h4 p rfl;refine ⟨fun hne=>h5 (fun e=>hne (by rw [e]; simp)),fun j u hu=>?_⟩;have:(xs.take k).drop l = []:=List.eq_nil_of_length_eq_zero (by rw [hlen]; omega);rw [this] at hu;simp [Enc.row] at hu
  ·cases a with
   | none=>cases hp
   | some q =>
     simp only [Option.map_some,Option.some.injEq] at hp;obtain ⟨h5,h6⟩:=h4 q rfl
     by_cases hxe:xs = []
     ·subst hxe;exact ⟨fun h=>absurd (by simp) h,fun j u hu=>by simp [Enc.row] at hu⟩
     obtain ⟨qb,qo,qs⟩:=q;replace h5:=h5 hxe;simp only at h5;subst h5;rw [fO] at hp;subst hp;refine ⟨fun _=>rfl,fun j u hu=>?_⟩;have e:E.row ((xs.take k).drop l) = ((E.row xs).take (k * E.size)).drop (l * E.size):=by rw [E.mV,E.jy]
     rw [e,List.getElem?_drop,List.getElem?_take] at hu;split at hu
     ·have:=h6 _ u hu;simp only at this ⊢
      rwa [← Nat.add_assoc] at this
     ·cases hu
theorem Ev.slice {E:Enc α} {v:Value} {xs:List α} {e:TypeId} {lo hi:Operand} {l k:Int} (ht:P.underlying t = some (.slice e)) (T:ee P e E) (hx:Opd F g x v) (hlo:Opd F g lo (I l)) (hhi:Opd F g hi (I k))
 (h:∀ w,aP K L w→aO E w v xs) (hb:g = true→0 ≤ l ∧ l ≤ k ∧ k ≤ xs.length):Ev P K F L g (.slice t x (some lo) (some hi) none) ty (lD E.size v l.toNat k.toNat):=.of rfl (fun _ _ _ _ _ _ _ _ _=>.bind (.sliceAt _ _ _ _ _) fun _=>.pure _) fun hg a G w hw dst pos af gd=>by
 obtain ⟨b,cap,rfl,h1,_,_⟩:=h w hw;obtain ⟨h2,h3,h4⟩:=hb hg;have hu:(underlying t).run P w = .ok (.slice e) w:=by simp [underlying,ht]
 obtain ⟨l,rfl⟩:=Int.eq_ofNat_of_zero_le h2;obtain ⟨k,rfl⟩:=Int.eq_ofNat_of_zero_le (Int.le_trans h2 h3);have h5:k ≤ cap:=by omega
 have h6:l ≤ k:=by omega
 simp [execOp,Instr.sliceAt,hu,Instr.slice,Instr.sliceBounds,Instr.sliceBound,asIntOf,hx.eval hg G,hlo.eval hg G,hhi.eval hg G,I,h5,h6,run_sizeOf T,lD]
theorem Ev.qu {E:Enc α} {v:Value} {xs:List α} {e:TypeId} {hi:Operand} {k:Int} (ht:P.underlying t = some (.slice e)) (T:ee P e E) (hx:Opd F g x v) (hhi:Opd F g hi (I k))
 (h:∀ w,aP K L w→aO E w v xs) (hb:g = true→0 ≤ k ∧ k ≤ xs.length):Ev P K F L g (.slice t x none (some hi) none) ty (lD E.size v 0 k.toNat):=.of rfl (fun _ _ _ _ _ _ _ _ _=>.bind (.sliceAt _ _ _ _ _) fun _=>.pure _) fun hg a G w hw dst pos af gd=>by
 obtain ⟨b,cap,rfl,h1,_,_⟩:=h w hw;obtain ⟨h2,h3⟩:=hb hg;have hu:(underlying t).run P w = .ok (.slice e) w:=by simp [underlying,ht]
 have h5:0 ≤ k ∧ k ≤ (cap:Int):=by omega
 simp [execOp,Instr.sliceAt,hu,Instr.slice,Instr.sliceBounds,Instr.sliceBound,asIntOf,hx.eval hg G,hhi.eval hg G,I,h5,run_sizeOf T,lD]
theorem run_append {E:Enc α} {w:World} {v u:Value} {xs ys:List α} {T:TypeId} (ht:P.underlying t = some (.slice T)) (TT:ee P T E) (hsz:0 < E.size) {z:Value} {by':Nat}
 (hz:(P.info? T).map (fun i=>(i.zero,i.bytes)) = some (some z,by')) (hzs:z.cells.size = E.size)
 (hown:w.ownsRow 0 T E.size v xs.length (E.row xs)) (hsrc:aO E w u ys) (h63:xs.length + ys.length ≤ maxLen) (hby:(xs.length + ys.length) * by' ≤ 140737488355328) :
 ∃ v' w',(Builtin.append_ #[t,t] ty #[v,u]).run P w = .ok v' w' ∧ w'.ownsRow 0 T E.size v' (xs ++ ys).length (E.row (xs ++ ys)) ∧ w.grownBy w' v.ownBlock ∧ (v'.ownBlock = v.ownBlock ∨ v'.ownBlock = some w.heap.size):=by
 cases hi:P.info? T with
 | none=>rw [hi] at hz; cases hz
 | some i =>
   rw [hi] at hz;simp only [Option.map_some,Option.some.injEq,Prod.mk.injEq] at hz;obtain ⟨hz1,hz2⟩:=hz;obtain ⟨i',hi',hes⟩:=TT.sz;rw [hi] at hi';obtain rfl:=Option.some.inj hi';have hlen:(E.row (xs ++ ys)).length = (xs ++ ys).length * E.size:=E.bZ _;obtain ⟨a,c,rfl,h1,h2,h3,h4⟩:=hsrc;cases a with
   | none =>
     obtain ⟨rfl,rfl⟩:=h3 rfl;have hr:=run_append_owned_none (P:=P) (w:=w) 0 t ty T i E.size ht hi v xs.length (E.row xs) hown;refine ⟨v,w,hr,by simpa using hown,⟨rfl,rfl,rfl,Nat.le_refl _,fun _ _ _=>rfl⟩,.inl rfl⟩
   | some p =>
     obtain ⟨hps,hpc⟩:=h4 p rfl;have hnews:∀ j u,(E.row ys)[j]? = some u→w.cell? (p.add j) = some u:=fun j u hu=>by
      have hne:ys ≠ []:=fun e=>by rw [e] at hu; simp [Enc.row] at hu
      obtain ⟨pb,po,ps⟩:=p;have h:=hps hne;simp only at h;subst h;rw [fO];exact hpc j u hu
     have hyl:(E.row ys).length = ys.length * i.size:=by rw [E.bZ,hes]
     have hm:maxLen = 9223372036854775807:=rfl
     rcases hown.2 with ⟨rfl,hn0⟩ | ⟨gb,cap,cur,rfl,hbg,hg,hnc,hcm,hcs,htake⟩
     ·have hx:xs = []:=List.eq_nil_of_length_eq_zero hn0;subst hx
      by_cases hy0:ys = []
      ·subst hy0;refine ⟨.slice none 0 0,w,?_,by simpa [Enc.row] using World.ownsRow_nil w 0 T E.size,⟨rfl,rfl,rfl,Nat.le_refl _,fun _ _ _=>rfl⟩,.inl rfl⟩;simp [Builtin.append_,run_underlying ht,sizeOf,typeInfo,hi,Builtin.lenOf,Builtin.firstCells,loadCells,loadCellsFrom]
      ·have hpos:0 < ys.length:=List.length_pos_iff.2 hy0;have hr:=run_append_nil (P:=P) w t ty T i z ht hi hz1 p ys.length c (E.row ys) hyl hnews hpos (by simp at h63; omega) (by simp only [List.length_nil,Nat.zero_add] at hby; rw [hz2]; omega);have hge:=grownCap_ge w ys.length 0 T;have hcm:=grownCap_le_maxLen w ys.length 0 T (by simpa using h63);refine ⟨_,_,hr,⟨hlen,.inr ⟨w.heap.size,_,_,rfl,Nat.zero_le _,heap_alloc_new w.drew _,?_,hcm,?_,?_⟩⟩,⟨rfl,rfl,rfl,by simp,fun k hk _=>heap_alloc_old w.drew _ k hk⟩,.inr rfl⟩
       ·simpa using hge
       ·simp only [Array.size_append,List.size_toArray,E.bZ,size_zeroCells,hzs,← Nat.add_mul]
        congr 1
        omega
       ·simp only [Array.toList_append,List.nil_append];rw [List.take_append_of_le_length (by rw [E.bZ]; exact Nat.le_refl _),List.take_of_length_le (by rw [E.bZ]; exact Nat.le_refl _)]
     ·by_cases hroom:xs.length + ys.length ≤ cap
      ·have hfit:xs.length * i.size + (E.row ys).length ≤ cur.size:=by rw [hyl,hcs,← hes,← Nat.add_mul]; exact Nat.mul_le_mul_right _ hroom
       have hr:=run_append_room (P:=P) w t ty T i ht hi gb xs.length cap cur hg p ys.length c (E.row ys) hyl hnews (E.lg ys) hroom hfit;rw [hes] at hr hfit;refine ⟨_,_,hr,⟨hlen,.inr ⟨gb,cap,_,by rw [List.length_append],Nat.zero_le _,setRow_heap w gb cur _ T _ hg,by simpa using hroom,hcm,?_,?_⟩⟩,⟨rfl,rfl,rfl,by simp,fun k _ hk=>setRow_other w gb k _ (fun e=>hk (by simp [Value.ownBlock,e]))⟩,.inl rfl⟩
       ·simp only [List.size_toArray,List.length_append,List.length_take,List.length_drop,Array.length_toList];omega
       ·rw [htake,← hlen,E.ja];exact List.take_left
      ·have holds:∀ j u,(E.row xs)[j]? = some u→w.cell? ((⟨gb,0,none⟩:Addr).add j) = some u:=hown.cells (g:=gb) rfl;have hr:=run_append_grow (P:=P) w t ty T i z ht hi hz1 ⟨gb,0,none⟩ xs.length cap (E.row xs) (by rw [hown.1,hes]) holds p ys.length c (E.row ys) hyl hnews (by omega) (by omega) (by rw [hz2]; exact growslice_fits (by omega) hby);have hge:=grownCap_ge w (xs.length + ys.length) cap T;have hcm':=grownCap_le_maxLen w (xs.length + ys.length) cap T h63;refine ⟨_,_,hr,⟨hlen,.inr ⟨w.heap.size,_,_,by rw [List.length_append],Nat.zero_le _,heap_alloc_new w.drew _,by simpa using hge,hcm',?_,?_⟩⟩,⟨rfl,rfl,rfl,by simp,fun k hk _=>heap_alloc_old w.drew _ k hk⟩,.inr rfl⟩
       ·simp only [Array.size_append,List.size_toArray,E.bZ,size_zeroCells,hzs,← Nat.add_mul]
        congr 1
        omega
       ·simp only [Array.toList_append,List.append_assoc,E.ja];rw [← List.append_assoc,List.take_append_of_le_length (by simp only [List.length_append,E.bZ]; rw [← Nat.add_mul]; exact Nat.le_refl _),List.take_of_length_le (by simp only [List.length_append,E.bZ]; rw [← Nat.add_mul]; exact Nat.le_refl _)]
theorem wP {w:World} {T:TypeId} {size n:Nat} {v:Value} {xs:List Value} (h:w.ownsRow 0 T size v n xs):v.oneCell' = true:=by
 rcases h.2 with ⟨rfl,_⟩ | ⟨g,cap,cur,rfl,_⟩ <;> rfl
theorem aO.one {E:Enc α} {w:World} {v:Value} {xs:List α} (h:aO E w v xs):v.oneCell' = true:=by
 obtain ⟨a,cap,rfl,_⟩:=h
 rfl
theorem append {E:Enc α} {v u:Value} {xs ys:List α} {T:TypeId} {L':Value→List Res} {z:Value} {by':Nat} (ht:P.underlying t = some (.slice T)) (TT:ee P T E) (hsz:Nat.blt 0 E.size = true)
 (hz:(P.info? T).map (fun i=>(i.zero,i.bytes)) = some (some z,by')) (hzs:z.cells.size = E.size)
 (hx:Opd F true x v) (hy:Opd F true y u) (hu:∀ v',Upd L (aT v E xs T) (aT v' E (xs ++ ys) T) (L' v')) (hsrc:∀ w,aP K L w→aO E w u ys) (hby:xs.length + ys.length ≤ maxLen ∧ (xs.length + ys.length) * by' ≤ 140737488355328)
 (next:∀ o:OV,Sat K N ((d,true,o.v) :: F) (L' o.v)) (hd:Nat.blt d K.n = true:=by rfl) :
 Sat K (bH P K ops Q ⟨some d,.call { callee:=.builtin .append,args:=#[x,y],argTypes:=#[t,t] },ty,pos,af,none⟩ N) F L:=fun a w G=>by
 refine bF rfl rfl fun hn=>?_
 have hown:=(G.inv.own _ (hu undef).mem).1;obtain ⟨v',w',hr,h1,h2,h3⟩:=run_append (P:=P) (ty:=ty) ht TT (by simpa [Nat.blt_eq] using hsz) hz hzs hown (hsrc w G.inv) hby.1 hby.2;have he:(execOp a.eval ⟨some d,.call { callee:=.builtin .append,args:=#[x,y],argTypes:=#[t,t] },ty,pos,af,none⟩).run P w = .ok (.value v') w':=by
  simp [execOp,resolve,invoke,builtin,hx.eval rfl G.fo,hy.eval rfl G.fo,hr]
 have hmem:=(hu undef).mem;refine nc he ?_ hn ?_
 ·have e:execOp a.eval ⟨some d,.call { callee:=.builtin .append,args:=#[x,y],argTypes:=#[t,t] },ty,pos,af,none⟩ = (Builtin.append_ #[t,t] ty #[v,u] >>= fun r=>pure (Next.value r)):=by
   simp [execOp,resolve,invoke,builtin,hx.eval rfl G.fo,hy.eval rfl G.fo]
  rw [e];exact .bind (.append ht fun b hb=>⟨((G.inv.own _ hmem).2 b hb).1,G.inv.fr hmem b hb⟩) fun _=>.pure _
 refine next ⟨v',wP h1⟩ _ _ (G.put d true _ _ (by simpa [Nat.blt_eq] using hd) rfl (G.inv.upd (hu v') ((aJ.of_grown h2).mono (fun i hi=>hi)) h1 ?_));intro b hb;have hlt:=(h1.lt b hb).2;refine ⟨?_,hlt⟩;have hb':v'.ownBlock = some b:=hb
 rcases h3 with h3 | h3
 ·exact .inl (h3.symm.trans hb')
 ·rw [h3] at hb';exact .inr (Nat.le_of_eq (Option.some.inj hb'))
theorem dD {X:Act→World→Prop} (E:Enc α) (T:TypeId) (h:Sat K X F (aT (.slice none 0 0) E [] T :: L)):Sat K X F L:=fun a w G =>
 h a w (G.world (G.inv.add (aJ.refl _ _) (by simpa [Enc.row,aT] using World.ownsRow_nil w 0 T E.size) (fun b hb=>by cases hb)))
theorem Ev.sliceL {E:Enc α} {v:Value} {xs:List α} {e:TypeId} {lo:Operand} {l:Int} (ht:P.underlying t = some (.slice e)) (T:ee P e E) (hx:Opd F g x v) (hlo:Opd F g lo (I l))
 (h:∀ w,aP K L w→aO E w v xs) (hb:g = true→0 ≤ l ∧ l ≤ xs.length):Ev P K F L g (.slice t x (some lo) none none) ty (lD E.size v l.toNat xs.length):=.of rfl (fun _ _ _ _ _ _ _ _ _=>.bind (.sliceAt _ _ _ _ _) fun _=>.pure _) fun hg a G w hw dst pos af gd=>by
 obtain ⟨b,cap,rfl,h1,_,_⟩:=h w hw;obtain ⟨h2,h3⟩:=hb hg;have hu:(underlying t).run P w = .ok (.slice e) w:=by simp [underlying,ht]
 have h6:0 ≤ l ∧ l ≤ (xs.length:Int):=by omega
 simp [execOp,Instr.sliceAt,hu,Instr.slice,Instr.sliceBounds,Instr.sliceBound,asIntOf,hx.eval hg G,hlo.eval hg G,I,h6,run_sizeOf T,lD]
end
end Go.Gx
