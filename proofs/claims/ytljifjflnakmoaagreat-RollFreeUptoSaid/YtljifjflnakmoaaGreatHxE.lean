/- Part E: results; more operations: slices and arrays in place, literals of slices, copies. -/
import Derived.Test.YtljifjflnakmoaaGreatHxD
set_option linter.unusedVariables false
set_option linter.unusedSimpArgs false
namespace Go.Gx
open Go Go.RowKit
section
variable {α β γ:Type} {P:Program}
variable {K:Ctx} {F:Fr} {L:List Res} {g:Bool} {Q:Exit→Act→World→Prop} {N:Act→World→Prop} {ops:Array Oper}
 {op:Op} {ty t t':TypeId} {pos:String} {af:Array Edge} {d:Nat} {x y:Operand}
def mE (w:World) (E:Enc α) (xs:List α) (T:TypeId):cX:=Ret w fun v w'=>True ∧ News w w' [aT v E xs T]
theorem retV {n:Nat} {e0:En} {w0:World} {L:List Res} {v:Value}:∀ w,aP ⟨n,w0,dI,e0⟩ L w→bG w0 v (.returned v) w:=fun _ h=>⟨rfl,h.keeps⟩
theorem gD {n:Nat} {e0:En} {w0:World} {L:List Res} {v u:Value} (h:v = u):∀ w,aP ⟨n,w0,dI,e0⟩ L w→bG w0 u (.returned v) w:=h ▸ retV
theorem bX2 {b c:Bool} (h:b = c):jY [.bool b] = .bool c:=by rw [h]; rfl
theorem news_one {n:Nat} {e0:En} {w0 w:World} {L:List Res} {r:Res} (hm:r ∈ L) (h:aP ⟨n,w0,dI,e0⟩ L w):News w0 w [r]:=by
 refine ⟨fun s hs=>?_,List.pairwise_singleton _ _⟩;rw [List.mem_singleton] at hs;subst hs;obtain ⟨h1,h2⟩:=h.own _ hm;refine ⟨h1,fun b hb=>⟨?_,(h2 b hb).2⟩⟩
 rcases (h2 b hb).1 with h3 | h3
 ·exact h3
 ·exact h3.elim
theorem retO {n:Nat} {e0:En} {w0:World} {L:List Res} {v:Value} {E:Enc α} {xs:List α} {T:TypeId} (hm:aT v E xs T ∈ L):∀ w,aP ⟨n,w0,dI,e0⟩ L w→mE w0 E xs T (.returned v) w :=
 fun _ h=>⟨v,rfl,h.keeps,trivial,news_one hm h⟩
theorem oB {n:Nat} {e0:En} {w0:World} {L:List Res} {v:Value} {E:Enc α} {xs ys:List α} {T:TypeId} (hm:aT v E xs T ∈ L) (h:xs = ys):∀ w,aP ⟨n,w0,dI,e0⟩ L w→mE w0 E ys T (.returned v) w:=h ▸ retO hm
theorem dA {id:Nat} {l:List Oper} (hm:P.follows .mixedOrders = true)
 (h:Sat K (gq P K l.toArray Q L l.toArray.size (Array.replicate l.toArray.size false)) F L):Sat K ((Code.region id l.toArray true).wpK P K Q) F L:=draw L hm h
def Rem (L:List Res) (r:Res) (Lq:List Res):Prop:=∃ A C,L = A ++ r :: C ∧ Lq = A ++ C
theorem Rem.head {r:Res} {L:List Res}:Rem (r :: L) r L:=⟨[],L,rfl,rfl⟩
theorem Rem.tail {x r:Res} {L L':List Res} (h:Rem L r L'):Rem (x :: L) r (x :: L'):=by
 obtain ⟨A,C,rfl,rfl⟩:=h;exact ⟨x :: A,C,rfl,rfl⟩
theorem drawR {id:Nat} {l:List Oper} {r:Res} {Lq:List Res} (_hr:Rem L r Lq) (hm:P.follows .mixedOrders = true)
 (h:Sat K (gq P K l.toArray Q Lq l.toArray.size (Array.replicate l.toArray.size false)) F L):Sat K ((Code.region id l.toArray true).wpK P K Q) F L:=draw Lq hm h
theorem lO {id:Nat} {l:List Oper} {Lq:List Res} {b o:Nat} {E:Enc α} {xv:α} {T:TypeId} (s:Nat) (_hx:look F s = some (true,.pointer (some ⟨b,o,none⟩))) (hr:Rem L (Var b E xv T) Lq) (hm:P.follows .mixedOrders = true)
 (h:Sat K (gq P K l.toArray Q Lq l.toArray.size (Array.replicate l.toArray.size false)) F L):Sat K ((Code.region id l.toArray true).wpK P K Q) F L:=drawR hr hm h
theorem dY {f:FuncId} {args:List Operand} {ats:Array TypeId} {vs:List Value} {E:Enc α} {xs:List α} {T:TypeId} (hen:cv P f) (hargs:fq F true args vs)
 (hC:∀ w,aP K L w→Calls P f vs.toArray w (mE w E xs T)) (next:∀ o:OV,Sat K N ((d,true,o.v) :: F) (aT o.v E xs T :: L)) (hd:Nat.blt d K.n = true:=by rfl) :
 Sat K (bH P K ops Q ⟨some d,.call { callee:=.value (.func f),args:=args.toArray,argTypes:=ats },ty,pos,af,none⟩ N) F L :=
 callf (fun v=>v.oneCell' = true) (fun v=>[aT v E xs T]) hen hargs (fun w hw=>(hC w hw).mono (fun _ h=>h) fun e w' ⟨v,he,hk,_,hn⟩=>⟨v,he,hk,wP (hn.1 _ List.mem_cons_self).1,hn⟩) (fun v h=>next ⟨v,h⟩) hd
theorem bG.below {w w':World} {v:Value} {e:Ending} (h:bG w v e w'):e = .returned v ∧ Below w.heap.size w w':=⟨h.1,h.2.below⟩
def IsSS (E:Enc α) (w:World) (v:Value) (xss:List (List α)):Prop :=
 ∃ vs:List OV,aO (ovE ai) w v vs ∧ vs.length = xss.length ∧ ∀ i,i < xss.length→aO E w (vs.getD i ai).v (xss.getD i [])
def Els (E:Enc α) (w:World):List OV→List (List α)→Prop
 | [],xss=>xss = []
 | o :: vs,xss=>∃ xs yss,xss = xs :: yss ∧ aO E w o.v xs ∧ Els E w vs yss
theorem Els.nil {E:Enc α} {w:World}:Els E w [] []:=rfl
theorem Els.cons {E:Enc α} {w:World} {o:OV} {vs:List OV} {xs:List α} {xss:List (List α)} (h:aO E w o.v xs) (hs:Els E w vs xss):Els E w (o :: vs) (xs :: xss):=⟨xs,xss,rfl,h,hs⟩
theorem Els.spec {E:Enc α} {w:World}:∀ {vs:List OV} {xss:List (List α)},Els E w vs xss→vs.length = xss.length ∧ ∀ i,i < xss.length→aO E w (vs.getD i ai).v (xss.getD i [])
 | [],_,h=>by rw [show _ = [] from h]; exact ⟨rfl,fun i hi=>absurd hi (Nat.not_lt_zero _)⟩
 | o :: vs,_,⟨xs,yss,rfl,h,hs⟩=>by
   obtain ⟨h1,h2⟩:=Els.spec hs;refine ⟨by simp [h1],fun i hi=>?_⟩;cases i with
   | zero=>exact h
   | succ i=>exact h2 i (by simpa using hi)
theorem IsSS.mk' {E:Enc α} {w:World} {v:Value} {vs:List OV} {xss:List (List α)} (h:aO (ovE ai) w v vs) (he:Els E w vs xss):IsSS E w v xss:=⟨vs,h,he.spec.1,he.spec.2⟩
theorem Ev.de {b off n:Nat} {e:TypeId} {E:Enc α} {i:Int} (ht:P.underlying t = some (.array n e)) (T:ee P e E) (hx:Opd F g x (.pointer (some ⟨b,off,none⟩))) (hy:Opd F g y (I i)) (hi:g = true→0 ≤ i ∧ i < n) :
 Ev P K F L g (.indexAddr t x y) ty (.pointer (some ⟨b,off + i.toNat * E.size,none⟩)):=.of rfl (fun _ _ _ _ _ _ _ _ _=>.bind (.indexAt _ _ _) fun _=>.pure _) fun hg a G w hw dst pos af gd=>by
 have hi':=hi hg;have hu:(underlying t).run P w = .ok (.array n e) w:=by simp [underlying,ht]
 simp [execOp,Instr.indexAt,Instr.sureAddr,asIntOf,hx.eval hg G,hy.eval hg G,I,hu,hi',run_sizeOf T,fO]
theorem Ev.fieldS {E:Enc α} {E':Enc β} {f o:Nat} {xv:α} {e:TypeId} (ha:E.agg = true) (hf:(P.underlying t).bind (fun d=>match d with | .struct fs=>(fs[f]?).map (fun fd=>(fd.offset,fd.type)) | _=>none) = some (o,e)) (T:ee P e E') (l:ah E E' o)
 (hx:Opd F g x (E.val xv)):Ev P K F L g (.field t x f) ty (E'.val (l.get xv)):=.of rfl (fun _ a _ _ _ _ _ _ _=>by
 show Tm P _ _ (Instr.field t (a.eval x) f >>= fun r=>pure (Next.value r));refine .bind ?_ fun _=>.pure _
 unfold Instr.field;refine .bind (.underlying _) fun d=>?_
 split
 ·split
  ·exact .bind (.asAgg _) fun _=>.part _ _ _
  ·exact .stuck _
 ·exact .stuck _) fun hg a G w hw dst pos af gd=>by
 cases hu:P.underlying t with
 | none=>rw [hu] at hf; cases hf
 | some dsc =>
   rw [hu] at hf;cases dsc <;> simp only [Option.bind_some,reduceCtorEq] at hf
   rename_i fs;cases hfd:fs[f]? with
   | none=>rw [hfd] at hf; cases hf
   | some fd =>
     rw [hfd] at hf;simp only [Option.map_some,Option.some.injEq,Prod.mk.injEq] at hf;obtain ⟨h1,h2⟩:=hf;subst h1; subst h2;have hru:(underlying t).run P w = .ok (.struct fs) w:=by simp [underlying,hu]
     have hval:E.val xv = .agg (E.cells xv).toArray:=by unfold Enc.val; rw [ha]; rfl
     simp only [execOp,Instr.field,asAgg,hx.eval hg G,hval,Sem.run_bind,Sem.run_pure,Result.andThen_ok,hru,hfd,gV T l]
theorem Ev.iz {b off n:Nat} {e:TypeId} {E:Enc α} {lo hi:Option Operand} {l h:Nat} (ht:P.underlying t = some (.array n e)) (T:ee P e E) (hx:Opd F g x (.pointer (some ⟨b,off,none⟩)))
 (hlo:match lo with | none=>l = 0 | some z=>Opd F g z (I l)) (hhi:match hi with | none=>h = n | some z=>Opd F g z (I h)) (hb:g = true→l ≤ h ∧ h ≤ n) :
 Ev P K F L g (.slice t x lo hi none) ty (.slice (some ⟨b,if n = l then off else off + l * E.size,none⟩) (h - l) (n - l)):=.of rfl (fun _ _ _ _ _ _ _ _ _=>.bind (.sliceAt _ _ _ _ _) fun _=>.pure _) fun hg a G w hw dst pos af gd=>by
 obtain ⟨h1,h2⟩:=hb hg;have hu:(underlying t).run P w = .ok (.array n e) w:=by simp [underlying,ht]
 have e1:(if n = l then (⟨b,off,none⟩:Addr) else (⟨b,off,none⟩:Addr).add (l * E.size)) = ⟨b,if n = l then off else off + l * E.size,none⟩:=by
  split <;> simp [fO]
 cases lo with
 | none =>
   have hl:l = 0:=hlo;subst hl;cases hi with
   | none =>
     have hh:h = n:=hhi;subst hh;simp only [execOp,Instr.sliceAt,hu,Instr.sliceBounds,Instr.sureAddr,hx.eval hg G,Option.map_none,Sem.run_bind,Sem.run_pure,Result.andThen_ok,run_sizeOf T,e1]
   | some z =>
     have hz:Opd F g z (I h):=hhi;have hh:0 ≤ (h:Int) ∧ (h:Int) ≤ (n:Int):=by omega
     simp only [execOp,Instr.sliceAt,hu,Instr.sliceBounds,Instr.sliceBound,asIntOf,Instr.sureAddr,hx.eval hg G,hz.eval hg G,I,Option.map_none,Option.map_some,Sem.run_bind,Sem.run_pure,Result.andThen_ok,run_sizeOf T,if_pos hh,e1,Int.toNat_natCast]
 | some z' =>
   have hz':Opd F g z' (I l):=hlo;have hl:0 ≤ (l:Int) ∧ (l:Int) ≤ (h:Int):=by omega
   cases hi with
   | none =>
     have hh:h = n:=hhi;subst hh;simp only [execOp,Instr.sliceAt,hu,Instr.sliceBounds,Instr.sliceBound,asIntOf,Instr.sureAddr,hx.eval hg G,hz'.eval hg G,I,Option.map_none,Option.map_some,Option.isSome_none,Bool.false_eq_true,if_false,Sem.run_bind,Sem.run_pure,Result.andThen_ok,run_sizeOf T,if_pos hl,e1,Int.toNat_natCast]
   | some z =>
     have hz:Opd F g z (I h):=hhi;have hh:0 ≤ (h:Int) ∧ (h:Int) ≤ (n:Int):=by omega
     simp only [execOp,Instr.sliceAt,hu,Instr.sliceBounds,Instr.sliceBound,asIntOf,Instr.sureAddr,hx.eval hg G,hz.eval hg G,hz'.eval hg G,I,Option.map_none,Option.map_some,Option.isSome_none,Bool.false_eq_true,if_false,Sem.run_bind,Sem.run_pure,Result.andThen_ok,run_sizeOf T,if_pos hh,if_pos hl,e1,Int.toNat_natCast]
theorem lK {w:World} {b off n:Nat} {E:Enc α} {xs:Vector α n} (h:cq (fN n E) w b off xs) (hn:n ≤ maxLen) {l k:Nat} (hl:l ≤ k) (hk:k ≤ n) :
 aO E w (.slice (some ⟨b,if n = l then off else off + l * E.size,none⟩) (k - l) (n - l)) ((xs.toList.take k).drop l):=by
 have hx:xs.toList.length = n:=Vector.length_toList;have hlen:((xs.toList.take k).drop l).length = k - l:=by simp; omega
 refine ⟨_,n - l,by rw [hlen],by rw [hlen]; omega,by omega,(fun h=>absurd h (by simp)),fun p hp=>?_⟩;cases hp;refine ⟨fun _=>rfl,fun j u hu=>?_⟩
 by_cases hnl:n = l
 ·have:(xs.toList.take k).drop l = []:=List.eq_nil_of_length_eq_zero (by rw [hlen]; omega);rw [this] at hu;simp [Enc.row] at hu
 ·rw [if_neg hnl];have e:E.row ((xs.toList.take k).drop l) = ((E.row xs.toList).take (k * E.size)).drop (l * E.size):=by rw [E.mV,E.jy]
  rw [e,List.getElem?_drop,List.getElem?_take] at hu;split at hu
  ·have:=h (l * E.size + j) u hu
   rwa [← Nat.add_assoc] at this
  ·cases hu
def lz (F:Fr) (E:Enc α):Nat→List (Nat × Operand)→List α→Prop
 | _,[],xs=>xs = []
 | i,(j,x) :: ps,xs=>∃ v us,xs = v :: us ∧ j = i ∧ Opd F true x (E.val v) ∧ lz F E (i + 1) ps us
theorem lz.nil {E:Enc α} {i:Nat}:lz F E i [] []:=rfl
theorem lz.cons {E:Enc α} {i:Nat} {v:α} {ps:List (Nat × Operand)} {us:List α} (h:Opd F true x (E.val v)) (hs:lz F E (i + 1) ps us):lz F E i ((i,x) :: ps) (v :: us):=⟨v,us,rfl,rfl,h,hs⟩
theorem lz.fill {E:Enc α}:∀ {ps:List (Nat × Operand)} {i:Nat} {xs:List α},lz F E i ps xs→∀ {a:Act},gB K F a→∀ (cur:Array Value),(i + xs.length) * E.size ≤ cur.size →
 ∃ cur',Instr.fill (fun i=>some (i * E.size,E.size)) cur (ps.map (fun p=>(p.1,a.eval p.2))) = some cur' ∧ cur'.toList = cur.toList.take (i * E.size) ++ E.row xs ++ cur.toList.drop ((i + xs.length) * E.size)
 | [],i,xs,h,a,G,cur,hc=>by
   rw [show xs = [] from h];exact ⟨cur,rfl,by simp [Enc.row]⟩
 | (j,x) :: ps,i,xs,h,a,G,cur,hc=>by
   obtain ⟨v,us,rfl,rfl,hx,hs⟩:=h;have hv:=hx.eval rfl G;have hsz:(E.val v).cells.size = E.size:=by simp [E.eQ,E.len]
   simp only [List.length_cons] at hc;have hc1:j * E.size + E.size ≤ cur.size:=by
    have h1:(j + 1) * E.size ≤ (j + (us.length + 1)) * E.size:=Nat.mul_le_mul_right _ (by omega);rw [Nat.add_mul,Nat.one_mul] at h1;omega
   have h2:¬ ((E.val v).cells.size ≠ E.size || decide (j * E.size + (E.val v).cells.size > cur.size)) = true:=by
    rw [hsz]; simp; omega
   have hfold:(((E.val v).cells.zipIdx.foldl (fun cs (c:Value × Nat)=>cs.setIfInBounds (j * E.size + c.2) c.1) cur)).toList = cur.toList.take (j * E.size) ++ E.cells v ++ cur.toList.drop (j * E.size + E.size):=by
    rw [E.eQ,← Array.foldl_toList];have e:((E.cells v).toArray.zipIdx).toList = (E.cells v).zipIdx:=by simp
    rw [e,foldl_set _ (j * E.size) 0 _ (by simp [E.len]; omega)];simp [E.len]
   generalize hcur2:((E.val v).cells.zipIdx.foldl (fun cs (c:Value × Nat)=>cs.setIfInBounds (j * E.size + c.2) c.1) cur) = cur2 at hfold
   have hsz2:cur2.size = cur.size:=by
    have:=congrArg List.length hfold;simp [E.len] at this;omega
   have e0:(j + 1 + us.length) * E.size = (j + (us.length + 1)) * E.size:=by congr 1; omega
   obtain ⟨cur',hf,hl⟩:=lz.fill hs G cur2 (by rw [hsz2,e0]; exact hc);refine ⟨cur',?_,?_⟩
   ·simp only [List.map_cons,Instr.fill,hv];rw [if_neg (by simpa using h2),hcur2];exact hf
   ·rw [hl,hfold];have hlen:(cur.toList.take (j * E.size)).length = j * E.size:=by rw [List.length_take,Array.length_toList]; omega
    have hb:(cur.toList.take (j * E.size) ++ E.cells v).length = (j + 1) * E.size:=by rw [List.length_append,hlen,E.len,Nat.add_mul,Nat.one_mul]
    have hrow:E.row (v :: us) = E.cells v ++ E.row us:=by simp [Enc.row]
    rw [← hb,List.take_left];have e1:(j + 1 + us.length) * E.size = (cur.toList.take (j * E.size) ++ E.cells v).length + us.length * E.size:=by rw [hb,← Nat.add_mul]
    rw [e1,List.drop_length_add_append,List.drop_drop,hrow];have e2:j * E.size + E.size + us.length * E.size = (j + (v :: us).length) * E.size:=by
     simp only [List.length_cons,Nat.add_mul,Nat.one_mul]; omega
    rw [e2];simp
theorem Tm.buildSlice {pm:Nat→Prop} {fr:Nat} (t:TypeId) (n:Nat) (ps:Array (Nat × Value)):Tm P pm fr (Instr.buildSlice t n ps):=by
 unfold Instr.buildSlice
 repeat' with_reducible first
  | exact .pure _
  | exact .stuck _
  | exact .fc _
  | refine .bind (.underlying _) fun _=>?_
  | refine .bind (.sizeOf _) fun _=>?_
  | refine .bind (.zeroValue _) fun _=>?_
  | refine .bind (.newRow _ _) fun _=>?_
  | refine .bind (.pure _) fun _=>?_
  | refine .bind (.fc _) fun _=>?_
  | split
  | dsimp only
theorem buildSlice {E:Enc α} {e:TypeId} {n:Nat} {ps:List (Nat × Operand)} {xs:List α} {z:Value} (ht:P.underlying t = some (.slice e)) (T:ee P e E) (hz:(P.info? e).bind (·.zero) = some z) (hv:lz F E 0 ps xs) (hn:xs.length = n) (hb:(Nat.ble (n * E.size) 16777216 && Nat.ble n 16777216) = true)
 (next:∀ o:OV,Sat K N ((d,true,o.v) :: F) (aT o.v E xs e :: L)) (hd:Nat.blt d K.n = true:=by rfl) :
 Sat K (bH P K ops Q ⟨some d,.buildSlice t n ps.toArray,ty,pos,af,none⟩ N) F L:=fun a w G=>by
 refine bF rfl rfl fun hnv=>?_
 subst hn;have hb1:=Bool.and_eq_true_iff.1 hb;have hb':¬ xs.length * E.size > 2 ^ 24:=by have:=Nat.le_of_ble_eq_true hb1.1; omega
 cases hi:P.info? e with
 | none=>rw [hi] at hz; cases hz
 | some i =>
   rw [hi] at hz;simp only [Option.bind_some] at hz;have hru:(underlying t).run P w = .ok (.slice e) w:=by simp [underlying,ht]
   have hzr:(zeroValue e).run P w = .ok z w:=by simp [zeroValue,typeInfo,hi,hz]
   have hzz:∀ zz:Array Value,∃ cur',Instr.fill (fun i=>some (i * E.size,E.size)) ((Array.range (xs.length * E.size)).map (zz[· % zz.size]!)) (ps.map (fun p=>(p.1,a.eval p.2))) = some cur' ∧ cur'.toList = E.row xs:=by
    intro zz;obtain ⟨cur',h1,h2⟩:=hv.fill G.fo ((Array.range (xs.length * E.size)).map (zz[· % zz.size]!)) (by simp);refine ⟨cur',h1,?_⟩;rw [h2];simp
   have hr:∃ cur':Array Value,cur'.toList = E.row xs ∧ (execOp a.eval ⟨some d,.buildSlice t xs.length ps.toArray,ty,pos,af,none⟩).run P w = .ok (.value (.slice (some ⟨w.heap.size,0,none⟩) xs.length xs.length)) { w with heap:=w.heap.push (.cells cur' e) }:=by
    by_cases h0:xs.length * E.size = 0
    ·obtain ⟨cur',h1,h2⟩:=hzz #[];refine ⟨cur',h2,?_⟩;simp only [execOp,Instr.buildSlice,Sem.run_bind,hru,Result.andThen_ok,run_sizeOf T,if_neg hb',Sem.run_pure,if_pos h0,List.map_toArray,h1,newRow,run_newObj]
    ·obtain ⟨cur',h1,h2⟩:=hzz z.cells;refine ⟨cur',h2,?_⟩;simp only [execOp,Instr.buildSlice,Sem.run_bind,hru,Result.andThen_ok,run_sizeOf T,if_neg hb',Sem.run_pure,if_neg h0,hzr,List.map_toArray,h1,newRow,run_newObj]
   obtain ⟨cur',hcur,hr⟩:=hr;refine nc hr (.bind (.buildSlice _ _ _) fun _=>.pure _) hnv ?_;have hsz:cur'.size = xs.length * E.size:=by rw [← Array.length_toList,hcur,E.bZ]
   have hm:xs.length ≤ maxLen:=by
    have:=Nat.le_of_ble_eq_true hb1.2;have:maxLen = 9223372036854775807:=rfl;omega
   refine next ⟨_,rfl⟩ _ _ (G.put d true _ _ (by simpa [Nat.blt_eq] using hd) rfl (G.inv.add (aJ.alloc _ _ _) ?_ ?_))
   ·refine ⟨E.bZ xs,.inr ⟨w.heap.size,xs.length,cur',rfl,Nat.zero_le _,?_,Nat.le_refl _,hm,hsz,?_⟩⟩
    ·show (w.heap.push _)[w.heap.size]? = _;simp
    ·rw [hcur,List.take_of_length_le (by rw [E.bZ]; exact Nat.le_refl _)]
   ·intro b hb;have:b = w.heap.size:=by have hb':some w.heap.size = some b:=hb; exact (Option.some.inj hb').symm
    subst this;exact ⟨Nat.le_refl _,by simp⟩
theorem Ev.indexA {n:Nat} {e:TypeId} {E:Enc α} {i:Int} {xs:Vector α n} (ht:P.underlying t = some (.array n e)) (T:ee P e E) (hx:Opd F g x ((fN n E).val xs)) (hy:Opd F g y (I i)) (hi:g = true→0 ≤ i ∧ i < n) :
 Ev P K F L g (.index t x y) ty (E.val (xs.toList.getD i.toNat E.zero)):=.of rfl (fun _ _ _ _ _ _ _ _ _=>.bind (by
 unfold Instr.index
 repeat' with_reducible first
  | exact .pure _
  | exact .stuck _
  | exact .fc _
  | exact .boundsPanic _ _ _ _
  | exact .part _ _ _
  | refine .bind (.underlying _) fun _=>?_
  | refine .bind (.asIntOf _) fun _=>?_
  | refine .bind (.sizeOf _) fun _=>?_
  | refine .bind (.asAgg _) fun _=>?_
  | refine .bind (.asString _) fun _=>?_
  | refine .bind (.boundsPanic _ _ _ _) fun _=>?_
  | split
  | dsimp only) fun _=>.pure _) fun hg a G w hw dst pos af gd=>by
 obtain ⟨h1,h2⟩:=hi hg;have hu:(underlying t).run P w = .ok (.array n e) w:=by simp [underlying,ht]
 have hlt:i.toNat < n:=by omega
 have hp:=gV (P:=P) (o:=i.toNat * E.size) T (jd E i.toNat hlt) xs w;have hval:(fN n E).val xs = .agg ((fN n E).cells xs).toArray:=rfl;have oU:(jd E i.toNat hlt).get xs = xs.toList.getD i.toNat E.zero:=by
  show xs[i.toNat] = _;simp [List.getD,hlt]
 rw [oU] at hp;simp only [execOp,Instr.index,asIntOf,hx.eval hg G,hy.eval hg G,I,hval,Sem.run_bind,Sem.run_pure,Result.andThen_ok,hu,h1,h2,and_self,if_true,run_sizeOf T,hp]
end
end Go.Gx
