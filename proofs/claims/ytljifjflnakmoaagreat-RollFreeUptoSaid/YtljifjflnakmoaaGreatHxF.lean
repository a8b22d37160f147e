/- Part F: make, copy, comparing bytes, small things. -/
import Derived.Lib.Bytealg
import Derived.Laws.Externs
import Derived.Test.YtljifjflnakmoaaGreatHxE
set_option linter.unusedVariables false
set_option linter.unusedSimpArgs false
namespace Go.Gx
open Go Go.RowKit
section
variable {α β γ:Type} {P:Program}
variable {K:Ctx} {F:Fr} {L:List Res} {g:Bool} {Q:Exit→Act→World→Prop} {N:Act→World→Prop} {ops:Array Oper}
 {op:Op} {ty t t':TypeId} {pos:String} {af:Array Edge} {d:Nat} {x y:Operand}
theorem rq (E:Enc α) (x:α) (c:Nat) (hsz:0 < E.size):(madeCells (E.val x).cells (c * E.size)).toList = E.row (List.replicate c x):=by
 apply List.ext_getElem?;intro k;have hz:(E.val x).cells.size = E.size:=by simp [E.eQ,E.len]
 by_cases hk:k < c * E.size
 ·have h1:k / E.size < c:=Nat.div_lt_of_lt_mul (by rwa [Nat.mul_comm] at hk);have h2:k % E.size < E.size:=Nat.mod_lt _ hsz;have h3:k = k / E.size * E.size + k % E.size:=by rw [Nat.mul_comm]; exact (Nat.div_add_mod k E.size).symm
  have h4:=E.wJ (List.replicate c x) (k / E.size) (k % E.size) x (by simpa using h1) h2;rw [← h3] at h4;rw [h4];have h5:(List.replicate c x).getD (k / E.size) x = x:=by simp [List.getD,h1]
  rw [h5];have h6:k % E.size < (E.cells x).length:=by rw [E.len]; exact h2
  have h7:k % E.size < (E.val x).cells.size:=by rw [hz]; exact h2
  simp only [madeCells,Array.getElem?_toList,Array.getElem?_map,Array.getElem?_range,hk,if_true,Option.map_some,hz];rw [getElem!_pos (E.val x).cells (k % E.size) h7,List.getElem?_eq_getElem h6];simp [E.eQ]
 ·rw [List.getElem?_eq_none (by rw [Array.length_toList,size_madeCells]; omega),List.getElem?_eq_none (by rw [E.bZ]; simp; omega)]
theorem Tm.makeSlice {pm:Nat→Prop} {fr:Nat} (t:TypeId) (x y:Value):Tm P pm fr (Instr.makeSlice t x y):=by
 unfold Instr.makeSlice
 repeat' with_reducible first
  | exact .pure _
  | exact .stuck _
  | exact .runtimePanic _
  | exact .dead (.bind (.runtimePanic _) _)
  | refine .bind (.underlying _) fun _=>?_
  | refine .bind (.asInt _) fun _=>?_
  | refine .bind (.typeInfo _) fun _=>?_
  | refine .bind (.sizeOf _) fun _=>?_
  | refine .bind (.zeroValue _) fun _=>?_
  | refine .bind (.choose _) fun _=>?_
  | refine .bind (.askRoom _) fun _=>?_
  | refine .bind (.newRow _ _) fun _=>?_
  | refine .bind (.pure _) fun _=>?_
  | split
  | dsimp only
theorem makeSl {E:Enc α} {e:TypeId} {l c:Int} {by':Nat} (ht:P.underlying t = some (.slice e)) (T:ee P e E) (hsz:Nat.blt 0 E.size = true) (hz:(P.info? e).map (fun i=>(i.zero,i.bytes)) = some (some (E.val E.zero),by'))
 (hx:Opd F true x (I l)) (hy:Opd F true y (I c)) (h0:0 ≤ l ∧ l ≤ c) (hb:(by':Int) * c ≤ 281474976710656 ∧ c ≤ 9223372036854775807)
 (next:∀ o:OV,Sat K N ((d,true,o.v) :: F) (aT o.v E (List.replicate l.toNat E.zero) e :: L)) (hd:Nat.blt d K.n = true:=by rfl) :
 Sat K (bH P K ops Q ⟨some d,.makeSlice t x y,ty,pos,af,none⟩ N) F L:=fun a w G=>by
 refine bF rfl rfl fun hnv=>?_
 cases hi:P.info? e with
 | none=>rw [hi] at hz; cases hz
 | some i =>
   rw [hi] at hz;simp only [Option.map_some,Option.some.injEq,Prod.mk.injEq] at hz;obtain ⟨hz1,hz2⟩:=hz;obtain ⟨i',hi',hes⟩:=T.sz;rw [hi] at hi';obtain rfl:=Option.some.inj hi';have hsz':0 < E.size:=by simpa [Nat.blt_eq] using hsz
   have hr:=run_make (P:=P) w t e i (E.val E.zero) ht hi hz1 .i64 .i64 l c h0.1 h0.2 (by rw [hz2]; exact hb.1) hb.2;rw [hes] at hr;have he:(execOp a.eval ⟨some d,.makeSlice t x y,ty,pos,af,none⟩).run P w = .ok (.value (.slice (some ⟨w.heap.size,0,none⟩) l.toNat c.toNat)) (w.alloc (.cells (madeCells (E.val E.zero).cells (c.toNat * E.size)) e)):=by
    have hx':=hx.eval rfl G.fo;have hy':=hy.eval rfl G.fo;unfold I at hx' hy';simp only [execOp,hx',hy',Sem.run_bind,hr,Result.andThen_ok,Sem.run_pure]
   refine nc he (.bind (.makeSlice _ _ _) fun _=>.pure _) hnv ?_;have hm:maxLen = 9223372036854775807:=rfl;refine next ⟨_,rfl⟩ _ _ (G.put d true _ _ (by simpa [Nat.blt_eq] using hd) rfl (G.inv.add (aJ.alloc _ _ _) ?_ ?_))
   ·refine ⟨E.bZ _,.inr ⟨w.heap.size,c.toNat,_,by rw [List.length_replicate],Nat.zero_le _,heap_alloc_new w _,?_,by omega,?_,?_⟩⟩
    ·rw [List.length_replicate]; omega
    ·rw [size_madeCells]
    ·rw [rq E E.zero c.toNat hsz',List.length_replicate,E.mV]
     congr 1
     rw [List.take_replicate,Nat.min_eq_left (by omega)]
   ·intro b hb;have hb':some w.heap.size = some b:=hb;have:=Option.some.inj hb';subst this;exact ⟨Nat.le_refl _,by simp⟩
theorem Ev.extract {i:Nat} {vs:List Value} {v:Value} (hx:Opd F g x (.tuple vs.toArray)) (hv:vs[i]? = some v):Ev P K F L g (.extract x i) ty v:=.of rfl (fun hg a G w hw dst pos af gd=>by
 have e1:execOp a.eval ⟨dst,.extract x i,ty,pos,af,gd⟩ = pure (.value v):=by simp [execOp,Instr.extract,hx.eval hg G,hv]
 rw [e1];exact .pure _) fun hg a G w hw dst pos af gd=>by
 simp [execOp,Instr.extract,hx.eval hg G,hv]
theorem Ev.min_i {m n:Int} (hx:Opd F g x (I m)) (hy:Opd F g y (I n)) {ats:Array TypeId}:Ev P K F L g (.call { callee:=.builtin .min,args:=#[x,y],argTypes:=ats }) ty (I (min m n)):=.of rfl (fun hg a G w hw dst pos af gd=>by
 have e1:execOp a.eval ⟨dst,.call { callee:=.builtin .min,args:=#[x,y],argTypes:=ats },ty,pos,af,gd⟩ = (do pure (.value (← Builtin.min2 (I m) (I n)))):=by
  simp [execOp,resolve,invoke,builtin,Builtin.min_,hx.eval hg G,hy.eval hg G]
 rw [e1];exact .bind (.pure _) fun _=>.pure _) fun hg a G w hw dst pos af gd=>by
 simp [execOp,resolve,invoke,builtin,Builtin.min_,Builtin.min2,hx.eval hg G,hy.eval hg G,I];omega
theorem Ev.bV {E:Enc α} {v:Value} {xs:List α} {i:Int} (T:ee P t E) (hx:Opd F g x (gg v (i.toNat * E.size))) (h:∀ w,aP K L w→aO E w v xs) (hi:g = true→0 ≤ i ∧ i < xs.length) :
 Ev P K F L g (.load t x) ty (E.val (xs.getD i.toNat E.zero)):=Ev.pM T (ah.id E) (Nat.add_zero _).symm hx h hi
theorem Ev.to {v v':Value} (h:Ev P K F L g op ty v) (e:v = v'):Ev P K F L g op ty v':=e ▸ h
theorem Tm.copyTo {pm:Nat→Prop} {fr:Nat} {t t' ty:TypeId} {v u:Value} {T:TypeId} (ht:P.underlying t = some (.slice T)) (hv:∀ b,v.ownBlock = some b→pm b ∧ fr ≤ b):Tm P pm fr (Builtin.copy_ #[t,t'] ty #[v,u]):=by
 unfold Builtin.copy_;simp only [List.getElem?_toArray,List.getElem?_cons_zero,List.getElem?_cons_succ];refine .under ht ?_;cases v <;> first | exact .halt _ | skip
 rename_i base dLen dCap;refine .bind (.lenOf _) fun n=>.bind (.sizeOf _) fun s=>.bind (.firstCells _ _ _) fun cs=>?_
 cases base with
 | none=>exact .bind (.pure _) fun _=>.pure _
 | some a =>
   obtain ⟨h1,h2⟩:=hv a.block rfl;exact .bind (.storeCells a h1 h2 _ _) fun _=>.pure _
theorem copyO {E:Enc α} {v u:Value} {xs ys:List α} {T e:TypeId} {L':List Res} (ht:P.underlying t = some (.slice e)) (TT:ee P e E)
 (hx:Opd F true x v) (hy:Opd F true y u) (hu:Upd L (aT v E xs T) (aT v E (ys.take xs.length ++ xs.drop ys.length) T) L') (hsrc:∀ w,aP K L w→aO E w u ys)
 (next:Sat K N ((d,true,I (min ys.length xs.length:Nat)) :: F) L') (hd:Nat.blt d K.n = true:=by rfl) :
 Sat K (bH P K ops Q ⟨some d,.call { callee:=.builtin .copy,args:=#[x,y],argTypes:=#[t,t'] },ty,pos,af,none⟩ N) F L:=fun a w G=>by
 refine bF rfl rfl fun hnv=>?_
 have hmem:=hu.mem;have tm:Tm P (pmK K) K.E.fr (execOp a.eval ⟨some d,.call { callee:=.builtin .copy,args:=#[x,y],argTypes:=#[t,t'] },ty,pos,af,none⟩):=by
  have e:execOp a.eval ⟨some d,.call { callee:=.builtin .copy,args:=#[x,y],argTypes:=#[t,t'] },ty,pos,af,none⟩ = (Builtin.copy_ #[t,t'] ty #[a.eval x,a.eval y] >>= fun r=>pure (Next.value r)):=by
   simp [execOp,resolve,invoke,builtin]
  rw [e,hx.eval rfl G.fo];exact .bind (.copyTo ht fun b hb=>⟨((G.inv.own _ hmem).2 b hb).1,G.inv.fr hmem b hb⟩) fun _=>.pure _
 have hown:w.ownsRow 0 T E.size v xs.length (E.row xs):=(G.inv.own _ hu.mem).1;have hlt:=hown.lt;obtain ⟨sa,sc,rfl,h1,h2,h3,h4⟩:=hsrc w G.inv;have hru:(underlying t).run P w = .ok (.slice e) w:=by simp [underlying,ht]
 have hd':d < K.n:=by simpa [Nat.blt_eq] using hd
 have hn:Nat.min ys.length xs.length = min ys.length xs.length:=rfl;have hcs:(Builtin.firstCells E.size (min ys.length xs.length) (.slice sa ys.length sc)).run P w = .ok (E.row (ys.take xs.length)).toArray w:=by
  cases sa with
  | none =>
    obtain ⟨rfl,rfl⟩:=h3 rfl;simp [Builtin.firstCells,Enc.row]
  | some p =>
    obtain ⟨hps,hpc⟩:=h4 p rfl;have hcell:∀ j u,(E.row ys)[j]? = some u→w.cell? (p.add j) = some u:=fun j u hu=>by
     have hne:ys ≠ []:=fun e=>by rw [e] at hu; simp [Enc.row] at hu
     obtain ⟨pb,po,ps⟩:=p;have h:=hps hne;simp only at h;subst h;rw [fO];exact hpc j u hu
    refine run_firstCells_some w E.size _ _ _ _ (E.row (ys.take xs.length)) ?_ ?_
    ·rw [E.bZ,List.length_take,Nat.min_comm]
    ·intro j u hu;refine hcell j u ?_;rw [← E.mV,List.getElem?_take] at hu;split at hu
     ·exact hu
     ·cases hu
 have hlen:(ys.take xs.length ++ xs.drop ys.length).length = xs.length:=by
  rw [List.length_append,List.length_take,List.length_drop]; omega
 rcases hown.2 with ⟨rfl,hn0⟩ | ⟨gb,cap,cur,rfl,hbg,hg,hnc,hcm,hcs2,htake⟩
 ·have hxs:xs = []:=List.eq_nil_of_length_eq_zero hn0;subst hxs;have he:(execOp a.eval ⟨some d,.call { callee:=.builtin .copy,args:=#[x,y],argTypes:=#[t,t'] },ty,pos,af,none⟩).run P w = .ok (.value (I (min ys.length 0:Nat))) w:=by
   simp only [execOp,resolve,invoke,builtin,Builtin.copy_,List.map_toArray,List.map_cons,List.map_nil,hx.eval rfl G.fo,hy.eval rfl G.fo,Sem.run_bind,Sem.run_pure,Result.andThen_ok];simp only [List.getElem?_toArray,List.getElem?_cons_zero,List.getElem?_cons_succ,Sem.run_bind,hru,Result.andThen_ok,Builtin.lenOf,Sem.run_pure,run_sizeOf TT];have hcs':=hcs;simp only [List.length_nil] at hcs';rw [show Nat.min ys.length 0 = min ys.length 0 from rfl,hcs']
   rfl
  refine nc he tm hnv ?_;have hL:L' = L:=by
   obtain ⟨A,C,rfl,rfl⟩:=hu;simp
  rw [hL] at next;exact next _ _ (G.put d true _ _ hd' rfl G.inv)
 ·have hfit:0 + 0 + (E.row (ys.take xs.length)).length ≤ cur.size:=by
   rw [E.bZ,List.length_take,hcs2];have:min xs.length ys.length * E.size ≤ cap * E.size:=Nat.mul_le_mul_right _ (by omega);omega
  have hst:=run_storeCells_at P gb 0 T (E.row (ys.take xs.length)) 0 cur w hg hfit (E.lg _);simp only [Nat.zero_add,List.take_zero,List.nil_append] at hst;have he:(execOp a.eval ⟨some d,.call { callee:=.builtin .copy,args:=#[x,y],argTypes:=#[t,t'] },ty,pos,af,none⟩).run P w =
   .ok (.value (I (min ys.length xs.length:Nat))) (w.setRow gb (E.row (ys.take xs.length) ++ cur.toList.drop (E.row (ys.take xs.length)).length).toArray):=by
   simp only [execOp,resolve,invoke,builtin,Builtin.copy_,List.map_toArray,List.map_cons,List.map_nil,hx.eval rfl G.fo,hy.eval rfl G.fo,Sem.run_bind,Sem.run_pure,Result.andThen_ok];simp only [List.getElem?_toArray,List.getElem?_cons_zero,List.getElem?_cons_succ,Sem.run_bind,hru,Result.andThen_ok,Builtin.lenOf,Sem.run_pure,run_sizeOf TT];rw [hn,hcs];simp only [Result.andThen_ok,hst]
   rfl
  refine nc he tm hnv (next _ _ (G.put d true _ _ hd' rfl (G.inv.upd hu ((gC _ _ _).mono (fun k hk=>?_)) ?_ ?_)))
  ·subst hk; rfl
  ·refine ⟨E.bZ _,.inr ⟨gb,cap,_,by rw [hlen],Nat.zero_le _,setRow_heap w gb cur _ T _ hg,by rw [hlen]; exact hnc,hcm,?_,?_⟩⟩
   ·simp only [List.size_toArray,List.length_append,List.length_drop,Array.length_toList];omega
   ·have e1:(E.row (ys.take xs.length)).length = (ys.take xs.length).length * E.size:=E.bZ _;have e2:E.row (xs.drop ys.length) = (E.row xs).drop (ys.length * E.size):=(E.jy xs ys.length).symm;rw [E.ja,e2,← htake,hlen];simp only [List.take_append,e1];rw [List.take_of_length_le (by rw [E.bZ,List.length_take]; exact Nat.mul_le_mul_right _ (by omega))]
    congr 1
    rw [List.length_take,List.drop_take,← Nat.sub_mul,← Nat.sub_mul]
    rcases Nat.le_total xs.length ys.length with hle | hle
    ·rw [Nat.min_eq_left hle,Nat.sub_self,Nat.sub_eq_zero_of_le hle];simp
    ·rw [Nat.min_eq_right hle]
  ·intro b hb;exact ⟨.inl hb,by simpa using (hlt b hb).2⟩
theorem put_take {α:Type} (cur ys:List α) (A E B o s:Nat) (h1:A + E ≤ B) (h2:B ≤ cur.length) (h3:o + s ≤ E) (h4:ys.length = s) :
 (cur.take (A + o) ++ ys ++ cur.drop (A + o + s)).take B = (cur.take B).take A ++ ((((cur.take B).drop A).take E).take o ++ ys ++ (((cur.take B).drop A).take E).drop (o + s)) ++ (cur.take B).drop (A + E):=by
 apply List.ext_getElem?;intro j;simp only [List.getElem?_take,List.getElem?_append,List.length_append,List.length_take,List.length_drop,List.getElem?_drop,h4]
 repeat' split
 all_goals first | omega | rfl | (congr 1; omega) | (rw [List.getElem?_eq_none (by omega)]) | (exact List.getElem?_eq_none (by omega))
theorem storeS {E:Enc α} {E':Enc β} {v:Value} {xs:List α} {T:TypeId} {i:Int} {o k:Nat} {yv:β} {L':List Res} (TT:ee P t E') (l:ah E E' o) (hk:k = i.toNat * E.size + o) (hx:Opd F true x (gg v k)) (hy:Opd F true y (E'.val yv))
 (hu:Upd L (aT v E xs T) (aT v E (xs.set i.toNat (l.set (xs.getD i.toNat E.zero) yv)) T) L') (hi:0 ≤ i ∧ i < xs.length) (next:Sat K N F L'):Sat K (bH P K ops Q ⟨none,.store t x y,ty,pos,af,none⟩ N) F L:=fun a w G=>by
 refine bF rfl rfl fun hnv=>?_
 have hmem:=hu.mem;have hown:w.ownsRow 0 T E.size v xs.length (E.row xs):=(G.inv.own _ hu.mem).1;have hlt:=hown.lt;have hi':i.toNat < xs.length:=by omega
 rcases hown.2 with ⟨rfl,hn0⟩ | ⟨gb,cap,cur,rfl,hbg,hg,hnc,hcm,hcs2,htake⟩
 ·omega
 ·subst hk;have hx':Opd F true x (.pointer (some ⟨gb,0 + (i.toNat * E.size + o),none⟩)):=hx;rw [Nat.zero_add] at hx';have hfits:=l.fits;have hmul:(i.toNat + 1) * E.size ≤ cap * E.size:=Nat.mul_le_mul_right _ (by omega);rw [Nat.add_mul,Nat.one_mul] at hmul;have hmul2:(i.toNat + 1) * E.size ≤ xs.length * E.size:=Nat.mul_le_mul_right _ (by omega);rw [Nat.add_mul,Nat.one_mul] at hmul2;have hg':w.heap[gb]? = some (.cells cur.toList.toArray T (0,0)):=by simpa using hg
  have hr:=kz (P:=P) TT (o:=i.toNat * E.size + o) (yv:=yv) hg' (by rw [Array.length_toList,hcs2]; omega);have he:(execOp a.eval ⟨none,.store t x y,ty,pos,af,none⟩).run P w = .ok .skip (w.setRow gb (cur.toList.take (i.toNat * E.size + o) ++ E'.cells yv ++ cur.toList.drop (i.toNat * E.size + o + E'.size)).toArray):=by
   simp only [execOp,hx'.eval rfl G.fo,hy.eval rfl G.fo,Instr.storeAt,Instr.sureAddr,Sem.run_bind,Sem.run_pure,Result.andThen_ok,hr]
  refine opRunS he ?_ hnv ?_
  ·show Tm P _ _ (Instr.storeAt t (a.eval x) (a.eval y) >>= fun _=>pure Next.skip);rw [hx'.eval rfl G.fo];exact .bind (.known (b:=⟨gb,i.toNat * E.size + o,none⟩) (.sureAddr _) (fun v=>rfl) (.storeVar _ _ _ ((G.inv.own _ hmem).2 gb rfl).1 (G.inv.fr hmem gb rfl))) fun _=>.pure _
  have hsl:(xs.set i.toNat (l.set (xs.getD i.toNat E.zero) yv)).length = xs.length:=by simp
  have hclen:cur.toList.length = cap * E.size:=by rw [Array.length_toList,hcs2]
  refine next _ _ (G.world (G.inv.upd hu ((gC _ _ _).mono (fun k hk=>?_)) ?_ ?_))
  ·subst hk; rfl
  ·refine ⟨E.bZ _,.inr ⟨gb,cap,_,by rw [hsl],Nat.zero_le _,setRow_heap w gb cur _ T _ hg,by rw [hsl]; exact hnc,hcm,?_,?_⟩⟩
   ·simp only [List.size_toArray,List.length_append,List.length_take,List.length_drop,E'.len,hclen];omega
   ·rw [hsl,E.row_set _ _ _ hi',l.ny];have hcell:E.cells (xs.getD i.toNat E.zero) = ((E.row xs).drop (i.toNat * E.size)).take E.size:=by
     rw [E.jy,List.drop_eq_getElem_cons hi'];have e:E.row (xs[i.toNat] :: xs.drop (i.toNat + 1)) = E.cells xs[i.toNat] ++ E.row (xs.drop (i.toNat + 1)):=List.flatMap_cons;rw [e,← E.len xs[i.toNat],List.take_left];simp [List.getD,hi']
    rw [hcell,← htake];exact put_take _ _ _ _ _ _ _ (by omega) (by rw [hclen]; exact Nat.mul_le_mul_right _ hnc) hfits (E'.len yv)
  ·intro b hb;exact ⟨.inl hb,by simpa using (hlt b hb).2⟩
theorem storeS0 {E:Enc α} {v:Value} {xs:List α} {T:TypeId} {i:Int} {yv:α} {L':List Res} (TT:ee P t E) (hx:Opd F true x (gg v (i.toNat * E.size))) (hy:Opd F true y (E.val yv))
 (hu:Upd L (aT v E xs T) (aT v E (xs.set i.toNat yv) T) L') (hi:0 ≤ i ∧ i < xs.length) (next:Sat K N F L'):Sat K (bH P K ops Q ⟨none,.store t x y,ty,pos,af,none⟩ N) F L :=
 storeS (i:=i) TT (ah.id E) (Nat.add_zero _).symm hx hy hu hi next
end
end Go.Gx
