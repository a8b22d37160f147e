/- Part P: maps. -/
import Derived.Maps.RangeRun
import Derived.Test.YtljifjflnakmoaaGreatHxN
set_option linter.unusedVariables false
set_option linter.unusedSimpArgs false
namespace Go.Gx
open Go Go.RowKit
section
variable {α β γ:Type} {P:Program}
variable {K:Ctx} {F:Fr} {L:List Res} {g:Bool} {Q:Exit→Act→World→Prop} {N:Act→World→Prop} {ops:Array Oper}
 {op:Op} {ty t t':TypeId} {pos:String} {af:Array Edge} {d:Nat} {x y:Operand}
def qk (P:Program) (t:TypeId) (E:Enc α) (n:Nat):Prop:=∀ em d,n ≤ d→∀ x w,(Instr.checkKey em d t (E.val x)).run P w = .ok () w
theorem ck_int {k:IntKind} {f:α→Int} (E:Enc α) (hE:∀ x,E.val x = .int k (f x)) (hu:P.underlying t = some (.int k)):qk P t E 1:=fun em d hd x w=>by
 obtain ⟨d,rfl⟩:=Nat.exists_eq_add_of_le' hd;have hru:(underlying t).run P w = .ok (.int k) w:=by simp [underlying,hu]
 simp only [Instr.checkKey,Sem.run_bind,hru,Result.andThen_ok,hE]
 rfl
theorem ck_s (hu:P.underlying t = some .string):qk P t sE 1:=fun em d hd x w=>by
 obtain ⟨d,rfl⟩:=Nat.exists_eq_add_of_le' hd;have hru:(underlying t).run P w = .ok .string w:=by simp [underlying,hu]
 simp only [Instr.checkKey,Sem.run_bind,hru,Result.andThen_ok]
 rfl
theorem ck_b (hu:P.underlying t = some .bool):qk P t bE 1:=fun em d hd x w=>by
 obtain ⟨d,rfl⟩:=Nat.exists_eq_add_of_le' hd;have hru:(underlying t).run P w = .ok .bool w:=by simp [underlying,hu]
 simp only [Instr.checkKey,Sem.run_bind,hru,Result.andThen_ok]
 rfl
theorem ck_arr {e:TypeId} {n m:Nat} {E:Enc α} (hu:P.underlying t = some (.array n e)) (T:ee P e E) (h:qk P e E m):qk P t (fN n E) (m + 1):=fun em d hd x w=>by
 obtain ⟨d,rfl⟩:=Nat.exists_eq_add_of_le' (Nat.le_trans (Nat.le_add_left 1 m) hd);have hru:(underlying t).run P w = .ok (.array n e) w:=by simp [underlying,hu]
 show (Instr.checkKey em (d + 1) t (.agg (E.row x.toList).toArray)).run P w = _;have hp:∀ (i:Nat) (hi:i < n) (w:World),(part e (E.row x.toList).toArray (i * E.size)).run P w = .ok (E.val x[i]) w:=fun i hi w=>gV T (jd E i hi) x w
 simp only [Instr.checkKey,Sem.run_bind,hru,Result.andThen_ok,run_sizeOf T];have key:∀ k i,k = n - i→i ≤ n →
  (forIn (List.range' i k) PUnit.unit (fun i _=>do
   let n ← sizeOf e
   let a ← part e (E.row x.toList).toArray (i * n)
   Instr.checkKey em d e a
   pure (ForInStep.yield PUnit.unit))).run P w = .ok PUnit.unit w:=by
  intro k
  induction k with
  | zero=>intro i hk hi; rfl
  | succ k ih =>
    intro i hk hi;have hlt:i < n:=by omega
    simp only [List.range'_succ,List.forIn_cons,Sem.run_bind,run_sizeOf T,hp i hlt,Result.andThen_ok,h em d (by omega),Sem.run_pure];have:=ih (i + 1) (by omega) (by omega)
    simpa only [Sem.run_bind] using this
 have hk:=key n 0 (by omega) (Nat.zero_le _);rw [Std.Legacy.Range.forIn_eq_forIn_range'];simp only [Std.Legacy.Range.size];have e0:(n - 0 + 1 - 1) / 1 = n:=by simp
 rw [e0];rw [hk]
 rfl
def CkF (P:Program) (E:Enc α) (n:Nat) (fs:List Field):Prop:=∀ em d,n ≤ d→∀ x w,
 (forIn fs PUnit.unit (fun (f:Field) _=>do
  if f.name ≠ "_" then do
   let a ← part f.type (E.cells x).toArray f.offset
   Instr.checkKey em d f.type a
   pure (ForInStep.yield PUnit.unit)
   else pure (ForInStep.yield PUnit.unit))).run P w = .ok PUnit.unit w
theorem CkF.nil {E:Enc α} {n:Nat}:CkF P E n []:=fun em d _ x w=>rfl
theorem CkF.cons {E:Enc α} {E':Enc β} {n o:Nat} {f:Field} {fs:List Field} (hn:f.name ≠ "_") (ho:f.offset = o) (l:ah E E' o) (T:ee P f.type E') (h:qk P f.type E' n) (hr:CkF P E n fs):CkF P E n (f :: fs):=fun em d hd x w=>by
 subst ho;have h2:=hr em d hd x w;simp only [List.forIn_cons,hn,ne_eq,not_false_eq_true,if_true,Sem.run_bind,gV T l,Result.andThen_ok,h em d hd,Sem.run_pure];exact h2
theorem wc {E:Enc α} {fs:List Field} {n:Nat} (hu:P.underlying t = some (.struct fs.toArray)) (ha:E.agg = true) (h:CkF P E n fs):qk P t E (n + 1):=fun em d hd x w=>by
 obtain ⟨d,rfl⟩:=Nat.exists_eq_add_of_le' (Nat.le_trans (Nat.le_add_left 1 n) hd);have hru:(underlying t).run P w = .ok (.struct fs.toArray) w:=by simp [underlying,hu]
 have h2:=h em d (by omega) x w;unfold Enc.val;rw [ha,cond_true];simp only [Instr.checkKey,Sem.run_bind,hru,Result.andThen_ok];rw [List.forIn_toArray];rw [h2]
 rfl
def oI (E:Enc α):Prop:=∀ x,∀ c ∈ E.cells x,∀ m,Instr.sameBits m c c = true
theorem bit_int {k:IntKind} {f:α→Int} (E:Enc α) (hE:∀ x,E.cells x = [.int k (f x)]):oI E:=fun x c hc m=>by
 rw [hE,List.mem_singleton] at hc;subst hc;cases m <;> simp [Instr.sameBits]
theorem bit_b:oI bE:=fun x c hc m=>by
 obtain rfl:=List.mem_singleton.1 hc;cases m <;> simp [Instr.sameBits]
theorem bit_prod {E:Enc α} {E':Enc β} (h:oI E) (h':oI E'):oI (bh E E'):=fun x c hc m=>by
 rcases List.mem_append.1 hc with k | k
 ·exact h _ c k m
 ·exact h' _ c k m
theorem bit_iso {E:Enc β} {to:β→α} {of:α→β} (h:oI E):oI (gI E to of):=fun x c hc m=>h _ c hc m
theorem bit_arr {n:Nat} {E:Enc α} (h:oI E):oI (fN n E):=fun x c hc m=>by
 obtain ⟨y,_,hy⟩:=List.mem_flatMap.1 hc;exact h y c hy m
theorem wG (l:List Value) (n:Nat) (h:∀ c ∈ l,Instr.sameBits n c c = true):Instr.sameBits (n + 1) (.agg l.toArray) (.agg l.toArray) = true:=by
 simp only [Instr.sameBits,beq_self_eq_true,Bool.true_and,List.all_eq_true];intro p hp;obtain ⟨a,b⟩:=p;obtain ⟨i,hi,e⟩:=List.mem_iff_getElem.1 hp;have hl:i < l.length:=by simpa using hi
 simp at e;obtain ⟨rfl,rfl⟩:=e;exact h _ (List.getElem_mem hl)
structure lS (P:Program) (t:TypeId) (E:Enc α) (q:α→α→Bool):Prop where
 eq:j8 P t E q 10000
 ck:qk P t E 10000
 now:∀ dd,P.underlying t = some dd→∀ x y b,Instr.sameNow dd (E.val x) (E.val y) = some b→b = q x y
 iff:∀ x y,q x y = true ↔ x = y
 bits:∀ x,Instr.sameBits 10000 (E.val x) (E.val x) = true
theorem j8.up {E:Enc α} {q:α→α→Bool} {n m:Nat} (h:j8 P t E q n) (hm:n ≤ m):j8 P t E q m:=⟨fun d hd=>h.1 d (Nat.le_trans hm hd),fun d hd=>h.2 d (Nat.le_trans hm hd)⟩
theorem qk.up {E:Enc α} {n m:Nat} (h:qk P t E n) (hm:n ≤ m):qk P t E m:=fun em d hd=>h em d (Nat.le_trans hm hd)
theorem key_agg {E:Enc α} {q:α→α→Bool} {n m:Nat} (ha:E.agg = true) (h:j8 P t E q n) (hn:n ≤ 10000) (c:qk P t E m) (hm:m ≤ 10000) (hb:oI E) (hi:∀ x y,q x y = true ↔ x = y):lS P t E q where
 eq:=h.up hn
 ck:=c.up hm
 now dd hu x y b hs:=by
  unfold Enc.val at hs;rw [ha] at hs;cases dd <;> simp [Instr.sameNow] at hs
 iff:=hi
 bits x:=by
  unfold Enc.val;rw [ha,cond_true];exact wG _ 9999 (fun c hc=>hb x c hc 9999)
theorem key_i (hu:P.underlying t = some (.int .i64)):lS P t iE eqd where
 eq:=(eqok_i hu).up (by decide)
 ck:=(ck_int iE (fun _=>rfl) hu).up (by decide)
 now dd hd x y b hs:=by
  rw [hu] at hd;obtain rfl:=Option.some.inj hd;have hs2:some (x == y) = some b:=hs;exact (Option.some.inj hs2).symm
 iff:=dy
 bits x:=by show Instr.sameBits 10000 (.int .i64 x) (.int .i64 x) = true; simp [Instr.sameBits]
theorem key_s (hu:P.underlying t = some .string):lS P t sE eqs where
 eq:=(eqok_s hu).up (by decide)
 ck:=(ck_s hu).up (by decide)
 now dd hd x y b hs:=by
  rw [hu] at hd;obtain rfl:=Option.some.inj hd;have hs2:some (x == y) = some b:=hs;exact (Option.some.inj hs2).symm
 iff:=iJ
 bits x:=by
  have e:(x == x) = true:=(iJ x x).2 rfl;show Instr.sameBits 10000 (.string x) (.string x) = true;simp [Instr.sameBits,e]
def fK (q:α→α→Bool) (k:α):List (α × β)→Nat→Option (Nat × β)
 | [],_=>none
 | p :: l,i=>if q k p.1 then some (i,p.2) else fK q k l (i + 1)
def cO (q:α→α→Bool) (k:α) (l:List (α × β)):Option β:=(fK q k l 0).map (·.2)
def ix (E:Enc α) (V:Enc β) (es:List MapEntry) (l:List (α × β)):Prop:=es.map (fun e=>(e.key,e.val)) = l.map (fun p=>(E.val p.1,V.val p.2))
theorem ix.cons_inv {E:Enc α} {V:Enc β} {e:MapEntry} {es:List MapEntry} {l:List (α × β)} (h:ix E V (e :: es) l):∃ p l',l = p :: l' ∧ e.key = E.val p.1 ∧ e.val = V.val p.2 ∧ ix E V es l':=by
 cases l with
 | nil=>simp [ix] at h
 | cons p l' =>
   simp only [ix,List.map_cons,List.cons.injEq,Prod.mk.injEq] at h;exact ⟨p,l',rfl,h.1.1,h.1.2,h.2⟩
theorem findNow_ok {E:Enc α} {V:Enc β} {q:α→α→Bool} {dd:TypeDesc} (hnow:∀ x y b,Instr.sameNow dd (E.val x) (E.val y) = some b→b = q x y) (k:α):∀ (es:List MapEntry) (l:List (α × β)) (i:Nat) (r:Option (Nat × Value)),ix E V es l→Instr.findNow dd (E.val k) es i = some r→r = (fK q k l i).map (fun p=>(p.1,V.val p.2)):=by
 intro es
 induction es with
 | nil =>
   intro l i r h hr;cases l with
   | nil=>simp only [Instr.findNow,Option.some.injEq] at hr; subst hr; rfl
   | cons p l=>simp [ix] at h
 | cons e es ih =>
   intro l i r h hr;obtain ⟨p,l',rfl,h1,h2,h3⟩:=h.cons_inv;simp only [Instr.findNow,h1] at hr;cases hs:Instr.sameNow dd (E.val k) (E.val p.1) with
   | none=>rw [hs] at hr; simp at hr
   | some b =>
     have hb:=hnow _ _ _ hs;rw [hs] at hr;cases b with
     | true =>
       simp only [Option.some.injEq] at hr;subst hr;simp [fK,← hb,h2]
     | false =>
       have:=ih l' (i + 1) r h3 hr;simp [fK,← hb,this]
theorem ta {E:Enc α} {V:Enc β} {q:α→α→Bool} (hk:j8 P t E q 10000) (k:α) (w:World):∀ (es:List MapEntry) (l:List (α × β)) (i:Nat),ix E V es l→(Instr.findAsking t (E.val k) es i).run P w = .ok ((fK q k l i).map (fun p=>(p.1,V.val p.2))) w:=by
 intro es
 induction es with
 | nil =>
   intro l i h;cases l with
   | nil=>rfl
   | cons p l=>simp [ix] at h
 | cons e es ih =>
   intro l i h;obtain ⟨p,l',rfl,h1,h2,h3⟩:=h.cons_inv;have he:(Op.equal t (E.val k) (E.val p.1)).run P w = .ok (q k p.1) w:=hk.1 10000 (Nat.le_refl _) w k p.1;simp only [Instr.findAsking,h1,Sem.run_bind,he,Result.andThen_ok,fK];cases hq:q k p.1 with
   | true=>simp [h2]
   | false=>simpa using ih l' (i + 1) h3
theorem uP {pm:Nat→Prop} {fr:Nat} {E:Enc α} {V:Enc β} {q:α→α→Bool} (hk:j8 P t E q 10000) (k:α):∀ (es:List MapEntry) (l:List (α × β)) (i:Nat),ix E V es l→Tm P pm fr (Instr.findAsking t (E.val k) es i):=by
 intro es
 induction es with
 | nil=>intro l i h; exact .pure _
 | cons e es ih =>
   intro l i h;obtain ⟨p,l',rfl,h1,h2,h3⟩:=h.cons_inv;simp only [Instr.findAsking,h1];refine .bind (hk.2 10000 (Nat.le_refl _) k p.1 pm fr) fun r=>?_
   split
   ·exact .pure _
   ·exact ih l' (i + 1) h3
theorem sV {pm:Nat→Prop} {fr:Nat} {E:Enc α} {V:Enc β} {q:α→α→Bool} (hk:lS P t E q) (k:α) (es:List MapEntry) (l:List (α × β)) (h:ix E V es l):Tm P pm fr (Instr.findKey t (E.val k) es):=by
 unfold Instr.findKey;refine .bind (.underlying t) fun d=>?_
 split
 ·exact .pure _
 ·exact uP hk.eq k es l 0 h
theorem run_findKey {E:Enc α} {V:Enc β} {q:α→α→Bool} (hk:lS P t E q) {dd:TypeDesc} (hu:P.underlying t = some dd) (k:α) (w:World) (es:List MapEntry) (l:List (α × β)) (h:ix E V es l):(Instr.findKey t (E.val k) es).run P w = .ok ((fK q k l 0).map (fun p=>(p.1,V.val p.2))) w:=by
 have hru:(underlying t).run P w = .ok dd w:=by simp [underlying,hu]
 simp only [Instr.findKey,Sem.run_bind,hru,Result.andThen_ok];cases hf:Instr.findNow dd (E.val k) es 0 with
 | none=>exact ta hk.eq k w es l 0 h
 | some r =>
   rw [findNow_ok (hk.now dd hu) k es l 0 r h hf]
   rfl
def uN (es:Array MapEntry) (c:Nat):Prop:=(∀ x ∈ es.toList,x.born < c) ∧ (es.toList.map (·.born)).Nodup
theorem uN.push {es:Array MapEntry} {c:Nat} (h:uN es c) (k v:Value):uN (es.push { key:=k,val:=v,born:=c }) (c + 1):=by
 refine ⟨fun x hx=>?_,?_⟩
 ·simp only [Array.toList_push,List.mem_append,List.mem_singleton] at hx
  rcases hx with hx | rfl
  ·exact Nat.lt_succ_of_lt (h.1 x hx)
  ·exact Nat.lt_succ_self _
 ·simp only [Array.toList_push,List.map_append,List.map_cons,List.map_nil];refine List.nodup_append.2 ⟨h.2,by simp,?_⟩;intro a ha b hb;simp only [List.mem_singleton] at hb;subst hb;obtain ⟨x,hx,rfl⟩:=List.mem_map.1 ha;exact Nat.ne_of_lt (h.1 x hx)
theorem uN.modify {es:Array MapEntry} {c:Nat} (h:uN es c) (i:Nat) (f:MapEntry→MapEntry) (hf:∀ e,(f e).born = e.born):uN (es.modify i f) c:=by
 have e1:(es.modify i f).toList.map (·.born) = es.toList.map (·.born):=by
  rw [Array.toList_modify];apply List.ext_getElem?;intro j;simp only [List.getElem?_map,List.getElem?_modify];cases es.toList[j]? with
  | none=>rfl
  | some e=>by_cases hj:i = j <;> simp [hj,hf]
 refine ⟨fun x hx=>?_,e1 ▸ h.2⟩;have:x.born ∈ es.toList.map (·.born):=e1 ▸ List.mem_map.2 ⟨x,hx,rfl⟩;obtain ⟨y,hy,e⟩:=List.mem_map.1 this;exact e ▸ h.1 y hy
def iw (w:World) (b:Nat) (E:Enc α) (V:Enc β) (l:List (α × β)):Prop:=∃ es clock,w.heap[b]? = some (.map es clock) ∧ ix E V es.toList l ∧ uN es clock
def fW (b:Nat) (E:Enc α) (V:Enc β) (l:List (α × β)):Res where
 bQ:=fun k=>k = b
 A:=fun w=>iw w b E V l
 st:=fun w w' h ⟨es,c,h1,h2⟩=>⟨es,c,(h b rfl).trans h1,h2⟩
theorem eP {b:Nat} {E:Enc α} {V:Enc β} {l:List (α × β)} (hm:fW b E V l ∈ L) (w:World) (h:aP K L w):iw w b E V l:=(h.own _ hm).1
theorem iw.aV {w w':World} {b:Nat} {E:Enc α} {V:Enc β} {l:List (α × β)} (h:iw w b E V l) (k:aJ dI w w'):iw w' b E V l:=by
 obtain ⟨es,c,h1,h2⟩:=h;exact ⟨es,c,(k.block b (Array.getElem?_eq_some_iff.1 h1).1 (fun h=>h)).trans h1,h2⟩
theorem makeMap {E:Enc α} {V:Enc β} (next:∀ b:Nat,Sat K N ((d,true,.map (some b)) :: F) (fW b E V [] :: L)) (hd:Nat.blt d K.n = true:=by rfl) :
 Sat K (bH P K ops Q ⟨some d,.makeMap t none,ty,pos,af,none⟩ N) F L:=fun a w G=>by
 refine bF rfl rfl fun hn=>?_
 have hr:(execOp a.eval ⟨some d,.makeMap t none,ty,pos,af,none⟩).run P w = .ok (.value (.map (some w.heap.size))) { w with heap:=w.heap.push (.map #[] 0) }:=by
  simp [execOp,Instr.makeMap]
 have e1:execOp a.eval ⟨some d,.makeMap t none,ty,pos,af,none⟩ = (newObj (.map #[] 0) >>= fun r=>pure (.value (.map (some r)))):=by simp [execOp,Instr.makeMap]
 refine nc hr (by rw [e1]; exact .bind (.newObj _ rfl rfl) fun _=>.pure _) hn ?_;refine next w.heap.size _ _ (G.put d true _ _ (by simpa [Nat.blt_eq] using hd) rfl (G.inv.add (aJ.alloc _ _ _) ⟨#[],0,by simp,rfl,by simp [uN]⟩ ?_));intro b hb;have:b = w.heap.size:=hb;subst this;simp
theorem Ev.w9 {kt vt:TypeId} {E:Enc α} {V:Enc β} {q:α→α→Bool} {dd:TypeDesc} {b:Nat} {l:List (α × β)} {k:α} {co:Bool} (ht:P.underlying t = some (.map kt vt)) (hu:P.underlying kt = some dd) (hk:lS P kt E q) (hz:(P.info? vt).bind (·.zero) = some (V.val V.zero))
 (hx:Opd F g x (.map (some b))) (hy:Opd F g y (E.val k)) (hm:g = true→∀ w,aP K L w→iw w b E V l) :
 Ev P K F L g (.lookup t x y co) ty (bif co then .tuple #[V.val ((cO q k l).getD V.zero),.bool (cO q k l).isSome] else V.val ((cO q k l).getD V.zero)):=.ofW rfl (fun hg a G w hw dst pos af gd=>by
 obtain ⟨es,c,h1,h2,_⟩:=hm hg w hw;show TmW P _ _ (Instr.lookup t (a.eval x) (a.eval y) co >>= fun r=>pure (Next.value r)) w;rw [hx.eval hg G,hy.eval hg G];refine .bind ?_ fun _ _ _=>(Tm.pure _).at
 unfold Instr.lookup;refine .known (b:=.map kt vt) (.underlying t) (by simp [underlying,ht]) (.getObj h1 rfl rfl (by intro c e z h; cases h) ?_);refine .bind (Tm.pure _).at fun es' v1 hr=>?_
 rw [Sem.run_pure] at hr;cases hr;dsimp only;refine (Tm.bind (.checkKey _ _ _ _) fun _=>.bind (sV hk k _ l h2) fun r=>?_).at;split
 ·exact .bind (.pure _) fun x=>by cases x; exact .pure _
 ·exact .bind (.zeroValue _) fun _=>.bind (.pure _) fun x=>by cases x; exact .pure _) fun hg a G w hw dst pos af gd=>by
 obtain ⟨es,c,h1,h2,_⟩:=hm hg w hw;have hru:(underlying t).run P w = .ok (.map kt vt) w:=by simp [underlying,ht]
 have hgo:(getObj b).run P w = .ok (.map es c) w:=MapKept.run_getObj_map h1;have hck:=hk.ck es.isEmpty 10000 (Nat.le_refl _) k w;have hfk:=run_findKey hk hu k w es.toList l h2;have hzv:(zeroValue vt).run P w = .ok (V.val V.zero) w:=by
  cases hi:P.info? vt with
  | none=>rw [hi] at hz; cases hz
  | some i =>
    rw [hi] at hz;simp only [Option.bind_some] at hz;simp [zeroValue,typeInfo,hi,hz]
 simp only [execOp,Instr.lookup,hx.eval hg G,hy.eval hg G,Sem.run_bind,hru,Result.andThen_ok,hgo,Sem.run_pure,hck,hfk];unfold cO;cases hf:fK q k l 0 with
 | none=>cases co <;> simp [hzv]
 | some p=>cases co <;> simp
theorem Ev.l9 {kt vt:TypeId} {E:Enc α} {q:α→α→Bool} {dd:TypeDesc} {b:Nat} {l:List (α × Int)} {k:α} (ht:P.underlying t = some (.map kt vt)) (hu:P.underlying kt = some dd) (hk:lS P kt E q) (hz:(P.info? vt).bind (·.zero) = some (iE.val iE.zero))
 (hx:Opd F g x (.map (some b))) (hy:Opd F g y (E.val k)) (hm:g = true→∀ w,aP K L w→iw w b E iE l) :
 Ev P K F L g (.lookup t x y true) ty (.tuple #[I ((cO q k l).getD 0),.bool (cO q k l).isSome]):=Ev.w9 (co:=true) ht hu hk hz hx hy hm
theorem Ev.se {kt vt:TypeId} {E:Enc α} {q:α→α→Bool} {dd:TypeDesc} {b:Nat} {l:List (α × Int)} {k:α} (ht:P.underlying t = some (.map kt vt)) (hu:P.underlying kt = some dd) (hk:lS P kt E q) (hz:(P.info? vt).bind (·.zero) = some (iE.val iE.zero))
 (hx:Opd F g x (.map (some b))) (hy:Opd F g y (E.val k)) (hm:g = true→∀ w,aP K L w→iw w b E iE l) :
 Ev P K F L g (.lookup t x y false) ty (I ((cO q k l).getD 0)):=Ev.w9 (co:=false) ht hu hk hz hx hy hm
def lE (q:α→α→Bool) (k:α) (v:β):List (α × β)→List (α × β)
 | []=>[(k,v)]
 | p :: l=>if q k p.1 then (k,v) :: l else p :: lE q k v l
theorem findL_ge {q:α→α→Bool} {k:α}:∀ {l:List (α × β)} {i j:Nat} {v:β},fK q k l i = some (j,v)→i ≤ j ∧ j < i + l.length
 | [],i,j,v,h=>by simp [fK] at h
 | p :: l,i,j,v,h=>by
   simp only [fK] at h;split at h
   ·simp only [Option.some.injEq,Prod.mk.injEq] at h;simp;omega
   ·have:=findL_ge h;simp;omega
theorem ents_put {E:Enc α} {V:Enc β} {q:α→α→Bool} (hi:∀ x y,q x y = true ↔ x = y) (k:α) (v:β):∀ (es:List MapEntry) (l:List (α × β)) (i:Nat),ix E V es l →
 (∀ j u,fK q k l i = some (j,u)→(∃ e,es[j - i]? = some e ∧ e.key = E.val k) ∧ ix E V (es.modify (j - i) (fun e=>{ e with key:=E.val k,val:=V.val v })) (lE q k v l)) ∧
 (fK q k l i = none→∀ c,ix E V (es ++ [{ key:=E.val k,val:=V.val v,born:=c }]) (lE q k v l)):=by
 intro es
 induction es with
 | nil =>
   intro l i h;cases l with
   | nil=>exact ⟨fun j u hf=>by simp [fK] at hf,fun _ c=>rfl⟩
   | cons p l=>simp [ix] at h
 | cons e es ih =>
   intro l i h;obtain ⟨p,l',rfl,h1,h2,h3⟩:=h.cons_inv;obtain ⟨i1,i2⟩:=ih l' (i + 1) h3
   by_cases hq:q k p.1 = true
   ·have hkp:k = p.1:=(hi _ _).1 hq;constructor
    ·intro j u hf;simp only [fK,hq,if_true,Option.some.injEq,Prod.mk.injEq] at hf;obtain ⟨rfl,rfl⟩:=hf;rw [Nat.sub_self];refine ⟨⟨e,rfl,by rw [h1,← hkp]⟩,?_⟩;simp only [lE,hq,if_true];unfold ix at h3 ⊢;simp [h3]
    ·intro hf;simp [fK,hq] at hf
   ·constructor
    ·intro j u hf;simp only [fK,hq,if_false,Bool.false_eq_true] at hf;obtain ⟨g1,g2⟩:=findL_ge hf;obtain ⟨⟨e',k1,k2⟩,k3⟩:=i1 j u hf;have ej:j - i = (j - (i + 1)) + 1:=by omega
     rw [ej];refine ⟨⟨e',by simpa using k1,k2⟩,?_⟩;simp only [lE,hq,if_false,Bool.false_eq_true];unfold ix at k3 ⊢;simp [k3,h1,h2]
    ·intro hf c;simp only [fK,hq,if_false,Bool.false_eq_true] at hf;have k3:=i2 hf c;simp only [lE,hq,if_false,Bool.false_eq_true];unfold ix at k3 ⊢;simp only [List.cons_append,List.map_cons,k3,h1,h2]
theorem rk (w:World) (b:Nat) (o:Obj):aJ (fun k=>k = b) w { w with heap:=w.heap.setIfInBounds b o } :=
 ⟨rfl,rfl,rfl,by simp,fun k hk hm=>by simp [Array.getElem?_setIfInBounds_ne (Ne.symm hm)]⟩
theorem mapUpdate {kt vt:TypeId} {E:Enc α} {V:Enc β} {q:α→α→Bool} {dd:TypeDesc} {b:Nat} {l:List (α × β)} {k:α} {v:β} {z:Operand} {L':List Res} (ht:P.underlying t = some (.map kt vt)) (hu:P.underlying kt = some dd) (hk:lS P kt E q)
 (hx:Opd F true x (.map (some b))) (hy:Opd F true y (E.val k)) (hz:Opd F true z (V.val v)) (hU:Upd L (fW b E V l) (fW b E V (lE q k v l)) L') (next:Sat K N F L') :
 Sat K (bH P K ops Q ⟨none,.mapUpdate t x y z,ty,pos,af,none⟩ N) F L:=fun a w G=>by
 refine bF rfl rfl fun hn=>?_
 obtain ⟨es,c,h1,h2,hB⟩:iw w b E V l:=(G.inv.own _ hU.mem).1;have hru:(underlying t).run P w = .ok (.map kt vt) w:=by simp [underlying,ht]
 have hgo:(getObj b).run P w = .ok (.map es c) w:=MapKept.run_getObj_map h1;have hck:=hk.ck false 10000 (Nat.le_refl _) k w;have hfk:=run_findKey hk hu k w es.toList l h2;have hlt:b < w.heap.size:=(Array.getElem?_eq_some_iff.1 h1).1;obtain ⟨p1,p2⟩:=ents_put hk.iff k v es.toList l 0 h2;have fin:∀ o:Obj,(∃ es' c',o = .map es' c' ∧ ix E V es'.toList (lE q k v l) ∧ uN es' c')→N a { w with heap:=w.heap.setIfInBounds b o }:=by
  rintro o ⟨es',c',rfl,he,hb'⟩;refine next _ _ (G.world (G.inv.upd hU (rk w b _) ⟨es',c',by simp [hlt],he,hb'⟩ fun k hk=>?_));have:k = b:=hk;subst this;exact ⟨.inl rfl,by simpa using hlt⟩
 have tmo:TmW P (pmK K) K.E.fr (execOp a.eval ⟨none,.mapUpdate t x y z,ty,pos,af,none⟩) w:=by
  have hmem:=hU.mem;have ny:∀ (o:Obj),isP o = false→isV o = false→o.isChan = false→TmW P (pmK K) K.E.fr (setObj b o) w:=fun o g1 g2 g3=>.setObj h1 rfl ((G.inv.own _ hmem).2 b rfl).1 (G.inv.fr hmem b rfl) g1 g2 g3
  show TmW P _ _ (Instr.mapUpdate t (a.eval x) (a.eval y) (a.eval z) >>= fun _=>pure Next.skip) w;rw [hx.eval rfl G.fo,hy.eval rfl G.fo];refine .bind ?_ fun _ _ _=>(Tm.pure _).at
  unfold Instr.mapUpdate;refine .known (.underlying t) hru (.getObj h1 rfl rfl (by intro c e z h; cases h) ?_);refine .known (.checkKey _ _ _ _) hck (.known (sV hk k _ l h2) hfk ?_);cases hf:fK q k l 0 with
  | none=>exact ny _ rfl rfl rfl
  | some jp =>
    obtain ⟨j,u⟩:=jp;obtain ⟨⟨e,k1,k2⟩,k3⟩:=p1 j u hf;rw [Nat.sub_zero] at k1;have hke:((es[j]?).map (·.key)).getD (E.val k) = E.val k:=by
     have:es[j]? = some e:=by simpa using k1
     rw [this];exact k2
    have hkt:(Instr.keyThatStays (E.val k) (E.val k)).run P w = .ok (E.val k) w:=by
     simp [Instr.keyThatStays,hk.bits k]
    simp only [Option.map_some];rw [hke];refine .known ?_ hkt (ny _ rfl rfl rfl);unfold Instr.keyThatStays;split
    ·exact .pure _
    ·exact .bind (.choose _) fun _=>.pure _
 have hso:∀ o,(setObj b o).run P w = .ok () { w with heap:=w.heap.setIfInBounds b o }:=fun o=>MapKept.run_setObj_map o h1
 cases hf:fK q k l 0 with
 | none =>
   rw [hf] at hfk;have hr:(execOp a.eval ⟨none,.mapUpdate t x y z,ty,pos,af,none⟩).run P w = .ok .skip { w with heap:=w.heap.setIfInBounds b (.map (es.push { key:=E.val k,val:=V.val v,born:=c }) (c + 1)) }:=by
    simp [execOp,Instr.mapUpdate,hx.eval rfl G.fo,hy.eval rfl G.fo,hz.eval rfl G.fo,hru,hgo,hck,hfk,hso]
   refine wT hr tmo hn ?_;exact fin _ ⟨_,_,rfl,by simpa using p2 hf c,hB.push _ _⟩
 | some jp =>
   obtain ⟨j,u⟩:=jp;rw [hf] at hfk;obtain ⟨⟨e,k1,k2⟩,k3⟩:=p1 j u hf;rw [Nat.sub_zero] at k1 k3;have hke:((es[j]?).map (·.key)).getD (E.val k) = E.val k:=by
    have:es[j]? = some e:=by simpa using k1
    rw [this];exact k2
   have hkt:(Instr.keyThatStays (E.val k) (E.val k)).run P w = .ok (E.val k) w:=by
    simp [Instr.keyThatStays,hk.bits k]
   have hr:(execOp a.eval ⟨none,.mapUpdate t x y z,ty,pos,af,none⟩).run P w = .ok .skip { w with heap:=w.heap.setIfInBounds b (.map (es.modify j fun e=>{ e with key:=E.val k,val:=V.val v }) c) }:=by
    simp [execOp,Instr.mapUpdate,hx.eval rfl G.fo,hy.eval rfl G.fo,hz.eval rfl G.fo,hru,hgo,hck,hfk,hso,hke,hkt]
   refine wT hr tmo hn ?_;exact fin _ ⟨_,_,rfl,by rw [Array.toList_modify]; exact k3,hB.modify _ _ (fun _=>rfl)⟩
def RangeAt (w:World) (r b:Nat) (E:Enc α) (V:Enc β) (l rem:List (α × β)) (cur:Option (α × β)):Prop:=∃ es clock since seen c0,w.heap[b]? = some (.map es clock) ∧ ix E V es.toList l ∧ uN es clock ∧
 w.heap[r]? = some (.mapIter (some b) since seen c0) ∧ (∀ x ∈ es.toList,x.born < since) ∧ since ≤ c0 ∧ since ≤ clock ∧ ix E V (leftOf es seen).toList rem ∧ ∀ p,cur = some p→c0 = clock ∧ ∃ e ∈ es.toList,seen.back? = some e.born ∧ e.key = E.val p.1 ∧ e.val = V.val p.2
def RangeR (r b:Nat) (E:Enc α) (V:Enc β) (l rem:List (α × β)) (cur:Option (α × β)):Res where
 bQ:=fun k=>k = r ∨ k = b
 A:=fun w=>RangeAt w r b E V l rem cur
 st:=fun w w' h ⟨es,c,s,sn,c0,h1,h2,h3,h4,h5⟩=>⟨es,c,s,sn,c0,(h b (.inr rfl)).trans h1,h2,h3,(h r (.inl rfl)).trans h4,h5⟩
theorem ix.split {E:Enc α} {V:Enc β} {a b:List MapEntry} {e:MapEntry} {l:List (α × β)} (h:ix E V (a ++ e :: b) l):∃ l1 p l2,l = l1 ++ p :: l2 ∧ e.key = E.val p.1 ∧ e.val = V.val p.2 ∧ ix E V (a ++ b) (l1 ++ l2):=by
 induction a generalizing l with
 | nil =>
   obtain ⟨p,l',rfl,h1,h2,h3⟩:=ix.cons_inv h;exact ⟨[],p,l',rfl,h1,h2,h3⟩
 | cons x a ih =>
   obtain ⟨p,l',rfl,h1,h2,h3⟩:=ix.cons_inv h;obtain ⟨l1,p',l2,rfl,g1,g2,g3⟩:=ih h3;refine ⟨p :: l1,p',l2,rfl,g1,g2,?_⟩;show List.map _ _ = List.map _ _;simp only [List.cons_append,List.map_cons,h1,h2];exact congrArg _ g3
theorem Ev.entry {E:Enc α} {V:Enc β} {r b:Nat} {l rem:List (α × β)} {p:α × β} (hx:Opd F g x (.pointer (some ⟨r,0,none⟩))) (hm:RangeR r b E V l rem (some p) ∈ L) :
 Ev P K F L g (.entry x) ty (.tuple #[E.val p.1,V.val p.2]):=.ofW rfl (fun hg a G w hw dst pos af gd=>by
 obtain ⟨⟨es,c,since,seen,c0,h1,h2,h3,h4,h5⟩,_⟩:=hw.own _ hm;show TmW P _ _ (Instr.entry (a.eval x) >>= fun r=>pure (Next.value r)) w;rw [hx.eval hg G];refine .bind ?_ fun _ _ _=>(Tm.pure _).at
 unfold Instr.entry;refine .getObj h4 rfl rfl (by intro c e z h; cases h) ?_;dsimp only;split
 ·refine .getObj h1 rfl rfl (by intro c e z h; cases h) (Tm.at ?_);dsimp only;split
  ·exact .dead (.bind (.fc _) _)
  ·split
   ·exact .pure _
   ·exact .fc _
 ·exact (Tm.stuck _).at) fun hg a G w hw dst pos af gd=>by
 obtain ⟨⟨es,c,since,seen,c0,h1,h2,h3,h4,h5,h6,h7,h8,h9⟩,_⟩:=hw.own _ hm;obtain ⟨rfl,e,he,k1,k2,k3⟩:=h9 p rfl;have hf:es.find? (·.born == e.born) = some e:=by rw [← Array.find?_toList]; exact find_born e es.toList h3.2 he
 have hr:(Instr.entry (.pointer (some ⟨r,0,none⟩))).run P w = .ok (.tuple #[E.val p.1,V.val p.2]) w:=by
  simp only [Instr.entry,getObj,Sem.run_bind,Sem.run,h4,h1,Result.andThen,k1,bne_self_eq_false,Bool.false_eq_true,if_false,hf,k2,k3]
  rfl
 simp only [execOp,hx.eval hg G,Sem.run_bind,hr,Result.andThen_ok,Sem.run_pure]
def StampAt (w:World) (b s:Nat) (E:Enc α) (V:Enc β) (q:α→α→Bool) (k:α) (l:List (α × β)):Prop:=∃ es clock i,w.heap[b]? = some (.map es clock) ∧ uN es clock ∧ (∃ e,es[i]? = some e ∧ e.born = s) ∧
 (∀ v:β,ix E V (es.toList.modify i (fun e=>{ e with val:=V.val v })) (lE q k v l)) ∧ ix E V es.toList (lE q k ((cO q k l).getD V.zero) l)
def StampR (b s:Nat) (E:Enc α) (V:Enc β) (q:α→α→Bool) (k:α) (l:List (α × β)):Res where
 bQ:=fun j=>j = b
 A:=fun w=>StampAt w b s E V q k l
 st:=fun w w' h ⟨es,c,i,h1,h2⟩=>⟨es,c,i,(h b rfl).trans h1,h2⟩
theorem qK (q:α→α→Bool) (k:α):∀ (l:List (α × β)) (i:Nat),(fK q k l i).map (·.2) = cO q k l
 | [],i=>rfl
 | p :: l,i=>by
   unfold cO;simp only [fK];split
   ·rfl
   ·rw [qK q k l (i + 1),qK q k l (0 + 1)]
theorem kM (q:α→α→Bool) (k:α) (p:α × β) (l:List (α × β)):cO q k (p :: l) = if q k p.1 then some p.2 else cO q k l:=by
 unfold cO;simp only [fK];split
 ·rfl
 ·exact qK q k l (0 + 1)
theorem lN {q:α→α→Bool} (hi:∀ x y,q x y = true ↔ x = y) (k k':α) (v:β):∀ l:List (α × β),cO q k (lE q k' v l) = if q k k' then some v else cO q k l
 | []=>by rw [lE,kM]
 | p :: l=>by
   rw [lE]
   by_cases h:q k' p.1 = true
   ·rw [if_pos h,kM,kM];have e:=(hi _ _).1 h;subst e
    by_cases h2:q k p.1 = true <;> simp [h2]
   ·rw [if_neg h,kM,kM,lN hi k k' v l]
    by_cases h2:q k k' = true
    ·have e:=(hi _ _).1 h2;subst e;simp [h,h2]
    ·by_cases h3:q k p.1 = true <;> simp [h2,h3]
end
end Go.Gx
