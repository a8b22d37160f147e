/- Part. -/
import Derived.Test.YtjanhajdmhalaaaGreatM14
import Derived.Test.YtjanhajdmhalaaaGreatHxZ
import Derived.Test.YtjanhajdmhalaaaGreatM4
set_option linter.unusedVariables false
set_option linter.unusedSimpArgs false
set_option linter.unusedSectionVars false
namespace Go.Proofs.YtjanhajdmhalaaaGreat
open Go Go.Gx Go.RowKit
section
variable {K:Ctx} {F:Fr} {L:List Res} {g:Bool} {Q:Exit→Act→World→Prop} {N:Act→World→Prop} {ops:Array Oper}
  {op:Op} {ty t t':TypeId} {pos:String} {af:Array Edge} {d:Nat} {x y:Operand}
theorem Ev.eqlFn {f:Fn} {fst cap:Array Value} {ps rs:Array TypeId} {vr:Bool} {P:Program} (ht:P.underlying t = some (.func ps rs vr)) (hx:Opd F g x (.func f fst cap)) (hy:Opd F g y .nilFunc):Ev P K F L g (.binOp .eql t x y t') ty (.bool false):=.of rfl (fun hg ac G w _ dst pos af gd=>by
    show Tm P _ _ ((do eqGuard .eql t x y (ac.eval x) (ac.eval y); binOp .eql t (ac.eval x) (ac.eval y):Sem Value) >>= fun r=>pure (Next.value r))
    rw [hx.eval hg G,hy.eval hg G]
    have e1:binOp .eql t (.func f fst cap) .nilFunc = (do pure (.bool (← Op.equal t (.func f fst cap) .nilFunc))):=rfl
    rw [e1]
    refine .bind (.bind (by unfold eqGuard; exact .pure _) fun _=>.bind ?_ fun _=>.pure _) fun _=>.pure _
    show Tm P _ _ (Op.equalIn (9999 + 1) t (.func f fst cap) .nilFunc)
    unfold Op.equalIn
    refine .under ht ?_
    exact .pure _) fun hg ac G w _ dst pos af gd=>by
  have hru:(underlying t).run P w = .ok (.func ps rs vr) w:=by simp [underlying,ht]
  have hg1:(eqGuard .eql t x y (.func f fst cap) .nilFunc).run P w = .ok () w:=by
    unfold eqGuard
    rfl
  have hE:∀ d:Nat,(Op.equalIn (d + 1) t (.func f fst cap) .nilFunc).run P w = .ok false w:=fun d=>by
    unfold Op.equalIn
    rw [Sem.run_bind,hru]
    rfl
  have he:(Op.equal t (.func f fst cap) .nilFunc).run P w = .ok false w:=hE 9999
  have hb:(binOp .eql t (.func f fst cap) .nilFunc).run P w = .ok (.bool false) w:=by
    have e1:binOp .eql t (.func f fst cap) .nilFunc = (do pure (.bool (← Op.equal t (.func f fst cap) .nilFunc))):=rfl
    rw [e1]
    simp only [Sem.run_bind,he,Result.andThen_ok,Sem.run_pure]
  simp only [execOp,hx.eval hg G,hy.eval hg G,Sem.run_bind,hg1,hb,Result.andThen_ok,Sem.run_pure]
theorem Ev.jU {α:Type} {P:Program} {E:Enc α} {v:Value} {xs:List α} {i:Int} {k s f o:Nat} (hx:Opd F g x (jV v k)) (h:∀ w,bh K L w→bH E w v xs) (hi:g = true→0 ≤ i ∧ i < xs.length)
    (hf:(P.underlying s).bind (fun d=>match d with | .struct fs=>(fs[f]?).bind (fun fd=>(P.info? fd.type).map (fun i=>(fd.offset,Nat.beq i.size 0))) | _=>none) = some (o,false)) :
    Ev P K F L g (.fieldAddr s x f) ty (jV v (k + o)):=fun hg=>⟨rfl,fun a fo w I hn dst pos af gd=>by
  obtain ⟨b,cap,rfl,h1,_,h2,h3⟩:=h w I
  have hi':=hi hg
  cases b with
  | none =>
    have:=(h2 rfl).1
    subst this
    simp at hi'
    omega
  | some p =>
    have hx':Opd F g x (.pointer (some ⟨p.block,p.off + k,none⟩)):=hx
    have:=((Ev.fieldAddr (P:=P) (K:=K) (L:=L) (ty:=ty) hx' hf) hg).2 a fo w I hn dst pos af gd
    rw [Nat.add_assoc] at this
    exact this⟩
def RowR (C n:Nat) (b:Bool):Res:=⟨fun i=>i = C,fun w=>w.heap[C]? = some (.cells (Array.replicate n (.bool b)) 4),fun w w' h ha=>(h C rfl).trans ha⟩
theorem row_rep (b:Bool):∀ n:Nat,bE.row (List.replicate n b) = List.replicate n (.bool b)
  | 0=>rfl
  | n + 1=>by rw [List.replicate_succ,List.replicate_succ,← row_rep b n]; rfl
theorem row_fn:∀ l:List OV,(ovE bU).row l = l.map OV.v
  | []=>rfl
  | x :: l=>by rw [List.map_cons,← row_fn l]; rfl
theorem mM {C n:Nat} {b:Bool} (hn:n ≤ 1048576) (hm:RowR C n b ∈ L) (w:World) (I:bh K L w):bH bE w (.slice (some ⟨C,0,none⟩) n n) (List.replicate n b):=by
  have h:w.heap[C]? = _:=(I.own _ hm).1
  have hm:maxLen = 9223372036854775807:=rfl
  refine ⟨_,n,by rw [List.length_replicate],by rw [List.length_replicate]; exact Nat.le_refl _,by omega,fun e=>(by cases e),fun p hp=>?_⟩
  cases hp
  refine ⟨fun _=>rfl,fun j u hu=>?_⟩
  rw [row_rep,List.getElem?_replicate] at hu
  simp only [World.cell?,h,Nat.zero_add]
  simpa [Array.getElem?_replicate] using hu
set_option maxRecDepth 8000 in
theorem makeRow {n:Nat} {t:TypeId} (ht:Tryz.prog.underlying t = some (.slice 4)) (hx:Opd F true x (I n)) (hy:Opd F true y (I n)) (hn:n ≤ 1048576)
    (next:∀ C,Sat K N ((d,true,.slice (some ⟨C,0,none⟩) n n) :: F) (RowR C n false :: L)) (hd:Nat.blt d K.n = true:=by rfl) :
    Sat K (cF Tryz.prog K ops Q ⟨some d,.makeSlice t x y,ty,pos,af,none⟩ N) F L:=fun a w G=>by
  refine cz rfl rfl fun hnv=>?_
  obtain ⟨i,hi,hz1,hz2,hz3⟩:∃ i,Tryz.prog.info? 4 = some i ∧ i.zero = some (.bool false) ∧ i.bytes = 1 ∧ i.size = 1:=by
    have h:(Tryz.prog.info? 4).map (fun i=>(i.zero,i.bytes,i.size)) = some (some (.bool false),1,1):=by kernel_rfl
    cases hi:Tryz.prog.info? 4 with
    | none=>rw [hi] at h; cases h
    | some i =>
      rw [hi] at h
      simp only [Option.map_some,Option.some.injEq,Prod.mk.injEq] at h
      exact ⟨i,rfl,h⟩
  have hr:=run_make (P:=Tryz.prog) w t 4 i (.bool false) ht hi hz1 .i64 .i64 n n (by omega) (by omega) (by rw [hz2]; omega) (by omega)
  have he:(execOp a.eval ⟨some d,.makeSlice t x y,ty,pos,af,none⟩).run Tryz.prog w = .ok (.value (.slice (some ⟨w.heap.size,0,none⟩) n n)) (w.alloc (.cells (Array.replicate n (.bool false)) 4)):=by
    have hx':=hx.eval rfl G.fo
    have hy':=hy.eval rfl G.fo
    unfold I at hx' hy'
    have hc:madeCells (Value.bool false).cells ((n:Int).toNat * i.size) = Array.replicate n (.bool false):=by
      rw [hz3]
      have:=made_toList bE false n (by decide)
      have e:(Int.toNat n * 1) = n * bE.size:=by simp [bE,scE]
      rw [e]
      apply Array.toList_inj.1
      refine this.trans ?_
      rw [row_rep]
      simp
    rw [hc,Int.toNat_natCast] at hr
    simp only [execOp,hx',hy',Sem.run_bind,hr,Result.andThen_ok,Sem.run_pure]
  refine oR he (.bind (.makeSlice _ _ _) fun _=>.pure _) hnv ?_
  refine next w.heap.size _ _ (G.put d true _ _ (by simpa [Nat.blt_eq] using hd) rfl (G.inv.add (aX.alloc _ _ _) (heap_alloc_new w _) ?_))
  intro b hb
  have:b = w.heap.size:=hb
  subst this
  exact ⟨Nat.le_refl _,by simp⟩
theorem callFree (hX:K.E.X = XP) {C n:Nat} {cap:Nat→List Value} {v:Value} {ats:Array TypeId} {L1 L':List Res} (h0:0 < n) (hn:n ≤ 16) (hx:Opd F true x v)
    (hr:Rem L (RowR C n false) L1) (hm:aP v (ovE bU) ((List.range n).map fun i=>clo 7 (cap i)) 54 ∈ L1) (hu:Upd L (RowR C n false) (RowR C n true) L')
    (hw:∀ w,bh K L w→Gx.Calls Tryz.prog 20 #[v] w (cD w (I 0)))
    (hg:∀ i,i < n→∀ w,(∀ w',aX (· = C) w w'→bh K L1 w')→At (jr C i (.bool false)) w→Gx.Calls Tryz.prog 7 (.nilIface :: cap i).toArray w (iZ w (jr C i (.bool false)) (fun _:Unit=>True) (fun _=>.tuple #[]) (fun _=>jr C i (.bool true))))
    (next:Sat K N ((d,true,I 0) :: F) L') (hd:Nat.blt d K.n = true:=by rfl) :
    Sat K (cF Tryz.prog K ops Q ⟨some d,.call { callee:=.value (.func 8),args:=#[x],argTypes:=ats },ty,pos,af,none⟩ N) F L:=by
  have hml:aP v (ovE bU) ((List.range n).map fun i=>clo 7 (cap i)) 54 ∈ L:=hr.perm.mem_iff.1 (List.mem_cons_of_mem _ hm)
  have hmr:RowR C n false ∈ L:=hu.mem
  refine callx (X:=Unit) (args:=[x]) (vs:=[v]) (fun w=>⟨(· = C),fun e w'=>e = .returned (.int .i64 0) ∧ aX (· = C) w w' ∧ w'.heap[C]? = some (ml n)⟩) (fun _=>True) (fun _=>I 0) (fun _=>L') (aC.mk' (by kernel_rfl)) (.cons hx .nil) (fun w I=>?_) (fun w I b hb=>((I.own _ hmr).2 b hb).1)
    (fun w I u w' ⟨he,hk,ha⟩=>⟨(),trivial,by cases he; rfl,I.upd hu hk ha fun b hb=>⟨.inl hb,by rw [show b = C from hb]; exact aS ha⟩⟩) (fun _ _=>next) hd
  rw [hX]
  have hrow:w.heap[C]? = _:=(I.own _ hmr).1
  obtain ⟨ho1,ho2⟩:=(I.own _ hml).1
  have hlen:((List.range n).map fun i=>clo 7 (cap i)).length = n:=by simp
  rw [hlen] at ho2
  rcases ho2 with ⟨_,h⟩ | ⟨gb,cp,cur,rfl,_,hh,h1,h2,h3,h4⟩
  · omega
  have hne:gb ≠ C:=fun e=>by
    have hp:=I.perm hr.perm
    exact (List.pairwise_cons.1 hp.dis).1 _ hm C rfl (by subst e; rfl)
  refine free_ok (cap:=fun i=>(cap i).toArray) ⟨h0,hn,fun i hi=>?_,hne,hrow,fun v s hgr nv h5 h6=>hw v (I.grow (aX.ew hgr)) X0 s h6 (fun _ h=>h.elim),fun i hi v s nv h5 h6 h7 h8=>?_⟩
  · rw [row_fn,List.map_map] at h4
    have h5:(cur.toList.take (n * (ovE bU).size))[i]? = some (clo 7 (cap i)).v:=by
      rw [h4]; simp [hi]
    rw [List.getElem?_take] at h5
    split at h5
    · simp only [World.cell?,hh]
      have h6:cur[i]? = some (clo 7 (cap i)).v:=by simpa using h5
      simpa [clo] using h6
    · cases h5
  · have hc:=(hg i hi v (fun w' k=>I.but hr (h8.trans k)) ⟨h7,fun b hb=>by rw [show b = C from hb]; exact aS h7⟩).front (X:=X0) (s:=s) (fun _ _ _ _ _ _ h=>h) ⟨h5,fun b hb hp hv=>hp.elim (fun h=>absurd hb (by omega)) fun h=>by
      have h9:=hv _ (show v.heap[b]? = _ by rw [show b = C from h]; exact h7)
      simp [isP,slot] at h9⟩
    have e:#[Value.nilIface] ++ (cap i).toArray = (.nilIface :: cap i).toArray:=by simp
    rw [e]
    exact hc.mono (fun b hb=>hb) fun e v' ⟨_,_,h9,_,h10,_⟩=>⟨h9,h10⟩
end
end Go.Proofs.YtjanhajdmhalaaaGreat
namespace Go.Proofs.YtjanhajdmhalaaaGreat
open Go Go.Gx Go.Proofs.YtjanhajdmhalaaaGreat.Tri
def FnsB (xs:List OV):Prop:=∀ i,i < xs.length→∃ c,xs.getD i bU = clo 7 c
theorem notnil_ok (x:OV) (c:List Value) (w:World) (hx:x = clo 7 c):Gx.Calls Tryz.prog 42 #[x.v] w (cD w (.bool false)):=by
  subst hx
  refine pz 5 Tryz.func42 rfl rfl (Nat.le_of_ble_eq_true rfl) (fun _ _=>?_)
  refine seq (region (cons (opv (Ev.assign (.c (v:=.bool false) rfl)) ?_)))
  refine nil (pN (seq (region (cons (opv (Ev.move (.t rfl)) (cons (opv (Ev.eqlFn Tryz.underlying54 (.t rfl) (.c (v:=.nilFunc) rfl)) ?_)))))))
  refine cons (opv (Ev.assign (.t rfl)) (nil (pN (ret (done rfl (.tmp rfl .nil) (bc ?_))))))
  rfl
theorem ty54:bF Tryz.prog 54 (ovE bU):=bF.mk' (by kernel_rfl) (by kernel_rfl)
theorem indexfn_ok (u:Value) (xs:List OV) (w:World) (hx:bH (ovE bU) w u xs) (hf:FnsB xs):Gx.Calls Tryz.prog 86 #[u,(clo 42 []).v] w (cD w (I (-1))):=by
  have hle:=hx.le
  refine pz 19 Tryz.func86 rfl rfl (Nat.le_of_ble_eq_true rfl) (fun _ _=>?_)
  refine seq (region (cons (opv (Ev.assign (.c (v:=I 0) rfl)) ?_)))
  refine nil (pN (seq (seq (region (cons (opv (Ev.move (.t rfl)) (cons (opv (Ev.len Tryz.underlying51 (.t rfl) (fun w I=>hx.aT I.keeps)) ?_))))))))
  refine cons (opv (Ev.move (.c (v:=I 0) rfl)) ?_)
  refine nil (pN (block (lp (X:=Int) (fun x:Int=>(0 ≤ x ∧ x ≤ xs.length)) (fun x:Int=>[dz,(0,true,u),(1,true,(clo 42 []).v),(7,true,I xs.length),(8,true,I x)]) (fun x:Int=>[]) (fun x:Int=>((xs.length:Int) - x).toNat) (0) ?_ (fun x hx=>?_))))
  · omega
  obtain ⟨i,rfl⟩:∃ y,y = x:=⟨x,rfl⟩
  have hi:0 ≤ i ∧ i ≤ xs.length:=hx
  clear hx
  show Sat _ _ [dz,(0,true,u),(1,true,(clo 42 []).v),(7,true,I xs.length),(8,true,I i)] []
  refine seq (region (cons (opv (Ev.dx (.t rfl) (.t rfl)) ?_)))
  refine nil (pN (seq ?_))
  first | refine aL rfl (fun h0=>?_) (fun h0=>?_) | refine cond rfl (fun h0=>?_) (fun h0=>?_)
  · try simp only [Gx.nb] at h0
    refine skip (pN (seq (block (seq (region (cons (opv (Ev.move (.t rfl)) (cons (opv (Ev.assign (.t rfl)) (nil (pN (seq (region (cons (opv (Ev.move (.t rfl)) (cons (opv (Ev.move (.t rfl)) (cons (opv (Ev.move (.t rfl)) (cons (opv (Ev.indexAddr Tryz.underlying51 ty54 (.t rfl) (.t rfl) (fun w I=>hx.aT I.keeps) (fun _=>by omega)) ?_)))))))))))))))))))))
    refine cons (opv (Ev.dp ty54 (.t rfl) (fun w I=>hx.aT I.keeps) (fun _=>by omega)) ?_)
    refine cons (fL (.t rfl) (Gx.aC.mk' (by kernel_rfl)) (.cons (.t rfl) .nil) (fun w I=>notnil_ok _ _ w (hf i.toNat (by omega)).choose_spec) ?_)
    refine nil (pN (il rfl (rfl) ?_))
    refine skip (bN (pN (region (cons (opv (Ev.a8 (.t rfl) (.c (v:=I 1) rfl) (fun _=>by omega)) ?_)))))
    refine cons (opv (Ev.move (.t rfl)) (nil (pN (nx (X:=Int) (i + 1) ?_ ?_))))
    · try dsimp only
      omega
    · try dsimp only
      omega
  · try simp only [Gx.nb] at h0
    refine exit (pX (pX (bX (pN (seq (region (cons (opv (Ev.assign (.c (v:=I (-1)) rfl)) ?_))))))))
    refine nil (pN (ret (done rfl (.tmp rfl .nil) (bc ?_))))
    rfl
theorem en86:Gx.aC Tryz.prog 86:=Gx.aC.mk' (by kernel_rfl)
theorem containsfn_ok (u:Value) (xs:List OV) (w:World) (hx:bH (ovE bU) w u xs) (hf:FnsB xs):Gx.Calls Tryz.prog 41 #[u,(clo 42 []).v] w (cD w (.bool false)):=by
  refine pz 9 Tryz.func41 rfl rfl (Nat.le_of_ble_eq_true rfl) (fun _ _=>?_)
  refine seq (region (cons (opv (Ev.assign (.c (v:=.bool false) rfl)) ?_)))
  refine nil (pN (seq (region (cons (opv (Ev.move (.t rfl)) (cons (opv (Ev.move (.t rfl)) (cons (aZ en86 (.cons (.t rfl) (.cons (.t rfl) .nil)) (fun w I=>indexfn_ok u xs w (hx.aT I.keeps) hf) ?_)))))))))
  refine cons (opv (Ev.geq_i (.t rfl) (.c (v:=I 0) rfl)) ?_)
  refine cons (opv (Ev.assign (.t rfl)) (nil (pN (ret (done rfl (.tmp rfl .nil) (bc ?_))))))
  rfl
theorem en41:Gx.aC Tryz.prog 41:=Gx.aC.mk' (by kernel_rfl)
theorem wrong_ok (u:Value) (xs:List OV) (w:World) (hx:bH (ovE bU) w u xs) (hf:FnsB xs) (hn:0 < xs.length ∧ xs.length ≤ 16):Gx.Calls Tryz.prog 20 #[u] w (cD w (I 0)):=by
  refine pz 14 Tryz.func20 rfl rfl (Nat.le_of_ble_eq_true rfl) (fun _ _=>?_)
  refine seq (region (cons (opv (Ev.assign (.c (v:=I 0) rfl)) ?_)))
  refine nil (pN (seq (block (seq (region (cons (opv (Ev.move (.t rfl)) (cons (aZ en41 (.cons (.t rfl) (.cons .f .nil)) (fun w I=>containsfn_ok u xs w (hx.aT I.keeps) hf) ?_)))))))))
  refine cons (opv (Ev.assign (.t rfl)) (nil (pN (il rfl (rfl) ?_))))
  refine seq (region (cons (opv (Ev.move (.t rfl)) (cons (opv (Ev.len Tryz.underlying51 (.t rfl) (fun w I=>hx.aT I.keeps)) ?_)))))
  refine cons (opv (Ev.fD (.t rfl) (.c (v:=I 0) rfl)) ?_)
  refine cons (opv (Ev.assign (.t rfl)) (nil (pN (il rfl (decide_eq_false (by omega)) ?_))))
  refine seq (region (cons (opv (Ev.move (.t rfl)) (cons (opv (Ev.len Tryz.underlying51 (.t rfl) (fun w I=>hx.aT I.keeps)) ?_)))))
  refine cons (opv (Ev.eJ (.t rfl) (.c (v:=I 16) rfl)) ?_)
  refine cons (opv (Ev.assign (.t rfl)) (nil (pN (il rfl (decide_eq_false (by omega)) ?_))))
  refine skip (bN (pN (seq (region (cons (opv (Ev.assign (.c (v:=I 0) rfl)) ?_))))))
  refine nil (pN (ret (done rfl (.tmp rfl .nil) (bc ?_))))
  rfl
end Go.Proofs.YtjanhajdmhalaaaGreat
namespace Go.Proofs.YtjanhajdmhalaaaGreat
open Go Go.Gx Go.Proofs.YtjanhajdmhalaaaGreat.Tri
structure bo where
  in_:Int
  h:au
def bo.to:(Int × au)→bo:=fun x=>⟨x.1,x.2⟩
def bo.of:bo→(Int × au):=fun x=>(x.in_,x.h)
def cn:Enc bo:=iH (aa iE bS) bo.to bo.of
def bo.jF:ak cn iE 0:=cP _ bo.to bo.of (fun _=>rfl) (dF iE bS)
@[simp] theorem bo.get_in_ (x:bo):bo.jF.get x = x.in_:=rfl
@[simp] theorem bo.set_in_ (x:bo) (y:Int):bo.jF.set x y = { x with in_:=y }:=rfl
def bo.l_h:ak cn bS 1:=cP _ bo.to bo.of (fun _=>rfl) (ak.comp (bg iE bS) (ak.id bS))
@[simp] theorem bo.get_h (x:bo):bo.l_h.get x = x.h:=rfl
@[simp] theorem bo.set_h (x:bo) (y:au):bo.l_h.set x y = { x with h:=y }:=rfl
structure PksAt (w:World) (xs:List bo) (dts:List (List UInt8)):Prop where
  sl:∀ i,i < xs.length→bH u8E w (xs.getD i cn.zero).h.data.v (dts.getD i [])
  ln:∀ i,i < xs.length→(dts.getD i []).length ≤ 1152921504606846975
theorem k7 (p:Pl) (l:CL) (d n:Int) (h:au) (dt:List UInt8) (z:aF) (e:Int) (w:World) (hp:jZ w p l d) (ho:nB p l d) (hd:bH u8E w h.data.v dt) (hl:dt.length ≤ 1152921504606846975) (hz:dvV l d n h dt.length = z) (he:deE h dt.length = e):Gx.Calls Tryz.prog 6 #[.pointer (some ⟨p.b,0,none⟩),I n,bS.val h] w (cD w (.tuple #[aW.val z,I e])):=by
  subst hz he
  exact k8 p l d n h dt w hp ho hd hl
structure Gt where
  p:Pl
  l:CL
  d:Int
  u:OV
  xs:List bo
  dts:List (List UInt8)
  wv:OV
  ws:List aF
  m:Nat
structure GateAt (w:World) (G:Gt) (C cnt i b1 b2 b3 b4 b5 b6:Nat):Prop where
  pl:jZ w G.p G.l G.d
  ok:nB G.p G.l G.d
  sl:bH cn w G.u.v G.xs
  pk:PksAt w G.xs G.dts
  ws:bH aW w G.wv.v G.ws
  wl:G.ws.length = G.m
  le:G.m ≤ G.xs.length
  lt:i < cnt
  eq:∀ k,k < G.m→G.ws.getD k aW.zero = dvV G.l G.d (G.xs.getD k cn.zero).in_ (G.xs.getD k cn.zero).h (G.dts.getD k []).length
  g1:cE (ovE aw) w b1 0 ⟨.slice (some ⟨C,0,none⟩) cnt cnt,rfl⟩
  g2:cE iE w b2 0 i
  g3:cE iE w b3 0 G.m
  g4:cE (ovE aR) w b4 0 ⟨.pointer (some ⟨G.p.b,0,none⟩),rfl⟩
  g5:cE (ovE aw) w b5 0 G.u
  g6:cE (ovE aw) w b6 0 G.wv
theorem ty50:bF Tryz.prog 50 (ovE aw):=bF.mk' (by kernel_rfl) (by kernel_rfl)
theorem ty31:bF Tryz.prog 31 (ovE aR):=bF.mk' (by kernel_rfl) (by kernel_rfl)
theorem ty29:bF Tryz.prog 29 (ovE aw):=bF.mk' (by kernel_rfl) (by kernel_rfl)
theorem ty49:bF Tryz.prog 49 cn:=bF.mk' (by kernel_rfl) (by kernel_rfl)
theorem gate_ok (G:Gt) (C cnt i b1 b2 b3 b4 b5 b6:Nat) (w:World) (H:∀ w',aX (· = C) w w'→GateAt w' G C cnt i b1 b2 b3 b4 b5 b6) (ha:At (jr C i (.bool false)) w):Gx.Calls Tryz.prog 7 #[.nilIface,.pointer (some ⟨b1,0,none⟩),.pointer (some ⟨b2,0,none⟩),.pointer (some ⟨b3,0,none⟩),.pointer (some ⟨b4,0,none⟩),.pointer (some ⟨b5,0,none⟩),.pointer (some ⟨b6,0,none⟩)] w (iZ w (jr C i (.bool false)) (fun _:Unit=>True) (fun _=>.tuple #[]) (fun _=>jr C i (.bool true))):=by
  have hG:=H w (.refl _ _)
  have hsl:=hG.sl.le
  have hle:=hG.le
  refine enter 50 [jr C i (.bool false)] Tryz.func7 rfl rfl (Nat.le_of_ble_eq_true rfl) (iR ha) (fun _ _=>?_)
  refine seq (region (cons (opv (Ev.to (v':=.slice (some ⟨C,0,none⟩) cnt cnt) (Ev.load ty50 (.t rfl) (cU (fun w I=>(H w I.keeps).g1) (ak.id _))) (rfl)) ?_)))
  refine cons (opv (Ev.to (v':=I i) (Ev.load ty3 (.t rfl) (cU (fun w I=>(H w I.keeps).g2) (ak.id _))) (rfl)) ?_)
  refine cons (opv (Ev.to (v':=.pointer (some ⟨C,i,none⟩)) (Ev.jG Tryz.underlying50 Tryz.sizeOf4 (.t rfl) (.t rfl) (fun _=>by have:=hG.lt; omega)) (by rw [Int.toNat_natCast])) ?_)
  refine cons (na Tryz.sizeOf4 (.t rfl) (.c (v:=.bool true) rfl) rfl (by repeat first | exact Upd.head | apply Upd.tail | apply Upd.right) ?_)
  refine nil (pN (seq (region (cons (opv (Ev.to (v':=I G.m) (Ev.load ty3 (.t rfl) (cU (fun w I=>(H w I.keeps).g3) (ak.id _))) (rfl)) ?_)))))
  refine cons (opv (Ev.lx (.t rfl) (.c (v:=I 1) rfl) (fun _=>by omega)) ?_)
  refine cons (opv (Ev.assign (.t rfl)) (nil (pN (block (lp (X:=Int) (fun x:Int=>(-1 ≤ x ∧ x < G.m)) (fun x:Int=>[dz,(1,true,.pointer (some ⟨b1,0,none⟩)),(2,true,.pointer (some ⟨b2,0,none⟩)),(3,true,.pointer (some ⟨b3,0,none⟩)),(4,true,.pointer (some ⟨b4,0,none⟩)),(5,true,.pointer (some ⟨b5,0,none⟩)),(6,true,.pointer (some ⟨b6,0,none⟩)),(8,true,I x)]) (fun x:Int=>[jr C i (.bool true)]) (fun x:Int=>(x + 1).toNat) ((G.m:Int) - 1) ?_ (fun x hx=>?_))))))
  · omega
  obtain ⟨k,rfl⟩:∃ y,y = x:=⟨x,rfl⟩
  have hk:-1 ≤ k ∧ k < G.m:=hx
  clear hx
  show Sat _ _ [dz,(1,true,.pointer (some ⟨b1,0,none⟩)),(2,true,.pointer (some ⟨b2,0,none⟩)),(3,true,.pointer (some ⟨b3,0,none⟩)),(4,true,.pointer (some ⟨b4,0,none⟩)),(5,true,.pointer (some ⟨b5,0,none⟩)),(6,true,.pointer (some ⟨b6,0,none⟩)),(8,true,I k)] [jr C i (.bool true)]
  refine seq (seq (region (cons (opv (Ev.move (.t rfl)) (cons (opv (Ev.geq_i (.t rfl) (.c (v:=I 0) rfl)) ?_))))))
  refine nil (pN ?_)
  first | refine aL rfl (fun h0=>?_) (fun h0=>?_) | refine cond rfl (fun h0=>?_) (fun h0=>?_)
  · try simp only [Gx.nb] at h0
    refine skip (pN (seq (block (seq ?_))))
    obtain ⟨V,hV⟩:∃ z,dvV G.l G.d (G.xs.getD k.toNat cn.zero).in_ (G.xs.getD k.toNat cn.zero).h (G.dts.getD k.toNat []).length = z:=⟨_,rfl⟩
    obtain ⟨E0,hE⟩:∃ z,deE (G.xs.getD k.toNat cn.zero).h (G.dts.getD k.toNat []).length = z:=⟨_,rfl⟩
    have hk2:k.toNat < G.m:=by omega
    refine df (by kernel_rfl) ?_
    refine tk 0 rfl (Ev.to (v':=.pointer (some ⟨G.p.b,0,none⟩)) (Ev.load ty31 (.t rfl) (cU (fun w I=>(H w I.keeps).g4) (ak.id _))) (rfl)) ?_
    refine tk 1 rfl (Ev.to (v':=G.u.v) (Ev.load ty29 (.t rfl) (cU (fun w I=>(H w I.keeps).g5) (ak.id _))) (rfl)) ?_
    refine tk 2 rfl (Ev.move (.t rfl)) ?_
    refine tk 3 rfl (Ev.indexAddr Tryz.underlying29 ty49 (.t rfl) (.t rfl) (fun w I=>(H w I.keeps).sl) (fun _=>by have:=hG.le; omega)) ?_
    refine tk 4 rfl (Ev.jU (o:=0) (i:=k) (.t rfl) (fun w I=>(H w I.keeps).sl) (fun _=>by have:=hG.le; omega) (by kernel_rfl)) ?_
    refine tk 5 rfl (Ev.loadS ty3 bo.jF rfl (.t rfl) (fun w I=>(H w I.keeps).sl) (fun _=>by have:=hG.le; omega)) ?_
    refine tk 6 rfl (Ev.to (v':=G.u.v) (Ev.load ty29 (.t rfl) (cU (fun w I=>(H w I.keeps).g5) (ak.id _))) (rfl)) ?_
    refine tk 7 rfl (Ev.move (.t rfl)) ?_
    refine tk 8 rfl (Ev.indexAddr Tryz.underlying29 ty49 (.t rfl) (.t rfl) (fun w I=>(H w I.keeps).sl) (fun _=>by have:=hG.le; omega)) ?_
    refine tk 9 rfl (Ev.jU (o:=1) (i:=k) (.t rfl) (fun w I=>(H w I.keeps).sl) (fun _=>by have:=hG.le; omega) (by kernel_rfl)) ?_
    refine tk 10 rfl (Ev.loadS iC bo.l_h rfl (.t rfl) (fun w I=>(H w I.keeps).sl) (fun _=>by have:=hG.le; omega)) ?_
    refine all [11,15] (by kernel_rfl) (by decide) (.cons rfl ?_ (.cons rfl ?_ .nil))
    · refine (aZ en6 (.cons (.t rfl) (.cons (.t rfl) (.cons (.t rfl) .nil))) (fun w I=>k7 G.p G.l G.d _ _ (G.dts.getD k.toNat []) V E0 w (H w I.keeps).pl hG.ok ((H w I.keeps).pk.sl _ (by have:=hG.le; omega)) ((H w I.keeps).pk.ln _ (by have:=hG.le; omega)) hV hE) ?_)
      refine hdn (tk 12 rfl (Ev.move (.t rfl)) ?_)
      refine tk 13 rfl (Ev.extract (.t rfl) rfl) ?_
      refine tk 14 rfl (Ev.extract (.t rfl) rfl) ?_
      refine al1 15 rfl ((alloc z37 (fun b1=>?_)))
      refine hdn (al1 16 rfl ((stv eY (ak.id _) (.t rfl) (.t rfl) ?_)))
      refine hdn (tk 17 rfl (Ev.assign (.t rfl)) ?_)
      refine ovr (pN (draw [Var b1 aW V 37,jr C i (.bool true)] (by kernel_rfl) ?_))
      refine tk 0 rfl (Ev.to (v':=.slice (some ⟨C,0,none⟩) cnt cnt) (Ev.load ty50 (.t rfl) (cU (fun w I=>(H w I.keeps).g1) (ak.id _))) (rfl)) ?_
      refine tk 1 rfl (Ev.to (v':=I i) (Ev.load ty3 (.t rfl) (cU (fun w I=>(H w I.keeps).g2) (ak.id _))) (rfl)) ?_
      refine tk 2 rfl (Ev.to (v':=.slice (some ⟨C,0,none⟩) cnt cnt) (Ev.load ty50 (.t rfl) (cU (fun w I=>(H w I.keeps).g1) (ak.id _))) (rfl)) ?_
      refine tk 3 rfl (Ev.to (v':=I i) (Ev.load ty3 (.t rfl) (cU (fun w I=>(H w I.keeps).g2) (ak.id _))) (rfl)) ?_
      refine tk 4 rfl (Ev.to (v':=.pointer (some ⟨C,i,none⟩)) (Ev.jG Tryz.underlying50 Tryz.sizeOf4 (.t rfl) (.t rfl) (fun _=>by have:=hG.lt; omega)) (by rw [Int.toNat_natCast])) ?_
      refine tk 5 rfl (Ev.loadSlot Tryz.underlying4 Tryz.isAgg4 (.t rfl) (by repeat first | exact mH | apply mT | apply mA)) ?_
      refine tk 6 rfl (Ev.move (.t rfl)) ?_
      refine tkg 7 rfl rfl rfl (Ev.ldv eY (.t rfl) (ak.id _)) ?_
      refine tkg 8 rfl rfl rfl (Ev.to (v':=G.wv.v) (Ev.load j5 (.t rfl) (cU (fun w I=>(H w I.keeps).g6) (ak.id _))) (rfl)) ?_
      refine tkg 9 rfl rfl rfl (Ev.move (.t rfl)) ?_
      refine tkg 10 rfl rfl rfl (Ev.indexAddr Tryz.underlying35 eY (.g rfl id) (.g rfl id) (fun w I=>(H w I.keeps).ws) (fun _=>by have:=hG.wl; omega)) ?_
      refine tkg 11 rfl rfl rfl (Ev.to (v':=aW.val V) (Ev.dp eY (.g rfl id) (fun w I=>(H w I.keeps).ws) (fun _=>by have:=hG.wl; omega)) (congrArg aW.val ((hG.eq _ hk2).trans hV))) ?_
      refine tkg 12 rfl rfl rfl (Ev.to (v':=.bool true) (Ev.eqlS rfl pn rfl (by kernel_rfl) (.g rfl id) (.g rfl id)) (congrArg Value.bool (by simp [aF.eqb]))) ?_
      refine tk 13 rfl (Ev.to (v':=.bool true) (Ev.pickA (.t rfl) (fun {_} h=>by cases h; rfl) ⟨_,rfl⟩ (by intro h1 h; first | (rw [h] <;> rfl) | (rw [h1,h] <;> rfl) | (rw [h,h1] <;> rfl) | simp_all) (.c (v:=.bool false) rfl)) (rfl)) ?_
      refine tk 14 rfl (Ev.to (v':=.pointer (some ⟨C,i,none⟩)) (Ev.jG Tryz.underlying50 Tryz.sizeOf4 (.t rfl) (.t rfl) (fun _=>by have:=hG.lt; omega)) (by rw [Int.toNat_natCast])) ?_
      refine al1 15 rfl ((na Tryz.sizeOf4 (.t rfl) (.t rfl) rfl (by repeat first | exact Upd.head | apply Upd.tail | apply Upd.right) ?_))
      refine hdn (ovr (bN (pN (region (cons (opv (Ev.move (.t rfl)) (cons (opv (Ev.lx (.t rfl) (.c (v:=I 1) rfl) (fun _=>by omega)) ?_))))))))
      refine cons (opv (Ev.assign (.t rfl)) (nil (pN (nx (X:=Int) (k - 1) ?_ ?_))))
      · try dsimp only
        omega
      · try dsimp only
        omega
    · refine (alloc z37 (fun b2=>?_))
      refine hdn (al1 11 rfl ((aZ en6 (.cons (.t rfl) (.cons (.t rfl) (.cons (.t rfl) .nil))) (fun w I=>k7 G.p G.l G.d _ _ (G.dts.getD k.toNat []) V E0 w (H w I.keeps).pl hG.ok ((H w I.keeps).pk.sl _ (by have:=hG.le; omega)) ((H w I.keeps).pk.ln _ (by have:=hG.le; omega)) hV hE) ?_)))
      refine hdn (tk 12 rfl (Ev.move (.t rfl)) ?_)
      refine tk 13 rfl (Ev.extract (.t rfl) rfl) ?_
      refine tk 14 rfl (Ev.extract (.t rfl) rfl) ?_
      refine al1 16 rfl ((stv eY (ak.id _) (.t rfl) (.t rfl) ?_))
      refine hdn (tk 17 rfl (Ev.assign (.t rfl)) ?_)
      refine ovr (pN (draw [Var b2 aW V 37,jr C i (.bool true)] (by kernel_rfl) ?_))
      refine tk 0 rfl (Ev.to (v':=.slice (some ⟨C,0,none⟩) cnt cnt) (Ev.load ty50 (.t rfl) (cU (fun w I=>(H w I.keeps).g1) (ak.id _))) (rfl)) ?_
      refine tk 1 rfl (Ev.to (v':=I i) (Ev.load ty3 (.t rfl) (cU (fun w I=>(H w I.keeps).g2) (ak.id _))) (rfl)) ?_
      refine tk 2 rfl (Ev.to (v':=.slice (some ⟨C,0,none⟩) cnt cnt) (Ev.load ty50 (.t rfl) (cU (fun w I=>(H w I.keeps).g1) (ak.id _))) (rfl)) ?_
      refine tk 3 rfl (Ev.to (v':=I i) (Ev.load ty3 (.t rfl) (cU (fun w I=>(H w I.keeps).g2) (ak.id _))) (rfl)) ?_
      refine tk 4 rfl (Ev.to (v':=.pointer (some ⟨C,i,none⟩)) (Ev.jG Tryz.underlying50 Tryz.sizeOf4 (.t rfl) (.t rfl) (fun _=>by have:=hG.lt; omega)) (by rw [Int.toNat_natCast])) ?_
      refine tk 5 rfl (Ev.loadSlot Tryz.underlying4 Tryz.isAgg4 (.t rfl) (by repeat first | exact mH | apply mT | apply mA)) ?_
      refine tk 6 rfl (Ev.move (.t rfl)) ?_
      refine tkg 7 rfl rfl rfl (Ev.ldv eY (.t rfl) (ak.id _)) ?_
      refine tkg 8 rfl rfl rfl (Ev.to (v':=G.wv.v) (Ev.load j5 (.t rfl) (cU (fun w I=>(H w I.keeps).g6) (ak.id _))) (rfl)) ?_
      refine tkg 9 rfl rfl rfl (Ev.move (.t rfl)) ?_
      refine tkg 10 rfl rfl rfl (Ev.indexAddr Tryz.underlying35 eY (.g rfl id) (.g rfl id) (fun w I=>(H w I.keeps).ws) (fun _=>by have:=hG.wl; omega)) ?_
      refine tkg 11 rfl rfl rfl (Ev.to (v':=aW.val V) (Ev.dp eY (.g rfl id) (fun w I=>(H w I.keeps).ws) (fun _=>by have:=hG.wl; omega)) (congrArg aW.val ((hG.eq _ hk2).trans hV))) ?_
      refine tkg 12 rfl rfl rfl (Ev.to (v':=.bool true) (Ev.eqlS rfl pn rfl (by kernel_rfl) (.g rfl id) (.g rfl id)) (congrArg Value.bool (by simp [aF.eqb]))) ?_
      refine tk 13 rfl (Ev.to (v':=.bool true) (Ev.pickA (.t rfl) (fun {_} h=>by cases h; rfl) ⟨_,rfl⟩ (by intro h1 h; first | (rw [h] <;> rfl) | (rw [h1,h] <;> rfl) | (rw [h,h1] <;> rfl) | simp_all) (.c (v:=.bool false) rfl)) (rfl)) ?_
      refine tk 14 rfl (Ev.to (v':=.pointer (some ⟨C,i,none⟩)) (Ev.jG Tryz.underlying50 Tryz.sizeOf4 (.t rfl) (.t rfl) (fun _=>by have:=hG.lt; omega)) (by rw [Int.toNat_natCast])) ?_
      refine al1 15 rfl ((na Tryz.sizeOf4 (.t rfl) (.t rfl) rfl (by repeat first | exact Upd.head | apply Upd.tail | apply Upd.right) ?_))
      refine hdn (ovr (bN (pN (region (cons (opv (Ev.move (.t rfl)) (cons (opv (Ev.lx (.t rfl) (.c (v:=I 1) rfl) (fun _=>by omega)) ?_))))))))
      refine cons (opv (Ev.assign (.t rfl)) (nil (pN (nx (X:=Int) (k - 1) ?_ ?_))))
      · try dsimp only
        omega
      · try dsimp only
        omega
  · try simp only [Gx.nb] at h0
    refine exit (pX (pX (bX (mR rfl .nil (fun w I=>?_)))))
    exact retR () trivial rfl (by repeat first | exact mH | apply mT | apply mA) w I
end Go.Proofs.YtjanhajdmhalaaaGreat
