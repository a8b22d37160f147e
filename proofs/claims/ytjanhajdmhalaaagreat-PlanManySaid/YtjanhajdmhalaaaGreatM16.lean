/- Part. -/
import Derived.Conc.LeavingOf
import Derived.Test.YtjanhajdmhalaaaGreatHxA
import Derived.Test.YtjanhajdmhalaaaGreatM10
import Derived.Test.YtjanhajdmhalaaaGreatM15
set_option linter.unusedVariables false
set_option linter.unusedSimpArgs false
set_option linter.unusedSectionVars false
namespace Go.Gx
open Go Go.Conc Go.RowKit
def LvF (P:Program) (pm:Nat→Prop) (fr:Nat) (f:FuncId) (R:Value→World→Prop) (g:Goroutine) (v:World):Prop :=
  ∃ frm val v0,g = G frm [] ∧ frm.fn = f ∧ frm.kind = .normal ∧ R val v0 ∧ bT v0 v ∧ Leaves P pm fr frm val v
theorem LvF.closed {P:Program} {pm:Nat→Prop} {fr:Nat} {f:FuncId} {R:Value→World→Prop}:Closed (LvF P pm fr f R):=by
  rintro g v v1 ⟨frm,val,v0,h1,h1',h2,h3,h4,h5⟩ hg
  exact ⟨frm,val,v0,h1,h1',h2,h3,h4.trans hg,h5.grow hg⟩
def CallF (X:Ext) (fr:Nat) (P:Program) (f:FuncId) (args:Array Value) (v:World) (R:dg):Prop :=
  cQ X P true (pmC v R.M) fr (LvF P (pmC v R.M) fr f (fun val v'=>R.Q (.returned val) v')) (G (Frame.enter P f args .normal) []) v
theorem callF_of_wp {X:Ext} {fr:Nat} {P:Program} {f:FuncId} {fn:Func} {c:Code} {args:Array Value} {v:World} {R:dg} (hf:P.funcs[f]? = some fn) (hb:fn.body = some c)
    (h:c.wpX P ⟨X,fr,none⟩ (pmC v R.M) (ny P fr fn (pmC v R.M) R) { tmps:=args ++ Array.replicate (fn.ntmps - args.size) undef,defers:=[] } v):CallF X fr P f args v R:=by
  have e:Frame.enter P f args .normal = (gj f .normal).atR { tmps:=args ++ Array.replicate (fn.ntmps - args.size) undef,defers:=[] } [.code c]:=by
    simp [Frame.enter,Frame.atR,hf,hb,gj]
    rfl
  unfold CallF
  rw [e]
  have lv:∀ (ds:List Deferred) (tm:Array Value) (v':World) (todo:List Item),kP P fr fn (pmC v R.M) R tm ds v' →
      cQ X P true (pmC v R.M) fr (LvF P (pmC v R.M) fr f (fun val v'=>R.Q (.returned val) v')) (G { (gj f .normal).atR ⟨tm,ds⟩ todo with mode:=.returning } []) v':=by
    intro ds
    induction ds with
    | nil =>
      rintro tm v' todo ⟨val,hr,hR⟩
      exact .stop ⟨_,val,v',rfl,rfl,rfl,hR,.refl _,⟨rfl,rfl,fn,hf,hr⟩⟩
    | cons d ds ih =>
      rintro tm v' todo ⟨D,rfl,hD⟩
      refine .go rfl fun v3 w3 m3=>?_
      obtain ⟨calls,v4,new,⟨rfl,hL⟩,q4,q6,qr⟩:=cu _ v3 (hD v3 m3.grow m3.nv)
      obtain ⟨w',q2,q5⟩:=qr w3 #[] m3.msk
      rw [Array.empty_append] at q2
      exact ⟨_,v4,⟨w',_,gR_take (a:=⟨tm,[]⟩) q2,q4,q5,eR q6⟩,ih tm v4 todo hL⟩
  refine h true _ (gj f .normal) [] [] LvF.closed (fun h=>by cases h) rfl fun e a v' q=>?_
  cases e with
  | normal=>exact .ctl LvF.closed rfl (fun w=>gR_end w rfl) (lv a.defers a.tmps v' _ q)
  | ret=>exact fun k'=>.ctl LvF.closed rfl (fun w=>gR_ret w rfl) (lv a.defers a.tmps v' _ q)
  | exit id=>exact q.elim
  | goto l=>exact q.elim
  | panic ch=>exact q.elim
  | outgrown=>exact q.elim
theorem enterF {X:Ext} {fr:Nat} {P:Program} {f:FuncId} {fn:Func} {c:Code} {args:Array Value} {w:World} {R:dg} (n:Nat) (L:List Res)
    (hf:P.funcs[f]? = some fn) (hb:fn.body = some c) (hn:fn.ntmps = n) (hsz:args.size ≤ n) (hfr:fr ≤ w.heap.size) (hM:∀ b,R.M b→fr ≤ b) (hL:Ctx.OK ⟨n,w,R.M,⟨X,fr,none⟩⟩→bh ⟨n,w,R.M,⟨X,fr,none⟩⟩ L w)
    (h:Sat ⟨n,w,R.M,⟨X,fr,none⟩⟩ (c.wpX P ⟨X,fr,none⟩ (pmC w R.M) (bodyPost P ⟨n,w,R.M,⟨X,fr,none⟩⟩ fn R)) (dz :: iW 0 args.toList) L) (hn2:Nat.ble n 1000000 = true:=by rfl):CallF X fr P f args w R :=
  callF_of_wp hf hb (h _ _ ⟨enterFr rfl (Nat.le_of_ble_eq_true hn2) hn hsz,hL ⟨hfr,hM⟩⟩)
def jd (o:Obj):Bool:=isP o || isV o
def mask (W:World):World:={ W with heap:=W.heap.map fun o=>if jd o then dummy else o }
theorem ic (W:World) (i:Nat):(mask W).heap[i]? = (W.heap[i]?).map fun o=>if jd o then dummy else o:=by simp [mask]
theorem nj (W:World):(mask W).heap.size = W.heap.size:=by simp [mask]
theorem mask_cells {W:World} {i:Nat} {o:Obj} (h:W.heap[i]? = some o) (hw:jd o = false):(mask W).heap[i]? = some o:=by rw [ic,h]; simp [hw]
theorem mask_cell (W:World) (a:Addr):(mask W).cell? a = W.cell? a:=by
  simp only [World.cell?,ic]
  cases h:W.heap[a.block]? with
  | none=>rfl
  | some o=>cases o <;> rfl
theorem beside_same {v w w':World} (h:Beside v w v w') (m:Msk v w) (gK:∀ (b k:Nat) z,v.heap[b]? ≠ some (slot k z)):w' = w:=by
  have hh:w'.heap = w.heap:=by
    apply Array.ext_getElem?
    intro i
    rcases tri v i with h1 | ⟨o,h1,h2⟩ | ⟨k,x,h1⟩
    · rw [h.msk.vis i h1,m.vis i h1]
    · exact h.hid i o h1 h2
    · exact absurd h1 (gK _ _ _)
  have h3:=h.msk.drawn.trans m.drawn.symm
  obtain ⟨a1,a2,a3,a4,a5⟩:=w
  obtain ⟨b1,b2,b3,b4,b5⟩:=w'
  have h4:=h.tape
  have h5:=h.os
  have h6:=h.output
  simp only at hh h3 h4 h5 h6
  subst hh h3 h4 h5 h6
  rfl
theorem ends_ok {X:Ext} {P:Program} {fr:Nat} {f:FuncId} {args:Array Value} {rv:Value} {W:World} (hin:P.inits.idxOf? f = none) (hfit:∀ v w,X.fits v w) (hblk:∀ g,¬ X.blk g)
    (hkind:∀ [Bad] (gs:Array Goroutine) (q:Nat→Nat) (t:Trace) (Shun:Loc→Prop) (d0:Nat) (sl0 sl1:Option (Nat × Nat)) (ga g g':Goroutine) (u w v':World),X.kind true g u w g' v'→Alike P ga g→cx P Shun t gs q ga u w→mh P gs w d0 sl0 sl1 →
      Comes P (crowd gs (w.at d0) sl0) t (fun g2 v2=>g2 = g' ∧ v2 = v'))
    (h:CallF X fr P f args (mask W) (cD (mask W) rv)) :
    ∃ M last o w' t',runNT P (M + 1) (solo (G (Frame.enter P f args .normal) []) W) #[] = (.ended o w',t') ∧ runN P M (solo (G (Frame.enter P f args .normal) []) W) = .next last ∧ step P last = .ended o w' ∧
      Conc.Good P (fun v W'=>v = rv ∧ Below W.heap.size W W') last o w' t':=by
  letI:Bad:=⟨W,fun b=>∃ o,W.heap[b]? = some o ∧ jd o = true⟩
  have hB:cx P (fun l=>∃ b o,l = .cell ⟨b,0,none⟩ ∧ W.heap[b]? = some o ∧ jd o = true) #[] #[G (Frame.enter P f args .normal) []] (fun _=>0) (G (Frame.enter P f args .normal) []) (mask W) W:=by
    refine ⟨rfl,leavers_one P _,⟨past_nil.clean,fun i a ha=>by simp [touchAt,Trace.act?] at ha,past_nil.over,rfl,by simp⟩,fun i op hi=>by simp at hi,fun a k=>by simp [Trace.act?],fun i o ho=>?_,⟨(nj W).symm,rfl,rfl,rfl,rfl,fun i hv=>?_,fun i k x hx=>?_⟩,fun l ⟨b,o,h1,h2,h3⟩=>⟨⟨b,0,none⟩,dummy,h1,?_,rfl⟩,fun b k z hz=>?_,fun b ⟨o,h1,h2⟩=>⟨⟨b,o,rfl,h1,h2⟩,rfl⟩⟩
    · rw [ic] at ho
      obtain ⟨o',h1,rfl⟩:=Option.map_eq_some_iff.1 ho
      by_cases hw:jd o' = true
      · rw [if_pos hw]; rfl
      · rw [if_neg hw]
        simp only [jd,Bool.or_eq_true,not_or,Bool.not_eq_true] at hw
        exact hw.2
    · cases hW:W.heap[i]? with
      | none=>rw [ic,hW]; rfl
      | some o =>
        have h1:=ic W i
        rw [hW,Option.map_some] at h1
        by_cases hw:jd o = true
        · rw [if_pos hw] at h1
          have:=hv _ h1
          simp [isP,dummy] at this
        · rw [if_neg hw] at h1; exact h1.symm
    · rw [ic] at hx
      obtain ⟨o',h1,h2⟩:=Option.map_eq_some_iff.1 hx
      by_cases hw:jd o' = true
      · rw [if_pos hw] at h2; simp [dummy,slot] at h2
      · rw [if_neg hw] at h2
        subst h2
        exact absurd rfl hw
    · show (mask W).heap[b]? = _
      rw [ic,h2,Option.map_some,if_pos h3]
    · rw [ic] at hz
      obtain ⟨o',h1,h2⟩:=Option.map_eq_some_iff.1 hz
      by_cases hw:jd o' = true
      · rw [if_pos hw] at h2; simp [dummy,slot] at h2
      · rw [if_neg hw] at h2
        subst h2
        exact absurd rfl hw
  obtain ⟨N,gs',w',sl',t',q',Sh',ga,g',v',u',h1,⟨frm,val,v0,rfl,hfn,hkd,⟨hv,hk⟩,hg0,hL⟩,hg,al,hB'⟩:=lW hfit hblk (fun gs q t Shun d0 sl0 sl1 ga g g' u w v'=>hkind gs q t Shun d0 sl0 sl1 ga g g' u w v') h _ _ _ _ none _ _ _ (.refl _) (.refl _ _) hB
  obtain rfl:=Ending.returned.inj hv
  have hkept:∀ b o,W.heap[b]? = some o→jd o = true→w'.heap[b]? = W.heap[b]?:=fun b o h2 h3=>(hB'.kept b ⟨o,h2,h3⟩).2
  have end1:∀ w₁,AtRel w' w₁→AtEnd P Sh' w'.heap.size (fun v W'=>v = val ∧ Below W.heap.size W W') ga w₁:=by
    rintro w₁ ⟨d,rfl⟩
    have hB1:=hB'.at d
    have hLu:=hL.grow (hg.trans (bT.at u' d))
    obtain ⟨fn,hf,hres⟩:=hLu.res
    obtain ⟨x,v3,new,⟨rfl,rfl⟩,q4,q6,qr⟩:=cu _ (u'.at d) (hres _ (.refl _) hB1.nv)
    obtain ⟨w3,q2,q5⟩:=qr (w'.at d) #[] hB1.msk
    rw [Array.empty_append] at q2
    obtain rfl:=beside_same q5 hB1.msk hB1.gK
    refine ⟨al.st.trans rfl,x,seen P frm.fn new,?_,fun e he=>?_,rfl,?_⟩
    · rw [al.step]
      simp only [G,stepG,hL.mode,unwind,hL.defers,hf]
      rw [q2]
      simp [GStep.after,doReturn,hkd,seen,hfn,hin]
    · have h5:=mc (eR q6 e he) hB1.hid
      have h6:(u'.at d).heap.size = w'.heap.size:=hB1.msk.size.symm
      rw [← h6]
      exact h5
    · have hu:aX bO (mask W) u':=(hk.trans (.ew hg0)).trans (.ew hg)
      refine ⟨hB'.msk.os.trans hu.os,hB'.msk.tape.trans hu.tape,hB'.msk.output.trans hu.output,?_,fun k hkl=>?_⟩
      · have:=hu.size
        rw [nj] at this
        rw [show (w'.at d).heap.size = w'.heap.size from rfl,hB'.msk.size]
        exact this
      · show w'.heap[k]? = W.heap[k]?
        have hW:=Array.getElem?_eq_getElem hkl
        by_cases hw:jd W.heap[k] = true
        · exact hkept k _ hW hw
        · have hw':jd W.heap[k] = false:=by simpa using hw
          have h6:=hu.block k (by rw [nj]; exact hkl) id
          rw [mask_cells hW hw'] at h6
          rw [hB'.msk.vis k fun o ho=>?_,h6,hW]
          rw [h6] at ho
          obtain rfl:=Option.some.inj ho
          simp only [jd,Bool.or_eq_false_iff] at hw'
          exact hw'.1
  obtain ⟨N2,last,o,w2,t2,k1,k2,k3,k4⟩:=beside_ends (D:=fun _ _ _=>False) (fun _ _ _ h=>h.elim) hB'.at0 hB'.leave hB'.past (n:=0) end1 (sl:=sl')
  refine ⟨N + N2,last,o,w2,t2,?_,?_,k3,k4⟩
  · rw [Nat.add_assoc,solo_eq_crowd]
    exact gq h1 k1
  · rw [← runNT_fst P _ _ #[],solo_eq_crowd,runNT_add,h1]
    simp only
    rw [runNT_fst,k2]
end Go.Gx
namespace Go.Proofs.YtjanhajdmhalaaaGreat
open Go Go.Gx Go.Proofs.YtjanhajdmhalaaaGreat.Tri
def Bxs:List Nat→Res
  | []=>Emp
  | b :: r=>Sep (Var b iE (r.length:Int) 3) (Bxs r)
theorem bxs_at {w:World}:∀ (bs:List Nat) (i:Nat),i < bs.length→(Bxs bs).A w→cE iE w (bs.getD (bs.length - 1 - i) 0) 0 (i:Int)
  | b :: r,i,hi,⟨h1,h2,_⟩=>by
    simp only [List.length_cons] at hi
    by_cases e:i = r.length
    · subst e
      rw [List.length_cons,Nat.add_sub_cancel,Nat.sub_self]
      exact dw (E:=iE) h1
    · have:=bxs_at r i (by omega) h2
      rw [List.length_cons,show r.length + 1 - 1 - i = (r.length - 1 - i) + 1 by omega]
      exact this
theorem boxIn {K:Ctx} {F:Fr} {L L1 L':List Res} {X:Act→World→Prop} {b:Nat} {bs:List Nat} (h1:Rem L (Var b iE (bs.length:Int) 3) L1) (h2:Rem L1 (Bxs bs) L') (next:Sat K X F (Bxs (b :: bs) :: L')):Sat K X F L:=lz h1 h2 next
def fnsL (cap:Nat→List Value):List Nat→List OV
  | []=>[]
  | b :: r=>fnsL cap r ++ [clo 7 (cap b)]
theorem fnsL_eq (cap:Nat→List Value):∀ bs:List Nat,fnsL cap bs = (List.range bs.length).map fun i=>clo 7 (cap (bs.getD (bs.length - 1 - i) 0))
  | []=>rfl
  | b :: r=>by
    rw [fnsL,fnsL_eq cap r,List.length_cons,List.range_succ,List.map_append]
    congr 1
    · refine List.map_congr_left fun i hi=>?_
      have:=List.mem_range.1 hi
      rw [show r.length + 1 - 1 - i = (r.length - 1 - i) + 1 by omega]
      rfl
    · simp
theorem fnsB_range (cap:Nat→List Value) (n:Nat):FnsB ((List.range n).map fun i=>clo 7 (cap i)):=fun i hi=>⟨cap i,by
  simp only [List.length_map,List.length_range] at hi
  simp [List.getD,hi]⟩
theorem tm4 (a:Int):-4 < a.tmod 4 ∧ a.tmod 4 < 4:=⟨Int.lt_tmod_of_pos a (by decide),Int.tmod_lt_of_pos a (by decide)⟩
def capB (b1 b3 b4 b5 b6 b:Nat):List Value:=[.pointer (some ⟨b1,0,none⟩),.pointer (some ⟨b,0,none⟩),.pointer (some ⟨b3,0,none⟩),.pointer (some ⟨b4,0,none⟩),.pointer (some ⟨b5,0,none⟩),.pointer (some ⟨b6,0,none⟩)]
theorem fnsL_len (cap:Nat→List Value) (bs:List Nat):(fnsL cap bs).length = bs.length:=by rw [fnsL_eq]; simp
theorem getD_old {α:Type} {l:List α} {z:α} {k:Nat} (l2:List α) (h:k < l.length):(l ++ l2).getD k z = l.getD k z:=by simp [List.getD,List.getElem?_append,h]
theorem getD_new {α:Type} {l:List α} {v z:α}:(l ++ [v]).getD l.length z = v:=by simp [List.getD]
theorem rep_at {n k:Nat} (h:k < n):(List.replicate n true).getD k bE.zero = true:=by simp [List.getD,h]
theorem ov_eq {a b:OV} (h:a.v = b.v):a = b:=by
  cases a; cases b; cases h; rfl
theorem en4:Gx.aC Tryz.prog 4:=Gx.aC.mk' (by kernel_rfl)
theorem z31:(Tryz.prog.info? 31).bind (·.zero) = some ((ovE aR).val (ovE aR).zero):=by kernel_rfl
theorem z35:(Tryz.prog.info? 35).bind (·.zero) = some ((ovE aw).val (ovE aw).zero):=by kernel_rfl
theorem z50:(Tryz.prog.info? 50).bind (·.zero) = some ((ovE aw).val (ovE aw).zero):=by kernel_rfl
theorem z54:(Tryz.prog.info? 54).bind (·.zero) = some ((ovE bU).val (ovE bU).zero):=by kernel_rfl
theorem zb54:(Tryz.prog.info? 54).map (fun i=>(i.zero,i.bytes)) = some (some ((ovE bU).val (ovE bU).zero),8):=by kernel_rfl
theorem zs54:((ovE bU).val (ovE bU).zero).cells.size = (ovE bU).size:=by rw [Enc.cK,List.size_toArray,Enc.len]
set_option maxRecDepth 8000 in
set_option maxHeartbeats 1000000 in
theorem PlanMany_walk (c:aV) (l:CL) (u:OV) (xs:List bo) (dts:List (List UInt8)) (th:Int) (w:World) (fr:Nat) (hfr:fr ≤ w.heap.size) (hc:gw w c l) (hn:l.Names) (hz:l.n ≤ 4611686018427387904) (hu:bH cn w u.v xs) (hpk:PksAt w xs dts):CallF XP fr Tryz.prog 3 #[aK.val c,u.v,I th] w (cD w (.bool true)):=by
  have hle:=hu.le
  refine enterF 85 [] Tryz.func3 rfl rfl (Nat.le_of_ble_eq_true rfl) hfr (fun _ h=>h.elim) (fun ok=>bh.start ok) ?_
  refine seq (region (cons (box (E:=aK) (.t rfl) (fun b1=>?_))))
  refine cons (box (E:=(ovE aw)) (.t (v:=(ovE aw).val u) rfl) (fun b2=>?_))
  refine cons (opv (Ev.assign (.c (v:=.bool false) rfl)) ?_)
  refine nil (pN (seq (seq (emp0 ?_))))
  refine region (cons (aZ en4 .nil (fun w I=>works_ok w) ?_))
  refine cons (opv (Ev.not (.t rfl)) ?_)
  refine nil (pN (il rfl (rfl) ?_))
  refine skip (pN (seq (region (cons (opv (Ev.ldx c ty28 (.t rfl) (ak.id _)) ?_)))))
  refine cons (fQ (X:=Pl × List Res) (CompileJ l c.default) (fun x:Pl × List Res=>.tuple #[.pointer (plO l c.default x.1.b),I (plE l c.default)]) (fun x=>x.2) en5 (.cons (.t rfl) .nil) (fun w I=>mU c l w (hc.aT I.keeps) hn hz) (fun x1 hx1=>?_))
  refine cons (opv (Ev.move (.t rfl)) (cons (opv (Ev.extract (.t rfl) rfl) (cons (opv (Ev.extract (.t rfl) rfl) (mn (r:=Emp) (by repeat first | exact Rem.head | apply Rem.tail) ?_))))))
  refine cons (alloc z31 (fun b3=>?_))
  refine cons (stv ty31 (ak.id _) (.t rfl) (.t (v:=(⟨.pointer (plO l c.default x1.1.b),rfl⟩:OV).v) rfl) ?_)
  refine cons (opv (Ev.assign (.t rfl)) (nil (pN (seq (seq (region (cons (opv (Ev.move (.t rfl)) (cons (opv (Ev.eX (.t rfl) (.c (v:=I 0) rfl)) ?_))))))))))
  refine nil (pN ?_)
  first | refine aL rfl (fun h1=>?_) (fun h1=>?_) | refine cond rfl (fun h1=>?_) (fun h1=>?_)
  · refine seq (region (cons (opv (Ev.assign (.c (v:=.bool true) rfl)) ?_)))
    refine nil (pN (ret (pR (done rfl (.tmp rfl .nil) (bc ?_)))))
    rfl
  · have hmay:kE l c.default = true:=by
      cases hm:kE l c.default with
      | true=>rfl
      | false=>simp [plE,hm] at h1
    obtain ⟨hpo,hpa⟩:=hx1 hmay
    refine skip (pN (seq ?_))
    obtain ⟨m,hm⟩:∃ m:Nat,m = min xs.length 30:=⟨_,rfl⟩
    have hmx:m ≤ xs.length:=by omega
    have hm30:m ≤ 30:=by omega
    refine region (cons (opv (Ev.ldv ty29 (.t rfl) (ak.id _)) ?_))
    refine cons (opv (Ev.len Tryz.underlying29 (.t rfl) (fun w I=>hu.aT I.keeps)) ?_)
    refine cons (opv (Ev.to (v':=I m) (Ev.oV (.t rfl) (.c (v:=I 30) rfl)) (congrArg I (by omega))) ?_)
    refine cons (alloc z3 (fun b4=>?_))
    refine cons (stv ty3 (ak.id _) (.t rfl) (.t rfl) ?_)
    refine nil (pN (seq (region (cons (alloc z35 (fun b5=>?_))))))
    refine nil (pN (seq (seq (fB aW 37 ?_))))
    refine region (cons (opv (Ev.assign (.c (v:=I 0) rfl)) ?_))
    refine nil (pN (block (lp (X:=Int × OV × (List aF)) (fun x:Int × OV × (List aF)=>(0 ≤ x.1 ∧ x.1 ≤ m) ∧ ((x.2.2.length:Int) = x.1) ∧ (∀ k,k < x.2.2.length→x.2.2.getD k aW.zero = dvV l c.default (xs.getD k cn.zero).in_ (xs.getD k cn.zero).h (dts.getD k []).length)) (fun x:Int × OV × (List aF)=>[dz,(2,true,I th),(3,true,.pointer (some ⟨b1,0,none⟩)),(4,true,.pointer (some ⟨b2,0,none⟩)),(7,true,.pointer (some ⟨b3,0,none⟩)),(9,true,.pointer (some ⟨b4,0,none⟩)),(10,true,.pointer (some ⟨b5,0,none⟩)),(11,true,I x.1)]) (fun x:Int × OV × (List aF)=>[aP x.2.1.v aW x.2.2 37,Var b5 (ovE aw) x.2.1 35,Var b4 iE (m:Int) 3,Var b3 (ovE aR) (⟨.pointer (plO l c.default x1.1.b),rfl⟩:OV) 31,eK Emp x1.2,Var b2 (ovE aw) u 29,Var b1 aK c 28]) (fun x:Int × OV × (List aF)=>((m:Int) - x.1).toNat) (0,aw,[]) ⟨?_,?_,?_⟩ (fun x hx=>?_))))
    · omega
    · rfl
    · intro k h; simp at h
    obtain ⟨i,ow,ws⟩:=x
    obtain ⟨hi,hwl,hwe⟩:(0 ≤ i ∧ i ≤ m) ∧ ((ws.length:Int) = i) ∧ (∀ k,k < ws.length→ws.getD k aW.zero = dvV l c.default (xs.getD k cn.zero).in_ (xs.getD k cn.zero).h (dts.getD k []).length):=hx
    show Sat _ _ [dz,(2,true,I th),(3,true,.pointer (some ⟨b1,0,none⟩)),(4,true,.pointer (some ⟨b2,0,none⟩)),(7,true,.pointer (some ⟨b3,0,none⟩)),(9,true,.pointer (some ⟨b4,0,none⟩)),(10,true,.pointer (some ⟨b5,0,none⟩)),(11,true,I i)] [aP ow.v aW ws 37,Var b5 (ovE aw) ow 35,Var b4 iE (m:Int) 3,Var b3 (ovE aR) (⟨.pointer (plO l c.default x1.1.b),rfl⟩:OV) 31,eK Emp x1.2,Var b2 (ovE aw) u 29,Var b1 aK c 28]
    refine seq (seq (region (cons (opv (Ev.move (.t rfl)) (cons (opv (Ev.to (v':=I m) (Ev.ldv ty3 (.t rfl) (ak.id _)) (rfl)) ?_))))))
    refine cons (opv (Ev.dx (.t rfl) (.t rfl)) ?_)
    refine nil (pN ?_)
    first | refine aL rfl (fun h2=>?_) (fun h2=>?_) | refine cond rfl (fun h2=>?_) (fun h2=>?_)
    · try simp only [Gx.nb] at h2
      refine skip (pN (seq (block (seq ?_))))
      obtain ⟨V,hV⟩:∃ z,dvV l c.default (xs.getD i.toNat cn.zero).in_ (xs.getD i.toNat cn.zero).h (dts.getD i.toNat []).length = z:=⟨_,rfl⟩
      obtain ⟨E0,hE⟩:∃ z,deE (xs.getD i.toNat cn.zero).h (dts.getD i.toNat []).length = z:=⟨_,rfl⟩
      refine df (by kernel_rfl) ?_
      refine tk 0 rfl (Ev.to (v':=.pointer (some ⟨x1.1.b,0,none⟩)) (Ev.ldx (⟨.pointer (plO l c.default x1.1.b),rfl⟩:OV) ty31 (.t rfl) (ak.id _)) (congrArg Value.pointer (if_pos hmay))) ?_
      refine tk 1 rfl (Ev.ldv ty29 (.t rfl) (ak.id _)) ?_
      refine tk 2 rfl (Ev.move (.t rfl)) ?_
      refine tk 3 rfl (Ev.indexAddr Tryz.underlying29 ty49 (.t rfl) (.t rfl) (fun w I=>hu.aT I.keeps) (fun _=>by omega)) ?_
      refine tk 4 rfl (Ev.jU (o:=0) (i:=i) (.t rfl) (fun w I=>hu.aT I.keeps) (fun _=>by omega) (by kernel_rfl)) ?_
      refine tk 5 rfl (Ev.loadS ty3 bo.jF rfl (.t rfl) (fun w I=>hu.aT I.keeps) (fun _=>by omega)) ?_
      refine tk 6 rfl (Ev.ldv ty29 (.t rfl) (ak.id _)) ?_
      refine tk 7 rfl (Ev.move (.t rfl)) ?_
      refine tk 8 rfl (Ev.indexAddr Tryz.underlying29 ty49 (.t rfl) (.t rfl) (fun w I=>hu.aT I.keeps) (fun _=>by omega)) ?_
      refine tk 9 rfl (Ev.jU (o:=1) (i:=i) (.t rfl) (fun w I=>hu.aT I.keeps) (fun _=>by omega) (by kernel_rfl)) ?_
      refine tk 10 rfl (Ev.loadS iC bo.l_h rfl (.t rfl) (fun w I=>hu.aT I.keeps) (fun _=>by omega)) ?_
      refine all [11,15] (by kernel_rfl) (by decide) (.cons rfl ?_ (.cons rfl ?_ .nil))
      · refine (aZ en6 (.cons (.t rfl) (.cons (.t rfl) (.cons (.t rfl) .nil))) (fun w I=>k7 x1.1 l c.default _ _ (dts.getD i.toNat []) V E0 w (pl_at hpa (by repeat first | exact mH | apply mT | apply mA) w I) hpo ((hpk.sl _ (by omega)).aT I.keeps) (hpk.ln _ (by omega)) hV hE) ?_)
        refine hdn (tk 12 rfl (Ev.move (.t rfl)) ?_)
        refine tk 13 rfl (Ev.extract (.t rfl) rfl) ?_
        refine tk 14 rfl (Ev.extract (.t rfl) rfl) ?_
        refine al1 15 rfl ((alloc z37 (fun b6=>?_)))
        refine hdn (al1 16 rfl ((stv eY (ak.id _) (.t rfl) (.t rfl) ?_)))
        refine hdn (tk 17 rfl (Ev.assign (.t rfl)) ?_)
        refine ovr (pN (region (cons (opv (Ev.ldv j5 (.t rfl) (ak.id _)) ?_))))
        refine cons (opv (Ev.ldv eY (.t rfl) (ak.id _)) ?_)
        refine cons (buildSlice (E:=aW) Tryz.underlying35 eY z37 (.cons (.t rfl) .nil) rfl rfl (fun v7=>?_))
        refine cons (app (E:=aW) Tryz.underlying35 eY zb37 zs37 (.t rfl) (.t rfl) (fun v8=>?_) (hby:=⟨by (show _ ≤ 9223372036854775807); first | omega | (simp; done) | (simp; omega),by first | omega | (simp; done) | (simp; omega)⟩))
        refine cons (stv j5 (ak.id _) (.t rfl) (.t rfl) ?_)
        refine nil (bN (pN (region (cons (opv (Ev.move (.t rfl)) (cons (opv (Ev.a8 (.t rfl) (.c (v:=I 1) rfl) (fun _=>by omega)) ?_)))))))
        refine cons (opv (Ev.assign (.t rfl)) (nil (pN (nxP (X:=Int × OV × (List aF)) (i + 1,v8,ws ++ [V]) ⟨?_,?_,?_⟩ ?_))))
        · try dsimp only
          omega
        · try dsimp only
          simp; omega
        · try dsimp only
          intro k hk
          rw [List.length_append,List.length_singleton] at hk
          by_cases e:k < ws.length
          · rw [getD_old _ e]; exact hwe k e
          · obtain rfl:k = ws.length:=by omega
            rw [getD_new,← hV]
            have e9:i.toNat = ws.length:=by omega
            rw [e9]
        · try dsimp only
          omega
      · refine (alloc z37 (fun b9=>?_))
        refine hdn (al1 11 rfl ((aZ en6 (.cons (.t rfl) (.cons (.t rfl) (.cons (.t rfl) .nil))) (fun w I=>k7 x1.1 l c.default _ _ (dts.getD i.toNat []) V E0 w (pl_at hpa (by repeat first | exact mH | apply mT | apply mA) w I) hpo ((hpk.sl _ (by omega)).aT I.keeps) (hpk.ln _ (by omega)) hV hE) ?_)))
        refine hdn (tk 12 rfl (Ev.move (.t rfl)) ?_)
        refine tk 13 rfl (Ev.extract (.t rfl) rfl) ?_
        refine tk 14 rfl (Ev.extract (.t rfl) rfl) ?_
        refine al1 16 rfl ((stv eY (ak.id _) (.t rfl) (.t rfl) ?_))
        refine hdn (tk 17 rfl (Ev.assign (.t rfl)) ?_)
        refine ovr (pN (region (cons (opv (Ev.ldv j5 (.t rfl) (ak.id _)) ?_))))
        refine cons (opv (Ev.ldv eY (.t rfl) (ak.id _)) ?_)
        refine cons (buildSlice (E:=aW) Tryz.underlying35 eY z37 (.cons (.t rfl) .nil) rfl rfl (fun v10=>?_))
        refine cons (app (E:=aW) Tryz.underlying35 eY zb37 zs37 (.t rfl) (.t rfl) (fun v11=>?_) (hby:=⟨by (show _ ≤ 9223372036854775807); first | omega | (simp; done) | (simp; omega),by first | omega | (simp; done) | (simp; omega)⟩))
        refine cons (stv j5 (ak.id _) (.t rfl) (.t rfl) ?_)
        refine nil (bN (pN (region (cons (opv (Ev.move (.t rfl)) (cons (opv (Ev.a8 (.t rfl) (.c (v:=I 1) rfl) (fun _=>by omega)) ?_)))))))
        refine cons (opv (Ev.assign (.t rfl)) (nil (pN (nxP (X:=Int × OV × (List aF)) (i + 1,v11,ws ++ [V]) ⟨?_,?_,?_⟩ ?_))))
        · try dsimp only
          omega
        · try dsimp only
          simp; omega
        · try dsimp only
          intro k hk
          rw [List.length_append,List.length_singleton] at hk
          by_cases e:k < ws.length
          · rw [getD_old _ e]; exact hwe k e
          · obtain rfl:k = ws.length:=by omega
            rw [getD_new,← hV]
            have e9:i.toNat = ws.length:=by omega
            rw [e9]
        · try dsimp only
          omega
    · try simp only [Gx.nb] at h2
      refine exit (pX (pX (bX (pN (seq ?_)))))
      have hwm:ws.length = m:=by omega
      obtain ⟨r,hr⟩:∃ r,th.tmod 4 = r:=⟨_,rfl⟩
      have hr4:=tm4 th
      rw [hr] at hr4
      obtain ⟨s4,hs⟩:∃ s,(r + 4).tmod 4 = s:=⟨_,rfl⟩
      have hs4:=tm4 (r + 4)
      have hs0:=Int.tmod_nonneg 4 (show 0 ≤ r + 4 by omega)
      rw [hs] at hs4 hs0
      obtain ⟨cnt,hcnt⟩:∃ cnt:Nat,1 + s4 = cnt:=⟨(1 + s4).toNat,by omega⟩
      refine region (cons (opv (Ev.move (.t rfl)) (cons (opv (Ev.to (v':=I r) (Ev.rem_i (.t rfl) (.c (v:=I 4) rfl) (fun _=>by decide)) (congrArg I hr)) ?_))))
      refine cons (opv (Ev.a8 (.t rfl) (.c (v:=I 4) rfl) (fun _=>by omega)) ?_)
      refine cons (opv (Ev.to (v':=I s4) (Ev.rem_i (.t rfl) (.c (v:=I 4) rfl) (fun _=>by decide)) (congrArg I hs)) ?_)
      refine cons (opv (Ev.to (v':=I cnt) (Ev.a8 (.c (v:=I 1) rfl) (.t rfl) (fun _=>by omega)) (congrArg I hcnt)) ?_)
      refine cons (makeRow (n:=cnt) Tryz.underlying50 (.t rfl) (.t rfl) (by omega) (fun C=>?_))
      refine cons (alloc z50 (fun b12=>?_))
      refine cons (stv ty50 (ak.id _) (.t rfl) (.t (v:=(⟨.slice (some ⟨C,0,none⟩) cnt cnt,rfl⟩:OV).v) rfl) ?_)
      refine nil (pN (seq (region (cons (opv (Ev.assign (.c (v:=(Go.Value.slice none 0 0)) rfl)) ?_)))))
      refine fB (ovE bU) 54 ?_
      refine nil (pN (seq (seq (emp0 ?_))))
      refine region (cons (alloc z3 (fun b13=>?_)))
      refine cons (stv ty3 (ak.id _) (.t rfl) (.c (v:=I 0) rfl) ?_)
      refine nil (pN (block (lp (X:=(List Nat) × Nat × OV) (fun x:(List Nat) × Nat × OV=>(x.1.length ≤ cnt)) (fun x:(List Nat) × Nat × OV=>[dz,(4,true,.pointer (some ⟨b2,0,none⟩)),(7,true,.pointer (some ⟨b3,0,none⟩)),(9,true,.pointer (some ⟨b4,0,none⟩)),(10,true,.pointer (some ⟨b5,0,none⟩)),(14,true,.pointer (some ⟨b12,0,none⟩)),(15,true,x.2.2.v),(16,true,.pointer (some ⟨x.2.1,0,none⟩))]) (fun x:(List Nat) × Nat × OV=>[Var x.2.1 iE (x.1.length:Int) 3,Bxs x.1,aP x.2.2.v (ovE bU) (fnsL (capB b12 b4 b3 b2 b5) x.1) 54,Var b12 (ovE aw) (⟨.slice (some ⟨C,0,none⟩) cnt cnt,rfl⟩:OV) 50,RowR C cnt false,aP ow.v aW ws 37,Var b5 (ovE aw) ow 35,Var b4 iE (m:Int) 3,Var b3 (ovE aR) (⟨.pointer (plO l c.default x1.1.b),rfl⟩:OV) 31,eK Emp x1.2,Var b2 (ovE aw) u 29,Var b1 aK c 28]) (fun x:(List Nat) × Nat × OV=>cnt - x.1.length) ([],b13,aw) ?_ (fun x hx=>?_))))
      · exact Nat.zero_le _
      obtain ⟨bs,bk,orun⟩:=x
      have hbs:bs.length ≤ cnt:=hx
      clear hx
      show Sat _ _ [dz,(4,true,.pointer (some ⟨b2,0,none⟩)),(7,true,.pointer (some ⟨b3,0,none⟩)),(9,true,.pointer (some ⟨b4,0,none⟩)),(10,true,.pointer (some ⟨b5,0,none⟩)),(14,true,.pointer (some ⟨b12,0,none⟩)),(15,true,orun.v),(16,true,.pointer (some ⟨bk,0,none⟩))] [Var bk iE (bs.length:Int) 3,Bxs bs,aP orun.v (ovE bU) (fnsL (capB b12 b4 b3 b2 b5) bs) 54,Var b12 (ovE aw) (⟨.slice (some ⟨C,0,none⟩) cnt cnt,rfl⟩:OV) 50,RowR C cnt false,aP ow.v aW ws 37,Var b5 (ovE aw) ow 35,Var b4 iE (m:Int) 3,Var b3 (ovE aR) (⟨.pointer (plO l c.default x1.1.b),rfl⟩:OV) 31,eK Emp x1.2,Var b2 (ovE aw) u 29,Var b1 aK c 28]
      have hfl:(fnsL (capB b12 b4 b3 b2 b5) bs).length = bs.length:=fnsL_len _ bs
      refine seq (seq (region (cons (opv (Ev.to (v':=I bs.length) (Ev.ldv ty3 (.t rfl) (ak.id _)) (rfl)) ?_))))
      refine cons (opv (Ev.ldv ty50 (.t rfl) (ak.id _)) ?_)
      refine cons (opv (Ev.to (v':=I cnt) (Ev.len Tryz.underlying50 (.t rfl) (mM (b:=false) (by omega) (by repeat first | exact mH | apply mT | apply mA))) (congrArg I (by simp))) ?_)
      refine cons (opv (Ev.dx (.t rfl) (.t rfl)) ?_)
      refine nil (pN ?_)
      first | refine aL rfl (fun h3=>?_) (fun h3=>?_) | refine cond rfl (fun h3=>?_) (fun h3=>?_)
      · try simp only [Gx.nb] at h3
        refine skip (pN (seq (block (region (cons (opv (Ev.move (.t rfl)) (cons (opv (Ev.makeFunc (f:=7) (.cons (.t rfl) (.cons (.t rfl) (.cons (.t rfl) (.cons (.t rfl) (.cons (.t rfl) (.cons (.t rfl) .nil))))))) ?_))))))))
        refine cons (buildSlice (E:=(ovE bU)) Tryz.underlying51 ty54 z54 (.cons (.t rfl) .nil) rfl rfl (fun v14=>?_))
        refine cons (app (E:=(ovE bU)) Tryz.underlying51 ty54 zb54 zs54 (.t rfl) (.t rfl) (fun v15=>?_) (hby:=⟨by (show _ ≤ 9223372036854775807); first | omega | (simp; done) | (simp; omega),by first | omega | (simp; done) | (simp; omega)⟩))
        refine cons (opv (Ev.assign (.t rfl)) (nil (bN (pN (seq (seq (region (cons (opv (Ev.to (v':=I bs.length) (Ev.ldv ty3 (.t rfl) (ak.id _)) (rfl)) ?_)))))))))
        refine nil (pN (boxIn (bs:=bs) (by repeat first | exact Rem.head | apply Rem.tail) (by repeat first | exact Rem.head | apply Rem.tail) ?_))
        refine region (cons (alloc z3 (fun b16=>?_)))
        refine cons (stv ty3 (ak.id _) (.t rfl) (.t rfl) ?_)
        refine nil (pN (region (cons (opv (Ev.to (v':=I bs.length) (Ev.ldv ty3 (.t rfl) (ak.id _)) (rfl)) ?_))))
        refine cons (opv (Ev.to (v':=I ((bk :: bs).length:Nat)) (Ev.a8 (.t rfl) (.c (v:=I 1) rfl) (fun _=>by omega)) (congrArg I (by simp))) ?_)
        refine cons (stv ty3 (ak.id _) (.t rfl) (.t rfl) ?_)
        refine nil (pN (nxP (X:=(List Nat) × Nat × OV) (bk :: bs,b16,v15) ?_ ?_))
        · try dsimp only
          simp; omega
        · try dsimp only
          simp; omega
      · try simp only [Gx.nb] at h3
        refine exit (pX (pX (bX (pN (seq (seq ?_))))))
        have hbl:bs.length = cnt:=by omega
        have hfe:fnsL (capB b12 b4 b3 b2 b5) bs = (List.range cnt).map fun i=>clo 7 ((capB b12 b4 b3 b2 b5) (bs.getD (bs.length - 1 - i) 0)):=(fnsL_eq (capB b12 b4 b3 b2 b5) bs).trans (by rw [show List.range bs.length = List.range cnt by rw [hbl]])
        rw [hfe]
        refine region (cons (opv (Ev.move (.t rfl)) (cons (callFree rfl (C:=C) (n:=cnt) (cap:=(fun i=>(capB b12 b4 b3 b2 b5) (bs.getD (bs.length - 1 - i) 0))) (L1:=[Var bk iE (bs.length:Int) 3,Bxs bs,aP orun.v (ovE bU) ((List.range cnt).map fun i=>clo 7 ((capB b12 b4 b3 b2 b5) (bs.getD (bs.length - 1 - i) 0))) 54,Var b12 (ovE aw) (⟨.slice (some ⟨C,0,none⟩) cnt cnt,rfl⟩:OV) 50,aP ow.v aW ws 37,Var b5 (ovE aw) ow 35,Var b4 iE (m:Int) 3,Var b3 (ovE aR) (⟨.pointer (plO l c.default x1.1.b),rfl⟩:OV) 31,eK Emp x1.2,Var b2 (ovE aw) u 29,Var b1 aK c 28]) (L':=[Var bk iE (bs.length:Int) 3,Bxs bs,aP orun.v (ovE bU) ((List.range cnt).map fun i=>clo 7 ((capB b12 b4 b3 b2 b5) (bs.getD (bs.length - 1 - i) 0))) 54,Var b12 (ovE aw) (⟨.slice (some ⟨C,0,none⟩) cnt cnt,rfl⟩:OV) 50,RowR C cnt true,aP ow.v aW ws 37,Var b5 (ovE aw) ow 35,Var b4 iE (m:Int) 3,Var b3 (ovE aR) (⟨.pointer (plO l c.default x1.1.b),rfl⟩:OV) 31,eK Emp x1.2,Var b2 (ovE aw) u 29,Var b1 aK c 28]) (by omega) (by omega) (.t rfl) (by repeat first | exact Rem.head | apply Rem.tail) (by repeat first | exact mH | apply mT | apply mA) (by repeat first | exact Upd.head | apply Upd.tail | apply Upd.right) (fun w I=>wrong_ok _ _ w (gf (E:=ovE bU) (xs:=(List.range cnt).map fun i=>clo 7 ((capB b12 b4 b3 b2 b5) (bs.getD (bs.length - 1 - i) 0))) (by repeat first | exact mH | apply mT | apply mA) w I) (fnsB_range _ _) (by simp only [List.length_map,List.length_range]; omega)) (fun i hi w hI ha=>gate_ok ⟨x1.1,l,c.default,u,xs,dts,ow,ws,m⟩ C cnt i _ _ _ _ _ _ w (fun w' k=>have I':=hI w' k; ⟨pl_at hpa (by repeat first | exact mH | apply mT | apply mA) w' I',hpo,hu.aT I'.keeps,⟨fun i hi=>(hpk.sl i hi).aT I'.keeps,hpk.ln⟩,gf (by repeat first | exact mH | apply mT | apply mA) w' I',hwm,hmx,hi,fun k hk=>hwe k (by rw [hwm]; exact hk),cT (E':=ovE aw) (show Var b12 (ovE aw) (⟨.slice (some ⟨C,0,none⟩) cnt cnt,rfl⟩:OV) 50 ∈ _ from (by repeat first | exact mH | apply mT | apply mA)) (ak.id _) w' I',bxs_at bs i (by omega) (I'.own _ (show Bxs bs ∈ _ from (by repeat first | exact mH | apply mT | apply mA))).1,cT (E':=iE) (show Var b4 iE (m:Int) 3 ∈ _ from (by repeat first | exact mH | apply mT | apply mA)) (ak.id _) w' I',(by have:=cT (E':=ovE aR) (show Var b3 (ovE aR) (⟨.pointer (plO l c.default x1.1.b),rfl⟩:OV) 31 ∈ _ from (by repeat first | exact mH | apply mT | apply mA)) (ak.id _) w' I'; rw [show (ak.id (ovE aR)).get (⟨.pointer (plO l c.default x1.1.b),rfl⟩:OV) = (⟨.pointer (some ⟨x1.1.b,0,none⟩),rfl⟩:OV) from ov_eq (congrArg Value.pointer (if_pos hmay))] at this; exact this),cT (E':=ovE aw) (show Var b2 (ovE aw) u 29 ∈ _ from (by repeat first | exact mH | apply mT | apply mA)) (ak.id _) w' I',cT (E':=ovE aw) (show Var b5 (ovE aw) ow 35 ∈ _ from (by repeat first | exact mH | apply mT | apply mA)) (ak.id _) w' I'⟩) ha) ?_))))
        refine cons (opv (Ev.eX (.t rfl) (.c (v:=I 0) rfl)) ?_)
        refine nil (pN (il rfl (rfl) ?_))
        refine skip (pN (seq (seq (region (cons (opv (Ev.assign (.c (v:=I 0) rfl)) ?_))))))
        refine nil (pN (block (lp (X:=Int) (fun x:Int=>(0 ≤ x ∧ x ≤ cnt)) (fun x:Int=>[dz,(14,true,.pointer (some ⟨b12,0,none⟩)),(17,true,I x)]) (fun x:Int=>[Var b12 (ovE aw) (⟨.slice (some ⟨C,0,none⟩) cnt cnt,rfl⟩:OV) 50,RowR C cnt true]) (fun x:Int=>((cnt:Int) - x).toNat) (0) ?_ (fun x hx=>?_))))
        · omega
        obtain ⟨k,rfl⟩:∃ y,y = x:=⟨x,rfl⟩
        have hk:0 ≤ k ∧ k ≤ cnt:=hx
        clear hx
        show Sat _ _ [dz,(14,true,.pointer (some ⟨b12,0,none⟩)),(17,true,I k)] [Var b12 (ovE aw) (⟨.slice (some ⟨C,0,none⟩) cnt cnt,rfl⟩:OV) 50,RowR C cnt true]
        have hrl:(List.replicate cnt true).length = cnt:=List.length_replicate
        refine seq (seq (region (cons (opv (Ev.move (.t rfl)) (cons (opv (Ev.ldv ty50 (.t rfl) (ak.id _)) ?_))))))
        refine cons (opv (Ev.to (v':=I cnt) (Ev.len Tryz.underlying50 (.t rfl) (mM (b:=true) (by omega) (by repeat first | exact mH | apply mT | apply mA))) (congrArg I (by simp))) ?_)
        refine cons (opv (Ev.dx (.t rfl) (.t rfl)) ?_)
        refine nil (pN ?_)
        first | refine aL rfl (fun h5=>?_) (fun h5=>?_) | refine cond rfl (fun h5=>?_) (fun h5=>?_)
        · try simp only [Gx.nb] at h5
          refine skip (pN (seq (block (seq (region (cons (opv (Ev.ldv ty50 (.t rfl) (ak.id _)) ?_)))))))
          refine cons (opv (Ev.move (.t rfl)) (cons (opv (Ev.indexAddr Tryz.underlying50 ty4 (.t rfl) (.t rfl) (mM (b:=true) (by omega) (by repeat first | exact mH | apply mT | apply mA)) (fun _=>by omega)) ?_)))
          refine cons (opv (Ev.to (v':=.bool true) (Ev.dp ty4 (.t rfl) (mM (b:=true) (by omega) (by repeat first | exact mH | apply mT | apply mA)) (fun _=>by omega)) (congrArg Value.bool (rep_at (by omega)))) ?_)
          refine cons (opv (Ev.not (.t rfl)) ?_)
          refine nil (pN (il rfl (rfl) ?_))
          refine skip (bN (pN (region (cons (opv (Ev.move (.t rfl)) (cons (opv (Ev.a8 (.t rfl) (.c (v:=I 1) rfl) (fun _=>by omega)) ?_)))))))
          refine cons (opv (Ev.assign (.t rfl)) (nil (pN (nx (X:=Int) (k + 1) ?_ ?_))))
          · try dsimp only
            omega
          · try dsimp only
            omega
        · try simp only [Gx.nb] at h5
          refine exit (pX (pX (bX (pN (seq (region (cons (opv (Ev.assign (.c (v:=.bool true) rfl)) ?_))))))))
          refine nil (pN (ret (done rfl (.tmp rfl .nil) (bc ?_))))
          rfl
end Go.Proofs.YtjanhajdmhalaaaGreat
