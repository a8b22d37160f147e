/- Part. -/
import Derived.Test.YtljifjflnakmoaaGreatM5
import Derived.Test.YtljifjflnakmoaaGreatM1
import Derived.Test.YtljifjflnakmoaaGreatM2
set_option linter.unusedVariables false
set_option linter.unusedSimpArgs false
set_option linter.unusedSectionVars false
set_option maxRecDepth 100000
set_option maxHeartbeats 2000000
namespace Go.Proofs.YtljifjflnakmoaaGreat.Oc
open Go Go.Gx Go.Proofs.YtljifjflnakmoaaGreat.Tri
theorem fhash_ok (k:cV) (w:World):Gx.Calls Tryz.prog 98 #[mD.val k] w (bG w (U64 (nz 14695981039346656037 (keyB k)))):=by
 refine en0 7 Tryz.func98 (fun _ _=>?_);refine sg (cons (box (E:=mD) (.t rfl) (fun b1=>?_)));refine ac (U64 0) ?_;refine nP (sg (co (Ev.ldx k ty93 (.t rfl) (ah.id _)) ?_));refine cons (dY eN (o1 rfl) (fun w I=>bytes_ok _ w) (fun v2=>?_));refine cons (buildSlice (E:=(ovE ai)) Y258 oe z48 (.cons (.t rfl) .nil) rfl rfl (fun v3=>?_));refine cons (aQ eN (o1 rfl) (fun w I=>hash_ok _ [keyB k] w (IsSS.mk' (io w I) (.cons (io w I) .nil))) ?_);refine asn rfl (nP (ret (dn rfl rfl ?_)));simp [jY]
theorem ofInt_nat {n:Int} (h:0 ≤ n ∧ n ≤ 1000000):(UInt64.ofInt n).toNat = n.toNat:=by
 obtain ⟨m,rfl⟩:=Int.eq_ofNat_of_zero_le h.1;have e:UInt64.ofInt (m:Int) = UInt64.ofNat m:=by
  apply UInt64.toNat_inj.1;simp [UInt64.ofInt,UInt64.toNat_ofNat'];omega
 rw [e,UInt64.toNat_ofNat',Nat.mod_eq_of_lt (by omega),Int.toNat_natCast]
theorem shr20 (h:UInt64):h / 1048576 = dR h 20:=by
 apply UInt64.toNat_inj.1;rw [UInt64.toNat_div,bU]
 rfl
def hashK (k:cV):UInt64:=nz 14695981039346656037 (keyB k)
def laneV (k:cV) (n:Int):Int × Int:=if n < 1 ∨ n > 16 then (0,2) else (((hashK k).toNat % n.toNat:Nat),0)
def mm (k:cV) (f:UInt64):UInt64 × Int:=if f = 0 then (0,2) else (dR (hashK k) 20 % f,0)
theorem part_ok (k:cV) (f:UInt64) (w:World):Gx.Calls Tryz.prog 55 #[mD.val k,U64 f] w (bG w (.tuple #[U64 (mm k f).1,I (mm k f).2])):=by
 refine en0 13 Tryz.func55 (fun _ _=>?_);refine sg (cons (box (E:=mD) (.t rfl) (fun b1=>?_)));refine ac (U64 0) ?_;refine ac (I 0) ?_;refine nP (seq (sg (mv rfl (co (Ev.jr (.t rfl) (.c (v:=U64 0) rfl)) ?_))));refine nP ?_;refine cnd rfl (fun h0=>?_) (fun h0=>?_)
 ·refine sg (ac (U64 0) ?_);refine ac (I 2) ?_;refine nP (ret (pR (done rfl (.tmp rfl (.tmp rfl .nil)) (gD ?_))));simp [mm,h0,shr20,hashK]
  try rfl
 ·refine skip (pN (sg (co (Ev.ldx k ty93 (.t rfl) (ah.id _)) ?_)));refine cons (aQ eN (o1 rfl) (fun w I=>fhash_ok _ w) ?_);refine co (Ev.jm (.t rfl) (.c rfl) (fun _=>by decide)) ?_;refine mv rfl (co (Ev.wL (.t rfl) (.t rfl) (fun _=>h0)) ?_);refine asn rfl (ac (I 0) ?_);refine nP (ret (done rfl (.tmp rfl (.tmp rfl .nil)) (gD ?_)));simp [mm,h0,shr20,hashK]
  try rfl
end Go.Proofs.YtljifjflnakmoaaGreat.Oc
namespace Go.Proofs.YtljifjflnakmoaaGreat
open Go Go.Gx Go.Proofs.YtljifjflnakmoaaGreat.Tri Go.Proofs.YtljifjflnakmoaaGreat.Oc
theorem rN {w:World} {b o:Nat} {n:UInt64} (h:cq fR w b o n):w.cell? ⟨b,o,none⟩ = some (.int .u64 (n.toNat:Int)):=by
 have:=h 0 (U64 n) rfl
 simpa [U64] using this
theorem casV {α:Type} {P:Program} {K:Ctx} {F:Fr} {L L':List Res} {Q:Exit→Act→World→Prop} {N:Act→World→Prop} {ops:Array Oper} {ty:TypeId} {pos:String} {af:Array Edge} {d:Nat}
 {E:Enc α} {b o:Nat} {xv:α} {n m:UInt64} {T:TypeId} {f:FuncId} {fn:Func} {args:List Operand} {ats:Array TypeId}
 (hf:P.funcs[f]? = some fn) (hname:(fn.name == "runtime.NumGoroutine") = false) (hb:fn.body.isNone = true) (hn:Extern.findNext fn = none) (he:Extern.find fn = some (Extern.Atomic.casT (.int .u64)))
 (l:ah E fR o) (hargs:fq F true args [.pointer (some ⟨b,o,none⟩),U64 n,U64 m]) (hx:l.get xv = n)
 (hu:Upd L (Var b E xv T) (Var b E (l.set xv m) T) L') (next:Sat K N ((d,true,.bool true) :: F) L') (hd:Nat.blt d K.n = true:=by rfl) :
 Sat K (bH P K ops Q ⟨some d,.call { callee:=.value (.func f),args:=args.toArray,argTypes:=ats },ty,pos,af,none⟩ N) F L:=fun a w G=>by
 refine bF rfl rfl fun hnv=>?_
 have hbk:w.heap[b]? = some (.cells (E.cells xv).toArray T (0,0)):=(G.inv.own _ hu.mem).1;have hp:cq fR w b o n:=by
  rw [← hx];exact br hu.mem l w G.inv
 have hc:=rN hp;have hz:w.frozen? ⟨b,o,none⟩ = false:=by
  simp [World.frozen?,hbk]
 have h1:=hargs.eval rfl G.fo;have hfit:=l.fits;have hrow:w.setCell ⟨b,o,none⟩ (.int .u64 (m.toNat:Int)) = w.setRow b (E.cells (l.set xv m)).toArray:=by
  rw [setCell_eq_setRow w b o _ _ _ _ hbk,l.ny]
  congr 1
  have hlt:o < (E.cells xv).length:=by
   rw [E.len];have:fR.size = 1:=rfl;omega
  show (E.cells xv).toArray.setIfInBounds o (U64 m) = _;rw [List.setIfInBounds_toArray,List.set_eq_take_append_cons_drop,if_pos hlt];have e:(E.cells xv).take o ++ fR.cells m ++ (E.cells xv).drop (o + fR.size) = (E.cells xv).take o ++ U64 m :: (E.cells xv).drop (o + 1):=by
   rw [List.append_assoc]
   rfl
  rw [e]
 have hex:execOp a.eval ⟨some d,.call { callee:=.value (.func f),args:=args.toArray,argTypes:=ats },ty,pos,af,none⟩ = callFunc f #[.pointer (some ⟨b,o,none⟩),U64 n,U64 m]:=by
  simp [execOp,resolve,Deferred.ofValue,invoke,Act.eval,h1]
 have hmem:=hu.mem;have hlt:b < w.heap.size:=(Array.getElem?_eq_some_iff.1 hbk).1;have hw:=G.inv.upd hu (gC _ _ _) (setRow_heap w b _ _ _ _ hbk) (by
  intro k hk;have:k = b:=hk;subst this;exact ⟨.inl rfl,by simpa using hlt⟩)
 show Sem.wpS P (pmK K) K.E.fr _ _ w;rw [hex];refine wpS_ext hf hname hb hn he (wpS_casA ⟨hc,hz,((G.inv.own _ hmem).2 b rfl).1,G.inv.fr hmem b rfl⟩ ?_);rw [hrow];exact next _ _ (G.put d true (.bool true) (.bool true) (by simpa [Nat.blt_eq] using hd) rfl hw)
theorem atLoad {P:Program} {K:Ctx} {F:Fr} {L:List Res} {g:Bool} {ty:TypeId} {b o:Nat} {n:UInt64} {f:FuncId} {fn:Func} {args:List Operand} {ats:Array TypeId}
 (hf:P.funcs[f]? = some fn) (hname:(fn.name == "runtime.NumGoroutine") = false) (hb:fn.body.isNone = true) (hn:Extern.findNext fn = none) (he:Extern.find fn = some (Extern.Atomic.loadT (.int .u64)))
 (hargs:fq F g args [.pointer (some ⟨b,o,none⟩)]) (h:∀ w,aP K L w→cq fR w b o n):Ev P K F L g (.call { callee:=.value (.func f),args:=args.toArray,argTypes:=ats }) ty (U64 n) :=
 fun hg=>⟨rfl,fun a fo w I hnv dst pos af gd=>by
  have hc:=rN (h w I);have h1:=hargs.eval hg fo;have hex:execOp a.eval ⟨dst,.call { callee:=.value (.func f),args:=args.toArray,argTypes:=ats },ty,pos,af,gd⟩ = callFunc f #[.pointer (some ⟨b,o,none⟩)]:=by
   simp [execOp,resolve,Deferred.ofValue,invoke,Act.eval,h1]
  rw [hex];refine wpS_ext hf hname hb hn he (aU ?_ _ _ (wpS_loadA hc));rintro r w' ⟨rfl,rfl⟩;exact ⟨rfl,rfl⟩⟩
structure cU where
def cU.to:Unit→cU:=fun _=>⟨⟩
def cU.of:cU→Unit:=fun _=>()
def js:Enc cU:=gI unitE cU.to cU.of
structure bx where
 blank:cU
 blank2:cU
 v:UInt64
def bx.to:(cU × (cU × UInt64))→bx:=fun x=>⟨x.1,x.2.1,x.2.2⟩
def bx.of:bx→(cU × (cU × UInt64)):=fun x=>(x.blank,x.blank2,x.v)
def gZ:Enc bx:=gI (bh js (bh js fR)) bx.to bx.of
def bx.l_blank:ah gZ js 0:=lI bx.to bx.of l1
def bx.l_blank2:ah gZ js 0:=lI bx.to bx.of (l2 l1)
def bx.l_v:ah gZ fR 0:=lI bx.to bx.of (l2 (l2 (ah.id _)))
theorem load64_ok (b o:Nat) (n:UInt64) (w:World) (h:cq fR w b o n):Gx.Calls Tryz.prog 35 #[.pointer (some ⟨b,o,none⟩)] w (bG w (U64 n)):=by
 refine en0 7 Tryz.func35 (fun _ _=>?_);refine sg (ac (U64 0) ?_);refine nP (sg (mv rfl (co (Ev.nilCheck (.t rfl)) ?_)));refine cf 0 rfl ?_;refine co (atLoad rfl zk rfl zk zk (.cons (.t rfl) .nil) (fun w I=>h.cn I.keeps)) ?_;refine asn rfl (nP (ret (dn rfl rfl ?_)))
 rfl
theorem cas64_ok {α:Type} {E:Enc α} {o:Nat} (l:ah E fR o) (b:Nat) (xv:α) (m:UInt64) (Tt:TypeId) (w:World) (h:At (Var b E xv Tt) w):Gx.Calls Tryz.prog 39 #[.pointer (some ⟨b,o,none⟩),U64 (l.get xv),U64 m] w (fV w (Var b E xv Tt) (fun _:Unit=>True) (fun _=>.bool true) (fun _=>Var b E (l.set xv m) Tt)):=by
 refine enter 13 [Var b E xv Tt] Tryz.func39 rfl rfl (Nat.le_of_ble_eq_true rfl) (gU h) (fun _ _=>?_);refine sg (ac (.bool false) ?_);refine nP (sg (mv rfl (co (Ev.nilCheck (.t rfl)) ?_)));refine cf 0 rfl ?_;refine mv rfl (mv rfl (cons (casV rfl zk rfl zk zk l (.cons (.t rfl) (.cons (.t rfl) (.cons (.t rfl) .nil))) rfl zu ?_)));refine asn rfl (nP (ret (done rfl (.tmp rfl .nil) (fun w I=>?_))));exact mY () trivial rfl (by exact zm) w I
end Go.Proofs.YtljifjflnakmoaaGreat
namespace Go.Proofs.YtljifjflnakmoaaGreat
open Go Go.Gx Go.Proofs.YtljifjflnakmoaaGreat.Tri Go.Proofs.YtljifjflnakmoaaGreat.Oc
structure ak where
 end_:UInt64
 stage:UInt64
 seen:UInt64
 dropped:UInt64
def ak.to:(UInt64 × (UInt64 × (UInt64 × UInt64)))→ak:=fun x=>⟨x.1,x.2.1,x.2.2.1,x.2.2.2⟩
def ak.of:ak→(UInt64 × (UInt64 × (UInt64 × UInt64))):=fun x=>(x.end_,x.stage,x.seen,x.dropped)
def cM:Enc ak:=gI (bh fR (bh fR (bh fR fR))) ak.to ak.of
def ak.lx:ah cM fR 0:=lI ak.to ak.of l1
@[simp] theorem ak.get_end_ (x:ak):ak.lx.get x = x.end_:=rfl
@[simp] theorem ak.set_end_ (x:ak) (y:UInt64):ak.lx.set x y = { x with end_:=y }:=rfl
def ak.jo:ah cM fR 1:=lI ak.to ak.of (l2 l1)
@[simp] theorem ak.get_stage (x:ak):ak.jo.get x = x.stage:=rfl
@[simp] theorem ak.set_stage (x:ak) (y:UInt64):ak.jo.set x y = { x with stage:=y }:=rfl
def ak.nw:ah cM fR 2:=lI ak.to ak.of (l2 (l2 l1))
@[simp] theorem ak.get_seen (x:ak):ak.nw.get x = x.seen:=rfl
@[simp] theorem ak.set_seen (x:ak) (y:UInt64):ak.nw.set x y = { x with seen:=y }:=rfl
def ak.ez:ah cM fR 3:=lI ak.to ak.of (l2 (l2 (l2 (ah.id _))))
@[simp] theorem ak.get_dropped (x:ak):ak.ez.get x = x.dropped:=rfl
@[simp] theorem ak.set_dropped (x:ak) (y:UInt64):ak.ez.set x y = { x with dropped:=y }:=rfl
structure au where
 parts:Int
 wait:UInt64
 ca:UInt64
def au.to:(Int × (UInt64 × UInt64))→au:=fun x=>⟨x.1,x.2.1,x.2.2⟩
def au.of:au→(Int × (UInt64 × UInt64)):=fun x=>(x.parts,x.wait,x.ca)
def aS:Enc au:=gI (bh iE (bh fR fR)) au.to au.of
def au.fC:ah aS iE 0:=lI au.to au.of l1
@[simp] theorem au.get_parts (x:au):au.fC.get x = x.parts:=rfl
@[simp] theorem au.set_parts (x:au) (y:Int):au.fC.set x y = { x with parts:=y }:=rfl
def au.gP:ah aS fR 1:=lI au.to au.of (l2 l1)
@[simp] theorem au.get_wait (x:au):au.gP.get x = x.wait:=rfl
@[simp] theorem au.set_wait (x:au) (y:UInt64):au.gP.set x y = { x with wait:=y }:=rfl
def au.jc:ah aS fR 2:=lI au.to au.of (l2 (l2 (ah.id _)))
@[simp] theorem au.get_most (x:au):au.jc.get x = x.ca:=rfl
@[simp] theorem au.set_most (x:au) (y:UInt64):au.jc.set x y = { x with ca:=y }:=rfl
def aB (w:UInt64):ak:=⟨dR w 50,dR w 42 &&& 255,dR w 21 &&& 2097151,w &&& 2097151⟩
def kW (s:ak):UInt64:=iS (iS (iS s.end_ 8 ||| s.stage) 21 ||| s.seen) 21 ||| s.dropped
def qq (x:au) (last:Int):Bool:=!(decide (x.parts ≤ last) || decide (100 < x.parts) || decide (x.wait < 1) || decide (1048576 < x.wait) || decide (1048576 < x.ca))
def dk:List au→Int→Bool
 | [],_=>true
 | x :: l,last=>qq x last && dk l x.parts
theorem z120:zI 120 cM:=kI
theorem mL:tyI 120 cM:=tyP
theorem sZ (n:UInt64) (w:World):Gx.Calls Tryz.prog 36 #[U64 n] w (bG w (cM.val (aB n))):=by
 refine en0 14 Tryz.func36 (fun _ _=>?_);refine sg (cons (alloc z120 (fun b1=>?_)));refine nP (sg (mv rfl (co (Ev.jm (.t rfl) (.c rfl) (fun _=>by decide)) ?_)));refine mv rfl (co (Ev.jm (.t rfl) (.c rfl) (fun _=>by decide)) ?_);refine co (Ev.sB (.t rfl) (.c (v:=U64 255) rfl)) ?_;refine mv rfl (co (Ev.jm (.t rfl) (.c rfl) (fun _=>by decide)) ?_);refine co (Ev.sB (.t rfl) (.c (v:=U64 2097151) rfl)) ?_;refine mv rfl (co (Ev.sB (.t rfl) (.c (v:=U64 2097151) rfl)) ?_);refine co (Ev.bu (fs:=_) (places:=[(0,1),(1,1),(2,1),(3,1)]) z120 rfl Tryz.underlying120 zk (.cons (.t rfl) (.cons (.t rfl) (.cons (.t rfl) (.cons (.t rfl) .nil)))) (ay.cons ak.lx rfl (ay.cons ak.jo rfl (ay.cons ak.nw rfl (ay.cons ak.ez rfl ay.nil))))) ?_;refine cons (stv mL (ah.id _) (.t rfl) (.t rfl) ?_);refine nP (ret (done rfl (.cellP rfl mL (br zm (ah.id _)) .nil) (gD ?_)))
 rfl
theorem word_ok (s:ak) (w:World):Gx.Calls Tryz.prog 38 #[cM.val s] w (bG w (U64 (kW s))):=by
 refine en0 25 Tryz.func38 (fun _ _=>?_);refine sg (cons (box (E:=cM) (.t rfl) (fun b1=>?_)));refine ac (U64 0) ?_;refine nP (sg (cf 0 rfl ?_));refine co (Ev.ldx s.end_ eO (.t rfl) ak.lx) ?_;refine asn rfl (nP (sg (mv rfl (co (Ev.pw (.t rfl) (.c rfl) (fun _=>by decide)) ?_))));refine asn rfl (nP (sg (mv rfl (cf 1 rfl ?_))));refine co (Ev.ldx s.stage eO (.t rfl) ak.jo) ?_;refine co (Ev.wS (.t rfl) (.t rfl)) ?_;refine asn rfl (nP (sg (mv rfl (co (Ev.pw (.t rfl) (.c rfl) (fun _=>by decide)) ?_))));refine asn rfl (nP (sg (mv rfl (cf 2 rfl ?_))));refine co (Ev.ldx s.seen eO (.t rfl) ak.nw) ?_;refine co (Ev.wS (.t rfl) (.t rfl)) ?_;refine asn rfl (nP (sg (mv rfl (co (Ev.pw (.t rfl) (.c rfl) (fun _=>by decide)) ?_))));refine asn rfl (nP (sg (mv rfl (cf 3 rfl ?_))));refine co (Ev.ldx s.dropped eO (.t rfl) ak.ez) ?_;refine co (Ev.wS (.t rfl) (.t rfl)) ?_;refine asn rfl (nP (sg (mv rfl (asn rfl (nP (ret (dn rfl rfl ?_)))))))
 rfl
theorem rollpart_ok (k:cV) (w:World):Gx.Calls Tryz.prog 24 #[mD.val k] w (bG w (U64 (mm k 100).1)):=by
 refine en0 11 Tryz.func24 (fun _ _=>?_);refine sg (cons (box (E:=mD) (.t rfl) (fun b1=>?_)));refine ac (U64 0) ?_;refine nP (sg (co (Ev.ldx k ty93 (.t rfl) (ah.id _)) ?_));refine cons (aQ eN (.cons (.t rfl) (.cons (.c (v:=U64 100) rfl) .nil)) (fun w I=>part_ok _ _ w) ?_);exact s66
end Go.Proofs.YtljifjflnakmoaaGreat
namespace Go.Proofs.YtljifjflnakmoaaGreat
open Go Go.Gx Go.Proofs.YtljifjflnakmoaaGreat.Tri Go.Proofs.YtljifjflnakmoaaGreat.Oc
theorem rh (l:List au) (i:Nat) (last:Int) (h:i < l.length):dk (l.drop i) last = (qq (l.getD i aS.zero) last && dk (l.drop (i + 1)) (l.getD i aS.zero).parts):=by
 rw [List.drop_eq_getElem_cons h];simp [dk,List.getD,h]
theorem ju:tyI 53 aS:=tyP
theorem z53:zI 53 aS:=kI
theorem rollmay_ok (u:Value) (l:List au) (w:World) (hu:aO aS w u l):Gx.Calls Tryz.prog 20 #[u] w (bG w (.bool (dk l 0 && decide (0 < l.length)))):=by
 have hle:=hu.le;refine en0 42 Tryz.func20 (fun _ _=>?_);refine sg (ac (.bool false) ?_);refine nP (sg (ac (I 0) ?_));refine nP (seq (sg (mv rfl (co (Ev.len Y29 (.t rfl) zf) ?_))));refine co (Ev.move (.c rfl)) ?_;refine nP (block (lp (X:=Int × Int) (fun x=>(0 ≤ x.1 ∧ x.1 ≤ l.length) ∧ (dk (l.drop x.1.toNat) x.2 = dk l 0)) (fun x=>[dz,(0,true,u),(3,true,I x.2),(6,true,u),(7,true,I l.length),(8,true,I x.1)]) (fun x=>[]) (fun x=>((l.length:Int) - x.1).toNat) (0,0) ⟨?_,?_⟩ (fun x hx=>?_)))
 ·omega
 ·rfl
 obtain ⟨i,last⟩:=x;dsimp only at hx;obtain ⟨hi,hs⟩:=hx;refine sg (co (Ev.cj (.t rfl) (.t rfl)) ?_);refine nP (seq ?_);refine cnd rfl (fun h0=>?_) (fun h0=>?_)
 ·refine skip (pN (seq (block (sg (co (Ev.indexAddr Y29 ju (.t rfl) (.t rfl) zf (fun _=>zo)) ?_)))));refine co (Ev.bV ju (.t rfl) zf (fun _=>zo)) ?_;refine cons (alloc z53 (fun b1=>?_));refine cons (stv ju (ah.id _) (.t rfl) (.t rfl) ?_);refine nP (seq (sg (cf 0 rfl ?_)));refine co (Ev.ldv ty3 (.t rfl) au.fC) ?_;refine mv rfl (co (Ev.leq_i (.t rfl) (.t rfl)) ?_);refine mv rfl (cg rfl rfl (fA 0 (.t rfl)) ?_);refine cg rfl rfl (Ev.ldv ty3 (.g rfl id) au.fC) ?_;refine cg rfl rfl (Ev.ir (.g rfl id) (.c rfl)) ?_;refine co (Ev.pkO (.t rfl) rfl) ?_;refine mv rfl (cg rfl rfl (fA 1 (.t rfl)) ?_);refine cg rfl rfl (Ev.ldv eO (.g rfl id) au.gP) ?_;refine cg rfl rfl (Ev.j3 (.g rfl id) (.c (v:=U64 1) rfl)) ?_;refine co (Ev.pkO (.t rfl) rfl) ?_;refine mv rfl (cg rfl rfl (fA 1 (.t rfl)) ?_);refine cg rfl rfl (Ev.ldv eO (.g rfl id) au.gP) ?_;refine cg rfl rfl (Ev.gJ (.g rfl id) (.c (v:=U64 1048576) rfl)) ?_;refine co (Ev.pkO (.t rfl) rfl) ?_;refine mv rfl (cg rfl rfl (fA 2 (.t rfl)) ?_);refine cg rfl rfl (Ev.ldv eO (.g rfl id) au.jc) ?_;refine cg rfl rfl (Ev.gJ (.g rfl id) (.c (v:=U64 1048576) rfl)) ?_;refine co (Ev.pkO (.t rfl) rfl) ?_;refine nP ?_;refine cnq rfl (fun h1=>?_) (fun h1=>?_)
  ·have hst:(decide ((l.getD i.toNat aS.zero).parts ≤ last) || decide (100 < (l.getD i.toNat aS.zero).parts) || decide ((l.getD i.toNat aS.zero).wait < 1) || decide (1048576 < (l.getD i.toNat aS.zero).wait) || decide (1048576 < (l.getD i.toNat aS.zero).ca)) = true:=h1;refine sg (ac (.bool false) ?_);refine nP (ret (pR (bR (pR (pR (bR (pR (dn rfl rfl ?_))))))));have e:dk l 0 = false:=by
    rw [← hs,rh l i.toNat last (by omega)];unfold qq;rw [hst]
    rfl
   rw [e]; rfl
  ·have hst:(decide ((l.getD i.toNat aS.zero).parts ≤ last) || decide (100 < (l.getD i.toNat aS.zero).parts) || decide ((l.getD i.toNat aS.zero).wait < 1) || decide (1048576 < (l.getD i.toNat aS.zero).wait) || decide (1048576 < (l.getD i.toNat aS.zero).ca)) = false:=h1;refine skip (pN (region (cf 0 rfl ?_)));refine co (Ev.ldv ty3 (.t rfl) au.fC) ?_;refine asn rfl (nil (bN (pN (region (co (Ev.bL (.t rfl) (.c rfl) (fun _=>zo)) ?_)))));refine mv rfl (nP (nx (i + 1,_) ⟨?_,?_⟩ ?_))
   ·try dsimp only
    omega
   ·try dsimp only
    rw [show (i + 1).toNat = i.toNat + 1 by omega,← hs,rh l i.toNat last (by omega)];have e:qq (l.getD i.toNat aS.zero) last = true:=by unfold qq; rw [hst]; rfl
    rw [e,Bool.true_and]; rfl
   ·try dsimp only
    omega
 ·refine exit (pX (pX (bX (pN (sg (mv rfl (co (Ev.len Y29 (.t rfl) zf) ?_)))))));refine co (Ev.ir (.t rfl) (.c rfl)) ?_;refine asn rfl (nP (ret (dn rfl rfl ?_)));have e:i.toNat = l.length:=by omega
  rw [e,List.drop_length] at hs;rw [← hs];simp [dk]
  try rfl
end Go.Proofs.YtljifjflnakmoaaGreat
namespace Go.Proofs.YtljifjflnakmoaaGreat
open Go Go.Gx Go.Proofs.YtljifjflnakmoaaGreat.Tri Go.Proofs.YtljifjflnakmoaaGreat.Oc
theorem neq_none {P:Program} {K:Ctx} {F:Fr} {L:List Res} {g:Bool} {x:Operand} {t t' ty:TypeId} {ms:_} (ht:P.underlying t = some (.interface ms)) (hx:Opd F g x .nilIface):Ev P K F L g (.binOp .neq t x (.const .nilIface) t') ty (.bool false) :=
 Ev.bin hx (.c (v:=.nilIface) rfl) (fun w=>by unfold eqGuard; simp) (fun w=>by
  have e:Op.maxDepth = (Op.maxDepth - 1) + 1:=by decide
  simp only [binOp,Op.equal];rw [e];simp [Op.equalIn,run_underlying ht,Result.andThen]) (by unfold eqGuard; simp; exact .pure _) (by
  refine .bind ?_ fun _=>.pure _
  show Tm P _ _ (Op.equalIn (9999 + 1) t .nilIface .nilIface);unfold Op.equalIn;refine .under ht ?_;exact .pure _)
theorem pq (o:UInt8) (w:World):Gx.Calls Tryz.prog 34 #[eB.v,U8 o] w (bG w (.tuple #[])):=by
 refine en0 10 Tryz.func34 (fun _ _=>?_);refine sg (mv rfl (co (neq_none Tryz.underlying77 (.t rfl)) ?_));refine nP (fL rfl (rfl) ?_);refine skip (rH rfl .nil (gD ?_))
 rfl
end Go.Proofs.YtljifjflnakmoaaGreat
namespace Go.Proofs.YtljifjflnakmoaaGreat
open Go Go.Gx Go.Proofs.YtljifjflnakmoaaGreat.Tri Go.Proofs.YtljifjflnakmoaaGreat.Oc
structure ba where
 old:OV
 new:OV
 mQ:OV
 state:bx
def ba.to:(OV × (OV × (OV × bx)))→ba:=fun x=>⟨x.1,x.2.1,x.2.2.1,x.2.2.2⟩
def ba.of:ba→(OV × (OV × (OV × bx))):=fun x=>(x.old,x.new,x.mQ,x.state)
def aH:Enc ba:=gI (bh (ovE bP) (bh (ovE bP) (bh (ovE ai) gZ))) ba.to ba.of
def ba.l_old:ah aH (ovE bP) 0:=lI ba.to ba.of l1
@[simp] theorem ba.set_old (x:ba) (y:OV):ba.l_old.set x y = { x with old:=y }:=rfl
def ba.oE:ah aH (ovE bP) 1:=lI ba.to ba.of (l2 l1)
@[simp] theorem ba.set_new (x:ba) (y:OV):ba.oE.set x y = { x with new:=y }:=rfl
def ba.nq:ah aH (ovE ai) 2:=lI ba.to ba.of (l2 (l2 l1))
@[simp] theorem ba.set_stages (x:ba) (y:OV):ba.nq.set x y = { x with mQ:=y }:=rfl
def ba.xd:ah aH gZ 3:=lI ba.to ba.of (l2 (l2 (l2 (ah.id _))))
@[simp] theorem ba.get_state (x:ba):ba.xd.get x = x.state:=rfl
@[simp] theorem ba.set_state (x:ba) (y:bx):ba.xd.set x y = { x with state:=y }:=rfl
theorem qw (b nb:Nat) (w:World) (hb:Rdb w b 1 (.pointer (some ⟨nb,0,none⟩))):Gx.Calls Tryz.prog 31 #[.pointer (some ⟨b,0,none⟩)] w (bG w (.bool true)):=by
 refine en0 12 Tryz.func31 (fun _ _=>?_);refine sg (ac (.bool false) ?_);refine nP (sg (mv rfl (co (Ev.tB Tryz.underlying35 (.t rfl) (.c rfl)) ?_)));refine mv rfl (cg rfl rfl (Ev.move (.t rfl)) ?_);refine cg rfl rfl (Ev.nilCheck (.g rfl id)) ?_;refine cg rfl rfl (fA 1 (.g rfl id)) ?_;refine cg rfl rfl (Ev.to (v':=.pointer (some ⟨nb,0,none⟩)) (Ev.vK Tryz.isAgg65 (.g rfl id) (fun w I=>hb.cn I.keeps id)) (rfl)) ?_;refine cg rfl rfl (Ev.tB Tryz.underlying65 (.g rfl id) (.c rfl)) ?_;exact s68
end Go.Proofs.YtljifjflnakmoaaGreat
namespace Go.Proofs.YtljifjflnakmoaaGreat
open Go Go.Gx Go.Proofs.YtljifjflnakmoaaGreat.Tri Go.Proofs.YtljifjflnakmoaaGreat.Oc
def nh (ss:List au) (s:ak) (dr:Bool):ak :=
 let d2:=if dr = true then s.dropped + 1 else s.dropped
 if (ss.getD s.stage.toNat aS.zero).ca < d2 then ⟨2,s.stage,s.seen + 1,d2⟩
 else if s.seen + 1 < (ss.getD s.stage.toNat aS.zero).wait then ⟨s.end_,s.stage,s.seen + 1,d2⟩
 else if (s.stage.toNat:Int) = (ss.length:Int) - 1 then ⟨1,s.stage,s.seen + 1,d2⟩
 else ⟨0,s.stage + 1,0,0⟩
theorem tO {α:Type} {P:Program} {K:Ctx} {F:Fr} {L:List Res} {g:Bool} {x y:Operand} {t ty:TypeId} {E:Enc α} {v:Value} {xs:List α} {e:TypeId} {n:UInt64} (ht:P.underlying t = some (.slice e)) (T:ee P e E) (hx:Opd F g x v) (hy:Opd F g y (U64 n))
 (h:∀ w,aP K L w→aO E w v xs) (hi:n.toNat < xs.length) :
 Ev P K F L g (.indexAddr t x y) ty (gg v (((n.toNat:Int)).toNat * E.size)):=.of rfl (fun _ _ _ _ _ _ _ _ _=>.bind (.indexAt _ _ _) fun _=>.pure _) fun hg a G w hw dst pos af gd=>by
 obtain ⟨b,cap,rfl,h1,_,h2,h3⟩:=h w hw;have hi':0 ≤ (n.toNat:Int) ∧ (n.toNat:Int) < xs.length:=by omega
 have hu:(underlying t).run P w = .ok (.slice e) w:=by simp [underlying,ht]
 cases b with
 | none =>
   have:=(h2 rfl).1;subst this;simp at hi
 | some p =>
   have hp:=(h3 p rfl).1 (fun e=>by rw [e] at hi; simp at hi);obtain ⟨pb,po,ps⟩:=p;simp only at hp;subst hp;simp [execOp,Instr.indexAt,asIntOf,hx.eval hg G,hy.eval hg G,U64,hu,hi,hi',Gx.run_sizeOf T,gg,fO]
theorem counted_ok (b:Nat) (u:Value) (ss:List au) (s:ak) (dr:Bool) (w:World) (hb:Rdb w b 2 u) (hs:aO aS w u ss) (hi:s.stage.toNat < ss.length) (hl:ss.length ≤ 256):Gx.Calls Tryz.prog 37 #[.pointer (some ⟨b,0,none⟩),cM.val s,.bool dr] w (bG w (cM.val (nh ss s dr))):=by
 refine en0 55 Tryz.func37 (fun _ _=>?_);refine sg (cons (box (E:=cM) (.t rfl) (fun b1=>?_)));refine cons (alloc z120 (fun b2=>?_));refine nP (cut (X:=Nat) (fun x=>True) (fun x=>[dz,(0,true,pvb b),(2,true,.bool dr),(4,true,pvb b1),(6,true,pvb b2),(7,true,pvb x)]) (fun x=>[Var x aS (ss.getD s.stage.toNat aS.zero) 53,Var b2 cM cM.zero 120,Var b1 cM s 120]) ?_ (fun x hx=>?_))
 ·refine dA zk ?_;refine tm 0 rfl rfl ?_;refine tn 1 rfl rfl ?_;refine tk 2 rfl (fA 2 (.t rfl)) ?_;refine tk 3 rfl (Ev.to (v':=u) (Ev.vK Tryz.isAgg29 (.t rfl) (fun w I=>hb.cn I.keeps id)) (rfl)) ?_;refine tk 4 rfl (fA 1 (.t rfl)) ?_;refine tk 5 rfl (Ev.ldv eO (.t rfl) ak.jo) ?_;refine tk 6 rfl (tO Y29 ju (.t rfl) (.t rfl) zf hi) ?_;refine tk 7 rfl (Ev.bV ju (.t rfl) zf (fun _=>⟨by omega,by (show (s.stage.toNat:Int) < _); omega⟩)) ?_;refine al1 8 rfl ((alloc z53 (fun b3=>?_)));refine hdn (al1 9 rfl ((stv ju (ah.id _) (.t rfl) (.t rfl) ?_)));refine hdn (ovr (pN (mtP (_) trivial)))
 obtain ⟨x3,rfl⟩:∃ y,y = x:=⟨x,rfl⟩;refine sg (cf 2 rfl ?_);refine co (Ev.ldv eO (.t rfl) ak.nw) ?_;refine co (Ev.gK (.t rfl) (.c (v:=U64 1) rfl)) ?_;refine cf 2 rfl ?_;refine cons (stv eO ak.nw (.t rfl) (.t rfl) ?_);refine nP (cut (X:=UInt64) (fun x=>(x = if dr = true then s.dropped + 1 else s.dropped)) (fun x=>[dz,(0,true,pvb b),(4,true,pvb b1),(6,true,pvb b2),(7,true,pvb x3)]) (fun x=>[Var x3 aS (ss.getD s.stage.toNat aS.zero) 53,Var b2 cM cM.zero 120,Var b1 cM ⟨s.end_,s.stage,s.seen + 1,x⟩ 120]) ?_ (fun x hx=>?_))
 ·refine sg (mv rfl (nP ?_));refine cnd rfl (fun h0=>?_) (fun h0=>?_)
  ·refine region (cf 3 rfl ?_);refine co (Ev.ldv eO (.t rfl) ak.ez) ?_;refine co (Ev.gK (.t rfl) (.c (v:=U64 1) rfl)) ?_;refine cf 3 rfl ?_;refine cons (stv eO ak.ez (.t rfl) (.t rfl) ?_);refine nP (mt (_) ?_)
   ·exact s64
  ·refine skip (pN (mt (_) ?_))
   ·exact s64
 obtain ⟨d2,rfl⟩:∃ y,y = x:=⟨x,rfl⟩;have hd2:d2 = if dr = true then s.dropped + 1 else s.dropped:=hx
 clear hx;refine seq (block (sg (cf 3 rfl ?_)));refine co (Ev.ldv eO (.t rfl) ak.ez) ?_;refine cf 2 rfl ?_;refine co (Ev.ldv eO (.t rfl) au.jc) ?_;refine co (Ev.gJ (.t rfl) (.t rfl)) ?_;refine asn rfl (nP ?_);refine cnd rfl (fun h1=>?_) (fun h1=>?_)
 ·refine region (cf 0 rfl ?_);refine cons (stv eO ak.lx (.t rfl) (.c (v:=U64 2) rfl) ?_);exact s79
 ·refine sg (cf 2 rfl ?_);refine co (Ev.ldv eO (.t rfl) ak.nw) ?_;refine cf 1 rfl ?_;refine co (Ev.ldv eO (.t rfl) au.gP) ?_;refine co (Ev.j3 (.t rfl) (.t rfl)) ?_;refine asn rfl (nP ?_);refine cnd rfl (fun h2=>?_) (fun h2=>?_)
  ·refine skip (bN (pN (sg (co (Ev.ldv mL (.t rfl) (ah.id _)) ?_))));exact s4
  ·refine seq (dA zk ?_);refine tk 0 rfl (fA 1 (.t rfl)) ?_;refine tk 1 rfl (Ev.ldv eO (.t rfl) ak.jo) ?_;refine tk 2 rfl (Ev.uh Y3 Y51 (.t rfl) (fun _=>(by show s.stage.toNat < _; omega))) ?_;refine tm 3 rfl rfl ?_;refine tn 4 rfl rfl ?_;refine tk 5 rfl (fA 2 (.t rfl)) ?_;refine tk 6 rfl (Ev.to (v':=u) (Ev.vK Tryz.isAgg29 (.t rfl) (fun w I=>hb.cn I.keeps id)) (rfl)) ?_;refine tk 7 rfl (Ev.len Y29 (.t rfl) zf) ?_;refine tk 8 rfl (Ev.jV (.t rfl) (.c rfl) (fun _=>zo)) ?_;refine tk 9 rfl (Ev.dO (.t rfl) (.t rfl)) ?_;refine tk 10 rfl (Ev.assign (.t rfl)) ?_;refine ovr (pN ?_);refine cnd rfl (fun h3=>?_) (fun h3=>?_)
   ·refine region (cf 0 rfl ?_);refine cons (stv eO ak.lx (.t rfl) (.c (v:=U64 1) rfl) ?_);exact s79
   ·refine region (cf 1 rfl ?_);refine co (Ev.ldv eO (.t rfl) ak.jo) ?_;refine co (Ev.gK (.t rfl) (.c (v:=U64 1) rfl)) ?_;refine co (Ev.bu (fs:=_) (places:=[(0,1),(1,1),(2,1),(3,1)]) z120 rfl Tryz.underlying120 zk (.cons (.t rfl) .nil) (ay.cons ak.jo rfl ay.nil)) ?_;refine cons (stv mL (ah.id _) (.t rfl) (.t rfl) ?_);exact s79
end Go.Proofs.YtljifjflnakmoaaGreat
namespace Go.Proofs.YtljifjflnakmoaaGreat
open Go Go.Gx Go.Proofs.YtljifjflnakmoaaGreat.Tri Go.Proofs.YtljifjflnakmoaaGreat.Oc
theorem split_end (n:UInt64):(aB n).end_.toNat = n.toNat / 2 ^ 50:=bU _ _
theorem split_stage (n:UInt64):(aB n).stage.toNat = n.toNat / 2 ^ 42 % 256:=by
 show (dR n 42 &&& 255).toNat = _;rw [UInt64.toNat_and,bU];exact Nat.and_two_pow_sub_one_eq_mod _ 8
theorem split_seen (n:UInt64):(aB n).seen.toNat = n.toNat / 2 ^ 21 % 2097152:=by
 show (dR n 21 &&& 2097151).toNat = _;rw [UInt64.toNat_and,bU];exact Nat.and_two_pow_sub_one_eq_mod _ 21
theorem uQ (n:UInt64):(aB n).dropped.toNat = n.toNat % 2097152:=by
 show (n &&& 2097151).toNat = _;rw [UInt64.toNat_and];exact Nat.and_two_pow_sub_one_eq_mod _ 21
theorem shl_or (a b:UInt64) (k:Nat) (ha:a.toNat * 2 ^ k < 18446744073709551616) (hb:b.toNat < 2 ^ k):(iS a k ||| b).toNat = a.toNat * 2 ^ k + b.toNat:=by
 rw [UInt64.toNat_or,jw,Nat.mod_eq_of_lt ha,← Nat.shiftLeft_eq,Nat.shiftLeft_add_eq_or_of_lt hb]
structure SmallS (s:ak):Prop where
 e:s.end_.toNat < 4
 t:s.stage.toNat < 256
 n:s.seen.toNat < 2097152
 d:s.dropped.toNat < 2097152
theorem word_nat {s:ak} (h:SmallS s):(kW s).toNat = ((s.end_.toNat * 256 + s.stage.toNat) * 2097152 + s.seen.toNat) * 2097152 + s.dropped.toNat:=by
 obtain ⟨h1,h2,h3,h4⟩:=h;have e1:=shl_or s.end_ s.stage 8 (by omega) h2;have e2:=shl_or (iS s.end_ 8 ||| s.stage) s.seen 21 (by rw [e1]; omega) h3;have e3:=shl_or (iS (iS s.end_ 8 ||| s.stage) 21 ||| s.seen) s.dropped 21 (by rw [e2,e1]; omega) h4;show (iS (iS (iS s.end_ 8 ||| s.stage) 21 ||| s.seen) 21 ||| s.dropped).toNat = _;rw [e3,e2,e1]
theorem split_word {s:ak} (h:SmallS s):aB (kW s) = s:=by
 have hw:=word_nat h;obtain ⟨h1,h2,h3,h4⟩:=h;obtain ⟨a,b,c,d⟩:=s;simp only at hw h1 h2 h3 h4;have k1:=split_end (kW ⟨a,b,c,d⟩);have k2:=split_stage (kW ⟨a,b,c,d⟩);have k3:=split_seen (kW ⟨a,b,c,d⟩);have k4:=uQ (kW ⟨a,b,c,d⟩);rw [hw] at k1 k2 k3 k4;have g1:(aB (kW ⟨a,b,c,d⟩)).end_ = a:=UInt64.toNat_inj.1 (by omega);have g2:(aB (kW ⟨a,b,c,d⟩)).stage = b:=UInt64.toNat_inj.1 (by omega);have g3:(aB (kW ⟨a,b,c,d⟩)).seen = c:=UInt64.toNat_inj.1 (by omega);have g4:(aB (kW ⟨a,b,c,d⟩)).dropped = d:=UInt64.toNat_inj.1 (by omega);cases hs:aB (kW ⟨a,b,c,d⟩);rw [hs] at g1 g2 g3 g4;simp only at g1 g2 g3 g4;rw [g1,g2,g3,g4]
def nxW (ss:List au) (n:UInt64) (dr:Bool):UInt64:=kW (nh ss (aB n) dr)
def du (f:Nat→Nat):Nat→Nat
 | 0=>0
 | k + 1=>du f k + f k
theorem sumN_mono (f:Nat→Nat) {a b:Nat} (h:a ≤ b):du f a ≤ du f b:=by
 induction h with
 | refl=>exact Nat.le_refl _
 | step _ ih=>exact Nat.le_trans ih (Nat.le_add_right _ _)
def wt (ss:List au) (k:Nat):Nat:=(ss.getD k aS.zero).wait.toNat
def mo (ss:List au) (k:Nat):Nat:=(ss.getD k aS.zero).ca.toNat
def pa (ss:List au) (k:Nat):Int:=(ss.getD k aS.zero).parts
structure fE (ss:List au):Prop where
 w:∀ k,k < ss.length→1 ≤ wt ss k ∧ wt ss k ≤ 1048576 ∧ mo ss k ≤ 1048576
 p:∀ k,k < ss.length→0 < pa ss k ∧ pa ss k ≤ 100
 s:∀ a b,a ≤ b→b < ss.length→pa ss a ≤ pa ss b
 l:ss.length ≤ 100
theorem vP:∀ (ss:List au) (z:Int),dk ss z = true→(∀ k,k < ss.length→1 ≤ wt ss k ∧ wt ss k ≤ 1048576 ∧ mo ss k ≤ 1048576 ∧ z + k < pa ss k ∧ pa ss k ≤ 100) ∧ ∀ a b,a ≤ b→b < ss.length→pa ss a ≤ pa ss b
 | [],z,_=>⟨fun k hk=>by simp at hk,fun a b _ hb=>by simp at hb⟩
 | x :: l,z,h=>by
   simp only [dk,Bool.and_eq_true] at h;obtain ⟨h1,h2⟩:=h;obtain ⟨g1,g2⟩:=vP l x.parts h2;simp only [qq,Bool.not_eq_true',Bool.or_eq_false_iff,decide_eq_false_iff_not] at h1;obtain ⟨⟨⟨⟨q1,q2⟩,q3⟩,q4⟩,q5⟩:=h1;rw [UInt64.lt_iff_toNat_lt] at q3 q4 q5;have e3:(1:UInt64).toNat = 1:=rfl;have e4:(1048576:UInt64).toNat = 1048576:=rfl;rw [e3] at q3;rw [e4] at q4 q5;refine ⟨fun k hk=>?_,fun a b hab hb=>?_⟩
   ·cases k with
    | zero =>
      show 1 ≤ x.wait.toNat ∧ x.wait.toNat ≤ _ ∧ x.ca.toNat ≤ _ ∧ z + ((0:Nat):Int) < x.parts ∧ x.parts ≤ 100;omega
    | succ k =>
      have:=g1 k (by simpa using hk);show 1 ≤ wt l k ∧ wt l k ≤ _ ∧ mo l k ≤ _ ∧ z + ((k + 1:Nat):Int) < pa l k ∧ pa l k ≤ 100;omega
   ·cases a with
    | zero =>
      cases b with
      | zero=>exact Int.le_refl _
      | succ b =>
        have:=g1 b (by simpa using hb);show x.parts ≤ pa l b;omega
    | succ a =>
      cases b with
      | zero=>omega
      | succ b=>exact g2 a b (by omega) (by simpa using hb)
theorem mb {ss:List au} (h:dk ss 0 = true):fE ss:=by
 obtain ⟨h1,h2⟩:=vP ss 0 h;refine ⟨fun k hk=>⟨(h1 k hk).1,(h1 k hk).2.1,(h1 k hk).2.2.1⟩,fun k hk=>?_,h2,?_⟩
 ·have:=h1 k hk; omega
 ·rcases Nat.eq_zero_or_pos ss.length with h0 | h0
  ·omega
  ·have:=h1 (ss.length - 1) (by omega); omega
def kU (ss:List au) (n:UInt64):Nat:=(aB n).seen.toNat + du (wt ss) (aB n).stage.toNat
def mstd (ss:List au) (n:UInt64):Nat:=(aB n).dropped.toNat + du (mo ss) (aB n).stage.toNat
structure WfS (ss:List au) (s:ak):Prop where
 lt:s.stage.toNat < ss.length
 ds:s.dropped.toNat ≤ s.seen.toNat
 alt:(s.end_.toNat = 0 ∧ s.seen.toNat < wt ss s.stage.toNat ∧ s.dropped.toNat ≤ mo ss s.stage.toNat) ∨ (s.end_.toNat = 1 ∧ s.stage.toNat + 1 = ss.length ∧ s.seen.toNat = wt ss s.stage.toNat ∧ s.dropped.toNat ≤ mo ss s.stage.toNat) ∨
  (s.end_.toNat = 2 ∧ s.seen.toNat ≤ wt ss s.stage.toNat ∧ s.dropped.toNat = mo ss s.stage.toNat + 1)
abbrev WfW (ss:List au) (n:UInt64):Prop:=WfS ss (aB n)
section
variable {ss:List au} {n m k:UInt64} {s:ak}
theorem WfS.small (hg:fE ss) (h:WfS ss s):SmallS s:=by
 have h1:=hg.w _ h.lt;have h2:=hg.l;have h3:=h.lt;have h4:=h.ds;refine ⟨?_,by omega,?_,?_⟩ <;> rcases h.alt with h | h | h <;> omega
theorem add1 (a:UInt64) (h:a.toNat < 2097152):(a + 1).toNat = a.toNat + 1:=by
 rw [UInt64.toNat_add];show (a.toNat + 1) % 18446744073709551616 = _;omega
theorem next_ok (hg:fE ss) (h:WfS ss s) (h0:s.end_.toNat = 0) (dr:Bool):WfS ss (nh ss s dr) ∧ (nh ss s dr).seen.toNat + du (wt ss) (nh ss s dr).stage.toNat = s.seen.toNat + du (wt ss) s.stage.toNat + 1 ∧
 s.dropped.toNat + du (mo ss) s.stage.toNat + dr.toNat ≤ (nh ss s dr).dropped.toNat + du (mo ss) (nh ss s dr).stage.toNat ∧ s.stage.toNat ≤ (nh ss s dr).stage.toNat:=by
 have hs:=h.small hg;have hw:=hg.w _ h.lt;have hlt:=h.lt;have hds:=h.ds;have ha:s.seen.toNat < wt ss s.stage.toNat ∧ s.dropped.toNat ≤ mo ss s.stage.toNat:=by rcases h.alt with h | h | h <;> omega
 obtain ⟨d2,hd2⟩:∃ d2,(if dr = true then s.dropped + 1 else s.dropped) = d2:=⟨_,rfl⟩;have hd:d2.toNat = s.dropped.toNat + dr.toNat:=by
  subst hd2;cases dr with
  | true=>rw [if_pos rfl,add1 _ hs.d]; rfl
  | false=>rw [if_neg (by simp)]; rfl
 have hdr:dr.toNat ≤ 1:=by cases dr <;> decide
 have hse:=add1 s.seen hs.n;have hst:(s.stage + 1).toNat = s.stage.toNat + 1:=add1 _ (by have:=hs.t; omega);have e1:(1:UInt64).toNat = 1:=rfl;have e2:(2:UInt64).toNat = 2:=rfl;have e0:(0:UInt64).toNat = 0:=rfl;have em:(ss.getD s.stage.toNat aS.zero).ca.toNat = mo ss s.stage.toNat:=rfl;have ew:(ss.getD s.stage.toNat aS.zero).wait.toNat = wt ss s.stage.toNat:=rfl;unfold nh;simp only [hd2];split
 ·rename_i h1;rw [UInt64.lt_iff_toNat_lt,em,hd] at h1;exact ⟨⟨hlt,by simp only [hse,hd]; omega,.inr (.inr ⟨e2,by simp only [hse]; omega,by simp only [hd]; omega⟩)⟩,by simp only [hse]; omega,by simp only [hd]; omega,Nat.le_refl _⟩
 ·rename_i h1;rw [UInt64.lt_iff_toNat_lt,em,hd] at h1;split
  ·rename_i h2;rw [UInt64.lt_iff_toNat_lt,ew,hse] at h2;exact ⟨⟨hlt,by simp only [hse,hd]; omega,.inl ⟨h0,by simp only [hse]; omega,by simp only [hd]; omega⟩⟩,by simp only [hse]; omega,by simp only [hd]; omega,Nat.le_refl _⟩
  ·rename_i h2;rw [UInt64.lt_iff_toNat_lt,ew,hse] at h2;split
   ·rename_i h3;exact ⟨⟨hlt,by simp only [hse,hd]; omega,.inr (.inl ⟨e1,by simp only []; omega,by simp only [hse]; omega,by simp only [hd]; omega⟩)⟩,by simp only [hse]; omega,by simp only [hd]; omega,Nat.le_refl _⟩
   ·rename_i h3;have h4:s.stage.toNat + 1 < ss.length:=by omega
    have hw2:=hg.w _ h4;refine ⟨⟨by simp only [hst]; exact h4,by simp only [e0]; omega,.inl ⟨e0,by simp only [hst,e0]; omega,by simp only [hst,e0]; omega⟩⟩,?_,?_,by simp only [hst]; omega⟩
    ·simp only [hst,e0,du]; omega
    ·simp only [hst,e0,du]; omega
theorem nx_ok (hg:fE ss) (h:WfW ss n) (h0:(aB n).end_.toNat = 0) (dr:Bool):WfW ss (nxW ss n dr) ∧ kU ss (nxW ss n dr) = kU ss n + 1 ∧ mstd ss n + dr.toNat ≤ mstd ss (nxW ss n dr) ∧ (aB n).stage.toNat ≤ (aB (nxW ss n dr)).stage.toNat:=by
 have k:=next_ok hg h h0 dr;have e:aB (nxW ss n dr) = nh ss (aB n) dr:=split_word (k.1.small hg);unfold WfW kU mstd;rw [e];exact k
def LeW (ss:List au) (n m:UInt64):Prop:=n = m ∨ ((aB n).end_.toNat = 0 ∧ kU ss n < kU ss m ∧ (aB n).stage.toNat ≤ (aB m).stage.toNat)
theorem LeW.trans (h:LeW ss n m) (h':LeW ss m k):LeW ss n k:=by
 rcases h with rfl | ⟨h1,h2,h3⟩
 ·exact h'
 ·rcases h' with rfl | ⟨g1,g2,g3⟩
  ·exact .inr ⟨h1,h2,h3⟩
  ·exact .inr ⟨h1,by omega,by omega⟩
theorem LeW.cnt (h:LeW ss n m):kU ss n ≤ kU ss m:=by
 rcases h with rfl | ⟨_,h,_⟩
 ·exact Nat.le_refl _
 ·omega
theorem LeW.st (h:LeW ss n m):(aB n).stage.toNat ≤ (aB m).stage.toNat:=by
 rcases h with rfl | ⟨_,_,h⟩
 ·exact Nat.le_refl _
 ·exact h
theorem LeW.done (h:LeW ss n m) (he:(aB n).end_.toNat ≠ 0):m = n:=by
 rcases h with rfl | ⟨h,_,_⟩
 ·rfl
 ·exact absurd h he
theorem LeW.next (hg:fE ss) (h:WfW ss n) (h0:(aB n).end_.toNat = 0) (dr:Bool):LeW ss n (nxW ss n dr):=by
 obtain ⟨_,h2,_,h4⟩:=nx_ok hg h h0 dr;exact .inr ⟨h0,by omega,h4⟩
def roofW (ss:List au):Nat:=du (wt ss) ss.length
theorem WfW.roof (h:WfW ss n):kU ss n ≤ roofW ss:=by
 have h1:du (wt ss) ((aB n).stage.toNat + 1) ≤ roofW ss:=sumN_mono _ h.lt;simp only [du] at h1;unfold kU
 rcases h.alt with h | h | h <;> omega
theorem WfW.zero (hg:fE ss) (hp:0 < ss.length):WfW ss 0 ∧ kU ss 0 = 0:=by
 have h1:aB 0 = ⟨0,0,0,0⟩:=rfl;have hw:=hg.w 0 hp;unfold WfW kU;rw [h1];exact ⟨⟨hp,Nat.le_refl _,.inl ⟨rfl,by show 0 < wt ss 0; omega,Nat.zero_le _⟩⟩,rfl⟩
end
end Go.Proofs.YtljifjflnakmoaaGreat
namespace Go.Proofs.YtljifjflnakmoaaGreat
open Go Go.Gx Go.Proofs.YtljifjflnakmoaaGreat.Tri Go.Proofs.YtljifjflnakmoaaGreat.Oc
theorem zb53:zbI 53 aS 24:=kB
theorem zs53:zsI aS:=zsP _
theorem clone_53 (u:Value) (xs:List au) (w:World) (hl:aO aS w u xs) (hn:xs.length * 24 ≤ 140737488355328):Gx.Calls Tryz.prog 18 #[u] w (mE w aS xs 53):=by
 have hle:=hl.le;have hl2:=hl;obtain ⟨sa,cap,rfl,hc1,hc2,hc3,hc4⟩:=hl2;replace hc3:sa = none→[] = xs:=fun e=>(hc3 e).1.symm
 refine en0 8 Tryz.func18 (fun _ _=>?_);refine sg (ac (.slice none 0 0) ?_);refine nP (seq (sg (mv rfl (co (Ev.kq Y29 (.t rfl) (.c rfl)) ?_))));refine nP ?_;refine cnd rfl (fun h0=>?_) (fun h0=>?_)
 ·refine sg (dD aS 53 ?_);exact s17
 ·refine skip (pN (sg (cons (buildSlice (E:=aS) Y29 ju z53 .nil rfl rfl (fun v1=>?_)))));refine mv rfl (cons (apz (E:=aS) Y29 ju zb53 zs53 (.t rfl) (.t rfl) (fun v2=>?_) (hsrc:=zf)));exact s34
structure RX where
 b:Nat
 p:Pl
 q:Pl
 sv:OV
 r:Res
def recR (p q:Nat) (sv:OV) (n:UInt64):ba:=⟨ptrV p,ptrV q,sv,bx.l_v.set aH.zero.state n⟩
def RX.rv (x:RX) (n:UInt64):ba:=recR x.p.b x.q.b x.sv n
structure xH (w:World) (x:RX) (l1 l2:CL) (d1 d2:Int) (ss:List au):Prop where
 p:jU w x.p l1 d1
 q:jU w x.q l2 d2
 s:aO aS w x.sv.v ss
def iT (l1 l2:CL) (d1 d2:Int) (ss:List au):Int:=if plE l1 d1 ≠ 0 then plE l1 d1 else if plE l2 d2 ≠ 0 then plE l2 d2 else if (dk ss 0 && decide (0 < ss.length)) = false then 310 else 0
def rollO (e:Int) (b:Nat):Option Addr:=if e = 0 then some ⟨b,0,none⟩ else none
structure NewJ (l1 l2:CL) (d1 d2:Int) (ss:List au) (x:RX):Prop where
 p:jl x.p l1 d1
 q:jl x.q l2 d2
 st:dk ss 0 = true
 pos:0 < ss.length
 r:∀ w,x.r.A w→jU w x.p l1 d1 ∧ jU w x.q l2 d2
def RX.R (x:RX) (ss:List au):List Res:=[Var x.b aH (x.rv 0) 72,x.r,aT x.sv.v aS ss 53]
def RetW31 (w:World) (l1 l2:CL) (d1 d2:Int) (ss:List au):cX :=
 gL w (fun x:RX=>iT l1 l2 d1 d2 ss = 0→NewJ l1 l2 d1 d2 ss x) (fun x=>.tuple #[.pointer (rollO (iT l1 l2 d1 d2 ss) x.b),I (iT l1 l2 d1 d2 ss)]) (fun x=>if iT l1 l2 d1 d2 ss = 0 then x.R ss else [])
def plV (l:CL) (d:Int) (b:Nat):OV:=⟨.pointer (plO l d b),rfl⟩
theorem pl_ok {l:CL} {d:Int} (h:¬ plE l d ≠ 0):og l d = true:=by
 unfold plE at h;split at h
 ·assumption
 ·exact absurd (by decide) h
theorem plV_ok {l:CL} {d:Int} (h:og l d = true) (b:Nat):plV l d b = ptrV b:=by
 unfold plV ptrV plO;simp only [h,if_true]
theorem wV {e0:En} {w0:World} {n:Nat} {L:List Res} {l1 l2:CL} {d1 d2:Int} {ss:List au} {e:Int} (he:iT l1 l2 d1 d2 ss = e) (hn:e ≠ 0):∀ w,aP ⟨n,w0,dI,e0⟩ L w→RetW31 w0 l1 l2 d1 d2 ss (.returned (.tuple #[.pointer none,I e])) w:=by
 subst he;exact ln ⟨0,noPl,noPl,ai,Emp⟩ (fun h=>absurd h hn) (by unfold rollO; rw [if_neg hn]) (by rw [if_neg hn]; exact List.nil_sublist _)
theorem z72:zI 72 aH:=kI
theorem ty65:tyI 65 (ovE bP):=tyP
theorem wU (c1 c2:aN) (l1 l2:CL) (u:Value) (ss:List au) (w:World) (hc1:eI w c1 l1) (hc2:eI w c2 l2) (hu:aO aS w u ss) (hn1:l1.Names) (hn2:l2.Names) (hz1:l1.n ≤ 4611686018427387904) (hz2:l2.n ≤ 4611686018427387904) (hss:ss.length * 24 ≤ 140737488355328):Gx.Calls Tryz.prog 6 #[cZ.val c1,cZ.val c2,u] w (RetW31 w l1 l2 c1.default c2.default ss):=by
 refine en0 40 Tryz.func6 (fun _ _=>?_);refine sg (cons (box (E:=cZ) (.t rfl) (fun b1=>?_)));refine cons (box (E:=cZ) (.t rfl) (fun b2=>?_));refine ac (.pointer none) ?_;refine ac (I 0) ?_;refine nP (seq (emp0 ?_));refine region (mv rfl (cons (dY eN (o1 rfl) (fun w I=>clone_53 _ _ w (hu.aV I.keeps) hss) (fun v3=>?_))));refine co (Ev.bu (fs:=_) (places:=[(0,1),(1,1),(2,1),(3,1)]) z72 rfl Tryz.underlying72 zk (.cons (.t rfl) .nil) (ay.cons ba.nq rfl ay.nil)) ?_;refine cons (box (E:=aH) (.t rfl) (fun b4=>?_));refine asn rfl (nP (sg (ac (I 0) ?_)));refine nP (seq (sg (mv rfl (co (Ev.ldv ph (.t rfl) (ah.id _)) ?_))));refine cons (dB (X:=Pl × List Res) (uM l1 c1.default) (fun x:Pl × List Res=>.tuple #[.pointer (plO l1 c1.default x.1.b),I (plE l1 c1.default)]) (fun x=>x.2) eN (o1 rfl) (fun w I=>qg c1 l1 w (hc1.aV I.keeps) hn1 hz1) (fun x1 hx1=>?_));refine mP (r:=Emp) zr ?_;refine mv rfl (co (Ev.to (v':=(plV l1 c1.default x1.1.b).v) (Ev.extract (.t rfl) rfl) (rfl)) ?_);refine cx rfl rfl (co (Ev.nilCheck (.t rfl)) ?_);refine cf 0 rfl ?_;refine cons (stv ty65 ba.l_old (.t rfl) (.t rfl) ?_);refine asn rfl (nP (sg (mv rfl (co (Ev.dS (.t rfl) (.c rfl)) ?_))));refine nP ?_;refine cnq rfl (fun h0=>?_) (fun h0=>?_)
 ·have h0:plE l1 c1.default ≠ 0:=by simpa using h0
  refine sg (mv rfl (ac (.pointer none) ?_));refine asn rfl (nP (ret (pR (done rfl (.tmp rfl (.tmp rfl .nil)) (fun w I=>?_)))));exact wV (by unfold iT; rw [if_pos h0]) h0 w I
 ·have h0:¬ plE l1 c1.default ≠ 0:=by simpa using h0
  refine skip (pN (seq (sg (mv rfl (co (Ev.ldv ph (.t rfl) (ah.id _)) ?_)))));refine cons (dB (X:=Pl × List Res) (uM l2 c2.default) (fun x:Pl × List Res=>.tuple #[.pointer (plO l2 c2.default x.1.b),I (plE l2 c2.default)]) (fun x=>x.2) eN (o1 rfl) (fun w I=>qg c2 l2 w (hc2.aV I.keeps) hn2 hz2) (fun x2 hx2=>?_));refine mP (r:=gi Emp x1.2) zr ?_;refine mv rfl (co (Ev.to (v':=(plV l2 c2.default x2.1.b).v) (Ev.extract (.t rfl) rfl) (rfl)) ?_);refine cx rfl rfl (co (Ev.nilCheck (.t rfl)) ?_);refine cf 1 rfl ?_;refine cons (stv ty65 ba.oE (.t rfl) (.t rfl) ?_);refine asn rfl (nP (sg (mv rfl (co (Ev.dS (.t rfl) (.c rfl)) ?_))));refine nP ?_;refine cnq rfl (fun h1=>?_) (fun h1=>?_)
  ·have h1:plE l2 c2.default ≠ 0:=by simpa using h1
   refine sg (mv rfl (ac (.pointer none) ?_));refine asn rfl (nP (ret (pR (done rfl (.tmp rfl (.tmp rfl .nil)) (fun w I=>?_)))));exact wV (by unfold iT; rw [if_neg h0,if_pos h1]) h1 w I
  ·have h1:¬ plE l2 c2.default ≠ 0:=by simpa using h1
   refine skip (pN (seq (sg (mv rfl (cons (aQ eN (o1 rfl) (fun w I=>rollmay_ok _ ss w (hu.aV I.keeps)) ?_))))));refine co (Ev.not (.t rfl)) ?_;refine nP ?_;refine cnq rfl (fun h2=>?_) (fun h2=>?_)
   ·have h2:(dk ss 0 && decide (0 < ss.length)) = false:=by
     have h9:(!(dk ss 0 && decide (0 < ss.length))) = true:=h2
     simpa only [Bool.not_eq_true'] using h9
    refine sg (ac (.pointer none) ?_);refine ac (I 310) ?_;refine nP (ret (pR (done rfl (.tmp rfl (.tmp rfl .nil)) (fun w I=>?_))));exact wV (by unfold iT; rw [if_neg h0,if_neg h1,if_pos h2]) (by decide) w I
   ·have h2:(dk ss 0 && decide (0 < ss.length)) = true:=by
     have h9:(!(dk ss 0 && decide (0 < ss.length))) = false:=h2
     simpa only [Bool.not_eq_false'] using h9
    refine skip (pN (sg (mv rfl (asn rfl (ac (I 0) ?_)))));refine nP (ret (done rfl (.tmp rfl (.tmp rfl .nil)) (fun w I=>?_)));have e0:iT l1 l2 c1.default c2.default ss = 0:=by unfold iT; rw [if_neg h0,if_neg h1,if_neg (by rw [h2]; decide)]
    have hm1:=pl_ok h0;have hm2:=pl_ok h1;obtain ⟨k1,k2⟩:=hx1 hm1;obtain ⟨k3,k4⟩:=hx2 hm2;have hst:=(Bool.and_eq_true _ _).mp h2;have k6:∀ w,(gi (gi Emp x1.2) x2.2).A w→jU w x1.1 l1 c1.default ∧ jU w x2.1 l2 c2.default:=fun w1 a1=>⟨k2 w1 (gi.A _ _ (gi.A _ _ a1).1).2,k4 w1 (gi.A _ _ a1).2⟩
    have k7:(⟨plV l1 c1.default x1.1.b,plV l2 c2.default x2.1.b,v3,aH.zero.state⟩:ba) = recR x1.1.b x2.1.b v3 0:=by rw [plV_ok hm1,plV_ok hm2]; rfl
    refine ft (⟨b4,x1.1,x2.1,v3,gi (gi Emp x1.2) x2.2⟩:RX) (fun _=>⟨k1,k3,hst.1,of_decide_eq_true hst.2,k6⟩) (by rw [e0]; rfl) ?_ w I;rw [if_pos e0];unfold RX.R RX.rv;simp only [];rw [← k7];exact zp
end Go.Proofs.YtljifjflnakmoaaGreat
namespace Go.Proofs.YtljifjflnakmoaaGreat
open Go Go.Gx Go.Proofs.YtljifjflnakmoaaGreat.Tri Go.Proofs.YtljifjflnakmoaaGreat.Oc
structure fp where
 now:UInt64
 in_:Int
 qB:OV
def fp.to:(UInt64 × (Int × OV))→fp:=fun x=>⟨x.1,x.2.1,x.2.2⟩
def fp.of:fp→(UInt64 × (Int × OV)):=fun x=>(x.now,x.in_,x.qB)
def xy:Enc fp:=gI (bh fR (bh iE (ovE ai))) fp.to fp.of
def fp.l_now:ah xy fR 0:=lI fp.to fp.of l1
def fp.iH:ah xy iE 1:=lI fp.to fp.of (l2 l1)
@[simp] theorem fp.get_in_ (x:fp):fp.iH.get x = x.in_:=rfl
@[simp] theorem fp.set_in_ (x:fp) (y:Int):fp.iH.set x y = { x with in_:=y }:=rfl
def fp.kG:ah xy (ovE ai) 2:=lI fp.to fp.of (l2 (l2 (ah.id _)))
@[simp] theorem fp.get_packet (x:fp):fp.kG.get x = x.qB:=rfl
@[simp] theorem fp.set_packet (x:fp) (y:OV):fp.kG.set x y = { x with qB:=y }:=rfl
def fu (bs:List UInt8):UInt64:=(mm (ofK (jW bs)) 100).1
def pE (bs:List UInt8):Int:=if fZ bs ≠ 0 then fZ bs else deE (jW bs) (kA bs).length
def pV (l:CL) (d n:Int) (bs:List UInt8):aD:=dvV l d n (jW bs) (kA bs).length
def rT (ss:List au) (n:UInt64) (bs:List UInt8):Bool:=decide ((aB n).end_ = 2) || decide (UInt64.ofInt (ss.getD (aB n).stage.toNat aS.zero).parts ≤ fu bs)
def way (ss:List au) (n:UInt64) (bs:List UInt8):Nat:=if (aB n).end_ = 1 then 0 else if rT ss n bs = true then 1 else 2
def passV (l1 l2:CL) (d1 d2 i:Int) (ss:List au) (n:UInt64) (bs:List UInt8):aD:=if way ss n bs = 1 then pV l1 d1 i bs else pV l2 d2 i bs
def passB (ss:List au) (n:UInt64) (bs:List UInt8):Bool:=decide (way ss n bs ≠ 1)
def dropB (l2:CL) (d2 i:Int) (bs:List UInt8):Bool:=decide (¬ (pV l2 d2 i bs).action = 3)
def vC (l2:CL) (d2 i:Int) (ss:List au) (n:UInt64) (bs:List UInt8):UInt64:=if way ss n bs = 2 then nxW ss n (dropB l2 d2 i bs) else n
theorem readD_len' (b:List UInt8) (he:fZ b = 0):(kA b).length ≤ 2048:=by
 have h1:¬ ((aW b).2.1 < bD (aW b).1 ∨ 2048 < (aW b).2.1):=fun h=>by
  unfold fZ at he;rw [if_pos h] at he;split at he
  ·exact absurd he (by assumption)
  ·exact absurd he (by decide)
 unfold kA jO gk;simp;omega
theorem nZ (p:Pl) (l:CL) (d n:Int) (h:aa) (dt:List UInt8) (V:aD) (e:Int) (w:World) (hp:jU w p l d) (ho:jl p l d) (hd:aO u8E w h.data.v dt) (hl:dt.length ≤ 1152921504606846975) (hV:dvV l d n h dt.length = V) (he:deE h dt.length = e):Gx.Calls Tryz.prog 33 #[.pointer (some ⟨p.b,0,none⟩),I n,aA.val h] w (bG w (.tuple #[a7.val V,I e])):=by
 subst hV;subst he;exact decide_ok p l d n h dt w hp ho hd hl
theorem wO (k:cV) (z:UInt64) (w:World) (h:(mm k 100).1 = z):Gx.Calls Tryz.prog 24 #[mD.val k] w (bG w (U64 z)):=h ▸ rollpart_ok k w
theorem word_to (s:ak) (m:UInt64) (w:World) (h:kW s = m):Gx.Calls Tryz.prog 38 #[cM.val s] w (bG w (U64 m)):=h ▸ word_ok s w
structure wo (X:Ext) (fr:Nat) (σ:Type) (S:σ→Res) (b:Nat) (p q sv:Value) (ss:List au) where
 n:σ→UInt64
 μ:σ→Nat
 R:σ→σ→Prop
 Ok:σ→Prop
 Hit:σ→Bool→σ→Prop
 r0:∀ s,R s s
 tr:∀ {x y z},R x y→R y z→R x z
 mu:∀ {x y},R x y→μ y ≤ μ x
 st:∀ t,Ok t→(aB (n t)).stage.toNat < ss.length
 fld:∀ s w,(S s).A w→Rdb w b 0 p ∧ Rdb w b 1 q ∧ Rdb w b 2 sv
 load:∀ s w,At (S s) w→eo X fr Tryz.prog 35 #[.pointer (some ⟨b,3,none⟩)] w (Gx.fV w (S s) (fun t=>R s t ∧ Ok t) (fun t=>U64 (n t)) S)
 cas:∀ s dr w,At (S s) w→Ok s→¬ (aB (n s)).end_ = 1→¬ (aB (n s)).end_ = 2→eo X fr Tryz.prog 39 #[.pointer (some ⟨b,3,none⟩),U64 (n s),U64 (nxW ss (n s) dr)] w
  (Gx.fV w (S s) (fun r:Bool × σ=>(r.1 = true→Hit s dr r.2) ∧ (r.1 = false→R s r.2 ∧ μ r.2 < μ s)) (fun r=>.bool r.1) (fun r=>S r.2))
section
variable {X:Ext} {fr:Nat} {σ:Type} {S:σ→Res} {b:Nat} {p q sv:Value} {ss:List au}
def PassJ (W:wo X fr σ S b p q sv ss) (s:σ) (dr:Bool) (bs:List UInt8) (r:Nat × σ):Prop:=∃ t,W.R s t ∧ W.Ok t ∧ way ss (W.n t) bs = r.1 ∧ (r.1 = 2→W.Hit t dr r.2) ∧ (r.1 ≠ 2→r.2 = t)
end
theorem way_0 {ss:List au} {n:UInt64} {bs:List UInt8} (h:(aB n).end_ = 1):way ss n bs = 0:=by unfold way; rw [if_pos h]
theorem way_1 {ss:List au} {n:UInt64} {bs:List UInt8} (h:¬ (aB n).end_ = 1) (h2:rT ss n bs = true):way ss n bs = 1:=by unfold way; rw [if_neg h,if_pos h2]
theorem way_2 {ss:List au} {n:UInt64} {bs:List UInt8} (h:¬ (aB n).end_ = 1) (h2:rT ss n bs = false):way ss n bs = 2:=by unfold way; rw [if_neg h,if_neg (by rw [h2]; exact Bool.false_ne_true)]
theorem old_not {ss:List au} {n:UInt64} {bs:List UInt8} (h:rT ss n bs = false):¬ (aB n).end_ = 2:=fun e=>by
 unfold rT at h;simp [e] at h
theorem pass_ok {X:Ext} {fr:Nat} {σ:Type} {S:σ→Res} (x0:RX) (l1 l2:CL) (d1 d2:Int) (ss:List au) (W:wo X fr σ S x0.b (.pointer (some ⟨x0.p.b,0,none⟩)) (.pointer (some ⟨x0.q.b,0,none⟩)) x0.sv.v ss) (s:σ) (dr:Bool) (j:fp) (bs:List UInt8) (w:World) (hfr:fr ≤ w.heap.size) (hfb:∀ b,(S s).bQ b→fr ≤ b) (h:At (S s) w) (hN:∀ w2,aJ (S s).bQ w w2→xH w2 x0 l1 l2 d1 d2 ss) (hb:∀ w2,aJ (S s).bQ w w2→aO u8E w2 j.qB.v bs) (ho1:jl x0.p l1 d1) (ho2:jl x0.q l2 d2) (hl:ss.length ≤ 256) (he0:pE bs = 0) (hdr:dropB l2 d2 j.in_ bs = dr):eo X fr Tryz.prog 14 #[.pointer (some ⟨x0.b,0,none⟩),eB.v,xy.val j] w (Gx.fV w (S s) (PassJ W s dr bs) (fun r=>.tuple #[a7.val (if r.1 = 1 then pV l1 d1 j.in_ bs else pV l2 d2 j.in_ bs),.bool (decide (r.1 ≠ 1)),I 0]) (fun r=>S r.2)):=by
 have hre:fZ bs = 0:=by
  unfold pE at he0;split at he0
  ·rename_i e; exact absurd he0 e
  ·rename_i e; exact Decidable.not_not.1 e
 have hde:deE (jW bs) (kA bs).length = 0:=by
  unfold pE at he0;rw [if_neg (fun q=>q hre)] at he0;exact he0
 obtain ⟨vn,hvn⟩:∃ z,pV l2 d2 j.in_ bs = z:=⟨_,rfl⟩;obtain ⟨vo,hvo⟩:∃ z,pV l1 d1 j.in_ bs = z:=⟨_,rfl⟩;obtain ⟨pk,hpk⟩:∃ z,fu bs = z:=⟨_,rfl⟩;have hdr2:decide (¬ vn.action = 3) = dr:=by rw [← hdr,← hvn]; rfl
 refine nG 110 [S s] Tryz.func14 rfl rfl (Nat.le_of_ble_eq_true rfl) hfr hfb (gU h _) ?_;refine sg (cons (box (E:=xy) (.t rfl) (fun b1=>?_)));refine cons (alloc z55 (fun b2=>?_));refine ac (.bool false) ?_;refine ac (I 0) ?_;refine nP (seq (sg (mv rfl (cons (aQ eN (o1 rfl) (fun w I=>qw x0.b x0.q.b w ((W.fld s w (I.own _ (show S s ∈ _ from zm)).1).2.1)) ?_)))));refine co (Ev.not (.t rfl)) ?_;refine nP (fL rfl (rfl) ?_);refine skip (pN (sg (cf 2 rfl ?_)));refine co (Ev.ldx j.qB oe (.t rfl) fp.kG) ?_;refine cons (dB (X:=OV) (fun o:OV=>fZ bs ≠ 0→o = ai) (fun o=>.tuple #[aA.val (wD (jW bs) o),I (vw bs),I (fZ bs)]) (fun o=>if fZ bs = 0 then [aT o.v u8E (kA bs) 5] else []) eN (o1 rfl) (fun w I=>read_ok _ bs w (hb w I.keeps)) (fun xo hxo=>?_));rw [if_pos hre];have hdl:=readD_len' bs hre;refine mv rfl (cx rfl rfl (cx rfl rfl (cx rfl rfl (cons (alloc z85 (fun b3=>?_))))));refine cons (stv cJ (ah.id _) (.t rfl) (.t rfl) ?_);refine asn rfl (asn rfl (nP (seq (sg (mv rfl (co (Ev.dS (.t rfl) (.c rfl)) ?_))))));refine nP (fL rfl (decide_eq_false (fun q=>q hre)) ?_);refine skip (pN (sg (co (Ev.ldv cJ (.t rfl) (ah.id _)) ?_)));refine cons (aQ eN (o1 rfl) (fun w I=>Oc.tA _ w) ?_);refine cons (aQ eN (o1 rfl) (fun w I=>wO _ _ w hpk) ?_);refine asn rfl (nP (cut (X:=Nat) (fun x=>True) (fun x=>[dz,(0,true,pvb x0.b),(1,true,eB.v),(5,true,pvb b1),(6,true,pvb b2),(9,true,pvb b3),(11,true,I 0),(12,true,U64 pk),(13,true,pvb x)]) (fun x=>[Var x a7 vn 55,Var b3 aA (wD (jW bs) xo) 85,aT xo.v u8E (kA bs) 5,Var b2 a7 a7.zero 55,Var b1 xy j 59,S s]) ?_ (fun x hx=>?_)))
 ·refine dA zk ?_;refine tm 0 rfl rfl ?_;refine tn 1 rfl rfl ?_;refine tk 2 rfl (fA 1 (.t rfl)) ?_;refine tk 3 rfl (Ev.to (v':=.pointer (some ⟨x0.q.b,0,none⟩)) (Ev.vK Tryz.isAgg65 (.t rfl) (fun w I=>(W.fld s w (I.own _ (show S s ∈ _ from zm)).1).2.1)) (rfl)) ?_;refine tk 4 rfl (fA 1 (.t rfl)) ?_;refine tk 5 rfl (Ev.ldx j.in_ ty3 (.t rfl) fp.iH) ?_;refine tk 6 rfl (Ev.ldv cJ (.t rfl) (ah.id _)) ?_;refine all [7,11] zk (by decide) (.cons rfl ?_ (.cons rfl ?_ .nil))
  ·refine (aQ eN (o3 rfl rfl rfl) (fun w I=>nZ x0.q l2 d2 _ (wD (jW bs) xo) (kA bs) _ _ w (hN w I.keeps).q ho2 (io w I) (by omega) hvn hde) ?_);refine hdn (tm 8 rfl rfl ?_);refine tk 9 rfl (Ev.extract (.t rfl) rfl) ?_;refine tk 10 rfl (Ev.extract (.t rfl) rfl) ?_;exact s82
  ·refine (alloc z55 (fun b5=>?_));refine hdn (al1 7 rfl ((aQ eN (o3 rfl rfl rfl) (fun w I=>nZ x0.q l2 d2 _ (wD (jW bs) xo) (kA bs) _ _ w (hN w I.keeps).q ho2 (io w I) (by omega) hvn hde) ?_)));refine hdn (tm 8 rfl rfl ?_);refine tk 9 rfl (Ev.extract (.t rfl) rfl) ?_;refine tk 10 rfl (Ev.extract (.t rfl) rfl) ?_;refine al1 12 rfl ((stv gT (ah.id _) (.t rfl) (.t rfl) ?_));exact s41
 obtain ⟨x3,rfl⟩:∃ y,y = x:=⟨x,rfl⟩;refine seq (sg (mv rfl (co (Ev.dS (.t rfl) (.c rfl)) ?_)));refine nP (fL rfl (decide_eq_false (fun q=>q rfl)) ?_);refine skip (pN (block (lp (X:=σ) (fun x=>(W.R s x)) (fun x=>[dz,(0,true,pvb x0.b),(1,true,eB.v),(5,true,pvb b1),(6,true,pvb b2),(9,true,pvb b3),(12,true,U64 pk),(13,true,pvb x3)]) (fun x=>[Var x3 a7 vn 55,Var b3 aA (wD (jW bs) xo) 85,aT xo.v u8E (kA bs) 5,Var b2 a7 a7.zero 55,Var b1 xy j 59,S x]) (fun x=>W.μ x) (s) ?_ (fun x hx=>?_))))
 ·exact W.r0 s
 obtain ⟨t,rfl⟩:∃ y,y = x:=⟨x,rfl⟩;have ht:W.R s t:=hx;clear hx;refine block (sg (mv rfl (cons (aQ eN (.cons (.t rfl) (.cons (.c (v:=U8 1) rfl) .nil)) (fun w I=>pq _ w) ?_))));refine nP (sg (mv rfl (co (Ev.nilCheck (.t rfl)) ?_)));refine cf 3 rfl ?_;refine cons (qQ (X:=σ) (fun u=>W.R t u ∧ W.Ok u) (fun u=>U64 (W.n u)) (r:=S t) (r':=S) (fun _=>zu) zm eN (o1 rfl) (fun w I=>W.load t w (am w I)) (fun t1 ht1=>?_));refine asn rfl (nP (seq ?_));have hs:=W.st t1 ht1.2;refine region (mv rfl (cons (aQ eN (o1 rfl) (fun w I=>sZ _ w) ?_)));refine cons (alloc z120 (fun b6=>?_));refine cons (stv mL (ah.id _) (.t rfl) (.t rfl) ?_);refine nP (seq (sg (cf 0 rfl ?_)));refine co (Ev.ldv eO (.t rfl) ak.lx) ?_;refine co (Ev.jr (.t rfl) (.c (v:=U64 1) rfl)) ?_;refine nP ?_;refine cnq rfl (fun h3=>?_) (fun h3=>?_)
 ·have h3:(aB (W.n t1)).end_ = 1:=by simpa using h3
  refine sg (co (Ev.ldv gT (.t rfl) (ah.id _)) ?_);refine cons (stv gT (ah.id _) (.t rfl) (.t rfl) ?_);refine ac (.bool true) ?_;refine ac (I 0) ?_;refine nP (ret (pR (bR (pR (bR (done rfl (.cellP rfl gT (br zm (ah.id _)) (.tmp rfl (.tmp rfl .nil))) (fun w I=>?_)))))));exact Gx.mY (r':=fun r:Nat × σ=>S r.2) (0,t1) ⟨t1,W.tr ht ht1.1,ht1.2,way_0 h3,fun e=>(by cases e),fun _=>rfl⟩ (by rw [hvn]; rfl) (by repeat first | exact mH | apply mT | apply mA) w I
 ·have h3:¬ (aB (W.n t1)).end_ = 1:=by simpa using h3
  refine skip (pN (seq (seq (dA zk ?_))));refine tk 0 rfl (fA 0 (.t rfl)) ?_;refine tk 1 rfl (Ev.ldv eO (.t rfl) ak.lx) ?_;refine tk 2 rfl (Ev.jr (.t rfl) (.c (v:=U64 2) rfl)) ?_;refine tm 3 rfl rfl ?_;refine tkg 4 rfl rfl rfl (Ev.move (.t rfl)) ?_;refine tkg 5 rfl rfl rfl (Ev.move (.t rfl)) ?_;refine tkg 6 rfl rfl rfl (Ev.nilCheck (.g rfl id)) ?_;refine tkg 7 rfl rfl rfl (fA 2 (.g rfl id)) ?_;refine tkg 8 rfl rfl rfl (Ev.to (v':=x0.sv.v) (Ev.vK Tryz.isAgg29 (.g rfl (by simp_all)) (fun w I=>(W.fld t1 w (I.own _ (show S t1 ∈ _ from (by repeat first | exact mH | apply mT | apply mA))).1).2.2)) (rfl)) ?_;refine tkg 9 rfl rfl rfl (fA 1 (.t rfl)) ?_;refine tkg 10 rfl rfl rfl (Ev.ldv eO (.g rfl id) ak.jo) ?_;refine tkg 11 rfl rfl rfl (tO Y29 ju (.g rfl (by simp_all)) (.g rfl (by simp_all)) (fun w I=>(hN w I.keeps).s) hs) ?_;refine tkg 12 rfl rfl rfl (Ev.gw (o:=0) (i:=((aB (W.n t1)).stage.toNat:Int)) (.g rfl id) (fun w I=>(hN w I.keeps).s) (fun _=>⟨by omega,by (show ((aB (W.n t1)).stage.toNat:Int) < _); omega⟩) zk) ?_;refine tkg 13 rfl rfl rfl (Ev.pM ty3 au.fC rfl (.g rfl id) (fun w I=>(hN w I.keeps).s) (fun _=>⟨by omega,by (show ((aB (W.n t1)).stage.toNat:Int) < _); omega⟩)) ?_;refine tkg 14 rfl rfl rfl (Ev.conv_i_u64 Y51 Y3 (.g rfl id)) ?_;refine tkg 15 rfl rfl rfl (Ev.geq_u64 (.g rfl id) (.g rfl id)) ?_;refine tk 16 rfl (Ev.pkO (.t rfl) rfl) ?_;refine ovr (pN ?_);refine cnq rfl (fun h4=>?_) (fun h4=>?_)
  ·have h4:rT ss (W.n t1) bs = true:=by unfold rT; rw [hpk]; exact h4
   refine cut (X:=Nat) (fun x=>True) (fun x=>[dz,(6,true,pvb b2),(16,true,pvb x),(17,true,I 0)]) (fun x=>[Var x a7 vo 55,Var b2 a7 a7.zero 55,S t1]) ?_ (fun x hx=>?_)
   ·refine dA zk ?_;refine tm 0 rfl rfl ?_;refine tn 1 rfl rfl ?_;refine tk 2 rfl (fA 0 (.t rfl)) ?_;refine tk 3 rfl (Ev.to (v':=.pointer (some ⟨x0.p.b,0,none⟩)) (Ev.vK Tryz.isAgg65 (.t rfl) (fun w I=>(W.fld t1 w (I.own _ (show S t1 ∈ _ from zm)).1).1)) (rfl)) ?_;refine tk 4 rfl (fA 1 (.t rfl)) ?_;refine tk 5 rfl (Ev.ldx j.in_ ty3 (.t rfl) fp.iH) ?_;refine tk 6 rfl (Ev.ldv cJ (.t rfl) (ah.id _)) ?_;refine all [7,11] zk (by decide) (.cons rfl ?_ (.cons rfl ?_ .nil))
    ·refine (aQ eN (o3 rfl rfl rfl) (fun w I=>nZ x0.p l1 d1 _ (wD (jW bs) xo) (kA bs) _ _ w (hN w I.keeps).p ho1 (io w I) (by omega) hvo hde) ?_);refine hdn (tm 8 rfl rfl ?_);refine tk 9 rfl (Ev.extract (.t rfl) rfl) ?_;refine tk 10 rfl (Ev.to (v':=I 0) (Ev.extract (.t rfl) rfl) (congrArg Gx.I (hde.symm ▸ rfl:(0:Int) = 0))) ?_;exact s82
    ·refine (alloc z55 (fun b8=>?_));refine hdn (al1 7 rfl ((aQ eN (o3 rfl rfl rfl) (fun w I=>nZ x0.p l1 d1 _ (wD (jW bs) xo) (kA bs) _ _ w (hN w I.keeps).p ho1 (io w I) (by omega) hvo hde) ?_)));refine hdn (tm 8 rfl rfl ?_);refine tk 9 rfl (Ev.extract (.t rfl) rfl) ?_;refine tk 10 rfl (Ev.to (v':=I 0) (Ev.extract (.t rfl) rfl) (congrArg Gx.I (hde.symm ▸ rfl:(0:Int) = 0))) ?_;refine al1 12 rfl ((stv gT (ah.id _) (.t rfl) (.t rfl) ?_));exact s41
   obtain ⟨x4,rfl⟩:∃ y,y = x:=⟨x,rfl⟩;refine sg (co (Ev.ldv gT (.t rfl) (ah.id _)) ?_);refine mv rfl (cons (stv gT (ah.id _) (.t rfl) (.t rfl) ?_));refine ac (.bool false) ?_;refine asn rfl (nP (ret (pR (bR (pR (bR (done rfl (.cellP rfl gT (br zm (ah.id _)) (.tmp rfl (.tmp rfl .nil))) (fun w I=>?_))))))));exact Gx.mY (r':=fun r:Nat × σ=>S r.2) (1,t1) ⟨t1,W.tr ht ht1.1,ht1.2,way_1 h3 h4,fun e=>(by cases e),fun _=>rfl⟩ (by rw [hvo]; rfl) (by repeat first | exact mH | apply mT | apply mA) w I
  ·have h4:rT ss (W.n t1) bs = false:=by unfold rT; rw [hpk]; exact h4
   refine skip (pN (sg (mv rfl (co (Ev.ldv mL (.t rfl) (ah.id _)) ?_))));refine cf 0 rfl ?_;refine co (Ev.ldv ty3 (.t rfl) aD.dM) ?_;refine co (Ev.to (v':=.bool dr) (Ev.dS (.t rfl) (.c rfl)) (congrArg Value.bool hdr2)) ?_;refine cons (aQ eN (o3 rfl rfl rfl) (fun w I=>counted_ok x0.b x0.sv.v ss (aB (W.n t1)) dr w ((W.fld t1 w (I.own _ (show S t1 ∈ _ from zm)).1).2.2) (hN w I.keeps).s hs hl) ?_);refine cons (aQ eN (o1 rfl) (fun w I=>word_to _ (nxW ss (W.n t1) dr) w rfl) ?_);refine asn rfl (nP (sg (mv rfl (cons (aQ eN (.cons (.t rfl) (.cons (.c (v:=U8 5) rfl) .nil)) (fun w I=>pq _ w) ?_)))));refine nP (sg (mv rfl (co (Ev.nilCheck (.t rfl)) ?_)));refine cf 3 rfl ?_;refine mv rfl (mv rfl (cons (qQ (X:=Bool × σ) (fun r:Bool × σ=>(r.1 = true→W.Hit t1 dr r.2) ∧ (r.1 = false→W.R t1 r.2 ∧ W.μ r.2 < W.μ t1)) (fun r=>.bool r.1) (r:=S t1) (r':=fun r=>S r.2) (fun _=>zu) zm eN (o3 rfl rfl rfl) (fun w I=>W.cas t1 dr w (am w I) ht1.2 h3 (old_not h4)) (fun r1 hr1=>?_))));refine nP ?_;refine cnq rfl (fun h5=>?_) (fun h5=>?_)
   ·have h5:r1.1 = true:=h5;refine sg (co (Ev.ldv gT (.t rfl) (ah.id _)) ?_);refine cons (stv gT (ah.id _) (.t rfl) (.t rfl) ?_);refine ac (.bool true) ?_;refine ac (I 0) ?_;refine nP (ret (bR (pR (bR (done rfl (.cellP rfl gT (br zm (ah.id _)) (.tmp rfl (.tmp rfl .nil))) (fun w I=>?_))))));exact Gx.mY (r':=fun r:Nat × σ=>S r.2) (2,r1.2) ⟨t1,W.tr ht ht1.1,ht1.2,way_2 h3 h4,fun _=>hr1.1 h5,fun e=>absurd rfl e⟩ (by rw [hvn]; rfl) (by repeat first | exact mH | apply mT | apply mA) w I
   ·have h5:r1.1 = false:=h5;refine skip (bN (pN (nxP (r1.2) ?_ ?_)))
    ·try dsimp only
     exact W.tr (W.tr ht ht1.1) (hr1.2 h5).1
    ·try dsimp only
     have k1:=(hr1.2 h5).2; have k2:=W.mu ht1.1; omega
end Go.Proofs.YtljifjflnakmoaaGreat
namespace Go.Proofs.YtljifjflnakmoaaGreat
open Go Go.Gx Go.Proofs.YtljifjflnakmoaaGreat.Tri Go.Proofs.YtljifjflnakmoaaGreat.Oc
theorem and_small (n:UInt64):(n &&& 255).toNat < 9223372036854775808:=by
 rw [UInt64.toNat_and];exact Nat.lt_of_le_of_lt Nat.and_le_right (by decide)
theorem stage_ok {X:Ext} {fr:Nat} {σ:Type} {S:σ→Res} {b nb:Nat} {p sv:Value} {ss:List au} (W:wo X fr σ S b p (.pointer (some ⟨nb,0,none⟩)) sv ss) (s:σ) (w:World) (hfr:fr ≤ w.heap.size) (hfb:∀ b,(S s).bQ b→fr ≤ b) (h:At (S s) w):eo X fr Tryz.prog 15 #[.pointer (some ⟨b,0,none⟩),eB.v] w (Gx.fV w (S s) (fun t=>W.R s t ∧ W.Ok t) (fun t=>.tuple #[I ((aB (W.n t)).stage.toNat:Int),U64 (aB (W.n t)).seen,U64 (aB (W.n t)).dropped,I 0]) S):=by
 refine nG 26 [S s] Tryz.func15 rfl rfl (Nat.le_of_ble_eq_true rfl) hfr hfb (gU h _) ?_;refine sg (ac (I 0) ?_);refine ac (U64 0) ?_;refine ac (U64 0) ?_;refine ac (I 0) ?_;refine nP (seq (sg (mv rfl (cons (aQ eN (o1 rfl) (fun w I=>qw b nb w ((W.fld s w (I.own _ (show S s ∈ _ from zm)).1).2.1)) ?_)))));refine co (Ev.not (.t rfl)) ?_;refine nP (fL rfl (rfl) ?_);refine skip (pN (sg (mv rfl (cons (aQ eN (.cons (.t rfl) (.cons (.c (v:=U8 1) rfl) .nil)) (fun w I=>pq _ w) ?_)))));refine nP (sg (mv rfl (co (Ev.nilCheck (.t rfl)) ?_)));refine cf 3 rfl ?_;refine cons (qQ (X:=σ) (fun u=>W.R s u ∧ W.Ok u) (fun u=>U64 (W.n u)) (r:=S s) (r':=S) (fun _=>zu) zm eN (o1 rfl) (fun w I=>W.load s w (am w I)) (fun t1 ht1=>?_));refine cons (aQ eN (o1 rfl) (fun w I=>sZ _ w) ?_);refine cons (alloc z120 (fun b1=>?_));refine cons (stv mL (ah.id _) (.t rfl) (.t rfl) ?_);refine nP (seq (dA zk ?_));refine tk 0 rfl (fA 1 (.t rfl)) ?_;refine tk 1 rfl (Ev.ldv eO (.t rfl) ak.jo) ?_;refine tk 2 rfl (Ev.uh Y3 Y51 (.t rfl) (fun _=>and_small _)) ?_;refine tk 3 rfl (fA 2 (.t rfl)) ?_;refine tk 4 rfl (Ev.ldv eO (.t rfl) ak.nw) ?_;refine tk 5 rfl (fA 3 (.t rfl)) ?_;refine tk 6 rfl (Ev.ldv eO (.t rfl) ak.ez) ?_;refine tk 7 rfl (Ev.assign (.t rfl)) ?_;refine tk 8 rfl (Ev.assign (.t rfl)) ?_;refine tk 9 rfl (Ev.assign (.t rfl)) ?_;refine tk 10 rfl (Ev.assign (.c rfl)) ?_;refine ovr (pN (ret (done rfl (.tmp rfl (.tmp rfl (.tmp rfl (.tmp rfl .nil)))) (fun w I=>?_))));exact Gx.mY (r':=S) t1 ht1 rfl zm w I
theorem wQ {X:Ext} {fr:Nat} {σ:Type} {S:σ→Res} {b nb:Nat} {p sv:Value} {ss:List au} (W:wo X fr σ S b p (.pointer (some ⟨nb,0,none⟩)) sv ss) (s:σ) (w:World) (hfr:fr ≤ w.heap.size) (hfb:∀ b,(S s).bQ b→fr ≤ b) (h:At (S s) w):eo X fr Tryz.prog 16 #[.pointer (some ⟨b,0,none⟩),eB.v] w (Gx.fV w (S s) (fun t=>W.R s t ∧ W.Ok t) (fun t=>.tuple #[.bool (decide (¬ (aB (W.n t)).end_ = 0)),.bool (decide ((aB (W.n t)).end_ = 1)),I 0]) S):=by
 refine nG 24 [S s] Tryz.func16 rfl rfl (Nat.le_of_ble_eq_true rfl) hfr hfb (gU h _) ?_;refine sg (ac (.bool false) ?_);refine ac (.bool false) ?_;refine ac (I 0) ?_;refine nP (seq (sg (mv rfl (cons (aQ eN (o1 rfl) (fun w I=>qw b nb w ((W.fld s w (I.own _ (show S s ∈ _ from zm)).1).2.1)) ?_)))));refine co (Ev.not (.t rfl)) ?_;refine nP (fL rfl (rfl) ?_);refine skip (pN (sg (mv rfl (cons (aQ eN (.cons (.t rfl) (.cons (.c (v:=U8 1) rfl) .nil)) (fun w I=>pq _ w) ?_)))));refine nP (sg (mv rfl (co (Ev.nilCheck (.t rfl)) ?_)));refine cf 3 rfl ?_;refine cons (qQ (X:=σ) (fun u=>W.R s u ∧ W.Ok u) (fun u=>U64 (W.n u)) (r:=S s) (r':=S) (fun _=>zu) zm eN (o1 rfl) (fun w I=>W.load s w (am w I)) (fun t1 ht1=>?_));refine cons (aQ eN (o1 rfl) (fun w I=>sZ _ w) ?_);refine cons (alloc z120 (fun b1=>?_));refine cons (stv mL (ah.id _) (.t rfl) (.t rfl) ?_);refine nP (seq (dA zk ?_));refine tk 0 rfl (fA 0 (.t rfl)) ?_;refine tk 1 rfl (Ev.ldv eO (.t rfl) ak.lx) ?_;refine tk 2 rfl (Ev.neq_u64 (.t rfl) (.c (v:=U64 0) rfl)) ?_;refine tk 3 rfl (fA 0 (.t rfl)) ?_;refine tk 4 rfl (Ev.ldv eO (.t rfl) ak.lx) ?_;refine tk 5 rfl (Ev.jr (.t rfl) (.c (v:=U64 1) rfl)) ?_;refine tk 6 rfl (Ev.assign (.t rfl)) ?_;refine tk 7 rfl (Ev.assign (.t rfl)) ?_;refine tk 8 rfl (Ev.assign (.c rfl)) ?_;refine ovr (pN (ret (done rfl (.tmp rfl (.tmp rfl (.tmp rfl .nil))) (fun w I=>?_))));exact Gx.mY (r':=S) t1 ht1 rfl zm w I
end Go.Proofs.YtljifjflnakmoaaGreat
namespace Go.Proofs.YtljifjflnakmoaaGreat
open Go Go.Gx Go.Proofs.YtljifjflnakmoaaGreat.Tri Go.Proofs.YtljifjflnakmoaaGreat.Oc
def xj (i:UInt16):aa:={ aA.zero with aC:=17,bB:=i,bC:=9,tTL:=5 }
def nf (low:Bool):Nat:=if low = true then 1 else 0
def oS (low:Bool):List UInt8:=gf (xj (UInt16.ofNat (nf low))) []
theorem chk9 (k:Nat) (h:k ≤ 1):dH (xj (UInt16.ofNat k)) 0 = 0:=by
 have h2:k = 0 ∨ k = 1:=by omega
 rcases h2 with rfl | rfl
 ·decide +kernel
 ·decide +kernel
theorem one_le (low:Bool):nf low ≤ 1:=by unfold nf; split <;> omega
theorem one_lt {low:Bool} {i:Int} (h:0 ≤ i ∧ i ≤ nf low):i < 4096:=by
 have:=one_le low;omega
theorem one_l1 {low:Bool} {i:Int} (h:0 ≤ i ∧ i ≤ nf low):i.toNat ≤ 1:=by
 have:=one_le low;omega
theorem one_tab (low:Bool) (k:Nat) (h:k ≤ nf low):(decide ((mm (ofK (xj (UInt16.ofNat k))) 100).1 < 50) == low) = decide (k = nf low):=by
 have h0:decide ((mm (ofK (xj (UInt16.ofNat 0))) 100).1 < 50) = false:=by decide +kernel
 have h1:decide ((mm (ofK (xj (UInt16.ofNat 1))) 100).1 < 50) = true:=by decide +kernel
 cases low with
 | false =>
   obtain rfl:k = 0:=by simpa [nf] using h
   rw [h0]; rfl
 | true =>
   have h2:k = 0 ∨ k = 1:=by
    have:k ≤ 1:=by simpa [nf] using h
    omega
   rcases h2 with rfl | rfl
   ·rw [h0]; rfl
   ·rw [h1]; rfl
theorem ofInt9 {low:Bool} {i:Int} (h:0 ≤ i ∧ i ≤ nf low):UInt16.ofInt i = UInt16.ofNat i.toNat:=by
 have:=one_le low;have h2:i = 0 ∨ i = 1:=by omega
 rcases h2 with rfl | rfl <;> decide
theorem make_to (h:aa) (w:World) (hd:h.data = ai) (hc:dH h 0 = 0):Gx.Calls Tryz.prog 23 #[aA.val h] w (gL w (fun _:OV=>True) (fun o=>.tuple #[o.v,I 0]) (fun o=>[aT o.v u8E (gf h []) 5])):=by
 refine (make_ok h [] w (by rw [hd]; exact aO.nil _ w) (by simp)).mono (fun _ h=>h) ?_;rintro e w' ⟨o,_,he,hk,hn⟩;have hc2:dH h (([]:List UInt8).length:Int) = 0:=hc;rw [hc2] at he;simp only [hc2,if_true] at hn;exact ⟨o,trivial,he,hk,hn⟩
def allU:aY:={ cy.zero with name:=⟨#[97,108,108]⟩,action:=3,out:=1 }
def iK:CL:=⟨[1],[],[],[],[]⟩
def ib:CL:=⟨[1],[],[allU],[],[]⟩
theorem drops_ok (w:World):Gx.Calls Tryz.prog 12 #[] w (gL w (fun _:OV=>True) (fun o=>cZ.val ⟨o,ai,ai,ai,ai,2⟩) (fun o=>[aT o.v iE [1] 3])):=by
 refine en0 3 Tryz.func12 (fun _ _=>?_);refine sg (cons (alloc z28 (fun b1=>?_)));refine nP (sg (cons (buildSlice (E:=iE) Y22 ty3 z3 (.cons (.c (v:=I 1) rfl) .nil) rfl rfl (fun v2=>?_))));refine co (Ev.bu (fs:=_) (places:=[(0,1),(1,1),(2,1),(3,1),(4,1),(5,1)]) z28 rfl Y28 zk (.cons (.t rfl) (.cons (.c (v:=I 2) rfl) .nil)) (ay.cons aN.dE rfl (ay.cons aN.fQ rfl ay.nil))) ?_;refine cons (stv ph (ah.id _) (.t rfl) (.t rfl) ?_);refine nP (ret (done rfl (.cellP rfl ph (br zm (ah.id _)) .nil) (fun w I=>?_)));exact ft v2 trivial rfl zp w I
theorem sends_ok (w:World):Gx.Calls Tryz.prog 13 #[] w (gL w (fun _:OV × OV=>True) (fun o=>cZ.val ⟨o.1,ai,o.2,ai,ai,2⟩) (fun o=>[aT o.1.v iE [1] 3,aT o.2.v cy [allU] 111])):=by
 refine en0 5 Tryz.func13 (fun _ _=>?_);refine sg (cons (alloc z28 (fun b1=>?_)));refine nP (sg (cons (buildSlice (E:=iE) Y22 ty3 z3 (.cons (.c (v:=I 1) rfl) .nil) rfl rfl (fun v2=>?_))));refine co (Ev.bu (fs:=_) (places:=[(0,1),(1,44),(45,1),(46,1),(47,1),(48,1)]) z111 rfl Tryz.underlying111 zk (.cons (.c (v:=(Go.Value.string (ByteArray.mk #[97,108,108]))) rfl) (.cons (.c (v:=I 3) rfl) (.cons (.c (v:=I 1) rfl) .nil))) (ay.cons aY.fT rfl (ay.cons aY.dM rfl (ay.cons aY.jB rfl ay.nil)))) ?_;refine cons (buildSlice (E:=cy) Y24 q9 z111 (.cons (.t rfl) .nil) rfl rfl (fun v3=>?_));refine co (Ev.bu (fs:=_) (places:=[(0,1),(1,1),(2,1),(3,1),(4,1),(5,1)]) z28 rfl Y28 zk (.cons (.t rfl) (.cons (.t rfl) (.cons (.c (v:=I 2) rfl) .nil))) (ay.cons aN.dE rfl (ay.cons aN.eJ rfl (ay.cons aN.fQ rfl ay.nil)))) ?_;refine cons (stv ph (ah.id _) (.t rfl) (.t rfl) ?_);refine nP (ret (done rfl (.cellP rfl ph (br zm (ah.id _)) .nil) (fun w I=>?_)));exact ft (v2,v3) trivial rfl zp w I
theorem one_ok (low:Bool) (w:World):Gx.Calls Tryz.prog 11 #[.bool low] w (mE w u8E (oS low) 5):=by
 refine en0 30 Tryz.func11 (fun _ _=>?_);refine sg (ac (.slice none 0 0) ?_);refine nP (seq (sg (ac (I 0) ?_)));refine nP (block (lp (X:=Int) (fun x=>(0 ≤ x ∧ x ≤ nf low)) (fun x=>[dz,(0,true,.bool low),(3,true,I x)]) (fun x=>[]) (fun x=>((nf low:Int) - x).toNat) (0) ?_ (fun x hx=>?_)))
 ·exact ⟨by omega,by omega⟩
 obtain ⟨i,rfl⟩:∃ y,y = x:=⟨x,rfl⟩;have hi:0 ≤ i ∧ i ≤ nf low:=hx;clear hx;refine seq (sg (mv rfl (co (Ev.cj (.t rfl) (.c rfl)) ?_)));refine nP (condT rfl (decide_eq_true (one_lt hi)) ?_);refine skip (pN (seq (block (seq ?_))));obtain ⟨pk,hpk⟩:∃ z,(mm (ofK (xj (UInt16.ofNat i.toNat))) 100).1 = z:=⟨_,rfl⟩;refine region (mv rfl (co (Ev.jg Y82 Y3 (.t rfl)) ?_));refine co (Ev.to (v':=aA.val (xj (UInt16.ofNat i.toNat))) (Ev.bu (fs:=_) (places:=[(0,17),(17,17),(34,1),(35,1),(36,1),(37,1),(38,1),(39,1),(40,1),(41,1),(42,1)]) z85 rfl Y85 zk (.cons (.c (v:=U8 17) rfl) (.cons (.t rfl) (.cons (.c (v:=U16 9) rfl) (.cons (.c (v:=U8 5) rfl) .nil)))) (ay.cons aa.bS rfl (ay.cons aa.cS rfl (ay.cons aa.cT rfl (ay.cons aa.tJ rfl ay.nil))))) (congrArg (fun x=>aA.val (xj x)) (ofInt9 hi))) ?_;refine cons (alloc z85 (fun b1=>?_));refine cons (stv cJ (ah.id _) (.t rfl) (.t rfl) ?_);refine nP (sg (co (Ev.ldv cJ (.t rfl) (ah.id _)) ?_));refine cons (dB (X:=OV) (fun _=>True) (fun o=>.tuple #[o.v,I 0]) (fun o=>[aT o.v u8E (gf (xj (UInt16.ofNat i.toNat)) []) 5]) eN (o1 rfl) (fun w I=>make_to _ w rfl (chk9 _ (one_l1 hi))) (fun o4 _=>?_));refine mv rfl (cx rfl rfl (cx rfl rfl (asn rfl (asn rfl (nP (sg (mv rfl (co (Ev.dO (.t rfl) (.c rfl)) ?_))))))));refine mv rfl (cg rfl rfl (Ev.ldv cJ (.t rfl) (ah.id _)) ?_);refine cons (iM rfl rfl eN (.cons (.g rfl id) .nil) (fun hg w I=>Oc.tA _ w) ?_);refine cons (iM rfl rfl eN (.cons (.g rfl id) .nil) (fun hg w I=>wO _ pk w hpk) ?_);refine cg rfl rfl (Ev.j3 (.g rfl id) (.c (v:=U64 50) rfl)) ?_;refine cg rfl rfl (Ev.move (.t rfl)) ?_;refine cg rfl rfl (Ev.eql_b Y4 (.g rfl id) (.g rfl id)) ?_;refine co (Ev.pkA (.t rfl) rfl) ?_;refine nP ?_;refine cnq rfl (fun h1=>?_) (fun h1=>?_)
 ·have h1:(decide (pk < 50) == low) = true:=by simpa using h1
  rw [← hpk,one_tab low i.toNat (by omega)] at h1;have h1:i.toNat = nf low:=by simpa using h1
  refine sg (mv rfl (asn rfl (nP (ret (bR (pR (pR (bR (pR (done rfl (.tmp rfl .nil) (oB zm ?_)))))))))));unfold oS;rw [h1]
 ·have h1:(decide (pk < 50) == low) = false:=by simpa using h1
  rw [← hpk,one_tab low i.toNat (by omega)] at h1;have h1:¬ i.toNat = nf low:=by simpa using h1
  refine skip (bN (pN (region (mv rfl (co (Ev.bL (.t rfl) (.c rfl) (fun _=>by have:=one_lt hi; omega)) ?_)))));refine asn rfl (nP (nx (i + 1) ?_ ?_))
  ·try dsimp only
   have:¬ i.toNat = nf low:=h1; omega
  ·try dsimp only
   have:¬ i.toNat = nf low:=h1; omega
end Go.Proofs.YtljifjflnakmoaaGreat
namespace Go.Proofs.YtljifjflnakmoaaGreat
open Go Go.Gx Go.Proofs.YtljifjflnakmoaaGreat.Tri Go.Proofs.YtljifjflnakmoaaGreat.Oc
theorem new_good {c1 c2:aN} {l1 l2:CL} {d1 d2:Int} {u:Value} {ss:List au} {w:World} (hc1:eI w c1 l1) (hc2:eI w c2 l2) (hu:aO aS w u ss) (hn1:l1.Names) (hn2:l2.Names) (hz1:l1.n ≤ 4611686018427387904) (hz2:l2.n ≤ 4611686018427387904) (hss:ss.length * 24 ≤ 140737488355328) (hd1:c1.default = d1) (hd2:c2.default = d2) (he:iT l1 l2 d1 d2 ss = 0) :
 Gx.Calls Tryz.prog 6 #[cZ.val c1,cZ.val c2,u] w (gL w (NewJ l1 l2 d1 d2 ss) (fun x=>.tuple #[.pointer (some ⟨x.b,0,none⟩),I 0]) (fun x=>[Var x.b aH (x.rv 0) 72,x.r,aT x.sv.v aS ss 53])):=by
 subst hd1;subst hd2;refine (wU c1 c2 l1 l2 u ss w hc1 hc2 hu hn1 hn2 hz1 hz2 hss).mono (fun _ h=>h) ?_;rintro e w' ⟨x,hJ,hv,hk,hn⟩;simp only [he,if_true] at hn;rw [he] at hv;exact ⟨x,hJ he,hv,hk,hn⟩
def wfb (ss:List au) (n:UInt64):Bool:=decide ((aB n).stage.toNat < ss.length) && decide ((aB n).dropped.toNat ≤ (aB n).seen.toNat) && (decide ((aB n).end_.toNat = 0 ∧ (aB n).seen.toNat < wt ss (aB n).stage.toNat ∧ (aB n).dropped.toNat ≤ mo ss (aB n).stage.toNat) || decide ((aB n).end_.toNat = 1 ∧ (aB n).stage.toNat + 1 = ss.length ∧ (aB n).seen.toNat = wt ss (aB n).stage.toNat ∧ (aB n).dropped.toNat ≤ mo ss (aB n).stage.toNat) || decide ((aB n).end_.toNat = 2 ∧ (aB n).seen.toNat ≤ wt ss (aB n).stage.toNat ∧ (aB n).dropped.toNat = mo ss (aB n).stage.toNat + 1))
theorem wf_of {ss:List au} {n:UInt64} (h:wfb ss n = true):WfW ss n:=by
 simp only [wfb,Bool.and_eq_true,Bool.or_eq_true,decide_eq_true_iff,or_assoc] at h;exact ⟨h.1.1,h.1.2,h.2⟩
theorem end_0 {ss:List au} {n:UInt64} (h:WfW ss n) (h1:¬ (aB n).end_ = 1) (h2:¬ (aB n).end_ = 2):(aB n).end_.toNat = 0:=by
 rcases h.alt with h | h | h
 ·exact h.1
 ·exact absurd (UInt64.toNat_inj.1 h.1) h1
 ·exact absurd (UInt64.toNat_inj.1 h.1) h2
def mainI {X:Ext} {fr:Nat} (x:RX) (ss:List au) (hg:fE ss) (hfr:fr ≤ x.b):wo X fr { n:UInt64 // WfW ss n } (fun n=>Var x.b aH (x.rv n.1) 72) x.b (.pointer (some ⟨x.p.b,0,none⟩)) (.pointer (some ⟨x.q.b,0,none⟩)) x.sv.v ss where
 n:=fun s=>s.1
 μ:=fun _=>0
 R:=fun s t=>s = t
 Ok:=fun _=>True
 Hit:=fun s dr t=>t.1 = nxW ss s.1 dr
 r0:=fun _=>rfl
 tr:=fun h h'=>h.trans h'
 mu:=fun _=>Nat.le_refl _
 st:=fun t _=>t.2.lt
 fld:=fun s w h=>by
  have h0:w.heap[x.b]? = some (.cells (aH.cells (x.rv s.1)).toArray 72 (0,0)):=h;refine ⟨.inl ?_,.inl ?_,.inl ?_⟩ <;> (simp only [World.cell?,h0]; rfl)
 load:=fun s w h=>by
  have hb:x.b < w.heap.size:=h.2 _ rfl;have hp:cq fR w x.b 3 s.1:=by
   have h0:w.heap[x.b]? = some (.cells (aH.cells (x.rv s.1)).toArray 72 (0,0)):=h.1;intro j u hu
   match j,hu with
   | 0,hu=>simp only [World.cell?,h0]; exact hu
   | j + 1,hu=>simp [fR,scE] at hu
  refine (load64_ok x.b 3 s.1 w hp X fr (by omega) (fun _ h=>h.elim)).mono (fun _ h=>h.elim) fun e w' ⟨h1,h2⟩=>⟨s,⟨rfl,trivial⟩,h1,h2.mono (fun _ h=>h.elim),(Var x.b aH (x.rv s.1) 72).st w w' (fun b hb'=>h2.block b (h.2 b hb') id) h.1,fun b hb'=>⟨.inl hb',Nat.lt_of_lt_of_le (h.2 b hb') h2.size⟩⟩
 cas:=fun s dr w h _ h1 h2=>by
  have hb:x.b < w.heap.size:=h.2 _ rfl;have hn:=nx_ok hg s.2 (end_0 s.2 h1 h2) dr;refine (cas64_ok (ah.comp ba.xd bx.l_v) x.b (x.rv s.1) (nxW ss s.1 dr) 72 w h X fr (by omega) (fun b hb'=>by rw [show b = x.b from hb']; exact hfr)).mono (fun _ h=>h) fun e w' ⟨_,_,g1,g2,g3,g4⟩=>⟨(true,⟨nxW ss s.1 dr,hn.1⟩),⟨fun _=>rfl,fun e=>by cases e⟩,g1,g2,g3,g4⟩
theorem tu (x0:RX) (l1 l2:CL) (d1 d2:Int) (ss:List au) (n:UInt64) (j:fp) (bs:List UInt8) (V:aD) (q:Bool) (m:UInt64) (w:World) (h:At (Var x0.b aH (x0.rv n) 72) w) (hN:∀ w2,aJ (Var x0.b aH (x0.rv n) 72).bQ w w2→xH w2 x0 l1 l2 d1 d2 ss) (hb:∀ w2,aJ (Var x0.b aH (x0.rv n) 72).bQ w w2→aO u8E w2 j.qB.v bs) (ho1:jl x0.p l1 d1) (ho2:jl x0.q l2 d2) (hst:dk ss 0 = true) (hw:wfb ss n = true)
 (hV:passV l1 l2 d1 d2 j.in_ ss n bs = V) (hq:passB ss n bs = q) (hm:vC l2 d2 j.in_ ss n bs = m) (he:pE bs = 0) :
 Gx.Calls Tryz.prog 14 #[.pointer (some ⟨x0.b,0,none⟩),eB.v,xy.val j] w (Gx.fV w (Var x0.b aH (x0.rv n) 72) (fun _:Unit=>True) (fun _=>.tuple #[a7.val V,.bool q,I 0]) (fun _=>Var x0.b aH (x0.rv m) 72)):=fun X fr hfr hM=>by
 subst hV hq hm;have hg:=mb hst;refine (pass_ok x0 l1 l2 d1 d2 ss (mainI x0 ss hg (hM _ rfl)) ⟨n,wf_of hw⟩ (dropB l2 d2 j.in_ bs) j bs w hfr hM h hN hb ho1 ho2 (by have:=hg.l; omega) he rfl).mono (fun _ h=>h) ?_;rintro e w' ⟨⟨k,t⟩,⟨s,rfl,_,hk,h2,h3⟩,hv,hkp,ha,hf⟩;have hk':way ss n bs = k:=hk;subst hk';have ht:t.1 = vC l2 d2 j.in_ ss n bs:=by
  unfold vC
  by_cases e:way ss n bs = 2
  ·rw [if_pos e]; exact h2 e
  ·rw [if_neg e];have:t = ⟨n,wf_of hw⟩:=h3 e;rw [this]
 have ha':(Var x0.b aH (x0.rv t.1) 72).A w':=ha;rw [ht] at ha';exact ⟨(),trivial,hv,hkp,ha',hf⟩
theorem qx {K:Ctx} {L L':List Res} {r:Res} {x:RX} {l1 l2:CL} {d1 d2:Int} {ss:List au} {w:World} (I:aP K L w) (hr:Rem L r L') (h1:x.r ∈ L') (h2:aT x.sv.v aS ss 53 ∈ L') (hx:NewJ l1 l2 d1 d2 ss x):∀ w2,aJ r.bQ w w2→xH w2 x l1 l2 d1 d2 ss:=fun w2 k =>
 have I2:=I.but hr k
 ⟨(hx.r w2 (I2.own _ h1).1).1,(hx.r w2 (I2.own _ h1).1).2,aO.gN (I2.own _ h2).1⟩
theorem pG {α:Type} {K:Ctx} {L L':List Res} {r:Res} {v:Value} {E:Enc α} {xs:List α} {t:TypeId} {w:World} (I:aP K L w) (hr:Rem L r L') (h:aT v E xs t ∈ L'):∀ w2,aJ r.bQ w w2→aO E w2 v xs:=fun w2 k=>aO.gN ((I.but hr k).own _ h).1
theorem stage_to (x:RX) (ss:List au) (hst:dk ss 0 = true) (m:UInt64) (hw:wfb ss m = true) (a:Int) (b c:UInt64) (w:World) (hat:At (Var x.b aH (x.rv m) 72) w) (h:((aB m).stage.toNat:Int) = a ∧ (aB m).seen = b ∧ (aB m).dropped = c):Gx.Calls Tryz.prog 15 #[.pointer (some ⟨x.b,0,none⟩),eB.v] w (Gx.fV w (Var x.b aH (x.rv m) 72) (fun _:Unit=>True) (fun _=>.tuple #[I a,U64 b,U64 c,I 0]) (fun _=>Var x.b aH (x.rv m) 72)):=fun X fr hfr hM=>by
 obtain ⟨h1,rfl,rfl⟩:=h;rw [← h1];refine (stage_ok (mainI x ss (mb hst) (hM _ rfl)) ⟨m,wf_of hw⟩ w hfr hM hat).mono (fun _ h=>h) ?_;exact s47
theorem over_to (x:RX) (ss:List au) (hst:dk ss 0 = true) (m:UInt64) (hw:wfb ss m = true) (a b:Bool) (w:World) (hat:At (Var x.b aH (x.rv m) 72) w) (h:decide (¬ (aB m).end_ = 0) = a ∧ decide ((aB m).end_ = 1) = b):Gx.Calls Tryz.prog 16 #[.pointer (some ⟨x.b,0,none⟩),eB.v] w (Gx.fV w (Var x.b aH (x.rv m) 72) (fun _:Unit=>True) (fun _=>.tuple #[.bool a,.bool b,I 0]) (fun _=>Var x.b aH (x.rv m) 72)):=fun X fr hfr hM=>by
 obtain ⟨rfl,rfl⟩:=h;refine (wQ (mainI x ss (mb hst) (hM _ rfl)) ⟨m,wf_of hw⟩ w hfr hM hat).mono (fun _ h=>h) ?_;exact s47
theorem co_drops {K:Ctx} {L:List Res} {o:OV} (w:World) (I:aP K L w) (h:aT o.v iE [1] 3 ∈ L):eI w ⟨o,ai,ai,ai,ai,2⟩ iK:=⟨fJ h w I,aO.nil _ w,aO.nil _ w,aO.nil _ w,aO.nil _ w⟩
theorem co_sends {K:Ctx} {L:List Res} {o1 o2:OV} (w:World) (I:aP K L w) (h:aT o1.v iE [1] 3 ∈ L) (h2:aT o2.v cy [allU] 111 ∈ L):eI w ⟨o1,ai,o2,ai,ai,2⟩ ib:=⟨fJ h w I,aO.nil _ w,fJ h2 w I,aO.nil _ w,aO.nil _ w⟩
theorem names31 {l:CL} (h:l.us.all (fun x=>decide (x.name.size ≤ 16)) && l.ms.all (fun x=>decide (x.name.size ≤ 16)) && l.xs.all (fun x=>decide (x.name.size ≤ 16)) = true):l.Names:=by
 simp only [Bool.and_eq_true,List.all_eq_true,decide_eq_true_iff] at h;exact ⟨fun x hx=>by have:=h.1.1 x hx; omega,fun x hx=>by have:=h.1.2 x hx; omega,fun x hx=>by have:=h.2 x hx; omega⟩
theorem dropsN:iK.Names:=names31 (by decide +kernel)
theorem sendsN:ib.Names:=names31 (by decide +kernel)
theorem dropsZ:iK.n ≤ 4611686018427387904:=by decide +kernel
theorem sendsZ:ib.n ≤ 4611686018427387904:=by decide +kernel
def ss1:List au:=[⟨50,2,0⟩,⟨100,1,0⟩]
def ss2:List au:=[⟨50,2,0⟩]
theorem e1:iT iK ib 2 2 ss1 = 0:=by decide +kernel
theorem e2:iT ib iK 2 2 ss2 = 0:=by decide +kernel
theorem pV1:passV iK ib 2 2 1 ss1 0 (oS false) = ⟨2,-1,-1,-1,-1⟩:=by decide +kernel
theorem pV2:passV iK ib 2 2 1 ss1 0 (oS true) = ⟨3,1,0,-1,-1⟩:=by decide +kernel
theorem pV3:passV ib iK 2 2 1 ss2 0 (oS true) = ⟨2,-1,-1,-1,-1⟩:=by decide +kernel
theorem pB1:passB ss1 0 (oS false) = false:=by decide +kernel
theorem pB2:passB ss1 0 (oS true) = true:=by decide +kernel
theorem pB3:passB ss2 0 (oS true) = true:=by decide +kernel
theorem pW1:vC ib 2 1 ss1 0 (oS false) = 0:=by decide +kernel
theorem pW2:vC ib 2 1 ss1 0 (oS true) = 2097152:=by decide +kernel
theorem pW3:vC iK 2 1 ss2 0 (oS true) = 2251799815782401:=by decide +kernel
theorem pE1 (b:Bool):pE (oS b) = 0:=by cases b <;> decide +kernel
end Go.Proofs.YtljifjflnakmoaaGreat
namespace Go.Proofs.YtljifjflnakmoaaGreat
open Go Go.Gx Go.Proofs.YtljifjflnakmoaaGreat.Tri Go.Proofs.YtljifjflnakmoaaGreat.Oc
theorem z59:zI 59 xy:=kI
theorem works_ok (w:World):Gx.Calls Tryz.prog 4 #[] w (bG w (.bool true)):=by
 refine en0 144 Tryz.func4 (fun _ _=>?_);refine sg (ac (.bool false) ?_);refine nP (sg (cons (dY eN (.cons (.c (v:=.bool true) rfl) .nil) (fun w I=>one_ok true w) (fun v1=>?_))));refine cons (dY eN (.cons (.c (v:=.bool false) rfl) .nil) (fun w I=>one_ok false w) (fun v2=>?_));refine asn rfl (asn rfl (nP (sg (cons (dB (X:=OV) (fun _=>True) (fun o=>cZ.val ⟨o,ai,ai,ai,ai,2⟩) (fun o=>[aT o.v iE [1] 3]) eN .nil (fun w I=>drops_ok w) (fun dd _=>?_))))));refine cons (dB (X:=OV × OV) (fun _=>True) (fun o=>cZ.val ⟨o.1,ai,o.2,ai,ai,2⟩) (fun o=>[aT o.1.v iE [1] 3,aT o.2.v cy [allU] 111]) eN .nil (fun w I=>sends_ok w) (fun sd _=>?_));refine co (Ev.bu (fs:=_) (places:=[(0,1),(1,1),(2,1)]) z53 rfl Y53 zk (.cons (.c (v:=I 50) rfl) (.cons (.c (v:=U64 2) rfl) .nil)) (ay.cons au.fC rfl (ay.cons au.gP rfl ay.nil))) ?_;refine co (Ev.bu (fs:=_) (places:=[(0,1),(1,1),(2,1)]) z53 rfl Y53 zk (.cons (.c (v:=I 100) rfl) (.cons (.c (v:=U64 1) rfl) .nil)) (ay.cons au.fC rfl (ay.cons au.gP rfl ay.nil))) ?_;refine cons (buildSlice (E:=aS) Y29 ju z53 (.cons (.t rfl) (.cons (.t rfl) .nil)) rfl rfl (fun v3=>?_));refine cons (dB (X:=RX) (NewJ iK ib 2 2 ss1) (fun x=>.tuple #[.pointer (some ⟨x.b,0,none⟩),I 0]) (fun x=>[Var x.b aH (x.rv 0) 72,x.r,aT x.sv.v aS ss1 53]) eN (o3 rfl rfl rfl) (fun w I=>new_good (co_drops w I zm) (co_sends w I zm zm) (fJ (xs:=ss1) zm w I) dropsN sendsN dropsZ sendsZ (by decide) rfl rfl e1) (fun x1 hx1=>?_));refine mv rfl (cx rfl rfl (cx rfl rfl (asn rfl (asn rfl (nP (seq (sg (mv rfl (co (Ev.dS (.t rfl) (.c rfl)) ?_)))))))));refine nP (fL rfl (rfl) ?_);refine skip (pN (sg (mv rfl (mv rfl (co (Ev.bu (fs:=_) (places:=[(0,1),(1,1),(2,1)]) z59 rfl Y59 zk (.cons (.c (v:=I 1) rfl) (.cons (.t rfl) .nil)) (ay.cons fp.iH rfl (ay.cons fp.kG rfl ay.nil))) ?_)))))
 refine cons (lQ (X:=Unit) (fun _=>True) (fun _=>.tuple #[a7.val (⟨2,-1,-1,-1,-1⟩:aD),.bool false,I 0]) (r:=Var x1.b aH (x1.rv 0) 72) (r':=fun _=>Var x1.b aH (x1.rv 0) 72) (fun _=>zu) zm eN (.cons (.t rfl) (.cons (.c (v:=Go.Value.nilIface) rfl) (.cons (.t rfl) .nil))) (fun w I=>tu x1 iK ib 2 2 ss1 0 _ (oS false) _ _ _ w (am w I) (qx I zr zm zm hx1) (pG (v:=v2.v) I zr zm) hx1.p hx1.q hx1.st (by decide +kernel) pV1 pB1 pW1 (pE1 _)) (fun _ _=>?_));refine mv rfl (cx rfl rfl (cx rfl rfl (cx rfl rfl (cons (alloc z55 (fun b4=>?_))))));refine cons (stv gT (ah.id _) (.t rfl) (.t rfl) ?_);refine asn rfl (asn rfl (nP (sg (mv rfl (mv rfl (co (Ev.bu (fs:=_) (places:=[(0,1),(1,1),(2,1)]) z59 rfl Y59 zk (.cons (.c (v:=I 1) rfl) (.cons (.t rfl) .nil)) (ay.cons fp.iH rfl (ay.cons fp.kG rfl ay.nil))) ?_))))));refine cons (lQ (X:=Unit) (fun _=>True) (fun _=>.tuple #[a7.val (⟨3,1,0,-1,-1⟩:aD),.bool true,I 0]) (r:=Var x1.b aH (x1.rv 0) 72) (r':=fun _=>Var x1.b aH (x1.rv 2097152) 72) (fun _=>zu) zm eN (.cons (.t rfl) (.cons (.c (v:=Go.Value.nilIface) rfl) (.cons (.t rfl) .nil))) (fun w I=>tu x1 iK ib 2 2 ss1 0 _ (oS true) _ _ _ w (am w I) (qx I zr zm zm hx1) (pG (v:=v1.v) I zr zm) hx1.p hx1.q hx1.st (by decide +kernel) pV2 pB2 pW2 (pE1 _)) (fun _ _=>?_));refine mv rfl (cx rfl rfl (cx rfl rfl (cx rfl rfl (cons (alloc z55 (fun b5=>?_))))));refine cons (stv gT (ah.id _) (.t rfl) (.t rfl) ?_);refine asn rfl (asn rfl (nP (sg (mv rfl (cons (lQ (X:=Unit) (fun _=>True) (fun _=>.tuple #[I 0,U64 1,U64 0,I 0]) (r:=Var x1.b aH (x1.rv 2097152) 72) (r':=fun _=>Var x1.b aH (x1.rv 2097152) 72) (fun _=>zu) zm eN (.cons (.t rfl) (.cons (.c (v:=Go.Value.nilIface) rfl) .nil)) (fun w I=>stage_to x1 ss1 hx1.st 2097152 (by decide +kernel) 0 1 0 w (am w I) (by decide +kernel)) (fun _ _=>?_)))))))
 refine mv rfl (cx rfl rfl (cx rfl rfl (cx rfl rfl (cx rfl rfl (asn rfl (asn rfl (asn rfl (asn rfl (nP (sg (cons (dB (X:=OV × OV) (fun _=>True) (fun o=>cZ.val ⟨o.1,ai,o.2,ai,ai,2⟩) (fun o=>[aT o.1.v iE [1] 3,aT o.2.v cy [allU] 111]) eN .nil (fun w I=>sends_ok w) (fun sd _=>?_)))))))))))));refine cons (dB (X:=OV) (fun _=>True) (fun o=>cZ.val ⟨o,ai,ai,ai,ai,2⟩) (fun o=>[aT o.v iE [1] 3]) eN .nil (fun w I=>drops_ok w) (fun dd _=>?_));refine co (Ev.bu (fs:=_) (places:=[(0,1),(1,1),(2,1)]) z53 rfl Y53 zk (.cons (.c (v:=I 50) rfl) (.cons (.c (v:=U64 2) rfl) .nil)) (ay.cons au.fC rfl (ay.cons au.gP rfl ay.nil))) ?_;refine cons (buildSlice (E:=aS) Y29 ju z53 (.cons (.t rfl) .nil) rfl rfl (fun v6=>?_));refine cons (dB (X:=RX) (NewJ ib iK 2 2 ss2) (fun x=>.tuple #[.pointer (some ⟨x.b,0,none⟩),I 0]) (fun x=>[Var x.b aH (x.rv 0) 72,x.r,aT x.sv.v aS ss2 53]) eN (o3 rfl rfl rfl) (fun w I=>new_good (co_sends w I zm zm) (co_drops w I zm) (fJ (xs:=ss2) zm w I) sendsN dropsN sendsZ dropsZ (by decide) rfl rfl e2) (fun x2 hx2=>?_));refine mv rfl (cx rfl rfl (cx rfl rfl (asn rfl (asn rfl (nP (seq (sg (mv rfl (co (Ev.dS (.t rfl) (.c rfl)) ?_)))))))));refine nP (fL rfl (rfl) ?_);refine skip (pN (sg (mv rfl (mv rfl (co (Ev.bu (fs:=_) (places:=[(0,1),(1,1),(2,1)]) z59 rfl Y59 zk (.cons (.c (v:=I 1) rfl) (.cons (.t rfl) .nil)) (ay.cons fp.iH rfl (ay.cons fp.kG rfl ay.nil))) ?_)))))
 refine cons (lQ (X:=Unit) (fun _=>True) (fun _=>.tuple #[a7.val (⟨2,-1,-1,-1,-1⟩:aD),.bool true,I 0]) (r:=Var x2.b aH (x2.rv 0) 72) (r':=fun _=>Var x2.b aH (x2.rv 2251799815782401) 72) (fun _=>zu) zm eN (.cons (.t rfl) (.cons (.c (v:=Go.Value.nilIface) rfl) (.cons (.t rfl) .nil))) (fun w I=>tu x2 ib iK 2 2 ss2 0 _ (oS true) _ _ _ w (am w I) (qx I zr zm zm hx2) (pG (v:=v1.v) I zr zm) hx2.p hx2.q hx2.st (by decide +kernel) pV3 pB3 pW3 (pE1 _)) (fun _ _=>?_));refine mv rfl (cx rfl rfl (cx rfl rfl (cx rfl rfl (cons (alloc z55 (fun b7=>?_))))));refine cons (stv gT (ah.id _) (.t rfl) (.t rfl) ?_);refine asn rfl (asn rfl (nP (sg (mv rfl (cons (lQ (X:=Unit) (fun _=>True) (fun _=>.tuple #[.bool true,.bool false,I 0]) (r:=Var x2.b aH (x2.rv 2251799815782401) 72) (r':=fun _=>Var x2.b aH (x2.rv 2251799815782401) 72) (fun _=>zu) zm eN (.cons (.t rfl) (.cons (.c (v:=Go.Value.nilIface) rfl) .nil)) (fun w I=>over_to x2 ss2 hx2.st 2251799815782401 (by decide +kernel) true false w (am w I) (by decide +kernel)) (fun _ _=>?_)))))));refine mv rfl (cx rfl rfl (cx rfl rfl (cx rfl rfl (asn rfl (asn rfl (asn rfl (nP (sg (mv rfl (co (Ev.not (.t rfl)) ?_))))))))));refine mv rfl (cg rfl rfl (fA 0 (.t rfl)) ?_);refine cg rfl rfl (Ev.ldv ty3 (.g rfl id) aD.dM) ?_;refine cg rfl rfl (Ev.dO (.g rfl id) (.c rfl)) ?_;refine co (Ev.pkA (.t rfl) rfl) ?_;refine mv rfl (cg rfl rfl (Ev.move (.t rfl)) ?_);refine cg rfl rfl (Ev.dO (.g rfl id) (.c rfl)) ?_;refine co (Ev.pkA (.t rfl) rfl) ?_;refine mv rfl (cg rfl rfl (Ev.move (.t rfl)) ?_);refine co (Ev.pkA (.t rfl) rfl) ?_;refine mv rfl (cg rfl rfl (fA 0 (.t rfl)) ?_);refine cg rfl rfl (Ev.ldv ty3 (.g rfl id) aD.dM) ?_;refine cg rfl rfl (Ev.dO (.g rfl id) (.c rfl)) ?_;refine co (Ev.pkA (.t rfl) rfl) ?_;refine mv rfl (cg rfl rfl (Ev.move (.t rfl)) ?_)
 refine cg rfl rfl (Ev.dO (.g rfl id) (.c rfl)) ?_;refine co (Ev.pkA (.t rfl) rfl) ?_;refine mv rfl (cg rfl rfl (Ev.move (.t rfl)) ?_);refine cg rfl rfl (Ev.dO (.g rfl id) (.c rfl)) ?_;refine co (Ev.pkA (.t rfl) rfl) ?_;refine mv rfl (cg rfl rfl (Ev.move (.t rfl)) ?_);refine cg rfl rfl (Ev.jr (.g rfl id) (.c (v:=U64 1) rfl)) ?_;refine co (Ev.pkA (.t rfl) rfl) ?_;refine mv rfl (cg rfl rfl (Ev.move (.t rfl)) ?_);refine cg rfl rfl (Ev.jr (.g rfl id) (.c (v:=U64 0) rfl)) ?_;refine co (Ev.pkA (.t rfl) rfl) ?_;refine mv rfl (cg rfl rfl (Ev.move (.t rfl)) ?_);refine cg rfl rfl (Ev.dO (.g rfl id) (.c rfl)) ?_;refine co (Ev.pkA (.t rfl) rfl) ?_;refine mv rfl (cg rfl rfl (Ev.move (.t rfl)) ?_);refine co (Ev.pkA (.t rfl) rfl) ?_;refine mv rfl (cg rfl rfl (fA 0 (.t rfl)) ?_);refine cg rfl rfl (Ev.ldv ty3 (.g rfl id) aD.dM) ?_;refine cg rfl rfl (Ev.dO (.g rfl id) (.c rfl)) ?_;refine co (Ev.pkA (.t rfl) rfl) ?_;refine mv rfl (cg rfl rfl (Ev.move (.t rfl)) ?_);refine cg rfl rfl (Ev.dO (.g rfl id) (.c rfl)) ?_;refine co (Ev.pkA (.t rfl) rfl) ?_;refine mv rfl (cg rfl rfl (Ev.move (.t rfl)) ?_);refine co (Ev.pkA (.t rfl) rfl) ?_;refine mv rfl (cg rfl rfl (Ev.move (.t rfl)) ?_);refine cg rfl rfl (Ev.not (.g rfl id)) ?_;refine co (Ev.pkA (.t rfl) rfl) ?_;refine mv rfl (cg rfl rfl (Ev.move (.t rfl)) ?_);refine cg rfl rfl (Ev.dO (.g rfl id) (.c rfl)) ?_;exact s57
end Go.Proofs.YtljifjflnakmoaaGreat
namespace Go.Proofs.YtljifjflnakmoaaGreat
open Go Go.Gx Go.Proofs.YtljifjflnakmoaaGreat.Tri Go.Proofs.YtljifjflnakmoaaGreat.Oc
structure aL where
 part:UInt64
 new:Bool
 dropped:Bool
def aL.to:(UInt64 × (Bool × Bool))→aL:=fun x=>⟨x.1,x.2.1,x.2.2⟩
def aL.of:aL→(UInt64 × (Bool × Bool)):=fun x=>(x.part,x.new,x.dropped)
def bz:Enc aL:=gI (bh fR (bh bE bE)) aL.to aL.of
def aL.l_part:ah bz fR 0:=lI aL.to aL.of l1
@[simp] theorem aL.set_part (x:aL) (y:UInt64):aL.l_part.set x y = { x with part:=y }:=rfl
def aL.oE:ah bz bE 1:=lI aL.to aL.of (l2 l1)
@[simp] theorem aL.get_new (x:aL):aL.oE.get x = x.new:=rfl
@[simp] theorem aL.set_new (x:aL) (y:Bool):aL.oE.set x y = { x with new:=y }:=rfl
def aL.ez:ah bz bE 2:=lI aL.to aL.of (l2 (l2 (ah.id _)))
@[simp] theorem aL.get_dropped (x:aL):aL.ez.get x = x.dropped:=rfl
@[simp] theorem aL.set_dropped (x:aL) (y:Bool):aL.ez.set x y = { x with dropped:=y }:=rfl
open Go.Conc Go.ConcN
def g1 (γs:Nat→List Nat) (i:Nat):Nat:=(γs i).getD 1 0
def g2 (γs:Nat→List Nat) (i:Nat):Nat:=(γs i).getD 2 0
theorem iY {f g:Nat→Nat}:∀ {B:Nat},(∀ k,k < B→f k = g k)→du f B = du g B
 | 0,_=>rfl
 | B + 1,h=>by simp only [du]; rw [iY (B:=B) fun k hk=>h k (by omega),h B (by omega)]
theorem sY {f g:Nat→Nat} {i a:Nat} (hi:g i = a + f i) (h:∀ k,k ≠ i→g k = f k):∀ {B:Nat},i < B→du g B = du f B + a
 | 0,hB=>by omega
 | B + 1,hB=>by
   simp only [du]
   by_cases e:i = B
   ·subst e; rw [iY (f:=g) (g:=f) fun k hk=>h k (by omega),hi]; omega
   ·rw [sY hi h (by omega),h B (by omega)]; omega
theorem lC {f:Nat→Nat} {B:Nat} (h:∀ k,B ≤ k→f k = 0):∀ d:Nat,du f (B + d) = du f B
 | 0=>rfl
 | d + 1=>by
   show du f (B + d) + f (B + d) = _;rw [lC h d,h _ (by omega)]; rfl
def rJ (ss:List au) (σ:Nat) (γs:Nat→List Nat):Prop:=∃ n:UInt64,σ = n.toNat ∧ WfW ss n ∧ (∀ i,∃ (m:UInt64) (c d:Nat),γs i = [m.toNat,c,d] ∧ WfW ss m ∧ LeW ss m n) ∧
 ∃ B,(∀ i,B ≤ i→g1 γs i = 0 ∧ g2 γs i = 0) ∧ du (g1 γs) B = kU ss n ∧ du (g2 γs) B ≤ mstd ss n
def rTr (ss:List au) (γ:List Nat) (σ:Nat) (γ':List Nat) (σ':Nat):Prop:=∃ lw c d,γ = [lw,c,d] ∧ ((σ' = σ ∧ γ' = [σ,c,d]) ∨ ∃ (n:UInt64) (dr:Bool),σ = n.toNat ∧ (aB n).end_.toNat = 0 ∧ σ' = (nxW ss n dr).toNat ∧ γ' = [σ',c + 1,d + dr.toNat])
theorem rkeep {ss:List au} (hg:fE ss) {σ:Nat} {γs:Nat→List Nat} {i:Nat} {γ':List Nat} {σ':Nat} (hJ:rJ ss σ γs) (hT:rTr ss (γs i) σ γ' σ'):rJ ss σ' (upd γs i γ'):=by
 obtain ⟨n,rfl,hw,ha,B,hB,h1,h2⟩:=hJ;obtain ⟨lw,c,d,hi,hT⟩:=hT;have pad:∀ {f:Nat→Nat},(∀ k,B ≤ k→f k = 0)→du f (B + (i + 1)) = du f B:=fun hf=>lC hf _
 have u1:∀ k,k ≠ i→g1 (upd γs i γ') k = g1 γs k:=fun k hk=>by unfold g1; rw [upd_ne γs _ hk]
 have u2:∀ k,k ≠ i→g2 (upd γs i γ') k = g2 γs k:=fun k hk=>by unfold g2; rw [upd_ne γs _ hk]
 have c1:g1 γs i = c:=by unfold g1; rw [hi]; rfl
 have c2:g2 γs i = d:=by unfold g2; rw [hi]; rfl
 rcases hT with ⟨rfl,rfl⟩ | ⟨n',dr,hn,h0,rfl,rfl⟩
 ·have v1:∀ k,g1 (upd γs i [n.toNat,c,d]) k = g1 γs k:=fun k=>by
   by_cases e:k = i
   ·subst e; rw [c1]; unfold g1; rw [upd_same]; rfl
   ·exact u1 k e
  have v2:∀ k,g2 (upd γs i [n.toNat,c,d]) k = g2 γs k:=fun k=>by
   by_cases e:k = i
   ·subst e; rw [c2]; unfold g2; rw [upd_same]; rfl
   ·exact u2 k e
  refine ⟨n,rfl,hw,fun k=>?_,B,fun k hk=>by rw [v1,v2]; exact hB k hk,by rw [iY fun k _=>v1 k]; exact h1,by rw [iY fun k _=>v2 k]; exact h2⟩
  by_cases e:k = i
  ·subst e; rw [upd_same]; exact ⟨n,c,d,rfl,hw,.inl rfl⟩
  ·rw [upd_ne γs _ e]; exact ha k
 ·obtain rfl:n = n':=UInt64.toNat_inj.1 hn;obtain ⟨k1,k2,k3,k4⟩:=nx_ok hg hw h0 dr;have hl:=LeW.next hg hw h0 dr;have w1:g1 (upd γs i [(nxW ss n dr).toNat,c + 1,d + dr.toNat]) i = 1 + g1 γs i:=by rw [c1]; unfold g1; rw [upd_same]; exact Nat.add_comm c 1
  have w2:g2 (upd γs i [(nxW ss n dr).toNat,c + 1,d + dr.toNat]) i = dr.toNat + g2 γs i:=by rw [c2]; unfold g2; rw [upd_same]; exact Nat.add_comm d _
  refine ⟨nxW ss n dr,rfl,k1,fun k=>?_,B + (i + 1),fun k hk=>?_,?_,?_⟩
  ·by_cases e:k = i
   ·subst e; rw [upd_same]; exact ⟨_,_,_,rfl,k1,.inl rfl⟩
   ·rw [upd_ne γs _ e];obtain ⟨m,c',d',q1,q2,q3⟩:=ha k;exact ⟨m,c',d',q1,q2,q3.trans hl⟩
  ·rw [u1 k (by omega),u2 k (by omega)]; exact hB k (by omega)
  ·rw [sY w1 u1 (by omega),pad fun k hk=>(hB k hk).1,h1,k2]
  ·rw [sY w2 u2 (by omega),pad fun k hk=>(hB k hk).2]; omega
theorem rJ0 {ss:List au} (hg:fE ss) (hp:0 < ss.length):rJ ss 0 (fun _=>[0,0,0]):=by
 obtain ⟨h1,h2⟩:=WfW.zero hg hp;exact ⟨0,rfl,h1,fun _=>⟨0,0,0,rfl,h1,.inl rfl⟩,0,fun _ _=>⟨rfl,rfl⟩,h2.symm,Nat.zero_le _⟩
abbrev rollD (C2:Nat) (x:RX) (ss:List au) (hg:fE ss) (mF:Nat→World→Prop) (hp:∀ i u u',mF i u→bo u u'→mF i u'):Duo where
  C2:=C2
  R:=x.b
  ty2:=95
  tyR:=72
  fv2:=ai.v
  c0:=[.pointer (some ⟨x.p.b,0,none⟩),.pointer (some ⟨x.q.b,0,none⟩),x.sv.v]
  two:=(by show 2 ≤ 3; omega)
  ini:=[0,0,0]
  J:=rJ ss
  Tr:=rTr ss
  cn:=fun hJ hT=>rkeep hg hJ hT
  mF:=mF
  post:=hp _ _ _
structure qY [Duo] (x:RX) (ss:List au):Prop where
 R:Duo.R = x.b
 c0:Duo.c0 = [.pointer (some ⟨x.p.b,0,none⟩),.pointer (some ⟨x.q.b,0,none⟩),x.sv.v]
 J:∀ {σ γs},Duo.J σ γs→rJ ss σ γs
 Tr:∀ {γ σ γ' σ'},rTr ss γ σ γ' σ'→Duo.Tr γ σ γ' σ'
abbrev WS:=UInt64 × Nat × Nat
def gam (s:WS):List Nat:=[s.1.toNat,s.2.1,s.2.2]
def sH [Duo] (x:RX) (ss:List au) (hg:fE ss) (h:qY x ss) (i:Nat):wo (XW Tryz.prog i) 0 WS (fun s=>RoR (gam s)) x.b (.pointer (some ⟨x.p.b,0,none⟩)) (.pointer (some ⟨x.q.b,0,none⟩)) x.sv.v ss where
 n:=fun s=>s.1
 μ:=fun s=>roofW ss - kU ss s.1
 R:=fun s t=>t.2 = s.2 ∧ LeW ss s.1 t.1
 Ok:=fun t=>WfW ss t.1
 Hit:=fun s dr t=>t = (nxW ss s.1 dr,s.2.1 + 1,s.2.2 + dr.toNat)
 r0:=fun s=>⟨rfl,.inl rfl⟩
 tr:=fun h h'=>⟨h'.1.trans h.1,h.2.trans h'.2⟩
 mu:=fun h=>by have:=h.2.cnt; omega
 st:=fun t ht=>ht.lt
 fld:=fun s w hs=>by
  have h0:w.heap[x.b]? = some (roB (gam s)):=h.R ▸ hs;have hl:Duo.c0.length = 3:=by rw [h.c0]; rfl
  exact ⟨.inr ⟨_,h0,jM.2 ⟨by omega,by rw [h.c0]; rfl⟩⟩,.inr ⟨_,h0,jM.2 ⟨by omega,by rw [h.c0]; rfl⟩⟩,.inr ⟨_,h0,jM.2 ⟨by omega,by rw [h.c0]; rfl⟩⟩⟩
 load:=fun s w hs=>by
  have e:(⟨x.b,3,none⟩:Addr) = wdA:=by unfold wdA; rw [h.R,h.c0]; rfl
  rw [e];refine (wload_ok (see:=fun σ=>[σ,s.2.1,s.2.2]) hs fun γs σ hi hJ=>h.Tr ⟨_,_,_,rfl,.inl ⟨rfl,rfl⟩⟩).mono (fun _ h=>h) ?_;rintro e w' ⟨⟨σ,γs⟩,⟨hi,hJ⟩,he,hk,ha,hf⟩;obtain ⟨n,hn,hw,hall,_⟩:=h.J hJ;simp only at hn;subst hn;obtain ⟨m,c,d,k1,k2,k3⟩:=hall i;have k4:[s.1.toNat,s.2.1,s.2.2] = [m.toNat,c,d]:=(show γs i = gam s from hi).symm.trans k1;simp only [List.cons.injEq,and_true] at k4;obtain rfl:s.1 = m:=UInt64.toNat_inj.1 k4.1;exact ⟨(n,s.2),⟨⟨rfl,k3⟩,hw⟩,he,hk,ha,hf⟩
 cas:=fun s dr w hs hok h1 h2=>by
  have e:(⟨x.b,3,none⟩:Addr) = wdA:=by unfold wdA; rw [h.R,h.c0]; rfl
  rw [e];have h0:=end_0 hok h1 h2;refine (wcas_ok (old:=s.1.toNat) (new:=(nxW ss s.1 dr).toNat) (see:=fun σ=>[σ,s.2.1,s.2.2]) [(nxW ss s.1 dr).toNat,s.2.1 + 1,s.2.2 + dr.toNat] hs (fun γs σ hi hJ=>h.Tr ⟨_,_,_,rfl,.inl ⟨rfl,rfl⟩⟩) fun γs hi hJ=>h.Tr ⟨_,_,_,rfl,.inr ⟨s.1,dr,rfl,h0,rfl,rfl⟩⟩).mono (fun _ h=>h) ?_;rintro e w' ⟨⟨b,σ,γs⟩,⟨hi,hJ,hb⟩,he,hk,ha,hf⟩;simp only at hb he ha hf;obtain ⟨n,hn,hw,hall,_⟩:=h.J hJ;simp only at hn;subst hn;obtain ⟨m,c,d,k1,k2,k3⟩:=hall i;have k4:[s.1.toNat,s.2.1,s.2.2] = [m.toNat,c,d]:=(show γs i = gam s from hi).symm.trans k1;simp only [List.cons.injEq,and_true] at k4;obtain rfl:s.1 = m:=UInt64.toNat_inj.1 k4.1
  by_cases hx:n.toNat = s.1.toNat
  ·have hb':b = true:=by rw [hb]; exact decide_eq_true hx
   subst hb';exact ⟨(true,(nxW ss s.1 dr,s.2.1 + 1,s.2.2 + dr.toNat)),⟨fun _=>rfl,fun e=>by cases e⟩,he,hk,ha,hf⟩
  ·have hb':b = false:=by rw [hb]; exact decide_eq_false hx
   subst hb';refine ⟨(false,(n,s.2)),⟨fun e=>(by cases e),fun _=>⟨⟨rfl,k3⟩,?_⟩⟩,he,hk,ha,hf⟩;have k5:kU ss s.1 < kU ss n:=by
    rcases k3 with k3 | ⟨_,k3,_⟩
    ·exact absurd (congrArg UInt64.toNat k3).symm hx
    ·exact k3
   have k6:=WfW.roof hw;show roofW ss - kU ss n < roofW ss - kU ss s.1;omega
end Go.Proofs.YtljifjflnakmoaaGreat
namespace Go.Proofs.YtljifjflnakmoaaGreat.Oc
open Go Go.Gx Go.Proofs.YtljifjflnakmoaaGreat.Tri
theorem mk1_8 (l:Int) (x:UInt8) (h:8 ≤ l):mk1 l x = x:=by unfold mk1; rw [if_neg (by omega),if_neg (by omega)]
theorem mk1_0 (l:Int) (x:UInt8) (h:l ≤ 0):mk1 l x = 0:=by unfold mk1; rw [if_pos h]
theorem o7 (a:aG):cG a = 0 ↔ (a.v6 = false→∀ i:Nat,4 ≤ i→∀ hi:i < 16,a.b[i] = 0):=by
 have e1:cG a = 0 ↔ fI (wd a) a.b = a.b:=by unfold cG; split <;> simp_all
 rw [e1];constructor
 ·intro h hv i h4 hi;have h2:=congrArg (fun v:Vector UInt8 16=>v[i]) h;simp only [fI,Vector.getElem_ofFn] at h2;have hw:wd a = 32:=by unfold wd; rw [hv]; rfl
  rw [← h2,hw];exact mk1_0 _ _ (by show (32:Int) - 8 * (i:Int) ≤ 0; omega)
 ·intro h;apply Vector.ext;intro i hi;simp only [fI,Vector.getElem_ofFn,Fin.getElem_fin];cases hv:a.v6 with
  | true =>
    have hw:wd a = 128:=by unfold wd; rw [hv]; rfl
    rw [hw];exact mk1_8 _ _ (by omega)
  | false =>
    have hw:wd a = 32:=by unfold wd; rw [hv]; rfl
    rw [hw]
    by_cases h4:4 ≤ i
    ·rw [h hv i h4 hi];exact mk1_0 _ _ (by omega)
    ·exact mk1_8 _ _ (by omega)
theorem uq (v:Vector UInt8 16):cG ⟨true,v⟩ = 0:=by
 rw [o7];intro h;cases h
def zeroV (v:Vector UInt8 16) (k:Int):Vector UInt8 16:=Vector.ofFn fun i=>if 4 ≤ (i.val:Int) ∧ (i.val:Int) < k then 0 else v[i]
theorem sF (v:Vector UInt8 16):zeroV v 4 = v:=by
 apply Vector.ext;intro i hi;have:¬ (4 ≤ (i:Int) ∧ (i:Int) < 4):=by omega
 simp only [zeroV,Vector.getElem_ofFn,if_neg this,Fin.getElem_fin]
theorem sD (v:Vector UInt8 16) (k:Int) (h0:4 ≤ k) (h1:k < 16) (hk:k.toNat < 16):(zeroV v k).set k.toNat 0 hk = zeroV v (k + 1):=by
 apply Vector.ext;intro i hi;rw [Vector.getElem_set]
 by_cases e:k.toNat = i
 ·subst e;have e2:4 ≤ ((k.toNat:Nat):Int) ∧ ((k.toNat:Nat):Int) < k + 1:=by omega
  simp only [zeroV,Vector.getElem_ofFn,if_pos e2,if_true]
 ·rw [if_neg e]
  by_cases e4:4 ≤ (i:Int) ∧ (i:Int) < k
  ·have e5:4 ≤ (i:Int) ∧ (i:Int) < k + 1:=by omega
   simp only [zeroV,Vector.getElem_ofFn,if_pos e4,if_pos e5]
  ·have e5:¬ (4 ≤ (i:Int) ∧ (i:Int) < k + 1):=by omega
   simp only [zeroV,Vector.getElem_ofFn,if_neg e4,if_neg e5]
def kL (h:aa):aa:={ h with dst:=⟨h.src.v6,h.dst.b⟩ }
def nB (h:aa):aa:={ h with src:=⟨h.src.v6,bif h.src.v6 then h.src.b else zeroV h.src.b 16⟩,dst:=⟨h.dst.v6,bif h.src.v6 then h.dst.b else zeroV h.dst.b 16⟩,id:=bif h.src.v6 then h.id else h.id % 65536 }
def qJ (h:aa):aa:={ h with id:=h.id % 1048576 }
def tX (h:aa):aa:={ h with flags:=if h.aC = 6 then h.flags else 0,seq:=if h.aC = 6 then h.seq else 0 }
def fitG (h:aa):aa:={ h with bB:=if cI h.aC = 0 then 0 else h.bB,bC:=if cI h.aC = 0 then 0 else h.bC }
def eU (h:aa):aa:=fitG (tX (qJ (nB (kL h))))
def mc (h:aa) (d:List UInt8):List UInt8:=d.take (2048 - bD h - cI h.aC).toNat
theorem fitB_six (h:aa) (hv:h.src.v6 = true):nB (kL h) = kL h:=by
 obtain ⟨⟨v,b⟩,⟨v2,b2⟩⟩:=h;have hv:v = true:=hv;subst hv
 rfl
theorem fitB_four (h:aa) (hv:h.src.v6 = false):nB (kL h) = { (kL h) with src:=⟨h.src.v6,zeroV h.src.b 16⟩,dst:=⟨h.src.v6,zeroV h.dst.b 16⟩,id:=h.id % 65536 }:=by
 obtain ⟨⟨v,b⟩,⟨v2,b2⟩⟩:=h;have hv:v = false:=hv;subst hv
 rfl
theorem jH (v:Vector UInt8 16):cG ⟨false,zeroV v 16⟩ = 0:=by
 rw [o7];intro _ i h4 hi;have:4 ≤ (i:Int) ∧ (i:Int) < 16:=by omega
 simp only [zeroV,Vector.getElem_ofFn,if_pos this]
theorem qI (h:aa) (d:List UInt8):dH (eU h) (mc h d).length = 0:=by
 have hfc:=j4 h;have hmc:=eX h.aC;have hf:bD (eU h) = bD h:=rfl;have hp:(eU h).aC = h.aC:=rfl;have hA:¬ (cG (eU h).src ≠ 0 ∨ cG (eU h).dst ≠ 0 ∨ (eU h).src.v6 ≠ (eU h).dst.v6 ∨ (bif (eU h).src.v6 then 1048575 else 65535) < (eU h).id):=by
  have e1:(eU h).src = ⟨h.src.v6,bif h.src.v6 then h.src.b else zeroV h.src.b 16⟩:=rfl;have e2:(eU h).dst = ⟨h.src.v6,bif h.src.v6 then h.dst.b else zeroV h.dst.b 16⟩:=rfl;have e3:(eU h).id = (bif h.src.v6 then h.id else h.id % 65536) % 1048576:=rfl;rw [e1,e2,e3];cases h.src.v6 with
  | true =>
    rintro (k | k | k | k)
    ·exact k (uq _)
    ·exact k (uq _)
    ·exact k rfl
    ·have k2:(1048575:UInt32) < h.id % 1048576:=k;rw [UInt32.lt_iff_toNat_lt,UInt32.toNat_mod] at k2;have e:(1048575:UInt32).toNat = 1048575:=rfl;have e2:(1048576:UInt32).toNat = 1048576:=rfl;rw [e,e2] at k2;omega
  | false =>
    rintro (k | k | k | k)
    ·exact k (jH _)
    ·exact k (jH _)
    ·exact k rfl
    ·have k2:(65535:UInt32) < h.id % 65536 % 1048576:=k;rw [UInt32.lt_iff_toNat_lt,UInt32.toNat_mod,UInt32.toNat_mod] at k2;have e:(65535:UInt32).toNat = 65535:=rfl;have e2:(1048576:UInt32).toNat = 1048576:=rfl;have e3:(65536:UInt32).toNat = 65536:=rfl;rw [e,e2,e3] at k2;omega
 have hB:¬ (cI (eU h).aC = 0 ∧ ((eU h).bB ≠ 0 ∨ (eU h).bC ≠ 0) ∨ (eU h).aC ≠ 6 ∧ ((eU h).flags ≠ 0 ∨ (eU h).seq ≠ 0)):=by
  have e1:(eU h).bB = if cI h.aC = 0 then 0 else h.bB:=rfl
  have e2:(eU h).bC = if cI h.aC = 0 then 0 else h.bC:=rfl
  have e3:(eU h).flags = if h.aC = 6 then h.flags else 0:=rfl
  have e4:(eU h).seq = if h.aC = 6 then h.seq else 0:=rfl
  rw [e1,e2,e3,e4,hp];rintro (⟨k1,k2⟩ | ⟨k1,k2⟩)
  ·rw [if_pos k1,if_pos k1] at k2;exact k2.elim (fun k=>k rfl) (fun k=>k rfl)
  ·rw [if_neg k1,if_neg k1] at k2;exact k2.elim (fun k=>k rfl) (fun k=>k rfl)
 unfold dH;rw [if_neg hA,if_neg hB,if_neg];rw [hf,hp];unfold mc;rw [List.length_take];omega
theorem rfit_ok (h:aa) (d:List UInt8) (w:World) (hd:aO u8E w h.data.v d):Gx.Calls Tryz.prog 22 #[aA.val h] w (gL w (fun _:OV=>True) (fun o=>aA.val (wD (eU h) o)) (fun o=>[aT o.v u8E (mc h d) 5])):=by
 have hfc:=j4 h;have hmc:=eX h.aC;have hdl:=hd.le;have hq1:bD ((ah.id aA).get (eU h)) = bD h:=rfl;have hq2:cI (aa.bS.get (eU h)) = cI h.aC:=rfl;refine en0 75 Tryz.func22 (fun _ _=>?_);refine sg (cons (box (E:=aA) (.t rfl) (fun b1=>?_)));refine cons (alloc z85 (fun b2=>?_));refine nP (sg (cf 0 rfl ?_));refine cf 0 rfl ?_;refine co (Ev.ldv ty4 (.t rfl) (ah.comp aa.eF aG.jP)) ?_;refine cf 17 rfl ?_;refine cf 0 rfl ?_;refine cons (stv ty4 (ah.comp aa.fx aG.jP) (.t rfl) (.t rfl) ?_);refine nP (cut (X:=aa) (fun x=>(x = nB (kL h))) (fun x=>[dz,(1,true,pvb b1),(2,true,pvb b2)]) (fun x=>[Var b2 aA aA.zero 85,Var b1 aA x 85]) ?_ (fun x hx=>?_))
 ·refine sg ?_;show Sat _ _ _ [Var b2 aA aA.zero 85,Var b1 aA (kL h) 85];refine cf 0 rfl ?_;refine cf 0 rfl ?_;refine co (Ev.ldv ty4 (.t rfl) (ah.comp aa.eF aG.jP)) ?_;refine co (Ev.not (.t rfl)) ?_;refine nP ?_;refine cnd rfl (fun h0=>?_) (fun h0=>?_)
  ·have hv:h.src.v6 = false:=show (kL h).src.v6 = false by simpa using h0
   refine seq (sg (ac (I 4) ?_));refine nP (block (lp (X:=Int × aa) (fun x=>(4 ≤ x.1 ∧ x.1 ≤ 16) ∧ (x.2 = { (kL h) with src:=⟨h.src.v6,zeroV h.src.b x.1⟩,dst:=⟨h.src.v6,zeroV h.dst.b x.1⟩ })) (fun x=>[dz,(1,true,pvb b1),(2,true,pvb b2),(3,true,I x.1)]) (fun x=>[Var b2 aA aA.zero 85,Var b1 aA x.2 85]) (fun x=>(16 - x.1).toNat) (4,_) ⟨?_,?_⟩ (fun x hx=>?_)))
   ·omega
   ·rw [sF,sF]; rfl
   obtain ⟨k,y⟩:=x;dsimp only at hx;obtain ⟨hk,hx⟩:=hx;subst hx;refine seq (sg (mv rfl (co (Ev.cj (.t rfl) (.c rfl)) ?_)));refine nP ?_;refine cnd rfl (fun hlt=>?_) (fun hge=>?_)
   ·refine skip (pN (seq (block (sg ?_))));have hk16:k.toNat < 16:=by omega
    refine mv rfl (cf 0 rfl ?_);refine cf 1 rfl ?_;refine co (Ev.de Y79 ty5 (.t rfl) (.t rfl) (fun _=>zo)) ?_;refine cons (stv ty5 (ah.comp (ah.comp aa.eF aG.l_b) (jd (n:=16) u8E _ (by omega))) (.t rfl) (.c (v:=U8 0) rfl) ?_);refine nP (region (mv rfl (cf 17 rfl ?_)));refine cf 1 rfl ?_;refine co (Ev.de Y79 ty5 (.t rfl) (.t rfl) (fun _=>zo)) ?_;refine cons (stv ty5 (ah.comp (ah.comp aa.fx aG.l_b) (jd (n:=16) u8E _ (by omega))) (.t rfl) (.c (v:=U8 0) rfl) ?_);refine nil (bN (pN (region (mv rfl (co (Ev.bL (.t rfl) (.c rfl) (fun _=>zo)) ?_)))));refine asn rfl (nP (nx (k + 1,_) ⟨?_,?_⟩ ?_))
    ·try dsimp only
     omega
    ·try dsimp only
     rw [← sD h.src.b k hk.1 (by omega) hk16,← sD h.dst.b k hk.1 (by omega) hk16];simp [ah.comp,jd]
    ·try dsimp only
     omega
   ·have hk2:k = 16:=by omega
    subst hk2;refine exit (pX (pX (bX (pN (region (cf 39 rfl ?_))))));refine co (Ev.ldv sP (.t rfl) aa.tN) ?_;refine co (Ev.rem_u32 (.t rfl) (.c (v:=U32 65536) rfl) (fun _=>by decide)) ?_;refine cf 39 rfl ?_;refine cons (stv sP aa.tN (.t rfl) (.t rfl) ?_);refine nP (mt (_) ?_)
    ·exact s53
  ·refine skip (pN (mt (_) ?_))
   ·exact s53
 obtain ⟨x,rfl⟩:∃ y,y = x:=⟨x,rfl⟩;have hx:x = nB (kL h):=hx;clear hx;subst hx;refine sg (cf 39 rfl ?_);refine co (Ev.ldv sP (.t rfl) aa.tN) ?_;refine co (Ev.rem_u32 (.t rfl) (.c (v:=U32 1048576) rfl) (fun _=>by decide)) ?_;refine cf 39 rfl ?_;refine cons (stv sP aa.tN (.t rfl) (.t rfl) ?_);refine nP (cut (X:=aa) (fun x=>(x = tX (qJ (nB (kL h))))) (fun x=>[dz,(1,true,pvb b1),(2,true,pvb b2)]) (fun x=>[Var b2 aA aA.zero 85,Var b1 aA x 85]) ?_ (fun x hx=>?_))
 ·refine sg ?_;show Sat _ _ _ [Var b2 aA aA.zero 85,Var b1 aA (qJ (nB (kL h))) 85];refine cf 34 rfl ?_;refine co (Ev.ldv ty5 (.t rfl) aa.bS) ?_;refine co (Ev.lu (.t rfl) (.c (v:=U8 6) rfl)) ?_;refine nP ?_;refine cnd rfl (fun h2=>?_) (fun h2=>?_)
  ·refine sg (cf 40 rfl ?_);refine cons (stv ty5 aa.nV (.t rfl) (.c (v:=U8 0) rfl) ?_);refine nP (region (cf 41 rfl ?_));refine cons (stv sP aa.vN (.t rfl) (.c (v:=U32 0) rfl) ?_);refine nP (mt (_) ?_)
   ·exact s26
  ·refine skip (pN (mt (_) ?_))
   ·exact s26
 obtain ⟨x,rfl⟩:∃ y,y = x:=⟨x,rfl⟩;have hx:x = tX (qJ (nB (kL h))):=hx;clear hx;subst hx;refine cut (X:=aa) (fun x=>(x = eU h)) (fun x=>[dz,(1,true,pvb b1),(2,true,pvb b2)]) (fun x=>[Var b2 aA aA.zero 85,Var b1 aA x 85]) ?_ (fun x hx=>?_)
 ·refine sg (cf 34 rfl ?_);refine co (Ev.ldv ty5 (.t rfl) aa.bS) ?_;refine cons (aQ eN (o1 rfl) (fun w I=>tc _ w) ?_);refine co (Ev.dO (.t rfl) (.c rfl)) ?_;refine nP ?_;refine cnd rfl (fun h3=>?_) (fun h3=>?_)
  ·refine sg (cf 35 rfl ?_);refine cons (stv iW aa.cS (.t rfl) (.c (v:=U16 0) rfl) ?_);refine nP (region (cf 36 rfl ?_));refine cons (stv iW aa.cT (.t rfl) (.c (v:=U16 0) rfl) ?_);refine nP (mt (_) ?_)
   ·exact s25
  ·refine skip (pN (mt (_) ?_))
   ·exact s25
 obtain ⟨x,rfl⟩:∃ y,y = x:=⟨x,rfl⟩;have hx:x = eU h:=hx;clear hx;subst hx;refine sg (ac (.slice none 0 0) ?_);refine dD u8E 5 ?_;refine nP (seq (sg (ac (I 0) ?_)));refine nP (block (lp (X:=Int × OV × (List UInt8)) (fun x=>(0 ≤ x.1 ∧ x.1 ≤ d.length ∧ x.1 ≤ 2048 - bD h - cI h.aC) ∧ (x.2.2 = d.take x.1.toNat)) (fun x=>[dz,(1,true,pvb b1),(2,true,pvb b2),(4,true,x.2.1.v),(5,true,I x.1)]) (fun x=>[aT x.2.1.v u8E x.2.2 5,Var b2 aA aA.zero 85,Var b1 aA (eU h) 85]) (fun x=>(d.length - x.1).toNat) (0,ai,[]) ⟨?_,?_⟩ (fun x hx=>?_)))
 ·omega
 ·rfl
 obtain ⟨i,o,xs⟩:=x;dsimp only at hx;obtain ⟨hi,hxs⟩:=hx;refine seq (seq (dA zk ?_));refine tm 0 rfl rfl ?_;refine tk 1 rfl (fA 42 (.t rfl)) ?_;refine tk 2 rfl (Ev.ldv oe (.t rfl) aa.ly) ?_;refine tk 3 rfl (Ev.len Y48 (.t rfl) zf) ?_;refine tk 4 rfl (Ev.cj (.t rfl) (.t rfl)) ?_;refine tm 5 rfl rfl ?_;refine tkg 6 rfl rfl rfl (Ev.ldv cJ (.t rfl) (ah.id _)) ?_;refine tkg 8 rfl rfl rfl (fA 34 (.t rfl)) ?_;refine tkg 9 rfl rfl rfl (Ev.ldv ty5 (.g rfl id) aa.bS) ?_;refine tkg 12 rfl rfl rfl (Ev.move (.t rfl)) ?_;refine al1 7 rfl ((iM rfl rfl eN (.cons (.g rfl id) .nil) (fun hg w I=>rfront_ok _ w) ?_));refine hdn (al1 10 rfl ((iM rfl rfl eN (.cons (.g rfl id) .nil) (fun hg w I=>tc _ w) ?_)));refine hdn (tkg 11 rfl rfl rfl (Ev.bL (.g rfl id) (.g rfl id) (fun _=>by first | omega | (rename_i hg; simp at hg; omega))) ?_);refine tkg 13 rfl rfl rfl (Ev.bL (.g rfl id) (.g rfl id) (fun _=>by first | omega | (rename_i hg; simp at hg; omega))) ?_;refine tkg 14 rfl rfl rfl (Ev.cj (.g rfl id) (.c rfl)) ?_;refine tk 15 rfl (Ev.pkA (.t rfl) rfl) ?_;refine ovr (pN ?_);refine cnd rfl (fun h4=>?_) (fun h4=>?_)
 ·have hxl:xs.length = i.toNat:=by rw [hxs]; simp; omega
  have hgo:i < d.length ∧ bD h + cI h.aC + i < 2048:=h4;refine skip (pN (seq (block (region (mv rfl (cf 42 rfl ?_))))));refine co (Ev.ldv oe (.t rfl) aa.ly) ?_;refine mv rfl (co (Ev.indexAddr Y48 ty5 (.t rfl) (.t rfl) zf (fun _=>zo)) ?_);refine co (Ev.bV ty5 (.t rfl) zf (fun _=>zo)) ?_;refine cons (buildSlice (E:=u8E) Y48 ty5 z5 (.cons (.t rfl) .nil) rfl rfl (fun v3=>?_));refine cons (apz (E:=u8E) Y48 ty5 zb5 zs5 (.t rfl) (.t rfl) (fun v4=>?_));refine asn rfl (nil (bN (pN (region (mv rfl (co (Ev.bL (.t rfl) (.c rfl) (fun _=>zo)) ?_))))));refine asn rfl (nP (nx (i + 1,_,_) ⟨?_,?_⟩ ?_))
  ·try dsimp only
   omega
  ·try dsimp only
   rw [hxs,iX d i hi.1 (by omega) 0]; rfl
  ·try dsimp only
   omega
 ·have hstop:¬ (i < d.length ∧ bD h + cI h.aC + i < 2048):=fun hc=>by
   rcases h4 with k | k
   ·exact k hc.1
   ·exact k hc.2
  refine exit (pX (pX (bX (pN (sg (mv rfl (cf 42 rfl ?_)))))));refine cons (stv oe aa.ly (.t rfl) (.t rfl) ?_);refine nP (sg (co (Ev.ldv cJ (.t rfl) (ah.id _)) ?_));refine cons (stv cJ (ah.id _) (.t rfl) (.t rfl) ?_);refine nP (ret (done rfl (.cellP rfl cJ (br zm (ah.id _)) .nil) (fun w I=>?_)));have e:xs = mc h d:=by
   rw [hxs];unfold mc
   by_cases hq:i < d.length
   ·congr 1
    omega
   ·rw [List.take_of_length_le (by omega),List.take_of_length_le (by omega)]
  rw [e] at I;exact ln o trivial rfl (List.cons_sublist_cons.2 (List.nil_sublist _)) w I
end Go.Proofs.YtljifjflnakmoaaGreat.Oc
namespace Go.Proofs.YtljifjflnakmoaaGreat.Oc
open Go Go.Gx Go.Proofs.YtljifjflnakmoaaGreat.Tri
theorem numB_two (x y:UInt8):kT [x,y] = x.toUInt64 * 256 + y.toUInt64:=by simp [kT]
theorem ql (b:List UInt8) (p:Nat) (h:p + 2 ≤ b.length):(b.take (p + 2)).drop p = [b.getD p 0,b.getD (p + 1) 0]:=by
 apply List.ext_getElem
 ·simp; omega
 ·intro i h1 h2;have:i = 0 ∨ i = 1:=by simp at h2; omega
  rcases this with rfl | rfl
  ·simp [List.getD,show p < b.length by omega]
  ·simp [List.getD,show p + 1 < b.length by omega]
theorem take_two (b:List UInt8) (p:Nat) (h:p + 2 ≤ b.length):b.take (p + 2) = b.take p ++ [b.getD p 0,b.getD (p + 1) 0]:=by
 rw [← ql b p h];have e:b.take p = (b.take (p + 2)).take p:=by rw [List.take_take]; congr 1; omega
 rw [e,List.take_append_drop]
theorem qp (b:List UInt8) (p:Int) (n:Nat) (h:0 ≤ p ∧ p + n ≤ b.length):(da b p n).1 = kT ((b.take (p + n).toNat).drop p.toNat):=by unfold da; rw [if_pos h]
theorem takeB_bytes (b:List UInt8) (p:Nat) (h:p + 2 ≤ b.length):(da b p 2).1 = kT [b.getD p 0,b.getD (p + 1) 0]:=by
 rw [qp b p 2 (by omega)];have e:(b.take ((p:Int) + (2:Nat)).toNat).drop (p:Int).toNat = (b.take (p + 2)).drop p:=by
  have e1:((p:Int) + (2:Nat)).toNat = p + 2:=by omega
  rw [e1,Int.toNat_natCast]
 rw [e,ql b p h]
theorem part_iff (x y:UInt8):(kT [x,y]).toUInt16 = 16384 ↔ x = 64 ∧ y = 0:=by
 rw [numB_two];have hx:=x.toNat_lt;have hy:=y.toNat_lt;constructor
 ·intro h;have h2:=congrArg UInt16.toNat h;simp at h2;constructor
  ·apply UInt8.toNat_inj.1;simp;omega
  ·apply UInt8.toNat_inj.1;simp;omega
 ·rintro ⟨rfl,rfl⟩
  decide
theorem numB_putB (s:UInt16):kT (dc 2 s.toUInt64) = s.toUInt64:=by
 have hs:=s.toNat_lt;rw [putB_two,numB_two];apply UInt64.toNat_inj.1;simp [bU];omega
theorem qz (v:UInt64):dc 2 v.toUInt16.toUInt64 = dc 2 v:=by
 have h:=v.toNat_lt;simp only [dc,List.cons.injEq,and_true];constructor
 ·apply UInt8.toNat_inj.1;simp [bU];omega
 ·apply UInt8.toNat_inj.1;simp [bU]
theorem vy (n:Int):dc 2 (UInt16.ofInt n).toUInt64 = dc 2 (UInt64.ofInt n):=by
 rw [← qz (UInt64.ofInt n)]
 congr 2
 apply UInt16.toNat_inj.1;simp [UInt16.ofInt,UInt64.ofInt];omega
def gY (h:aa) (n:Int) (s:UInt16):List UInt8:=[69,h.gA] ++ (dc 2 (UInt64.ofInt n) ++ (dc 2 h.id.toUInt64 ++ ([64,0,h.tTL,h.aC] ++ (dc 2 s.toUInt64 ++ (cW h.src ++ cW h.dst)))))
theorem part_eq (b:List UInt8) (h:20 ≤ b.length):(da b 6 2).1.toUInt16 = 16384 ↔ b.getD 6 0 = 64 ∧ b.getD 7 0 = 0:=by
 rw [qp b 6 2 (by omega)];have e:(b.take ((6:Int) + (2:Nat)).toNat).drop (Int.toNat 6) = [b.getD 6 0,b.getD 7 0]:=ql b 6 (by omega);rw [e];exact part_iff _ _
theorem first_eq (c:UInt8) (i:UInt32) (hi:i ≤ 1048575):(1610612736:UInt64) + iS c.toUInt64 20 + i.toUInt64 = (1610612736 ||| mU c.toUInt32 20 ||| i).toUInt64:=by
 have h1:=c.toNat_lt;have h2:i.toNat ≤ 1048575:=by simpa [UInt32.le_iff_toNat_le] using hi
 apply UInt64.toNat_inj.1;rw [UInt32.toNat_toUInt64,UInt32.toNat_or,UInt32.toNat_or,ra,UInt64.toNat_add,UInt64.toNat_add,jw];rw [UInt8.toNat_toUInt64,UInt8.toNat_toUInt32,UInt32.toNat_toUInt64];have e1:c.toNat * 2 ^ 20 % 4294967296 = c.toNat * 2 ^ 20:=by omega
 have e2:(1610612736:UInt32).toNat = 2 ^ 28 * 6:=by decide
 have e5:(1610612736:UInt64).toNat = 2 ^ 28 * 6:=by decide
 rw [e1,e2,e5,← Nat.two_pow_add_eq_or_of_lt (by omega:c.toNat * 2 ^ 20 < 2 ^ 28)];have e3:2 ^ 28 * 6 + c.toNat * 2 ^ 20 = 2 ^ 20 * (2 ^ 8 * 6 + c.toNat):=by omega
 have e4:c.toNat * 2 ^ 20 % 18446744073709551616 = c.toNat * 2 ^ 20:=by omega
 rw [e4,e3,← Nat.two_pow_add_eq_or_of_lt (by omega:i.toNat < 2 ^ 20)];omega
theorem numB_putB4 (s:UInt32):kT (dc 4 s.toUInt64) = s.toUInt64:=by
 have hs:=s.toNat_lt;have e:dc 4 s.toUInt64 = [(dR s.toUInt64 24).toUInt8,(dR s.toUInt64 16).toUInt8,(dR s.toUInt64 8).toUInt8,(dR s.toUInt64 0).toUInt8]:=rfl;rw [e];simp only [kT,List.foldl];apply UInt64.toNat_inj.1;simp [bU];omega
theorem lV (b:List UInt8) (p:Nat) (x:UInt16) (h:p + 2 ≤ b.length) (h0:b.getD p 0 = (dR x.toUInt64 8).toUInt8) (h1:b.getD (p + 1) 0 = (dR x.toUInt64 0).toUInt8):(da b p 2).1 = x.toUInt64:=by
 rw [takeB_bytes b p h,h0,h1];exact numB_putB x
theorem four_bytes (b:List UInt8) (p:Nat) (h:p + 4 ≤ b.length):(b.take (p + 4)).drop p = [b.getD p 0,b.getD (p + 1) 0,b.getD (p + 2) 0,b.getD (p + 3) 0]:=by
 have h1:=take_two b p (by omega);have h2:=take_two b (p + 2) (by omega);have e:b.take (p + 4) = b.take p ++ [b.getD p 0,b.getD (p + 1) 0,b.getD (p + 2) 0,b.getD (p + 3) 0]:=by
  show b.take (p + 2 + 2) = _;rw [h2,h1,List.append_assoc]
  rfl
 rw [e];have hl:(b.take p).length = p:=by simp; omega
 rw [List.drop_append,hl];simp
theorem takeB4 (b:List UInt8) (p:Nat) (x:UInt32) (h:p + 4 ≤ b.length) (h0:b.getD p 0 = (dR x.toUInt64 24).toUInt8) (h1:b.getD (p + 1) 0 = (dR x.toUInt64 16).toUInt8) (h2:b.getD (p + 2) 0 = (dR x.toUInt64 8).toUInt8) (h3:b.getD (p + 3) 0 = (dR x.toUInt64 0).toUInt8):(da b p 4).1 = x.toUInt64:=by
 rw [qp b p 4 (by omega)];have e:(b.take ((p:Int) + (4:Nat)).toNat).drop (p:Int).toNat = (b.take (p + 4)).drop p:=by
  have e1:((p:Int) + (4:Nat)).toNat = p + 4:=by omega
  rw [e1,Int.toNat_natCast]
 rw [e,four_bytes b p h,h0,h1,h2,h3];exact numB_putB4 x
theorem qc (P X R:List UInt8) (p q:Nat) (hp:P.length = p) (hq:P.length + X.length = q):rW (P ++ (X ++ R)) p q = X:=by
 subst hp;subst hq;unfold rW;rw [← List.append_assoc,List.take_append_of_le_length (by simp),List.take_of_length_le (by simp),List.drop_left]
theorem wj (a:aG) (hv:a.v6 = false) (hc:cG a = 0):(⟨false,qO (Vector.replicate 16 0) (cW a) 0⟩:aG) = a:=by
 have h:=(o7 a).1 hc hv;have hl:(cW a).length = 4:=by rw [dL,hv]; rfl
 obtain ⟨v,b⟩:=a;have hv:v = false:=hv;subst hv
 congr 1
 apply Vector.ext;intro i hi
 by_cases h4:i < 4
 ·simp only [qO,Vector.getElem_ofFn,hl,h4,if_true];simp [cW,List.getD,h4,hi]
 ·simp only [qO,Vector.getElem_ofFn,hl,h4,if_false,Fin.getElem_fin,Vector.getElem_replicate];exact (h i (by omega) hi).symm
theorem addr_six (a:aG) (hv:a.v6 = true):(⟨true,oq 16 (cW a) 0⟩:aG) = a:=by
 obtain ⟨v,b⟩:=a;have hv:v = true:=hv;subst hv
 congr 1
 apply Vector.ext;intro i hi;simp [oq,cW,List.getD,hi]
def dF (h:aa):aa:={ aA.zero with src:=h.src,dst:=h.dst,aC:=h.aC,tTL:=h.tTL,gA:=h.gA,id:=h.id }
theorem pY (h:aa) (n:Int) (s:UInt16) (hv:h.src.v6 = false) (hv2:h.dst.v6 = false):(gY h n s).length = 20:=by
 have h1:(cW h.src).length = 4:=by rw [dL,hv]; rfl
 have h2:(cW h.dst).length = 4:=by rw [dL,hv2]; rfl
 unfold gY;simp [h1,h2]
theorem front4_make (h:aa) (n:Int) (s:UInt16) (r:List UInt8) (hv:h.src.v6 = false) (hv2:h.dst.v6 = false) (ha:cG h.src = 0) (hb:cG h.dst = 0) (hid:h.id ≤ 65535) (hn:0 ≤ n ∧ n ≤ 65535) :
 aW (gY h n s ++ r) = (dF h,n,0):=by
 have h1:(cW h.src).length = 4:=by rw [dL,hv]; rfl
 have h2:(cW h.dst).length = 4:=by rw [dL,hv2]; rfl
 have hl:=pY h n s hv hv2;have hL:20 ≤ (gY h n s ++ r).length:=by simp [hl]
 have hp:=(part_eq (gY h n s ++ r) hL).2 ⟨rfl,rfl⟩;have hid2:h.id.toNat ≤ 65535:=by simpa [UInt32.le_iff_toNat_le] using hid
 have e0:(gY h n s ++ r).getD 0 0 = 69:=rfl;have t4:(da (gY h n s ++ r) 4 2).1 = h.id.toUInt16.toUInt64:=by
  have e:h.id.toUInt16 = h.id.toUInt64.toUInt16:=by apply UInt16.toNat_inj.1; simp
  have k:=qz h.id.toUInt64;rw [← e] at k;refine lV _ 4 _ (by omega) ?_ ?_
  ·exact (congrArg (fun l:List UInt8=>l.getD 0 0) k).symm
  ·exact (congrArg (fun l:List UInt8=>l.getD 1 0) k).symm
 have t2:(da (gY h n s ++ r) 2 2).1 = (UInt16.ofInt n).toUInt64:=by
  have k:=vy n;refine lV _ 2 _ (by omega) ?_ ?_
  ·exact (congrArg (fun l:List UInt8=>l.getD 0 0) k).symm
  ·exact (congrArg (fun l:List UInt8=>l.getD 1 0) k).symm
 have a1:rW (gY h n s ++ r) 12 16 = cW h.src:=by
  have k:=qc ([69,h.gA] ++ (dc 2 (UInt64.ofInt n) ++ (dc 2 h.id.toUInt64 ++ ([64,0,h.tTL,h.aC] ++ dc 2 s.toUInt64)))) (cW h.src) (cW h.dst ++ r) 12 16 rfl (by rw [h1]; rfl);rw [← k];unfold gY;simp only [List.append_assoc]
 have a2:rW (gY h n s ++ r) 16 20 = cW h.dst:=by
  have k:=qc ([69,h.gA] ++ (dc 2 (UInt64.ofInt n) ++ (dc 2 h.id.toUInt64 ++ ([64,0,h.tTL,h.aC] ++ (dc 2 s.toUInt64 ++ cW h.src))))) (cW h.dst) r 16 20 (by simp [h1]) (by simp [h1,h2]);rw [← k];unfold gY;simp only [List.append_assoc]
 unfold aW;rw [if_neg (by omega),e0,if_pos (by decide),if_neg (by omega),if_neg (by rintro (k | k); exact k rfl; exact k hp)];have hh:hd4 (gY h n s ++ r) = dF h:=by
  unfold hd4 dF;rw [t4,a1,a2,wj h.src hv ha,wj h.dst hv2 hb];have e:h.id.toUInt16.toUInt64.toUInt16.toUInt32 = h.id:=by
   apply UInt32.toNat_inj.1;simp;omega
  rw [e]
  rfl
 have hnn:((da (gY h n s ++ r) 2 2).1.toUInt16.toNat:Int) = n:=by
  rw [t2];simp [UInt16.ofInt];omega
 rw [hh,hnn]
theorem six_first (c:UInt8) (i:UInt32) (hi:i ≤ 1048575):mz (dR (1610612736 ||| mU c.toUInt32 20 ||| i).toUInt64 24).toUInt8 4 = 6 ∧ (vj (1610612736 ||| mU c.toUInt32 20 ||| i) 20).toUInt8 = c ∧ (1610612736 ||| mU c.toUInt32 20 ||| i) &&& 1048575 = i:=by
 have hX:=congrArg UInt64.toNat (first_eq c i hi);have h1:=c.toNat_lt;have h2:i.toNat ≤ 1048575:=by simpa [UInt32.le_iff_toNat_le] using hi
 generalize (1610612736 ||| mU c.toUInt32 20 ||| i) = X at hX ⊢
 rw [UInt64.toNat_add,UInt64.toNat_add,jw,UInt8.toNat_toUInt64,UInt32.toNat_toUInt64,UInt32.toNat_toUInt64] at hX;have e5:(1610612736:UInt64).toNat = 1610612736:=by decide
 rw [e5] at hX;have hX2:X.toNat = 1610612736 + c.toNat * 1048576 + i.toNat:=by omega
 refine ⟨?_,?_,?_⟩
 ·apply UInt8.toNat_inj.1;simp [mz,bU];omega
 ·apply UInt8.toNat_inj.1;simp [vj];omega
 ·apply UInt32.toNat_inj.1;rw [UInt32.toNat_and];have e:(1048575:UInt32).toNat = 2 ^ 20 - 1:=by decide
  rw [e,Nat.and_two_pow_sub_one_eq_mod];omega
theorem vO (h:aa) (n:Int) (hv:h.src.v6 = true):iq h n = dc 4 (1610612736 ||| mU h.gA.toUInt32 20 ||| h.id).toUInt64 ++ (dc 2 (UInt16.ofInt n).toUInt64 ++ ([h.aC,h.tTL] ++ (cW h.src ++ cW h.dst))):=by
 unfold iq;rw [if_pos hv];simp only [List.append_assoc]
theorem front6_make (h:aa) (n:Int) (r:List UInt8) (hv:h.src.v6 = true) (hv2:h.dst.v6 = true) (hid:h.id ≤ 1048575) (hn:0 ≤ n ∧ n ≤ 65535) :
 aW (iq h n ++ r) = (dF h,40 + n,0):=by
 have h1:(cW h.src).length = 16:=by rw [dL,hv]; rfl
 have h2:(cW h.dst).length = 16:=by rw [dL,hv2]; rfl
 obtain ⟨f1,f2,f3⟩:=six_first h.gA h.id hid;rw [vO h n hv]
 generalize hX:(1610612736 ||| mU h.gA.toUInt32 20 ||| h.id) = X at f1 f2 f3
 generalize hb:(dc 4 X.toUInt64 ++ (dc 2 (UInt16.ofInt n).toUInt64 ++ ([h.aC,h.tTL] ++ (cW h.src ++ cW h.dst)))) ++ r = b
 have hL:40 ≤ b.length:=by rw [← hb]; simp [h1,h2]; omega
 have e0:b.getD 0 0 = (dR X.toUInt64 24).toUInt8:=by rw [← hb]; rfl
 have e6:b.getD 6 0 = h.aC:=by rw [← hb]; rfl
 have e7:b.getD 7 0 = h.tTL:=by rw [← hb]; rfl
 have t0:(da b 0 4).1 = X.toUInt64:=by
  refine takeB4 _ 0 _ (by omega) ?_ ?_ ?_ ?_ <;> rw [← hb] <;> rfl
 have t4:(da b 4 2).1 = (UInt16.ofInt n).toUInt64:=by
  refine lV _ 4 _ (by omega) ?_ ?_ <;> rw [← hb] <;> rfl
 have a1:rW b 8 24 = cW h.src:=by
  have k:=qc (dc 4 X.toUInt64 ++ (dc 2 (UInt16.ofInt n).toUInt64 ++ [h.aC,h.tTL])) (cW h.src) (cW h.dst ++ r) 8 24 rfl (by rw [h1]; rfl);rw [← k,← hb];simp only [List.append_assoc]
 have a2:rW b 24 40 = cW h.dst:=by
  have k:=qc (dc 4 X.toUInt64 ++ (dc 2 (UInt16.ofInt n).toUInt64 ++ ([h.aC,h.tTL] ++ cW h.src))) (cW h.dst) r 24 40 (by simp [h1]) (by simp [h1,h2]);rw [← k,← hb];simp only [List.append_assoc]
 unfold aW;rw [if_neg (by omega),e0,if_neg (by rw [f1]; decide),if_pos f1,if_neg (by omega)];have hh:hd6 b = dF h:=by
  unfold hd6 dF;rw [t0,a1,a2,addr_six h.src hv,addr_six h.dst hv2,e6,e7];have e:X.toUInt64.toUInt32 = X:=by simp
  rw [e,f2,f3]
 have hnn:((da b 4 2).1.toUInt16.toNat:Int) = n:=by
  rw [t4];simp [UInt16.ofInt];omega
 rw [hh,hnn]
end Go.Proofs.YtljifjflnakmoaaGreat.Oc
namespace Go.Proofs.YtljifjflnakmoaaGreat.Oc
open Go Go.Gx Go.Proofs.YtljifjflnakmoaaGreat.Tri
theorem nT (s:UInt16):dc 2 s.toUInt64 = [(vk s 8).toUInt8,s.toUInt8]:=by
 have h:=s.toNat_lt;rw [putB_two];simp only [List.cons.injEq,and_true];constructor
 ·apply UInt8.toNat_inj.1;simp [bU,vk]
 ·apply UInt8.toNat_inj.1;simp [bU]
theorem layB_four (h:aa) (n:Int) (s s2:UInt16):oT (gY h n s) 10 s2 = gY h n s2:=by
 unfold oT gY;rw [nT s,nT s2]
 rfl
theorem headF_four (h:aa) (n:Int):mn h n = gY h (20 + n) 0:=by
 unfold mn gY;have e:h.id.toUInt16 = h.id.toUInt64.toUInt16:=by
  apply UInt16.toNat_inj.1;simp
 rw [vy,e,qz];simp only [List.append_assoc]
 rfl
theorem tQ (h:aa) (n:Int) (hv:h.src.v6 = false):iq h n = gY h (20 + n) (sumB (gY h (20 + n) 0)):=by
 unfold iq;rw [if_neg (by rw [hv]; decide),headF_four,layB_four]
theorem vM (h:aa) (d:List UInt8) (s s2:UInt16) (hm:cI h.aC ≠ 0):oT (cC h d s) (atN h.aC) s2 = cC h d s2:=by
 rcases eX h.aC with e | ⟨e,_⟩ | ⟨e,_⟩
 ·exact absurd e hm
 ·unfold oT cC atN;rw [if_pos e,if_pos e,if_pos e,nT s,nT s2];simp only [List.append_assoc]
  rfl
 ·have e6:¬ h.aC = 6:=by rw [e]; decide
  unfold oT cC atN;rw [if_neg e6,if_neg e6,if_neg e6,if_pos e,if_pos e,nT s,nT s2];simp only [List.append_assoc]
  rfl
theorem bodyB_zero (h:aa) (d:List UInt8) (s:UInt16) (h0:cI h.aC = 0):cC h d s = d:=by
 unfold cC
 rcases eX h.aC with _ | ⟨e,e2⟩ | ⟨e,e2⟩
 ·unfold cI at h0;split at h0
  ·exact absurd h0 (by decide)
  ·split at h0
   ·exact absurd h0 (by decide)
   ·rw [if_neg (by assumption),if_neg (by assumption)]
 ·omega
 ·omega
def pC (h:aa) (d:List UInt8):UInt16:=if cI h.aC = 0 then 0 else wE h (cC h d 0)
theorem tf (h:aa) (d:List UInt8):eR h d = cC h d (pC h d):=by
 unfold eR pC
 by_cases hm:cI h.aC = 0
 ·rw [if_pos hm,if_pos hm]
 ·rw [if_neg hm,if_neg hm,vM h d _ _ hm]
theorem ll (h:aa) (n:Int) (hc:dH h n = 0):cG h.src = 0 ∧ cG h.dst = 0 ∧ h.src.v6 = h.dst.v6 ∧ h.id ≤ (bif h.src.v6 then 1048575 else 65535) ∧ (cI h.aC = 0→h.bB = 0 ∧ h.bC = 0) ∧ (h.aC ≠ 6→h.flags = 0 ∧ h.seq = 0) ∧ bD h + cI h.aC + n ≤ 2048:=by
 unfold dH at hc;split at hc
 ·exact absurd hc (by decide)
 ·rename_i hA;split at hc
  ·exact absurd hc (by decide)
  ·rename_i hB;split at hc
   ·exact absurd hc (by decide)
   ·rename_i hC;refine ⟨?_,?_,?_,?_,?_,?_,by omega⟩
    ·exact Decidable.not_not.1 fun k=>hA (.inl k)
    ·exact Decidable.not_not.1 fun k=>hA (.inr (.inl k))
    ·exact Decidable.not_not.1 fun k=>hA (.inr (.inr (.inl k)))
    ·exact UInt32.not_lt.1 fun k=>hA (.inr (.inr (.inr k)))
    ·intro k;exact ⟨Decidable.not_not.1 fun k2=>hB (.inl ⟨k,.inl k2⟩),Decidable.not_not.1 fun k2=>hB (.inl ⟨k,.inr k2⟩)⟩
    ·intro k;exact ⟨Decidable.not_not.1 fun k2=>hB (.inr ⟨k,.inl k2⟩),Decidable.not_not.1 fun k2=>hB (.inr ⟨k,.inr k2⟩)⟩
theorem pW (h:aa) (n:Int) (hv:h.src.v6 = h.dst.v6):((iq h n).length:Int) = bD h:=by
 cases h6:h.src.v6 with
 | true =>
   have h1:(cW h.src).length = 16:=by rw [dL,h6]; rfl
   have h2:(cW h.dst).length = 16:=by rw [dL,← hv,h6]; rfl
   rw [vO h n h6];unfold bD;rw [h6];simp [h1,h2]
 | false =>
   rw [tQ h n h6,pY _ _ _ h6 (by rw [← hv]; exact h6)];unfold bD;rw [h6]
   rfl
theorem front_head (h:aa) (n m:Int) (r:List UInt8) (hc:dH h m = 0) (hn:0 ≤ n ∧ n ≤ 4096):aW (iq h n ++ r) = (dF h,bD h + n,0):=by
 obtain ⟨h1,h2,h3,h4,_⟩:=ll h m hc;cases h6:h.src.v6 with
 | true =>
   rw [h6] at h4;rw [front6_make h n r h6 (by rw [← h3]; exact h6) h4 (by omega)];unfold bD;rw [h6]
   rfl
 | false =>
   rw [h6] at h4;rw [tQ h n h6,front4_make h (20 + n) _ r h6 (by rw [← h3]; exact h6) h1 h2 h4 (by omega)];unfold bD;rw [h6]
   rfl
theorem mid_make (h:aa) (d:List UInt8) (s:UInt16) (m:Int) (hc:dH h m = 0):gH (dF h) (cC h d s) = wD h ai ∧ jO (dF h) (cC h d s) = d ∧ (cI h.aC ≠ 0→w7 (dF h) (cC h d s) = s):=by
 obtain ⟨_,_,_,_,h5,h6,_⟩:=ll h m hc;obtain ⟨a1,a2,p,sp,dp,t,c,i,f,q,o⟩:=h;have hp:(dF ⟨a1,a2,p,sp,dp,t,c,i,f,q,o⟩).aC = p:=rfl
 by_cases e6:p = 6
 ·subst e6;have hm:¬ cI 6 = 0:=by decide
  have e:cC ⟨a1,a2,6,sp,dp,t,c,i,f,q,o⟩ d s = dc 2 sp.toUInt64 ++ (dc 2 dp.toUInt64 ++ (dc 4 q.toUInt64 ++ ([0,0,0,0,80,f,255,255] ++ (dc 2 s.toUInt64 ++ ([0,0] ++ d))))):=by
   unfold cC;rw [if_pos rfl];simp only [List.append_assoc]
  have hl:20 ≤ (cC ⟨a1,a2,6,sp,dp,t,c,i,f,q,o⟩ d s).length:=by rw [e]; simp; omega
  have k0:(da (cC ⟨a1,a2,6,sp,dp,t,c,i,f,q,o⟩ d s) 0 2).1 = sp.toUInt64:=by refine lV _ 0 _ (by omega) ?_ ?_ <;> rw [e] <;> rfl
  have k2:(da (cC ⟨a1,a2,6,sp,dp,t,c,i,f,q,o⟩ d s) 2 2).1 = dp.toUInt64:=by refine lV _ 2 _ (by omega) ?_ ?_ <;> rw [e] <;> rfl
  have k4:(da (cC ⟨a1,a2,6,sp,dp,t,c,i,f,q,o⟩ d s) 4 4).1 = q.toUInt64:=by refine takeB4 _ 4 _ (by omega) ?_ ?_ ?_ ?_ <;> rw [e] <;> rfl
  have k16:(da (cC ⟨a1,a2,6,sp,dp,t,c,i,f,q,o⟩ d s) 16 2).1 = s.toUInt64:=by refine lV _ 16 _ (by omega) ?_ ?_ <;> rw [e] <;> rfl
  have k13:(cC ⟨a1,a2,6,sp,dp,t,c,i,f,q,o⟩ d s).getD 13 0 = f:=by rw [e]; rfl
  refine ⟨?_,?_,fun _=>?_⟩
  ·unfold gH;rw [hp,if_neg hm,if_pos rfl,k0,k2,k4,k13];have x1:sp.toUInt64.toUInt16 = sp:=by simp
   have x2:dp.toUInt64.toUInt16 = dp:=by simp
   have x3:q.toUInt64.toUInt32 = q:=by simp
   rw [x1,x2,x3]
   rfl
  ·unfold jO;rw [hp,List.take_length,e]
   rfl
  ·unfold w7;rw [hp];show (da (cC ⟨a1,a2,6,sp,dp,t,c,i,f,q,o⟩ d s) 16 2).1.toUInt16 = s;rw [k16];simp
 ·have hz:f = 0 ∧ q = 0:=h6 e6;obtain ⟨rfl,rfl⟩:=hz
  by_cases e17:p = 17
  ·subst e17;have hm:¬ cI 17 = 0:=by decide
   have e:cC ⟨a1,a2,17,sp,dp,t,c,i,0,0,o⟩ d s = dc 2 sp.toUInt64 ++ (dc 2 dp.toUInt64 ++ (dc 2 (UInt16.ofInt (8 + (d.length:Int))).toUInt64 ++ (dc 2 s.toUInt64 ++ d))):=by
    unfold cC;rw [if_neg e6,if_pos rfl];simp only [List.append_assoc]
   have hl:8 ≤ (cC ⟨a1,a2,17,sp,dp,t,c,i,0,0,o⟩ d s).length:=by rw [e]; simp; omega
   have k0:(da (cC ⟨a1,a2,17,sp,dp,t,c,i,0,0,o⟩ d s) 0 2).1 = sp.toUInt64:=by refine lV _ 0 _ (by omega) ?_ ?_ <;> rw [e] <;> rfl
   have k2:(da (cC ⟨a1,a2,17,sp,dp,t,c,i,0,0,o⟩ d s) 2 2).1 = dp.toUInt64:=by refine lV _ 2 _ (by omega) ?_ ?_ <;> rw [e] <;> rfl
   have k6:(da (cC ⟨a1,a2,17,sp,dp,t,c,i,0,0,o⟩ d s) 6 2).1 = s.toUInt64:=by refine lV _ 6 _ (by omega) ?_ ?_ <;> rw [e] <;> rfl
   refine ⟨?_,?_,fun _=>?_⟩
   ·unfold gH;rw [hp,if_neg hm,if_neg e6,k0,k2];have x1:sp.toUInt64.toUInt16 = sp:=by simp
    have x2:dp.toUInt64.toUInt16 = dp:=by simp
    rw [x1,x2]
    rfl
   ·unfold jO;rw [hp,List.take_length,e]
    rfl
   ·unfold w7;rw [hp];show (da (cC ⟨a1,a2,17,sp,dp,t,c,i,0,0,o⟩ d s) 6 2).1.toUInt16 = s;rw [k6];simp
  ·have hm:cI p = 0:=by unfold cI; rw [if_neg e6,if_neg e17]
   have hz:sp = 0 ∧ dp = 0:=h5 hm;obtain ⟨rfl,rfl⟩:=hz;have e:cC ⟨a1,a2,p,0,0,t,c,i,0,0,o⟩ d s = d:=bodyB_zero _ d s hm;refine ⟨?_,?_,fun k=>absurd hm k⟩
   ·unfold gH;rw [hp,if_pos hm]
    rfl
   ·unfold jO;rw [hp,hm,e,List.take_length]
    rfl
theorem mid_ok (h:aa) (d:List UInt8) (m:Int) (hc:dH h m = 0):ni (dF h) (eR h d) = 0:=by
 rw [tf];obtain ⟨e1,e2,e3⟩:=mid_make h d (pC h d) m hc;have hl:((cC h d (pC h d)).length:Int) = cI h.aC + d.length:=iO h d _;have hp:(dF h).aC = h.aC:=rfl;unfold ni;rw [hp,e1,e2];rw [if_neg (by omega)]
 by_cases hm:cI h.aC = 0
 ·rw [if_pos hm]
 ·rw [if_neg hm,e3 hm];have k:oT (cC (wD h ai) d 0) (atN h.aC) (pC h d) = cC h d (pC h d):=vM h d 0 _ hm;rw [k,if_neg (fun k=>k rfl)];have k2:pC h d = wE (wD h ai) (cC (wD h ai) d 0):=by unfold pC; rw [if_neg hm]; rfl
  rw [if_neg (fun k=>k k2)]
theorem w8 (h:aa) (d:List UInt8) (m:Int) (hc:dH h m = 0):((gf h d).length:Int) = bD h + cI h.aC + d.length:=by
 have h1:=pW h (eR h d).length (ll h m hc).2.2.1;have h2:=lZ h d;unfold gf;rw [List.length_append];omega
theorem vu (h:aa) (d t:List UInt8) (hc:dH h d.length = 0):fZ (gf h d ++ t) = 0 ∧ vw (gf h d ++ t) = (gf h d).length ∧ kA (gf h d ++ t) = d ∧ jW (gf h d ++ t) = wD h ai:=by
 have hp:=ll h _ hc;have hlen:=w8 h d _ hc;have hrl:=lZ h d;have hhl:=pW h (eR h d).length hp.2.2.1;have hfc:=j4 h;have hmc:=eX h.aC;have hb:gf h d ++ t = iq h (eR h d).length ++ (eR h d ++ t):=by unfold gf; rw [List.append_assoc]
 have hF:aW (gf h d ++ t) = (dF h,bD h + (eR h d).length,0):=by rw [hb]; exact front_head h _ _ _ hc (by omega)
 have hfn:bD (dF h) = bD h:=rfl;have hfN:(bD h).toNat = (iq h (eR h d).length).length:=by omega
 have hR:gk (gf h d ++ t) = eR h d:=by
  unfold gk;rw [hF];show ((gf h d ++ t).take (bD h + (eR h d).length).toNat).drop (bD (dF h)).toNat = _;have e1:(bD h + (eR h d).length).toNat = (iq h (eR h d).length).length + (eR h d).length:=by omega
  rw [e1,hfn,hfN,hb,← List.append_assoc,List.take_append_of_le_length (by simp),List.take_of_length_le (by simp),List.drop_left]
 have hE:fZ (gf h d ++ t) = 0:=by
  unfold fZ;rw [hF,hR];show (if (0:Int) ≠ 0 then (0:Int) else if bD h + ((eR h d).length:Int) < bD (dF h) ∨ 2048 < bD h + ((eR h d).length:Int) then 161
   else if ((gf h d ++ t).length:Int) < bD h + ((eR h d).length:Int) then 160
   else if (dF h).src.v6 = false ∧ iq (dF h) (bD h + ((eR h d).length:Int) - bD (dF h)) ≠ (gf h d ++ t).take (bD (dF h)).toNat then 162
   else ni (dF h) (eR h d)) = 0
  rw [if_neg (fun k=>k rfl),hfn,if_neg (by omega),if_neg (by rw [List.length_append]; omega),if_neg,mid_ok h d _ hc];rintro ⟨_,k⟩;apply k;have e1:bD h + ((eR h d).length:Int) - bD h = (eR h d).length:=by omega
  rw [e1,hfN,hb,List.take_append_of_le_length (Nat.le_refl _),List.take_of_length_le (Nat.le_refl _)]
  rfl
 obtain ⟨e1,e2,_⟩:=mid_make h d (pC h d) _ hc;refine ⟨hE,?_,?_,?_⟩
 ·unfold vw;rw [if_pos hE,hF];show bD h + ((eR h d).length:Int) = _;omega
 ·unfold kA;rw [hR,hF,tf];exact e2
 ·unfold jW;rw [if_pos hE,hR,hF,tf];exact e1
end Go.Proofs.YtljifjflnakmoaaGreat.Oc
namespace Go.Proofs.YtljifjflnakmoaaGreat
open Go Go.Gx Go.Proofs.YtljifjflnakmoaaGreat.Tri Go.Proofs.YtljifjflnakmoaaGreat.Oc
open Go.Conc Go.ConcN
def im (ls:List aL):Nat:=ls.countP fun x=>x.new
def jF (ls:List aL):Nat:=ls.countP fun x=>x.new && x.dropped
theorem kl (ls:List aL) (x:aL):im (ls ++ [x]) = im ls + x.new.toNat:=by
 unfold im;rw [List.countP_append,List.countP_singleton];cases x.new <;> rfl
theorem qN (ls:List aL) (x:aL):jF (ls ++ [x]) = jF ls + (x.new && x.dropped).toNat:=by
 unfold jF;rw [List.countP_append,List.countP_singleton];cases x.new && x.dropped <;> rfl
structure o9 (ss:List au) (s:WS) (ls:List aL) (ca:UInt64):Prop where
 wf:WfW ss s.1
 ge:s.2.1 ≤ im ls
 eq:(aB s.1).end_ ≠ 1→im ls = s.2.1 ∧ jF ls = s.2.2
 fl:(aB s.1).end_ = 1 ∨ (ca.toNat:Int) ≤ pa ss (aB s.1).stage.toNat
theorem o9.start {ss:List au} (hg:fE ss) (hp:0 < ss.length):o9 ss (0,0,0) [] 0 :=
 ⟨(WfW.zero hg hp).1,Nat.zero_le _,fun _=>⟨rfl,rfl⟩,.inr (by have:=hg.p 0 hp; show (0:Int) ≤ pa ss 0; omega)⟩
theorem end1_of {ss:List au} {n m:UInt64} (h:LeW ss n m) (e:(aB n).end_ = 1):(aB m).end_ = 1:=by
 rw [h.done (by rw [e]; decide)]; exact e
theorem saw_step {ss:List au} {s t u:WS} {ls:List aL} {ca:UInt64} {bs:List UInt8} {dr:Bool} {k:Nat} (hg:fE ss) (H:o9 ss s ls ca) (h1:t.2 = s.2) (h2:LeW ss s.1 t.1) (h3:WfW ss t.1) (h4:way ss t.1 bs = k) (h5:k = 2→u = (nxW ss t.1 dr,t.2.1 + 1,t.2.2 + dr.toNat)) (h6:k ≠ 2→u = t) :
 (k = 1→(∀ b,o9 ss u (ls ++ [⟨fu bs,false,b⟩]) ca) ∧ (fu bs < ca→(aB u.1).end_ = 2)) ∧ (k ≠ 1→o9 ss u (ls ++ [⟨fu bs,true,dr⟩]) (max ca (fu bs + 1))):=by
 have hp:=hg.p _ h3.lt;have hof:(UInt64.ofInt (ss.getD (aB t.1).stage.toNat aS.zero).parts).toNat = (pa ss (aB t.1).stage.toNat).toNat:=ofInt_nat ⟨by show 0 ≤ pa ss _; omega,by show pa ss _ ≤ _; omega⟩;have hst:=hg.s _ _ h2.st h3.lt
 by_cases e1:(aB t.1).end_ = 1
 ·have hk:k = 0:=by rw [← h4]; exact way_0 e1
  subst hk;obtain rfl:=h6 (by decide);refine ⟨fun e=>(by cases e),fun _=>⟨h3,?_,fun e=>absurd e1 e,.inl e1⟩⟩;rw [kl,h1];have:=H.ge;omega
 ·have s1:(aB s.1).end_ ≠ 1:=fun e=>e1 (end1_of h2 e)
  obtain ⟨q1,q2⟩:=H.eq s1;have q3:(ca.toNat:Int) ≤ pa ss (aB s.1).stage.toNat:=H.fl.resolve_left s1;cases ho:rT ss t.1 bs with
  | true =>
    have hk:k = 1:=by rw [← h4]; exact way_1 e1 ho
    subst hk;obtain rfl:=h6 (by decide);refine ⟨fun _=>⟨fun b=>⟨h3,?_,fun _=>?_,.inr (by omega)⟩,fun hm=>?_⟩,fun e=>absurd rfl e⟩
    ·rw [kl,h1]; simp; omega
    ·rw [kl,qN,h1]; simp; omega
    ·simp only [rT,Bool.or_eq_true,decide_eq_true_iff] at ho
     rcases ho with ho | ho
     ·exact ho
     ·rw [UInt64.le_iff_toNat_le,hof] at ho;rw [UInt64.lt_iff_toNat_lt] at hm;omega
  | false =>
    have hk:k = 2:=by rw [← h4]; exact way_2 e1 ho
    subst hk;obtain rfl:=h5 rfl;have e2:=old_not ho;obtain ⟨k1,k2,k3,k4⟩:=nx_ok hg h3 (end_0 h3 e1 e2) dr;have hm:=hg.s _ _ k4 k1.lt;have hlt:(fu bs).toNat < (pa ss (aB t.1).stage.toNat).toNat:=by
     simp only [rT,Bool.or_eq_false_iff,decide_eq_false_iff_not] at ho;have h:=ho.2;rw [UInt64.le_iff_toNat_le,hof] at h;omega
    have e9:(fu bs + 1).toNat = (fu bs).toNat + 1:=add1 _ (by omega);refine ⟨fun e=>(by cases e),fun _=>⟨k1,?_,fun _=>?_,.inr ?_⟩⟩
    ·rw [kl];show t.2.1 + 1 ≤ im ls + 1;rw [h1]; omega
    ·rw [kl,qN];show im ls + 1 = t.2.1 + 1 ∧ jF ls + dr.toNat = t.2.2 + dr.toNat;rw [h1]; omega
    ·have e:(max ca (fu bs + 1)).toNat = max ca.toNat (fu bs + 1).toNat:=by
      show (if ca ≤ fu bs + 1 then fu bs + 1 else ca).toNat = _;split <;> rename_i h <;> rw [UInt64.le_iff_toNat_le] at h <;> omega
     show (((max ca (fu bs + 1)).toNat:Nat):Int) ≤ pa ss (aB (nxW ss t.1 dr)).stage.toNat;rw [e,e9];omega
def wq (N0 C2:Nat) (x:RX) (ss:List au) (i:Nat) (u:World):Prop:=∃ (o:OV) (s:WS) (ls:List aL) (ca:UInt64),u.heap[C2]? = some (slot i o.v) ∧ u.heap[x.b]? = some (.pending ([.pointer (some ⟨x.p.b,0,none⟩),.pointer (some ⟨x.q.b,0,none⟩),x.sv.v] ++ nums (gam s)).toArray 4) ∧ (aT o.v bz ls 97).A u ∧ (∀ b,(aT o.v bz ls 97).bQ b→N0 ≤ b ∧ b < u.heap.size) ∧ o9 ss s ls ca ∧ ls.length ≤ 12
theorem wq.grow {N0 C2:Nat} {x:RX} {ss:List au} {i:Nat} {u u':World} (h:wq N0 C2 x ss i u) (g:bo u u'):wq N0 C2 x ss i u':=by
 obtain ⟨o,s,ls,ca,h1,h2,h3,h4,h5⟩:=h;exact ⟨o,s,ls,ca,by rw [g.old _ (aw h1)]; exact h1,by rw [g.old _ (aw h2)]; exact h2,(aT o.v bz ls 97).st u u' (fun b hb=>g.old b (h4 b hb).2) h3,fun b hb=>⟨(h4 b hb).1,Nat.lt_of_lt_of_le (h4 b hb).2 g.size⟩,h5⟩
theorem pE_fit (h:aa) (d:List UInt8):pE (gf (eU h) (mc h d)) = 0:=by
 have hc:=qI h d;obtain ⟨h1,h2,h3,h4⟩:=vu (eU h) (mc h d) [] hc;rw [List.append_nil] at h1 h2 h3 h4;unfold pE;rw [h1,h3,h4,if_neg (by decide)];have e:dH (wD (eU h) ai) ((mc h d).length:Int) = 0:=hc;unfold deE;rw [e]
 rfl
theorem part_fit (h:aa) (d:List UInt8) (o:OV):(mm (ofK (wD (eU h) o)) 100).1 = fu (gf (eU h) (mc h d)):=by
 obtain ⟨h1,h2,h3,h4⟩:=vu (eU h) (mc h d) [] (qI h d);rw [List.append_nil] at h1 h2 h3 h4;unfold fu;rw [h4]
 rfl
end Go.Proofs.YtljifjflnakmoaaGreat
namespace Go.Proofs.YtljifjflnakmoaaGreat
open Go Go.Gx Go.Proofs.YtljifjflnakmoaaGreat.Tri Go.Proofs.YtljifjflnakmoaaGreat.Oc
structure a8 where
 kind:Int
 in_:Int
 h:aa
 any:Bool
 bytes:OV
def a8.to:(Int × (Int × (aa × (Bool × OV))))→a8:=fun x=>⟨x.1,x.2.1,x.2.2.1,x.2.2.2.1,x.2.2.2.2⟩
def a8.of:a8→(Int × (Int × (aa × (Bool × OV)))):=fun x=>(x.kind,x.in_,x.h,x.any,x.bytes)
def cP:Enc a8:=gI (bh iE (bh iE (bh aA (bh bE (ovE ai))))) a8.to a8.of
def a8.l_kind:ah cP iE 0:=lI a8.to a8.of l1
def a8.iH:ah cP iE 1:=lI a8.to a8.of (l2 l1)
@[simp] theorem a8.get_in_ (x:a8):a8.iH.get x = x.in_:=rfl
def a8.l_h:ah cP aA 2:=lI a8.to a8.of (l2 (l2 l1))
@[simp] theorem a8.get_h (x:a8):a8.l_h.get x = x.h:=rfl
def a8.l_any:ah cP bE 45:=lI a8.to a8.of (l2 (l2 (l2 l1)))
def a8.l_bytes:ah cP (ovE ai) 46:=lI a8.to a8.of (l2 (l2 (l2 (l2 (ah.id _)))))
open Go.Conc Go.ConcN
structure Gt where
 x:RX
 l1:CL
 l2:CL
 d1:Int
 d2:Int
 ss:List au
 dv:OV
 dos:List OV
 row:Nat→List a8
 dat:Nat→Nat→List UInt8
structure GateAt (w:World) (G:Gt) (C C2 cnt i b1 b2 b3 b4 b5:Nat):Prop where
 roll:xH w G.x G.l1 G.l2 G.d1 G.d2 G.ss
 rows:aO (ovE ai) w G.dv.v G.dos
 row:∀ k,k < G.dos.length→aO cP w (G.dos.getD k ai).v (G.row k)
 dat:∀ k j,k < G.dos.length→j < (G.row k).length→aO u8E w ((G.row k).getD j cP.zero).h.data.v (G.dat k j)
 len:G.dos.length = cnt
 lt:i < cnt
 few:cnt ≤ 16
 g1:cq (ovE ai) w b1 0 ⟨.slice (some ⟨C,0,none⟩) cnt cnt,rfl⟩
 g2:cq iE w b2 0 i
 g3:cq (ovE ai) w b3 0 G.dv
 g4:cq (ovE bP) w b4 0 ⟨.pointer (some ⟨G.x.b,0,none⟩),rfl⟩
 g5:cq (ovE ai) w b5 0 ⟨.slice (some ⟨C2,0,none⟩) cnt cnt,rfl⟩
structure GateOK (G:Gt):Prop where
 p:jl G.x.p G.l1 G.d1
 q:jl G.x.q G.l2 G.d2
 g:fE G.ss
 pos:0 < G.ss.length
 few:∀ k,(G.row k).length ≤ 12
section
variable [Duo] {C i:Nat} {w:World}
theorem start3 {n:Nat} {z:Value} {γ:List Nat} (hC2:C ≠ Duo.C2) (hR:¬ Row C Duo.R) (h1:w.heap[C]? = some (slot i (.bool false))) (h2:w.heap[Duo.C2]? = some (slot i z)) (h3:GhR w γ):∀ e0:En,Ctx.OK ⟨n,w,Mx C,e0⟩→aP ⟨n,w,Mx C,e0⟩ [iQ C i (.bool false),iQ Duo.C2 i z,RoR γ] w:=fun e0 ok =>
 ⟨aJ.refl _ _,fun q hq=>by
  simp only [List.mem_cons,List.not_mem_nil,or_false] at hq
  rcases hq with rfl | rfl | rfl
  ·exact ⟨h1,fun b hb=>⟨.inr (.inl (.inl hb)),by rw [show b = C from hb]; exact aw h1⟩⟩
  ·exact ⟨h2,fun b hb=>⟨.inr (.inl (.inr hb)),by rw [show b = Duo.C2 from hb]; exact aw h2⟩⟩
  ·exact ⟨h3,fun b hb=>⟨.inr (.inr hb),by rw [show b = Duo.R from hb]; exact aw h3⟩⟩,
 by
  refine List.pairwise_cons.2 ⟨fun r hr=>?_,List.pairwise_cons.2 ⟨fun r hr=>?_,List.pairwise_singleton _ _⟩⟩
  ·simp only [List.mem_cons,List.not_mem_nil,or_false] at hr
   rcases hr with rfl | rfl
   ·exact fun b h h'=>hC2 ((show b = C from h).symm.trans h')
   ·exact fun b h h'=>hR (.inl ((show b = Duo.R from h').symm.trans h))
  ·simp only [List.mem_cons,List.not_mem_nil,or_false] at hr;subst hr;exact fun b h h'=>hR (.inr ((show b = Duo.R from h').symm.trans h)),ok⟩
theorem post_of {K:Ctx} {L L1:List Res} {x:RX} {ss:List au} (hr:qY x ss) {o:OV} {s:WS} {ls:List aL} {ca:UInt64} {N0:Nat} {z:Value} (hM:K.M = Mx C) (hN:N0 ≤ K.w0.heap.size) (I:aP K L w) (h4:Rem L (aT o.v bz ls 97) L1) (h1:iQ C i z ∈ L1) (h2:iQ Duo.C2 i o.v ∈ L1) (h3:RoR (gam s) ∈ L1) (hS:o9 ss s ls ca) (hl:ls.length ≤ 12):wq N0 Duo.C2 x ss i w:=by
 have I':=I.perm h4.perm;have hd:=(List.pairwise_cons.1 I'.dis).1;obtain ⟨ha,hf⟩:=I'.own _ List.mem_cons_self;refine ⟨o,s,ls,ca,(I'.own _ (List.mem_cons_of_mem _ h2)).1,?_,ha,fun b hb=>⟨?_,(hf b hb).2⟩,hS,hl⟩
 ·have h:w.heap[Duo.R]? = some (roB (gam s)):=(I'.own _ (List.mem_cons_of_mem _ h3)).1;unfold roB at h;rw [hr.R,hr.c0] at h;exact h
 ·rcases (hf b hb).1 with h | h
  ·omega
  ·rw [hM] at h
   rcases h with (h | h) | h
   ·exact (hd _ h1 b hb h).elim
   ·exact (hd _ h2 b hb h).elim
   ·exact (hd _ h3 b hb h).elim
end
theorem saw_pass [Duo] {x:RX} {ss:List au} {hg:fE ss} {h:qY x ss} {i:Nat} {s:WS} {ls:List aL} {ca:UInt64} {bs:List UInt8} {dr:Bool} {r:Nat × WS} (H:o9 ss s ls ca) (J:PassJ (sH x ss hg h i) s dr bs r) :
 (r.1 = 1→(∀ b,o9 ss r.2 (ls ++ [⟨fu bs,false,b⟩]) ca) ∧ (fu bs < ca→(aB r.2.1).end_ = 2)) ∧ (r.1 ≠ 1→o9 ss r.2 (ls ++ [⟨fu bs,true,dr⟩]) (max ca (fu bs + 1))):=by
 obtain ⟨t,ht,hk,hw,h2,h3⟩:=J;exact saw_step hg H ht.1 ht.2 hk hw h2 h3
theorem over_back [Duo] {x:RX} {ss:List au} {hg:fE ss} {h:qY x ss} {i:Nat} {s t:WS} (he:(aB s.1).end_ = 2) (J:(sH x ss hg h i).R s t):t = s:=by
 have h1:t.1 = s.1:=J.2.done (by rw [he]; decide);exact Prod.ext h1 J.1
theorem make_fit (h:aa) (d:List UInt8) (o:OV) (bs:List UInt8) (w:World) (hd:aO u8E w o.v (mc h d)) (hb:gf (eU h) (mc h d) = bs):Gx.Calls Tryz.prog 23 #[aA.val (wD (eU h) o)] w (gL w (fun _:OV=>True) (fun o=>.tuple #[o.v,I 0]) (fun o=>[aT o.v u8E bs 5])):=by
 subst hb;have hc:=qI h d;have hl:=uo (eU h) _ hc;have hc2:dH (wD (eU h) o) (mc h d).length = 0:=hc;refine (make_ok (wD (eU h) o) (mc h d) w hd (by omega)).mono (fun _ h=>h) ?_;rintro e w' ⟨z,hz,he,hk,hN⟩;have hN':News w w' (if dH (wD (eU h) o) (mc h d).length = 0 then [aT z.v u8E (gf (eU h) (mc h d)) 5] else []):=hN;rw [if_pos hc2] at hN';have he':e = .returned (.tuple #[z.v,I (dH (wD (eU h) o) (mc h d).length)]):=he;rw [hc2] at he';exact ⟨z,trivial,he',hk,hN'⟩
end Go.Proofs.YtljifjflnakmoaaGreat
namespace Go.Proofs.YtljifjflnakmoaaGreat
open Go Go.Gx Go.Proofs.YtljifjflnakmoaaGreat.Tri Go.Proofs.YtljifjflnakmoaaGreat.Oc
theorem wA:tyI 41 (ovE ai):=tyP
theorem ty32:tyI 32 (ovE ai):=tyP
theorem rQ:tyI 78 (ovE ai):=tyP
theorem ty87:tyI 87 cP:=tyP
theorem z87:zI 87 cP:=kI
theorem ty35:tyI 35 (ovE bP):=tyP
theorem ty40:tyI 40 (ovE ai):=tyP
theorem ty95:tyI 95 (ovE ai):=tyP
theorem z97:zI 97 bz:=kI
theorem ty97:tyI 97 bz:=tyP
theorem zb97:zbI 97 bz 16:=kB
theorem zs97:zsI bz:=zsP _
theorem gate_ok [Duo] (G:Gt) (hG2:GateOK G) (hR:qY G.x G.ss) (C cnt i p1 p2 p3 p4 p5 N0:Nat) (w:World) (hN0:N0 ≤ w.heap.size) (hC2:C ≠ Duo.C2) (hRC:¬ Row C Duo.R) (H:∀ w',aJ (Mx C) w w'→GateAt w' G C Duo.C2 cnt i p1 p2 p3 p4 p5) (ha1:w.heap[C]? = some (slot i (.bool false))) (ha2:w.heap[Duo.C2]? = some (slot i ai.v)) (ha3:GhR w (gam (0,0,0))) (hP:∀ v,wq N0 Duo.C2 G.x G.ss i v→Duo.mF i v):eo (XW Tryz.prog i) 0 Tryz.prog 21 #[eB.v,.pointer (some ⟨p1,0,none⟩),.pointer (some ⟨p2,0,none⟩),.pointer (some ⟨p3,0,none⟩),.pointer (some ⟨p4,0,none⟩),.pointer (some ⟨p5,0,none⟩)] w ⟨Mx C,fun e v'=>e = .returned (.tuple #[]) ∧ v'.heap[C]? = some (slot i (.bool true)) ∧ Duo.mF i v'⟩:=by
 have hG:=H w (.refl _ _);have hrl:=(hG.row i (by have:=hG.lt; have:=hG.len; omega)).le;refine nG 120 [iQ C i (.bool false),iQ Duo.C2 i ai.v,RoR (gam (0,0,0))] Tryz.func21 rfl rfl (Nat.le_of_ble_eq_true rfl) (Nat.zero_le _) (fun _ _=>Nat.zero_le _) (start3 hC2 hRC ha1 ha2 ha3 _) ?_;refine sg (co (Ev.to (v':=.slice (some ⟨C,0,none⟩) cnt cnt) (Ev.load wA (.t rfl) (c9 (fun w I=>(H w I.keeps).g1) (ah.id _))) (rfl)) ?_);refine co (Ev.to (v':=I i) (Ev.load ty3 (.t rfl) (c9 (fun w I=>(H w I.keeps).g2) (ah.id _))) (rfl)) ?_;refine co (Ev.to (v':=.pointer (some ⟨C,i,none⟩)) (Ev.je Y41 Tryz.sizeOf4 (.t rfl) (.t rfl) (fun _=>by have:=hG.lt; omega)) (by rw [Int.toNat_natCast])) ?_;refine cons (nM Tryz.sizeOf4 (.t rfl) (.c (v:=.bool true) rfl) rfl zu ?_);refine nP (seq (dD bz 97 ?_));refine region (ac (U64 0) ?_);refine nP (sg (ac (I 0) ?_));refine nP (block (lp (X:=Int × OV × (List aL) × WS × UInt64) (fun x=>(0 ≤ x.1 ∧ x.1 ≤ (G.row i).length) ∧ ((x.2.2.1.length:Int) = x.1) ∧ (o9 G.ss x.2.2.2.1 x.2.2.1 x.2.2.2.2)) (fun x=>[dz,(0,true,eB.v),(1,true,pvb p1),(2,true,pvb p2),(3,true,pvb p3),(4,true,pvb p4),(5,true,pvb p5),(7,true,U64 x.2.2.2.2),(8,true,I x.1)]) (fun x=>[aT x.2.1.v bz x.2.2.1 97,iQ C i (.bool true),iQ Duo.C2 i x.2.1.v,RoR (gam x.2.2.2.1)]) (fun x=>((G.row i).length - x.1).toNat) (0,ai,[],(0,0,0),0) ⟨?_,?_,?_⟩ (fun x hx=>?_)))
 ·omega
 ·rfl
 ·exact o9.start hG2.g hG2.pos
 obtain ⟨k,o,ls,s,ca⟩:=x;dsimp only at hx;obtain ⟨hk,hll,hS⟩:=hx;refine seq (sg (mv rfl (co (Ev.to (v':=G.dv.v) (Ev.load ty32 (.t rfl) (c9 (fun w I=>(H w I.keeps).g3) (ah.id _))) (rfl)) ?_)));refine co (Ev.to (v':=I i) (Ev.load ty3 (.t rfl) (c9 (fun w I=>(H w I.keeps).g2) (ah.id _))) (rfl)) ?_;refine co (Ev.indexAddr Y32 rQ (.t rfl) (.t rfl) (fun w I=>(H w I.keeps).rows) (fun _=>by have:=hG.lt; have:=hG.len; omega)) ?_;refine co (Ev.to (v':=(G.dos.getD i ai).v) (Ev.bV rQ (.t rfl) (fun w I=>(H w I.keeps).rows) (fun _=>by have:=hG.lt; have:=hG.len; omega)) (by rw [Int.toNat_natCast]; rfl)) ?_;refine co (Ev.len Y78 (.t rfl) (fun w I=>(H w I.keeps).row i (by have:=hG.lt; have:=hG.len; omega))) ?_;refine co (Ev.cj (.t rfl) (.t rfl)) ?_;refine nP ?_;refine cnd rfl (fun hlt=>?_) (fun hge=>?_)
 ·refine skip (pN (seq (block (seq ?_))));obtain ⟨xh,hxh⟩:∃ z,(G.row i).getD k.toNat cP.zero = z:=⟨_,rfl⟩;obtain ⟨dt,hdt⟩:∃ z,G.dat i k.toNat = z:=⟨_,rfl⟩;obtain ⟨bs,hbs⟩:∃ z,gf (eU xh.h) (mc xh.h dt) = z:=⟨_,rfl⟩;refine region (co (Ev.to (v':=G.dv.v) (Ev.load ty32 (.t rfl) (c9 (fun w I=>(H w I.keeps).g3) (ah.id _))) (rfl)) ?_);refine co (Ev.to (v':=I i) (Ev.load ty3 (.t rfl) (c9 (fun w I=>(H w I.keeps).g2) (ah.id _))) (rfl)) ?_;refine co (Ev.indexAddr Y32 rQ (.t rfl) (.t rfl) (fun w I=>(H w I.keeps).rows) (fun _=>by have:=hG.lt; have:=hG.len; omega)) ?_;refine co (Ev.to (v':=(G.dos.getD i ai).v) (Ev.bV rQ (.t rfl) (fun w I=>(H w I.keeps).rows) (fun _=>by have:=hG.lt; have:=hG.len; omega)) (by rw [Int.toNat_natCast]; rfl)) ?_;refine mv rfl (co (Ev.indexAddr Y78 ty87 (.t rfl) (.t rfl) (fun w I=>(H w I.keeps).row i (by have:=hG.lt; have:=hG.len; omega)) (fun _=>zo)) ?_);refine co (Ev.to (v':=cP.val xh) (Ev.bV ty87 (.t rfl) (fun w I=>(H w I.keeps).row i (by have:=hG.lt; have:=hG.len; omega)) (fun _=>zo)) (congrArg cP.val hxh)) ?_;refine cons (alloc z87 (fun b1=>?_));refine cons (stv ty87 (ah.id _) (.t rfl) (.t rfl) ?_);refine nP (sg (cf 2 rfl ?_));refine co (Ev.ldv cJ (.t rfl) a8.l_h) ?_;refine cons (dB (X:=OV) (fun _:OV=>True) (fun o=>aA.val (wD (eU xh.h) o)) (fun o=>[aT o.v u8E (mc xh.h dt) 5]) eN (o1 rfl) (fun w I=>rfit_ok xh.h dt w (hxh ▸ hdt ▸ (H w I.keeps).dat i k.toNat (by have:=hG.lt; have:=hG.len; omega) (by omega))) (fun x1 _=>?_));refine cons (alloc z85 (fun b2=>?_));refine cons (stv cJ (ah.id _) (.t rfl) (.t rfl) ?_);refine nP (sg (co (Ev.ldv cJ (.t rfl) (ah.id _)) ?_));refine cons (dB (X:=OV) (fun o:OV=>True) (fun o=>.tuple #[o.v,I 0]) (fun o=>[aT o.v u8E bs 5]) eN (o1 rfl) (fun w I=>make_fit xh.h dt x1 bs w (io w I) hbs) (fun x2 _=>?_))
  refine mv rfl (cx rfl rfl (cx rfl rfl (asn rfl (asn rfl (nP (seq ?_))))));obtain ⟨dr,hdr⟩:∃ z,dropB G.l2 G.d2 xh.in_ bs = z:=⟨_,rfl⟩;refine region (co (Ev.to (v':=.pointer (some ⟨G.x.b,0,none⟩)) (Ev.load ty35 (.t rfl) (c9 (fun w I=>(H w I.keeps).g4) (ah.id _))) (rfl)) ?_);refine mv rfl (cf 1 rfl ?_);refine co (Ev.ldv ty3 (.t rfl) a8.iH) ?_;refine mv rfl (co (Ev.bu (fs:=_) (places:=[(0,1),(1,1),(2,1)]) z59 rfl Y59 zk (.cons (.t rfl) (.cons (.t rfl) .nil)) (ay.cons fp.iH rfl (ay.cons fp.kG rfl ay.nil))) ?_);refine cons (qQ (X:=Nat × WS) ((PassJ (sH G.x G.ss hG2.g hR i) s dr bs)) (fun r=>.tuple #[a7.val (if r.1 = 1 then pV G.l1 G.d1 xh.in_ bs else pV G.l2 G.d2 xh.in_ bs),.bool (decide (r.1 ≠ 1)),I 0]) (r:=RoR (gam s)) (r':=(fun r=>RoR (gam r.2))) (fun _=>zu) zm eN (o3 rfl rfl rfl) (fun w I=>pass_ok G.x G.l1 G.l2 G.d1 G.d2 G.ss (sH G.x G.ss hG2.g hR i) s dr ⟨0,xh.in_,x2⟩ bs w (Nat.zero_le _) (fun _ _=>Nat.zero_le _) (am w I) (fun w2 k2=>(H w2 (I.keeps.trans (k2.mono (fun b hb=>.inr hb)))).roll) (pG (v:=x2.v) I zr zm) hG2.p hG2.q (by have:=hG2.g.l; omega) (hbs ▸ pE_fit _ _) hdr) (fun r hr=>?_));refine mv rfl (cx rfl rfl (cx rfl rfl (cx rfl rfl (cons (alloc z55 (fun b3=>?_))))));refine cons (stv gT (ah.id _) (.t rfl) (.t rfl) ?_);refine asn rfl (asn rfl (nP (seq ?_)));have hss:=saw_pass hS hr;have h12:=hG2.few i;refine region (co (Ev.ldv cJ (.t rfl) (ah.id _)) ?_);refine cons (aQ eN (o1 rfl) (fun w I=>Oc.tA _ w) ?_);refine cons (aQ eN (o1 rfl) (fun w I=>wO _ (fu bs) w (hbs ▸ part_fit xh.h dt x1)) ?_)
  refine asn rfl (nP (cut (X:=Unit) (fun _:Unit=>True) (fun _:Unit=>[dz,(0,true,eB.v),(1,true,pvb p1),(2,true,pvb p2),(3,true,pvb p3),(4,true,pvb p4),(5,true,pvb p5),(7,true,U64 ca),(8,true,I k),(13,true,pvb b3),(14,true,.bool (decide (r.1 ≠ 1))),(15,true,I 0),(16,true,U64 (fu bs))]) (fun _:Unit=>[Var b3 a7 (if r.1 = 1 then pV G.l1 G.d1 xh.in_ bs else pV G.l2 G.d2 xh.in_ bs) 55,aT o.v bz ls 97,iQ C i (.bool true),iQ Duo.C2 i o.v,RoR (gam r.2)]) ?_ (fun x hx=>?_)))
  ·refine sg (mv rfl (co (Ev.not (.t rfl)) ?_));refine mv rfl (cg rfl rfl (Ev.to (v':=U64 (fu bs)) (Ev.move (.t rfl)) (rfl)) ?_);refine cg rfl rfl (Ev.move (.t rfl)) ?_;refine cg rfl rfl (Ev.j3 (.g rfl id) (.g rfl id)) ?_;refine co (Ev.pkA (.t rfl) rfl) ?_;refine nP ?_;refine cnd rfl (fun h1=>?_) (fun h1=>?_)
   ·refine sg (co (Ev.to (v':=.pointer (some ⟨G.x.b,0,none⟩)) (Ev.load ty35 (.t rfl) (c9 (fun w I=>(H w I.keeps).g4) (ah.id _))) (rfl)) ?_);refine mv rfl (cons (qQ (X:=WS) ((fun t=>(sH G.x G.ss hG2.g hR i).R r.2 t ∧ (sH G.x G.ss hG2.g hR i).Ok t)) (fun t=>.tuple #[.bool (decide (¬ (aB t.1).end_ = 0)),.bool (decide ((aB t.1).end_ = 1)),I 0]) (r:=RoR (gam r.2)) (r':=(fun t=>RoR (gam t))) (fun _=>zu) zm eN (o2 rfl rfl) (fun w I=>wQ (sH G.x G.ss hG2.g hR i) r.2 w (Nat.zero_le _) (fun _ _=>Nat.zero_le _) (am w I)) (fun t ht=>?_)));refine mv rfl (cx rfl rfl (cx rfl rfl (cx rfl rfl (asn rfl (asn rfl (asn rfl (nP ?_)))))));have he:(aB r.2.1).end_ = 2:=(hss.1 (by simpa using h1.1)).2 h1.2;obtain rfl:=over_back he ht.1;refine draw [iQ C i (.bool true)] zk ?_;refine tk 0 rfl (Ev.to (v':=.slice (some ⟨C,0,none⟩) cnt cnt) (Ev.load wA (.t rfl) (c9 (fun w I=>(H w I.keeps).g1) (ah.id _))) (rfl)) ?_;refine tk 1 rfl (Ev.to (v':=I i) (Ev.load ty3 (.t rfl) (c9 (fun w I=>(H w I.keeps).g2) (ah.id _))) (rfl)) ?_;refine tk 2 rfl (Ev.to (v':=.slice (some ⟨C,0,none⟩) cnt cnt) (Ev.load wA (.t rfl) (c9 (fun w I=>(H w I.keeps).g1) (ah.id _))) (rfl)) ?_;refine tk 3 rfl (Ev.to (v':=I i) (Ev.load ty3 (.t rfl) (c9 (fun w I=>(H w I.keeps).g2) (ah.id _))) (rfl)) ?_;refine tk 4 rfl (Ev.to (v':=.pointer (some ⟨C,i,none⟩)) (Ev.je Y41 Tryz.sizeOf4 (.t rfl) (.t rfl) (fun _=>by have:=hG.lt; omega)) (by rw [Int.toNat_natCast])) ?_;refine tk 5 rfl (Ev.pL Y4 Tryz.isAgg4 (.t rfl) zm) ?_;refine tm 6 rfl rfl ?_;refine tkg 7 rfl rfl rfl (Ev.move (.t rfl)) ?_;refine tk 8 rfl (Ev.pkA (.t rfl) rfl) ?_;refine tm 9 rfl rfl ?_;refine tkg 10 rfl rfl rfl (Ev.move (.t rfl)) ?_;refine tkg 11 rfl rfl rfl (Ev.not (.g rfl id)) ?_
    refine tk 12 rfl (Ev.to (v':=.bool true) (Ev.pkA (.t rfl) rfl) (congrArg Value.bool (by simp [he]))) ?_;refine tk 13 rfl (Ev.to (v':=.pointer (some ⟨C,i,none⟩)) (Ev.je Y41 Tryz.sizeOf4 (.t rfl) (.t rfl) (fun _=>by have:=hG.lt; omega)) (by rw [Int.toNat_natCast])) ?_;refine al1 14 rfl ((nM Tryz.sizeOf4 (.t rfl) (.t rfl) rfl zu ?_));refine hdn (ovr (pN (mtP () trivial)))
   ·refine skip (pN (mtP () trivial))
  refine cut (X:=UInt64) (fun x=>(o9 G.ss r.2 (ls ++ [⟨fu bs,decide (r.1 ≠ 1),decide (¬ (if r.1 = 1 then pV G.l1 G.d1 xh.in_ bs else pV G.l2 G.d2 xh.in_ bs).action = 3)⟩]) x)) (fun x=>[dz,(0,true,eB.v),(1,true,pvb p1),(2,true,pvb p2),(3,true,pvb p3),(4,true,pvb p4),(5,true,pvb p5),(7,true,U64 x),(8,true,I k),(13,true,pvb b3),(14,true,.bool (decide (r.1 ≠ 1))),(15,true,I 0),(16,true,U64 (fu bs))]) (fun x=>[Var b3 a7 (if r.1 = 1 then pV G.l1 G.d1 xh.in_ bs else pV G.l2 G.d2 xh.in_ bs) 55,aT o.v bz ls 97,iQ C i (.bool true),iQ Duo.C2 i o.v,RoR (gam r.2)]) ?_ (fun x hx=>?_)
  ·refine sg (mv rfl (nP ?_));refine cnd rfl (fun h2=>?_) (fun h2=>?_)
   ·refine region (mv rfl (mv rfl (co (Ev.gK (.t rfl) (.c (v:=U64 1) rfl)) ?_)));refine co (Ev.max_u64 (.t rfl) (.t rfl)) ?_;refine asn rfl (nP (mtP (_) ?_))
    ·exact s29
   ·refine skip (pN (mtP (_) ?_))
    ·exact s29
  obtain ⟨m2,rfl⟩:∃ y,y = x:=⟨x,rfl⟩;have hm2:o9 G.ss r.2 (ls ++ [⟨fu bs,decide (r.1 ≠ 1),decide (¬ (if r.1 = 1 then pV G.l1 G.d1 xh.in_ bs else pV G.l2 G.d2 xh.in_ bs).action = 3)⟩]) m2:=hx;clear hx;refine seq (draw [iQ C i (.bool true)] zk ?_);refine tk 0 rfl (Ev.to (v':=.slice (some ⟨C,0,none⟩) cnt cnt) (Ev.load wA (.t rfl) (c9 (fun w I=>(H w I.keeps).g1) (ah.id _))) (rfl)) ?_;refine tk 1 rfl (Ev.to (v':=I i) (Ev.load ty3 (.t rfl) (c9 (fun w I=>(H w I.keeps).g2) (ah.id _))) (rfl)) ?_;refine tk 2 rfl (Ev.to (v':=.slice (some ⟨C,0,none⟩) cnt cnt) (Ev.load wA (.t rfl) (c9 (fun w I=>(H w I.keeps).g1) (ah.id _))) (rfl)) ?_;refine tk 3 rfl (Ev.to (v':=I i) (Ev.load ty3 (.t rfl) (c9 (fun w I=>(H w I.keeps).g2) (ah.id _))) (rfl)) ?_;refine tk 4 rfl (Ev.to (v':=.pointer (some ⟨C,i,none⟩)) (Ev.je Y41 Tryz.sizeOf4 (.t rfl) (.t rfl) (fun _=>by have:=hG.lt; omega)) (by rw [Int.toNat_natCast])) ?_;refine tk 5 rfl (Ev.pL Y4 Tryz.isAgg4 (.t rfl) zm) ?_;refine tm 6 rfl rfl ?_;refine tkg 7 rfl rfl rfl (Ev.move (.t rfl)) ?_;refine tkg 8 rfl rfl rfl (Ev.dO (.g rfl id) (.c rfl)) ?_;refine tk 9 rfl (Ev.to (v':=.bool true) (Ev.pkA (.t rfl) rfl) (rfl)) ?_;refine tk 10 rfl (Ev.to (v':=.pointer (some ⟨C,i,none⟩)) (Ev.je Y41 Tryz.sizeOf4 (.t rfl) (.t rfl) (fun _=>by have:=hG.lt; omega)) (by rw [Int.toNat_natCast])) ?_;refine al1 11 rfl ((nM Tryz.sizeOf4 (.t rfl) (.t rfl) rfl zu ?_));refine hdn (ovr (pN (draw [Var b3 a7 (if r.1 = 1 then pV G.l1 G.d1 xh.in_ bs else pV G.l2 G.d2 xh.in_ bs) 55] zk ?_)));refine tk 0 rfl (Ev.to (v':=.slice (some ⟨Duo.C2,0,none⟩) cnt cnt) (Ev.load ty40 (.t rfl) (c9 (fun w I=>(H w I.keeps).g5) (ah.id _))) (rfl)) ?_;refine tk 1 rfl (Ev.to (v':=I i) (Ev.load ty3 (.t rfl) (c9 (fun w I=>(H w I.keeps).g2) (ah.id _))) (rfl)) ?_
  refine tk 2 rfl (Ev.to (v':=.slice (some ⟨Duo.C2,0,none⟩) cnt cnt) (Ev.load ty40 (.t rfl) (c9 (fun w I=>(H w I.keeps).g5) (ah.id _))) (rfl)) ?_;refine tk 3 rfl (Ev.to (v':=I i) (Ev.load ty3 (.t rfl) (c9 (fun w I=>(H w I.keeps).g2) (ah.id _))) (rfl)) ?_;refine tk 4 rfl (Ev.to (v':=.pointer (some ⟨Duo.C2,i,none⟩)) (Ev.je Y40 Tryz.sizeOf95 (.t rfl) (.t rfl) (fun _=>by have:=hG.lt; omega)) (by rw [Int.toNat_natCast])) ?_;refine tm 6 rfl rfl ?_;refine tm 7 rfl rfl ?_;refine tk 8 rfl (fA 0 (.t rfl)) ?_;refine tk 9 rfl (Ev.ldv ty3 (.t rfl) aD.dM) ?_;refine tk 10 rfl (Ev.dS (.t rfl) (.c rfl)) ?_;refine tk 11 rfl (Ev.bu (fs:=_) (places:=[(0,1),(1,1),(2,1)]) z97 rfl Tryz.underlying97 zk (.cons (.t rfl) (.cons (.t rfl) (.cons (.t rfl) .nil))) (ay.cons aL.l_part rfl (ay.cons aL.oE rfl (ay.cons aL.ez rfl ay.nil)))) ?_;refine all [5,12] zk (by decide) (.cons rfl ?_ (.cons rfl ?_ .nil))
  ·refine (opv (Ev.pL Y95 Tryz.isAgg95 (.t rfl) zm) ?_);refine hdn (al1 12 rfl ((buildSlice (E:=bz) Y95 ty97 z97 (.cons (.t rfl) .nil) rfl rfl (fun v4=>?_))));exact s22
  ·refine (buildSlice (E:=bz) Y95 ty97 z97 (.cons (.t rfl) .nil) rfl rfl (fun v6=>?_));refine hdn (al1 5 rfl ((opv (Ev.pL Y95 Tryz.isAgg95 (.t rfl) zm) ?_)));exact s22
 ·refine exit (pX (pX (bX (rH rfl .nil (fun w I=>?_)))));have h12:=hG2.few i;exact ⟨rfl,(I.own _ (show iQ C i (.bool true) ∈ _ from zm)).1,hP _ (post_of hR rfl hN0 I zr (show iQ C i (.bool true) ∈ _ from zm) zm zm hS (by omega))⟩
end Go.Proofs.YtljifjflnakmoaaGreat
namespace Go.Proofs.YtljifjflnakmoaaGreat
open Go Go.Gx Go.Proofs.YtljifjflnakmoaaGreat.Tri Go.Proofs.YtljifjflnakmoaaGreat.Oc
def FnsB (xs:List OV):Prop:=∀ i,i < xs.length→∃ c,xs.getD i cK = clo 21 c
theorem notnil_ok (x:OV) (c:List Value) (w:World) (hx:x = clo 21 c):Gx.Calls Tryz.prog 57 #[x.v] w (bG w (.bool false)):=by
 subst hx;refine en0 5 Tryz.func57 (fun _ _=>?_);refine sg (ac (.bool false) ?_);refine nP (sg (mv rfl (co (Ev.eqlFn Tryz.underlying98 (.t rfl) (.c (v:=.nilFunc) rfl)) ?_)));refine asn rfl (nP (ret (dn rfl rfl ?_)))
 rfl
theorem ty98:tyI 98 (ovE cK):=tyP
theorem indexfn_ok (u:Value) (xs:List OV) (w:World) (hx:aO (ovE cK) w u xs) (hf:FnsB xs):Gx.Calls Tryz.prog 99 #[u,(clo 57 []).v] w (bG w (I (-1))):=by
 have hle:=hx.le;refine en0 19 Tryz.func99 (fun _ _=>?_);refine sg (ac (I 0) ?_);refine nP (seq (sg (mv rfl (co (Ev.len Y39 (.t rfl) zf) ?_))));refine co (Ev.move (.c rfl)) ?_;refine nP (block (lpo (X:=Int) (fun x=>(0 ≤ x ∧ x ≤ xs.length)) (fun x=>[dz,(0,true,u),(1,true,(clo 57 []).v),(7,true,I xs.length),(8,true,I x)]) (fun x=>[]) (fun x=>((xs.length:Int) - x).toNat) (0) (fun x hx=>?_)));obtain ⟨i,rfl⟩:∃ y,y = x:=⟨x,rfl⟩;have hi:0 ≤ i ∧ i ≤ xs.length:=hx;clear hx;refine sg (co (Ev.cj (.t rfl) (.t rfl)) ?_);refine nP (seq ?_);refine cnd rfl (fun h0=>?_) (fun h0=>?_)
 ·refine skip (pN (seq (block (sg (mv rfl (asn rfl (nP (sg (mv rfl (mv rfl (mv rfl (co (Ev.indexAddr Y39 ty98 (.t rfl) (.t rfl) zf (fun _=>zo)) ?_))))))))))));refine co (Ev.bV ty98 (.t rfl) zf (fun _=>zo)) ?_;refine cons (jS (.t rfl) (Gx.cv.mk' zk) (.cons (.t rfl) .nil) (fun w I=>notnil_ok _ _ w (hf i.toNat (by omega)).choose_spec) ?_);refine nP (fL rfl (rfl) ?_);refine skip (bN (pN (region (co (Ev.bL (.t rfl) (.c rfl) (fun _=>zo)) ?_))));refine mv rfl (nP (nxo (i + 1)))
 ·refine exit (pX (pX (bX (pN (sg (ac (I (-1)) ?_))))));refine nP (ret (dn rfl rfl ?_))
  rfl
theorem uX (u:Value) (xs:List OV) (w:World) (hx:aO (ovE cK) w u xs) (hf:FnsB xs):Gx.Calls Tryz.prog 56 #[u,(clo 57 []).v] w (bG w (.bool false)):=by
 refine en0 9 Tryz.func56 (fun _ _=>?_);refine sg (ac (.bool false) ?_);refine nP (sg (mv rfl (mv rfl (cons (aQ eN (o2 rfl rfl) (fun w I=>indexfn_ok u xs w (hx.aV I.keeps) hf) ?_)))));refine co (Ev.tS (.t rfl) (.c rfl)) ?_;refine asn rfl (nP (ret (dn rfl rfl ?_)))
 rfl
theorem wrong_ok (u:Value) (xs:List OV) (w:World) (hx:aO (ovE cK) w u xs) (hf:FnsB xs) (hn:0 < xs.length ∧ xs.length ≤ 16):Gx.Calls Tryz.prog 26 #[u] w (bG w (I 0)):=by
 refine en0 14 Tryz.func26 (fun _ _=>?_);refine sg (ac (I 0) ?_);refine nP (seq (block (sg (mv rfl (cons (aQ eN (.cons (.t rfl) (.cons .f .nil)) (fun w I=>uX u xs w (hx.aV I.keeps) hf) ?_))))));refine asn rfl (nP (fL rfl (rfl) ?_));refine sg (mv rfl (co (Ev.len Y39 (.t rfl) zf) ?_));refine co (Ev.dO (.t rfl) (.c rfl)) ?_;refine asn rfl (nP (fL rfl (decide_eq_false (by omega)) ?_));refine sg (mv rfl (co (Ev.len Y39 (.t rfl) zf) ?_));refine co (Ev.ir (.t rfl) (.c rfl)) ?_;refine asn rfl (nP (fL rfl (decide_eq_false (by omega)) ?_));refine skip (bN (pN (sg (ac (I 0) ?_))));refine nP (ret (dn rfl rfl ?_))
 rfl
end Go.Proofs.YtljifjflnakmoaaGreat
namespace Go.Proofs.YtljifjflnakmoaaGreat
open Go Go.Gx Go.Proofs.YtljifjflnakmoaaGreat.Tri Go.Proofs.YtljifjflnakmoaaGreat.Oc
structure HoldF (ss:List au) (n:UInt64) (cnt:Nat) (lss:Nat→List aL):Prop where
 wf:WfW ss n
 ge:kU ss n ≤ du (fun k=>im (lss k)) cnt
 eq:(aB n).end_ ≠ 1→du (fun k=>im (lss k)) cnt = kU ss n ∧ du (fun k=>jF (lss k)) cnt ≤ mstd ss n
theorem nL {f g:Nat→Nat}:∀ {B:Nat},(∀ k,k < B→f k ≤ g k)→du f B ≤ du g B
 | 0,_=>Nat.le_refl _
 | B + 1,h=>by
   have h1:=nL (B:=B) fun k hk=>h k (by omega)
   have h2:=h B (by omega);simp only [du]; omega
theorem kv {c:Nat}:∀ {B:Nat},du (fun _=>c) B = B * c
 | 0=>by simp [du]
 | B + 1=>by simp only [du,kv (B:=B)]; rw [Nat.succ_mul]
theorem newsC_le (l:List aL):im l ≤ l.length:=List.countP_le_length
theorem dropC_le (l:List aL):jF l ≤ l.length:=List.countP_le_length
theorem vf {α:Type} {l:List α} {j:Nat} (z:α) (h:j < l.length):l.take (j + 1) = l.take j ++ [l.getD j z]:=by
 rw [List.take_add_one,List.getD_eq_getElem?_getD,List.getElem?_eq_getElem h]
 rfl
theorem newsC_take {l:List aL} {j:Nat} (h:j < l.length):im (l.take (j + 1)) = im (l.take j) + (l.getD j bz.zero).new.toNat:=by rw [vf bz.zero h,kl]
theorem dropC_take {l:List aL} {j:Nat} (h:j < l.length):jF (l.take (j + 1)) = jF (l.take j) + ((l.getD j bz.zero).new && (l.getD j bz.zero).dropped).toNat:=by rw [vf bz.zero h,qN]
theorem u64_add1 {a:UInt64} {k m:Nat} (h:a.toNat = k) (hm:k + 1 = m) (hs:k < 1000000):(a + 1).toNat = m:=by rw [add1 _ (by omega),h,hm]
theorem u64_addn {a b:UInt64} {k m l:Nat} (h:a.toNat = k) (h':b.toNat = m) (hm:k + m = l) (hs:l < 1000000000):(a + b).toNat = l:=by
 rw [UInt64.toNat_add,h,h',hm];exact Nat.mod_eq_of_lt (by omega)
theorem hold_facts {ss:List au} {n:UInt64} {cnt:Nat} {lss:Nat→List aL} {news drop counted ca:UInt64} {x:au} (hg:fE ss) (H:HoldF ss n cnt lss) (hn:news.toNat = du (fun k=>im (lss k)) cnt) (hd:drop.toNat = du (fun k=>jF (lss k)) cnt)
 (hc:counted.toNat = (aB n).seen.toNat + du (wt ss) (aB n).stage.toNat) (hm:ca.toNat = (aB n).dropped.toNat + du (mo ss) (aB n).stage.toNat) (hx:ss.getD (aB n).stage.toNat aS.zero = x) :
 (¬ x.wait < (aB n).seen ∧ ¬ (aB n).seen < (aB n).dropped ∧ ¬ x.ca + 1 < (aB n).dropped ∧ ¬ news < counted) ∧ ((aB n).end_ = 0→news = counted ∧ drop ≤ ca ∧ (aB n).seen < x.wait ∧ (aB n).dropped ≤ x.ca) ∧
 ((aB n).end_ = 1→(aB n).stage.toNat + 1 = ss.length ∧ (aB n).seen = x.wait ∧ (aB n).dropped ≤ x.ca) ∧ ((aB n).end_ ≠ 0→(aB n).end_ ≠ 1→news = counted ∧ drop ≤ ca ∧ (aB n).dropped = x.ca + 1):=by
 have hw:=hg.w _ H.wf.lt;have e1:x.wait.toNat = wt ss (aB n).stage.toNat:=by rw [← hx]; rfl
 have e2:x.ca.toNat = mo ss (aB n).stage.toNat:=by rw [← hx]; rfl
 have e3:(x.ca + 1).toNat = x.ca.toNat + 1:=add1 _ (by omega);have h1:=H.ge;have h2:=H.eq;have h3:=H.wf.ds;have hcn:counted.toNat = kU ss n:=hc;have hmn:ca.toNat = mstd ss n:=hm;simp only [UInt64.lt_iff_toNat_lt,UInt64.le_iff_toNat_le,← UInt64.toNat_inj,e3];have z0:(0:UInt64).toNat = 0:=rfl;have z1:(1:UInt64).toNat = 1:=rfl;rw [z0,z1];have h2':(aB n).end_.toNat ≠ 1→du (fun k=>im (lss k)) cnt = kU ss n ∧ du (fun k=>jF (lss k)) cnt ≤ mstd ss n:=fun e=>h2 fun e'=>e (by rw [e']; rfl)
 refine ⟨⟨?_,?_,?_,?_⟩,fun e=>?_,fun e=>?_,fun e e'=>?_⟩
 ·rcases H.wf.alt with h | h | h <;> omega
 ·omega
 ·rcases H.wf.alt with h | h | h <;> omega
 ·omega
 ·have e9:(aB n).end_.toNat = 0:=e;have:=h2' (by omega)
  rcases H.wf.alt with h | h | h <;> omega
 ·rcases H.wf.alt with h | h | h <;> omega
 ·have:=h2 e';have z2:(aB n).end_.toNat ≠ 1:=fun h=>e' (UInt64.toNat_inj.1 h)
  have z3:(aB n).end_.toNat ≠ 0:=fun h=>e (UInt64.toNat_inj.1 h)
  rcases H.wf.alt with h | h | h <;> omega
theorem stage_main (x:RX) (ss:List au) (hst:dk ss 0 = true) (m:UInt64) (hw:WfW ss m) (w:World) (hat:At (Var x.b aH (x.rv m) 72) w):Gx.Calls Tryz.prog 15 #[.pointer (some ⟨x.b,0,none⟩),eB.v] w (Gx.fV w (Var x.b aH (x.rv m) 72) (fun _:Unit=>True) (fun _=>.tuple #[I ((aB m).stage.toNat:Int),U64 (aB m).seen,U64 (aB m).dropped,I 0]) (fun _=>Var x.b aH (x.rv m) 72)):=fun X fr hfr hM=>by
 refine (stage_ok (mainI x ss (mb hst) (hM _ rfl)) ⟨m,hw⟩ w hfr hM hat).mono (fun _ h=>h) ?_;exact s47
theorem over_main (x:RX) (ss:List au) (hst:dk ss 0 = true) (m:UInt64) (hw:WfW ss m) (w:World) (hat:At (Var x.b aH (x.rv m) 72) w):Gx.Calls Tryz.prog 16 #[.pointer (some ⟨x.b,0,none⟩),eB.v] w (Gx.fV w (Var x.b aH (x.rv m) 72) (fun _:Unit=>True) (fun _=>.tuple #[.bool (decide (¬ (aB m).end_ = 0)),.bool (decide ((aB m).end_ = 1)),I 0]) (fun _=>Var x.b aH (x.rv m) 72)):=fun X fr hfr hM=>by
 refine (wQ (mainI x ss (mb hst) (hM _ rfl)) ⟨m,hw⟩ w hfr hM hat).mono (fun _ h=>h) ?_;exact s47
theorem rep_at {n k:Nat} (h:k < n):(List.replicate n true).getD k bE.zero = true:=by simp [List.getD,h]
structure HoldAt (w:World) (u1 u2 u3:Value) (ss:List au) (cnt:Nat) (os:List OV) (lss:Nat→List aL):Prop where
 s:aO aS w u1 ss
 o:aO (ovE ai) w u2 os
 r:∀ k,k < os.length→aO bz w (os.getD k ai).v (lss k)
 g:aO bE w u3 (List.replicate cnt true)
theorem holds_ok (rx:RX) (ss:List au) (n:UInt64) (cnt:Nat) (u1 u2 u3:Value) (os:List OV) (lss:Nat→List aL) (w:World) (h:At (Var rx.b aH (rx.rv n) 72) w) (hst:dk ss 0 = true) (hF:HoldF ss n cnt lss) (hol:os.length = cnt) (hc:cnt ≤ 16) (hl:∀ k,k < cnt→(lss k).length ≤ 12) (hA:∀ w2,aJ (Var rx.b aH (rx.rv n) 72).bQ w w2→HoldAt w2 u1 u2 u3 ss cnt os lss):Gx.Calls Tryz.prog 10 #[.pointer (some ⟨rx.b,0,none⟩),u1,u2,u3] w (Gx.fV w (Var rx.b aH (rx.rv n) 72) (fun _:Unit=>True) (fun _=>.bool true) (fun _=>Var rx.b aH (rx.rv n) 72)):=by
 have hg:=mb hst;have hsl:=hF.wf.lt;have hgl:=hg.l;have hrl:(List.replicate cnt true).length = cnt:=List.length_replicate;have hsm:=hF.wf.small hg;have hsn:=hsm.n;have hsd:=hsm.d;refine enter 198 [Var rx.b aH (rx.rv n) 72] Tryz.func10 rfl rfl (Nat.le_of_ble_eq_true rfl) (gU h) (fun _ _=>?_);refine sg (ac (.bool false) ?_);refine nP (sg (ac (U64 0) ?_));refine ac (U64 0) ?_;refine nP (seq (sg (ac (I 0) ?_)));refine nP (block (lp (X:=Int × UInt64 × UInt64) (fun x=>(0 ≤ x.1 ∧ x.1 ≤ cnt) ∧ (x.2.1.toNat = du (fun k=>im (lss k)) x.1.toNat) ∧ (x.2.2.toNat = du (fun k=>jF (lss k)) x.1.toNat)) (fun x=>[dz,(0,true,pvb rx.b),(1,true,u1),(2,true,u2),(3,true,u3),(9,true,U64 x.2.1),(10,true,U64 x.2.2),(11,true,I x.1)]) (fun x=>[Var rx.b aH (rx.rv n) 72]) (fun x=>((cnt:Int) - x.1).toNat) (0,0,0) ⟨?_,?_,?_⟩ (fun x hx=>?_)))
 ·omega
 ·rfl
 ·rfl
 obtain ⟨i,a,d⟩:=x;dsimp only at hx;obtain ⟨hi,ha,hd⟩:=hx;refine seq (sg (mv rfl (mv rfl (co (Ev.len Y40 (.t rfl) (fun w I=>(hA w I.keeps).o)) ?_))));refine co (Ev.cj (.t rfl) (.t rfl)) ?_;refine nP ?_;refine cnd rfl (fun hlt=>?_) (fun hge=>?_)
 ·refine skip (pN (seq (block (seq (sg (mv rfl (mv rfl (co (Ev.indexAddr Y41 ty4 (.t rfl) (.t rfl) (fun w I=>(hA w I.keeps).g) (fun _=>zo)) ?_))))))));refine co (Ev.bV ty4 (.t rfl) (fun w I=>(hA w I.keeps).g) (fun _=>zo)) ?_;refine co (Ev.not (.t rfl)) ?_;refine nP (fL rfl (by rw [rep_at (by omega)]; rfl) ?_);refine skip (pN (seq ?_));have hb1:du (fun k=>im (lss k)) i.toNat ≤ i.toNat * 12:=by rw [← kv]; exact nL fun k hk=>Nat.le_trans (newsC_le _) (hl k (by omega))
  have hb2:du (fun k=>jF (lss k)) i.toNat ≤ i.toNat * 12:=by rw [← kv]; exact nL fun k hk=>Nat.le_trans (dropC_le _) (hl k (by omega))
  have hli:=hl i.toNat (by omega);refine region (ac (I 0) ?_);refine nP (block (lp (X:=Int × UInt64 × UInt64) (fun x=>(0 ≤ x.1 ∧ x.1 ≤ (lss i.toNat).length) ∧ (x.2.1.toNat = du (fun k=>im (lss k)) i.toNat + im ((lss i.toNat).take x.1.toNat)) ∧ (x.2.2.toNat = du (fun k=>jF (lss k)) i.toNat + jF ((lss i.toNat).take x.1.toNat))) (fun x=>[dz,(0,true,pvb rx.b),(1,true,u1),(2,true,u2),(3,true,u3),(9,true,U64 x.2.1),(10,true,U64 x.2.2),(11,true,I i),(12,true,I x.1)]) (fun x=>[Var rx.b aH (rx.rv n) 72]) (fun x=>(((lss i.toNat).length:Int) - x.1).toNat) (0,a,d) ⟨?_,?_,?_⟩ (fun x hx=>?_)))
  ·omega
  ·rw [ha]; rfl
  ·rw [hd]; rfl
  obtain ⟨j,a2,d2⟩:=x;dsimp only at hx;obtain ⟨hj,ha2,hd2⟩:=hx;refine seq (sg (mv rfl (mv rfl (mv rfl (co (Ev.indexAddr Y40 ty95 (.t rfl) (.t rfl) (fun w I=>(hA w I.keeps).o) (fun _=>zo)) ?_)))));refine co (Ev.bV ty95 (.t rfl) (fun w I=>(hA w I.keeps).o) (fun _=>zo)) ?_;refine co (Ev.len Y95 (.t rfl) (fun w I=>(hA w I.keeps).r i.toNat (by omega))) ?_;refine co (Ev.cj (.t rfl) (.t rfl)) ?_;refine nP ?_;refine cnd rfl (fun hlt2=>?_) (fun hge2=>?_)
  ·refine skip (pN (seq (block (seq ?_))));have hb3:im ((lss i.toNat).take j.toNat) ≤ 12:=Nat.le_trans (newsC_le _) (by rw [List.length_take]; omega);have hb4:jF ((lss i.toNat).take j.toNat) ≤ 12:=Nat.le_trans (dropC_le _) (by rw [List.length_take]; omega);refine region (mv rfl (mv rfl (co (Ev.indexAddr Y40 ty95 (.t rfl) (.t rfl) (fun w I=>(hA w I.keeps).o) (fun _=>zo)) ?_)));refine co (Ev.bV ty95 (.t rfl) (fun w I=>(hA w I.keeps).o) (fun _=>zo)) ?_;refine mv rfl (co (Ev.indexAddr Y95 ty97 (.t rfl) (.t rfl) (fun w I=>(hA w I.keeps).r i.toNat (by omega)) (fun _=>zo)) ?_);refine co (Ev.gw (o:=1) (i:=j) (.t rfl) (fun w I=>(hA w I.keeps).r i.toNat (by omega)) (fun _=>zo) zk) ?_;refine co (Ev.pM ty4 aL.oE rfl (.t rfl) (fun w I=>(hA w I.keeps).r i.toNat (by omega)) (fun _=>zo)) ?_;refine nP ?_;refine cnd rfl (fun h3=>?_) (fun h3=>?_)
   ·have h3:((lss i.toNat).getD j.toNat bz.zero).new = true:=h3;refine sg (mv rfl (co (Ev.gK (.t rfl) (.c (v:=U64 1) rfl)) ?_));refine asn rfl (nP (sg (mv rfl (mv rfl (co (Ev.indexAddr Y40 ty95 (.t rfl) (.t rfl) (fun w I=>(hA w I.keeps).o) (fun _=>zo)) ?_)))));refine co (Ev.bV ty95 (.t rfl) (fun w I=>(hA w I.keeps).o) (fun _=>zo)) ?_;refine mv rfl (co (Ev.indexAddr Y95 ty97 (.t rfl) (.t rfl) (fun w I=>(hA w I.keeps).r i.toNat (by omega)) (fun _=>zo)) ?_);refine co (Ev.gw (o:=2) (i:=j) (.t rfl) (fun w I=>(hA w I.keeps).r i.toNat (by omega)) (fun _=>zo) zk) ?_;refine co (Ev.pM ty4 aL.ez rfl (.t rfl) (fun w I=>(hA w I.keeps).r i.toNat (by omega)) (fun _=>zo)) ?_;refine nP ?_;refine cnd rfl (fun h4=>?_) (fun h4=>?_)
    ·have h4:((lss i.toNat).getD j.toNat bz.zero).dropped = true:=h4;refine region (mv rfl (co (Ev.gK (.t rfl) (.c (v:=U64 1) rfl)) ?_));refine asn rfl (nil (bN (pN (region (mv rfl (co (Ev.bL (.t rfl) (.c rfl) (fun _=>zo)) ?_))))));exact s13
    ·have h4:((lss i.toNat).getD j.toNat bz.zero).dropped = false:=by simpa using h4
     exact s84
   ·have h3:((lss i.toNat).getD j.toNat bz.zero).new = false:=by simpa using h3
    exact s84
  ·refine exit (pX (pX (bX (bN (pN (region (mv rfl (co (Ev.bL (.t rfl) (.c rfl) (fun _=>zo)) ?_))))))));refine asn rfl (nP (nx (i + 1,a2,d2) ⟨?_,?_,?_⟩ ?_))
   ·try dsimp only
    omega
   ·try dsimp only
    rw [show (i + 1).toNat = i.toNat + 1 by omega,ha2,List.take_of_length_le (by omega)]; rfl
   ·try dsimp only
    rw [show (i + 1).toNat = i.toNat + 1 by omega,hd2,List.take_of_length_le (by omega)]; rfl
   ·try dsimp only
    omega
 ·refine exit (pX (pX (bX (pN (sg (mv rfl (cons (lQ (X:=Unit) (fun _=>True) (fun _=>.tuple #[I ((aB n).stage.toNat:Int),U64 (aB n).seen,U64 (aB n).dropped,I 0]) (r:=Var rx.b aH (rx.rv n) 72) (r':=fun _=>Var rx.b aH (rx.rv n) 72) (fun _=>zu) zm eN (.cons (.t rfl) (.cons (.c (v:=Go.Value.nilIface) rfl) .nil)) (fun w I=>stage_main rx ss hst n hF.wf w (am w I)) (fun _ _=>?_)))))))));refine mv rfl (cx rfl rfl (cx rfl rfl (cx rfl rfl (cx rfl rfl (asn rfl (asn rfl (asn rfl (asn rfl (nP (sg (mv rfl (cons (lQ (X:=Unit) (fun _=>True) (fun _=>.tuple #[.bool (decide (¬ (aB n).end_ = 0)),.bool (decide ((aB n).end_ = 1)),I 0]) (r:=Var rx.b aH (rx.rv n) 72) (r':=fun _=>Var rx.b aH (rx.rv n) 72) (fun _=>zu) zm eN (.cons (.t rfl) (.cons (.c (v:=Go.Value.nilIface) rfl) .nil)) (fun w I=>over_main rx ss hst n hF.wf w (am w I)) (fun _ _=>?_))))))))))))));refine mv rfl (cx rfl rfl (cx rfl rfl (cx rfl rfl (asn rfl (asn rfl (asn rfl (nP (seq (sg (mv rfl (co (Ev.dS (.t rfl) (.c rfl)) ?_)))))))))));refine mv rfl (cg rfl rfl (Ev.move (.t rfl)) ?_);refine cg rfl rfl (Ev.dS (.g rfl id) (.c rfl)) ?_;refine co (Ev.pkO (.t rfl) rfl) ?_;refine mv rfl (cg rfl rfl (Ev.move (.t rfl)) ?_);refine cg rfl rfl (Ev.cj (.g rfl id) (.c rfl)) ?_;refine co (Ev.pkO (.t rfl) rfl) ?_;refine mv rfl (cg rfl rfl (Ev.move (.t rfl)) ?_);refine cg rfl rfl (Ev.move (.t rfl)) ?_;refine cg rfl rfl (Ev.len Y29 (.g rfl id) (fun w I=>(hA w I.keeps).s)) ?_;refine cg rfl rfl (Ev.tS (.g rfl id) (.g rfl id)) ?_;refine co (Ev.pkO (.t rfl) rfl) ?_;refine nP (fL rfl (by simp; omega) ?_);refine skip (pN (sg (mv rfl (mv rfl (asn rfl (asn rfl (nP (seq (sg (ac (I 0) ?_))))))))))
  refine nP (block (lp (X:=Int × UInt64 × UInt64) (fun x=>(0 ≤ x.1 ∧ x.1 ≤ ((aB n).stage.toNat:Int)) ∧ (x.2.1.toNat = (aB n).seen.toNat + du (wt ss) x.1.toNat) ∧ (x.2.2.toNat = (aB n).dropped.toNat + du (mo ss) x.1.toNat)) (fun x=>[dz,(0,true,pvb rx.b),(1,true,u1),(2,true,u2),(3,true,u3),(9,true,U64 a),(10,true,U64 d),(13,true,I ((aB n).stage.toNat:Int)),(14,true,U64 (aB n).seen),(15,true,U64 (aB n).dropped),(17,true,.bool (decide (¬ (aB n).end_ = 0))),(18,true,.bool (decide ((aB n).end_ = 1))),(20,true,U64 x.2.1),(21,true,U64 x.2.2),(22,true,I x.1)]) (fun x=>[Var rx.b aH (rx.rv n) 72]) (fun x=>(((aB n).stage.toNat:Int) - x.1).toNat) (0,(aB n).seen,(aB n).dropped) ⟨?_,?_,?_⟩ (fun x hx=>?_)))
  ·omega
  ·rfl
  ·rfl
  obtain ⟨p,c,m⟩:=x;dsimp only at hx;obtain ⟨hp,hcc,hmm⟩:=hx;refine seq (sg (mv rfl (mv rfl (co (Ev.cj (.t rfl) (.t rfl)) ?_))));refine nP ?_;refine cnd rfl (fun hlt3=>?_) (fun hge3=>?_)
  ·refine skip (pN (seq (block (seq ?_))));have hb5:du (wt ss) p.toNat ≤ p.toNat * 1048576:=by rw [← kv]; exact nL fun k hk=>(hg.w k (by omega)).2.1
   have hb6:du (mo ss) p.toNat ≤ p.toNat * 1048576:=by rw [← kv]; exact nL fun k hk=>(hg.w k (by omega)).2.2
   have hb7:=hg.w p.toNat (by omega);have hb10:du (wt ss) (p.toNat + 1) = du (wt ss) p.toNat + wt ss p.toNat:=rfl;have hb11:du (mo ss) (p.toNat + 1) = du (mo ss) p.toNat + mo ss p.toNat:=rfl;have hb8:wt ss p.toNat = (ss.getD p.toNat aS.zero).wait.toNat:=rfl;have hb9:mo ss p.toNat = (ss.getD p.toNat aS.zero).ca.toNat:=rfl;refine region (mv rfl (mv rfl (mv rfl (co (Ev.indexAddr Y29 ju (.t rfl) (.t rfl) (fun w I=>(hA w I.keeps).s) (fun _=>zo)) ?_))));refine co (Ev.gw (o:=1) (i:=p) (.t rfl) (fun w I=>(hA w I.keeps).s) (fun _=>zo) zk) ?_;refine co (Ev.pM eO au.gP rfl (.t rfl) (fun w I=>(hA w I.keeps).s) (fun _=>zo)) ?_;refine co (Ev.gK (.t rfl) (.t rfl)) ?_;refine asn rfl (nP (region (mv rfl (mv rfl (mv rfl (co (Ev.indexAddr Y29 ju (.t rfl) (.t rfl) (fun w I=>(hA w I.keeps).s) (fun _=>zo)) ?_))))));refine co (Ev.gw (o:=2) (i:=p) (.t rfl) (fun w I=>(hA w I.keeps).s) (fun _=>zo) zk) ?_;refine co (Ev.pM eO au.jc rfl (.t rfl) (fun w I=>(hA w I.keeps).s) (fun _=>zo)) ?_;refine co (Ev.gK (.t rfl) (.t rfl)) ?_;refine asn rfl (nil (bN (pN (region (mv rfl (co (Ev.bL (.t rfl) (.c rfl) (fun _=>zo)) ?_))))));refine asn rfl (nP (nx (p + 1,_,_) ⟨?_,?_,?_⟩ ?_))
   ·try dsimp only
    omega
   ·try dsimp only
    rw [show (p + 1).toNat = p.toNat + 1 by omega]; exact u64_addn hcc rfl (by simp only [du]; exact Nat.add_assoc _ _ _) (by omega)
   ·try dsimp only
    rw [show (p + 1).toNat = p.toNat + 1 by omega]; exact u64_addn hmm rfl (by simp only [du]; exact Nat.add_assoc _ _ _) (by omega)
   ·try dsimp only
    omega
  ·refine exit (pX (pX (bX (pN (seq ?_)))));obtain ⟨xs,hx⟩:∃ z,ss.getD (aB n).stage.toNat aS.zero = z:=⟨_,rfl⟩;have hp2:p.toNat = (aB n).stage.toNat:=by omega
   have hi2:i.toNat = cnt:=by omega
   rw [hp2] at hcc hmm;rw [hi2] at ha hd;obtain ⟨⟨q1,q2,q3,q4⟩,q5,q6,q7⟩:=hold_facts hg hF ha hd hcc hmm hx;refine region (mv rfl (mv rfl (co (Ev.indexAddr Y29 ju (.t rfl) (.t rfl) (fun w I=>(hA w I.keeps).s) (fun _=>zo)) ?_)));refine co (Ev.to (v':=aS.val xs) (Ev.bV ju (.t rfl) (fun w I=>(hA w I.keeps).s) (fun _=>by omega)) (by rw [Int.toNat_natCast,hx])) ?_;refine cons (alloc z53 (fun b1=>?_));refine cons (stv ju (ah.id _) (.t rfl) (.t rfl) ?_);refine nP (seq (sg (mv rfl (cf 1 rfl ?_))));refine co (Ev.ldv eO (.t rfl) au.gP) ?_;refine co (Ev.gJ (.t rfl) (.t rfl)) ?_;refine mv rfl (cg rfl rfl (Ev.move (.t rfl)) ?_);refine cg rfl rfl (Ev.move (.t rfl)) ?_;refine cg rfl rfl (Ev.gJ (.g rfl id) (.g rfl id)) ?_;refine co (Ev.pkO (.t rfl) rfl) ?_;refine mv rfl (cg rfl rfl (Ev.move (.t rfl)) ?_);refine cg rfl rfl (fA 2 (.t rfl)) ?_;refine cg rfl rfl (Ev.ldv eO (.g rfl id) au.jc) ?_;refine cg rfl rfl (Ev.gK (.g rfl id) (.c (v:=U64 1) rfl)) ?_;refine cg rfl rfl (Ev.gJ (.g rfl id) (.g rfl id)) ?_;refine co (Ev.pkO (.t rfl) rfl) ?_;refine mv rfl (cg rfl rfl (Ev.move (.t rfl)) ?_);refine cg rfl rfl (Ev.move (.t rfl)) ?_;refine cg rfl rfl (Ev.j3 (.g rfl id) (.g rfl id)) ?_;refine co (Ev.pkO (.t rfl) rfl) ?_;refine nP (fL rfl (by simp [q1,q2,q3,q4]) ?_);refine skip (pN (seq (sg (mv rfl (co (Ev.not (.t rfl)) ?_)))));refine nP ?_;refine cnd rfl (fun h8=>?_) (fun h8=>?_)
   ·refine sg (mv rfl (mv rfl (co (Ev.jr (.t rfl) (.t rfl)) ?_)));refine mv rfl (cg rfl rfl (Ev.move (.t rfl)) ?_);refine cg rfl rfl (Ev.move (.t rfl)) ?_;refine cg rfl rfl (Ev.sj (.g rfl id) (.g rfl id)) ?_;refine co (Ev.pkA (.t rfl) rfl) ?_;refine mv rfl (cg rfl rfl (Ev.move (.t rfl)) ?_);refine cg rfl rfl (fA 1 (.t rfl)) ?_;refine cg rfl rfl (Ev.ldv eO (.g rfl id) au.gP) ?_;refine cg rfl rfl (Ev.j3 (.g rfl id) (.g rfl id)) ?_;refine co (Ev.pkA (.t rfl) rfl) ?_;refine mv rfl (cg rfl rfl (Ev.move (.t rfl)) ?_);refine cg rfl rfl (fA 2 (.t rfl)) ?_;refine cg rfl rfl (Ev.ldv eO (.g rfl id) au.jc) ?_;refine cg rfl rfl (Ev.sj (.g rfl id) (.g rfl id)) ?_;refine co (Ev.pkA (.t rfl) rfl) ?_;refine mv rfl (cg rfl rfl (Ev.move (.t rfl)) ?_);refine cg rfl rfl (Ev.not (.g rfl id)) ?_;refine co (Ev.pkA (.t rfl) rfl) ?_;refine asn rfl (nP (ret (pR (done rfl (.tmp rfl .nil) (fun w I=>?_)))));exact Gx.mY (r':=fun _=>Var rx.b aH (rx.rv n) 72) () trivial (congrArg Value.bool (by obtain ⟨z1,z2,z3,z4⟩:=q5 (by simpa using h8); simp [z1,z2,z3,z4,show (aB n).end_ = 0 by simpa using h8])) (by repeat first | exact mH | apply mT | apply mA) w I
   ·refine skip (pN (seq (sg (mv rfl (nP ?_)))));refine cnd rfl (fun h9=>?_) (fun h9=>?_)
    ·refine sg (mv rfl (mv rfl (co (Ev.len Y29 (.t rfl) (fun w I=>(hA w I.keeps).s)) ?_)));refine co (Ev.jV (.t rfl) (.c rfl) (fun _=>zo)) ?_;refine co (Ev.dO (.t rfl) (.t rfl)) ?_;refine mv rfl (cg rfl rfl (Ev.move (.t rfl)) ?_);refine cg rfl rfl (fA 1 (.t rfl)) ?_;refine cg rfl rfl (Ev.ldv eO (.g rfl id) au.gP) ?_;refine cg rfl rfl (Ev.jr (.g rfl id) (.g rfl id)) ?_;refine co (Ev.pkA (.t rfl) rfl) ?_;refine mv rfl (cg rfl rfl (Ev.move (.t rfl)) ?_);refine cg rfl rfl (fA 2 (.t rfl)) ?_;refine cg rfl rfl (Ev.ldv eO (.g rfl id) au.jc) ?_;refine cg rfl rfl (Ev.sj (.g rfl id) (.g rfl id)) ?_;refine co (Ev.pkA (.t rfl) rfl) ?_;refine asn rfl (nP (ret (pR (done rfl (.tmp rfl .nil) (fun w I=>?_)))));exact Gx.mY (r':=fun _=>Var rx.b aH (rx.rv n) 72) () trivial (congrArg Value.bool (by obtain ⟨z1,z2,z3⟩:=q6 (by simpa using h9); simp [z2,z3]; omega)) (by repeat first | exact mH | apply mT | apply mA) w I
    ·refine skip (pN (sg (mv rfl (mv rfl (co (Ev.jr (.t rfl) (.t rfl)) ?_)))));refine mv rfl (cg rfl rfl (Ev.move (.t rfl)) ?_);refine cg rfl rfl (Ev.move (.t rfl)) ?_;refine cg rfl rfl (Ev.sj (.g rfl id) (.g rfl id)) ?_;refine co (Ev.pkA (.t rfl) rfl) ?_;refine mv rfl (cg rfl rfl (Ev.move (.t rfl)) ?_);refine cg rfl rfl (fA 2 (.t rfl)) ?_;refine cg rfl rfl (Ev.ldv eO (.g rfl id) au.jc) ?_;refine cg rfl rfl (Ev.gK (.g rfl id) (.c (v:=U64 1) rfl)) ?_;refine cg rfl rfl (Ev.jr (.g rfl id) (.g rfl id)) ?_;refine co (Ev.pkA (.t rfl) rfl) ?_;refine asn rfl (nP (ret (done rfl (.tmp rfl .nil) (fun w I=>?_))));exact Gx.mY (r':=fun _=>Var rx.b aH (rx.rv n) 72) () trivial (congrArg Value.bool (by obtain ⟨z1,z2,z3⟩:=q7 (by simpa using h8) (by simpa using h9); simp [z1,z2,z3])) (by repeat first | exact mH | apply mT | apply mA) w I
end Go.Proofs.YtljifjflnakmoaaGreat
