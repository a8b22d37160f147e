/- Part. -/
import Derived.Test.YtljifjflnakmoaaGreatRows
import Derived.Test.YtljifjflnakmoaaGreatHxZ
set_option linter.unusedVariables false
set_option linter.unusedSimpArgs false
set_option linter.unusedSectionVars false
set_option maxRecDepth 100000
set_option maxHeartbeats 2000000
namespace Go.Gx
open Go Go.RowKit
section
variable {α β γ:Type} {P:Program}
variable {K:Ctx} {F:Fr} {L:List Res} {g:Bool} {Q:Exit→Act→World→Prop} {N:Act→World→Prop} {ops:Array Oper} {rest:List Oper}
 {op:Op} {ty t t':TypeId} {pos:String} {af:Array Edge} {d:Nat} {x y z:Operand} {v:Value}
theorem co (h:Ev P K F L true op ty v) (next:Sat K (wpList P K ops Q rest) ((d,true,v) :: F) L) (hd:Nat.blt d K.n = true:=by rfl):Sat K (wpList P K ops Q (⟨some d,op,ty,pos,af,none⟩ :: rest)) F L:=cons (opv h next hd)
theorem mv {s:Nat} (h:look F s = some (true,v)) (next:Sat K (wpList P K ops Q rest) ((d,true,v) :: F) L) (hd:Nat.blt d K.n = true:=by rfl):Sat K (wpList P K ops Q (⟨some d,.move (.tmp s),ty,pos,af,none⟩ :: rest)) F L:=cons (opv (Ev.move (.t h)) next hd)
theorem asn {s:Nat} (h:look F s = some (true,v)) (next:Sat K (wpList P K ops Q rest) ((d,true,v) :: F) L) (hd:Nat.blt d K.n = true:=by rfl):Sat K (wpList P K ops Q (⟨some d,.assign (.tmp s),ty,pos,af,none⟩ :: rest)) F L:=cons (opv (Ev.assign (.t h)) next hd)
theorem sg {id:Nat} {l:List Oper} {y:Code} (h:Sat K (wpList P K l.toArray (Exit.then (y.wpK P K Q) Q) l) F L):Sat K ((Code.seq (Code.region id l.toArray false) y).wpK P K Q) F L:=seq (region h)
theorem nP (h:Sat K N F L):Sat K (wpList P K ops (Exit.then N Q) []) F L:=nil (pN h)
theorem cg {j tg:Nat} {want c1 c2:Bool} (hj:(ops[j]?).bind (·.dst) = some tg) (hg:look F tg = some (c1,.bool c2))
 (h:Ev P K F L (c1 && (c2 == want)) op ty v) (next:Sat K (wpList P K ops Q rest) ((d,(c1 && (c2 == want)),v) :: F) L) (hd:Nat.blt d K.n = true:=by rfl) :
 Sat K (wpList P K ops Q (⟨some d,op,ty,pos,af,some (j,want)⟩ :: rest)) F L:=cons (opg hj hg h next hd)
theorem Ev.pkA {s:Nat} {b c gz:Bool} (hx:Opd F g x (.bool b)) (hy:look F s = some (gz,.bool c)) (hgz:g = true→b = true→gz = true:=by intro h1 h; first | (rw [h] <;> rfl) | (rw [h1,h] <;> rfl) | (rw [h,h1] <;> rfl) | simp_all) :
 Ev P K F L g (.pick x (.tmp s) (.const (.bool false))) ty (.bool (b && c)):=Ev.pickA hx (fun {_} h=>by cases h; exact hy) ⟨_,rfl⟩ hgz (.c rfl)
theorem Ev.pkO {s:Nat} {b c gz:Bool} (hx:Opd F g x (.bool b)) (hy:look F s = some (gz,.bool c)) (hgz:g = true→b = false→gz = true:=by intro h1 h; first | (rw [h] <;> rfl) | (rw [h1,h] <;> rfl) | (rw [h,h1] <;> rfl) | simp_all) :
 Ev P K F L g (.pick x (.const (.bool true)) (.tmp s)) ty (.bool (b || c)):=Ev.pickO hx (.c rfl) (fun {_} h=>by cases h; exact hy) ⟨_,rfl⟩ hgz
theorem io {E:Enc α} {v:Value} {xs:List α} {T:TypeId} (w:World) (h:aP K L w) (hm:aT v E xs T ∈ L:=by repeat first | exact mH | apply mT | apply mA):aO E w v xs:=fJ hm w h
theorem am {r:Res} (w:World) (I:aP K L w) (h:r ∈ L:=by repeat first | exact mH | apply mT | apply mA):At r w:=at_mem h w I
theorem fA (o:Nat) {b off s f:Nat} (hx:Opd F g x (.pointer (some ⟨b,off,none⟩)))
 (hf:(P.underlying s).bind (fun d=>match d with | .struct fs=>(fs[f]?).bind (fun fd=>(P.info? fd.type).map (fun i=>(fd.offset,Nat.beq i.size 0))) | _=>none) = some (o,false):=by kernel_rfl) :
 Ev P K F L g (.fieldAddr s x f) ty (.pointer (some ⟨b,off + o,none⟩)):=Ev.fieldAddr hx hf
theorem en0 {f:FuncId} {fn:Func} {c:Code} {args:Array Value} {w:World} {R:cX} (n:Nat)
 (hf:P.funcs[f]? = some fn) (h:∀ X fr,Sat ⟨n,w,R.M,⟨X,fr,none⟩⟩ (c.wpX P ⟨X,fr,none⟩ (pmC w R.M) (bodyPost P ⟨n,w,R.M,⟨X,fr,none⟩⟩ fn R)) (dz :: kN 0 args.toList) []) (hb:fn.body = some c:=by rfl) (hn:fn.ntmps = n:=by rfl) (hsz:args.size ≤ n:=by exact Nat.le_of_ble_eq_true rfl) (hn2:Nat.ble n 1000000 = true:=by rfl):Calls P f args w R:=enter0 n hf hb hn hsz h hn2
theorem zf {E:Enc α} {v:Value} {xs:List α} (h:∀ w,aP K L w→aO E w v xs:=by first | exact fJ (by repeat first | exact mH | apply mT | apply mA) | exact fun w I=>aO.aV (by assumption) I.keeps):∀ w,aP K L w→aO E w v xs:=h
end
theorem zm {p:Prop} (h:p:=by repeat first | exact mH | apply mT | apply mA):p:=h
theorem zr {p:Prop} (h:p:=by repeat first | exact Rem.head | apply Rem.tail):p:=h
theorem zu {p:Prop} (h:p:=by repeat first | exact Upd.head | apply Upd.tail | apply Upd.right):p:=h
theorem zs {p:Prop} (h:p:=by repeat first | exact sR | exact sN | apply sC | apply sS | apply sA):p:=h
theorem zl {p:Prop} (h:p:=by simp only [List.length_append,List.length_cons,List.length_nil]; omega):p:=h
theorem zk {p:Prop} (h:p:=by kernel_rfl):p:=h
theorem zo {p:Prop} (h:p:=by omega):p:=h
end Go.Gx
namespace Go.Gx
open Go Go.RowKit
def lI {α β γ:Type} {E0:Enc α} (to:α→β) (of:β→α) {E':Enc γ} {o:Nat} (l:ah E0 E' o) (h:∀ x,of (to x) = x:=by exact fun _=>rfl):ah (gI E0 to of) E' o:=lIso E0 to of h l
def l2 {α β γ:Type} {A:Enc α} {B:Enc β} {E:Enc γ} {o:Nat} (l:ah B E o):=ah.comp (lSnd A B) l
def l1 {α β:Type} {A:Enc α} {B:Enc β}:=lFst A B
abbrev pvb (b:Nat):Value:=.pointer (some ⟨b,0,none⟩)
section
variable {α β γ:Type} {P:Program}
variable {K:Ctx} {F:Fr} {L:List Res} {g:Bool} {Q:Exit→Act→World→Prop} {N:Act→World→Prop} {ops:Array Oper} {rest:List Oper}
 {op:Op} {ty t t':TypeId} {pos:String} {af:Array Edge} {d:Nat} {x y z:Operand} {v:Value}
theorem ac {c:Value} (v:Value) (next:Sat K (wpList P K ops Q rest) ((d,true,v) :: F) L) (h:c = v:=by rfl) (hd:Nat.blt d K.n = true:=by rfl):Sat K (wpList P K ops Q (⟨some d,.assign (.const c),ty,pos,af,none⟩ :: rest)) F L:=cons (opv (Ev.assign (.c h)) next hd)
theorem dn {fn:Func} {s:Nat} {u:Value} {n:Nat} {e0:En} {w0:World} (hr:fn.results = #[.tmp s]) (h:look F s = some (true,v)) (e:jY [v] = u) (hD:eC F 1000000 = some (true,mkV []):=by rfl):Sat ⟨n,w0,dI,e0⟩ (bodyPost P ⟨n,w0,dI,e0⟩ fn (bG w0 u) .ret) F L:=done (rs:=[.tmp s]) hr (.tmp h .nil) (gD e) hD
theorem apz {E:Enc α} {v u:Value} {xs ys:List α} {T:TypeId} {L':Value→List Res} {z:Value} {by':Nat} (ht:P.underlying t = some (.slice T)) (TT:ee P T E)
 (hz:(P.info? T).map (fun i=>(i.zero,i.bytes)) = some (some z,by')) (hzs:z.cells.size = E.size) (hx:Opd F true x v) (hy:Opd F true y u) (next:∀ o:OV,Sat K N ((d,true,o.v) :: F) (L' o.v))
 (hsz:Nat.blt 0 E.size = true:=by rfl)
 (hu:∀ v',Upd L (aT v E xs T) (aT v' E (xs ++ ys) T) (L' v'):=by intro _; repeat first | exact Upd.head | apply Upd.tail | apply Upd.right)
 (hsrc:∀ w,aP K L w→aO E w u ys:=by first | exact fJ (by repeat first | exact mH | apply mT | apply mA) | exact fun w I=>aO.aV (by assumption) I.keeps)
 (hby:xs.length + ys.length ≤ maxLen ∧ (xs.length + ys.length) * by' ≤ 140737488355328:=by exact ⟨by (show _ ≤ 9223372036854775807); first | omega | (simp; done) | (simp; omega),by first | omega | (simp; done) | (simp; omega)⟩) (hd:Nat.blt d K.n = true:=by rfl) :
 Sat K (bH P K ops Q ⟨some d,.call { callee:=.builtin .append,args:=#[x,y],argTypes:=#[t,t] },ty,pos,af,none⟩ N) F L :=
 append ht TT hsz hz hzs hx hy hu hsrc hby next hd
theorem o1 {s:Nat} (h:look F s = some (true,v)):fq F true [.tmp s] [v]:=.cons (.t h) .nil
theorem o2 {s s':Nat} {v':Value} (h:look F s = some (true,v)) (h':look F s' = some (true,v')):fq F true [.tmp s,.tmp s'] [v,v']:=.cons (.t h) (o1 h')
theorem o3 {s s' s'':Nat} {v' v'':Value} (h:look F s = some (true,v)) (h':look F s' = some (true,v')) (h'':look F s'' = some (true,v'')):fq F true [.tmp s,.tmp s',.tmp s''] [v,v',v'']:=.cons (.t h) (o2 h' h'')
theorem tm {Lq:List Res} {fuel:Nat} {listed:Array Bool} {s:Nat} (i:Nat) (hi:ops[i]? = some ⟨some d,.move (.tmp s),ty,pos,af,none⟩) (h:look F s = some (true,v))
 (next:Sat K (gq P K ops Q Lq fuel (listed.setIfInBounds i true)) ((d,true,v) :: F) L) (hs:Region.noSelect ops = true:=by kernel_rfl)
 (hf:Region.free .any ops listed i = true:=by kernel_rfl) (hr:(Region.ready .any ops listed).contains i = true:=by kernel_rfl)
 (hL:Lq.Sublist L:=by repeat first | exact sR | exact sN | apply sC | apply sS | apply sA) (hd:Nat.blt d K.n = true:=by rfl) :
 Sat K (gq P K ops Q Lq (fuel + 1) listed) F L:=take i hi hs hf hr hL (Ev.move (.t h)) next hd
theorem tn {Lq:List Res} {fuel:Nat} {listed:Array Bool} {s:Nat} {a:Addr} (i:Nat) (hi:ops[i]? = some ⟨some d,.nilCheck (.tmp s),ty,pos,af,none⟩) (h:look F s = some (true,.pointer (some a)))
 (next:Sat K (gq P K ops Q Lq fuel (listed.setIfInBounds i true)) ((d,true,.pointer (some a)) :: F) L) (hs:Region.noSelect ops = true:=by kernel_rfl)
 (hf:Region.free .any ops listed i = true:=by kernel_rfl) (hr:(Region.ready .any ops listed).contains i = true:=by kernel_rfl)
 (hL:Lq.Sublist L:=by repeat first | exact sR | exact sN | apply sC | apply sS | apply sA) (hd:Nat.blt d K.n = true:=by rfl) :
 Sat K (gq P K ops Q Lq (fuel + 1) listed) F L:=take i hi hs hf hr hL (Ev.nilCheck (.t h)) next hd
theorem cf (o:Nat) {b off s f q:Nat} (h:look F q = some (true,.pointer (some ⟨b,off,none⟩))) (next:Sat K (wpList P K ops Q rest) ((d,true,.pointer (some ⟨b,off + o,none⟩)) :: F) L)
 (hf:(P.underlying s).bind (fun d=>match d with | .struct fs=>(fs[f]?).bind (fun fd=>(P.info? fd.type).map (fun i=>(fd.offset,Nat.beq i.size 0))) | _=>none) = some (o,false):=by kernel_rfl) (hd:Nat.blt d K.n = true:=by rfl) :
 Sat K (wpList P K ops Q (⟨some d,.fieldAddr s (.tmp q) f,ty,pos,af,none⟩ :: rest)) F L:=cons (opv (Ev.fieldAddr (.t h) hf) next hd)
theorem cx {i s:Nat} {vs:List Value} (h:look F s = some (true,.tuple vs.toArray)) (hv:vs[i]? = some v) (next:Sat K (wpList P K ops Q rest) ((d,true,v) :: F) L) (hd:Nat.blt d K.n = true:=by rfl) :
 Sat K (wpList P K ops Q (⟨some d,.extract (.tmp s) i,ty,pos,af,none⟩ :: rest)) F L:=cons (opv (Ev.extract (.t h) hv) next hd)
theorem zj {E:Enc α} {v:Value} {xs:List α} (w:World) (I:aP K L w) (h:aO E w v xs:=by first | exact fJ (by repeat first | exact mH | apply mT | apply mA) w I | exact aO.aV (by assumption) I.keeps):aO E w v xs:=h
theorem zp {L':List Res} (h:fU L' L:=by repeat first | exact fU.nil | refine fU.cons (by repeat first | exact Rem.head | apply Rem.tail) ?_):fU L' L:=h
theorem cnd {s:Nat} {b:Bool} {p q:Prop} {x y:Code} (hb:look F s = some (true,.bool b)) (h1:p→Sat K (x.wpK P K Q) F L) (h2:q→Sat K (y.wpK P K Q) F L)
 (hp:b = true→p:=by intro h; (try simp only [Gx.nb] at h); exact h) (hq:b = false→q:=by intro h; (try simp only [Gx.nb] at h); exact h):Sat K ((Code.cond (.tmp s) x y).wpK P K Q) F L:=cond hb (fun h=>h1 (hp h)) (fun h=>h2 (hq h))
theorem nxo {X:Type} {J:X→Prop} {Fx:X→Fr} {Lx:X→List Res} {μ:X→Nat} {x:X} (x':X) (hJ:J x':=by (try dsimp only); omega) (hlt:μ x' < μ x:=by (try dsimp only); omega) (hF:Sub F (Fx x'):=by repeat first | exact Sub.nil | refine Sub.cons rfl ?_) (hL:(Lx x').Sublist L:=by repeat first | exact sR | exact sN | apply sC | apply sS | apply sA) :
 Sat K (fun a w=>∃ x',J x' ∧ μ x' < μ x ∧ Good K (Fx x') (Lx x') a w) F L:=next x' hJ hlt hF hL
theorem nxPo {X:Type} {J:X→Prop} {Fx:X→Fr} {Lx:X→List Res} {μ:X→Nat} {x:X} (x':X) (hJ:J x':=by (try dsimp only); omega) (hlt:μ x' < μ x:=by (try dsimp only); omega) (hF:Sub F (Fx x'):=by repeat first | exact Sub.nil | refine Sub.cons rfl ?_) (hL:fU (Lx x') L:=by repeat first | exact fU.nil | refine fU.cons (by repeat first | exact Rem.head | apply Rem.tail) ?_) :
 Sat K (fun a w=>∃ x',J x' ∧ μ x' < μ x ∧ Good K (Fx x') (Lx x') a w) F L:=nextP x' hJ hlt hF hL
theorem lpo {X:Type} {c:Code} (J:X→Prop) (Fx:X→Fr) (Lx:X→List Res) (μ:X→Nat) (x0:X)
 (round:∀ x,J x→Sat K (c.wpK P K (Exit.then (fun a w=>∃ x',J x' ∧ μ x' < μ x ∧ Good K (Fx x') (Lx x') a w) Q)) (Fx x) (Lx x)) (h0:J x0:=by (try dsimp only); omega) (hF:Sub F (Fx x0):=by repeat first | exact Sub.nil | refine Sub.cons rfl ?_) (hL:(Lx x0).Sublist L:=by repeat first | exact sR | exact sN | apply sC | apply sS | apply sA) :
 Sat K ((Code.loop c).wpK P K Q) F L:=loop J Fx Lx μ x0 h0 hF hL round
theorem cnq {s:Nat} {b:Bool} {p q:Prop} {x y:Code} (hb:look F s = some (true,.bool b)) (h1:p→Sat K (x.wpK P K Q) F L) (h2:q→Sat K (y.wpK P K Q) F L)
 (hp:b = true→p:=by first | exact of_decide_eq_true | exact id) (hq:b = false→q:=by first | exact of_decide_eq_false | exact id):Sat K ((Code.cond (.tmp s) x y).wpK P K Q) F L:=cond hb (fun h=>h1 (hp h)) (fun h=>h2 (hq h))
end
end Go.Gx
namespace Go.Gx
theorem s0 {p:Prop} (h:p:=by
 refine hdn (al1 7 rfl ((stv cB (ah.id _) (.t rfl) (.t rfl) ?_)));refine hdn (ovr (pN (seq (sg (co (Ev.ldv cB (.t rfl) (ah.id _)) ?_)))));refine nP (block (sg (mv rfl (co (Ev.nilCheck (.t rfl)) ?_))));refine cf 0 rfl ?_;refine co (Ev.load cB (.t rfl) (c9 (fun w I=>(hat.1).cn I.keeps) av.l_p)) ?_;refine co (Ev.eqlS rfl nY rfl zk (.t rfl) (.t rfl)) ?_;refine asn rfl (nP ?_);refine cnq rfl (fun h2=>?_) (fun h2=>?_)
 ·have e1:jJ q p = q:=hc0.trans ((ae.bJ _ _).1 h2);obtain ⟨bb,hbb⟩:∃ z,qh q p = z:=⟨_,rfl⟩;have e2:pb q ++ [bb] <+: pb p:=by
   rcases hway with ⟨_,g⟩ | ⟨g,_⟩ | ⟨g,_⟩
   ·rw [← hbb]; exact g
   ·exact absurd e1 g
   ·exact absurd e1 g
  have hlt:=wF hq hp e2;have hbn:=uA bb;have hbt:(bI bb).toNat < 2:=by omega
  refine sg (mv rfl (co (Ev.nilCheck (.t rfl)) ?_));refine co (Ev.load ty277 (.t rfl) (c9 (fun w I=>(hat.1).cn I.keeps) (ah.id _))) ?_;refine cons (alloc z277 (fun bb_1=>?_));refine cons (stv ty277 (ah.id _) (.t rfl) (.t rfl) ?_);refine nP (seq (dA zk ?_));refine tk 0 rfl (fA 0 (.t rfl)) ?_;refine tk 1 rfl (Ev.ldv eM (.t rfl) ae.eH) ?_;refine tm 2 rfl rfl ?_;refine tn 3 rfl rfl ?_;refine tk 4 rfl (fA 0 (.t rfl)) ?_;refine tk 5 rfl (fA 17 (.t rfl)) ?_;refine tk 6 rfl (Ev.load ty3 (.t rfl) (c9 (fun w I=>(hat.1).cn I.keeps) (ah.comp av.l_p ae.fj))) ?_;refine al1 7 rfl ((aQ eN (o2 rfl rfl) (fun w I=>we _ _ w hlt bb hbb) ?_));refine hdn (tk 8 rfl (Ev.assign (.t rfl)) ?_);refine ovr (pN (seq (dA zk ?_)));refine tm 0 rfl rfl ?_;refine tm 1 rfl rfl ?_;refine tn 2 rfl rfl ?_;refine tk 3 rfl (fA 20 (.t rfl)) ?_;refine tk 4 rfl (Ev.de Y248 fX (.t rfl) (.t rfl) (fun _=>zo)) ?_;refine tk 5 rfl (Ev.to (v':=(PT.kid bb l r).ptr.v) (Ev.load fX (.t rfl) (c9 (fun w I=>(hat.1).cn I.keeps) (ah.comp av.kJ (jd (n:=2) (ovE bP) _ (by omega))))) (congrArg OV.v (sk l r bb hbt))) ?_;refine tk 6 rfl (Ev.ldv cB (.t rfl) (ah.id _)) ?_;refine tm 7 rfl rfl ?_;refine al1 8 rfl ((dB (X:=PT × List Res) (PutJ (PT.kid bb l r) (jz p v (PT.kid bb l r).tr).1) (fun x=>.tuple #[x.1.ptr.v,.bool (jz p v (PT.kid bb l r).tr).2]) (fun x=>x.2) eN (o3 rfl rfl rfl) (fun w I=>ih bb _ w (PT.At.kid (hat.2.1.cn I.keeps) (hat.2.2.cn I.keeps) bb) (kid_wf hw.2.2.1 hw.2.2.2.1 bb) e2) (fun x1 hx1=>?_)));refine hdn (tm 9 rfl rfl ?_);refine tk 10 rfl (Ev.extract (.t rfl) rfl) ?_;refine tk 11 rfl (Ev.extract (.t rfl) rfl) ?_;refine tk 12 rfl (Ev.assign (.t rfl)) ?_;refine tk 13 rfl (Ev.assign (.t rfl)) ?_;refine ovr (pN (sg (mv rfl (mv rfl (cf 20 rfl ?_)))));refine co (Ev.de Y248 fX (.t rfl) (.t rfl) (fun _=>zo)) ?_
  refine cons (stv fX (ah.comp av.kJ (jd (n:=2) (ovE bP) _ (by omega))) (.t rfl) (.t rfl) ?_);refine nP (sg (mv rfl (asn rfl (asn rfl (nP (ret (bR (pR (done rfl (.tmp rfl (.tmp rfl .nil)) (fun w I=>?_))))))))));cases bb with
  | true =>
    have ep:jz p v (.node q u h l.tr r.tr) = (.node q u h l.tr (jz p v r.tr).1,(jz p v r.tr).2):=by show Tr.put _ _ _ _ _ = _; rw [Tr.put,if_neg hqp,if_pos e1,if_pos hbb]
    exact ft (PT.node bb_1 q u h l x1.1,Var bb_1 bW (⟨q,u,h,kids l x1.1⟩:av) 277 :: x1.2) ⟨by rw [ep]; exact congrArg (Tr.node q u h l.tr) hx1.1,fun w1 ho hh=>⟨eT (T:=277) hh List.mem_cons_self,ho.2.1,hx1.2 w1 ho.2.2 (fun q hq=>hh q (List.mem_cons_of_mem _ hq))⟩⟩ (by rw [ep]; rfl) (by repeat first | refine fU.cons (by repeat first | exact Rem.head | apply Rem.tail | apply Rem.app) ?_ | exact fU.of (by repeat first | exact sR | apply sS | exact List.sublist_append_left _ _)) w I
  | false =>
    have ep:jz p v (.node q u h l.tr r.tr) = (.node q u h (jz p v l.tr).1 r.tr,(jz p v l.tr).2):=by show Tr.put _ _ _ _ _ = _; rw [Tr.put,if_neg hqp,if_pos e1,if_neg (by rw [hbb]; exact Bool.false_ne_true)]
    exact ft (PT.node bb_1 q u h x1.1 r,Var bb_1 bW (⟨q,u,h,kids x1.1 r⟩:av) 277 :: x1.2) ⟨by rw [ep]; exact congrArg (fun z=>Tr.node q u h z r.tr) hx1.1,fun w1 ho hh=>⟨eT (T:=277) hh List.mem_cons_self,hx1.2 w1 ho.2.1 (fun q hq=>hh q (List.mem_cons_of_mem _ hq)),ho.2.2⟩⟩ (by rw [ep]; rfl) (by repeat first | refine fU.cons (by repeat first | exact Rem.head | apply Rem.tail | apply Rem.app) ?_ | exact fU.of (by repeat first | exact sR | apply sS | exact List.sublist_append_left _ _)) w I
 ·have e0:jJ q p ≠ q:=by rw [hc0]; exact eqb_no h2
  refine sg (co (Ev.ldv cB (.t rfl) (ah.id _)) ?_);refine co (Ev.eqlS rfl nY rfl zk (.t rfl) (.t rfl)) ?_;refine asn rfl (nP ?_);refine cnq rfl (fun h3=>?_) (fun h3=>?_)
  ·have e1:jJ q p = p:=hc0.trans ((ae.bJ _ _).1 h3);obtain ⟨bb,hbb⟩:∃ z,qh p q = z:=⟨_,rfl⟩;have e2:pb p ++ [bb] <+: pb q:=by
    rcases hway with ⟨g,_⟩ | ⟨_,_,g⟩ | ⟨_,g,_⟩
    ·exact absurd g e0
    ·rw [← hbb]; exact g
    ·exact absurd e1 g
   have hlt:=wF hp hq e2;have hbn:=uA bb;have hbt:(bI bb).toNat < 2:=by omega
   refine sg (co (Ev.ldv cB (.t rfl) (ah.id _)) ?_);refine mv rfl (co (Ev.bu (fs:=_) (places:=[(0,18),(18,1),(19,1),(20,2)]) z277 rfl Y277 zk (.cons (.t rfl) (.cons (.t rfl) (.cons (.c (v:=.bool true) rfl) .nil))) (ay.cons av.l_p rfl (ay.cons av.l_v rfl (ay.cons av.rz rfl ay.nil)))) ?_);refine cons (box (E:=bW) (.t rfl) (fun bb_2=>?_));refine asn rfl (nP (seq (lO 87 rfl zr zk ?_)));refine tm 0 rfl rfl ?_;refine tm 1 rfl rfl ?_;refine tn 2 rfl rfl ?_;refine tk 3 rfl (fA 0 (.t rfl)) ?_;refine tk 4 rfl (fA 0 (.t rfl)) ?_;refine tk 5 rfl (Ev.load eM (.t rfl) (c9 (fun w I=>(hat.1).cn I.keeps) (ah.comp av.l_p ae.eH))) ?_;refine tk 6 rfl (fA 17 (.t rfl)) ?_;refine tk 7 rfl (Ev.ldv ty3 (.t rfl) ae.fj) ?_;refine tk 9 rfl (Ev.to (v':=(PT.node b q u h l r).ptr.v) (Ev.move (.t rfl)) (rfl)) ?_;refine tn 10 rfl rfl ?_;refine tk 11 rfl (fA 20 (.t rfl)) ?_;refine al1 8 rfl ((aQ eN (o2 rfl rfl) (fun w I=>we _ _ w hlt bb hbb) ?_));refine hdn (tk 12 rfl (Ev.de Y248 fX (.t rfl) (.t rfl) (fun _=>zo)) ?_);refine al1 13 rfl ((stv fX (ah.comp av.kJ (jd (n:=2) (ovE bP) _ (by omega))) (.t rfl) (.t rfl) ?_));refine hdn (ovr (pN (sg (mv rfl (asn rfl (ac (.bool true) ?_))))));refine nP (ret (bR (pR (done rfl (.tmp rfl (.tmp rfl .nil)) (fun w I=>?_)))));cases bb with
   | true =>
     have ep:jz p v (.node q u h l.tr r.tr) = (.node p v true .nil (.node q u h l.tr r.tr),true):=by show Tr.put _ _ _ _ _ = _; rw [Tr.put,if_neg hqp,if_neg e0,if_pos e1,if_pos hbb]
     exact ft (PT.node bb_2 p v true .nil (PT.node b q u h l r),[Var bb_2 bW (⟨p,v,true,kids .nil (PT.node b q u h l r)⟩:av) 277]) ⟨by rw [ep]; rfl,fun w1 ho hh=>⟨eT (T:=277) hh (by simp),trivial,ho⟩⟩ (by rw [ep]; rfl) zp w I
   | false =>
     have ep:jz p v (.node q u h l.tr r.tr) = (.node p v true (.node q u h l.tr r.tr) .nil,true):=by show Tr.put _ _ _ _ _ = _; rw [Tr.put,if_neg hqp,if_neg e0,if_pos e1,if_neg (by rw [hbb]; exact Bool.false_ne_true)]
     exact ft (PT.node bb_2 p v true (PT.node b q u h l r) .nil,[Var bb_2 bW (⟨p,v,true,kids (PT.node b q u h l r) .nil⟩:av) 277]) ⟨by rw [ep]; rfl,fun w1 ho hh=>⟨eT (T:=277) hh (by simp),ho,trivial⟩⟩ (by rw [ep]; rfl) zp w I
  ·have e1:jJ q p ≠ p:=by rw [hc0]; exact eqb_no h3
   obtain ⟨bp,hbp⟩:∃ z,qh c0 p = z:=⟨_,rfl⟩;obtain ⟨bq,hbq⟩:∃ z,qh c0 q = z:=⟨_,rfl⟩;obtain ⟨g2,g5,g6⟩:okP k c0 ∧ bq = (!bp) ∧ pb c0 ++ [bp] <+: pb p:=by
    rcases hway with ⟨g,_⟩ | ⟨_,g,_⟩ | ⟨_,_,a2,_,a4,_,a6⟩
    ·exact absurd g e0
    ·exact absurd g e1
    ·rw [hc0] at a2 a4 a6;rw [hbp] at a4 a6;exact ⟨a2,hbq.symm.trans a4,a6⟩
   have hbqp:=g5;have hlt:=wF g2 hp g6;have hbn:=uA bp;have hbt:(bI bp).toNat < 2:=by omega
   have hbn2:=uA bq;have hbt2:(bI bq).toNat < 2:=by omega
   refine skip (bN (pN (sg (co (Ev.ldv cB (.t rfl) (ah.id _)) ?_))));refine co (Ev.bu (fs:=_) (places:=[(0,18),(18,1),(19,1),(20,2)]) z277 rfl Y277 zk (.cons (.t rfl) .nil) (ay.cons av.l_p rfl ay.nil)) ?_;refine cons (box (E:=bW) (.t rfl) (fun bb_3=>?_));refine asn rfl (nP (seq (lO 104 rfl zr zk ?_)));refine tm 0 rfl rfl ?_;refine tm 1 rfl rfl ?_;refine tn 2 rfl rfl ?_;refine tk 3 rfl (fA 0 (.t rfl)) ?_;refine tk 4 rfl (fA 0 (.t rfl)) ?_;refine tk 5 rfl (Ev.load eM (.t rfl) (c9 (fun w I=>(hat.1).cn I.keeps) (ah.comp av.l_p ae.eH))) ?_;refine tk 6 rfl (fA 17 (.t rfl)) ?_;refine tk 7 rfl (Ev.ldv ty3 (.t rfl) ae.fj) ?_;refine tk 9 rfl (Ev.to (v':=(PT.node b q u h l r).ptr.v) (Ev.move (.t rfl)) (rfl)) ?_;refine tn 10 rfl rfl ?_;refine tk 11 rfl (fA 20 (.t rfl)) ?_;refine al1 8 rfl ((aQ eN (o2 rfl rfl) (fun w I=>we _ _ w hlt bq hbq) ?_));refine hdn (tk 12 rfl (Ev.de Y248 fX (.t rfl) (.t rfl) (fun _=>zo)) ?_);refine al1 13 rfl ((stv fX (ah.comp av.kJ (jd (n:=2) (ovE bP) _ (by omega))) (.t rfl) (.t rfl) ?_));refine hdn (ovr (pN (seq (lO 104 rfl zr zk ?_))));refine tm 0 rfl rfl ?_;refine tk 1 rfl (fA 0 (.t rfl)) ?_;refine tk 2 rfl (Ev.ldv eM (.t rfl) ae.eH) ?_;refine tk 3 rfl (fA 17 (.t rfl)) ?_;refine tk 4 rfl (Ev.ldv ty3 (.t rfl) ae.fj) ?_;refine tk 6 rfl (Ev.ldv cB (.t rfl) (ah.id _)) ?_;refine tm 7 rfl rfl ?_;refine tk 8 rfl (Ev.bu (fs:=_) (places:=[(0,18),(18,1),(19,1),(20,2)]) z277 rfl Y277 zk (.cons (.t rfl) (.cons (.t rfl) (.cons (.c (v:=.bool true) rfl) .nil))) (ay.cons av.l_p rfl (ay.cons av.l_v rfl (ay.cons av.rz rfl ay.nil)))) ?_;refine tn 10 rfl rfl ?_;refine tk 11 rfl (fA 20 (.t rfl)) ?_;refine all [5,9] zk (by decide) (.cons rfl ?_ (.cons rfl ?_ .nil))
   ·refine (aQ eN (o2 rfl rfl) (fun w I=>we _ _ w hlt bp hbp) ?_);refine hdn (al1 9 rfl ((box (E:=bW) (.t rfl) (fun bb_4=>?_))));refine hdn (tk 12 rfl (Ev.de Y248 fX (.t rfl) (.t rfl) (fun _=>zo)) ?_);refine al1 13 rfl ((stv fX (ah.comp av.kJ (jd (n:=2) (ovE bP) _ (by omega))) (.t rfl) (.t (v:=(PT.node bb_4 p v true .nil .nil).ptr.v) rfl) ?_));refine hdn (ovr (pN (sg (mv rfl (asn rfl (ac (.bool true) ?_))))));refine nP (ret (done rfl (.tmp rfl (.tmp rfl .nil)) (fun w I=>?_)));cases bp with
    | true =>
      obtain rfl:bq = false:=hbqp;have ep:jz p v (.node q u h l.tr r.tr) = (.node c0 0 false (.node q u h l.tr r.tr) (.node p v true .nil .nil),true):=by show Tr.put _ _ _ _ _ = _; rw [Tr.put,if_neg hqp,if_neg e0,if_neg e1,hc0,if_pos hbp]
      exact ft (PT.node bb_3 c0 0 false (PT.node b q u h l r) (PT.node bb_4 p v true .nil .nil),[Var bb_4 bW (⟨p,v,true,kids .nil .nil⟩:av) 277,Var bb_3 bW (⟨c0,0,false,kids (PT.node b q u h l r) (PT.node bb_4 p v true .nil .nil)⟩:av) 277]) ⟨by rw [ep]; rfl,fun w1 ho hh=>⟨eT (T:=277) hh (by simp),ho,eT (T:=277) hh (by simp),trivial,trivial⟩⟩ (by rw [ep]; rfl) zp w I
    | false =>
      obtain rfl:bq = true:=hbqp;have ep:jz p v (.node q u h l.tr r.tr) = (.node c0 0 false (.node p v true .nil .nil) (.node q u h l.tr r.tr),true):=by show Tr.put _ _ _ _ _ = _; rw [Tr.put,if_neg hqp,if_neg e0,if_neg e1,hc0,if_neg (by rw [hbp]; exact Bool.false_ne_true)]
      exact ft (PT.node bb_3 c0 0 false (PT.node bb_4 p v true .nil .nil) (PT.node b q u h l r),[Var bb_4 bW (⟨p,v,true,kids .nil .nil⟩:av) 277,Var bb_3 bW (⟨c0,0,false,kids (PT.node bb_4 p v true .nil .nil) (PT.node b q u h l r)⟩:av) 277]) ⟨by rw [ep]; rfl,fun w1 ho hh=>⟨eT (T:=277) hh (by simp),⟨eT (T:=277) hh (by simp),trivial,trivial⟩,ho⟩⟩ (by rw [ep]; rfl) zp w I
   ·refine (box (E:=bW) (.t rfl) (fun bb_5=>?_));refine hdn (al1 5 rfl ((aQ eN (o2 rfl rfl) (fun w I=>we _ _ w hlt bp hbp) ?_)));refine hdn (tk 12 rfl (Ev.de Y248 fX (.t rfl) (.t rfl) (fun _=>zo)) ?_);refine al1 13 rfl ((stv fX (ah.comp av.kJ (jd (n:=2) (ovE bP) _ (by omega))) (.t rfl) (.t (v:=(PT.node bb_5 p v true .nil .nil).ptr.v) rfl) ?_));refine hdn (ovr (pN (sg (mv rfl (asn rfl (ac (.bool true) ?_))))));refine nP (ret (done rfl (.tmp rfl (.tmp rfl .nil)) (fun w I=>?_)));cases bp with
    | true =>
      obtain rfl:bq = false:=hbqp;have ep:jz p v (.node q u h l.tr r.tr) = (.node c0 0 false (.node q u h l.tr r.tr) (.node p v true .nil .nil),true):=by show Tr.put _ _ _ _ _ = _; rw [Tr.put,if_neg hqp,if_neg e0,if_neg e1,hc0,if_pos hbp]
      exact ft (PT.node bb_3 c0 0 false (PT.node b q u h l r) (PT.node bb_5 p v true .nil .nil),[Var bb_5 bW (⟨p,v,true,kids .nil .nil⟩:av) 277,Var bb_3 bW (⟨c0,0,false,kids (PT.node b q u h l r) (PT.node bb_5 p v true .nil .nil)⟩:av) 277]) ⟨by rw [ep]; rfl,fun w1 ho hh=>⟨eT (T:=277) hh (by simp),ho,eT (T:=277) hh (by simp),trivial,trivial⟩⟩ (by rw [ep]; rfl) zp w I
    | false =>
      obtain rfl:bq = true:=hbqp;have ep:jz p v (.node q u h l.tr r.tr) = (.node c0 0 false (.node p v true .nil .nil) (.node q u h l.tr r.tr),true):=by show Tr.put _ _ _ _ _ = _; rw [Tr.put,if_neg hqp,if_neg e0,if_neg e1,hc0,if_neg (by rw [hbp]; exact Bool.false_ne_true)]
      exact ft (PT.node bb_3 c0 0 false (PT.node bb_5 p v true .nil .nil) (PT.node b q u h l r),[Var bb_5 bW (⟨p,v,true,kids .nil .nil⟩:av) 277,Var bb_3 bW (⟨c0,0,false,kids (PT.node bb_5 p v true .nil .nil) (PT.node b q u h l r)⟩:av) 277]) ⟨by rw [ep]; rfl,fun w1 ho hh=>⟨eT (T:=277) hh (by simp),⟨eT (T:=277) hh (by simp),trivial,trivial⟩,ho⟩⟩ (by rw [ep]; rfl) zp w I):p:=h
theorem s1 {p:Prop} (h:p:=by
 refine hdn (al1 8 rfl ((apz (E:=(ovE ai)) Y205 vd zb209 zs209 (.t rfl) (.t rfl) (fun vv_1=>?_))));refine hdn (tn 9 rfl rfl ?_);refine tk 10 rfl (fA 1 (.t rfl)) ?_;refine al1 11 rfl ((stv ty205 bk.ma (.t rfl) (.t rfl) ?_));refine hdn (ovr (bN (pN (region (co (Ev.bL (.t rfl) (.c rfl) (fun _=>zo)) ?_)))));refine mv rfl (nP (nx (i + 1,_,_,os ++ [x1.1],aT x1.1.v (ovE cK) (nI (l.getD i.toNat aR.zero) x1.2) 262 :: Var x1.2 aR (l.getD i.toNat aR.zero) 109 :: Rs,fun q=>if q = i.toNat then x1.2 else bs q) ⟨?_,?_,?_,?_⟩ ?_ (hL:=(by dsimp only; rw [iX l i hi.1 (by omega) aR.zero]; repeat first | exact List.Sublist.refl _ | apply List.Sublist.cons_cons | apply List.Sublist.cons))))
 ·try dsimp only
  omega
 ·try dsimp only
  simp; omega
 ·try dsimp only
  exact all_snoc l i hi.1 (by omega) hok hokm
 ·try dsimp only
  intro w1 hw q hq
  by_cases e:q = i.toNat
  ·subst e;have e1:(os ++ [x1.1]).getD i.toNat ai = x1.1:=by
    have:os.length = i.toNat:=by omega
    simp [List.getD,← this]
   rw [if_pos rfl];show aO _ _ ((os ++ [x1.1]).getD i.toNat ai).v _ ∧ _;rw [e1];exact ⟨aO.gN (hw _ List.mem_cons_self),gE (hw _ (List.mem_cons_of_mem _ List.mem_cons_self))⟩
  ·have e1:(os ++ [x1.1]).getD q ai = os.getD q ai:=by
    have:q < os.length:=by omega
    simp [List.getD,List.getElem?_append,this]
   rw [if_neg e];show aO _ _ ((os ++ [x1.1]).getD q ai).v _ ∧ _;rw [e1];exact hR w1 (fun r hr=>hw r (List.mem_cons_of_mem _ (List.mem_cons_of_mem _ hr))) q (by omega)
 ·try dsimp only
  omega):p:=h
theorem s2 {p:Prop} (h:p:=by
 refine tk 0 rfl (fA 0 (.t rfl)) ?_;refine tk 1 rfl (Ev.ldx h.src eM (.t rfl) aa.eF) ?_;refine tk 3 rfl (fA 17 (.t rfl)) ?_;refine tk 4 rfl (Ev.ldx h.dst eM (.t rfl) aa.fx) ?_;refine tm 6 rfl rfl ?_;refine tm 7 rfl rfl ?_;refine al1 2 rfl ((dB (X:=Nat) (fun _=>True) (fun b=>(adO b h.src).v) (fun b=>[Var b cz h.src 81]) eN (o1 rfl) (fun w I=>jk _ w) (fun n1 _=>?_)));refine hdn (al1 5 rfl ((dB (X:=Nat) (fun _=>True) (fun b=>(adO b h.dst).v) (fun b=>[Var b cz h.dst 81]) eN (o1 rfl) (fun w I=>jk _ w) (fun n2 _=>?_))));refine hdn (al1 8 rfl ((buildSlice (E:=(ovE ai)) Y258 oe z48 (.cons (.t rfl) (.cons (.t rfl) (.cons (.t rfl) (.cons (.t rfl) .nil)))) rfl rfl (fun vv_1=>?_))));refine hdn (al1 9 rfl ((aQ eN (o1 rfl) (fun w I=>sum_ok _ _ w (IsSS.mk' (io w I) (.cons (nX zm w I) (.cons (nX zm w I) (.cons (io w I) (.cons (hb.aV I.keeps) .nil)))))) ?_)));refine hdn (tk 10 rfl (Ev.assign (.t rfl)) ?_);refine ovr (pN (seq (sg (mv rfl (co (Ev.eql_u16 (.t rfl) (.c (v:=U16 0) rfl)) ?_)))));refine mv rfl (cg rfl rfl (fA 34 (.t rfl)) ?_);refine cg rfl rfl (Ev.ldx h.aC ty5 (.g rfl id) aa.bS) ?_;refine cg rfl rfl (Ev.jQ (.g rfl id) (.c (v:=U8 17) rfl)) ?_;refine co (Ev.pkA (.t rfl) rfl) ?_;refine nP ?_;refine cnd rfl (fun h1=>?_) (fun h1=>?_)
 ·refine sg (ac (U16 65535) ?_);refine nP (ret (pR (dn rfl rfl ?_)));unfold wE r8;rw [h0];simp only [cond_true,cond_false];have hs:∀ x y:UInt16,(x = 0 ∧ h.aC = 17→y = 65535)→(¬ (x = 0 ∧ h.aC = 17)→y = x)→y = if x = 0 ∧ h.aC = 17 then 65535 else x:=fun x y p q=>by split <;> simp_all
  refine congrArg U16 (hs _ _ (fun e=>?_) (fun e=>?_))
  ·first
    | rfl
    | (exfalso
       simp only [List.append_assoc,List.cons_append,List.nil_append,List.flatten_cons,List.flatten_nil,List.append_nil] at e h1
       rcases h1 with h | h
       ·exact h e.1
       ·exact h e.2)
  ·first
    | (exfalso
       exact e (by simpa using h1))
    | (simp; done)
 ·refine skip (pN (sg (mv rfl (asn rfl (nP (ret (dn rfl rfl ?_)))))));unfold wE r8;rw [h0];simp only [cond_true,cond_false];have hs:∀ x y:UInt16,(x = 0 ∧ h.aC = 17→y = 65535)→(¬ (x = 0 ∧ h.aC = 17)→y = x)→y = if x = 0 ∧ h.aC = 17 then 65535 else x:=fun x y p q=>by split <;> simp_all
  refine congrArg U16 (hs _ _ (fun e=>?_) (fun e=>?_))
  ·first
    | rfl
    | (exfalso
       simp only [List.append_assoc,List.cons_append,List.nil_append,List.flatten_cons,List.flatten_nil,List.append_nil] at e h1
       rcases h1 with h | h
       ·exact h e.1
       ·exact h e.2)
  ·first
    | (exfalso
       exact e (by simpa using h1))
    | (simp; done)):p:=h
theorem s3 {p:Prop} (h:p:=by
 refine hdn (al1 10 rfl ((stv ty221 (ah.id _) (.t rfl) (.t rfl) ?_)));refine hdn (al1 11 rfl ((stv ty221 (ah.id _) (.t rfl) (.t rfl) ?_)));refine hdn (ovr (pN (seq (lO 2 rfl zr zk ?_))));refine tk 0 rfl (fA 0 (.t rfl)) ?_;refine tk 1 rfl (fA 1 (.t rfl)) ?_;refine tk 2 rfl (Ev.iz (l:=0) (h:=16) Y79 ty5 (.t rfl) rfl rfl (fun _=>by decide)) ?_;refine tk 3 rfl (Ev.iz (l:=0) (h:=4) Y221 ty5 (.t rfl) rfl rfl (fun _=>by decide)) ?_;refine al1 4 rfl ((copyV (z:=u8E.zero) Y48 ty5 (ah.comp aa.eF aG.l_b) (.t rfl) (.t rfl) (by first | omega | (simp; done) | (simp; omega)) (fun w I=>lK (br (by repeat first | exact mH | apply mT | apply mA) (ah.id _) w I) (by decide) (by decide) (by decide)) zu ?_));refine hdn (ovr (pN (seq (lO 2 rfl zr zk ?_))));refine tk 0 rfl (fA 17 (.t rfl)) ?_;refine tk 1 rfl (fA 1 (.t rfl)) ?_;refine tk 2 rfl (Ev.iz (l:=0) (h:=16) Y79 ty5 (.t rfl) rfl rfl (fun _=>by decide)) ?_;refine tk 3 rfl (Ev.iz (l:=0) (h:=4) Y221 ty5 (.t rfl) rfl rfl (fun _=>by decide)) ?_;refine al1 4 rfl ((copyV (z:=u8E.zero) Y48 ty5 (ah.comp aa.fx aG.l_b) (.t rfl) (.t rfl) (by first | omega | (simp; done) | (simp; omega)) (fun w I=>lK (br (by repeat first | exact mH | apply mT | apply mA) (ah.id _) w I) (by decide) (by decide) (by decide)) zu ?_));refine hdn (ovr (pN (sg (co (Ev.ldv cJ (.t rfl) (ah.id _)) ?_))));refine mv rfl (co (Ev.kO Y3 Y82 (.t rfl)) ?_);refine cons (stv cJ (ah.id _) (.t rfl) (.t rfl) ?_);refine asn rfl (ac (I 0) ?_);refine nP (ret (bR (pR (done rfl (.cellP rfl cJ (br zm (ah.id _)) (.tmp rfl (.tmp rfl .nil))) (gD ?_)))));have n0:¬ b.length = 0:=by omega
 have e:aW b = (hd4 b,((da b 2 2).1.toUInt16.toNat:Int),0):=by
  unfold aW;rw [if_neg n0,if_pos (show mz (b.getD 0 0) 4 = 4 from h1),if_neg (by omega),if_neg (fun hc=>hc.elim (fun k=>k h3.1) (fun k=>k h3.2))]
 rw [e];refine congrArg (fun z=>Value.tuple #[aA.val z,I _,I 0]) ?_;have v1:=lT (n:=4) (z:=u8E.zero) (xs:=(b.take 16).drop 12) (by simp; omega);have v2:=lT (n:=4) (z:=u8E.zero) (xs:=(b.take 20).drop 16) (by simp; omega);simp [hd4,rW,ah.comp];exact ⟨⟨rfl,by rw [v1]; rfl⟩,⟨rfl,by rw [v2]; rfl⟩,rfl,rfl,rfl⟩):p:=h
theorem s4 {p:Prop} (h:p:=by
 refine cons (stv mL (ah.id _) (.t rfl) (.t rfl) ?_);refine nP (ret (done rfl (.cellP rfl mL (br zm (ah.id _)) .nil) (gD ?_)));unfold nh;dsimp only;rw [← hd2]
 first
  | (have g:(ss.getD s.stage.toNat aS.zero).ca < d2:=h1
     rw [if_pos g]; rfl)
  | (have g:¬ (ss.getD s.stage.toNat aS.zero).ca < d2:=h1
     first
      | (have g2:s.seen + 1 < (ss.getD s.stage.toNat aS.zero).wait:=h2
         rw [if_neg g,if_pos g2]; rfl)
      | (have g2:¬ s.seen + 1 < (ss.getD s.stage.toNat aS.zero).wait:=h2
         first
          | (have g3:(s.stage.toNat:Int) = (ss.length:Int) - 1:=h3
             rw [if_neg g,if_neg g2,if_pos g3]; rfl)
          | (have g3:¬ (s.stage.toNat:Int) = (ss.length:Int) - 1:=h3
             rw [if_neg g,if_neg g2,if_neg g3]; rfl)))):p:=h
theorem s5 {p:Prop} (h:p:=by
 refine cnq rfl (fun h7=>?_) (fun h7=>?_)
 ·refine sg (ac (I 210) ?_);refine nP (ret (bR (pR (dn rfl rfl ?_))));have n1:¬ (iD r.name = false):=by simpa using h1
  have n2:¬ ((cO eqs r.name (lY l)).getD 0 < i):=by simpa using h2
  have n3:¬ okM r.eY = false:=by
   have h3c:decide (ckM r.eY = 0) = true:=by simpa using h3
   rw [lP] at h3c;rw [h3c]; simp
  have n4:¬ (r.action < 1 ∨ 4 < r.action):=by simpa using h4
  have n5:¬ rn l r = true:=by
   rw [← hout]; simpa using h5
  have p6:(r.iV ≠ ⟨#[]⟩ ∧ inM (l8 l) r.iV = false) ∨ (r.fS ≠ ⟨#[]⟩ ∧ inM (kE l) r.fS = false):=by
   unfold inM
   simp_all
  unfold gj;rw [if_neg n1,if_neg n2,if_neg n3,if_neg n4,if_neg n5,if_pos p6]
  rfl
 ·refine skip (bN (pN (sg (ac (I 0) ?_))));refine nP (ret (dn rfl rfl ?_));have n1:¬ (iD r.name = false):=by simpa using h1
  have n2:¬ ((cO eqs r.name (lY l)).getD 0 < i):=by simpa using h2
  have n3:¬ okM r.eY = false:=by
   have h3c:decide (ckM r.eY = 0) = true:=by simpa using h3
   rw [lP] at h3c;rw [h3c]; simp
  have n4:¬ (r.action < 1 ∨ 4 < r.action):=by simpa using h4
  have n5:¬ rn l r = true:=by
   rw [← hout]; simpa using h5
  have n6:¬ ((r.iV ≠ ⟨#[]⟩ ∧ inM (l8 l) r.iV = false) ∨ (r.fS ≠ ⟨#[]⟩ ∧ inM (kE l) r.fS = false)):=by
   unfold inM
   first
    | (exfalso; simp_all; done)
    | (simp at h6 h7
       rintro (⟨a,b⟩ | ⟨a,b⟩)
       ·rw [h6 a] at b; cases b
       ·rw [h7 a] at b; cases b)
  unfold gj;rw [if_neg n1,if_neg n2,if_neg n3,if_neg n4,if_neg n5,if_neg n6]
  rfl):p:=h
theorem s6 {p:Prop} (h:p:=by
 refine hdn (al1 18 rfl ((apz (E:=a7) Y130 gT zb55 zs55 (.t rfl) (.t rfl) (fun vv_1=>?_))));refine hdn (tn 19 rfl rfl ?_);refine tk 20 rfl (fA 10 (.t rfl)) ?_;refine al1 21 rfl ((stv pj aj.eD (.t rfl) (.t rfl) ?_));refine hdn (ovr (bN (pN (region (co (Ev.bL (.t rfl) (.c rfl) (fun _=>zo)) ?_)))));refine mv rfl (nP (nxP (i3 + 1,_,_,_) ?_ ?_ (hL:=(by rw [iX l.us i3 hi3.1 (by omega) cy.zero,List.map_append,List.map_append,vd_step l hi3.1]; repeat first | exact fU.nil | refine fU.cons zr ?_))))
 ·try dsimp only
  omega
 ·try dsimp only
  omega):p:=h
theorem s7 {p:Prop} (h:p:=by
 refine hdn (tn 15 rfl rfl ?_);refine tk 16 rfl (fA 0 (.t rfl)) ?_;refine al1 17 rfl ((stv iy aE.l_l (.t rfl) (.t rfl) ?_));refine hdn (ovr (bN (pN (region (co (Ev.bL (.t rfl) (.c rfl) (fun _=>zo)) ?_)))));refine mv rfl (nP (nxo (i + 1,_) (hL:=(by rw [hst]; (try rw [← List.append_assoc]); repeat first | exact sR | exact sN | apply sC | apply sS | apply sA))))):p:=h
theorem s8 {p:Prop} (h:p:=by
 refine hdn (tn 14 rfl rfl ?_);refine tk 15 rfl (fA 0 (.t rfl)) ?_;refine al1 16 rfl ((stv iy aE.l_l (.t rfl) (.t rfl) ?_));refine hdn (ovr (pN (mt (_) trivial (hL:=(by unfold cH; rw [← hm2]; (first | rw [if_pos (by omega),← List.append_assoc] | rw [if_neg (by omega),List.append_nil]); repeat first | exact sR | exact sN | apply sC | apply sS | apply sA)))))):p:=h
theorem s9 {p:Prop} (h:p:=by
 refine mv rfl (co (Ev.mul_i (.c rfl) (.t rfl) (fun _=>zo)) ?_);refine co (Ev.jm (.t rfl) (.t rfl) (fun _=>zo)) ?_;refine co (Ev.conv_u64_u8 Y5 Y51 (.t rfl)) ?_;refine cons (buildSlice (E:=u8E) Y48 ty5 z5 (.cons (.t rfl) .nil) rfl rfl (fun vv_1=>?_));refine cons (app (E:=u8E) Y48 ty5 zb5 zs5 (.t rfl) (.t rfl) (fun vv_2=>?_) (hby:=⟨by (show _ ≤ 9223372036854775807); simp; omega,by simp; omega⟩));refine asn rfl (nil (bN (pN (region (mv rfl (co (Ev.jV (.t rfl) (.c rfl) (fun _=>zo)) ?_))))));refine asn rfl (nP (nx (i - 1,_,_) ⟨?_,?_⟩ ?_))
 ·try dsimp only
  omega
 ·try dsimp only
  rw [← hxs];have e:(i + 1).toNat = (i - 1 + 1).toNat + 1:=by omega
  have e3:(8 * i).toNat = 8 * (i - 1 + 1).toNat:=by omega
  rw [e,List.append_assoc,List.append_cancel_left_eq,e3]
  rfl
 ·try dsimp only
  omega):p:=h
theorem s10 {p:Prop} (h:p:=by
 refine tm 0 rfl rfl ?_;refine tm 1 rfl rfl ?_;refine tk 3 rfl (fA 1 (.t rfl)) ?_;refine tk 4 rfl (Ev.iz (l:=0) (h:=16) Y79 ty5 (.t rfl) rfl rfl (fun _=>by decide)) ?_;refine al1 2 rfl ((dY eN (o2 rfl rfl) (fun w I=>pF _ _ _ w (zj w I) (by first | assumption | omega | (simp [aK]; done) | (simp [aK]; omega))) (fun vv_1=>?_)));refine hdn (al1 5 rfl ((app (E:=u8E) Y48 ty5 zb5 zs5 (.t rfl) (.t rfl) (fun vv_2=>?_) (hsrc:=(fun w I=>lK (br (by repeat first | exact mH | apply mT | apply mA) aG.l_b w I) (by decide) (by decide) (by decide))) (hby:=⟨by (show _ ≤ 9223372036854775807); simp [aK]; omega,by simp [aK]; omega⟩))));refine hdn (tk 6 rfl (Ev.assign (.t rfl)) ?_);refine ovr (bN (pN (region (co (Ev.bL (.t rfl) (.c rfl) (fun _=>zo)) ?_))));refine mv rfl (nP (nx (i + 1,_,_) ⟨?_,?_,?_⟩ ?_))
 ·try dsimp only
  omega
 ·try dsimp only
  rw [List.append_assoc];refine Eq.trans (congrArg (fun l=>xs ++ l) (addr_step ([k.src,k.dst].getD i.toNat cz.zero) _ (by first | exact (if_pos ha).symm | exact (if_neg (fun h=>Bool.false_ne_true (ha.symm.trans h))).symm))) ?_;rw [hx,take_flat tZ _ i hi.1 (by simp; omega) cz.zero]
 ·try dsimp only
  simp [aK,hl]; omega
 ·try dsimp only
  omega):p:=h
theorem s11 {p:Prop} (h:p:=by
 refine hdn (al1 11 rfl ((app (E:=cY) Y189 il zb244 zs244 (.t rfl) (.t rfl) (fun vv_1=>?_) (hby:=⟨by (show _ ≤ 9223372036854775807); have:=rf l; simp only [List.length_cons,List.length_nil]; unfold lU at this; omega,by have:=rf l; simp only [List.length_cons,List.length_nil]; unfold lU at this; omega⟩))));refine hdn (tn 12 rfl rfl ?_);refine tk 13 rfl (fA 0 (.t rfl)) ?_;refine al1 14 rfl ((stv iy aE.l_l (.t rfl) (.t rfl) ?_));refine hdn (ovr (pN (mt (_) trivial (hL:=(by unfold o0; (first | rw [if_pos hdb] | rw [if_neg hdb,List.append_nil]); repeat first | exact sR | exact sN | apply sC | apply sS | apply sA)))))):p:=h
theorem s12 {p:Prop} (h:p:=by
 refine skip (bN (bN (pN (nx (_) ⟨?_,?_⟩ ?_))))
 ·try dsimp only
  have hc:iU (Utf8.decode s i).1 i = true:=by
   unfold iU
   first
    | (rw [h2]; rfl)
    | (rw [h3]; simp)
  have hst:=qC hc;have hst1:=hst.1;omega
 ·try dsimp only
  have hc:iU (Utf8.decode s i).1 i = true:=by
   unfold iU
   first
    | (rw [h2]; rfl)
    | (rw [h3]; simp)
  have hst:=qC hc;have hst1:=hst.1;intro k hk
  by_cases e:k < i
  ·exact hq k e
  ·obtain rfl:k = i:=by omega
   exact hst.2
 ·try dsimp only
  have hc:iU (Utf8.decode s i).1 i = true:=by
   unfold iU
   first
    | (rw [h2]; rfl)
    | (rw [h3]; simp)
  have hst:=qC hc;have hst1:=hst.1;omega):p:=h
theorem s13 {p:Prop} (h:p:=by
 refine asn rfl (nP (nx (j + 1,_,_) ⟨?_,?_,?_⟩ ?_))
 ·try dsimp only
  omega
 ·try dsimp only
  rw [show (j + 1).toNat = j.toNat + 1 by omega,newsC_take (by omega),h3]
  first | exact u64_add1 ha2 rfl (by omega) | exact ha2
 ·try dsimp only
  rw [show (j + 1).toNat = j.toNat + 1 by omega,dropC_take (by omega),h3]
  first | (rw [h4]; first | exact u64_add1 hd2 rfl (by omega) | exact hd2) | exact hd2
 ·try dsimp only
  omega):p:=h
theorem s14 {p:Prop} (h:p:=by
 unfold jb; first | (rw [if_pos (by simpa using h0)]; rfl) | (rw [if_neg (by simpa using h0),if_pos (by first | exact .inl (by simpa using h1) | exact .inr (by simpa using h2))]; rfl) | (rw [if_neg (by simpa using h0),if_neg (by simp_all; done)]; rfl)):p:=h
theorem s15 {p:Prop} (h:p:=by
 refine co (Ev.dO (.t rfl) (.c rfl)) ?_;refine nP ?_;refine cnd rfl (fun h3=>?_) (fun h3=>?_)
 ·refine region (mv rfl (co (Ev.bu (fs:=_) (places:=[(0,1),(1,1),(2,1)]) z53 rfl Y53 zk (.cons (.c (v:=I 50) rfl) (.cons (.c (v:=U64 2) rfl) (.cons (.c (v:=U64 1) rfl) .nil))) (ay.cons au.fC rfl (ay.cons au.gP rfl (ay.cons au.jc rfl ay.nil)))) ?_));refine cons (buildSlice (E:=aS) Y29 ju z53 (.cons (.t rfl) .nil) rfl rfl (fun vv_1=>?_));refine cons (apz (E:=aS) Y29 ju zb53 zs53 (.t rfl) (.t rfl) (fun vv_2=>?_));refine asn rfl (nP (sg (mv rfl (asn rfl (nP (ret (done rfl (.tmp rfl .nil) (fun w I=>?_))))))));exact ft (vv_2,xs ++ [(⟨50,2,1⟩:au)]) (by simp; omega) rfl zp w I
 ·refine skip (pN (sg (mv rfl (asn rfl (nP (ret (done rfl (.tmp rfl .nil) (fun w I=>?_))))))));exact ft (o,xs) (by show xs.length ≤ 10; omega) rfl zp w I):p:=h
theorem s16 {p:Prop} (h:p:=by
 refine asn rfl (nP (sg (mv rfl (cf 42 rfl ?_))));refine co (Ev.ldx h.data oe (.t rfl) aa.ly) ?_;refine cons (apz (E:=u8E) Y48 ty5 zb5 zs5 (.t rfl) (.t rfl) (fun vv_1=>?_) (hsrc:=zf));refine asn rfl (nP (ret (done rfl (.tmp rfl .nil) (oB zm ?_))))
 by_cases h6:h.aC = 6
 ·first
   | (exfalso; simp_all; done)
   | (unfold cC
      rw [if_pos h6];simp only [List.nil_append,List.append_assoc]
      rfl)
 ·first
   | (exfalso; simp_all; done)
   | (have h17:h.aC = 17:=by
       by_cases e:h.aC = 17
       ·exact e
       ·exact absurd (by unfold cI; rw [if_neg h6,if_neg e]) h0
      unfold cC;rw [if_neg h6,if_pos h17];simp only [List.nil_append,List.append_assoc])):p:=h
theorem s17 {p:Prop} (h:p:=by
 refine ac (.slice none 0 0) ?_;refine nP (ret (pR (done rfl (.tmp rfl .nil) (oB zm ?_))))
 first | exact hc3 (by simpa using h0) | (symm; exact hc3 (by simpa using h0))):p:=h
theorem s18 {p:Prop} (h:p:=by
 refine skip (pN (seq (block (sg (co (Ev.indexAddr Y48 ty5 (.t rfl) (.t rfl) zf (fun _=>zo)) ?_)))));refine co (Ev.bV ty5 (.t rfl) zf (fun _=>zo)) ?_;refine asn rfl (nP (sg (mv rfl (co (Ev.pw (.t rfl) (.c rfl) (fun _=>by decide)) ?_))));refine asn rfl (nP (region (mv rfl (mv rfl (co (Ev.jG Y51 Y5 (.t rfl)) ?_)))));refine co (Ev.wS (.t rfl) (.t rfl)) ?_;refine asn rfl (nil (bN (pN (region (co (Ev.bL (.t rfl) (.c rfl) (fun _=>zo)) ?_)))));refine mv rfl (nP (nx (i + 1,_) ⟨?_,?_⟩ ?_))
 ·try dsimp only
  omega
 ·try dsimp only
  rw [numB_step xs i hi.1 (by omega),← or_byte,← hv]
  rfl
 ·try dsimp only
  omega):p:=h
theorem s19 {p:Prop} (h:p:=by
 refine hdn (al1 12 rfl ((apz (E:=(ovE eB)) Y129 q8 zb146 zs146 (.t rfl) (.t rfl) (fun vv_1=>?_))));refine hdn (tn 13 rfl rfl ?_);refine tk 14 rfl (fA 9 (.t rfl)) ?_;refine al1 15 rfl ((stv pn aj.eG (.t rfl) (.t rfl) ?_));refine hdn (ovr (pN (mtP (_,_) trivial)))):p:=h
theorem s20 {p:Prop} (h:p:=by
 try dsimp only
 all_goals (unfold kV; first | (simp_all; done) | rfl)):p:=h
theorem s21 {p:Prop} (h:p:=by
 refine hdn (al1 10 rfl ((apz (E:=(ovE eB)) Y129 q8 zb146 zs146 (.t rfl) (.t rfl) (fun vv_1=>?_))));refine hdn (tn 11 rfl rfl ?_);refine tk 12 rfl (fA 9 (.t rfl)) ?_;refine al1 13 rfl ((stv pn aj.eG (.t rfl) (.t rfl) ?_));refine hdn (ovr (pN (mtP (_) trivial)))):p:=h
theorem s22 {p:Prop} (h:p:=by
 refine hdn (al1 13 rfl ((apz (E:=bz) Y95 ty97 zb97 zs97 (.t rfl) (.t rfl) (fun vv_1=>?_))));refine hdn (tk 14 rfl (Ev.to (v':=.pointer (some ⟨Duo.C2,i,none⟩)) (Ev.je Y40 Tryz.sizeOf95 (.t rfl) (.t rfl) (fun _=>by have:=hG.lt; omega)) (by rw [Int.toNat_natCast])) ?_);refine al1 15 rfl ((nM Tryz.sizeOf95 (.t rfl) (.t rfl) vv_1.2 zu ?_));refine hdn (ovr (bN (pN (region (mv rfl (co (Ev.bL (.t rfl) (.c rfl) (fun _=>zo)) ?_))))));refine asn rfl (nP (nxP (k + 1,vv_1,_,r.2,m2) ⟨?_,?_,?_⟩ ?_))
 ·try dsimp only
  omega
 ·try dsimp only
  simp; omega
 ·try dsimp only
  exact hm2
 ·try dsimp only
  omega):p:=h
theorem s23 {p:Prop} (h:p:=by
 refine sg (ac (I 0) ?_);refine nP (seq (sg (mv rfl (nP (block (sg (co (Ev.jQ (.t rfl) (.c (v:=U8 6) rfl)) ?_)))))));refine asn rfl (nP ?_);refine cnd rfl (fun h0=>?_) (fun h0=>?_)
 ·refine sg (ac (I 20) ?_);refine nP (ret (bR (pR (dn rfl rfl ?_))));simp [cI, *]
 ·refine sg (co (Ev.jQ (.t rfl) (.c (v:=U8 17) rfl)) ?_);refine asn rfl (nP ?_);refine cnd rfl (fun h1=>?_) (fun h1=>?_)
  ·refine sg (ac (I 8) ?_);refine nP (ret (bR (pR (dn rfl rfl ?_))));simp [cI, *]
  ·refine skip (bN (pN (sg (ac (I 0) ?_))));refine nP (ret (dn rfl rfl ?_));simp [cI, *]):p:=h
theorem s24 {p:Prop} (h:p:=by
 refine hdn (tk 13 rfl (Ev.assign (.t rfl)) ?_);refine tk 14 rfl (Ev.assign (.t rfl)) ?_;refine ovr (pN (sg (mv rfl (nP ?_))));refine cnq rfl (fun h0=>?_) (fun h0=>?_)
 ·refine sg (mv rfl (ac (I 3) ?_));refine asn rfl (nP (ret (pR (done rfl (.tmp rfl (.tmp rfl .nil)) (gD ?_)))));rw [if_pos h0,if_pos h0]; rfl
 ·refine skip (pN (sg (ac (I 4) ?_)));refine ac (I (-1)) ?_;refine nP (ret (done rfl (.tmp rfl (.tmp rfl .nil)) (gD ?_)));have e:¬ z.2.2 = true:=by rw [h0]; exact Bool.false_ne_true
  rw [if_neg e,if_neg e]; rfl):p:=h
theorem s25 {p:Prop} (h:p:=by
 try dsimp only
 first
  | (have hp:cI h.aC = 0:=h3
     show _ = fitG _;unfold fitG;rw [if_pos (show cI (tX (qJ (nB (kL h)))).aC = 0 from hp),if_pos (show cI (tX (qJ (nB (kL h)))).aC = 0 from hp)]; rfl)
  | (have hp:¬ cI h.aC = 0:=h3
     show _ = fitG _;unfold fitG;rw [if_neg (show ¬ cI (tX (qJ (nB (kL h)))).aC = 0 from hp),if_neg (show ¬ cI (tX (qJ (nB (kL h)))).aC = 0 from hp)])):p:=h
theorem s26 {p:Prop} (h:p:=by
 try dsimp only
 first
  | (have hp:¬ h.aC = 6:=h2
     show _ = tX _;unfold tX;rw [if_neg (show ¬ (qJ (nB (kL h))).aC = 6 from hp),if_neg (show ¬ (qJ (nB (kL h))).aC = 6 from hp)]; rfl)
  | (have hp:h.aC = 6:=show (qJ (nB (kL h))).aC = 6 by simpa using h2
     show _ = tX _;unfold tX;rw [if_pos (show (qJ (nB (kL h))).aC = 6 from hp),if_pos (show (qJ (nB (kL h))).aC = 6 from hp)])):p:=h
theorem s27 {p:Prop} (h:p:=by
 refine sg (cons (box (E:=aA) (.t rfl) (fun bb_1=>?_)));refine ac (I 0) ?_;refine nP (seq (sg (cf 0 rfl ?_)));refine cf 0 rfl ?_;refine co (Ev.ldx h.src.v6 ty4 (.t rfl) (ah.comp aa.eF aG.jP)) ?_;refine nP ?_;refine cnd rfl (fun h0=>?_) (fun h0=>?_)
 ·refine sg (ac (I 40) ?_);refine nP (ret (pR (dn rfl rfl ?_)))
  first | rfl | simp [bD, *]
 ·refine skip (pN (sg (ac (I 20) ?_)));refine nP (ret (dn rfl rfl ?_))
  first | rfl | simp [bD, *]):p:=h
theorem s28 {p:Prop} (h:p:=by
 have hi1:(i + 1).toNat = 0:=by omega
 rw [hi1] at hxs;simp only [dc,List.append_nil] at hxs;subst hxs;refine exit (pX (pX (bX (pN (sg (mv rfl (asn rfl (nP (ret (done rfl (.tmp rfl .nil) (oB zm ?_)))))))))))
 rfl):p:=h
theorem s29 {p:Prop} (h:p:=by
 try dsimp only
 first
  | (have e:r.1 ≠ 1:=by simpa using h2
     have k:=hss.2 e;rw [← hdr] at k;rw [if_neg e,decide_eq_true e];exact k)
  | (have e:r.1 = 1:=by simpa using h2
     have k:=(hss.1 e).1;rw [if_pos e,decide_eq_false (fun q=>q e)];exact k _)):p:=h
theorem s30 {p:Prop} (h:p:=by
 first
  | (have e:¬ (0 ≤ p ∧ p + (2:Nat) ≤ b.length):=by omega
     unfold da; rw [if_neg e]; rfl)
  | (have e:0 ≤ p ∧ p + (2:Nat) ≤ b.length:=by omega
     have ei:i.toNat = 2:=by omega
     rw [ei,List.take_of_length_le (by omega)] at hv;unfold da; rw [if_pos e];have hxs':(b.take (p + (2:Nat)).toNat).drop p.toNat = xs:=hxs;rw [hxs',← hv]; rfl)):p:=h
theorem s31 {p:Prop} (h:p:=by
 first
  | (have e:¬ (0 ≤ p ∧ p + (4:Nat) ≤ b.length):=by omega
     unfold da; rw [if_neg e]; rfl)
  | (have e:0 ≤ p ∧ p + (4:Nat) ≤ b.length:=by omega
     have ei:i.toNat = 4:=by omega
     rw [ei,List.take_of_length_le (by omega)] at hv;unfold da; rw [if_pos e];have hxs':(b.take (p + (4:Nat)).toNat).drop p.toNat = xs:=hxs;rw [hxs',← hv]; rfl)):p:=h
theorem s32 {p:Prop} (h:p:=by
 simp only [Tr.bK,List.mem_append] at hx
 rcases hx with hx | hx | hx
 ·split at hx
  ·simp only [List.mem_singleton] at hx; rw [hx]; exact List.prefix_refl _
  ·simp at hx
 ·exact ff (inl x hx)
 ·exact ff (inr x hx)):p:=h
theorem s33 {p:Prop} (h:p:=by
 refine mv rfl (nP (nx (k + 1,_) ⟨?_,?_⟩ ?_))
 ·try dsimp only
  omega
 ·try dsimp only
  exact hst
 ·try dsimp only
  omega):p:=h
theorem s34 {p:Prop} (h:p:=by
 refine asn rfl (nP (ret (done rfl (.tmp rfl .nil) (oB zm ?_))));simp):p:=h
theorem s35 {p:Prop} (h:p:=by
 exact ln v3 (fun hn=>absurd hn h0) (by rw [if_neg h0,e]; rfl) (by rw [if_neg h0]; exact List.Sublist.cons _ (List.cons_sublist_cons.2 (List.nil_sublist _))) w I):p:=h
theorem s36 {p:Prop} (h:p:=by
 refine mv rfl (nP (nx (i + 1) ?_ ?_ (hL:=(by (first | rw [nD _ _ _ E.zero (by omega) h1] | rw [nC _ _ _ E.zero (by omega) h1]); exact zs))))
 ·try dsimp only
  omega
 ·try dsimp only
  first | omega | (simp; omega)):p:=h
theorem s37 {p:Prop} (h:p:=by
 refine mv rfl (nP (nx (i + 1) ?_ ?_ (hL:=(by (first | rw [nD _ _ _ aX.zero (by omega) h1] | rw [nC _ _ _ aX.zero (by omega) h1]); exact zs))))
 ·try dsimp only
  omega
 ·try dsimp only
  first | omega | (simp; omega)):p:=h
theorem s38 {p:Prop} (h:p:=by
 refine mv rfl (nP (nx (i + 1) ?_ ?_ (hL:=(by (first | rw [nD _ _ _ iE.zero (by omega) h1] | rw [nC _ _ _ iE.zero (by omega) h1]); exact zs))))
 ·try dsimp only
  omega
 ·try dsimp only
  first | omega | (simp; omega)):p:=h
theorem s39 {p:Prop} (h:p:=by
 refine skip (bN (pN (region (co (Ev.bL (.t rfl) (.c rfl) (fun _=>zo)) ?_))));refine mv rfl (nP (nxo (i + 1,_) (hL:=(by rw [hst]; (try rw [← List.append_assoc]); repeat first | exact sR | exact sN | apply sC | apply sS | apply sA))))):p:=h
theorem s40 {p:Prop} (h:p:=by
 unfold dH;rw [← hm,if_neg (fun e=>by rw [hc.2 e] at h4; cases h4),if_neg (fun e=>by rw [hc2.2 e] at h6; cases h6)]
 first
  | (rw [if_pos (by omega)]; rfl)
  | (rw [if_neg (by omega)]; rfl)):p:=h
theorem s41 {p:Prop} (h:p:=by
 refine hdn (tk 13 rfl (Ev.assign (.t rfl)) ?_);refine ovr (pN (mtP (_) trivial))):p:=h
theorem s42 {p:Prop} (h:p:=by
 subst hkn;refine exit (pX (pX (bX (pN (sg (mv rfl (asn rfl (nP (ret (dn rfl rfl ?_))))))))))
 first | rfl | (simp; done)):p:=h
theorem s43 {p:Prop} (h:p:=by
 refine cons (stv ty93 (ah.id _) (.t rfl) (.t rfl) ?_);refine nP (ret (done rfl (.cellP rfl ty93 (br zm (ah.id _)) .nil) (gD ?_)));unfold ofK
 first | (rw [if_pos h0]; rfl) | (rw [if_neg (by rw [not_or]; exact h0)]; rfl)):p:=h
theorem s44 {p:Prop} (h:p:=by
 refine skip (pN (mt (_) trivial (hL:=(by unfold cH; rw [← hm2]; (first | rw [if_pos (by omega),← List.append_assoc] | rw [if_neg (by omega),List.append_nil]); repeat first | exact sR | exact sN | apply sC | apply sS | apply sA))))):p:=h
theorem s45 {p:Prop} (h:p:=by
 refine exit (pX (pX (bX (pN (sg (mv rfl (asn rfl (nP (ret (done rfl (.tmp rfl .nil) (fun w I=>?_)))))))))));have hil:i.toNat = xs.length:=by omega
 rw [hil] at I;exact ln b1 trivial rfl zs w I):p:=h
theorem s46 {p:Prop} (h:p:=by
 refine tk 6 rfl (Ev.kO Y3 Y82 (.t rfl)) ?_;refine al1 7 rfl ((aQ eN (o2 rfl rfl) (fun w I=>vc _ _ w) ?_));refine hdn (tk 8 rfl (Ev.assign (.t rfl)) ?_);refine ovr (pN (ret (dn rfl rfl ?_)))
 rfl):p:=h
theorem s47 {p:Prop} (h:p:=by
 rintro e w' ⟨t,⟨rfl,_⟩,hv,hkp,ha,hf⟩;exact ⟨(),trivial,hv,hkp,ha,hf⟩):p:=h
theorem s48 {p:Prop} (h:p:=by
 try dsimp only
 unfold gH;rw [if_neg h1]
 first
  | (rw [if_pos h2]; rfl)
  | (rw [if_neg h2]; rfl)):p:=h
theorem s49 {p:Prop} (h:p:=by
 exact (by repeat first | refine fU.cons (by repeat first | exact Rem.head | apply Rem.tail | apply Rem.app) ?_ | exact fU.of (by repeat first | exact sR | apply sS | exact List.sublist_append_left _ _))):p:=h
theorem s50 {p:Prop} (h:p:=by
 rcases List.mem_cons.1 hy with rfl | hy
 ·exact ⟨h2,hpre,hq⟩
 ·have:=g2 y hy;exact ⟨h2.trans (ff this.1),this.2⟩):p:=h
theorem s51 {p:Prop} (h:p:=by
 try dsimp only
 unfold eR
 first
  | exact (if_neg (by omega)).symm
  | exact (if_pos (by omega)).symm):p:=h
theorem s52 {p:Prop} (h:p:=by
 try dsimp only
 first
  | (rw [show h.src.v6 = true by simpa using h0]; rfl)
  | (rw [show h.src.v6 = false by simpa using h0]; rfl)):p:=h
theorem s53 {p:Prop} (h:p:=by
 try dsimp only
 first
  | exact (fitB_six h (show (kL h).src.v6 = true by simpa using h0)).symm
  | (rw [fitB_four h hv]; rfl)):p:=h
theorem s54 {p:Prop} (h:p:=by
 exact ⟨.inl hx,by have:=(Prod.ext_iff.1 hx).1; simp only at this; rw [this]; exact hpre⟩):p:=h
theorem s55 {p:Prop} (h:p:=by
 refine al1 6 rfl ((aQ eN (o2 rfl rfl) (fun w I=>hasP_ok _ _ w) ?_));refine hdn (tk 7 rfl (Ev.assign (.t rfl)) ?_);refine ovr (pN (ret (dn rfl rfl ?_)))
 rfl):p:=h
theorem s56 {p:Prop} (h:p:=by
 show _ = Value.tuple #[.pointer (plO l c.default _),Gx.I (plE l c.default)];unfold plO plE;rw [hmay]
 rfl):p:=h
theorem s57 {p:Prop} (h:p:=by
 refine co (Ev.pkA (.t rfl) rfl) ?_;refine asn rfl (nP (ret (dn rfl rfl ?_)))
 rfl):p:=h
theorem s58 {p:Prop} (h:p:=by
 have e:(i + 1).toNat = i.toNat + 1:=by omega
 have h2:i.toNat < l.length:=by omega
 rw [e,List.take_succ_eq_append_getElem h2];simp [List.getD,h2]):p:=h
theorem s59 {p:Prop} (h:p:=by
 refine hdn (ovr (pN (mtP (_,_) ?_)))
 ·try dsimp only
  show 0 ≤ last + 1 + kX pv st ∧ last + 1 + kX pv st ≤ 1000; omega):p:=h
theorem s60 {p:Prop} (h:p:=by
 have e:(i + 1).toNat = i.toNat + 1:=by omega
 rw [e,List.drop_eq_getElem_cons (by omega)]; simp [List.getD,show i.toNat < xss.length by omega]):p:=h
theorem s61 {p:Prop} (h:p:=by
 have:=(g2 y hy).1.length_le;simp at this;show (bs q).length < (bs y.1).length;omega):p:=h
theorem s62 {p:Prop} (h:p:=by
 exact ⟨fun h=>h.imp id fun h=>⟨h,hall x h⟩,fun h=>h.imp id fun h=>h.1⟩):p:=h
theorem s63 {p:Prop} (h:p:=by
 try dsimp only
 first | (simp_all; done) | (by_cases e1:cI h.aC = 0 <;> by_cases e2:h.aC = 6 <;> simp_all)):p:=h
theorem s64 {p:Prop} (h:p:=by
 try dsimp only
 first | (rw [if_pos h0]; rfl) | (rw [if_neg (by rw [h0]; exact Bool.false_ne_true)]; rfl)):p:=h
theorem s65 {p:Prop} (h:p:=by
 have e2:¬ ((k.toNat:Nat):Int) < k:=by omega
 simp only [gp,Vector.getElem_ofFn,if_neg e2,Fin.getElem_fin]):p:=h
theorem s66 {p:Prop} (h:p:=by
 refine mv rfl (cx rfl rfl (cx rfl rfl (asn rfl (asn rfl (nP (sg (mv rfl (asn rfl (nP (ret (dn rfl rfl ?_)))))))))))
 rfl):p:=h
theorem s67 {p:Prop} (h:p:=by
 try dsimp only
 first | (rw [ruleI_lt h3,wz]; omega) | exact (ruleI_ge h3).symm):p:=h
theorem s68 {p:Prop} (h:p:=by
 refine co (Ev.pkA (.t rfl) rfl) ?_;refine asn rfl (nP (ret (dn rfl rfl ?_)))
 first | rfl | (simp; done)):p:=h
theorem s69 {p:Prop} (h:p:=by
 rw [List.drop_eq_getElem_cons hj];have e:xs.getD j 0 = xs[j]:=by simp [List.getD,hj]
 rw [e]
 rfl):p:=h
theorem s70 {p:Prop} (h:p:=by
 rw [UInt8.toNat_and,sU];have e:UInt8.toNat 1 = 1:=rfl;rw [e,Nat.and_one_is_mod]):p:=h
theorem s71 {p:Prop} (h:p:=by
 refine hdn (al1 7 rfl ((apz (E:=aR) Y144 fY zb109 zs109 (.t rfl) (.t rfl) (fun vv_1=>?_))));refine hdn (tn 8 rfl rfl ?_);refine tk 9 rfl (fA 0 (.t rfl)) ?_;refine al1 10 rfl ((stv ty144 bk.kH (.t rfl) (.t rfl) ?_));refine hdn (ovr (pN (draw [Var b2 aR (l.getD i.toNat aR.zero) 109] zk ?_)));refine tm 0 rfl rfl ?_;refine tm 1 rfl rfl ?_;refine tn 2 rfl rfl ?_;refine tk 3 rfl (fA 1 (.t rfl)) ?_;refine tk 5 rfl (Ev.ldv fY (.t rfl) (ah.id _)) ?_;refine all [4,6] zk (by decide) (.cons rfl ?_ (.cons rfl ?_ .nil))
 ·refine (opv (Ev.ldv ty205 (.t rfl) bk.ma) ?_);refine hdn (al1 6 rfl ((dB (X:=OV × Nat) (fun _=>True) (fun x=>x.1.v) (fun x=>[aT x.1.v (ovE cK) (nI (l.getD i.toNat aR.zero) x.2) 262,Var x.2 aR (l.getD i.toNat aR.zero) 109]) eN (o1 rfl) (fun w I=>rK _ w) (fun x1 _=>?_))));refine hdn (al1 7 rfl ((buildSlice (E:=(ovE ai)) Y205 vd z209 (.cons (.t rfl) .nil) rfl rfl (fun vv_2=>?_))));exact s1
 ·refine (dB (X:=OV × Nat) (fun _=>True) (fun x=>x.1.v) (fun x=>[aT x.1.v (ovE cK) (nI (l.getD i.toNat aR.zero) x.2) 262,Var x.2 aR (l.getD i.toNat aR.zero) 109]) eN (o1 rfl) (fun w I=>rK _ w) (fun x1 _=>?_));refine hdn (all [4,7] zk (by decide) (.cons rfl ?_ (.cons rfl ?_ .nil)))
  ·refine (opv (Ev.ldv ty205 (.t rfl) bk.ma) ?_);refine hdn (al1 7 rfl ((buildSlice (E:=(ovE ai)) Y205 vd z209 (.cons (.t rfl) .nil) rfl rfl (fun vv_3=>?_))));exact s1
  ·refine (buildSlice (E:=(ovE ai)) Y205 vd z209 (.cons (.t rfl) .nil) rfl rfl (fun vv_4=>?_));refine hdn (al1 4 rfl ((opv (Ev.ldv ty205 (.t rfl) bk.ma) ?_)));exact s1):p:=h
theorem s72 {p:Prop} (h:p:=by
 refine hdn (al1 14 rfl ((app (E:=cY) Y189 il zb244 zs244 (.t rfl) (.t rfl) (fun vv_1=>?_) (hby:=⟨by (show _ ≤ 9223372036854775807); have:=dK (fun j0:Nat=>g (xs.getD j0 E.zero) j0) d i.toNat; simp only [List.length_append,List.length_cons,List.length_nil]; omega,by have:=dK (fun j0:Nat=>g (xs.getD j0 E.zero) j0) d i.toNat; simp only [List.length_append,List.length_cons,List.length_nil]; omega⟩))));exact s7):p:=h
theorem s73 {p:Prop} (h:p:=by
 refine hdn (al1 14 rfl ((app (E:=cY) Y189 il zb244 zs244 (.t rfl) (.t rfl) (fun vv_1=>?_) (hby:=⟨by (show _ ≤ 9223372036854775807); have:=dK (fun j0:Nat=>g (xs.getD j0 iE.zero) j0) d i.toNat; simp only [List.length_append,List.length_cons,List.length_nil]; omega,by have:=dK (fun j0:Nat=>g (xs.getD j0 iE.zero) j0) d i.toNat; simp only [List.length_append,List.length_cons,List.length_nil]; omega⟩))));exact s7):p:=h
theorem s74 {p:Prop} (h:p:=by
 refine hdn (al1 13 rfl ((app (E:=cY) Y189 il zb244 zs244 (.t rfl) (.t rfl) (fun vv_1=>?_) (hby:=⟨by (show _ ≤ 9223372036854775807); have:=dK (fun j0:Nat=>g (xs.getD j0 E.zero) j0) d m; simp only [List.length_append,List.length_cons,List.length_nil]; omega,by have:=dK (fun j0:Nat=>g (xs.getD j0 E.zero) j0) d m; simp only [List.length_append,List.length_cons,List.length_nil]; omega⟩))));exact s8):p:=h
theorem s75 {p:Prop} (h:p:=by
 refine hdn (al1 13 rfl ((app (E:=cY) Y189 il zb244 zs244 (.t rfl) (.t rfl) (fun vv_1=>?_) (hby:=⟨by (show _ ≤ 9223372036854775807); have:=dK (fun j0:Nat=>g (xs.getD j0 iE.zero) j0) d m; simp only [List.length_append,List.length_cons,List.length_nil]; omega,by have:=dK (fun j0:Nat=>g (xs.getD j0 iE.zero) j0) d m; simp only [List.length_append,List.length_cons,List.length_nil]; omega⟩))));exact s8):p:=h
theorem s76 {p:Prop} (h:p:=by
 refine hdn (al1 15 rfl ((jS (.t rfl) eN (o2 rfl rfl) (fun w I=>nO b5 _ _ _ w (eP zm w I) (pJ hgx _)) ?_)));refine hdn (tk 16 rfl (Ev.bu (fs:=_) (places:=[(0,1),(1,1),(2,1),(3,1),(4,1)]) z55 rfl Y55 zk (.cons (.t rfl) (.cons (.t rfl) (.cons (.t rfl) .nil))) (ay.cons aD.tK rfl (ay.cons aD.jq rfl (ay.cons aD.gX rfl ay.nil)))) ?_);refine al1 17 rfl ((buildSlice (E:=a7) Y130 gT z55 (.cons (.t rfl) .nil) rfl rfl (fun vv_1=>?_)));exact s6):p:=h
theorem s77 {p:Prop} (h:p:=by
 refine cnd rfl (fun h2=>?_) (fun h2=>?_)
 ·refine sg (ac (I 2) ?_);refine nP (ret (bR (pR (dn rfl rfl ?_))));exact s14
 ·refine skip (bN (pN (sg (ac (I 0) ?_))));refine nP (ret (dn rfl rfl ?_));exact s14):p:=h
theorem s78 {p:Prop} (h:p:=by
 refine hdn (al1 7 rfl ((apz (E:=u8E) Y48 ty5 zb5 zs5 (.t rfl) (.t rfl) (fun vv_1=>?_))));refine hdn (tk 8 rfl (Ev.assign (.t rfl)) ?_);refine ovr (pN (seq (dA zk ?_)));exact s2):p:=h
theorem s79 {p:Prop} (h:p:=by
 refine nil (bN (pN (sg (co (Ev.ldv mL (.t rfl) (ah.id _)) ?_))));exact s4):p:=h
theorem s80 {p:Prop} (h:p:=by
 refine hdn (al1 11 rfl ((buildSlice (E:=(ovE eB)) Y129 q8 z146 (.cons (.t rfl) .nil) rfl rfl (fun vv_1=>?_))));exact s19):p:=h
theorem s81 {p:Prop} (h:p:=by
 refine hdn (al1 9 rfl ((buildSlice (E:=(ovE eB)) Y129 q8 z146 (.cons (.t rfl) .nil) rfl rfl (fun vv_1=>?_))));exact s21):p:=h
theorem s82 {p:Prop} (h:p:=by
 refine al1 11 rfl ((alloc z55 (fun bb_1=>?_)));refine hdn (al1 12 rfl ((stv gT (ah.id _) (.t rfl) (.t rfl) ?_)));exact s41):p:=h
theorem s83 {p:Prop} (h:p:=by
 have h3c:decide (ckM r.eY = 0) = true:=by simpa using h3
 rw [lP] at h3c;rw [h3c]; simp):p:=h
theorem s84 {p:Prop} (h:p:=by
 refine skip (bN (pN (region (mv rfl (co (Ev.bL (.t rfl) (.c rfl) (fun _=>zo)) ?_)))));exact s13):p:=h
end Go.Gx
set_option linter.defProp false
namespace Go.Proofs.YtljifjflnakmoaaGreat
open Go Go.Gx
def Y81:=@Tryz.underlying81
def Y4:=@Tryz.underlying4
def Y79:=@Tryz.underlying79
def Y5:=@Tryz.underlying5
def Y107:=@Tryz.underlying107
def Y3:=@Tryz.underlying3
def Y105:=@Tryz.underlying105
def Y82:=@Tryz.underlying82
def Y9:=@Tryz.underlying9
def Y23:=@Tryz.underlying23
def Y226:=@Tryz.underlying226
def Y22:=@Tryz.underlying22
def Y225:=@Tryz.underlying225
def Y135:=@Tryz.underlying135
def Y24:=@Tryz.underlying24
def Y25:=@Tryz.underlying25
def Y26:=@Tryz.underlying26
def Y48:=@Tryz.underlying48
def Y28:=@Tryz.underlying28
def Y244:=@Tryz.underlying244
def Y189:=@Tryz.underlying189
def Y209:=@Tryz.underlying209
def Y144:=@Tryz.underlying144
def Y205:=@Tryz.underlying205
def Y247:=@Tryz.underlying247
def Y277:=@Tryz.underlying277
def Y248:=@Tryz.underlying248
def Y126:=@Tryz.underlying126
def Y203:=@Tryz.underlying203
def Y129:=@Tryz.underlying129
def Y55:=@Tryz.underlying55
def Y130:=@Tryz.underlying130
def Y51:=@Tryz.underlying51
def Y83:=@Tryz.underlying83
def Y258:=@Tryz.underlying258
def Y85:=@Tryz.underlying85
def Y221:=@Tryz.underlying221
def Y29:=@Tryz.underlying29
def Y53:=@Tryz.underlying53
def Y59:=@Tryz.underlying59
def Y41:=@Tryz.underlying41
def Y32:=@Tryz.underlying32
def Y78:=@Tryz.underlying78
def Y40:=@Tryz.underlying40
def Y95:=@Tryz.underlying95
def Y39:=@Tryz.underlying39
abbrev tyI {α:Type} (t:TypeId) (E:Enc α):Prop:=ee Tryz.prog t E
theorem tyP {α:Type} {t:TypeId} {E:Enc α} (h:ee Tryz.prog t E:=by exact ee.mk' (by kernel_rfl) (by kernel_rfl)):ee Tryz.prog t E:=h
abbrev zI {α:Type} (t:TypeId) (E:Enc α):Prop:=(Tryz.prog.info? t).bind (·.zero) = some (E.val E.zero)
abbrev zbI {α:Type} (t:TypeId) (E:Enc α) (n:Nat):Prop:=(Tryz.prog.info? t).map (fun i=>(i.zero,i.bytes)) = some (some (E.val E.zero),n)
theorem kI {α:Type} {t:TypeId} {E:Enc α} (h:(Tryz.prog.info? t).bind (·.zero) = some (E.val E.zero):=by kernel_rfl):zI t E:=h
theorem kB {α:Type} {t:TypeId} {E:Enc α} {n:Nat} (h:(Tryz.prog.info? t).map (fun i=>(i.zero,i.bytes)) = some (some (E.val E.zero),n):=by kernel_rfl):zbI t E n:=h
abbrev zsI {α:Type} (E:Enc α):Prop:=(E.val E.zero).cells.size = E.size
theorem zsP {α:Type} (E:Enc α):zsI E:=by rw [zsI,Enc.eQ,List.size_toArray,Enc.len]
theorem eN {f:FuncId} (h:Gx.cv Tryz.prog f:=by exact Gx.cv.mk' (by kernel_rfl)):Gx.cv Tryz.prog f:=h
structure aG where
 v6:Bool
 b:(Vector UInt8 16)
def aG.to:(Bool × (Vector UInt8 16))→aG:=fun x=>⟨x.1,x.2⟩
def aG.of:aG→(Bool × (Vector UInt8 16)):=fun x=>(x.v6,x.b)
def cz:Enc aG:=gI (bh bE (fN 16 u8E)) aG.to aG.of
def aG.jP:ah cz bE 0:=lI aG.to aG.of l1
@[simp] theorem aG.get_v6 (x:aG):aG.jP.get x = x.v6:=rfl
@[simp] theorem aG.set_v6 (x:aG) (y:Bool):aG.jP.set x y = { x with v6:=y }:=rfl
def aG.l_b:ah cz (fN 16 u8E) 1:=lI aG.to aG.of (l2 (ah.id _))
@[simp] theorem aG.get_b (x:aG):aG.l_b.get x = x.b:=rfl
@[simp] theorem aG.set_b (x:aG) (y:(Vector UInt8 16)):aG.l_b.set x y = { x with b:=y }:=rfl
structure ae where
 addr:aG
 bits:Int
def ae.to:(aG × Int)→ae:=fun x=>⟨x.1,x.2⟩
def ae.of:ae→(aG × Int):=fun x=>(x.addr,x.bits)
def aM:Enc ae:=gI (bh cz iE) ae.to ae.of
def ae.eH:ah aM cz 0:=lI ae.to ae.of l1
@[simp] theorem ae.get_addr (x:ae):ae.eH.get x = x.addr:=rfl
@[simp] theorem ae.set_addr (x:ae) (y:aG):ae.eH.set x y = { x with addr:=y }:=rfl
def ae.fj:ah aM iE 17:=lI ae.to ae.of (l2 (ah.id _))
@[simp] theorem ae.get_bits (x:ae):ae.fj.get x = x.bits:=rfl
@[simp] theorem ae.set_bits (x:ae) (y:Int):ae.fj.set x y = { x with bits:=y }:=rfl
structure bm where
 to_:ae
 out:Int
def bm.to:(ae × Int)→bm:=fun x=>⟨x.1,x.2⟩
def bm.of:bm→(ae × Int):=fun x=>(x.to_,x.out)
def aX:Enc bm:=gI (bh aM iE) bm.to bm.of
def bm.lj:ah aX aM 0:=lI bm.to bm.of l1
@[simp] theorem bm.get_to_ (x:bm):bm.lj.get x = x.to_:=rfl
def bm.jB:ah aX iE 18:=lI bm.to bm.of (l2 (ah.id _))
@[simp] theorem bm.get_out (x:bm):bm.jB.get x = x.out:=rfl
structure bc where
 num:UInt64
 den:UInt64
 rO:UInt64
def bc.to:(UInt64 × (UInt64 × UInt64))→bc:=fun x=>⟨x.1,x.2.1,x.2.2⟩
def bc.of:bc→(UInt64 × (UInt64 × UInt64)):=fun x=>(x.num,x.den,x.rO)
def j6:Enc bc:=gI (bh fR (bh fR fR)) bc.to bc.of
def bc.l_num:ah j6 fR 0:=lI bc.to bc.of l1
@[simp] theorem bc.get_num (x:bc):bc.l_num.get x = x.num:=rfl
def bc.l_den:ah j6 fR 1:=lI bc.to bc.of (l2 l1)
@[simp] theorem bc.get_den (x:bc):bc.l_den.get x = x.den:=rfl
def bc.xf:ah j6 fR 2:=lI bc.to bc.of (l2 (l2 (ah.id _)))
@[simp] theorem bc.get_burst (x:bc):bc.xf.get x = x.rO:=rfl
structure aI where
 name:ByteArray
 bucket:bc
def aI.to:(ByteArray × bc)→aI:=fun x=>⟨x.1,x.2⟩
def aI.of:aI→(ByteArray × bc):=fun x=>(x.name,x.bucket)
def bj:Enc aI:=gI (bh sE j6) aI.to aI.of
def aI.fT:ah bj sE 0:=lI aI.to aI.of l1
@[simp] theorem aI.get_name (x:aI):aI.fT.get x = x.name:=rfl
def aI.l_bucket:ah bj j6 1:=lI aI.to aI.of (l2 (ah.id _))
@[simp] theorem aI.get_bucket (x:aI):aI.l_bucket.get x = x.bucket:=rfl
structure az where
 name:ByteArray
 out:Int
 room:Int
def az.to:(ByteArray × (Int × Int))→az:=fun x=>⟨x.1,x.2.1,x.2.2⟩
def az.of:az→(ByteArray × (Int × Int)):=fun x=>(x.name,x.out,x.room)
def bg:Enc az:=gI (bh sE (bh iE iE)) az.to az.of
def az.fT:ah bg sE 0:=lI az.to az.of l1
@[simp] theorem az.get_name (x:az):az.fT.get x = x.name:=rfl
def az.jB:ah bg iE 1:=lI az.to az.of (l2 l1)
@[simp] theorem az.get_out (x:az):az.jB.get x = x.out:=rfl
def az.tL:ah bg iE 2:=lI az.to az.of (l2 (l2 (ah.id _)))
@[simp] theorem az.get_room (x:az):az.tL.get x = x.room:=rfl
structure bM where
 from_:UInt16
 to_:UInt16
def bM.to:(UInt16 × UInt16)→bM:=fun x=>⟨x.1,x.2⟩
def bM.of:bM→(UInt16 × UInt16):=fun x=>(x.from_,x.to_)
def fy:Enc bM:=gI (bh od od) bM.to bM.of
def bM.nU:ah fy od 0:=lI bM.to bM.of l1
@[simp] theorem bM.get_from_ (x:bM):bM.nU.get x = x.from_:=rfl
def bM.lj:ah fy od 1:=lI bM.to bM.of (l2 (ah.id _))
@[simp] theorem bM.get_to_ (x:bM):bM.lj.get x = x.to_:=rfl
structure aq where
 asks:UInt8
 in_:bM
 src:ae
 dst:ae
 aC:UInt8
 bB:bM
 bC:bM
def aq.to:(UInt8 × (bM × (ae × (ae × (UInt8 × (bM × bM))))))→aq:=fun x=>⟨x.1,x.2.1,x.2.2.1,x.2.2.2.1,x.2.2.2.2.1,x.2.2.2.2.2.1,x.2.2.2.2.2.2⟩
def aq.of:aq→(UInt8 × (bM × (ae × (ae × (UInt8 × (bM × bM)))))):=fun x=>(x.asks,x.in_,x.src,x.dst,x.aC,x.bB,x.bC)
def aR:Enc aq:=gI (bh u8E (bh fy (bh aM (bh aM (bh u8E (bh fy fy)))))) aq.to aq.of
def aq.xg:ah aR u8E 0:=lI aq.to aq.of l1
@[simp] theorem aq.get_asks (x:aq):aq.xg.get x = x.asks:=rfl
def aq.iH:ah aR fy 1:=lI aq.to aq.of (l2 l1)
@[simp] theorem aq.get_in_ (x:aq):aq.iH.get x = x.in_:=rfl
@[simp] theorem aq.set_in_ (x:aq) (y:bM):aq.iH.set x y = { x with in_:=y }:=rfl
def aq.eF:ah aR aM 3:=lI aq.to aq.of (l2 (l2 l1))
@[simp] theorem aq.get_src (x:aq):aq.eF.get x = x.src:=rfl
@[simp] theorem aq.set_src (x:aq) (y:ae):aq.eF.set x y = { x with src:=y }:=rfl
def aq.fx:ah aR aM 21:=lI aq.to aq.of (l2 (l2 (l2 l1)))
@[simp] theorem aq.get_dst (x:aq):aq.fx.get x = x.dst:=rfl
@[simp] theorem aq.set_dst (x:aq) (y:ae):aq.fx.set x y = { x with dst:=y }:=rfl
def aq.bS:ah aR u8E 39:=lI aq.to aq.of (l2 (l2 (l2 (l2 l1))))
@[simp] theorem aq.vS (x:aq):aq.bS.get x = x.aC:=rfl
def aq.cS:ah aR fy 40:=lI aq.to aq.of (l2 (l2 (l2 (l2 (l2 l1)))))
@[simp] theorem aq.rA (x:aq):aq.cS.get x = x.bB:=rfl
@[simp] theorem aq.ri (x:aq) (y:bM):aq.cS.set x y = { x with bB:=y }:=rfl
def aq.cT:ah aR fy 42:=lI aq.to aq.of (l2 (l2 (l2 (l2 (l2 (l2 (ah.id _)))))))
@[simp] theorem aq.rB (x:aq):aq.cT.get x = x.bC:=rfl
@[simp] theorem aq.rj (x:aq) (y:bM):aq.cT.set x y = { x with bC:=y }:=rfl
structure aY where
 name:ByteArray
 eY:aq
 action:Int
 out:Int
 iV:ByteArray
 fS:ByteArray
def aY.to:(ByteArray × (aq × (Int × (Int × (ByteArray × ByteArray)))))→aY:=fun x=>⟨x.1,x.2.1,x.2.2.1,x.2.2.2.1,x.2.2.2.2.1,x.2.2.2.2.2⟩
def aY.of:aY→(ByteArray × (aq × (Int × (Int × (ByteArray × ByteArray))))):=fun x=>(x.name,x.eY,x.action,x.out,x.iV,x.fS)
def cy:Enc aY:=gI (bh sE (bh aR (bh iE (bh iE (bh sE sE))))) aY.to aY.of
def aY.fT:ah cy sE 0:=lI aY.to aY.of l1
@[simp] theorem aY.get_name (x:aY):aY.fT.get x = x.name:=rfl
@[simp] theorem aY.set_name (x:aY) (y:ByteArray):aY.fT.set x y = { x with name:=y }:=rfl
def aY.tM:ah cy aR 1:=lI aY.to aY.of (l2 l1)
@[simp] theorem aY.get_match_ (x:aY):aY.tM.get x = x.eY:=rfl
def aY.dM:ah cy iE 45:=lI aY.to aY.of (l2 (l2 l1))
@[simp] theorem aY.get_action (x:aY):aY.dM.get x = x.action:=rfl
@[simp] theorem aY.set_action (x:aY) (y:Int):aY.dM.set x y = { x with action:=y }:=rfl
def aY.jB:ah cy iE 46:=lI aY.to aY.of (l2 (l2 (l2 l1)))
@[simp] theorem aY.get_out (x:aY):aY.jB.get x = x.out:=rfl
@[simp] theorem aY.set_out (x:aY) (y:Int):aY.jB.set x y = { x with out:=y }:=rfl
def aY.jq:ah cy sE 47:=lI aY.to aY.of (l2 (l2 (l2 (l2 l1))))
@[simp] theorem aY.get_meter (x:aY):aY.jq.get x = x.iV:=rfl
def aY.gX:ah cy sE 48:=lI aY.to aY.of (l2 (l2 (l2 (l2 (l2 (ah.id _))))))
@[simp] theorem aY.get_mirror (x:aY):aY.gX.get x = x.fS:=rfl
theorem ty5:tyI 5 u8E:=tyP
def aG.eqb (x y:aG):Bool:=eqd x.v6 y.v6 && ((eqA 16 eqd) x.b y.b && (true))
theorem aG.bJ (x y:aG):aG.eqb x y = true ↔ x = y:=by
 obtain ⟨a0,a1⟩:=x;obtain ⟨b0,b1⟩:=y;simp only [aG.eqb,Bool.and_eq_true,dy,(eqA_iff dy),aG.mk.injEq,and_true]
theorem ty79:tyI 79 (fN 16 u8E):=tyP
theorem ty4:tyI 4 bE:=tyP
theorem eqok81:j8 Tryz.prog 81 cz aG.eqb 3:=nE (fs:=_) Y81 zk rfl (EqF.cons (by decide) rfl aG.jP ty4 (j8.up (eqok_b Y4) (by decide)) (EqF.cons (by decide) rfl aG.l_b ty79 (uc Y79 ty5 (xw Y5)) EqF.nil)) (fun _ _=>rfl)
instance:DecidableEq aG:=fun x y=>decidable_of_iff (aG.eqb x y = true) (aG.bJ x y)
@[simp] theorem aG.j5 (x y:aG):aG.eqb x y = decide (x = y):=by
  rw [Bool.eq_iff_iff,decide_eq_true_iff];exact aG.bJ x y
def ae.eqb (x y:ae):Bool:=aG.eqb x.addr y.addr && (eqd x.bits y.bits && (true))
theorem ae.bJ (x y:ae):ae.eqb x y = true ↔ x = y:=by
 obtain ⟨a0,a1⟩:=x;obtain ⟨b0,b1⟩:=y;simp only [ae.eqb,Bool.and_eq_true,aG.bJ,dy,ae.mk.injEq,and_true]
theorem ty3:tyI 3 iE:=tyP
theorem eM:tyI 81 cz:=tyP
theorem nY:j8 Tryz.prog 107 aM ae.eqb 4:=nE (fs:=_) Y107 zk rfl (EqF.cons (by decide) rfl ae.eH eM eqok81 (EqF.cons (by decide) rfl ae.fj ty3 (j8.up (eqok_i Y3) (by decide)) EqF.nil)) (fun _ _=>rfl)
instance:DecidableEq ae:=fun x y=>decidable_of_iff (ae.eqb x y = true) (ae.bJ x y)
@[simp] theorem ae.j5 (x y:ae):ae.eqb x y = decide (x = y):=by
  rw [Bool.eq_iff_iff,decide_eq_true_iff];exact ae.bJ x y
def bm.eqb (x y:bm):Bool:=ae.eqb x.to_ y.to_ && (eqd x.out y.out && (true))
theorem bm.bJ (x y:bm):bm.eqb x y = true ↔ x = y:=by
 obtain ⟨a0,a1⟩:=x;obtain ⟨b0,b1⟩:=y;simp only [bm.eqb,Bool.and_eq_true,ae.bJ,dy,bm.mk.injEq,and_true]
theorem cB:tyI 107 aM:=tyP
instance:DecidableEq bm:=fun x y=>decidable_of_iff (bm.eqb x y = true) (bm.bJ x y)
@[simp] theorem bm.j5 (x y:bm):bm.eqb x y = decide (x = y):=by
  rw [Bool.eq_iff_iff,decide_eq_true_iff];exact bm.bJ x y
def bc.eqb (x y:bc):Bool:=eqd x.num y.num && (eqd x.den y.den && (eqd x.rO y.rO && (true)))
theorem bc.bJ (x y:bc):bc.eqb x y = true ↔ x = y:=by
 obtain ⟨a0,a1,a2⟩:=x;obtain ⟨b0,b1,b2⟩:=y;simp only [bc.eqb,Bool.and_eq_true,dy,dy,dy,bc.mk.injEq,and_true]
theorem eO:tyI 51 fR:=tyP
instance:DecidableEq bc:=fun x y=>decidable_of_iff (bc.eqb x y = true) (bc.bJ x y)
@[simp] theorem bc.j5 (x y:bc):bc.eqb x y = decide (x = y):=by
  rw [Bool.eq_iff_iff,decide_eq_true_iff];exact bc.bJ x y
def aI.eqb (x y:aI):Bool:=eqs x.name y.name && (bc.eqb x.bucket y.bucket && (true))
theorem aI.bJ (x y:aI):aI.eqb x y = true ↔ x = y:=by
 obtain ⟨a0,a1⟩:=x;obtain ⟨b0,b1⟩:=y;simp only [aI.eqb,Bool.and_eq_true,iJ,bc.bJ,aI.mk.injEq,and_true]
theorem ty137:tyI 137 j6:=tyP
theorem ty9:tyI 9 sE:=tyP
instance:DecidableEq aI:=fun x y=>decidable_of_iff (aI.eqb x y = true) (aI.bJ x y)
@[simp] theorem aI.j5 (x y:aI):aI.eqb x y = decide (x = y):=by
  rw [Bool.eq_iff_iff,decide_eq_true_iff];exact aI.bJ x y
def az.eqb (x y:az):Bool:=eqs x.name y.name && (eqd x.out y.out && (eqd x.room y.room && (true)))
theorem az.bJ (x y:az):az.eqb x y = true ↔ x = y:=by
 obtain ⟨a0,a1,a2⟩:=x;obtain ⟨b0,b1,b2⟩:=y;simp only [az.eqb,Bool.and_eq_true,iJ,dy,dy,az.mk.injEq,and_true]
instance:DecidableEq az:=fun x y=>decidable_of_iff (az.eqb x y = true) (az.bJ x y)
@[simp] theorem az.j5 (x y:az):az.eqb x y = decide (x = y):=by
  rw [Bool.eq_iff_iff,decide_eq_true_iff];exact az.bJ x y
def bM.eqb (x y:bM):Bool:=eqd x.from_ y.from_ && (eqd x.to_ y.to_ && (true))
theorem bM.bJ (x y:bM):bM.eqb x y = true ↔ x = y:=by
 obtain ⟨a0,a1⟩:=x;obtain ⟨b0,b1⟩:=y;simp only [bM.eqb,Bool.and_eq_true,dy,dy,bM.mk.injEq,and_true]
theorem iW:tyI 82 od:=tyP
theorem xx:j8 Tryz.prog 105 fy bM.eqb 2:=nE (fs:=_) Y105 zk rfl (EqF.cons (by decide) rfl bM.nU iW (eqok_u16 Y82) (EqF.cons (by decide) rfl bM.lj iW (eqok_u16 Y82) EqF.nil)) (fun _ _=>rfl)
instance:DecidableEq bM:=fun x y=>decidable_of_iff (bM.eqb x y = true) (bM.bJ x y)
@[simp] theorem bM.j5 (x y:bM):bM.eqb x y = decide (x = y):=by
  rw [Bool.eq_iff_iff,decide_eq_true_iff];exact bM.bJ x y
def aq.eqb (x y:aq):Bool:=eqd x.asks y.asks && (bM.eqb x.in_ y.in_ && (ae.eqb x.src y.src && (ae.eqb x.dst y.dst && (eqd x.aC y.aC && (bM.eqb x.bB y.bB && (bM.eqb x.bC y.bC && (true)))))))
theorem aq.bJ (x y:aq):aq.eqb x y = true ↔ x = y:=by
 obtain ⟨a0,a1,a2,a3,a4,a5,a6⟩:=x;obtain ⟨b0,b1,b2,b3,b4,b5,b6⟩:=y;simp only [aq.eqb,Bool.and_eq_true,dy,bM.bJ,ae.bJ,ae.bJ,dy,bM.bJ,bM.bJ,aq.mk.injEq,and_true]
theorem ve:tyI 105 fy:=tyP
instance:DecidableEq aq:=fun x y=>decidable_of_iff (aq.eqb x y = true) (aq.bJ x y)
@[simp] theorem aq.j5 (x y:aq):aq.eqb x y = decide (x = y):=by
  rw [Bool.eq_iff_iff,decide_eq_true_iff];exact aq.bJ x y
def aY.eqb (x y:aY):Bool:=eqs x.name y.name && (aq.eqb x.eY y.eY && (eqd x.action y.action && (eqd x.out y.out && (eqs x.iV y.iV && (eqs x.fS y.fS && (true))))))
theorem aY.bJ (x y:aY):aY.eqb x y = true ↔ x = y:=by
 obtain ⟨a0,a1,a2,a3,a4,a5⟩:=x;obtain ⟨b0,b1,b2,b3,b4,b5⟩:=y;simp only [aY.eqb,Bool.and_eq_true,iJ,aq.bJ,dy,dy,iJ,iJ,aY.mk.injEq,and_true]
theorem fY:tyI 109 aR:=tyP
instance:DecidableEq aY:=fun x y=>decidable_of_iff (aY.eqb x y = true) (aY.bJ x y)
@[simp] theorem aY.j5 (x y:aY):aY.eqb x y = decide (x = y):=by
  rw [Bool.eq_iff_iff,decide_eq_true_iff];exact aY.bJ x y
theorem ck81:qk Tryz.prog 81 cz 3:=wc Y81 rfl (CkF.cons (by decide) rfl aG.jP ty4 ((ck_b Y4).up (by decide)) (CkF.cons (by decide) rfl aG.l_b ty79 (ck_arr Y79 ty5 (ck_int u8E (fun _=>rfl) Y5)) CkF.nil))
theorem ck107:qk Tryz.prog 107 aM 4:=wc Y107 rfl (CkF.cons (by decide) rfl ae.eH eM ck81 (CkF.cons (by decide) rfl ae.fj ty3 ((ck_int iE (fun _=>rfl) Y3).up (by decide)) CkF.nil))
theorem key107:lS Tryz.prog 107 aM ae.eqb:=key_agg rfl nY (by decide) ck107 (by decide) (bit_iso (bit_prod (bit_iso (bit_prod bit_b (bit_arr (bit_int u8E (fun _=>rfl))))) (bit_int iE (fun _=>rfl)))) ae.bJ
theorem key3:lS Tryz.prog 3 iE eqd:=key_i Y3
theorem uT:lS Tryz.prog 9 sE eqs:=key_s Y9
def cE {α κ:Type} (q:κ→κ→Bool) (f:α→κ) (l:List α):Nat→List (κ × Int)
 | 0=>[]
 | n + 1=>match l[n]? with
   | none=>cE q f l n
   | some x=>if (cO q (f x) (cE q f l n)).isSome then cE q f l n else lE q (f x) (n:Int) (cE q f l n)
theorem firstN_has {α κ:Type} (q:κ→κ→Bool) (f:α→κ) (l:List α) (z:α) {n:Nat} (h:n < l.length) (hs:(cO q (f (l.getD n z)) (cE q f l n)).isSome = true):cE q f l (n + 1) = cE q f l n:=by
 have e:l[n]? = some (l.getD n z):=by simp [List.getD,List.getElem?_eq_getElem h]
 rw [cE,e];simp only [hs,if_true]
theorem firstN_new {α κ:Type} (q:κ→κ→Bool) (f:α→κ) (l:List α) (z:α) {n:Nat} (h:n < l.length) (hs:¬ (cO q (f (l.getD n z)) (cE q f l n)).isSome = true):cE q f l (n + 1) = lE q (f (l.getD n z)) (n:Int) (cE q f l n):=by
 have e:l[n]? = some (l.getD n z):=by simp [List.getD,List.getElem?_eq_getElem h]
 rw [cE,e];simp only [hs,Bool.false_eq_true,if_false]
theorem nD {α κ:Type} (q:κ→κ→Bool) (f:α→κ) (l:List α) (z:α) {i:Int} (h:0 ≤ i ∧ i < l.length) (hs:(cO q (f (l.getD i.toNat z)) (cE q f l i.toNat)).isSome = true):cE q f l (i + 1).toNat = cE q f l i.toNat:=by
 have e:(i + 1).toNat = i.toNat + 1:=by omega
 rw [e];exact firstN_has q f l z (by omega) hs
theorem nC {α κ:Type} (q:κ→κ→Bool) (f:α→κ) (l:List α) (z:α) {i:Int} (h:0 ≤ i ∧ i < l.length) (hs:(cO q (f (l.getD i.toNat z)) (cE q f l i.toNat)).isSome = false):cE q f l (i + 1).toNat = lE q (f (l.getD i.toNat z)) i (cE q f l i.toNat):=by
 have e:(i + 1).toNat = i.toNat + 1:=by omega
 have e2:((i.toNat:Nat):Int) = i:=by omega
 rw [e,firstN_new q f l z (by omega) (by rw [hs]; exact Bool.false_ne_true),e2]
theorem kZ:tyI 194 aX:=tyP
theorem z194:zI 194 aX:=kI
theorem z3:zI 3 iE:=kI
theorem uW (f:Nat) (cap:List Value) (kf:bm→ae) (u:Value) (xs:List bm) (w:World) (hen:cv Tryz.prog f) (hl:aO aX w u xs) (hk:u6 Tryz.prog f cap dI w aX aM (fun _=>True) kf):Gx.Calls Tryz.prog 138 #[u,(clo f cap).v] w (gL w (fun _:Nat=>True) (fun b=>.map (some b)) (fun b=>[fW b aM iE (cE ae.eqb kf xs xs.length)])):=by
 have hle:=hl.le;refine en0 35 Tryz.func138 (fun _ _=>?_);refine sg (ac (Go.Value.map none) ?_);refine nP (sg (cons (makeMap (E:=aM) (V:=iE) (fun b1=>?_))));refine asn rfl (nP (seq (sg (mv rfl (co (Ev.len Y23 (.t rfl) zf) ?_)))));refine co (Ev.move (.c rfl)) ?_;refine nP (block (lpo (X:=Int) (fun x=>(0 ≤ x ∧ x ≤ xs.length)) (fun x=>[dz,(1,true,(clo f cap).v),(5,true,.map (some b1)),(11,true,u),(12,true,I xs.length),(13,true,I x)]) (fun x=>[fW b1 aM iE (cE ae.eqb kf xs x.toNat)]) (fun x=>((xs.length:Int) - x).toNat) (0) (fun x hx=>?_)));obtain ⟨i,rfl⟩:∃ y,y = x:=⟨x,rfl⟩;have hi:0 ≤ i ∧ i ≤ xs.length:=hx;clear hx;refine sg (co (Ev.cj (.t rfl) (.t rfl)) ?_);refine nP (seq ?_);refine cnd rfl (fun h0=>?_) (fun h0=>?_)
 ·refine skip (pN (seq (block (sg (mv rfl (co (Ev.indexAddr Y23 kZ (.t rfl) (.t rfl) zf (fun _=>zo)) ?_))))));refine co (Ev.bV kZ (.t rfl) zf (fun _=>zo)) ?_;refine cons (alloc z194 (fun b2=>?_));refine asn rfl (cons (stv kZ (ah.id _) (.t rfl) (.t rfl) ?_));refine nP (sg (mv rfl (mv rfl (co (Ev.ldv kZ (.t rfl) (ah.id _)) ?_))));refine cons (jS (.t rfl) hen (.cons (.t rfl) .nil) (fun w I=>hk.call trivial w I) ?_);refine co (Ev.l9 Y226 Y107 key107 z3 (.t rfl) (.t rfl) (fun _=>(by first | exact eP (by repeat first | exact mH | apply mT | apply mA) | exact rp (by repeat first | exact mH | apply mT | apply mA) | exact fun w I=>iw.aV (by assumption) I.keeps))) ?_;refine mv rfl (cx rfl rfl (cx rfl rfl (asn rfl (asn rfl (nP (sg (mv rfl (co (Ev.not (.t rfl)) ?_))))))));refine nP ?_;refine cnd rfl (fun h1=>?_) (fun h1=>?_)
  ·refine region (mv rfl (mv rfl (co (Ev.ldv kZ (.t rfl) (ah.id _)) ?_)));refine cons (jS (.t rfl) hen (.cons (.t rfl) .nil) (fun w I=>hk.call trivial w I) ?_);refine mv rfl (cons (mapUpdate Y226 Y107 key107 (.t rfl) (.t rfl) (.t rfl) zu ?_));refine nil (bN (pN (region (co (Ev.bL (.t rfl) (.c rfl) (fun _=>zo)) ?_))));exact s37
  ·refine skip (bN (pN (region (co (Ev.bL (.t rfl) (.c rfl) (fun _=>zo)) ?_))));exact s37
 ·exact s45
theorem first_3_3 (f:Nat) (cap:List Value) (kf:Int→Int) (u:Value) (xs:List Int) (w:World) (hen:cv Tryz.prog f) (hl:aO iE w u xs) (hk:u6 Tryz.prog f cap dI w iE iE (fun _=>True) kf):Gx.Calls Tryz.prog 136 #[u,(clo f cap).v] w (gL w (fun _:Nat=>True) (fun b=>.map (some b)) (fun b=>[fW b iE iE (cE eqd kf xs xs.length)])):=by
 have hle:=hl.le;refine en0 35 Tryz.func136 (fun _ _=>?_);refine sg (ac (Go.Value.map none) ?_);refine nP (sg (cons (makeMap (E:=iE) (V:=iE) (fun b1=>?_))));refine asn rfl (nP (seq (sg (mv rfl (co (Ev.len Y22 (.t rfl) zf) ?_)))));refine co (Ev.move (.c rfl)) ?_;refine nP (block (lpo (X:=Int) (fun x=>(0 ≤ x ∧ x ≤ xs.length)) (fun x=>[dz,(1,true,(clo f cap).v),(5,true,.map (some b1)),(11,true,u),(12,true,I xs.length),(13,true,I x)]) (fun x=>[fW b1 iE iE (cE eqd kf xs x.toNat)]) (fun x=>((xs.length:Int) - x).toNat) (0) (fun x hx=>?_)));obtain ⟨i,rfl⟩:∃ y,y = x:=⟨x,rfl⟩;have hi:0 ≤ i ∧ i ≤ xs.length:=hx;clear hx;refine sg (co (Ev.cj (.t rfl) (.t rfl)) ?_);refine nP (seq ?_);refine cnd rfl (fun h0=>?_) (fun h0=>?_)
 ·refine skip (pN (seq (block (sg (mv rfl (co (Ev.indexAddr Y22 ty3 (.t rfl) (.t rfl) zf (fun _=>zo)) ?_))))));refine co (Ev.bV ty3 (.t rfl) zf (fun _=>zo)) ?_;refine asn rfl (asn rfl (nP (sg (mv rfl (mv rfl (mv rfl (cons (jS (.t rfl) hen (.cons (.t rfl) .nil) (fun w I=>hk.call trivial w I) ?_))))))));refine co (Ev.l9 Y225 Y3 key3 z3 (.t rfl) (.t rfl) (fun _=>(by first | exact eP (by repeat first | exact mH | apply mT | apply mA) | exact rp (by repeat first | exact mH | apply mT | apply mA) | exact fun w I=>iw.aV (by assumption) I.keeps))) ?_;refine mv rfl (cx rfl rfl (cx rfl rfl (asn rfl (asn rfl (nP (sg (mv rfl (co (Ev.not (.t rfl)) ?_))))))));refine nP ?_;refine cnd rfl (fun h1=>?_) (fun h1=>?_)
  ·refine region (mv rfl (mv rfl (mv rfl (cons (jS (.t rfl) hen (.cons (.t rfl) .nil) (fun w I=>hk.call trivial w I) ?_)))));refine mv rfl (cons (mapUpdate Y225 Y3 key3 (.t rfl) (.t rfl) (.t rfl) zu ?_));refine nil (bN (pN (region (co (Ev.bL (.t rfl) (.c rfl) (fun _=>zo)) ?_))));exact s38
  ·refine skip (bN (pN (region (co (Ev.bL (.t rfl) (.c rfl) (fun _=>zo)) ?_))));exact s38
 ·exact s45
theorem q9:tyI 111 cy:=tyP
theorem z111:zI 111 cy:=kI
abbrev Ffst {α:Type} (E:Enc α) (k:Nat):Prop:=∀ (f:Nat) (cap:List Value) (kf:α→ByteArray) (u:Value) (xs:List α) (w:World) (hen:cv Tryz.prog f) (hl:aO E w u xs) (hk:u6 Tryz.prog f cap dI w E sE (fun _=>True) kf),Gx.Calls Tryz.prog k #[u,(clo f cap).v] w (gL w (fun _:Nat=>True) (fun b=>.map (some b)) (fun b=>[fW b sE iE (cE eqs kf xs xs.length)]))
theorem ffst {α:Type} {E:Enc α} {k ts te:Nat} {fn:Func} (hf:Tryz.prog.funcs[k]? = some fn) (hu:Tryz.prog.underlying ts = some (.slice te)) (T:ee Tryz.prog te E) (hz:(Tryz.prog.info? te).bind (·.zero) = some (E.val E.zero)) (hs:Nat.blt 0 E.size = true) (h:Tryz.prog.funcs[k]? = some fn→Tryz.prog.underlying ts = some (.slice te)→∀ E:Enc α,ee Tryz.prog te E→(Tryz.prog.info? te).bind (·.zero) = some (E.val E.zero)→Nat.blt 0 E.size = true→Ffst E k:=by
 intro hfn hun E T hz hs f cap kf u xs w hen hl hk;have hle:=hl.le;refine enter0 35 hfn rfl rfl (Nat.le_of_ble_eq_true rfl) (fun _ _=>?_);refine sg (ac (Go.Value.map none) ?_);refine nP (sg (cons (makeMap (E:=sE) (V:=iE) (fun b1=>?_))));refine asn rfl (nP (seq (sg (mv rfl (co (Ev.len hun (.t rfl) zf) ?_)))));refine co (Ev.move (.c rfl)) ?_;refine nP (block (lpo (X:=Int) (fun x=>(0 ≤ x ∧ x ≤ xs.length)) (fun x=>[dz,(1,true,(clo f cap).v),(5,true,.map (some b1)),(11,true,u),(12,true,I xs.length),(13,true,I x)]) (fun x=>[fW b1 sE iE (cE eqs kf xs x.toNat)]) (fun x=>((xs.length:Int) - x).toNat) (0) (fun x hx=>?_)));obtain ⟨i,rfl⟩:∃ y,y = x:=⟨x,rfl⟩;have hi:0 ≤ i ∧ i ≤ xs.length:=hx;clear hx;refine sg (co (Ev.cj (.t rfl) (.t rfl)) ?_);refine nP (seq ?_);refine cnd rfl (fun h0=>?_) (fun h0=>?_)
 ·refine skip (pN (seq (block (sg (mv rfl (co (Ev.indexAddr hun T (.t rfl) (.t rfl) zf (fun _=>zo)) ?_))))));refine co (Ev.bV T (.t rfl) zf (fun _=>zo)) ?_;refine cons (alloc hz (fun b2=>?_));refine asn rfl (cons (stv T (ah.id _) (.t rfl) (.t rfl) ?_));refine nP (sg (mv rfl (mv rfl (co (Ev.ldv T (.t rfl) (ah.id _)) ?_))));refine cons (jS (.t rfl) hen (.cons (.t rfl) .nil) (fun w I=>hk.call trivial w I) ?_);refine co (Ev.l9 Y135 Y9 uT z3 (.t rfl) (.t rfl) (fun _=>(by first | exact eP (by repeat first | exact mH | apply mT | apply mA) | exact rp (by repeat first | exact mH | apply mT | apply mA) | exact fun w I=>iw.aV (by assumption) I.keeps))) ?_;refine mv rfl (cx rfl rfl (cx rfl rfl (asn rfl (asn rfl (nP (sg (mv rfl (co (Ev.not (.t rfl)) ?_))))))));refine nP ?_;refine cnd rfl (fun h1=>?_) (fun h1=>?_)
  ·refine region (mv rfl (mv rfl (co (Ev.ldv T (.t rfl) (ah.id _)) ?_)));refine cons (jS (.t rfl) hen (.cons (.t rfl) .nil) (fun w I=>hk.call trivial w I) ?_);refine mv rfl (cons (mapUpdate Y135 Y9 uT (.t rfl) (.t rfl) (.t rfl) zu ?_));refine nil (bN (pN (region (co (Ev.bL (.t rfl) (.c rfl) (fun _=>zo)) ?_))));exact s36
  ·refine skip (bN (pN (region (co (Ev.bL (.t rfl) (.c rfl) (fun _=>zo)) ?_))));exact s36
 ·refine exit (pX (pX (bX (pN (sg (mv rfl (asn rfl (nP (ret (done rfl (.tmp rfl .nil) (fun w I=>?_)))))))))));have hil:i.toNat = xs.length:=by omega
  rw [hil] at I;exact ln b1 trivial rfl zs w I):Ffst E k:=h hf hu E T hz hs
theorem first_9_111:Ffst cy 140:=ffst Tryz.func140 Y24 q9 z111 rfl
theorem sT:tyI 139 bj:=tyP
theorem z139:zI 139 bj:=kI
theorem first_9_139:Ffst bj 142:=ffst Tryz.func142 Y25 sT z139 rfl
theorem sQ:tyI 141 bg:=tyP
theorem z141:zI 141 bg:=kI
theorem first_9_141:Ffst bg 144:=ffst Tryz.func144 Y26 sQ z141 rfl
theorem zb3:zbI 3 iE 8:=kB
theorem zs3:zsI iE:=zsP _
theorem clone_3 (u:Value) (xs:List Int) (w:World) (hl:aO iE w u xs) (hn:xs.length * 8 ≤ 140737488355328):Gx.Calls Tryz.prog 83 #[u] w (mE w iE xs 3):=by
 have hle:=hl.le;have hl2:=hl;obtain ⟨sa,cap,rfl,hc1,hc2,hc3,hc4⟩:=hl2;replace hc3:sa = none→[] = xs:=fun e=>(hc3 e).1.symm
 refine en0 8 Tryz.func83 (fun _ _=>?_);refine sg (ac (.slice none 0 0) ?_);refine nP (seq (sg (mv rfl (co (Ev.kq Y22 (.t rfl) (.c rfl)) ?_))));refine nP ?_;refine cnd rfl (fun h0=>?_) (fun h0=>?_)
 ·refine sg (dD iE 3 ?_);exact s17
 ·refine skip (pN (sg (cons (buildSlice (E:=iE) Y22 ty3 z3 .nil rfl rfl (fun v1=>?_)))));refine mv rfl (cons (apz (E:=iE) Y22 ty3 zb3 zs3 (.t rfl) (.t rfl) (fun v2=>?_) (hsrc:=zf)));exact s34
theorem zb194:zbI 194 aX 40:=kB
theorem zs194:zsI aX:=zsP _
theorem clone_194 (u:Value) (xs:List bm) (w:World) (hl:aO aX w u xs) (hn:xs.length * 40 ≤ 140737488355328):Gx.Calls Tryz.prog 84 #[u] w (mE w aX xs 194):=by
 have hle:=hl.le;have hl2:=hl;obtain ⟨sa,cap,rfl,hc1,hc2,hc3,hc4⟩:=hl2;replace hc3:sa = none→[] = xs:=fun e=>(hc3 e).1.symm
 refine en0 8 Tryz.func84 (fun _ _=>?_);refine sg (ac (.slice none 0 0) ?_);refine nP (seq (sg (mv rfl (co (Ev.kq Y23 (.t rfl) (.c rfl)) ?_))));refine nP ?_;refine cnd rfl (fun h0=>?_) (fun h0=>?_)
 ·refine sg (dD aX 194 ?_);exact s17
 ·refine skip (pN (sg (cons (buildSlice (E:=aX) Y23 kZ z194 .nil rfl rfl (fun v1=>?_)))));refine mv rfl (cons (apz (E:=aX) Y23 kZ zb194 zs194 (.t rfl) (.t rfl) (fun v2=>?_) (hsrc:=zf)));exact s34
theorem zb111:zbI 111 cy 152:=kB
theorem zs111:zsI cy:=zsP _
theorem clone_111 (u:Value) (xs:List aY) (w:World) (hl:aO cy w u xs) (hn:xs.length * 152 ≤ 140737488355328):Gx.Calls Tryz.prog 85 #[u] w (mE w cy xs 111):=by
 have hle:=hl.le;have hl2:=hl;obtain ⟨sa,cap,rfl,hc1,hc2,hc3,hc4⟩:=hl2;replace hc3:sa = none→[] = xs:=fun e=>(hc3 e).1.symm
 refine en0 8 Tryz.func85 (fun _ _=>?_);refine sg (ac (.slice none 0 0) ?_);refine nP (seq (sg (mv rfl (co (Ev.kq Y24 (.t rfl) (.c rfl)) ?_))));refine nP ?_;refine cnd rfl (fun h0=>?_) (fun h0=>?_)
 ·refine sg (dD cy 111 ?_);exact s17
 ·refine skip (pN (sg (cons (buildSlice (E:=cy) Y24 q9 z111 .nil rfl rfl (fun v1=>?_)))));refine mv rfl (cons (apz (E:=cy) Y24 q9 zb111 zs111 (.t rfl) (.t rfl) (fun v2=>?_) (hsrc:=zf)));exact s34
theorem zb139:zbI 139 bj 40:=kB
theorem zs139:zsI bj:=zsP _
theorem clone_139 (u:Value) (xs:List aI) (w:World) (hl:aO bj w u xs) (hn:xs.length * 40 ≤ 140737488355328):Gx.Calls Tryz.prog 86 #[u] w (mE w bj xs 139):=by
 have hle:=hl.le;have hl2:=hl;obtain ⟨sa,cap,rfl,hc1,hc2,hc3,hc4⟩:=hl2;replace hc3:sa = none→[] = xs:=fun e=>(hc3 e).1.symm
 refine en0 8 Tryz.func86 (fun _ _=>?_);refine sg (ac (.slice none 0 0) ?_);refine nP (seq (sg (mv rfl (co (Ev.kq Y25 (.t rfl) (.c rfl)) ?_))));refine nP ?_;refine cnd rfl (fun h0=>?_) (fun h0=>?_)
 ·refine sg (dD bj 139 ?_);exact s17
 ·refine skip (pN (sg (cons (buildSlice (E:=bj) Y25 sT z139 .nil rfl rfl (fun v1=>?_)))));refine mv rfl (cons (apz (E:=bj) Y25 sT zb139 zs139 (.t rfl) (.t rfl) (fun v2=>?_) (hsrc:=zf)));exact s34
theorem zb141:zbI 141 bg 32:=kB
theorem zs141:zsI bg:=zsP _
theorem clone_141 (u:Value) (xs:List az) (w:World) (hl:aO bg w u xs) (hn:xs.length * 32 ≤ 140737488355328):Gx.Calls Tryz.prog 87 #[u] w (mE w bg xs 141):=by
 have hle:=hl.le;have hl2:=hl;obtain ⟨sa,cap,rfl,hc1,hc2,hc3,hc4⟩:=hl2;replace hc3:sa = none→[] = xs:=fun e=>(hc3 e).1.symm
 refine en0 8 Tryz.func87 (fun _ _=>?_);refine sg (ac (.slice none 0 0) ?_);refine nP (seq (sg (mv rfl (co (Ev.kq Y26 (.t rfl) (.c rfl)) ?_))));refine nP ?_;refine cnd rfl (fun h0=>?_) (fun h0=>?_)
 ·refine sg (dD bg 141 ?_);exact s17
 ·refine skip (pN (sg (cons (buildSlice (E:=bg) Y26 sQ z141 .nil rfl rfl (fun v1=>?_)))));refine mv rfl (cons (apz (E:=bg) Y26 sQ zb141 zs141 (.t rfl) (.t rfl) (fun v2=>?_) (hsrc:=zf)));exact s34
def uU {α:Type} (p:α→Bool) (l:List α):Int:=match l.findIdx? p with
 | some i=>(i:Int)
 | none=>-1
theorem idx_at {α:Type} {p:α→Bool} {l:List α} (z:α) {i:Int} (hi:0 ≤ i ∧ i < l.length) (hq:∀ k:Nat,k < i→p (l.getD k z) = false) (hp:p (l.getD i.toNat z) = true):uU p l = i:=by
 have hlt:i.toNat < l.length:=by omega
 have h:l.findIdx? p = some i.toNat:=by
  rw [List.findIdx?_eq_some_iff_getElem];refine ⟨hlt,by simpa [List.getD,hlt] using hp,fun j hj=>?_⟩;have:=hq j (by omega);have hj2:j < l.length:=by omega
  simpa [List.getD,hj2] using this
 unfold uU;rw [h];show ((i.toNat:Nat):Int) = i;omega
structure aN where
 jA:OV
 fe:OV
 rules:OV
 kF:OV
 iF:OV
 default:Int
def aN.to:(OV × (OV × (OV × (OV × (OV × Int)))))→aN:=fun x=>⟨x.1,x.2.1,x.2.2.1,x.2.2.2.1,x.2.2.2.2.1,x.2.2.2.2.2⟩
def aN.of:aN→(OV × (OV × (OV × (OV × (OV × Int))))):=fun x=>(x.jA,x.fe,x.rules,x.kF,x.iF,x.default)
def cZ:Enc aN:=gI (bh (ovE ai) (bh (ovE ai) (bh (ovE ai) (bh (ovE ai) (bh (ovE ai) iE))))) aN.to aN.of
def aN.dE:ah cZ (ovE ai) 0:=lI aN.to aN.of l1
@[simp] theorem aN.vT (x:aN):aN.dE.get x = x.jA:=rfl
@[simp] theorem aN.vm (x:aN) (y:OV):aN.dE.set x y = { x with jA:=y }:=rfl
def aN.db:ah cZ (ovE ai) 1:=lI aN.to aN.of (l2 l1)
@[simp] theorem aN.oV (x:aN):aN.db.get x = x.fe:=rfl
@[simp] theorem aN.oN (x:aN) (y:OV):aN.db.set x y = { x with fe:=y }:=rfl
def aN.eJ:ah cZ (ovE ai) 2:=lI aN.to aN.of (l2 (l2 l1))
@[simp] theorem aN.vR (x:aN):aN.eJ.get x = x.rules:=rfl
@[simp] theorem aN.vl (x:aN) (y:OV):aN.eJ.set x y = { x with rules:=y }:=rfl
def aN.fh:ah cZ (ovE ai) 3:=lI aN.to aN.of (l2 (l2 (l2 l1)))
@[simp] theorem aN.get_meters (x:aN):aN.fh.get x = x.kF:=rfl
@[simp] theorem aN.set_meters (x:aN) (y:OV):aN.fh.set x y = { x with kF:=y }:=rfl
def aN.eu:ah cZ (ovE ai) 4:=lI aN.to aN.of (l2 (l2 (l2 (l2 l1))))
@[simp] theorem aN.get_mirrors (x:aN):aN.eu.get x = x.iF:=rfl
@[simp] theorem aN.set_mirrors (x:aN) (y:OV):aN.eu.set x y = { x with iF:=y }:=rfl
def aN.fQ:ah cZ iE 5:=lI aN.to aN.of (l2 (l2 (l2 (l2 (l2 (ah.id _))))))
@[simp] theorem aN.get_default (x:aN):aN.fQ.get x = x.default:=rfl
@[simp] theorem aN.set_default (x:aN) (y:Int):aN.fQ.set x y = { x with default:=y }:=rfl
structure aF where
 jA:OV
 fe:OV
 rules:OV
 kF:OV
 iF:OV
def aF.to:(OV × (OV × (OV × (OV × OV))))→aF:=fun x=>⟨x.1,x.2.1,x.2.2.1,x.2.2.2.1,x.2.2.2.2⟩
def aF.of:aF→(OV × (OV × (OV × (OV × OV)))):=fun x=>(x.jA,x.fe,x.rules,x.kF,x.iF)
def bT:Enc aF:=gI (bh (ovE gO) (bh (ovE gO) (bh (ovE gO) (bh (ovE gO) (ovE gO))))) aF.to aF.of
def aF.dE:ah bT (ovE gO) 0:=lI aF.to aF.of l1
@[simp] theorem aF.vT (x:aF):aF.dE.get x = x.jA:=rfl
@[simp] theorem aF.vm (x:aF) (y:OV):aF.dE.set x y = { x with jA:=y }:=rfl
def aF.db:ah bT (ovE gO) 1:=lI aF.to aF.of (l2 l1)
@[simp] theorem aF.oV (x:aF):aF.db.get x = x.fe:=rfl
@[simp] theorem aF.oN (x:aF) (y:OV):aF.db.set x y = { x with fe:=y }:=rfl
def aF.eJ:ah bT (ovE gO) 2:=lI aF.to aF.of (l2 (l2 l1))
@[simp] theorem aF.vR (x:aF):aF.eJ.get x = x.rules:=rfl
@[simp] theorem aF.vl (x:aF) (y:OV):aF.eJ.set x y = { x with rules:=y }:=rfl
def aF.fh:ah bT (ovE gO) 3:=lI aF.to aF.of (l2 (l2 (l2 l1)))
@[simp] theorem aF.get_meters (x:aF):aF.fh.get x = x.kF:=rfl
@[simp] theorem aF.set_meters (x:aF) (y:OV):aF.fh.set x y = { x with kF:=y }:=rfl
def aF.eu:ah bT (ovE gO) 4:=lI aF.to aF.of (l2 (l2 (l2 (l2 (ah.id _)))))
@[simp] theorem aF.get_mirrors (x:aF):aF.eu.get x = x.iF:=rfl
@[simp] theorem aF.set_mirrors (x:aF) (y:OV):aF.eu.set x y = { x with iF:=y }:=rfl
def lG (b:Nat):OV:=⟨.map (some b),rfl⟩
structure CL where
 ps:List Int
 rs:List bm
 us:List aY
 ms:List aI
 xs:List az
structure eI (w:World) (c:aN) (l:CL):Prop where
 ps:aO iE w c.jA.v l.ps
 rs:aO aX w c.fe.v l.rs
 us:aO cy w c.rules.v l.us
 ms:aO bj w c.kF.v l.ms
 xs:aO bg w c.iF.v l.xs
theorem eI.aV {w w':World} {c:aN} {l:CL} (h:eI w c l) (k:aJ dI w w'):eI w' c l:=⟨h.ps.aV k,h.rs.aV k,h.us.aV k,h.ms.aV k,h.xs.aV k⟩
def portsM (l:CL):List (Int × Int):=cE eqd (fun p=>p) l.ps l.ps.length
def r7 (l:CL):List (ae × Int):=cE ae.eqb (fun r=>r.to_) l.rs l.rs.length
def lY (l:CL):List (ByteArray × Int):=cE eqs (fun r=>r.name) l.us l.us.length
def l8 (l:CL):List (ByteArray × Int):=cE eqs (fun r=>r.name) l.ms l.ms.length
def kE (l:CL):List (ByteArray × Int):=cE eqs (fun r=>r.name) l.xs l.xs.length
structure KB where
 b1:Nat
 b2:Nat
 b3:Nat
 b4:Nat
 b5:Nat
def KB.k (x:KB):aF:=⟨lG x.b1,lG x.b2,lG x.b3,lG x.b4,lG x.b5⟩
def KB.R (x:KB) (l:CL):List Res:=[fW x.b5 sE iE (kE l),fW x.b4 sE iE (l8 l),fW x.b3 sE iE (lY l),fW x.b2 aM iE (r7 l),fW x.b1 iE iE (portsM l)]
theorem of1 (a:Int) (w:World):Gx.Calls Tryz.prog 137 #[iE.val a] w (bG w (iE.val (a))):=by
 refine en0 4 Tryz.func137 (fun _ _=>?_);refine sg (ac (I 0) ?_);refine nP (sg (mv rfl (asn rfl (nP (ret (dn rfl rfl ?_))))))
 rfl
theorem of1_at (M:Nat→Prop) (w:World):u6 Tryz.prog 137 [] M w iE iE (fun _=>True) (fun a=>a):=fun a w _ _=>of1 a w
theorem mI:zI 107 aM:=kI
theorem of2 (a:bm) (w:World):Gx.Calls Tryz.prog 139 #[aX.val a] w (bG w (aM.val (a.to_))):=by
 refine en0 5 Tryz.func139 (fun _ _=>?_);refine sg (cons (box (E:=aX) (.t rfl) (fun b1=>?_)));refine cons (alloc mI (fun b2=>?_));refine nP (sg (cf 0 rfl ?_));refine co (Ev.ldx a.to_ cB (.t rfl) bm.lj) ?_;refine cons (stv cB (ah.id _) (.t rfl) (.t rfl) ?_);refine nP (ret (done rfl (.cellP rfl cB (br zm (ah.id _)) .nil) (gD ?_)))
 rfl
theorem of2_at (M:Nat→Prop) (w:World):u6 Tryz.prog 139 [] M w aX aM (fun _=>True) (fun a=>a.to_):=fun a w _ _=>of2 a w
theorem of3 (a:aY) (w:World):Gx.Calls Tryz.prog 141 #[cy.val a] w (bG w (sE.val (a.name))):=by
 refine en0 5 Tryz.func141 (fun _ _=>?_);refine sg (cons (box (E:=cy) (.t rfl) (fun b1=>?_)));refine ac (Go.Value.string (ByteArray.mk #[])) ?_;refine nP (sg (cf 0 rfl ?_));refine co (Ev.ldx a.name ty9 (.t rfl) aY.fT) ?_;refine asn rfl (nP (ret (dn rfl rfl ?_)))
 rfl
theorem of3_at (M:Nat→Prop) (w:World):u6 Tryz.prog 141 [] M w cy sE (fun _=>True) (fun a=>a.name):=fun a w _ _=>of3 a w
theorem of4 (a:aI) (w:World):Gx.Calls Tryz.prog 143 #[bj.val a] w (bG w (sE.val (a.name))):=by
 refine en0 5 Tryz.func143 (fun _ _=>?_);refine sg (cons (box (E:=bj) (.t rfl) (fun b1=>?_)));refine ac (Go.Value.string (ByteArray.mk #[])) ?_;refine nP (sg (cf 0 rfl ?_));refine co (Ev.ldx a.name ty9 (.t rfl) aI.fT) ?_;refine asn rfl (nP (ret (dn rfl rfl ?_)))
 rfl
theorem of4_at (M:Nat→Prop) (w:World):u6 Tryz.prog 143 [] M w bj sE (fun _=>True) (fun a=>a.name):=fun a w _ _=>of4 a w
theorem of5 (a:az) (w:World):Gx.Calls Tryz.prog 145 #[bg.val a] w (bG w (sE.val (a.name))):=by
 refine en0 5 Tryz.func145 (fun _ _=>?_);refine sg (cons (box (E:=bg) (.t rfl) (fun b1=>?_)));refine ac (Go.Value.string (ByteArray.mk #[])) ?_;refine nP (sg (cf 0 rfl ?_));refine co (Ev.ldx a.name ty9 (.t rfl) az.fT) ?_;refine asn rfl (nP (ret (dn rfl rfl ?_)))
 rfl
theorem of5_at (M:Nat→Prop) (w:World):u6 Tryz.prog 145 [] M w bg sE (fun _=>True) (fun a=>a.name):=fun a w _ _=>of5 a w
theorem z228:zI 228 bT:=kI
theorem ty22:tyI 22 (ovE ai):=tyP
theorem ty23:tyI 23 (ovE ai):=tyP
theorem ty24:tyI 24 (ovE ai):=tyP
theorem ty25:tyI 25 (ovE ai):=tyP
theorem ty26:tyI 26 (ovE ai):=tyP
theorem ot:tyI 228 bT:=tyP
theorem tA (c:aN) (l:CL) (w:World) (hc:eI w c l):Gx.Calls Tryz.prog 106 #[cZ.val c] w (gL w (fun _:KB=>True) (fun x=>bT.val x.k) (fun x=>x.R l)):=by
 refine en0 19 Tryz.func106 (fun _ _=>?_);refine sg (cons (box (E:=cZ) (.t rfl) (fun b1=>?_)));refine cons (alloc z228 (fun b2=>?_));refine nP (seq (lO 2 rfl zr zk ?_));refine tk 0 rfl (fA 0 (.t rfl)) ?_;refine tk 1 rfl (Ev.ldx c.jA ty22 (.t rfl) aN.dE) ?_;refine tk 3 rfl (fA 1 (.t rfl)) ?_;refine tk 4 rfl (Ev.ldx c.fe ty23 (.t rfl) aN.db) ?_;refine tk 6 rfl (fA 2 (.t rfl)) ?_;refine tk 7 rfl (Ev.ldx c.rules ty24 (.t rfl) aN.eJ) ?_;refine tk 9 rfl (fA 3 (.t rfl)) ?_;refine tk 10 rfl (Ev.ldx c.kF ty25 (.t rfl) aN.fh) ?_;refine tk 12 rfl (fA 4 (.t rfl)) ?_;refine tk 13 rfl (Ev.ldx c.iF ty26 (.t rfl) aN.eu) ?_;refine al1 2 rfl ((dB (X:=Nat) (fun _=>True) (fun b=>(lG b).v) (fun b=>[fW b iE iE (cE eqd (fun a:Int=>a) l.ps l.ps.length)]) eN (.cons (.t rfl) (.cons .f .nil)) (fun w I=>first_3_3 137 [] _ _ l.ps w eN (hc.aV I.keeps).ps (of1_at _ _)) (fun n1 _=>?_)));refine hdn (al1 5 rfl ((dB (X:=Nat) (fun _=>True) (fun b=>(lG b).v) (fun b=>[fW b aM iE (cE ae.eqb (fun a:bm=>a.to_) l.rs l.rs.length)]) eN (.cons (.t rfl) (.cons .f .nil)) (fun w I=>uW 139 [] _ _ l.rs w eN (hc.aV I.keeps).rs (of2_at _ _)) (fun n2 _=>?_))));refine hdn (al1 8 rfl ((dB (X:=Nat) (fun _=>True) (fun b=>(lG b).v) (fun b=>[fW b sE iE (cE eqs (fun a:aY=>a.name) l.us l.us.length)]) eN (.cons (.t rfl) (.cons .f .nil)) (fun w I=>first_9_111 141 [] _ _ l.us w eN (hc.aV I.keeps).us (of3_at _ _)) (fun n3 _=>?_))));refine hdn (al1 11 rfl ((dB (X:=Nat) (fun _=>True) (fun b=>(lG b).v) (fun b=>[fW b sE iE (cE eqs (fun a:aI=>a.name) l.ms l.ms.length)]) eN (.cons (.t rfl) (.cons .f .nil)) (fun w I=>first_9_139 143 [] _ _ l.ms w eN (hc.aV I.keeps).ms (of4_at _ _)) (fun n4 _=>?_))))
 refine hdn (al1 14 rfl ((dB (X:=Nat) (fun _=>True) (fun b=>(lG b).v) (fun b=>[fW b sE iE (cE eqs (fun a:az=>a.name) l.xs l.xs.length)]) eN (.cons (.t rfl) (.cons .f .nil)) (fun w I=>first_9_141 145 [] _ _ l.xs w eN (hc.aV I.keeps).xs (of5_at _ _)) (fun n5 _=>?_))));refine hdn (tk 15 rfl (Ev.bu (fs:=_) (places:=[(0,1),(1,1),(2,1),(3,1),(4,1)]) z228 rfl Tryz.underlying228 zk (.cons (.t rfl) (.cons (.t rfl) (.cons (.t rfl) (.cons (.t rfl) (.cons (.t rfl) .nil))))) (ay.cons aF.dE rfl (ay.cons aF.db rfl (ay.cons aF.eJ rfl (ay.cons aF.fh rfl (ay.cons aF.eu rfl ay.nil)))))) ?_);refine al1 16 rfl ((stv ot (ah.id _) (.t rfl) (.t rfl) ?_));refine hdn (ovr (pN (ret (done rfl (.cellP rfl ot (br zm (ah.id _)) .nil) (fun w I=>?_)))));exact ln (⟨n1,n2,n3,n4,n5⟩:KB) trivial rfl (by exact zs) w I
def pP:ByteArray:=(ByteArray.mk (List.toArray (List.append (List.append [0,1,2,2,3,3,3,3,4,4,4,4,4,4,4,4,5,5,5,5,5,5,5,5,5,5,5,5,5,5,5,5,6,6,6,6,6,6,6,6,6,6,6,6,6,6,6,6,6,6,6,6,6,6,6,6,6,6,6,6,6,6,6,6] [7,7,7,7,7,7,7,7,7,7,7,7,7,7,7,7,7,7,7,7,7,7,7,7,7,7,7,7,7,7,7,7,7,7,7,7,7,7,7,7,7,7,7,7,7,7,7,7,7,7,7,7,7,7,7,7,7,7,7,7,7,7,7,7]) (List.append [8,8,8,8,8,8,8,8,8,8,8,8,8,8,8,8,8,8,8,8,8,8,8,8,8,8,8,8,8,8,8,8,8,8,8,8,8,8,8,8,8,8,8,8,8,8,8,8,8,8,8,8,8,8,8,8,8,8,8,8,8,8,8,8] [8,8,8,8,8,8,8,8,8,8,8,8,8,8,8,8,8,8,8,8,8,8,8,8,8,8,8,8,8,8,8,8,8,8,8,8,8,8,8,8,8,8,8,8,8,8,8,8,8,8,8,8,8,8,8,8,8,8,8,8,8,8,8,8]))))
def mB (x:UInt8):UInt8:=(pP[x.toNat]?).getD 0
theorem len8_get (x:UInt8):pP[x.toNat]? = some (mB x):=by
 have h:∀ n:Fin 256,pP[(UInt8.ofNat n.val).toNat]? = some (mB (UInt8.ofNat n.val)):=by decide +kernel
 have:=h ⟨x.toNat,x.toNat_lt⟩
 simpa using this
theorem len8_at (x:UInt8):0 ≤ (x.toNat:Int) ∧ pP[(x.toNat:Int).toNat]? = some (mB x):=⟨by omega,len8_get x⟩
def dj (b:List UInt8) (i:Int):UInt8:=mz (b.getD (i / 8).toNat 0) (7 - i % 8).toNat &&& 1
def bitsV (b:List UInt8) (f:Int):Nat→UInt64
 | 0=>0
 | n + 1=>iS (bitsV b f n) 1 ||| (dj b (f + n)).toUInt64
def bitsB (b:List UInt8) (f n:Int):UInt64 × Int:=if n < 0 ∨ 64 < n then (0,2) else if f < 0 ∨ 8 * b.length - n < f then (0,5) else (bitsV b f n.toNat,0)
theorem ko (l:List UInt8) (m i:Nat) (h:i < m):(l.take m).getD i 0 = l.getD i 0:=by
 simp [List.getD,List.getElem?_take,h]
def ij:List UInt8→List UInt8→Nat
 | x :: a,y :: b=>if x = y then ij a b + 1 else 0
 | _,_=>0
theorem wb (a b:List UInt8) (i:Nat) (h1:i < a.length) (h2:i < b.length):ij (a.drop i) (b.drop i) = if a.getD i 0 = b.getD i 0 then ij (a.drop (i + 1)) (b.drop (i + 1)) + 1 else 0:=by
 rw [List.drop_eq_getElem_cons h1,List.drop_eq_getElem_cons h2];simp [ij,List.getD,h1,h2]
theorem comI_end (a b:List UInt8) (i:Nat) (h:a.length ≤ i ∨ b.length ≤ i):ij (a.drop i) (b.drop i) = 0:=by
 rcases h with h | h
 ·rw [List.drop_eq_nil_of_le h];simp [ij]
 ·rw [List.drop_eq_nil_of_le h];cases a.drop i <;> simp [ij]
def iL (a b:List UInt8):Int:=if (ij a b:Int) = min (a.length:Int) b.length then 8 * min (a.length:Int) b.length else 8 * (ij a b:Int) + (8 - ((mB (a.getD (ij a b) 0 ^^^ b.getD (ij a b) 0)).toNat:Int))
theorem len8_ok (x:UInt8) (w:World):Gx.Calls Tryz.prog 156 #[U8 x] w (bG w (I (mB x).toNat)):=by
 refine en0 6 Tryz.func156 (fun _ _=>?_);refine sg (ac (I 0) ?_);refine nP (sg (mv rfl (co (Ev.indexS (b:=mB x) (s:=pP) Y9 (.c rfl) (.t rfl) (fun _=>len8_at x)) ?_)));refine co (Ev.vX Y3 Y5 (.t rfl)) ?_;refine asn rfl (nP (ret (dn rfl rfl ?_)))
 rfl
theorem len8_le (x:UInt8):(mB x).toNat ≤ 8:=by
 have h:∀ n:Fin 256,(mB (UInt8.ofNat n.val)).toNat ≤ 8:=by decide +kernel
 have:=h ⟨x.toNat,x.toNat_lt⟩
 simpa using this
theorem lz8_ok (x:UInt8) (w:World):Gx.Calls Tryz.prog 154 #[U8 x] w (bG w (I (8 - ((mB x).toNat:Int)))):=by
 have hx:=len8_le x;refine en0 6 Tryz.func154 (fun _ _=>?_);refine sg (ac (I 0) ?_);refine nP (sg (mv rfl (cons (aQ eN (o1 rfl) (fun w I=>len8_ok _ w) ?_))));refine co (Ev.jV (.c rfl) (.t rfl) (fun _=>zo)) ?_;refine asn rfl (nP (ret (dn rfl rfl ?_)))
 rfl
theorem common_ok (u v:Value) (a b:List UInt8) (w:World) (ha:aO u8E w u a) (hb:aO u8E w v b) (hl:a.length ≤ 1152921504606846974):Gx.Calls Tryz.prog 151 #[u,v] w (bG w (I (iL a b))):=by
 have hal:=ha.le;have hbl:=hb.le;obtain ⟨m,hm⟩:∃ m:Nat,(min (a.length:Int) b.length) = (m:Int):=⟨min a.length b.length,by omega⟩;have hsa:aO u8E w (lD u8E.size u 0 m) (a.take m):=by
  have:=ha.sub (l:=0) (k:=m) (by omega) (by omega)
  simpa using this
 have hsb:aO u8E w (lD u8E.size v 0 m) (b.take m):=by
  have:=hb.sub (l:=0) (k:=m) (by omega) (by omega)
  simpa using this
 have hla:(a.take m).length = m:=by simp; omega
 have hlb:(b.take m).length = m:=by simp; omega
 refine en0 52 Tryz.func151 (fun _ _=>?_);refine sg (ac (I 0) ?_);refine nP (sg (mv rfl (co (Ev.len Y48 (.t rfl) zf) ?_)));refine mv rfl (co (Ev.len Y48 (.t rfl) zf) ?_);refine co (Ev.to (v':=I ((m:Nat):Int)) (Ev.min_i (.t rfl) (.t rfl)) (by rw [hm])) ?_;refine asn rfl (nP (seq (dA zk ?_)));refine tm 0 rfl rfl ?_;refine tm 1 rfl rfl ?_;refine tk 2 rfl (Ev.qu Y48 ty5 (.t rfl) (.t rfl) zf (fun _=>zo)) ?_;refine tm 3 rfl rfl ?_;refine tm 4 rfl rfl ?_;refine tk 5 rfl (Ev.qu Y48 ty5 (.t rfl) (.t rfl) zf (fun _=>zo)) ?_;refine tk 6 rfl (Ev.assign (.t rfl)) ?_;refine tk 7 rfl (Ev.assign (.t rfl)) ?_;refine ovr (pN (sg (ac (I 0) ?_)));refine nP (seq (block (lp (X:=Int) (fun x=>(0 ≤ x ∧ x ≤ m) ∧ ((ij a b:Int) = x + ij (a.drop x.toNat) (b.drop x.toNat))) (fun x=>[dz,(0,true,lD u8E.size u 0 m),(1,true,lD u8E.size v 0 m),(5,true,I m),(6,true,I x)]) (fun x=>[]) (fun x=>(m - x).toNat) (0) ⟨?_,?_⟩ (fun x hx=>?_))))
 ·omega
 ·simp
 obtain ⟨i,rfl⟩:∃ y,y = x:=⟨x,rfl⟩;obtain ⟨hi,hc⟩:(0 ≤ i ∧ i ≤ m) ∧ ((ij a b:Int) = i + ij (a.drop i.toNat) (b.drop i.toNat)):=hx;refine seq (seq (dA zk ?_));refine tm 0 rfl rfl ?_;refine tm 1 rfl rfl ?_;refine tk 2 rfl (Ev.cj (.t rfl) (.t rfl)) ?_;refine tm 3 rfl rfl ?_;refine tkg 4 rfl rfl rfl (Ev.move (.t rfl)) ?_;refine tkg 5 rfl rfl rfl (Ev.move (.t rfl)) ?_;refine tkg 6 rfl rfl rfl (Ev.indexAddr Y48 ty5 (.g rfl id) (.g rfl id) (fun w I=>hsa.aV I.keeps) (fun _=>by first | omega | (rename_i hg; simp at hg; omega))) ?_;refine tkg 7 rfl rfl rfl (Ev.bV ty5 (.g rfl id) (fun w I=>hsa.aV I.keeps) (fun _=>by first | omega | (rename_i hg; simp at hg; omega))) ?_;refine tkg 8 rfl rfl rfl (Ev.move (.t rfl)) ?_;refine tkg 9 rfl rfl rfl (Ev.move (.t rfl)) ?_;refine tkg 10 rfl rfl rfl (Ev.indexAddr Y48 ty5 (.g rfl id) (.g rfl id) (fun w I=>hsb.aV I.keeps) (fun _=>by first | omega | (rename_i hg; simp at hg; omega))) ?_;refine tkg 11 rfl rfl rfl (Ev.bV ty5 (.g rfl id) (fun w I=>hsb.aV I.keeps) (fun _=>by first | omega | (rename_i hg; simp at hg; omega))) ?_;refine tkg 12 rfl rfl rfl (Ev.jQ (.g rfl id) (.g rfl id)) ?_;refine tk 13 rfl (Ev.pkA (.t rfl) rfl) ?_;refine ovr (pN ?_);refine cnd rfl (fun hlt=>?_) (fun hge=>?_)
 ·refine skip (pN (block (region (mv rfl (co (Ev.bL (.t rfl) (.c rfl) (fun _=>zo)) ?_)))));refine asn rfl (nil (bN (pN (nx (i + 1) ⟨?_,?_⟩ ?_))))
  ·try dsimp only
   omega
  ·try dsimp only
   have hst:=wb a b i.toNat (by omega) (by omega);have ga:=ko a m i.toNat (by omega);have gb:=ko b m i.toNat (by omega);have hq:a.getD i.toNat 0 = b.getD i.toNat 0:=ga.symm.trans (hlt.2.trans gb);rw [if_pos hq] at hst;have e:(i + 1).toNat = i.toNat + 1:=by omega
   rw [e]; omega
  ·try dsimp only
   omega
 ·refine exit (pX (pX (bX (pN (seq (sg (mv rfl (mv rfl (co (Ev.dO (.t rfl) (.t rfl)) ?_)))))))));refine nP ?_;refine cnd rfl (fun heq=>?_) (fun hne=>?_)
  ·refine sg (mv rfl (co (Ev.mul_i (.c rfl) (.t rfl) (fun _=>zo)) ?_));refine asn rfl (nP (ret (pR (dn rfl rfl ?_))));have hst:=comI_end a b i.toNat (by omega);unfold iL;rw [if_pos (by omega),← hm]; rfl
  ·have hq:¬ a.getD i.toNat 0 = b.getD i.toNat 0:=fun hq=>by
    have ga:=ko a m i.toNat (by omega);have gb:=ko b m i.toNat (by omega);have hq2:=ga.trans (hq.trans gb.symm)
    rcases hge with h | h
    ·omega
    ·exact h hq2
   have hst:=wb a b i.toNat (by omega) (by omega);rw [if_neg hq] at hst;have hci:ij a b = i.toNat:=by omega
   refine skip (pN (seq (dA zk ?_)));refine tm 0 rfl rfl ?_;refine tk 1 rfl (Ev.mul_i (.c rfl) (.t rfl) (fun _=>zo)) ?_;refine tm 2 rfl rfl ?_;refine tm 3 rfl rfl ?_;refine tk 4 rfl (Ev.indexAddr Y48 ty5 (.t rfl) (.t rfl) zf (fun _=>zo)) ?_;refine tk 5 rfl (Ev.bV ty5 (.t rfl) zf (fun _=>zo)) ?_;refine tm 6 rfl rfl ?_;refine tm 7 rfl rfl ?_;refine tk 8 rfl (Ev.indexAddr Y48 ty5 (.t rfl) (.t rfl) zf (fun _=>zo)) ?_;refine tk 9 rfl (Ev.bV ty5 (.t rfl) zf (fun _=>zo)) ?_;refine tk 10 rfl (Ev.xor_u8 (.t rfl) (.t rfl)) ?_;refine al1 11 rfl ((aQ eN (o1 rfl) (fun w I=>lz8_ok _ w) ?_));refine hdn (tk 12 rfl (Ev.bL (.t rfl) (.t rfl) (fun _=>by have h8:=len8_le ((List.take m a).getD i.toNat u8E.zero ^^^ (List.take m b).getD i.toNat u8E.zero); omega)) ?_);refine tk 13 rfl (Ev.assign (.t rfl)) ?_;refine ovr (pN (ret (dn rfl rfl ?_)));unfold iL;rw [if_neg (by omega),hci];have ga:=ko a m i.toNat (by omega);have gb:=ko b m i.toNat (by omega);have ei:(i.toNat:Int) = i:=by omega
   rw [ei,← ga,← gb]; rfl
def bn (x k:Nat):Nat:=x / 2 ^ k % 2
theorem bn_xor (x y k:Nat):bn (x ^^^ y) k = (bn x k + bn y k) % 2:=by
 have h:=Nat.testBit_xor x y k;simp only [Nat.testBit_eq_decide_div_mod_eq] at h;unfold bn;have h1:x / 2 ^ k % 2 < 2:=Nat.mod_lt _ (by decide);have h2:y / 2 ^ k % 2 < 2:=Nat.mod_lt _ (by decide);have h3:(x ^^^ y) / 2 ^ k % 2 < 2:=Nat.mod_lt _ (by decide)
 generalize x / 2 ^ k % 2 = p at *
 generalize y / 2 ^ k % 2 = q at *
 generalize (x ^^^ y) / 2 ^ k % 2 = r at *
 have hp:p = 0 ∨ p = 1:=by omega
 have hq:q = 0 ∨ q = 1:=by omega
 have hr:r = 0 ∨ r = 1:=by omega
 rcases hp with rfl | rfl <;> rcases hq with rfl | rfl <;> rcases hr with rfl | rfl <;> simp_all
theorem jj (b:List UInt8) (i:Int):(dj b i).toNat = bn (b.getD (i / 8).toNat 0).toNat (7 - i % 8).toNat:=by
 unfold dj bn;exact s70
theorem len8_bits (x:UInt8) (h:x ≠ 0):1 ≤ (mB x).toNat ∧ (mB x).toNat ≤ 8 ∧ (∀ s,s < 8 - (mB x).toNat→bn x.toNat (7 - s) = 0) ∧ bn x.toNat (7 - (8 - (mB x).toNat)) = 1:=by
 have h1:∀ n:Fin 256,n.val ≠ 0→1 ≤ (mB (UInt8.ofNat n.val)).toNat ∧ (mB (UInt8.ofNat n.val)).toNat ≤ 8 ∧ (∀ s:Fin 8,s.val < 8 - (mB (UInt8.ofNat n.val)).toNat→bn n.val (7 - s.val) = 0) ∧ bn n.val (7 - (8 - (mB (UInt8.ofNat n.val)).toNat)) = 1:=by decide +kernel
 have h2:=h1 ⟨x.toNat,x.toNat_lt⟩ (fun e=>h (UInt8.toNat_inj.1 e));simp only [UInt8.ofNat_toNat] at h2;exact ⟨h2.1,h2.2.1,fun s hs=>h2.2.2.1 ⟨s,by omega⟩ hs,h2.2.2.2⟩
theorem comI_le:∀ a b:List UInt8,ij a b ≤ a.length ∧ ij a b ≤ b.length
 | [],b=>by simp [ij]
 | x :: a,[]=>by simp [ij]
 | x :: a,y :: b=>by
   have:=comI_le a b;simp only [ij,List.length_cons];split <;> omega
theorem comI_eq:∀ (a b:List UInt8) (j:Nat),j < ij a b→a.getD j 0 = b.getD j 0
 | [],b,j,h=>by simp [ij] at h
 | x :: a,[],j,h=>by simp [ij] at h
 | x :: a,y :: b,j,h=>by
   simp only [ij] at h;split at h
   ·rename_i e;cases j with
    | zero=>simpa using e
    | succ j=>simpa [List.getD] using comI_eq a b j (by omega)
   ·omega
theorem comI_ne:∀ (a b:List UInt8),ij a b < a.length→ij a b < b.length→a.getD (ij a b) 0 ≠ b.getD (ij a b) 0
 | [],b,h,_=>by simp at h
 | x :: a,[],_,h=>by simp at h
 | x :: a,y :: b,h1,h2=>by
   simp only [ij,List.length_cons] at h1 h2 ⊢;split
   ·rename_i e;rw [if_pos e] at h1 h2
    simpa [List.getD] using comI_ne a b (by omega) (by omega)
   ·rename_i e
    simpa using e
structure IsCom (a b:List UInt8) (n:Int):Prop where
 p:0 ≤ n
 la:n ≤ 8 * a.length
 lb:n ≤ 8 * b.length
 eq:∀ i:Int,0 ≤ i→i < n→dj a i = dj b i
 ne:n < 8 * a.length→n < 8 * b.length→dj a n ≠ dj b n
theorem um (a b:List UInt8):IsCom a b (iL a b):=by
 obtain ⟨h1,h2⟩:=comI_le a b;have heq:=comI_eq a b;have hne:=comI_ne a b;unfold iL
 generalize ij a b = c at *
 split
 ·rename_i hc;refine ⟨by omega,by omega,by omega,fun i h0 hi=>?_,fun h3 h4=>by omega⟩;unfold dj;rw [heq (i / 8).toNat (by omega)]
 ·rename_i hc;have hx:=hne (by omega) (by omega);have hx2:a.getD c 0 ^^^ b.getD c 0 ≠ 0:=fun e=>hx (by
   have e2:=congrArg UInt8.toNat e;rw [UInt8.toNat_xor] at e2;exact UInt8.toNat_inj.1 (xor_zero e2))
  obtain ⟨l1,l2,l3,l4⟩:=len8_bits _ hx2
  generalize hl:mB (a.getD c 0 ^^^ b.getD c 0) = l at *
  have hlo:∀ s:Nat,s < 8 - l.toNat→bn (a.getD c 0).toNat (7 - s) = bn (b.getD c 0).toNat (7 - s):=fun s hs=>by
   have e:=l3 s hs;rw [UInt8.toNat_xor,bn_xor] at e;have ha:bn (a.getD c 0).toNat (7 - s) < 2:=Nat.mod_lt _ (by decide);have hb:bn (b.getD c 0).toNat (7 - s) < 2:=Nat.mod_lt _ (by decide);omega
  have hhi:bn (a.getD c 0).toNat (7 - (8 - l.toNat)) ≠ bn (b.getD c 0).toNat (7 - (8 - l.toNat)):=fun e=>by
   rw [UInt8.toNat_xor,bn_xor,e] at l4;omega
  refine ⟨by omega,by omega,by omega,fun i h0 hi=>?_,fun h3 h4=>fun e=>?_⟩
  ·by_cases hic:i / 8 < c
   ·unfold dj;rw [heq (i / 8).toNat (by omega)]
   ·have e1:(i / 8).toNat = c:=by omega
    apply UInt8.toNat_inj.1;rw [jj,jj,e1];have e2:(7 - i % 8).toNat = 7 - (i % 8).toNat:=by omega
    rw [e2];exact hlo _ (by omega)
  ·have e3:=congrArg UInt8.toNat e;have e1:((8 * (c:Int) + (8 - (l.toNat:Int))) / 8).toNat = c:=by omega
   have e2:(7 - (8 * (c:Int) + (8 - (l.toNat:Int))) % 8).toNat = 7 - (8 - l.toNat):=by omega
   rw [jj,jj,e1,e2] at e3;exact hhi e3
theorem IsCom.symm {a b:List UInt8} {n:Int} (h:IsCom a b n):IsCom b a n:=⟨h.p,h.lb,h.la,fun i h0 hi=>(h.eq i h0 hi).symm,fun h1 h2 e=>h.ne h2 h1 e.symm⟩
def wd (a:aG):Int:=bif a.v6 then 128 else 32
theorem oo (a:aG):32 ≤ wd a ∧ wd a ≤ 128:=by unfold wd; cases a.v6 <;> decide
def mk1 (left:Int) (x:UInt8):UInt8:=if left ≤ 0 then 0 else if left < 8 then x &&& shl8 255 (8 - left).toNat else x
def fI (bits:Int) (b:Vector UInt8 16):Vector UInt8 16:=Vector.ofFn fun i=>mk1 (bits - 8 * (i.val:Int)) b[i]
def gp (bits:Int) (b:Vector UInt8 16) (k:Int):Vector UInt8 16:=Vector.ofFn fun i=>if (i.val:Int) < k then mk1 (bits - 8 * (i.val:Int)) b[i] else b[i]
theorem maskTo_zero (bits:Int) (b:Vector UInt8 16):gp bits b 0 = b:=by
 apply Vector.ext;intro i hi;have:¬ (i:Int) < 0:=by omega
 simp only [gp,Vector.getElem_ofFn,if_neg this,Fin.getElem_fin]
theorem maskTo_all (bits:Int) (b:Vector UInt8 16) (k:Int) (h:16 ≤ k):gp bits b k = fI bits b:=by
 apply Vector.ext;intro i hi;have:(i:Int) < k:=by omega
 simp [gp,fI,this]
theorem nk (bits:Int) (b:Vector UInt8 16) (k:Int) (h0:0 ≤ k) (h1:k < 16) (hk:k.toNat < 16):(gp bits b k).set k.toNat (mk1 (bits - 8 * k) b[k.toNat]) hk = gp bits b (k + 1):=by
 apply Vector.ext;intro i hi;rw [Vector.getElem_set]
 by_cases e:k.toNat = i
 ·subst e;have e2:((k.toNat:Nat):Int) = k:=by omega
  have e3:(k.toNat:Int) < k + 1:=by omega
  simp [gp,e2];omega
 ·rw [if_neg e]
  by_cases e4:(i:Int) < k
  ·have e5:(i:Int) < k + 1:=by omega
   simp [gp,e4,e5]
  ·have e5:¬ (i:Int) < k + 1:=by omega
   simp [gp,e4,e5]
theorem maskTo_skip (bits:Int) (b:Vector UInt8 16) (k:Int) (h0:0 ≤ k) (h1:k < 16) (hk:k.toNat < 16) (h:mk1 (bits - 8 * k) b[k.toNat] = b[k.toNat]):gp bits b k = gp bits b (k + 1):=by
 rw [← nk bits b k h0 h1 hk,h];apply Vector.ext;intro i hi;rw [Vector.getElem_set];split
 ·rename_i e;subst e;exact s65
 ·rfl
theorem maskTo_get (bits:Int) (b:Vector UInt8 16) (k:Int) (h0:0 ≤ k) (hk:k.toNat < 16):(gp bits b k)[k.toNat] = b[k.toNat]:=by
 exact s65
def cG (a:aG):Int:=if fI (wd a) a.b = a.b then 0 else 150
def cN (p:ae):Int:=if p.bits < 0 ∨ wd p.addr < p.bits ∨ fI p.bits p.addr.b ≠ p.addr.b then 151 else 0
def lM (p:ae) (a:aG):Bool:=decide (cN p = 0) && decide (cG a = 0) && decide (a.v6 = p.addr.v6) && decide (p.bits ≤ iL a.b.toList p.addr.b.toList)
def fb (p q:ae):Bool:=decide (cN q = 0) && decide (p.bits ≤ q.bits) && lM p q.addr
theorem sJ (a:aG) (w:World):Gx.Calls Tryz.prog 117 #[cz.val a] w (bG w (I (wd a))):=by
 refine en0 5 Tryz.func117 (fun _ _=>?_);refine sg (cons (box (E:=cz) (.t rfl) (fun b1=>?_)));refine ac (I 0) ?_;refine nP (seq (sg (cf 0 rfl ?_)));refine co (Ev.ldx a.v6 ty4 (.t rfl) aG.jP) ?_;refine nP ?_;refine cnd rfl (fun h0=>?_) (fun h0=>?_)
 ·refine sg (ac (I 128) ?_);refine nP (ret (pR (dn rfl rfl ?_)));simp [wd,h0,jY]
 ·refine skip (pN (sg (ac (I 32) ?_)));refine nP (ret (dn rfl rfl ?_));simp [wd,h0,jY]
theorem z81:zI 81 cz:=kI
theorem qD (a:aG) (n:Int) (w:World) (hn:0 ≤ n ∧ n ≤ 128):Gx.Calls Tryz.prog 118 #[cz.val a,I n] w (bG w (cz.val { a with b:=fI n a.b })):=by
 refine en0 35 Tryz.func118 (fun _ _=>?_);refine sg (cons (box (E:=cz) (.t rfl) (fun b1=>?_)));refine cons (alloc z81 (fun b2=>?_));refine nP (seq (sg (co (Ev.move (.c rfl)) ?_)));refine nP (block (lp (X:=Int × (Vector UInt8 16)) (fun x=>(0 ≤ x.1 ∧ x.1 ≤ 16) ∧ (x.2 = gp n a.b x.1)) (fun x=>[dz,(1,true,I n),(2,true,pvb b1),(4,true,pvb b2),(7,true,I x.1)]) (fun x=>[Var b2 cz cz.zero 81,Var b1 cz { a with b:=x.2 } 81]) (fun x=>(16 - x.1).toNat) (0,a.b) ⟨?_,?_⟩ (fun x hx=>?_) (hL:=(by repeat first | exact List.Sublist.refl _ | apply List.Sublist.cons_cons | apply List.Sublist.cons))))
 ·omega
 ·exact (maskTo_zero n a.b).symm
 obtain ⟨k,v⟩:=x;dsimp only at hx;obtain ⟨hk,hv⟩:=hx;refine sg (co (Ev.cj (.t rfl) (.c rfl)) ?_);refine nP (seq ?_);refine cnd rfl (fun hlt=>?_) (fun hge=>?_)
 ·refine skip (pN (seq (block (sg (mv rfl (asn rfl (nP (sg (mv rfl (mv rfl (co (Ev.mul_i (.c rfl) (.t rfl) (fun _=>zo)) ?_)))))))))));refine co (Ev.jV (.t rfl) (.t rfl) (fun _=>zo)) ?_;refine asn rfl (nP (block (sg ?_)));have hk16:k.toNat < 16:=by omega
  refine mv rfl (co (Ev.leq_i (.t rfl) (.c rfl)) ?_);refine asn rfl (nP ?_);refine cnd rfl (fun hz=>?_) (fun hnz=>?_)
  ·have hst:v.set k.toNat 0 hk16 = gp n a.b (k + 1):=by
    rw [hv,← nk n a.b k hk.1 (by omega) hk16]
    congr 1
    unfold mk1;rw [if_pos hz]
   refine region (mv rfl (cf 1 rfl ?_));refine co (Ev.de Y79 ty5 (.t rfl) (.t rfl) (fun _=>zo)) ?_;refine cons (stv ty5 (ah.comp aG.l_b (jd (n:=16) u8E _ (by omega))) (.t rfl) (.c (v:=U8 0) rfl) ?_);refine nil (bN (bN (pN (region (co (Ev.bL (.t rfl) (.c rfl) (fun _=>zo)) ?_)))));exact s33
  ·refine sg (mv rfl (co (Ev.cj (.t rfl) (.c rfl)) ?_));refine asn rfl (nP ?_);refine cnd rfl (fun h8=>?_) (fun hn8=>?_)
   ·have hst:v.set k.toNat (v[k.toNat] &&& shl8 255 (8 - (n - 8 * k)).toNat) hk16 = gp n a.b (k + 1):=by
     rw [← nk n a.b k hk.1 (by omega) hk16,← hv]
     congr 1
     unfold mk1;rw [if_neg hnz,if_pos h8,hv,maskTo_get n a.b k hk.1 hk16]
    refine lO 2 rfl zr zk ?_;refine tm 0 rfl rfl ?_;refine tk 1 rfl (fA 1 (.t rfl)) ?_;refine tk 2 rfl (Ev.de Y79 ty5 (.t rfl) (.t rfl) (fun _=>zo)) ?_;refine tm 4 rfl rfl ?_;refine tk 5 rfl (Ev.jV (.c rfl) (.t rfl) (fun _=>zo)) ?_;refine tk 6 rfl (Ev.shl_u8 (.c (v:=U8 255) rfl) (.t rfl) (fun _=>zo)) ?_;refine tk 8 rfl (fA 1 (.t rfl)) ?_;refine al1 3 rfl ((opv (Ev.ldv ty5 (.t rfl) (ah.comp aG.l_b (jd (n:=16) u8E _ (by omega)))) ?_));refine hdn (tk 7 rfl (Ev.and_u8 (.t rfl) (.t rfl)) ?_);refine tk 9 rfl (Ev.de Y79 ty5 (.t rfl) (.t rfl) (fun _=>zo)) ?_;refine al1 10 rfl ((stv ty5 (ah.comp aG.l_b (jd (n:=16) u8E _ (by omega))) (.t rfl) (.t rfl) ?_));refine hdn (ovr (bN (bN (pN (region (co (Ev.bL (.t rfl) (.c rfl) (fun _=>zo)) ?_))))));exact s33
   ·have hst:v = gp n a.b (k + 1):=by
     rw [hv];exact maskTo_skip n a.b k hk.1 (by omega) hk16 (by unfold mk1; rw [if_neg hnz,if_neg hn8])
    refine skip (bN (bN (pN (region (co (Ev.bL (.t rfl) (.c rfl) (fun _=>zo)) ?_)))));exact s33
 ·refine exit (pX (pX (bX (pN (sg (co (Ev.ldv eM (.t rfl) (ah.id _)) ?_))))));refine cons (stv eM (ah.id _) (.t rfl) (.t rfl) ?_);refine nP (ret (done rfl (.cellP rfl eM (br zm (ah.id _)) .nil) (gD ?_)));rw [maskTo_all n a.b k (by omega)] at hv;rw [← hv]; rfl
theorem n8 (a:aG) (w:World):Gx.Calls Tryz.prog 93 #[cz.val a] w (bG w (I (cG a))):=by
 have hw:=oo a;refine en0 11 Tryz.func93 (fun _ _=>?_);refine sg (cons (box (E:=cz) (.t rfl) (fun b1=>?_)));refine ac (I 0) ?_;refine nP (seq (seq (dA zk ?_)));refine tk 0 rfl (Ev.ldx a eM (.t rfl) (ah.id _)) ?_;refine tk 1 rfl (Ev.ldx a eM (.t rfl) (ah.id _)) ?_;refine tk 5 rfl (fA 1 (.t rfl)) ?_;refine tk 6 rfl (Ev.ldx a.b ty79 (.t rfl) aG.l_b) ?_;refine al1 2 rfl ((aQ eN (o1 rfl) (fun w I=>sJ _ w) ?_));refine hdn (al1 3 rfl ((aQ eN (o2 rfl rfl) (fun w I=>qD _ _ w (by first | omega | (simp; omega))) ?_)));refine hdn (tk 4 rfl (Ev.fieldS (o:=1) (e:=79) rfl zk ty79 aG.l_b (.t rfl)) ?_);refine tk 7 rfl (Ev.neqS rfl (uc Y79 ty5 (xw Y5)) rfl zk (.t rfl) (.t rfl)) ?_;refine ovr (pN ?_);refine cnd rfl (fun h0=>?_) (fun h0=>?_)
 ·refine sg (ac (I 150) ?_);refine nP (ret (pR (dn rfl rfl ?_)));have hne:fI (wd a) a.b ≠ a.b:=by simpa using h0
  unfold cG; rw [if_neg hne]; rfl
 ·refine skip (pN (sg (ac (I 0) ?_)));refine nP (ret (dn rfl rfl ?_));have he:fI (wd a) a.b = a.b:=by simpa using h0
  unfold cG; rw [if_pos he]; rfl
theorem jh (p:ae) (w:World):Gx.Calls Tryz.prog 88 #[aM.val p] w (bG w (I (cN p))):=by
 have hw:=oo p.addr;refine en0 26 Tryz.func88 (fun _ _=>?_);refine sg (cons (box (E:=aM) (.t rfl) (fun b1=>?_)));refine ac (I 0) ?_;refine nP (seq (seq (dA zk ?_)));refine tk 0 rfl (fA 17 (.t rfl)) ?_;refine tk 1 rfl (Ev.ldx p.bits ty3 (.t rfl) ae.fj) ?_;refine tk 2 rfl (Ev.cj (.t rfl) (.c rfl)) ?_;refine tm 3 rfl rfl ?_;refine tkg 4 rfl rfl rfl (fA 17 (.t rfl)) ?_;refine tkg 5 rfl rfl rfl (Ev.ldx p.bits ty3 (.g rfl id) ae.fj) ?_;refine tkg 6 rfl rfl rfl (fA 0 (.t rfl)) ?_;refine tkg 7 rfl rfl rfl (Ev.ldx p.addr eM (.g rfl id) ae.eH) ?_;refine al1 8 rfl ((iM rfl rfl eN (.cons (.g rfl id) .nil) (fun hg w I=>sJ _ w) ?_));refine hdn (tkg 9 rfl rfl rfl (Ev.ir (.g rfl id) (.g rfl id)) ?_);refine tk 10 rfl (Ev.pkO (.t rfl) rfl) ?_;refine tm 11 rfl rfl ?_;refine tkg 12 rfl rfl rfl (fA 0 (.t rfl)) ?_;refine tkg 13 rfl rfl rfl (Ev.ldx p.addr eM (.g rfl id) ae.eH) ?_;refine tkg 14 rfl rfl rfl (fA 17 (.t rfl)) ?_;refine tkg 15 rfl rfl rfl (Ev.ldx p.bits ty3 (.g rfl id) ae.fj) ?_;refine tkg 18 rfl rfl rfl (fA 0 (.t rfl)) ?_;refine tkg 19 rfl rfl rfl (fA 1 (.g rfl id)) ?_;refine tkg 20 rfl rfl rfl (Ev.ldx p.addr.b ty79 (.g rfl id) (ah.comp ae.eH aG.l_b)) ?_;refine al1 16 rfl ((iM rfl rfl eN (.cons (.g rfl id) (.cons (.g rfl id) .nil)) (fun hg w I=>qD _ _ w (by simp at hg ⊢; omega)) ?_));refine hdn (tkg 17 rfl rfl rfl (Ev.fieldS (o:=1) (e:=79) rfl zk ty79 aG.l_b (.g rfl id)) ?_);refine tkg 21 rfl rfl rfl (Ev.neqS rfl (uc Y79 ty5 (xw Y5)) rfl zk (.g rfl id) (.g rfl id)) ?_;refine tk 22 rfl (Ev.pkO (.t rfl) rfl) ?_;refine ovr (pN ?_);refine cnq rfl (fun h0=>?_) (fun h0=>?_)
 ·refine sg (ac (I 151) ?_);refine nP (ret (pR (dn rfl rfl ?_)));unfold cN; rw [if_pos (by simpa [and_assoc,or_assoc] using h0)]; rfl
 ·refine skip (pN (sg (ac (I 0) ?_)));refine nP (ret (dn rfl rfl ?_));unfold cN; rw [if_neg (by simpa [and_assoc,or_assoc] using h0)]; rfl
theorem hasP_ok (p:ae) (a:aG) (w:World):Gx.Calls Tryz.prog 127 #[aM.val p,cz.val a] w (bG w (.bool (lM p a))):=by
 refine en0 32 Tryz.func127 (fun _ _=>?_);refine sg (cons (box (E:=aM) (.t rfl) (fun b1=>?_)));refine cons (box (E:=cz) (.t rfl) (fun b2=>?_));refine ac (.bool false) ?_;refine nP (seq (dA zk ?_));refine tk 0 rfl (Ev.ldx p cB (.t rfl) (ah.id _)) ?_;refine al1 1 rfl ((aQ eN (o1 rfl) (fun w I=>jh _ w) ?_));refine hdn (tk 2 rfl (Ev.dO (.t rfl) (.c rfl)) ?_);refine tm 3 rfl rfl ?_;refine tkg 4 rfl rfl rfl (Ev.ldx a eM (.t rfl) (ah.id _)) ?_;refine al1 5 rfl ((iM rfl rfl eN (.cons (.g rfl id) .nil) (fun hg w I=>n8 _ w) ?_));refine hdn (tkg 6 rfl rfl rfl (Ev.dO (.g rfl id) (.c rfl)) ?_);refine tk 7 rfl (Ev.pkA (.t rfl) rfl) ?_;refine tm 8 rfl rfl ?_;refine tkg 9 rfl rfl rfl (fA 0 (.t rfl)) ?_;refine tkg 10 rfl rfl rfl (Ev.ldx a.v6 ty4 (.g rfl id) aG.jP) ?_;refine tkg 11 rfl rfl rfl (fA 0 (.t rfl)) ?_;refine tkg 12 rfl rfl rfl (fA 0 (.g rfl id)) ?_;refine tkg 13 rfl rfl rfl (Ev.ldx p.addr.v6 ty4 (.g rfl id) (ah.comp ae.eH aG.jP)) ?_;refine tkg 14 rfl rfl rfl (Ev.eql_b Y4 (.g rfl id) (.g rfl id)) ?_;refine tk 15 rfl (Ev.pkA (.t rfl) rfl) ?_;refine tm 16 rfl rfl ?_;refine tkg 17 rfl rfl rfl (fA 1 (.t rfl)) ?_;refine tkg 18 rfl rfl rfl (Ev.iz (l:=0) (h:=16) Y79 ty5 (.g rfl id) rfl rfl (fun _=>by decide)) ?_;refine tkg 19 rfl rfl rfl (fA 0 (.t rfl)) ?_;refine tkg 20 rfl rfl rfl (fA 1 (.g rfl id)) ?_;refine tkg 21 rfl rfl rfl (Ev.iz (l:=0) (h:=16) Y79 ty5 (.g rfl id) rfl rfl (fun _=>by decide)) ?_;refine tkg 23 rfl rfl rfl (fA 17 (.t rfl)) ?_;refine tkg 24 rfl rfl rfl (Ev.ldx p.bits ty3 (.g rfl id) ae.fj) ?_
 refine al1 22 rfl ((iM rfl rfl eN (.cons (.g rfl id) (.cons (.g rfl id) .nil)) (fun hg w I=>common_ok _ _ _ _ w (lK (br (by repeat first | exact mH | apply mT | apply mA) aG.l_b w I) (by decide) (by decide) (by decide)) (lK (br (by repeat first | exact mH | apply mT | apply mA) (ah.comp ae.eH aG.l_b) w I) (by decide) (by decide) (by decide)) (by first | omega | (simp; done))) ?_));refine hdn (tkg 25 rfl rfl rfl (Ev.tS (.g rfl id) (.g rfl id)) ?_);refine tk 26 rfl (Ev.pkA (.t rfl) rfl) ?_;refine tk 27 rfl (Ev.assign (.t rfl)) ?_;refine ovr (pN (ret (dn rfl rfl ?_)));unfold lM; simp [jY,Bool.and_assoc,eqd]
theorem ug (p q:ae) (w:World):Gx.Calls Tryz.prog 180 #[aM.val p,aM.val q] w (bG w (.bool (fb p q))):=by
 refine en0 21 Tryz.func180 (fun _ _=>?_);refine sg (cons (box (E:=aM) (.t rfl) (fun b1=>?_)));refine cons (box (E:=aM) (.t rfl) (fun b2=>?_));refine ac (.bool false) ?_;refine nP (sg (co (Ev.ldx q cB (.t rfl) (ah.id _)) ?_));refine cons (aQ eN (o1 rfl) (fun w I=>jh _ w) ?_);refine co (Ev.dO (.t rfl) (.c rfl)) ?_;refine mv rfl (cg rfl rfl (fA 17 (.t rfl)) ?_);refine cg rfl rfl (Ev.ldx p.bits ty3 (.g rfl id) ae.fj) ?_;refine cg rfl rfl (fA 17 (.t rfl)) ?_;refine cg rfl rfl (Ev.ldx q.bits ty3 (.g rfl id) ae.fj) ?_;refine cg rfl rfl (Ev.leq_i (.g rfl id) (.g rfl id)) ?_;refine co (Ev.pkA (.t rfl) rfl) ?_;refine mv rfl (cg rfl rfl (Ev.ldx p cB (.t rfl) (ah.id _)) ?_);refine cg rfl rfl (fA 0 (.t rfl)) ?_;refine cg rfl rfl (Ev.ldx q.addr eM (.g rfl id) ae.eH) ?_;refine cons (iM rfl rfl eN (.cons (.g rfl id) (.cons (.g rfl id) .nil)) (fun hg w I=>hasP_ok _ _ w) ?_);refine co (Ev.pkA (.t rfl) rfl) ?_;refine asn rfl (nP (ret (dn rfl rfl ?_)));unfold fb; simp [jY,Bool.and_assoc]; done
def ckB (b:bc):Int:=if b.num < 1 ∨ 65536 < b.num ∨ b.den < 1 ∨ 65536 < b.den ∨ b.rO < 1 ∨ 1048576 < b.rO then 2 else 0
theorem bucket_ok (b:bc) (w:World):Gx.Calls Tryz.prog 148 #[j6.val b] w (bG w (I (ckB b))):=by
 refine en0 31 Tryz.func148 (fun _ _=>?_);refine sg (cons (box (E:=j6) (.t rfl) (fun b1=>?_)));refine ac (I 0) ?_;refine nP (seq (sg (cf 0 rfl ?_)));refine co (Ev.ldx b.num eO (.t rfl) bc.l_num) ?_;refine co (Ev.j3 (.t rfl) (.c (v:=U64 1) rfl)) ?_;refine mv rfl (cg rfl rfl (fA 0 (.t rfl)) ?_);refine cg rfl rfl (Ev.ldx b.num eO (.g rfl id) bc.l_num) ?_;refine cg rfl rfl (Ev.gJ (.g rfl id) (.c (v:=U64 65536) rfl)) ?_;refine co (Ev.pkO (.t rfl) rfl) ?_;refine mv rfl (cg rfl rfl (fA 1 (.t rfl)) ?_);refine cg rfl rfl (Ev.ldx b.den eO (.g rfl id) bc.l_den) ?_;refine cg rfl rfl (Ev.j3 (.g rfl id) (.c (v:=U64 1) rfl)) ?_;refine co (Ev.pkO (.t rfl) rfl) ?_;refine mv rfl (cg rfl rfl (fA 1 (.t rfl)) ?_);refine cg rfl rfl (Ev.ldx b.den eO (.g rfl id) bc.l_den) ?_;refine cg rfl rfl (Ev.gJ (.g rfl id) (.c (v:=U64 65536) rfl)) ?_;refine co (Ev.pkO (.t rfl) rfl) ?_;refine mv rfl (cg rfl rfl (fA 2 (.t rfl)) ?_);refine cg rfl rfl (Ev.ldx b.rO eO (.g rfl id) bc.xf) ?_;refine cg rfl rfl (Ev.j3 (.g rfl id) (.c (v:=U64 1) rfl)) ?_;refine co (Ev.pkO (.t rfl) rfl) ?_;refine mv rfl (cg rfl rfl (fA 2 (.t rfl)) ?_);refine cg rfl rfl (Ev.ldx b.rO eO (.g rfl id) bc.xf) ?_;refine cg rfl rfl (Ev.gJ (.g rfl id) (.c (v:=U64 1048576) rfl)) ?_;refine co (Ev.pkO (.t rfl) rfl) ?_;refine nP ?_;refine cnd rfl (fun h0=>?_) (fun h0=>?_)
 ·refine sg (ac (I 2) ?_);refine nP (ret (pR (dn rfl rfl ?_)));have e:ckB b = 2:=by unfold ckB; rw [if_pos (by simpa [or_assoc] using h0)]
  rw [e]; rfl
 ·refine skip (pN (sg (ac (I 0) ?_)));refine nP (ret (dn rfl rfl ?_));have e:ckB b = 0:=by unfold ckB; rw [if_neg (by simpa [or_assoc,and_assoc] using h0)]
  rw [e]; rfl
structure j7 (w:World) (x:KB) (l:CL):Prop where
 ps:iw w x.b1 iE iE (portsM l)
 rs:iw w x.b2 aM iE (r7 l)
 us:iw w x.b3 sE iE (lY l)
 ms:iw w x.b4 sE iE (l8 l)
 xs:iw w x.b5 sE iE (kE l)
theorem j7.aV {w w':World} {x:KB} {l:CL} (h:j7 w x l) (k:aJ dI w w'):j7 w' x l:=⟨h.ps.aV k,h.rs.aV k,h.us.aV k,h.ms.aV k,h.xs.aV k⟩
theorem lk {K:Ctx} {L:List Res} {x:KB} {l:CL} (hs:∀ r ∈ x.R l,r ∈ L) (w:World) (I:aP K L w):j7 w x l :=
 ⟨eP (hs _ (by simp [KB.R])) w I,eP (hs _ (by simp [KB.R])) w I,eP (hs _ (by simp [KB.R])) w I,eP (hs _ (by simp [KB.R])) w I,eP (hs _ (by simp [KB.R])) w I⟩
def vA (l:CL) (p:Int):Bool:=(cO eqd p (portsM l)).isSome
def eb (l:CL) (r:bm) (i:Int):Int:=if cN r.to_ ≠ 0 then 151 else if vA l r.out = false then 5 else if (cO ae.eqb r.to_ (r7 l)).getD 0 < i then 2 else 0
theorem ty225:tyI 225 (ovE gO):=tyP
theorem wN (k:KB) (l:CL) (p:Int) (w:World) (hk:j7 w k l):Gx.Calls Tryz.prog 146 #[bT.val k.k,I p] w (bG w (.bool (vA l p))):=by
 refine en0 15 Tryz.func146 (fun _ _=>?_);refine sg (cons (box (E:=bT) (.t rfl) (fun b1=>?_)));refine ac (.bool false) ?_;refine nP (sg (cf 0 rfl ?_));refine co (Ev.ldv ty225 (.t rfl) aF.dE) ?_;refine mv rfl (co (Ev.l9 Y225 Y3 key3 z3 (.t rfl) (.t rfl) (fun _=>(fun w I=>hk.ps.aV I.keeps))) ?_);exact s66
theorem ty226:tyI 226 (ovE gO):=tyP
theorem route_ok (k:KB) (l:CL) (r:bm) (i:Int) (w:World) (hk:j7 w k l):Gx.Calls Tryz.prog 110 #[bT.val k.k,aX.val r,I i] w (bG w (I (eb l r i))):=by
 refine en0 26 Tryz.func110 (fun _ _=>?_);refine sg (cons (box (E:=bT) (.t rfl) (fun b1=>?_)));refine cons (box (E:=aX) (.t rfl) (fun b2=>?_));refine ac (I 0) ?_;refine nP (seq (block (sg (cf 0 rfl ?_))));refine co (Ev.ldx r.to_ cB (.t rfl) bm.lj) ?_;refine cons (aQ eN (o1 rfl) (fun w I=>jh _ w) ?_);refine co (Ev.dS (.t rfl) (.c rfl)) ?_;refine asn rfl (nP ?_);refine cnd rfl (fun h0=>?_) (fun h0=>?_)
 ·refine sg (ac (I 151) ?_);refine nP (ret (bR (pR (dn rfl rfl ?_))));unfold eb; rw [if_pos (by simpa using h0)]; rfl
 ·refine sg (co (Ev.ldv ot (.t rfl) (ah.id _)) ?_);refine cf 18 rfl ?_;refine co (Ev.ldx r.out ty3 (.t rfl) bm.jB) ?_;refine cons (aQ eN (o2 rfl rfl) (fun w I=>wN _ l _ w (hk.aV I.keeps)) ?_);refine co (Ev.not (.t rfl)) ?_;refine asn rfl (nP ?_);refine cnd rfl (fun h1=>?_) (fun h1=>?_)
  ·refine sg (ac (I 5) ?_);refine nP (ret (bR (pR (dn rfl rfl ?_))));unfold eb; rw [if_neg (by simpa using h0),if_pos (by simpa using h1)]; rfl
  ·refine sg (cf 1 rfl ?_);refine co (Ev.ldv ty226 (.t rfl) aF.db) ?_;refine cf 0 rfl ?_;refine co (Ev.ldx r.to_ cB (.t rfl) bm.lj) ?_;refine co (Ev.se Y226 Y107 key107 z3 (.t rfl) (.t rfl) (fun _=>(fun w I=>hk.rs.aV I.keeps))) ?_;refine mv rfl (co (Ev.cj (.t rfl) (.t rfl)) ?_);refine asn rfl (nP ?_);refine cnd rfl (fun h2=>?_) (fun h2=>?_)
   ·refine sg (ac (I 2) ?_);refine nP (ret (bR (pR (dn rfl rfl ?_))));unfold eb; rw [if_neg (by simpa using h0),if_neg (by simpa using h1),if_pos (by simpa using h2)]; rfl
   ·refine skip (bN (pN (sg (ac (I 0) ?_))));refine nP (ret (dn rfl rfl ?_));unfold eb; rw [if_neg (by simpa using h0),if_neg (by simpa using h1),if_neg (by simpa using h2)]; rfl
def iU (c i:Int):Bool:=(decide (97 ≤ c) && decide (c ≤ 122)) || (decide (0 < i) && ((decide (48 ≤ c) && decide (c ≤ 57)) || decide (c = 45) || decide (c = 95)))
def iD (s:ByteArray):Bool:=!(decide (s.size = 0) || decide (16 < s.size)) && (List.range s.size).all (fun k=>iU (s.get! k).toNat k)
theorem tC {c i:Int} (h:128 ≤ c):iU c i = false:=by
 unfold iU;have h1:decide (c ≤ 122) = false:=by simp; omega
 have h2:decide (c ≤ 57) = false:=by simp; omega
 have h3:decide (c = 45) = false:=by simp; omega
 have h4:decide (c = 95) = false:=by simp; omega
 rw [h1,h2,h3,h4];simp
theorem qC {s:ByteArray} {i:Nat} (hc:iU (Utf8.decode s i).1 i = true):(Utf8.decode s i).2 = 1 ∧ iU (s.get! i).toNat i = true:=by
 have hlt:(s.get! i).toNat < 128:=Nat.lt_of_not_le fun h=>by
  have:=Gx.decode_high s i h;rw [tC (by omega)] at hc;cases hc
 have e:Utf8.decode s i = ((s.get! i).toNat,1):=by
  unfold Utf8.decode;simp only [Nat.add_zero];rw [if_pos hlt]
 rw [e] at hc ⊢;exact ⟨rfl,hc⟩
theorem name_bad {s:ByteArray} {i:Nat} (hc:iU (Utf8.decode s i).1 i = false):iU (s.get! i).toNat i = false:=by
 by_cases hlt:(s.get! i).toNat < 128
 ·have e:Utf8.decode s i = ((s.get! i).toNat,1):=by
   unfold Utf8.decode;simp only [Nat.add_zero];rw [if_pos hlt]
  rw [e] at hc;exact hc
 ·exact tC (by omega)
theorem wX (s:ByteArray) (w:World) (hs:s.size ≤ 9223372036854775807):Gx.Calls Tryz.prog 147 #[.string s] w (bG w (.bool (iD s))):=by
 refine en0 45 Tryz.func147 (fun _ _=>?_);refine sg (ac (.bool false) ?_);refine nP (seq (sg (mv rfl (co (Ev.lenS Y9 (.t rfl)) ?_))));refine co (Ev.dO (.t rfl) (.c rfl)) ?_;refine mv rfl (cg rfl rfl (Ev.move (.t rfl)) ?_);refine cg rfl rfl (Ev.lenS Y9 (.g rfl id)) ?_;refine cg rfl rfl (Ev.ir (.g rfl id) (.c rfl)) ?_;refine co (Ev.pkO (.t rfl) rfl) ?_;refine nP ?_;refine cnd rfl (fun h0=>?_) (fun h0=>?_)
 ·refine sg (ac (.bool false) ?_);refine nP (ret (pR (dn rfl rfl ?_)));have e:iD s = false:=by
   have h:(decide (s.size = 0) || decide (16 < s.size)) = true:=by rw [Bool.or_eq_true,decide_eq_true_eq,decide_eq_true_eq]; omega
   unfold iD;rw [h]
   rfl
  rw [e]; rfl
 ·refine skip (pN (seq (sg (mv rfl (cons (startRangeS Y9 (.t rfl) (fun r1=>?_)))))));refine nP (block (lp (X:=Nat) (fun x=>(x ≤ s.size) ∧ (∀ k:Nat,k < x→iU (s.get! k).toNat k = true)) (fun x=>[dz,(14,true,pvb r1)]) (fun x=>[StrIt r1 s x]) (fun x=>s.size - x) (0) ⟨?_,?_⟩ (fun x hx=>?_)))
  ·omega
  ·intro k h; omega
  obtain ⟨i,rfl⟩:∃ y,y = x:=⟨x,rfl⟩;obtain ⟨hi,hq⟩:(i ≤ s.size) ∧ (∀ k:Nat,k < i→iU (s.get! k).toNat k = true):=hx;refine sg (cons (nextStr (.t rfl) (fun _=>zu) (fun hs5=>?_) (fun hs5=>?_)))
  ·refine cx rfl rfl (nP (seq (fL rfl (rfl) ?_)));refine exit (pX (pX (bX (pN (sg (ac (.bool true) ?_))))));refine nP (ret (dn rfl rfl ?_));have e:iD s = true:=by
    have h:(decide (s.size = 0) || decide (16 < s.size)) = false:=by rw [Bool.or_eq_false_iff,decide_eq_false_iff_not,decide_eq_false_iff_not]; omega
    unfold iD;rw [h];exact List.all_eq_true.2 fun k hk=>hq k (by have:=List.mem_range.1 hk; omega)
   rw [e]; rfl
  ·refine cx rfl rfl (nP (seq (condT rfl (rfl) ?_)));refine skip (pN (block (sg (cx rfl rfl (cx rfl rfl (asn rfl (asn rfl (nP (block (sg (mv rfl (co (Ev.geq_i32 (.t rfl) (.c (v:=Value.int .i32 97) rfl)) ?_))))))))))));refine mv rfl (cg rfl rfl (Ev.move (.t rfl)) ?_);refine cg rfl rfl (Ev.leq_i32 (.g rfl id) (.c (v:=Value.int .i32 122) rfl)) ?_;refine co (Ev.pkA (.t rfl) rfl) ?_;refine asn rfl (nP ?_);refine cnq rfl (fun h2=>?_) (fun h2=>?_)
   ·exact s12
   ·refine sg (mv rfl (co (Ev.ir (.t rfl) (.c rfl)) ?_));refine mv rfl (cg rfl rfl (Ev.move (.t rfl)) ?_);refine cg rfl rfl (Ev.geq_i32 (.g rfl id) (.c (v:=Value.int .i32 48) rfl)) ?_;refine cg rfl rfl (Ev.move (.g rfl id)) ?_;refine cg rfl rfl (Ev.move (.t rfl)) ?_;refine cg rfl rfl (Ev.leq_i32 (.g rfl id) (.c (v:=Value.int .i32 57) rfl)) ?_;refine cg rfl rfl (Ev.pkA (.g rfl id) rfl) ?_;refine cg rfl rfl (Ev.move (.g rfl id)) ?_;refine cg rfl rfl (Ev.move (.t rfl)) ?_;refine cg rfl rfl (Ev.eql_i32 (.g rfl id) (.c (v:=Value.int .i32 45) rfl)) ?_;refine cg rfl rfl (Ev.pkO (.g rfl id) rfl) ?_;refine cg rfl rfl (Ev.move (.g rfl id)) ?_;refine cg rfl rfl (Ev.move (.t rfl)) ?_;refine cg rfl rfl (Ev.eql_i32 (.g rfl id) (.c (v:=Value.int .i32 95) rfl)) ?_;refine cg rfl rfl (Ev.pkO (.g rfl id) rfl) ?_;refine co (Ev.pkA (.t rfl) rfl) ?_;refine asn rfl (nP ?_);refine cnq rfl (fun h3=>?_) (fun h3=>?_)
    ·exact s12
    ·refine sg (ac (.bool false) ?_);refine nP (ret (bR (bR (pR (bR (pR (dn rfl rfl ?_)))))));have hb:iU (s.get! i).toNat i = false:=name_bad (by unfold iU; rw [h2,h3]; rfl);have e:iD s = false:=by
      unfold iD;have:(List.range s.size).all (fun k=>iU (s.get! k).toNat k) = false:=List.all_eq_false.2 ⟨i,List.mem_range.2 (by assumption),by simp [hb]⟩;rw [this,Bool.and_false]
     rw [e]; rfl
def jb (l:CL) (m:aI) (i:Int):Int:=if iD m.name = false then 201 else if (cO eqs m.name (l8 l)).getD 0 < i ∨ ckB m.bucket ≠ 0 then 2 else 0
theorem ty135:tyI 135 (ovE gO):=tyP
theorem meter_ok (k:KB) (l:CL) (m:aI) (i:Int) (w:World) (hk:j7 w k l) (hs:m.name.size ≤ 9223372036854775807):Gx.Calls Tryz.prog 114 #[bT.val k.k,bj.val m,I i] w (bG w (I (jb l m i))):=by
 refine en0 24 Tryz.func114 (fun _ _=>?_);refine sg (cons (box (E:=bT) (.t rfl) (fun b1=>?_)));refine cons (box (E:=bj) (.t rfl) (fun b2=>?_));refine ac (I 0) ?_;refine nP (seq (block (sg (cf 0 rfl ?_))));refine co (Ev.ldx m.name ty9 (.t rfl) aI.fT) ?_;refine cons (aQ eN (o1 rfl) (fun w I=>wX _ w hs) ?_);refine co (Ev.not (.t rfl)) ?_;refine asn rfl (nP ?_);refine cnd rfl (fun h0=>?_) (fun h0=>?_)
 ·refine sg (ac (I 201) ?_);refine nP (ret (bR (pR (dn rfl rfl ?_))));exact s14
 ·refine seq (sg (cf 3 rfl ?_));refine co (Ev.ldv ty135 (.t rfl) aF.fh) ?_;refine cf 0 rfl ?_;refine co (Ev.ldx m.name ty9 (.t rfl) aI.fT) ?_;refine co (Ev.se Y135 Y9 uT z3 (.t rfl) (.t rfl) (fun _=>(fun w I=>hk.ms.aV I.keeps))) ?_;refine mv rfl (co (Ev.cj (.t rfl) (.t rfl)) ?_);refine asn rfl (nP ?_);refine cnd rfl (fun h1=>?_) (fun h1=>?_)
  ·refine skip (pN ?_);exact s77
  ·refine region (cf 1 rfl ?_);refine co (Ev.ldx m.bucket ty137 (.t rfl) aI.l_bucket) ?_;refine cons (aQ eN (o1 rfl) (fun w I=>bucket_ok _ w) ?_);refine co (Ev.dS (.t rfl) (.c rfl)) ?_;refine asn rfl (nP ?_);exact s77
structure CB where
 o1:OV
 o2:OV
 o3:OV
 o4:OV
 o5:OV
def CB.c (x:CB) (d:Int):aN:=⟨x.o1,x.o2,x.o3,x.o4,x.o5,d⟩
def CB.R (x:CB) (l:CL):List Res:=[aT x.o5.v bg l.xs 141,aT x.o4.v bj l.ms 139,aT x.o3.v cy l.us 111,aT x.o2.v aX l.rs 194,aT x.o1.v iE l.ps 3]
structure CL.Small (l:CL):Prop where
 ps:l.ps.length ≤ 1048576
 rs:l.rs.length ≤ 1048576
 us:l.us.length ≤ 1048576
 ms:l.ms.length ≤ 1048576
 xs:l.xs.length ≤ 1048576
theorem z28:zI 28 cZ:=kI
theorem ph:tyI 28 cZ:=tyP
theorem copy_ok (c:aN) (l:CL) (w:World) (hc:eI w c l) (hs:l.Small):Gx.Calls Tryz.prog 41 #[cZ.val c] w (gL w (fun _:CB=>True) (fun x=>cZ.val (x.c c.default)) (fun x=>x.R l)):=by
 refine en0 21 Tryz.func41 (fun _ _=>?_);refine sg (cons (box (E:=cZ) (.t rfl) (fun b1=>?_)));refine cons (alloc z28 (fun b2=>?_));refine nP (seq (lO 2 rfl zr zk ?_));refine tk 0 rfl (fA 0 (.t rfl)) ?_;refine tk 1 rfl (Ev.ldx c.jA ty22 (.t rfl) aN.dE) ?_;refine tk 3 rfl (fA 1 (.t rfl)) ?_;refine tk 4 rfl (Ev.ldx c.fe ty23 (.t rfl) aN.db) ?_;refine tk 6 rfl (fA 2 (.t rfl)) ?_;refine tk 7 rfl (Ev.ldx c.rules ty24 (.t rfl) aN.eJ) ?_;refine tk 9 rfl (fA 3 (.t rfl)) ?_;refine tk 10 rfl (Ev.ldx c.kF ty25 (.t rfl) aN.fh) ?_;refine tk 12 rfl (fA 4 (.t rfl)) ?_;refine tk 13 rfl (Ev.ldx c.iF ty26 (.t rfl) aN.eu) ?_;refine tk 15 rfl (fA 5 (.t rfl)) ?_;refine tk 16 rfl (Ev.ldx c.default ty3 (.t rfl) aN.fQ) ?_;refine al1 2 rfl ((dY eN (o1 rfl) (fun w I=>clone_3 _ _ w (hc.aV I.keeps).ps (by have:=hs.ps; omega)) (fun v3=>?_)));refine hdn (al1 5 rfl ((dY eN (o1 rfl) (fun w I=>clone_194 _ _ w (hc.aV I.keeps).rs (by have:=hs.rs; omega)) (fun v4=>?_))));refine hdn (al1 8 rfl ((dY eN (o1 rfl) (fun w I=>clone_111 _ _ w (hc.aV I.keeps).us (by have:=hs.us; omega)) (fun v5=>?_))));refine hdn (al1 11 rfl ((dY eN (o1 rfl) (fun w I=>clone_139 _ _ w (hc.aV I.keeps).ms (by have:=hs.ms; omega)) (fun v6=>?_))));refine hdn (al1 14 rfl ((dY eN (o1 rfl) (fun w I=>clone_141 _ _ w (hc.aV I.keeps).xs (by have:=hs.xs; omega)) (fun v7=>?_))));refine hdn (tk 17 rfl (Ev.bu (fs:=_) (places:=[(0,1),(1,1),(2,1),(3,1),(4,1),(5,1)]) z28 rfl Y28 zk (.cons (.t rfl) (.cons (.t rfl) (.cons (.t rfl) (.cons (.t rfl) (.cons (.t rfl) (.cons (.t rfl) .nil)))))) (ay.cons aN.dE rfl (ay.cons aN.db rfl (ay.cons aN.eJ rfl (ay.cons aN.fh rfl (ay.cons aN.eu rfl (ay.cons aN.fQ rfl ay.nil))))))) ?_);refine al1 18 rfl ((stv ph (ah.id _) (.t rfl) (.t rfl) ?_))
 refine hdn (ovr (pN (ret (done rfl (.cellP rfl ph (br zm (ah.id _)) .nil) (fun w I=>?_)))));exact ln (⟨v3,v4,v5,v6,v7⟩:CB) trivial rfl (by exact zs) w I
def fH (ps:List Int) (p i:Int):Int:=if p < 0 ∨ 255 < p then 5 else if 0 < i ∧ p ≤ ps.getD (i - 1).toNat 0 then 2 else 0
theorem port1_ok (c:aN) (ps:List Int) (b:Nat) (p i:Int) (w:World) (hc:cq cZ w b 0 c) (hp:aO iE w c.jA.v ps) (hi:0 ≤ i ∧ i < ps.length):Gx.Calls Tryz.prog 108 #[I p,I i,.pointer (some ⟨b,0,none⟩)] w (bG w (I (fH ps p i))):=by
 have hle:=hp.le;refine en0 26 Tryz.func108 (fun _ _=>?_);refine sg (ac (I 0) ?_);refine nP (seq (block (sg (mv rfl (co (Ev.cj (.t rfl) (.c rfl)) ?_)))));refine mv rfl (cg rfl rfl (Ev.move (.t rfl)) ?_);refine cg rfl rfl (Ev.ir (.g rfl id) (.c rfl)) ?_;refine co (Ev.pkO (.t rfl) rfl) ?_;refine asn rfl (nP ?_);refine cnd rfl (fun h0=>?_) (fun h0=>?_)
 ·refine sg (ac (I 5) ?_);refine nP (ret (bR (pR (dn rfl rfl ?_))));unfold fH; rw [if_pos (by simpa using h0)]; rfl
 ·refine sg (mv rfl (co (Ev.ir (.t rfl) (.c rfl)) ?_));refine mv rfl (cg rfl rfl (Ev.move (.t rfl)) ?_);refine cg rfl rfl (fA 0 (.t rfl)) ?_;refine cg rfl rfl (Ev.load ty22 (.g rfl id) (c9 (fun w I=>hc.cn I.keeps) aN.dE)) ?_;refine cg rfl rfl (Ev.move (.t rfl)) ?_;refine cg rfl rfl (Ev.jV (.g rfl id) (.c rfl) (fun _=>by first | omega | (rename_i hg; simp at hg; omega))) ?_;refine cg rfl rfl (Ev.indexAddr Y22 ty3 (.g rfl id) (.g rfl id) (fun w I=>hp.aV I.keeps) (fun _=>by first | omega | (rename_i hg; simp at hg; omega))) ?_;refine cg rfl rfl (Ev.bV ty3 (.g rfl id) (fun w I=>hp.aV I.keeps) (fun _=>by first | omega | (rename_i hg; simp at hg; omega))) ?_;refine cg rfl rfl (Ev.leq_i (.g rfl id) (.g rfl id)) ?_;refine co (Ev.pkA (.t rfl) rfl) ?_;refine asn rfl (nP ?_);refine cnd rfl (fun h1=>?_) (fun h1=>?_)
  ·refine sg (ac (I 2) ?_);refine nP (ret (bR (pR (dn rfl rfl ?_))));unfold fH; rw [if_neg (by omega),if_pos ⟨h1.1,h1.2⟩]; rfl
  ·refine skip (bN (pN (sg (ac (I 0) ?_))));refine nP (ret (dn rfl rfl ?_));unfold fH; rw [if_neg (by omega),if_neg (fun hh=>h1.elim (fun e=>e hh.1) (fun e=>e hh.2))]; rfl
structure aa where
 src:aG
 dst:aG
 aC:UInt8
 bB:UInt16
 bC:UInt16
 tTL:UInt8
 gA:UInt8
 id:UInt32
 flags:UInt8
 seq:UInt32
 data:OV
def aa.to:(aG × (aG × (UInt8 × (UInt16 × (UInt16 × (UInt8 × (UInt8 × (UInt32 × (UInt8 × (UInt32 × OV))))))))))→aa:=fun x=>⟨x.1,x.2.1,x.2.2.1,x.2.2.2.1,x.2.2.2.2.1,x.2.2.2.2.2.1,x.2.2.2.2.2.2.1,x.2.2.2.2.2.2.2.1,x.2.2.2.2.2.2.2.2.1,x.2.2.2.2.2.2.2.2.2.1,x.2.2.2.2.2.2.2.2.2.2⟩
def aa.of:aa→(aG × (aG × (UInt8 × (UInt16 × (UInt16 × (UInt8 × (UInt8 × (UInt32 × (UInt8 × (UInt32 × OV)))))))))):=fun x=>(x.src,x.dst,x.aC,x.bB,x.bC,x.tTL,x.gA,x.id,x.flags,x.seq,x.data)
def aA:Enc aa:=gI (bh cz (bh cz (bh u8E (bh od (bh od (bh u8E (bh u8E (bh u32E (bh u8E (bh u32E (ovE ai))))))))))) aa.to aa.of
def aa.eF:ah aA cz 0:=lI aa.to aa.of l1
@[simp] theorem aa.get_src (x:aa):aa.eF.get x = x.src:=rfl
@[simp] theorem aa.set_src (x:aa) (y:aG):aa.eF.set x y = { x with src:=y }:=rfl
def aa.fx:ah aA cz 17:=lI aa.to aa.of (l2 l1)
@[simp] theorem aa.get_dst (x:aa):aa.fx.get x = x.dst:=rfl
@[simp] theorem aa.set_dst (x:aa) (y:aG):aa.fx.set x y = { x with dst:=y }:=rfl
def aa.bS:ah aA u8E 34:=lI aa.to aa.of (l2 (l2 l1))
@[simp] theorem aa.vS (x:aa):aa.bS.get x = x.aC:=rfl
@[simp] theorem aa.set_proto (x:aa) (y:UInt8):aa.bS.set x y = { x with aC:=y }:=rfl
def aa.cS:ah aA od 35:=lI aa.to aa.of (l2 (l2 (l2 l1)))
@[simp] theorem aa.rA (x:aa):aa.cS.get x = x.bB:=rfl
@[simp] theorem aa.ri (x:aa) (y:UInt16):aa.cS.set x y = { x with bB:=y }:=rfl
def aa.cT:ah aA od 36:=lI aa.to aa.of (l2 (l2 (l2 (l2 l1))))
@[simp] theorem aa.rB (x:aa):aa.cT.get x = x.bC:=rfl
@[simp] theorem aa.rj (x:aa) (y:UInt16):aa.cT.set x y = { x with bC:=y }:=rfl
def aa.tJ:ah aA u8E 37:=lI aa.to aa.of (l2 (l2 (l2 (l2 (l2 l1)))))
@[simp] theorem aa.get_tTL (x:aa):aa.tJ.get x = x.tTL:=rfl
@[simp] theorem aa.set_tTL (x:aa) (y:UInt8):aa.tJ.set x y = { x with tTL:=y }:=rfl
def aa.lJ:ah aA u8E 38:=lI aa.to aa.of (l2 (l2 (l2 (l2 (l2 (l2 l1))))))
@[simp] theorem aa.get_class_ (x:aa):aa.lJ.get x = x.gA:=rfl
@[simp] theorem aa.set_class_ (x:aa) (y:UInt8):aa.lJ.set x y = { x with gA:=y }:=rfl
def aa.tN:ah aA u32E 39:=lI aa.to aa.of (l2 (l2 (l2 (l2 (l2 (l2 (l2 l1)))))))
@[simp] theorem aa.get_id (x:aa):aa.tN.get x = x.id:=rfl
@[simp] theorem aa.set_id (x:aa) (y:UInt32):aa.tN.set x y = { x with id:=y }:=rfl
def aa.nV:ah aA u8E 40:=lI aa.to aa.of (l2 (l2 (l2 (l2 (l2 (l2 (l2 (l2 l1))))))))
@[simp] theorem aa.get_flags (x:aa):aa.nV.get x = x.flags:=rfl
@[simp] theorem aa.set_flags (x:aa) (y:UInt8):aa.nV.set x y = { x with flags:=y }:=rfl
def aa.vN:ah aA u32E 41:=lI aa.to aa.of (l2 (l2 (l2 (l2 (l2 (l2 (l2 (l2 (l2 l1)))))))))
@[simp] theorem aa.get_seq (x:aa):aa.vN.get x = x.seq:=rfl
@[simp] theorem aa.set_seq (x:aa) (y:UInt32):aa.vN.set x y = { x with seq:=y }:=rfl
def aa.ly:ah aA (ovE ai) 42:=lI aa.to aa.of (l2 (l2 (l2 (l2 (l2 (l2 (l2 (l2 (l2 (l2 (ah.id _)))))))))))
@[simp] theorem aa.get_data (x:aa):aa.ly.get x = x.data:=rfl
@[simp] theorem aa.set_data (x:aa) (y:OV):aa.ly.set x y = { x with data:=y }:=rfl
def kP (x:UInt8) (j:Nat):UInt8:=mz x (7 - j) &&& 1
theorem fB (x:UInt8) (j:Nat):(kP x j).toNat = bn x.toNat (7 - j):=by
 unfold kP bn;exact s70
theorem oa (xs:List UInt8) (q j:Nat) (hj:j < 8):dj xs (8 * (q:Int) + j) = kP (xs.getD q 0) j:=by
 unfold dj kP;have e1:((8 * (q:Int) + j) / 8).toNat = q:=by omega
 have e2:(7 - (8 * (q:Int) + j) % 8).toNat = 7 - j:=by omega
 rw [e1,e2]
theorem mk1_dec:∀ n:Fin 256,∀ l:Fin 9,(mk1 (l.val:Int) (UInt8.ofNat n.val) = UInt8.ofNat n.val ↔ ∀ j:Fin 8,l.val ≤ j.val→bn n.val (7 - j.val) = 0):=by decide +kernel
theorem wZ (x:UInt8) (left:Int):mk1 left x = x ↔ ∀ j:Nat,j < 8→left ≤ j→kP x j = 0:=by
 have key:∀ l:Nat,l < 9→(mk1 (l:Int) x = x ↔ ∀ j:Nat,j < 8→l ≤ j→kP x j = 0):=fun l hl=>by
  have h:=mk1_dec ⟨x.toNat,x.toNat_lt⟩ ⟨l,hl⟩;simp only [UInt8.ofNat_toNat] at h;rw [h];constructor
  ·intro h1 j hj hlj;apply UInt8.toNat_inj.1;rw [fB];exact h1 ⟨j,hj⟩ hlj
  ·intro h1 j hlj;rw [← fB,h1 j.val j.isLt hlj]
   rfl
 by_cases h0:left ≤ 0
 ·have e:mk1 left x = mk1 ((0:Nat):Int) x:=by
   unfold mk1;rw [if_pos h0,if_pos (by omega)]
  rw [e,key 0 (by omega)];exact ⟨fun h j hj _=>h j hj (Nat.zero_le _),fun h j hj _=>h j hj (by omega)⟩
 ·by_cases h8:left < 8
  ·have e:left = (left.toNat:Int):=by omega
   rw [e,key left.toNat (by omega)];exact ⟨fun h j hj hl=>h j hj (by omega),fun h j hj hl=>h j hj (by omega)⟩
  ·have e:mk1 left x = x:=by
    unfold mk1;rw [if_neg h0,if_neg h8]
   exact ⟨fun _ j hj hl=>by omega,fun _=>e⟩
theorem ku (b:Vector UInt8 16) (k:Nat) (h:k < 16):b.toList.getD k 0 = b[k]:=by simp [List.getD,h]
theorem vI (n:Int) (b:Vector UInt8 16) (h0:0 ≤ n):fI n b = b ↔ ∀ i:Int,n ≤ i→i < 128→dj b.toList i = 0:=by
 have step:fI n b = b ↔ ∀ (k:Nat) (hk:k < 16),mk1 (n - 8 * (k:Int)) b[k] = b[k]:=by
  constructor
  ·intro h k hk;have:=congrArg (fun v:Vector UInt8 16=>v[k]) h
   simpa [fI] using this
  ·intro h;apply Vector.ext;intro k hk;have:=h k hk
   simpa [fI] using this
 rw [step];constructor
 ·intro h i h1 h2;have hk:(i / 8).toNat < 16:=by omega
  have h3:=(wZ _ _).1 (h (i / 8).toNat hk) (i % 8).toNat (by omega) (by omega);have e:i = 8 * ((i / 8).toNat:Int) + ((i % 8).toNat:Int):=by omega
  rw [e,oa _ _ _ (by omega),ku b _ hk];exact h3
 ·intro h k hk;refine (wZ _ _).2 (fun j hj hl=>?_);have h3:=h (8 * (k:Int) + j) (by omega) (by omega);rw [oa _ _ _ hj,ku b _ hk] at h3;exact h3
theorem jH (a:aG):cG a = 0 ↔ ∀ i:Int,wd a ≤ i→i < 128→dj a.b.toList i = 0:=by
 have:=oo a;rw [← vI (wd a) a.b (by omega)];unfold cG;split <;> simp_all
theorem eh (p:ae):cN p = 0 ↔ 0 ≤ p.bits ∧ p.bits ≤ wd p.addr ∧ ∀ i:Int,p.bits ≤ i→i < 128→dj p.addr.b.toList i = 0:=by
 unfold cN
 by_cases h0:0 ≤ p.bits
 ·rw [← vI p.bits p.addr.b h0];split
  ·rename_i h;constructor
   ·intro h; cases h
   ·intro h2; exfalso; rcases h with h | h | h
    ·omega
    ·omega
    ·exact h h2.2.2
  ·rename_i h;simp only [not_or,Decidable.not_not] at h;exact ⟨fun _=>⟨h0,(by omega),h.2.2⟩,fun _=>rfl⟩
 ·rw [if_pos (.inl (by omega))];exact ⟨fun h=>(by cases h),fun h=>absurd h.1 h0⟩
theorem rL (p:ae) (h:cN p = 0):cG p.addr = 0:=by
 obtain ⟨h0,h1,h2⟩:=(eh p).1 h;exact (jH p.addr).2 (fun i hi h3=>h2 i (by omega) h3)
theorem wa (a b:List UInt8) (n:Int) (ha:a.length = 16) (hb:b.length = 16) (h1:n ≤ 128):n ≤ iL a b ↔ ∀ i:Int,0 ≤ i→i < n→dj a i = dj b i:=by
 have h:=um a b;constructor
 ·intro h2 i h3 h4;exact h.eq i h3 (by omega)
 ·intro h2
  rcases Int.lt_or_le (iL a b) n with h3 | h3
  ·exact absurd (h2 _ h.p h3) (h.ne (by omega) (by omega))
  ·exact h3
theorem rY (b:Vector UInt8 16):b.toList.length = 16:=by simp
theorem lL (p:ae) (a:aG):lM p a = true ↔ cN p = 0 ∧ cG a = 0 ∧ a.v6 = p.addr.v6 ∧ ∀ i:Int,0 ≤ i→i < p.bits→dj a.b.toList i = dj p.addr.b.toList i:=by
 unfold lM;simp only [Bool.and_eq_true,decide_eq_true_eq,and_assoc];constructor
 ·rintro ⟨h1,h2,h3,h4⟩;obtain ⟨g0,g1,_⟩:=(eh p).1 h1;have:=oo p.addr;exact ⟨h1,h2,h3,(wa _ _ _ (rY _) (rY _) (by omega)).1 h4⟩
 ·rintro ⟨h1,h2,h3,h4⟩;obtain ⟨g0,g1,_⟩:=(eh p).1 h1;have:=oo p.addr;exact ⟨h1,h2,h3,(wa _ _ _ (rY _) (rY _) (by omega)).2 h4⟩
def cA (m:aq) (w:UInt8):Bool:=decide (¬ m.asks &&& w = 0)
theorem iP (m:aq) (q:UInt8) (w:World):Gx.Calls Tryz.prog 122 #[aR.val m,U8 q] w (bG w (.bool (cA m q))):=by
 refine en0 10 Tryz.func122 (fun _ _=>?_);refine sg (cons (box (E:=aR) (.t rfl) (fun b1=>?_)));refine ac (.bool false) ?_;refine nP (sg (cf 0 rfl ?_));refine co (Ev.ldx m.asks ty5 (.t rfl) aq.xg) ?_;refine mv rfl (co (Ev.and_u8 (.t rfl) (.t rfl)) ?_);refine co (Ev.lu (.t rfl) (.c (v:=U8 0) rfl)) ?_;refine asn rfl (nP (ret (dn rfl rfl ?_)))
 rfl
def portsB (p:UInt8):Bool:=decide (p = 6) || decide (p = 17)
def rX (s:bM) (n:Int):Bool:=decide ((s.from_.toNat:Int) ≤ n) && decide (n ≤ (s.to_.toNat:Int))
theorem vc (s:bM) (n:Int) (w:World):Gx.Calls Tryz.prog 124 #[fy.val s,I n] w (bG w (.bool (rX s n))):=by
 refine en0 17 Tryz.func124 (fun _ _=>?_);refine sg (cons (box (E:=fy) (.t rfl) (fun b1=>?_)));refine ac (.bool false) ?_;refine nP (sg (mv rfl (cf 0 rfl ?_)));refine co (Ev.ldx s.from_ iW (.t rfl) bM.nU) ?_;refine co (Ev.kO Y3 Y82 (.t rfl)) ?_;refine co (Ev.tS (.t rfl) (.t rfl)) ?_;refine mv rfl (cg rfl rfl (Ev.move (.t rfl)) ?_);refine cg rfl rfl (fA 1 (.t rfl)) ?_;refine cg rfl rfl (Ev.ldx s.to_ iW (.g rfl id) bM.lj) ?_;refine cg rfl rfl (Ev.kO Y3 Y82 (.g rfl id)) ?_;refine cg rfl rfl (Ev.leq_i (.g rfl id) (.g rfl id)) ?_;exact s57
theorem iX {α:Type} (l:List α) (i:Int) (h0:0 ≤ i) (h1:i < l.length) (z:α):l.take (i + 1).toNat = l.take i.toNat ++ [l.getD i.toNat z]:=by
 exact s58
def bad0 (m:aq):Bool:=decide (63 < m.asks) || (!cA m 1 && !decide (m.in_ = fy.zero)) || (!cA m 2 && !decide (m.src = aM.zero)) || (!cA m 4 && !decide (m.dst = aM.zero)) || (!cA m 8 && decide (¬ m.aC = 0)) || (!cA m 16 && !decide (m.bB = fy.zero)) || (!cA m 32 && !decide (m.bC = fy.zero))
def bad1 (m:aq):Bool:=decide (m.in_.to_ < m.in_.from_) || decide (255 < m.in_.to_) || decide (m.bB.to_ < m.bB.from_) || decide (m.bC.to_ < m.bC.from_)
def bad2 (m:aq):Bool:=(cA m 2 && !decide (cN m.src = 0)) || (cA m 4 && !decide (cN m.dst = 0)) || (cA m 2 && cA m 4 && decide (¬ m.src.addr.v6 = m.dst.addr.v6))
def vQ (m:aq):Bool:=(!cA m 16 && !cA m 32) || (cA m 8 && portsB m.aC)
def okM (m:aq):Bool:=!bad0 m && !bad1 m && !bad2 m && vQ m
def ckM (m:aq):Int:=bif okM m then 0 else 190
theorem lP (m:aq):decide (ckM m = 0) = okM m:=by unfold ckM; cases okM m <;> rfl
def kV (c:Bool) (f h:UInt8):UInt8:=bif c then h ||| f else h
theorem u8_or_zero (x y:UInt8):x ||| y = 0 ↔ x = 0 ∧ y = 0:=by
 constructor
 ·intro h;have h1:=congrArg UInt8.toNat h;rw [UInt8.toNat_or] at h1;have h2:UInt8.toNat 0 = 0:=rfl;rw [h2] at h1;have h3:x.toNat ≤ x.toNat ||| y.toNat:=Nat.left_le_or
  have h4:y.toNat ≤ x.toNat ||| y.toNat:=Nat.right_le_or
  exact ⟨UInt8.toNat_inj.1 (by rw [h2]; omega),UInt8.toNat_inj.1 (by rw [h2]; omega)⟩
 ·rintro ⟨rfl,rfl⟩
  rfl
theorem addF_and (c:Bool) (f h a:UInt8):kV c f h &&& a = 0 ↔ (c = true→f &&& a = 0) ∧ h &&& a = 0:=by
 unfold kV;cases c
 ·simp
 ·simp only [cond_true,forall_const];have e:(h ||| f) &&& a = h &&& a ||| f &&& a:=by
   apply UInt8.toNat_inj.1;simp only [UInt8.toNat_and,UInt8.toNat_or,Nat.and_or_distrib_right]
  rw [e,u8_or_zero];exact and_comm
theorem not_dec:∀ w ∈ ([1,2,4,8,16,32]:List UInt8),∀ n:Fin 256,(w &&& ~~~ (UInt8.ofNat n.val) = 0) = (¬ UInt8.ofNat n.val &&& w = 0):=by
 intro w hw n;have h:∀ w ∈ ([1,2,4,8,16,32]:List UInt8),∀ n:Fin 256,decide (w &&& ~~~ (UInt8.ofNat n.val) = 0) = decide (¬ UInt8.ofNat n.val &&& w = 0):=by decide +kernel
 have:=h w hw n;rw [Bool.eq_iff_iff,decide_eq_true_iff,decide_eq_true_iff] at this;exact propext this
theorem not_asks (m:aq) (w:UInt8) (h:w ∈ ([1,2,4,8,16,32]:List UInt8)):(w &&& ~~~ m.asks = 0) ↔ cA m w = true:=by
 have:=not_dec w h ⟨m.asks.toNat,m.asks.toNat_lt⟩;simp only [UInt8.ofNat_toNat] at this;unfold cA;rw [this,decide_eq_true_iff]
theorem big_dec:∀ n:Fin 256,decide (¬ UInt8.ofNat n.val &&& ~~~ 63 = 0) = decide (63 < UInt8.ofNat n.val):=by decide +kernel
theorem big_asks (x:UInt8):decide (¬ x &&& ~~~ 63 = 0) = decide (63 < x):=by
 have:=big_dec ⟨x.toNat,x.toNat_lt⟩
 simpa only [UInt8.ofNat_toNat] using this
theorem p48_dec:∀ n:Fin 256,decide (¬ UInt8.ofNat n.val &&& 48 = 0) = (decide (¬ UInt8.ofNat n.val &&& 16 = 0) || decide (¬ UInt8.ofNat n.val &&& 32 = 0)):=by decide +kernel
theorem asks48 (m:aq):cA m 48 = (cA m 16 || cA m 32):=by
 have:=p48_dec ⟨m.asks.toNat,m.asks.toNat_lt⟩;unfold cA
 simpa only [UInt8.ofNat_toNat] using this
theorem lR (c:Bool) (f h:UInt8) (m:aq) (hf:f ∈ ([1,2,4,8,16,32]:List UInt8)):decide (¬ kV c f h &&& ~~~ m.asks = 0) = ((!cA m f && c) || decide (¬ h &&& ~~~ m.asks = 0)):=by
 have h1:=addF_and c f h (~~~ m.asks);have h2:=not_asks m f hf;rw [Bool.eq_iff_iff];rw [h2] at h1;cases c <;> cases hq:cA m f <;> rw [hq] at h1 <;> simp [h1]
theorem good3_of (m:aq) (h:cA m 16 = true ∨ cA m 32 = true→¬m.aC = 6→m.aC = 17) (hp:cA m 8 = false→m.aC = 0):vQ m = true:=by
 unfold vQ portsB
 by_cases p6:m.aC = 6 <;> by_cases p17:m.aC = 17 <;> cases h16:cA m 16 <;> cases h32:cA m 32 <;> cases h8:cA m 8 <;> simp_all
theorem has_bad (m:aq) (c1 c2 c3 c4 c5 c6:Bool):(decide (¬ m.asks &&& ~~~ 63 = 0) || decide (¬ kV c6 32 (kV c5 16 (kV c4 8 (kV c3 4 (kV c2 2 (kV c1 1 0))))) &&& ~~~ m.asks = 0)) =
 (decide (63 < m.asks) || (!cA m 1 && c1) || (!cA m 2 && c2) || (!cA m 4 && c3) || (!cA m 8 && c4) || (!cA m 16 && c5) || (!cA m 32 && c6)):=by
 rw [big_asks,lR _ _ _ _ (by decide),lR _ _ _ _ (by decide),lR _ _ _ _ (by decide),lR _ _ _ _ (by decide),lR _ _ _ _ (by decide),lR _ _ _ _ (by decide)];have e:decide (¬ (0:UInt8) &&& ~~~ m.asks = 0) = false:=by simp
 rw [e]
 ac_rfl
theorem z105:zI 105 fy:=kI
theorem check_ok (m:aq) (w:World):Gx.Calls Tryz.prog 91 #[aR.val m] w (bG w (I (ckM m))):=by
 refine en0 136 Tryz.func91 (fun _ _=>?_);refine sg (cons (box (E:=aR) (.t rfl) (fun b1=>?_)));refine ac (I 0) ?_;refine nP (sg (ac (U8 0) ?_));refine nP (cut (X:=UInt8) (fun x=>(x = kV (!decide (m.in_ = fy.zero)) 1 0)) (fun x=>[dz,(1,true,pvb b1),(3,true,U8 x)]) (fun x=>[Var b1 aR m 109]) ?_ (fun x hx=>?_))
 ·refine sg (cf 1 rfl ?_);refine co (Ev.ldx m.in_ ve (.t rfl) aq.iH) ?_;refine co (Ev.bu (fs:=_) (places:=[(0,1),(1,1)]) z105 rfl Y105 zk .nil ay.nil) ?_;refine co (Ev.neqS rfl xx rfl zk (.t rfl) (.t rfl)) ?_;refine nP ?_;refine cnq rfl (fun h0=>?_) (fun h0=>?_)
  ·refine region (mv rfl (co (Ev.vE (.t rfl) (.c (v:=U8 1) rfl)) ?_));refine asn rfl (nP (mt (_) ?_))
   ·exact s20
  ·refine skip (pN (mt (_) ?_))
   ·exact s20
 obtain ⟨k1,rfl⟩:∃ y,y = x:=⟨x,rfl⟩;have hk1:k1 = kV (!decide (m.in_ = fy.zero)) 1 0:=hx;clear hx;refine cut (X:=UInt8) (fun x=>(x = kV (!decide (m.src = aM.zero)) 2 k1)) (fun x=>[dz,(1,true,pvb b1),(3,true,U8 x)]) (fun x=>[Var b1 aR m 109]) ?_ (fun x hx=>?_)
 ·refine sg (cf 3 rfl ?_);refine co (Ev.ldx m.src cB (.t rfl) aq.eF) ?_;refine co (Ev.bu (fs:=_) (places:=[(0,17),(17,1)]) mI rfl Y107 zk .nil ay.nil) ?_;refine co (Ev.neqS rfl nY rfl zk (.t rfl) (.t rfl)) ?_;refine nP ?_;refine cnq rfl (fun h1=>?_) (fun h1=>?_)
  ·refine region (mv rfl (co (Ev.vE (.t rfl) (.c (v:=U8 2) rfl)) ?_));refine asn rfl (nP (mt (_) ?_))
   ·exact s20
  ·refine skip (pN (mt (_) ?_))
   ·exact s20
 obtain ⟨k2,rfl⟩:∃ y,y = x:=⟨x,rfl⟩;have hk2:k2 = kV (!decide (m.src = aM.zero)) 2 k1:=hx;clear hx;refine cut (X:=UInt8) (fun x=>(x = kV (!decide (m.dst = aM.zero)) 4 k2)) (fun x=>[dz,(1,true,pvb b1),(3,true,U8 x)]) (fun x=>[Var b1 aR m 109]) ?_ (fun x hx=>?_)
 ·refine sg (cf 21 rfl ?_);refine co (Ev.ldx m.dst cB (.t rfl) aq.fx) ?_;refine co (Ev.bu (fs:=_) (places:=[(0,17),(17,1)]) mI rfl Y107 zk .nil ay.nil) ?_;refine co (Ev.neqS rfl nY rfl zk (.t rfl) (.t rfl)) ?_;refine nP ?_;refine cnq rfl (fun h2=>?_) (fun h2=>?_)
  ·refine region (mv rfl (co (Ev.vE (.t rfl) (.c (v:=U8 4) rfl)) ?_));refine asn rfl (nP (mt (_) ?_))
   ·exact s20
  ·refine skip (pN (mt (_) ?_))
   ·exact s20
 obtain ⟨k3,rfl⟩:∃ y,y = x:=⟨x,rfl⟩;have hk3:k3 = kV (!decide (m.dst = aM.zero)) 4 k2:=hx;clear hx;refine cut (X:=UInt8) (fun x=>(x = kV (decide (¬ m.aC = 0)) 8 k3)) (fun x=>[dz,(1,true,pvb b1),(3,true,U8 x)]) (fun x=>[Var b1 aR m 109]) ?_ (fun x hx=>?_)
 ·refine sg (cf 39 rfl ?_);refine co (Ev.ldx m.aC ty5 (.t rfl) aq.bS) ?_;refine co (Ev.lu (.t rfl) (.c (v:=U8 0) rfl)) ?_;refine nP ?_;refine cnq rfl (fun h3=>?_) (fun h3=>?_)
  ·refine region (mv rfl (co (Ev.vE (.t rfl) (.c (v:=U8 8) rfl)) ?_));refine asn rfl (nP (mt (_) ?_))
   ·exact s20
  ·refine skip (pN (mt (_) ?_))
   ·exact s20
 obtain ⟨k4,rfl⟩:∃ y,y = x:=⟨x,rfl⟩;have hk4:k4 = kV (decide (¬ m.aC = 0)) 8 k3:=hx;clear hx;refine cut (X:=UInt8) (fun x=>(x = kV (!decide (m.bB = fy.zero)) 16 k4)) (fun x=>[dz,(1,true,pvb b1),(3,true,U8 x)]) (fun x=>[Var b1 aR m 109]) ?_ (fun x hx=>?_)
 ·refine sg (cf 40 rfl ?_);refine co (Ev.ldx m.bB ve (.t rfl) aq.cS) ?_;refine co (Ev.bu (fs:=_) (places:=[(0,1),(1,1)]) z105 rfl Y105 zk .nil ay.nil) ?_;refine co (Ev.neqS rfl xx rfl zk (.t rfl) (.t rfl)) ?_;refine nP ?_;refine cnq rfl (fun h4=>?_) (fun h4=>?_)
  ·refine region (mv rfl (co (Ev.vE (.t rfl) (.c (v:=U8 16) rfl)) ?_));refine asn rfl (nP (mt (_) ?_))
   ·exact s20
  ·refine skip (pN (mt (_) ?_))
   ·exact s20
 obtain ⟨k5,rfl⟩:∃ y,y = x:=⟨x,rfl⟩;have hk5:k5 = kV (!decide (m.bB = fy.zero)) 16 k4:=hx;clear hx;refine cut (X:=UInt8) (fun x=>(x = kV (!decide (m.bC = fy.zero)) 32 k5)) (fun x=>[dz,(1,true,pvb b1),(3,true,U8 x)]) (fun x=>[Var b1 aR m 109]) ?_ (fun x hx=>?_)
 ·refine sg (cf 42 rfl ?_);refine co (Ev.ldx m.bC ve (.t rfl) aq.cT) ?_;refine co (Ev.bu (fs:=_) (places:=[(0,1),(1,1)]) z105 rfl Y105 zk .nil ay.nil) ?_;refine co (Ev.neqS rfl xx rfl zk (.t rfl) (.t rfl)) ?_;refine nP ?_;refine cnq rfl (fun h5=>?_) (fun h5=>?_)
  ·refine region (mv rfl (co (Ev.vE (.t rfl) (.c (v:=U8 32) rfl)) ?_));refine asn rfl (nP (mt (_) ?_))
   ·exact s20
  ·refine skip (pN (mt (_) ?_))
   ·exact s20
 obtain ⟨k6,rfl⟩:∃ y,y = x:=⟨x,rfl⟩;have hk6:k6 = kV (!decide (m.bC = fy.zero)) 32 k5:=hx;clear hx;refine sg (mv rfl (cf 0 rfl ?_));refine co (Ev.ldx m.asks ty5 (.t rfl) aq.xg) ?_;refine co (Ev.wi (.t rfl) (.t rfl)) ?_;refine asn rfl (nP (sg (co (Ev.ldx m fY (.t rfl) (ah.id _)) ?_)));refine cons (aQ eN (.cons (.t rfl) (.cons (.c (v:=U8 48) rfl) .nil)) (fun w I=>iP _ _ w) ?_);refine asn rfl (nP (seq (block (sg ?_))));have hhb:=has_bad m (!decide (m.in_ = fy.zero)) (!decide (m.src = aM.zero)) (!decide (m.dst = aM.zero)) (decide (¬ m.aC = 0)) (!decide (m.bB = fy.zero)) (!decide (m.bC = fy.zero));rw [← hk1,← hk2,← hk3,← hk4,← hk5,← hk6] at hhb;refine cf 0 rfl ?_;refine co (Ev.ldx m.asks ty5 (.t rfl) aq.xg) ?_;refine co (Ev.wi (.t rfl) (.c (v:=U8 63) rfl)) ?_;refine co (Ev.lu (.t rfl) (.c (v:=U8 0) rfl)) ?_;refine mv rfl (cg rfl rfl (Ev.move (.t rfl)) ?_);refine cg rfl rfl (Ev.lu (.g rfl id) (.c (v:=U8 0) rfl)) ?_;refine co (Ev.pkO (.t rfl) rfl) ?_;refine asn rfl (nP ?_);refine cnq rfl (fun h6=>?_) (fun h6=>?_)
 ·refine sg (ac (I 190) ?_);refine nP (ret (bR (pR (dn rfl rfl ?_))));have hb:bad0 m = true:=hhb.symm.trans h6;unfold ckM okM; rw [hb]; rfl
 ·refine sg (cf 1 rfl ?_);refine cf 0 rfl ?_;refine co (Ev.ldx m.in_.from_ iW (.t rfl) (ah.comp aq.iH bM.nU)) ?_;refine cf 1 rfl ?_;refine cf 1 rfl ?_;refine co (Ev.ldx m.in_.to_ iW (.t rfl) (ah.comp aq.iH bM.lj)) ?_;refine co (Ev.so (.t rfl) (.t rfl)) ?_;refine mv rfl (cg rfl rfl (fA 1 (.t rfl)) ?_);refine cg rfl rfl (fA 1 (.g rfl id)) ?_;refine cg rfl rfl (Ev.ldx m.in_.to_ iW (.g rfl id) (ah.comp aq.iH bM.lj)) ?_;refine cg rfl rfl (Ev.so (.g rfl id) (.c (v:=U16 255) rfl)) ?_;refine co (Ev.pkO (.t rfl) rfl) ?_;refine mv rfl (cg rfl rfl (fA 40 (.t rfl)) ?_);refine cg rfl rfl (fA 0 (.g rfl id)) ?_;refine cg rfl rfl (Ev.ldx m.bB.from_ iW (.g rfl id) (ah.comp aq.cS bM.nU)) ?_;refine cg rfl rfl (fA 40 (.t rfl)) ?_;refine cg rfl rfl (fA 1 (.g rfl id)) ?_;refine cg rfl rfl (Ev.ldx m.bB.to_ iW (.g rfl id) (ah.comp aq.cS bM.lj)) ?_;refine cg rfl rfl (Ev.so (.g rfl id) (.g rfl id)) ?_;refine co (Ev.pkO (.t rfl) rfl) ?_;refine mv rfl (cg rfl rfl (fA 42 (.t rfl)) ?_);refine cg rfl rfl (fA 0 (.g rfl id)) ?_;refine cg rfl rfl (Ev.ldx m.bC.from_ iW (.g rfl id) (ah.comp aq.cT bM.nU)) ?_;refine cg rfl rfl (fA 42 (.t rfl)) ?_;refine cg rfl rfl (fA 1 (.g rfl id)) ?_;refine cg rfl rfl (Ev.ldx m.bC.to_ iW (.g rfl id) (ah.comp aq.cT bM.lj)) ?_;refine cg rfl rfl (Ev.so (.g rfl id) (.g rfl id)) ?_;refine co (Ev.pkO (.t rfl) rfl) ?_;refine asn rfl (nP ?_);refine cnq rfl (fun h7=>?_) (fun h7=>?_)
  ·refine sg (ac (I 190) ?_);refine nP (ret (bR (pR (dn rfl rfl ?_))));have hb:bad1 m = true:=h7;unfold ckM okM; rw [hb]; simp [jY]
  ·refine sg (co (Ev.ldx m fY (.t rfl) (ah.id _)) ?_);refine cons (aQ eN (.cons (.t rfl) (.cons (.c (v:=U8 2) rfl) .nil)) (fun w I=>iP _ _ w) ?_);refine mv rfl (cg rfl rfl (fA 3 (.t rfl)) ?_);refine cg rfl rfl (Ev.ldx m.src cB (.g rfl id) aq.eF) ?_;refine cons (iM rfl rfl eN (.cons (.g rfl id) .nil) (fun hg w I=>jh _ w) ?_);refine cg rfl rfl (Ev.dS (.g rfl id) (.c rfl)) ?_;refine co (Ev.pkA (.t rfl) rfl) ?_;refine mv rfl (cg rfl rfl (Ev.ldx m fY (.t rfl) (ah.id _)) ?_);refine cons (iM rfl rfl eN (.cons (.g rfl id) (.cons (.c (v:=U8 4) rfl) .nil)) (fun hg w I=>iP _ _ w) ?_);refine cg rfl rfl (Ev.move (.g rfl id)) ?_;refine cg rfl rfl (fA 21 (.t rfl)) ?_;refine cg rfl rfl (Ev.ldx m.dst cB (.g rfl id) aq.fx) ?_;refine cons (iM rfl rfl eN (.cons (.g rfl id) .nil) (fun hg w I=>jh _ w) ?_);refine cg rfl rfl (Ev.dS (.g rfl id) (.c rfl)) ?_;refine cg rfl rfl (Ev.pkA (.g rfl id) rfl) ?_;refine co (Ev.pkO (.t rfl) rfl) ?_;refine asn rfl (nP ?_);refine cnq rfl (fun h8=>?_) (fun h8=>?_)
   ·refine sg (ac (I 190) ?_);refine nP (ret (bR (pR (dn rfl rfl ?_))));have hb:bad2 m = true:=by unfold bad2; simp only [Bool.or_eq_true] at h8 ⊢; left; simpa using h8
    unfold ckM okM; rw [hb]; simp [jY]
   ·refine sg (co (Ev.ldx m fY (.t rfl) (ah.id _)) ?_);refine cons (aQ eN (.cons (.t rfl) (.cons (.c (v:=U8 2) rfl) .nil)) (fun w I=>iP _ _ w) ?_);refine mv rfl (cg rfl rfl (Ev.ldx m fY (.t rfl) (ah.id _)) ?_);refine cons (iM rfl rfl eN (.cons (.g rfl id) (.cons (.c (v:=U8 4) rfl) .nil)) (fun hg w I=>iP _ _ w) ?_);refine co (Ev.pkA (.t rfl) rfl) ?_;refine mv rfl (cg rfl rfl (fA 3 (.t rfl)) ?_);refine cg rfl rfl (fA 0 (.g rfl id)) ?_;refine cg rfl rfl (fA 0 (.g rfl id)) ?_;refine cg rfl rfl (Ev.ldx m.src.addr.v6 ty4 (.g rfl id) (ah.comp (ah.comp aq.eF ae.eH) aG.jP)) ?_;refine cg rfl rfl (fA 21 (.t rfl)) ?_;refine cg rfl rfl (fA 0 (.g rfl id)) ?_;refine cg rfl rfl (fA 0 (.g rfl id)) ?_;refine cg rfl rfl (Ev.ldx m.dst.addr.v6 ty4 (.g rfl id) (ah.comp (ah.comp aq.fx ae.eH) aG.jP)) ?_;refine cg rfl rfl (Ev.neq_b Y4 (.g rfl id) (.g rfl id)) ?_;refine co (Ev.pkA (.t rfl) rfl) ?_;refine asn rfl (nP ?_);refine cnq rfl (fun h9=>?_) (fun h9=>?_)
    ·refine sg (ac (I 190) ?_);refine nP (ret (bR (pR (dn rfl rfl ?_))));have hb:bad2 m = true:=by unfold bad2; simp only [Bool.or_eq_true] at h9 ⊢; right; exact h9
     unfold ckM okM; rw [hb]; simp [jY]
    ·refine sg (mv rfl (mv rfl (cg rfl rfl (fA 39 (.t rfl)) ?_)));refine cg rfl rfl (Ev.ldx m.aC ty5 (.g rfl id) aq.bS) ?_;refine cg rfl rfl (Ev.lu (.g rfl id) (.c (v:=U8 6) rfl)) ?_;refine co (Ev.pkA (.t rfl) rfl) ?_;refine mv rfl (cg rfl rfl (fA 39 (.t rfl)) ?_);refine cg rfl rfl (Ev.ldx m.aC ty5 (.g rfl id) aq.bS) ?_;refine cg rfl rfl (Ev.lu (.g rfl id) (.c (v:=U8 17) rfl)) ?_;refine co (Ev.pkA (.t rfl) rfl) ?_;refine asn rfl (nP ?_);refine cnq rfl (fun h10=>?_) (fun h10=>?_)
     ·refine sg (ac (I 190) ?_);refine nP (ret (bR (pR (dn rfl rfl ?_))));have hb:vQ m = false:=by
       rw [asks48] at h10;simp at h10;obtain ⟨⟨ha,hb6⟩,hb17⟩:=h10;unfold vQ portsB;simp [hb6,hb17];intro h16
       simpa [h16] using ha
      unfold ckM okM; rw [hb]; simp [jY]
     ·refine skip (bN (pN (sg (ac (I 0) ?_))));refine nP (ret (dn rfl rfl ?_));have b0:bad0 m = false:=hhb.symm.trans h6;have b1:bad1 m = false:=h7;have b2:bad2 m = false:=by
       unfold bad2;simp at h8 h9 ⊢;exact ⟨h8,h9⟩
      have hp:cA m 8 = false→m.aC = 0:=by
       unfold bad0 at b0;simp at b0;exact b0.1.1.2
      rw [asks48] at h10;have hg:vQ m = true:=good3_of m (by simpa using h10) hp;unfold ckM okM;rw [b0,b1,b2,hg]
      rfl
def inM (m:List (ByteArray × Int)) (s:ByteArray):Bool:=(cO eqs s m).isSome
def rn (l:CL) (r:aY):Bool:=if r.action = 3 then !vA l r.out else decide (¬ r.out = 0)
def gj (l:CL) (r:aY) (i:Int):Int:=if iD r.name = false then 201 else if (cO eqs r.name (lY l)).getD 0 < i then 2 else if okM r.eY = false then 190 else if r.action < 1 ∨ 4 < r.action then 2 else if rn l r = true then 5
 else if (r.iV ≠ ⟨#[]⟩ ∧ inM (l8 l) r.iV = false) ∨ (r.fS ≠ ⟨#[]⟩ ∧ inM (kE l) r.fS = false) then 210 else 0
def vq (n:Int):Bool:=decide (2 ≤ n ∧ n ≤ 1024 ∧ n.toNat &&& (n.toNat - 1) = 0)
def gG (l:CL) (m:az) (i:Int):Int:=if iD m.name = false then 201 else if (cO eqs m.name (kE l)).getD 0 < i then 2 else if vA l m.out = false then 5 else if vq m.room = false then 2 else 0
theorem mirror_ok (k:KB) (l:CL) (m:az) (i:Int) (w:World) (hk:j7 w k l) (hs:m.name.size ≤ 9223372036854775807):Gx.Calls Tryz.prog 116 #[bT.val k.k,bg.val m,I i] w (bG w (I (gG l m i))):=by
 refine en0 44 Tryz.func116 (fun _ _=>?_);refine sg (cons (box (E:=bT) (.t rfl) (fun b1=>?_)));refine cons (box (E:=bg) (.t rfl) (fun b2=>?_));refine ac (I 0) ?_;refine nP (seq (block (sg (cf 0 rfl ?_))));refine co (Ev.ldx m.name ty9 (.t rfl) az.fT) ?_;refine cons (aQ eN (o1 rfl) (fun w I=>wX _ w hs) ?_);refine co (Ev.not (.t rfl)) ?_;refine asn rfl (nP ?_);refine cnd rfl (fun h0=>?_) (fun h0=>?_)
 ·refine sg (ac (I 201) ?_);refine nP (ret (bR (pR (dn rfl rfl ?_))));unfold gG; rw [if_pos (by simpa using h0)]; rfl
 ·refine sg (cf 4 rfl ?_);refine co (Ev.ldv ty135 (.t rfl) aF.eu) ?_;refine cf 0 rfl ?_;refine co (Ev.ldx m.name ty9 (.t rfl) az.fT) ?_;refine co (Ev.se Y135 Y9 uT z3 (.t rfl) (.t rfl) (fun _=>(fun w I=>hk.xs.aV I.keeps))) ?_;refine mv rfl (co (Ev.cj (.t rfl) (.t rfl)) ?_);refine asn rfl (nP ?_);refine cnd rfl (fun h1=>?_) (fun h1=>?_)
  ·refine sg (ac (I 2) ?_);refine nP (ret (bR (pR (dn rfl rfl ?_))));unfold gG; rw [if_neg (by simpa using h0),if_pos (by simpa using h1)]; rfl
  ·refine sg (co (Ev.ldv ot (.t rfl) (ah.id _)) ?_);refine cf 1 rfl ?_;refine co (Ev.ldx m.out ty3 (.t rfl) az.jB) ?_;refine cons (aQ eN (o2 rfl rfl) (fun w I=>wN _ l _ w (hk.aV I.keeps)) ?_);refine co (Ev.not (.t rfl)) ?_;refine asn rfl (nP ?_);refine cnd rfl (fun h2=>?_) (fun h2=>?_)
   ·refine sg (ac (I 5) ?_);refine nP (ret (bR (pR (dn rfl rfl ?_))));unfold gG; rw [if_neg (by simpa using h0),if_neg (by simpa using h1),if_pos (by simpa using h2)]; rfl
   ·refine sg (cf 2 rfl ?_);refine co (Ev.ldx m.room ty3 (.t rfl) az.tL) ?_;refine co (Ev.cj (.t rfl) (.c rfl)) ?_;refine mv rfl (cg rfl rfl (fA 2 (.t rfl)) ?_);refine cg rfl rfl (Ev.ldx m.room ty3 (.g rfl id) az.tL) ?_;refine cg rfl rfl (Ev.ir (.g rfl id) (.c rfl)) ?_;refine co (Ev.pkO (.t rfl) rfl) ?_;refine mv rfl (cg rfl rfl (fA 2 (.t rfl)) ?_);refine cg rfl rfl (Ev.ldx m.room ty3 (.g rfl id) az.tL) ?_;refine cg rfl rfl (fA 2 (.t rfl)) ?_;refine cg rfl rfl (Ev.ldx m.room ty3 (.g rfl id) az.tL) ?_;refine cg rfl rfl (Ev.jV (.g rfl id) (.c rfl) (fun _=>by first | omega | (rename_i hg; simp at hg; omega))) ?_;refine cg rfl rfl (Ev.and_n (.g rfl id) (.g rfl id) (fun hg=>by simp at hg; omega) (fun hg=>by simp at hg; omega)) ?_;refine cg rfl rfl (Ev.dS (.g rfl id) (.c rfl)) ?_;refine co (Ev.pkO (.t rfl) rfl) ?_;refine asn rfl (nP ?_);refine cnq rfl (fun h3=>?_) (fun h3=>?_)
    ·refine sg (ac (I 2) ?_);refine nP (ret (bR (pR (dn rfl rfl ?_))));have hr:vq m.room = false:=by
      unfold vq;simp at h3 ⊢;intro h1 h2
      rcases h3 with (h3 | h3) | h3
      ·omega
      ·omega
      ·exact h3
     unfold gG; rw [if_neg (by simpa using h0),if_neg (by simpa using h1),if_neg (by simpa using h2),if_pos hr]; rfl
    ·refine skip (bN (pN (sg (ac (I 0) ?_))));refine nP (ret (dn rfl rfl ?_));have hr:vq m.room = true:=by
      unfold vq;simp at h3 ⊢;exact ⟨h3.1.1,h3.1.2,h3.2⟩
     unfold gG; rw [if_neg (by simpa using h0),if_neg (by simpa using h1),if_neg (by simpa using h2),if_neg (by rw [hr]; simp)]; rfl
theorem rule_ok (k:KB) (l:CL) (r:aY) (i:Int) (w:World) (hk:j7 w k l) (hs:r.name.size ≤ 9223372036854775807):Gx.Calls Tryz.prog 112 #[bT.val k.k,cy.val r,I i] w (bG w (I (gj l r i))):=by
 refine en0 83 Tryz.func112 (fun _ _=>?_);refine sg (cons (box (E:=bT) (.t rfl) (fun b1=>?_)));refine cons (box (E:=cy) (.t rfl) (fun b2=>?_));refine ac (I 0) ?_;refine nP (sg (cf 46 rfl ?_));refine co (Ev.ldx r.out ty3 (.t rfl) aY.jB) ?_;refine co (Ev.dO (.t rfl) (.c rfl)) ?_;refine asn rfl (nP (cut (X:=Bool) (fun x=>((!x) = rn l r)) (fun x=>[dz,(2,true,I i),(3,true,pvb b1),(4,true,pvb b2),(7,true,.bool x)]) (fun x=>[Var b2 cy r 111,Var b1 bT k.k 228]) ?_ (fun x hx=>?_)))
 ·refine sg (cf 45 rfl ?_);refine co (Ev.ldx r.action ty3 (.t rfl) aY.dM) ?_;refine co (Ev.dO (.t rfl) (.c rfl)) ?_;refine nP ?_;refine cnq rfl (fun h0=>?_) (fun h0=>?_)
  ·refine region (co (Ev.ldv ot (.t rfl) (ah.id _)) ?_);refine cf 46 rfl ?_;refine co (Ev.ldx r.out ty3 (.t rfl) aY.jB) ?_;refine cons (aQ eN (o2 rfl rfl) (fun w I=>wN _ l _ w (hk.aV I.keeps)) ?_);refine asn rfl (nP (mt (_) ?_))
   ·try dsimp only
    unfold rn; simp_all
  ·refine skip (pN (mt (_) ?_))
   ·try dsimp only
    unfold rn; simp_all
 obtain ⟨out,rfl⟩:∃ y,y = x:=⟨x,rfl⟩;have hout:(!out) = rn l r:=hx;clear hx;refine sg (cf 3 rfl ?_);refine co (Ev.ldv ty135 (.t rfl) aF.fh) ?_;refine cf 47 rfl ?_;refine co (Ev.ldx r.iV ty9 (.t rfl) aY.jq) ?_;refine co (Ev.l9 Y135 Y9 uT z3 (.t rfl) (.t rfl) (fun _=>(fun w I=>hk.ms.aV I.keeps))) ?_;refine mv rfl (cx rfl rfl (cx rfl rfl (asn rfl (asn rfl (nP (sg (cf 4 rfl ?_)))))));refine co (Ev.ldv ty135 (.t rfl) aF.eu) ?_;refine cf 48 rfl ?_;refine co (Ev.ldx r.fS ty9 (.t rfl) aY.gX) ?_;refine co (Ev.l9 Y135 Y9 uT z3 (.t rfl) (.t rfl) (fun _=>(fun w I=>hk.xs.aV I.keeps))) ?_;refine mv rfl (cx rfl rfl (cx rfl rfl (asn rfl (asn rfl (nP (seq (block (sg (cf 0 rfl ?_)))))))));refine co (Ev.ldx r.name ty9 (.t rfl) aY.fT) ?_;refine cons (aQ eN (o1 rfl) (fun w I=>wX _ w hs) ?_);refine co (Ev.not (.t rfl)) ?_;refine asn rfl (nP ?_);refine cnq rfl (fun h1=>?_) (fun h1=>?_)
 ·refine sg (ac (I 201) ?_);refine nP (ret (bR (pR (dn rfl rfl ?_))));have p1:iD r.name = false:=by simpa using h1
  unfold gj;rw [if_pos p1]
  rfl
 ·refine sg (cf 2 rfl ?_);refine co (Ev.ldv ty135 (.t rfl) aF.eJ) ?_;refine cf 0 rfl ?_;refine co (Ev.ldx r.name ty9 (.t rfl) aY.fT) ?_;refine co (Ev.se Y135 Y9 uT z3 (.t rfl) (.t rfl) (fun _=>(fun w I=>hk.us.aV I.keeps))) ?_;refine mv rfl (co (Ev.cj (.t rfl) (.t rfl)) ?_);refine asn rfl (nP ?_);refine cnq rfl (fun h2=>?_) (fun h2=>?_)
  ·refine sg (ac (I 2) ?_);refine nP (ret (bR (pR (dn rfl rfl ?_))));have n1:¬ (iD r.name = false):=by simpa using h1
   have p2:(cO eqs r.name (lY l)).getD 0 < i:=by simpa using h2
   unfold gj;rw [if_neg n1,if_pos p2]
   rfl
  ·refine sg (cf 1 rfl ?_);refine co (Ev.ldx r.eY fY (.t rfl) aY.tM) ?_;refine cons (aQ eN (o1 rfl) (fun w I=>check_ok _ w) ?_);refine co (Ev.dS (.t rfl) (.c rfl)) ?_;refine asn rfl (nP ?_);refine cnq rfl (fun h3=>?_) (fun h3=>?_)
   ·refine sg (ac (I 190) ?_);refine nP (ret (bR (pR (dn rfl rfl ?_))));have n1:¬ (iD r.name = false):=by simpa using h1
    have n2:¬ ((cO eqs r.name (lY l)).getD 0 < i):=by simpa using h2
    have p3:okM r.eY = false:=by
     have h3c:decide (ckM r.eY = 0) = false:=by simpa using h3
     rwa [lP] at h3c
    unfold gj;rw [if_neg n1,if_neg n2,if_pos p3]
    rfl
   ·refine sg (cf 45 rfl ?_);refine co (Ev.ldx r.action ty3 (.t rfl) aY.dM) ?_;refine co (Ev.cj (.t rfl) (.c rfl)) ?_;refine mv rfl (cg rfl rfl (fA 45 (.t rfl)) ?_);refine cg rfl rfl (Ev.ldx r.action ty3 (.g rfl id) aY.dM) ?_;refine cg rfl rfl (Ev.ir (.g rfl id) (.c rfl)) ?_;refine co (Ev.pkO (.t rfl) rfl) ?_;refine asn rfl (nP ?_);refine cnq rfl (fun h4=>?_) (fun h4=>?_)
    ·refine sg (ac (I 2) ?_);refine nP (ret (bR (pR (dn rfl rfl ?_))));have n1:¬ (iD r.name = false):=by simpa using h1
     have n2:¬ ((cO eqs r.name (lY l)).getD 0 < i):=by simpa using h2
     have n3:¬ okM r.eY = false:=by
      exact s83
     have p4:r.action < 1 ∨ 4 < r.action:=by simpa using h4
     unfold gj;rw [if_neg n1,if_neg n2,if_neg n3,if_pos p4]
     rfl
    ·refine sg (mv rfl (co (Ev.not (.t rfl)) ?_));refine asn rfl (nP ?_);refine cnq rfl (fun h5=>?_) (fun h5=>?_)
     ·refine sg (ac (I 5) ?_);refine nP (ret (bR (pR (dn rfl rfl ?_))));have n1:¬ (iD r.name = false):=by simpa using h1
      have n2:¬ ((cO eqs r.name (lY l)).getD 0 < i):=by simpa using h2
      have n3:¬ okM r.eY = false:=by
       exact s83
      have n4:¬ (r.action < 1 ∨ 4 < r.action):=by simpa using h4
      have p5:rn l r = true:=by
       rw [← hout]; simpa using h5
      unfold gj;rw [if_neg n1,if_neg n2,if_neg n3,if_neg n4,if_pos p5]
      rfl
     ·refine seq (sg (cf 47 rfl ?_));refine co (Ev.ldx r.iV ty9 (.t rfl) aY.jq) ?_;refine co (Ev.neq_s (.t rfl) (.c (v:=(Go.Value.string (ByteArray.mk #[]))) rfl)) ?_;refine mv rfl (cg rfl rfl (Ev.move (.t rfl)) ?_);refine cg rfl rfl (Ev.not (.g rfl id)) ?_;refine co (Ev.pkA (.t rfl) rfl) ?_;refine asn rfl (nP ?_);refine cnq rfl (fun h6=>?_) (fun h6=>?_)
      ·refine skip (pN ?_);exact s5
      ·refine region (cf 48 rfl ?_);refine co (Ev.ldx r.fS ty9 (.t rfl) aY.gX) ?_;refine co (Ev.neq_s (.t rfl) (.c (v:=(Go.Value.string (ByteArray.mk #[]))) rfl)) ?_;refine mv rfl (cg rfl rfl (Ev.move (.t rfl)) ?_);refine cg rfl rfl (Ev.not (.g rfl id)) ?_;refine co (Ev.pkA (.t rfl) rfl) ?_;refine asn rfl (nP ?_);exact s5
structure aE where
 l:OV
 at_:Int
def aE.to:(OV × Int)→aE:=fun x=>⟨x.1,x.2⟩
def aE.of:aE→(OV × Int):=fun x=>(x.l,x.at_)
def dP:Enc aE:=gI (bh (ovE ai) iE) aE.to aE.of
def aE.l_l:ah dP (ovE ai) 0:=lI aE.to aE.of l1
@[simp] theorem aE.get_l (x:aE):aE.l_l.get x = x.l:=rfl
@[simp] theorem aE.set_l (x:aE) (y:OV):aE.l_l.set x y = { x with l:=y }:=rfl
def aE.eZ:ah dP iE 1:=lI aE.to aE.of (l2 (ah.id _))
@[simp] theorem aE.get_at_ (x:aE):aE.eZ.get x = x.at_:=rfl
@[simp] theorem aE.set_at_ (x:aE) (y:Int):aE.eZ.set x y = { x with at_:=y }:=rfl
structure cc where
 code:Int
 at_:Int
def cc.to:(Int × Int)→cc:=fun x=>⟨x.1,x.2⟩
def cc.of:cc→(Int × Int):=fun x=>(x.code,x.at_)
def cY:Enc cc:=gI (bh iE iE) cc.to cc.of
def cc.kK:ah cY iE 0:=lI cc.to cc.of l1
@[simp] theorem cc.set_code (x:cc) (y:Int):cc.kK.set x y = { x with code:=y }:=rfl
def cc.eZ:ah cY iE 1:=lI cc.to cc.of (l2 (ah.id _))
@[simp] theorem cc.set_at_ (x:cc) (y:Int):cc.eZ.set x y = { x with at_:=y }:=rfl
def dW (e:Nat→Int) (d:Int):Nat→List cc
 | 0=>[]
 | n + 1=>dW e d n ++ (if e n = 0 then [] else [⟨e n,d + n⟩])
theorem dK (e:Nat→Int) (d:Int):∀ n,(dW e d n).length ≤ n
 | 0=>Nat.le_refl _
 | n + 1=>by
   have:=dK e d n;unfold dW;rw [List.length_append];split <;> simp <;> omega
theorem rF {e:Nat→Int} {d i:Int} (h:0 ≤ i) (he:e i.toNat = 0):dW e d (i + 1).toNat = dW e d i.toNat:=by
 rw [show (i + 1).toNat = i.toNat + 1 by omega,dW,if_pos he,List.append_nil]
theorem p8 {e:Nat→Int} {d i:Int} (h:0 ≤ i) (he:¬ e i.toNat = 0):dW e d (i + 1).toNat = dW e d i.toNat ++ [⟨e i.toNat,d + i⟩]:=by
 rw [show (i + 1).toNat = i.toNat + 1 by omega,dW,if_neg he];have:((i.toNat:Nat):Int) = i:=by omega
 rw [this]
def cH (e:Nat→Int) (d:Int) (n ca:Nat):List cc:=dW e d (min n ca) ++ (if ca < n then [⟨4,d + ca⟩] else [])
abbrev FR (b:Nat) (o:OV) (fs:List cc) (d:Int):Res:=Sep (Var b dP ⟨o,d⟩ 232) (aT o.v cY fs 244)
theorem rC {α:Type} (l:List α) (m i:Nat) (d:α) (h:i < m):(l.take m).getD i d = l.getD i d:=by simp [List.getD,List.getElem?_take,h]
theorem iy:tyI 189 (ovE ai):=tyP
theorem jL:zI 244 cY:=kI
theorem il:tyI 244 cY:=tyP
theorem zb244:zbI 244 cY 16:=kB
theorem zs244:zsI cY:=zsP _
theorem list_3 (f:Nat) (fst cap:List Value) (g:Int→Int→Int) (D:Int→Int→Prop) (b:Nat) (o:OV) (fs:List cc) (d:Int) (u:Value) (xs:List Int) (ca:Nat) (w:World) (hen:Gx.cv Tryz.prog f) (h:At (FR b o fs d) w) (hxs:∀ w1,aJ (FR b o fs d).bQ w w1→aO iE w1 u xs) (hk:FnB2 Tryz.prog f fst cap (FR b o fs d).bQ w iE iE iE D g) (hD:∀ i:Nat,i < xs.length→D (xs.getD i iE.zero) i) (hd:0 ≤ d ∧ d + xs.length ≤ 4611686018427387904) (hf:fs.length + ca ≤ 100000):Gx.Calls Tryz.prog 107 #[.pointer (some ⟨b,0,none⟩),u,I ca,(bnd f fst cap).v] w (fV w (FR b o fs d) (fun _:OV=>True) (fun _=>.tuple #[]) (fun o2=>FR b o2 (fs ++ cH (fun j0:Nat=>g (xs.getD j0 iE.zero) j0) d xs.length ca) (d + xs.length))):=by
 obtain ⟨m,hm⟩:∃ m:Nat,(min (xs.length:Int) (ca:Int)) = (m:Int):=⟨min xs.length ca,by omega⟩;have hm2:m = min xs.length ca:=by omega
 have hle:=(hxs w (aJ.refl _ _)).le;have htl:(xs.take m).length = m:=by simp; omega
 refine enter 76 [FR b o fs d] Tryz.func107 rfl rfl (Nat.le_of_ble_eq_true rfl) (gU h) (fun _ _=>?_);refine lW Rem.head ?_;refine seq (sg (mv rfl (mv rfl (co (Ev.len Y22 (.t rfl) (fun w I=>hxs w I.keeps)) ?_))));refine mv rfl (co (Ev.to (v':=I ((m:Nat):Int)) (Ev.min_i (.t rfl) (.t rfl)) (by rw [hm])) ?_);refine co (Ev.qu Y22 ty3 (.t rfl) (.t rfl) (fun w I=>hxs w I.keeps) (fun _=>zo)) ?_;refine co (Ev.len Y22 (.t rfl) (fun w I=>by have:=(hxs w I.keeps).sub (l:=0) (k:=m) (by omega) (by omega); simpa using this)) ?_;refine co (Ev.move (.c rfl)) ?_;refine nP (block (lpo (X:=Int × OV) (fun x=>(0 ≤ x.1 ∧ x.1 ≤ m)) (fun x=>[dz,(0,true,pvb b),(1,true,u),(2,true,I ca),(3,true,(bnd f fst cap).v),(16,true,lD iE.size u 0 m),(17,true,I (xs.take m).length),(18,true,I x.1)]) (fun x=>[Var b dP ⟨x.2,d⟩ 232,aT x.2.v cY (fs ++ dW (fun j0:Nat=>g (xs.getD j0 iE.zero) j0) d x.1.toNat) 244]) (fun x=>((m:Int) - x.1).toNat) (0,o) (fun x hx=>?_) (hL:=(by simp only [show (0:Int).toNat = 0 from rfl,dW,List.append_nil]; repeat first | exact sR | exact sN | apply sC | apply sS | apply sA))));obtain ⟨i,q⟩:=x;dsimp only at hx;have hi:=hx;clear hx;refine sg (co (Ev.cj (.t rfl) (.t rfl)) ?_);refine nP (seq ?_);refine cnd rfl (fun h0=>?_) (fun h0=>?_)
 ·refine skip (pN (seq (block (sg (mv rfl (co (Ev.indexAddr Y22 ty3 (.t rfl) (.t rfl) (fun w I=>by have:=(hxs w I.keeps).sub (l:=0) (k:=m) (by omega) (by omega); simpa using this) (fun _=>by omega)) ?_))))));refine co (Ev.to (v':=iE.val (xs.getD i.toNat iE.zero)) (Ev.bV ty3 (.t rfl) (fun w I=>by have:=(hxs w I.keeps).sub (l:=0) (k:=m) (by omega) (by omega); simpa using this) (fun _=>by omega)) (congrArg iE.val (rC xs m i.toNat _ (by omega)))) ?_;refine asn rfl (asn rfl (nP (sg (mv rfl (mv rfl (mv rfl (cons (callbv (.t rfl) hen (.cons (.t rfl) (.cons (.t rfl) .nil)) (fun w I=>hk (xs.getD i.toNat iE.zero) i w (by have:=hD i.toNat (by omega); rwa [show ((i.toNat:Nat):Int) = i by omega] at this) I.keeps) ?_))))))));refine asn rfl (nP (sg (mv rfl (co (Ev.dS (.t rfl) (.c rfl)) ?_))));refine nP ?_;refine cnd rfl (fun h1=>?_) (fun h1=>?_)
  ·have ei:((i.toNat:Nat):Int) = i:=by omega
   have hst:=p8 (e:=(fun j0:Nat=>g (xs.getD j0 iE.zero) j0)) (d:=d) hi.1 (by (try dsimp only); rw [ei]; exact h1)
   (try dsimp only at hst)
   rw [ei] at hst;refine draw [] zk ?_;refine tm 0 rfl rfl ?_;refine tm 1 rfl rfl ?_;refine tn 2 rfl rfl ?_;refine tk 3 rfl (fA 0 (.t rfl)) ?_;refine tm 5 rfl rfl ?_;refine tm 6 rfl rfl ?_;refine tn 7 rfl rfl ?_;refine tk 8 rfl (fA 1 (.t rfl)) ?_;refine tm 10 rfl rfl ?_;refine all [4,9] zk (by decide) (.cons rfl ?_ (.cons rfl ?_ .nil))
   ·refine (opv (Ev.ldv iy (.t rfl) aE.l_l) ?_);refine hdn (al1 9 rfl ((opv (Ev.ldv ty3 (.t rfl) aE.eZ) ?_)));refine hdn (tk 11 rfl (Ev.bL (.t rfl) (.t rfl) (fun _=>by simp; omega)) ?_);refine tk 12 rfl (Ev.bu (fs:=_) (places:=[(0,1),(1,1)]) jL rfl Y244 zk (.cons (.t rfl) (.cons (.t rfl) .nil)) (ay.cons cc.kK rfl (ay.cons cc.eZ rfl ay.nil))) ?_;refine al1 13 rfl ((buildSlice (E:=cY) Y189 il jL (.cons (.t rfl) .nil) rfl rfl (fun v1=>?_)));exact s73
   ·refine (opv (Ev.ldv ty3 (.t rfl) aE.eZ) ?_);refine hdn (tk 11 rfl (Ev.bL (.t rfl) (.t rfl) (fun _=>by simp; omega)) ?_);refine tk 12 rfl (Ev.bu (fs:=_) (places:=[(0,1),(1,1)]) jL rfl Y244 zk (.cons (.t rfl) (.cons (.t rfl) .nil)) (ay.cons cc.kK rfl (ay.cons cc.eZ rfl ay.nil))) ?_;refine all [4,13] zk (by decide) (.cons rfl ?_ (.cons rfl ?_ .nil))
    ·refine (opv (Ev.ldv iy (.t rfl) aE.l_l) ?_);refine hdn (al1 13 rfl ((buildSlice (E:=cY) Y189 il jL (.cons (.t rfl) .nil) rfl rfl (fun v3=>?_))));exact s73
    ·refine (buildSlice (E:=cY) Y189 il jL (.cons (.t rfl) .nil) rfl rfl (fun v5=>?_));refine hdn (al1 4 rfl ((opv (Ev.ldv iy (.t rfl) aE.l_l) ?_)));exact s73
  ·have ei:((i.toNat:Nat):Int) = i:=by omega
   have hst:=rF (e:=(fun j0:Nat=>g (xs.getD j0 iE.zero) j0)) (d:=d) hi.1 (by (try dsimp only); rw [ei]; exact h1);exact s39
 ·refine exit (pX (pX (bX (pN (cut (X:=OV) (fun x=>True) (fun x=>[dz,(0,true,pvb b),(1,true,u)]) (fun x=>[Var b dP ⟨x,d⟩ 232,aT x.v cY (fs ++ cH (fun j0:Nat=>g (xs.getD j0 iE.zero) j0) d xs.length ca) 244]) ?_ (fun x hx=>?_))))))
  ·refine sg ?_;have him:i.toNat = m:=by omega
   rw [him];refine mv rfl (co (Ev.len Y22 (.t rfl) (fun w I=>hxs w I.keeps)) ?_);refine mv rfl (co (Ev.ir (.t rfl) (.t rfl)) ?_);refine nP ?_;refine cnd rfl (fun h2=>?_) (fun h2=>?_)
   ·refine draw [] zk ?_;refine tm 0 rfl rfl ?_;refine tm 1 rfl rfl ?_;refine tn 2 rfl rfl ?_;refine tk 3 rfl (fA 0 (.t rfl)) ?_;refine tm 5 rfl rfl ?_;refine tn 6 rfl rfl ?_;refine tk 7 rfl (fA 1 (.t rfl)) ?_;refine tm 9 rfl rfl ?_;refine all [4,8] zk (by decide) (.cons rfl ?_ (.cons rfl ?_ .nil))
    ·refine (opv (Ev.ldv iy (.t rfl) aE.l_l) ?_);refine hdn (al1 8 rfl ((opv (Ev.ldv ty3 (.t rfl) aE.eZ) ?_)));refine hdn (tk 10 rfl (Ev.bL (.t rfl) (.t rfl) (fun _=>by simp; omega)) ?_);refine tk 11 rfl (Ev.bu (fs:=_) (places:=[(0,1),(1,1)]) jL rfl Y244 zk (.cons (.c (v:=I 4) rfl) (.cons (.t rfl) .nil)) (ay.cons cc.kK rfl (ay.cons cc.eZ rfl ay.nil))) ?_;refine al1 12 rfl ((buildSlice (E:=cY) Y189 il jL (.cons (.t rfl) .nil) rfl rfl (fun v7=>?_)));exact s75
    ·refine (opv (Ev.ldv ty3 (.t rfl) aE.eZ) ?_);refine hdn (tk 10 rfl (Ev.bL (.t rfl) (.t rfl) (fun _=>by simp; omega)) ?_);refine tk 11 rfl (Ev.bu (fs:=_) (places:=[(0,1),(1,1)]) jL rfl Y244 zk (.cons (.c (v:=I 4) rfl) (.cons (.t rfl) .nil)) (ay.cons cc.kK rfl (ay.cons cc.eZ rfl ay.nil))) ?_;refine all [4,12] zk (by decide) (.cons rfl ?_ (.cons rfl ?_ .nil))
     ·refine (opv (Ev.ldv iy (.t rfl) aE.l_l) ?_);refine hdn (al1 12 rfl ((buildSlice (E:=cY) Y189 il jL (.cons (.t rfl) .nil) rfl rfl (fun v9=>?_))));exact s75
     ·refine (buildSlice (E:=cY) Y189 il jL (.cons (.t rfl) .nil) rfl rfl (fun v11=>?_));refine hdn (al1 4 rfl ((opv (Ev.ldv iy (.t rfl) aE.l_l) ?_)));exact s75
   ·exact s44
  obtain ⟨q2,rfl⟩:∃ y,y = x:=⟨x,rfl⟩;refine region (mv rfl (co (Ev.nilCheck (.t rfl)) ?_));refine cf 1 rfl ?_;refine co (Ev.ldv ty3 (.t rfl) aE.eZ) ?_;refine mv rfl (co (Ev.len Y22 (.t rfl) (fun w I=>hxs w I.keeps)) ?_);refine co (Ev.bL (.t rfl) (.t rfl) (fun _=>by simp; omega)) ?_;refine co (Ev.nilCheck (.t rfl)) ?_;refine cf 1 rfl ?_;refine cons (stv ty3 aE.eZ (.t rfl) (.t rfl) ?_);refine nil (rH rfl .nil (fun w I=>?_));exact mY (r':=fun o2=>FR b o2 (fs ++ cH (fun j0:Nat=>g (xs.getD j0 iE.zero) j0) d xs.length ca) (d + xs.length)) _ trivial rfl (List.mem_singleton_self _) w (aP.px (I.sub zs))
abbrev Flst {α:Type} (E:Enc α) (k:Nat):Prop:=∀ (f:Nat) (fst cap:List Value) (g:α→Int→Int) (D:α→Int→Prop) (b:Nat) (o:OV) (fs:List cc) (d:Int) (u:Value) (xs:List α) (ca:Nat) (w:World) (hen:Gx.cv Tryz.prog f) (h:At (FR b o fs d) w) (hxs:∀ w1,aJ (FR b o fs d).bQ w w1→aO E w1 u xs) (hk:FnB2 Tryz.prog f fst cap (FR b o fs d).bQ w E iE iE D g) (hD:∀ i:Nat,i < xs.length→D (xs.getD i E.zero) i) (hd:0 ≤ d ∧ d + xs.length ≤ 4611686018427387904) (hf:fs.length + ca ≤ 100000),Gx.Calls Tryz.prog k #[.pointer (some ⟨b,0,none⟩),u,I ca,(bnd f fst cap).v] w (fV w (FR b o fs d) (fun _:OV=>True) (fun _=>.tuple #[]) (fun o2=>FR b o2 (fs ++ cH (fun j0:Nat=>g (xs.getD j0 E.zero) j0) d xs.length ca) (d + xs.length)))
theorem flst {α:Type} {E:Enc α} {k ts te:Nat} {fn:Func} (hf:Tryz.prog.funcs[k]? = some fn) (hu:Tryz.prog.underlying ts = some (.slice te)) (T:ee Tryz.prog te E) (hz:(Tryz.prog.info? te).bind (·.zero) = some (E.val E.zero)) (hs:Nat.blt 0 E.size = true) (h:Tryz.prog.funcs[k]? = some fn→Tryz.prog.underlying ts = some (.slice te)→∀ E:Enc α,ee Tryz.prog te E→(Tryz.prog.info? te).bind (·.zero) = some (E.val E.zero)→Nat.blt 0 E.size = true→Flst E k:=by
 intro hfn hun E T hz hs f fst cap g D b o fs d u xs ca w hen h hxs hk hD hd hf;obtain ⟨m,hm⟩:∃ m:Nat,(min (xs.length:Int) (ca:Int)) = (m:Int):=⟨min xs.length ca,by omega⟩;have hm2:m = min xs.length ca:=by omega
 have hle:=(hxs w (aJ.refl _ _)).le;have htl:(xs.take m).length = m:=by simp; omega
 refine enter 76 [FR b o fs d] hfn rfl rfl (Nat.le_of_ble_eq_true rfl) (gU h) (fun _ _=>?_);refine lW Rem.head ?_;refine seq (sg (mv rfl (mv rfl (co (Ev.len hun (.t rfl) (fun w I=>hxs w I.keeps)) ?_))));refine mv rfl (co (Ev.to (v':=I ((m:Nat):Int)) (Ev.min_i (.t rfl) (.t rfl)) (by rw [hm])) ?_);refine co (Ev.qu hun T (.t rfl) (.t rfl) (fun w I=>hxs w I.keeps) (fun _=>zo)) ?_;refine co (Ev.len hun (.t rfl) (fun w I=>by have:=(hxs w I.keeps).sub (l:=0) (k:=m) (by omega) (by omega); simpa using this)) ?_;refine co (Ev.move (.c rfl)) ?_;refine nP (block (lpo (X:=Int × OV) (fun x=>(0 ≤ x.1 ∧ x.1 ≤ m)) (fun x=>[dz,(0,true,pvb b),(1,true,u),(2,true,I ca),(3,true,(bnd f fst cap).v),(16,true,lD E.size u 0 m),(17,true,I (xs.take m).length),(18,true,I x.1)]) (fun x=>[Var b dP ⟨x.2,d⟩ 232,aT x.2.v cY (fs ++ dW (fun j0:Nat=>g (xs.getD j0 E.zero) j0) d x.1.toNat) 244]) (fun x=>((m:Int) - x.1).toNat) (0,o) (fun x hx=>?_) (hL:=(by simp only [show (0:Int).toNat = 0 from rfl,dW,List.append_nil]; repeat first | exact sR | exact sN | apply sC | apply sS | apply sA))));obtain ⟨i,q⟩:=x;dsimp only at hx;have hi:=hx;clear hx;refine sg (co (Ev.cj (.t rfl) (.t rfl)) ?_);refine nP (seq ?_);refine cnd rfl (fun h0=>?_) (fun h0=>?_)
 ·refine skip (pN (seq (block (sg (mv rfl (co (Ev.indexAddr hun T (.t rfl) (.t rfl) (fun w I=>by have:=(hxs w I.keeps).sub (l:=0) (k:=m) (by omega) (by omega); simpa using this) (fun _=>by omega)) ?_))))));refine co (Ev.to (v':=E.val (xs.getD i.toNat E.zero)) (Ev.bV T (.t rfl) (fun w I=>by have:=(hxs w I.keeps).sub (l:=0) (k:=m) (by omega) (by omega); simpa using this) (fun _=>by omega)) (congrArg E.val (rC xs m i.toNat _ (by omega)))) ?_;refine cons (alloc hz (fun b1=>?_));refine asn rfl (cons (stv T (ah.id _) (.t rfl) (.t rfl) ?_));refine nP (sg (mv rfl (co (Ev.ldv T (.t rfl) (ah.id _)) ?_)));refine mv rfl (cons (callbv (.t rfl) hen (.cons (.t rfl) (.cons (.t rfl) .nil)) (fun w I=>hk (xs.getD i.toNat E.zero) i w (by have:=hD i.toNat (by omega); rwa [show ((i.toNat:Nat):Int) = i by omega] at this) I.keeps) ?_));refine asn rfl (nP (sg (mv rfl (co (Ev.dS (.t rfl) (.c rfl)) ?_))));refine nP ?_;refine cnd rfl (fun h1=>?_) (fun h1=>?_)
  ·have ei:((i.toNat:Nat):Int) = i:=by omega
   have hst:=p8 (e:=(fun j0:Nat=>g (xs.getD j0 E.zero) j0)) (d:=d) hi.1 (by (try dsimp only); rw [ei]; exact h1)
   (try dsimp only at hst)
   rw [ei] at hst;refine draw [] zk ?_;refine tm 0 rfl rfl ?_;refine tm 1 rfl rfl ?_;refine tn 2 rfl rfl ?_;refine tk 3 rfl (fA 0 (.t rfl)) ?_;refine tm 5 rfl rfl ?_;refine tm 6 rfl rfl ?_;refine tn 7 rfl rfl ?_;refine tk 8 rfl (fA 1 (.t rfl)) ?_;refine tm 10 rfl rfl ?_;refine all [4,9] zk (by decide) (.cons rfl ?_ (.cons rfl ?_ .nil))
   ·refine (opv (Ev.ldv iy (.t rfl) aE.l_l) ?_);refine hdn (al1 9 rfl ((opv (Ev.ldv ty3 (.t rfl) aE.eZ) ?_)));refine hdn (tk 11 rfl (Ev.bL (.t rfl) (.t rfl) (fun _=>by simp; omega)) ?_);refine tk 12 rfl (Ev.bu (fs:=_) (places:=[(0,1),(1,1)]) jL rfl Y244 zk (.cons (.t rfl) (.cons (.t rfl) .nil)) (ay.cons cc.kK rfl (ay.cons cc.eZ rfl ay.nil))) ?_;refine al1 13 rfl ((buildSlice (E:=cY) Y189 il jL (.cons (.t rfl) .nil) rfl rfl (fun v2=>?_)));exact s72
   ·refine (opv (Ev.ldv ty3 (.t rfl) aE.eZ) ?_);refine hdn (tk 11 rfl (Ev.bL (.t rfl) (.t rfl) (fun _=>by simp; omega)) ?_);refine tk 12 rfl (Ev.bu (fs:=_) (places:=[(0,1),(1,1)]) jL rfl Y244 zk (.cons (.t rfl) (.cons (.t rfl) .nil)) (ay.cons cc.kK rfl (ay.cons cc.eZ rfl ay.nil))) ?_;refine all [4,13] zk (by decide) (.cons rfl ?_ (.cons rfl ?_ .nil))
    ·refine (opv (Ev.ldv iy (.t rfl) aE.l_l) ?_);refine hdn (al1 13 rfl ((buildSlice (E:=cY) Y189 il jL (.cons (.t rfl) .nil) rfl rfl (fun v4=>?_))));exact s72
    ·refine (buildSlice (E:=cY) Y189 il jL (.cons (.t rfl) .nil) rfl rfl (fun v6=>?_));refine hdn (al1 4 rfl ((opv (Ev.ldv iy (.t rfl) aE.l_l) ?_)));exact s72
  ·have ei:((i.toNat:Nat):Int) = i:=by omega
   have hst:=rF (e:=(fun j0:Nat=>g (xs.getD j0 E.zero) j0)) (d:=d) hi.1 (by (try dsimp only); rw [ei]; exact h1);exact s39
 ·refine exit (pX (pX (bX (pN (cut (X:=OV) (fun x=>True) (fun x=>[dz,(0,true,pvb b),(1,true,u)]) (fun x=>[Var b dP ⟨x,d⟩ 232,aT x.v cY (fs ++ cH (fun j0:Nat=>g (xs.getD j0 E.zero) j0) d xs.length ca) 244]) ?_ (fun x hx=>?_))))))
  ·refine sg ?_;have him:i.toNat = m:=by omega
   rw [him];refine mv rfl (co (Ev.len hun (.t rfl) (fun w I=>hxs w I.keeps)) ?_);refine mv rfl (co (Ev.ir (.t rfl) (.t rfl)) ?_);refine nP ?_;refine cnd rfl (fun h2=>?_) (fun h2=>?_)
   ·refine draw [] zk ?_;refine tm 0 rfl rfl ?_;refine tm 1 rfl rfl ?_;refine tn 2 rfl rfl ?_;refine tk 3 rfl (fA 0 (.t rfl)) ?_;refine tm 5 rfl rfl ?_;refine tn 6 rfl rfl ?_;refine tk 7 rfl (fA 1 (.t rfl)) ?_;refine tm 9 rfl rfl ?_;refine all [4,8] zk (by decide) (.cons rfl ?_ (.cons rfl ?_ .nil))
    ·refine (opv (Ev.ldv iy (.t rfl) aE.l_l) ?_);refine hdn (al1 8 rfl ((opv (Ev.ldv ty3 (.t rfl) aE.eZ) ?_)));refine hdn (tk 10 rfl (Ev.bL (.t rfl) (.t rfl) (fun _=>by simp; omega)) ?_);refine tk 11 rfl (Ev.bu (fs:=_) (places:=[(0,1),(1,1)]) jL rfl Y244 zk (.cons (.c (v:=I 4) rfl) (.cons (.t rfl) .nil)) (ay.cons cc.kK rfl (ay.cons cc.eZ rfl ay.nil))) ?_;refine al1 12 rfl ((buildSlice (E:=cY) Y189 il jL (.cons (.t rfl) .nil) rfl rfl (fun v8=>?_)));exact s74
    ·refine (opv (Ev.ldv ty3 (.t rfl) aE.eZ) ?_);refine hdn (tk 10 rfl (Ev.bL (.t rfl) (.t rfl) (fun _=>by simp; omega)) ?_);refine tk 11 rfl (Ev.bu (fs:=_) (places:=[(0,1),(1,1)]) jL rfl Y244 zk (.cons (.c (v:=I 4) rfl) (.cons (.t rfl) .nil)) (ay.cons cc.kK rfl (ay.cons cc.eZ rfl ay.nil))) ?_;refine all [4,12] zk (by decide) (.cons rfl ?_ (.cons rfl ?_ .nil))
     ·refine (opv (Ev.ldv iy (.t rfl) aE.l_l) ?_);refine hdn (al1 12 rfl ((buildSlice (E:=cY) Y189 il jL (.cons (.t rfl) .nil) rfl rfl (fun v10=>?_))));exact s74
     ·refine (buildSlice (E:=cY) Y189 il jL (.cons (.t rfl) .nil) rfl rfl (fun v12=>?_));refine hdn (al1 4 rfl ((opv (Ev.ldv iy (.t rfl) aE.l_l) ?_)));exact s74
   ·exact s44
  obtain ⟨q2,rfl⟩:∃ y,y = x:=⟨x,rfl⟩;refine region (mv rfl (co (Ev.nilCheck (.t rfl)) ?_));refine cf 1 rfl ?_;refine co (Ev.ldv ty3 (.t rfl) aE.eZ) ?_;refine mv rfl (co (Ev.len hun (.t rfl) (fun w I=>hxs w I.keeps)) ?_);refine co (Ev.bL (.t rfl) (.t rfl) (fun _=>by simp; omega)) ?_;refine co (Ev.nilCheck (.t rfl)) ?_;refine cf 1 rfl ?_;refine cons (stv ty3 aE.eZ (.t rfl) (.t rfl) ?_);refine nil (rH rfl .nil (fun w I=>?_));exact mY (r':=fun o2=>FR b o2 (fs ++ cH (fun j0:Nat=>g (xs.getD j0 E.zero) j0) d xs.length ca) (d + xs.length)) _ trivial rfl (List.mem_singleton_self _) w (aP.px (I.sub zs))):Flst E k:=h hf hu E T hz hs
theorem list_194:Flst aX 109:=flst Tryz.func109 Y23 kZ z194 rfl
theorem list_111:Flst cy 111:=flst Tryz.func111 Y24 q9 z111 rfl
theorem list_139:Flst bj 113:=flst Tryz.func113 Y25 sT z139 rfl
theorem list_141:Flst bg 115:=flst Tryz.func115 Y26 sQ z141 rfl
def nH (d:Int):Bool:=!(decide (d = 1) || decide (d = 2) || decide (d = 4))
theorem vW (d:Int):nH d = (decide (¬ d = 1) && decide (¬ d = 2) && decide (¬ d = 4)):=by
 unfold nH
 by_cases a:d = 1 <;> by_cases b:d = 2 <;> by_cases c:d = 4 <;> simp [a,b,c]
def lU (l:CL):List cc:=((((([] ++ cH (fun j0:Nat=>fH l.ps (l.ps.getD j0 iE.zero) j0) 0 l.ps.length 256) ++ cH (fun j0:Nat=>eb l (l.rs.getD j0 aX.zero) j0) (0 + (l.ps.length:Int)) l.rs.length 1024) ++ cH (fun j0:Nat=>gj l (l.us.getD j0 cy.zero) j0) ((0 + (l.ps.length:Int)) + (l.rs.length:Int)) l.us.length 256) ++ cH (fun j0:Nat=>jb l (l.ms.getD j0 bj.zero) j0) (((0 + (l.ps.length:Int)) + (l.rs.length:Int)) + (l.us.length:Int)) l.ms.length 64) ++ cH (fun j0:Nat=>gG l (l.xs.getD j0 bg.zero) j0) ((((0 + (l.ps.length:Int)) + (l.rs.length:Int)) + (l.us.length:Int)) + (l.ms.length:Int)) l.xs.length 16)
def o0 (l:CL) (d:Int):List cc:=lU l ++ (if nH d = true then [⟨2,(((((0 + (l.ps.length:Int)) + (l.rs.length:Int)) + (l.us.length:Int)) + (l.ms.length:Int)) + (l.xs.length:Int))⟩] else [])
theorem dG (e:Nat→Int) (d:Int) (n ca:Nat):(cH e d n ca).length ≤ ca + 1:=by
 have:=dK e d (min n ca);unfold cH;rw [List.length_append];split <;> simp <;> omega
theorem rf (l:CL):(lU l).length ≤ 1700:=by
 unfold lU;simp only [List.length_append,List.length_nil];have h0:=dG (fun j0:Nat=>fH l.ps (l.ps.getD j0 iE.zero) j0) 0 l.ps.length 256;have h1:=dG (fun j0:Nat=>eb l (l.rs.getD j0 aX.zero) j0) (0 + (l.ps.length:Int)) l.rs.length 1024;have h2:=dG (fun j0:Nat=>gj l (l.us.getD j0 cy.zero) j0) ((0 + (l.ps.length:Int)) + (l.rs.length:Int)) l.us.length 256;have h3:=dG (fun j0:Nat=>jb l (l.ms.getD j0 bj.zero) j0) (((0 + (l.ps.length:Int)) + (l.rs.length:Int)) + (l.us.length:Int)) l.ms.length 64;have h4:=dG (fun j0:Nat=>gG l (l.xs.getD j0 bg.zero) j0) ((((0 + (l.ps.length:Int)) + (l.rs.length:Int)) + (l.us.length:Int)) + (l.ms.length:Int)) l.xs.length 16;omega
structure CL.Names (l:CL):Prop where
 us:∀ x ∈ l.us,x.name.size ≤ 9223372036854775807
 ms:∀ x ∈ l.ms,x.name.size ≤ 9223372036854775807
 xs:∀ x ∈ l.xs,x.name.size ≤ 9223372036854775807
def CL.n (l:CL):Nat:=l.ps.length + l.rs.length + l.us.length + l.ms.length + l.xs.length
theorem sq {α:Type} (l:List α) (i:Nat) (d:α) (h:i < l.length):l.getD i d ∈ l:=by simp [List.getD,h]
theorem z232:zI 232 dP:=kI
theorem conf_check (c:aN) (l:CL) (w:World) (hc:eI w c l) (hn:l.Names) (hz:l.n ≤ 4611686018427387904):Gx.Calls Tryz.prog 82 #[cZ.val c] w (mE w cY (o0 l c.default) 244):=by
 unfold CL.n at hz;refine en0 69 Tryz.func82 (fun _ _=>?_);refine sg (cons (box (E:=cZ) (.t rfl) (fun b1=>?_)));refine ac (.slice none 0 0) ?_;refine nP (sg (co (Ev.ldv ph (.t rfl) (ah.id _)) ?_));refine cons (dB (X:=KB) (fun _=>True) (fun x=>bT.val x.k) (fun x=>x.R l) eN (o1 rfl) (fun w I=>tA _ l w (hc.aV I.keeps)) (fun kb _=>?_));refine cons (alloc z228 (fun b2=>?_));refine cons (stv ot (ah.id _) (.t rfl) (.t rfl) ?_);refine nP (sg (co (Ev.bu (fs:=_) (places:=[(0,1),(1,1)]) z232 rfl Tryz.underlying232 zk .nil ay.nil) ?_));refine cons (box (E:=dP) (.t rfl) (fun b3=>?_));refine asn rfl (nP (sg (dD cY 244 ?_)));refine px (r:=Var b3 dP ⟨ai,0⟩ 232) (s:=aT ai.v cY [] 244) (Rem.tail Rem.head) Rem.head ?_;refine mv rfl (cf 0 rfl ?_);refine co (Ev.ldv ty22 (.t rfl) aN.dE) ?_;refine co (Ev.makeFunc (f:=108) (.cons (.t rfl) .nil)) ?_;refine cons (lQ (X:=OV) (r:=FR b3 ai [] 0) (r':=fun o2=>FR b3 o2 (([] ++ cH (fun j0:Nat=>fH l.ps (l.ps.getD j0 iE.zero) j0) 0 l.ps.length 256)) (0 + (l.ps.length:Int))) (fun _=>True) (fun _=>.tuple #[]) (fun _=>Upd.head) List.mem_cons_self eN (.cons (.t rfl) (.cons (.t rfl) (.cons (.c (v:=I 256) rfl) (.cons (.t rfl) .nil)))) (fun w I=>list_3 108 [] [.pointer (some ⟨b1,0,none⟩)] (fH l.ps) (fun _ i=>0 ≤ i ∧ i < l.ps.length) b3 ai [] 0 _ l.ps 256 w eN (at_mem List.mem_cons_self w I) (fun w1 k1=>hc.ps.aV (I.but Rem.head k1).keeps) (fun p i w1 h1 k1=>port1_ok c l.ps b1 p i w1 (by have I1:=I.but Rem.head k1; exact br (by repeat first | exact mH | apply mT | apply mA) (ah.id _) w1 I1) (hc.ps.aV (I.but Rem.head k1).keeps) h1) (fun i hi=>by constructor <;> omega) (by constructor <;> omega) (by simp only [List.length_append,List.length_nil]; omega)) (fun o1 _=>?_));refine nP (sg (mv rfl (cf 1 rfl ?_)));refine co (Ev.ldv ty23 (.t rfl) aN.db) ?_
 refine co (Ev.ldv ot (.t rfl) (ah.id _)) ?_;refine co (Ev.nS (f:=110) (.cons (.t rfl) .nil) .nil) ?_;refine cons (lQ (X:=OV) (r:=FR b3 o1 ([] ++ cH (fun j0:Nat=>fH l.ps (l.ps.getD j0 iE.zero) j0) 0 l.ps.length 256) (0 + (l.ps.length:Int))) (r':=fun o2=>FR b3 o2 ((([] ++ cH (fun j0:Nat=>fH l.ps (l.ps.getD j0 iE.zero) j0) 0 l.ps.length 256) ++ cH (fun j0:Nat=>eb l (l.rs.getD j0 aX.zero) j0) (0 + (l.ps.length:Int)) l.rs.length 1024)) ((0 + (l.ps.length:Int)) + (l.rs.length:Int))) (fun _=>True) (fun _=>.tuple #[]) (fun _=>Upd.head) List.mem_cons_self eN (.cons (.t rfl) (.cons (.t rfl) (.cons (.c (v:=I 1024) rfl) (.cons (.t rfl) .nil)))) (fun w I=>list_194 110 [bT.val kb.k] [] (eb l) (fun _ _=>True) b3 o1 ([] ++ cH (fun j0:Nat=>fH l.ps (l.ps.getD j0 iE.zero) j0) 0 l.ps.length 256) (0 + (l.ps.length:Int)) _ l.rs 1024 w eN (at_mem List.mem_cons_self w I) (fun w1 k1=>hc.rs.aV (I.but Rem.head k1).keeps) (fun x i w1 h1 k1=>route_ok kb l x i w1 (lk (fun r hr=>by repeat first | exact List.mem_append_left _ hr | apply List.Mem.tail) w1 (I.but Rem.head k1))) (fun i hi=>trivial) (by constructor <;> omega) (by have:=dG (fun j0:Nat=>fH l.ps (l.ps.getD j0 iE.zero) j0) 0 l.ps.length 256; simp only [List.length_append,List.length_nil]; omega)) (fun o2 _=>?_));refine nP (sg (mv rfl (cf 2 rfl ?_)));refine co (Ev.ldv ty24 (.t rfl) aN.eJ) ?_;refine co (Ev.ldv ot (.t rfl) (ah.id _)) ?_;refine co (Ev.nS (f:=112) (.cons (.t rfl) .nil) .nil) ?_
 refine cons (lQ (X:=OV) (r:=FR b3 o2 (([] ++ cH (fun j0:Nat=>fH l.ps (l.ps.getD j0 iE.zero) j0) 0 l.ps.length 256) ++ cH (fun j0:Nat=>eb l (l.rs.getD j0 aX.zero) j0) (0 + (l.ps.length:Int)) l.rs.length 1024) ((0 + (l.ps.length:Int)) + (l.rs.length:Int))) (r':=fun o2=>FR b3 o2 (((([] ++ cH (fun j0:Nat=>fH l.ps (l.ps.getD j0 iE.zero) j0) 0 l.ps.length 256) ++ cH (fun j0:Nat=>eb l (l.rs.getD j0 aX.zero) j0) (0 + (l.ps.length:Int)) l.rs.length 1024) ++ cH (fun j0:Nat=>gj l (l.us.getD j0 cy.zero) j0) ((0 + (l.ps.length:Int)) + (l.rs.length:Int)) l.us.length 256)) (((0 + (l.ps.length:Int)) + (l.rs.length:Int)) + (l.us.length:Int))) (fun _=>True) (fun _=>.tuple #[]) (fun _=>Upd.head) List.mem_cons_self eN (.cons (.t rfl) (.cons (.t rfl) (.cons (.c (v:=I 256) rfl) (.cons (.t rfl) .nil)))) (fun w I=>list_111 112 [bT.val kb.k] [] (gj l) (fun x _=>x ∈ l.us) b3 o2 (([] ++ cH (fun j0:Nat=>fH l.ps (l.ps.getD j0 iE.zero) j0) 0 l.ps.length 256) ++ cH (fun j0:Nat=>eb l (l.rs.getD j0 aX.zero) j0) (0 + (l.ps.length:Int)) l.rs.length 1024) ((0 + (l.ps.length:Int)) + (l.rs.length:Int)) _ l.us 256 w eN (at_mem List.mem_cons_self w I) (fun w1 k1=>hc.us.aV (I.but Rem.head k1).keeps) (fun x i w1 h1 k1=>rule_ok kb l x i w1 (lk (fun r hr=>by repeat first | exact List.mem_append_left _ hr | apply List.Mem.tail) w1 (I.but Rem.head k1)) (hn.us x h1)) (fun i hi=>sq _ _ _ hi) (by constructor <;> omega) (by have:=dG (fun j0:Nat=>fH l.ps (l.ps.getD j0 iE.zero) j0) 0 l.ps.length 256; have:=dG (fun j0:Nat=>eb l (l.rs.getD j0 aX.zero) j0) (0 + (l.ps.length:Int)) l.rs.length 1024; simp only [List.length_append,List.length_nil]; omega)) (fun o3 _=>?_));refine nP (sg (mv rfl (cf 3 rfl ?_)));refine co (Ev.ldv ty25 (.t rfl) aN.fh) ?_;refine co (Ev.ldv ot (.t rfl) (ah.id _)) ?_
 refine co (Ev.nS (f:=114) (.cons (.t rfl) .nil) .nil) ?_
 refine cons (lQ (X:=OV) (r:=FR b3 o3 ((([] ++ cH (fun j0:Nat=>fH l.ps (l.ps.getD j0 iE.zero) j0) 0 l.ps.length 256) ++ cH (fun j0:Nat=>eb l (l.rs.getD j0 aX.zero) j0) (0 + (l.ps.length:Int)) l.rs.length 1024) ++ cH (fun j0:Nat=>gj l (l.us.getD j0 cy.zero) j0) ((0 + (l.ps.length:Int)) + (l.rs.length:Int)) l.us.length 256) (((0 + (l.ps.length:Int)) + (l.rs.length:Int)) + (l.us.length:Int))) (r':=fun o2=>FR b3 o2 ((((([] ++ cH (fun j0:Nat=>fH l.ps (l.ps.getD j0 iE.zero) j0) 0 l.ps.length 256) ++ cH (fun j0:Nat=>eb l (l.rs.getD j0 aX.zero) j0) (0 + (l.ps.length:Int)) l.rs.length 1024) ++ cH (fun j0:Nat=>gj l (l.us.getD j0 cy.zero) j0) ((0 + (l.ps.length:Int)) + (l.rs.length:Int)) l.us.length 256) ++ cH (fun j0:Nat=>jb l (l.ms.getD j0 bj.zero) j0) (((0 + (l.ps.length:Int)) + (l.rs.length:Int)) + (l.us.length:Int)) l.ms.length 64)) ((((0 + (l.ps.length:Int)) + (l.rs.length:Int)) + (l.us.length:Int)) + (l.ms.length:Int))) (fun _=>True) (fun _=>.tuple #[]) (fun _=>Upd.head) List.mem_cons_self eN (.cons (.t rfl) (.cons (.t rfl) (.cons (.c (v:=I 64) rfl) (.cons (.t rfl) .nil)))) (fun w I=>list_139 114 [bT.val kb.k] [] (jb l) (fun x _=>x ∈ l.ms) b3 o3 ((([] ++ cH (fun j0:Nat=>fH l.ps (l.ps.getD j0 iE.zero) j0) 0 l.ps.length 256) ++ cH (fun j0:Nat=>eb l (l.rs.getD j0 aX.zero) j0) (0 + (l.ps.length:Int)) l.rs.length 1024) ++ cH (fun j0:Nat=>gj l (l.us.getD j0 cy.zero) j0) ((0 + (l.ps.length:Int)) + (l.rs.length:Int)) l.us.length 256) (((0 + (l.ps.length:Int)) + (l.rs.length:Int)) + (l.us.length:Int)) _ l.ms 64 w eN (at_mem List.mem_cons_self w I) (fun w1 k1=>hc.ms.aV (I.but Rem.head k1).keeps) (fun x i w1 h1 k1=>meter_ok kb l x i w1 (lk (fun r hr=>by repeat first | exact List.mem_append_left _ hr | apply List.Mem.tail) w1 (I.but Rem.head k1)) (hn.ms x h1)) (fun i hi=>sq _ _ _ hi) (by constructor <;> omega) (by have:=dG (fun j0:Nat=>fH l.ps (l.ps.getD j0 iE.zero) j0) 0 l.ps.length 256; have:=dG (fun j0:Nat=>eb l (l.rs.getD j0 aX.zero) j0) (0 + (l.ps.length:Int)) l.rs.length 1024; have:=dG (fun j0:Nat=>gj l (l.us.getD j0 cy.zero) j0) ((0 + (l.ps.length:Int)) + (l.rs.length:Int)) l.us.length 256; simp only [List.length_append,List.length_nil]; omega)) (fun o4 _=>?_))
 refine nP (sg (mv rfl (cf 4 rfl ?_)));refine co (Ev.ldv ty26 (.t rfl) aN.eu) ?_;refine co (Ev.ldv ot (.t rfl) (ah.id _)) ?_;refine co (Ev.nS (f:=116) (.cons (.t rfl) .nil) .nil) ?_
 refine cons (lQ (X:=OV) (r:=FR b3 o4 (((([] ++ cH (fun j0:Nat=>fH l.ps (l.ps.getD j0 iE.zero) j0) 0 l.ps.length 256) ++ cH (fun j0:Nat=>eb l (l.rs.getD j0 aX.zero) j0) (0 + (l.ps.length:Int)) l.rs.length 1024) ++ cH (fun j0:Nat=>gj l (l.us.getD j0 cy.zero) j0) ((0 + (l.ps.length:Int)) + (l.rs.length:Int)) l.us.length 256) ++ cH (fun j0:Nat=>jb l (l.ms.getD j0 bj.zero) j0) (((0 + (l.ps.length:Int)) + (l.rs.length:Int)) + (l.us.length:Int)) l.ms.length 64) ((((0 + (l.ps.length:Int)) + (l.rs.length:Int)) + (l.us.length:Int)) + (l.ms.length:Int))) (r':=fun o2=>FR b3 o2 (((((([] ++ cH (fun j0:Nat=>fH l.ps (l.ps.getD j0 iE.zero) j0) 0 l.ps.length 256) ++ cH (fun j0:Nat=>eb l (l.rs.getD j0 aX.zero) j0) (0 + (l.ps.length:Int)) l.rs.length 1024) ++ cH (fun j0:Nat=>gj l (l.us.getD j0 cy.zero) j0) ((0 + (l.ps.length:Int)) + (l.rs.length:Int)) l.us.length 256) ++ cH (fun j0:Nat=>jb l (l.ms.getD j0 bj.zero) j0) (((0 + (l.ps.length:Int)) + (l.rs.length:Int)) + (l.us.length:Int)) l.ms.length 64) ++ cH (fun j0:Nat=>gG l (l.xs.getD j0 bg.zero) j0) ((((0 + (l.ps.length:Int)) + (l.rs.length:Int)) + (l.us.length:Int)) + (l.ms.length:Int)) l.xs.length 16)) (((((0 + (l.ps.length:Int)) + (l.rs.length:Int)) + (l.us.length:Int)) + (l.ms.length:Int)) + (l.xs.length:Int))) (fun _=>True) (fun _=>.tuple #[]) (fun _=>Upd.head) List.mem_cons_self eN (.cons (.t rfl) (.cons (.t rfl) (.cons (.c (v:=I 16) rfl) (.cons (.t rfl) .nil)))) (fun w I=>list_141 116 [bT.val kb.k] [] (gG l) (fun x _=>x ∈ l.xs) b3 o4 (((([] ++ cH (fun j0:Nat=>fH l.ps (l.ps.getD j0 iE.zero) j0) 0 l.ps.length 256) ++ cH (fun j0:Nat=>eb l (l.rs.getD j0 aX.zero) j0) (0 + (l.ps.length:Int)) l.rs.length 1024) ++ cH (fun j0:Nat=>gj l (l.us.getD j0 cy.zero) j0) ((0 + (l.ps.length:Int)) + (l.rs.length:Int)) l.us.length 256) ++ cH (fun j0:Nat=>jb l (l.ms.getD j0 bj.zero) j0) (((0 + (l.ps.length:Int)) + (l.rs.length:Int)) + (l.us.length:Int)) l.ms.length 64) ((((0 + (l.ps.length:Int)) + (l.rs.length:Int)) + (l.us.length:Int)) + (l.ms.length:Int)) _ l.xs 16 w eN (at_mem List.mem_cons_self w I) (fun w1 k1=>hc.xs.aV (I.but Rem.head k1).keeps) (fun x i w1 h1 k1=>mirror_ok kb l x i w1 (lk (fun r hr=>by repeat first | exact List.mem_append_left _ hr | apply List.Mem.tail) w1 (I.but Rem.head k1)) (hn.xs x h1)) (fun i hi=>sq _ _ _ hi) (by constructor <;> omega) (by have:=dG (fun j0:Nat=>fH l.ps (l.ps.getD j0 iE.zero) j0) 0 l.ps.length 256; have:=dG (fun j0:Nat=>eb l (l.rs.getD j0 aX.zero) j0) (0 + (l.ps.length:Int)) l.rs.length 1024; have:=dG (fun j0:Nat=>gj l (l.us.getD j0 cy.zero) j0) ((0 + (l.ps.length:Int)) + (l.rs.length:Int)) l.us.length 256; have:=dG (fun j0:Nat=>jb l (l.ms.getD j0 bj.zero) j0) (((0 + (l.ps.length:Int)) + (l.rs.length:Int)) + (l.us.length:Int)) l.ms.length 64; simp only [List.length_append,List.length_nil]; omega)) (fun o5 _=>?_))
 refine nP (cut (X:=OV) (fun x=>True) (fun x=>[dz,(4,true,pvb b3)]) (fun x=>[Var b3 dP ⟨x,(((((0 + (l.ps.length:Int)) + (l.rs.length:Int)) + (l.us.length:Int)) + (l.ms.length:Int)) + (l.xs.length:Int))⟩ 232,aT x.v cY (o0 l c.default) 244]) ?_ (fun x hx=>?_))
 ·refine sg (lW Rem.head ?_);refine cf 5 rfl ?_;refine co (Ev.ldv ty3 (.t rfl) aN.fQ) ?_;refine co (Ev.dS (.t rfl) (.c rfl)) ?_;refine mv rfl (cg rfl rfl (fA 5 (.t rfl)) ?_);refine cg rfl rfl (Ev.ldv ty3 (.g rfl id) aN.fQ) ?_;refine cg rfl rfl (Ev.dS (.g rfl id) (.c rfl)) ?_;refine co (Ev.pkA (.t rfl) rfl) ?_;refine mv rfl (cg rfl rfl (fA 5 (.t rfl)) ?_);refine cg rfl rfl (Ev.ldv ty3 (.g rfl id) aN.fQ) ?_;refine cg rfl rfl (Ev.dS (.g rfl id) (.c rfl)) ?_;refine co (Ev.pkA (.t rfl) rfl) ?_;refine nP ?_;refine cnq rfl (fun h0=>?_) (fun h0=>?_)
  ·have hdb:nH c.default = true:=(vW _).trans h0;refine draw [] zk ?_;refine tm 0 rfl rfl ?_;refine tm 1 rfl rfl ?_;refine tn 2 rfl rfl ?_;refine tk 3 rfl (fA 0 (.t rfl)) ?_;refine tm 5 rfl rfl ?_;refine tn 6 rfl rfl ?_;refine tk 7 rfl (fA 1 (.t rfl)) ?_;refine all [4,8] zk (by decide) (.cons rfl ?_ (.cons rfl ?_ .nil))
   ·refine (opv (Ev.ldv iy (.t rfl) aE.l_l) ?_);refine hdn (al1 8 rfl ((opv (Ev.ldv ty3 (.t rfl) aE.eZ) ?_)));refine hdn (tk 9 rfl (Ev.bu (fs:=_) (places:=[(0,1),(1,1)]) jL rfl Y244 zk (.cons (.c (v:=I 2) rfl) (.cons (.t rfl) .nil)) (ay.cons cc.kK rfl (ay.cons cc.eZ rfl ay.nil))) ?_);refine al1 10 rfl ((buildSlice (E:=cY) Y189 il jL (.cons (.t rfl) .nil) rfl rfl (fun v4=>?_)));exact s11
   ·refine (opv (Ev.ldv ty3 (.t rfl) aE.eZ) ?_);refine hdn (tk 9 rfl (Ev.bu (fs:=_) (places:=[(0,1),(1,1)]) jL rfl Y244 zk (.cons (.c (v:=I 2) rfl) (.cons (.t rfl) .nil)) (ay.cons cc.kK rfl (ay.cons cc.eZ rfl ay.nil))) ?_);refine all [4,10] zk (by decide) (.cons rfl ?_ (.cons rfl ?_ .nil))
    ·refine (opv (Ev.ldv iy (.t rfl) aE.l_l) ?_);refine hdn (al1 10 rfl ((buildSlice (E:=cY) Y189 il jL (.cons (.t rfl) .nil) rfl rfl (fun v6=>?_))));exact s11
    ·refine (buildSlice (E:=cY) Y189 il jL (.cons (.t rfl) .nil) rfl rfl (fun v8=>?_));refine hdn (al1 4 rfl ((opv (Ev.ldv iy (.t rfl) aE.l_l) ?_)));exact s11
  ·have hdb:¬ nH c.default = true:=by rw [show nH c.default = false from (vW _).trans h0]; exact Bool.false_ne_true
   refine skip (pN (mt (_) trivial (hL:=(by unfold o0; (first | rw [if_pos hdb] | rw [if_neg hdb,List.append_nil]); repeat first | exact sR | exact sN | apply sC | apply sS | apply sA))))
 obtain ⟨q,rfl⟩:∃ y,y = x:=⟨x,rfl⟩;refine sg (mv rfl (co (Ev.nilCheck (.t rfl)) ?_));refine cf 0 rfl ?_;refine co (Ev.ldv iy (.t rfl) aE.l_l) ?_;refine asn rfl (nP (ret (done rfl (.tmp rfl .nil) (oB zm ?_))))
 rfl
def og (l:CL) (d:Int):Bool:=decide (o0 l d = [])
theorem may_ok (c:aN) (l:CL) (w:World) (hc:eI w c l) (hn:l.Names) (hz:l.n ≤ 4611686018427387904):Gx.Calls Tryz.prog 40 #[cZ.val c] w (bG w (.bool (og l c.default))):=by
 refine en0 7 Tryz.func40 (fun _ _=>?_);refine sg (cons (box (E:=cZ) (.t rfl) (fun b1=>?_)));refine ac (.bool false) ?_;refine nP (sg (co (Ev.ldx c ph (.t rfl) (ah.id _)) ?_));refine cons (dY eN (o1 rfl) (fun w I=>conf_check c l w (hc.aV I.keeps) hn hz) (fun v2=>?_));refine co (Ev.len Y189 (.t rfl) zf) ?_;refine co (Ev.dO (.t rfl) (.c rfl)) ?_;refine asn rfl (nP (ret (dn rfl rfl ?_)));unfold og;refine congrArg Value.bool ?_;rw [Bool.eq_iff_iff,decide_eq_true_iff,decide_eq_true_iff,← List.length_eq_zero_iff];omega
end Go.Proofs.YtljifjflnakmoaaGreat
