/- Part. -/
import Derived.Test.YtgnmiaonbadbnaaGreatM2
set_option linter.unusedVariables false
set_option linter.defProp false
set_option linter.unusedSimpArgs false
set_option linter.unusedSectionVars false
set_option maxRecDepth 100000
set_option maxHeartbeats 2000000
namespace Go.Proofs.YtgnmiaonbadbnaaGreat
open Go Go.Gx
variable {e:Nat->Int} {n gV k:Nat} {α κ:Type} {q:κ->κ->Bool} {i:Int}
theorem se {d:Int} (h:pI e d n gV = []):n <= gV:=by
 simp_all [pI]
theorem CR {l:CL} {d:Int} (h:y3 l d = true):l.ps.length <= 256 /\ l.rs.length <= 1024 /\ l.us.length <= 256 /\ l.ms.length <= 64 /\ l.xs.length <= 16:=by
 have h:=(cM.1 (dF h)).1;have e5:=cM.1 h;have e4:=cM.1 e5.1;have e3:=cM.1 e4.1;have e2:=cM.1 e3.1;have e1:=cM.1 e2.1;exact ⟨se e1.2,se e2.2,se e3.2,se e4.2,se e5.2⟩
theorem zn {e:Nat->Int} {d:Int}:∀ {n:Nat},kv e d n = []->∀ i,i < n->e i = 0
 | 0,_,i,hi=>absurd hi (eC _)
 | n + 1,h,i,hi=>by
   obtain⟨h1,h2⟩:=cM.1 h
   by_cases hin:i < n
   ·exact zn h1 i hin
   grind
theorem wj {d:Int} (h:pI e d n gV = []):∀ i,i < n->e i = 0:=by
 grind [se,pI,Nat.min_eq_left,zn]
structure CL.Good (l:CL) (d:Int):Prop where
 ps:∀ i,i < l.ps.length->vy l.ps (l.ps.getD i iE.zero) i = 0
 rs:∀ i,i < l.rs.length->qm l (l.rs.getD i ez.zero) i = 0
 us:∀ i,i < l.us.length->tE l (l.us.getD i iK.zero) i = 0
 ms:∀ i,i < l.ms.length->uX l (l.ms.getD i eH.zero) i = 0
 xs:∀ i,i < l.xs.length->pG l (l.xs.getD i dL.zero) i = 0
 d:yy d = false
variable {d:Int} {l:CL}
theorem wh (h:y3 l d = true):l.Good d:=by
 have h0:=cM.1 (dF h);have e5:=cM.1 h0.1;have e4:=cM.1 e5.1;have e3:=cM.1 e4.1;have e2:=cM.1 e3.1;have e1:=cM.1 e2.1;refine ⟨wj e1.2,wj e2.2,wj e3.2,wj e4.2,wj e5.2,?_⟩
 grind
theorem yu {α κ:Type} {q:κ->κ->Bool} (hi:∀ x y,q x y = true ↔ x = y) (f:α->κ) (l:List α) (k:κ):∀ n,n <= l.length->gB q k (gM q f l n) = ((l.take n).findIdx? (λx=>q (f x) k)).map (λi:Nat=>(i:Int))
 | 0,_=>by rfl
 | n + 1,h=>by
   have hlt:n < l.length:=by omega
   have ih:=yu hi f l k n (by omega);have ihx:=yu hi f l (f l[n]) n (by omega);have e:l[n]? = some l[n]:=by simp
   have hlen:(l.take n).length = n:=by simp; omega
   rw [gM,e,iu hlt,List.findIdx?_append];simp only;cases hs:(gB q (f l[n]) (gM q f l n)).isSome with
   | true =>
     rw [if_pos rfl,ih];cases hk:(l.take n).findIdx? (λx=>q (f x) k) with
     | some i=>simp
     | none =>
       grind
   | false =>
     rw [if_neg cL,uB hi]
     grind
theorem TN (hi:∀ x y,q x y = true ↔ x = y) (f:α->κ) (l:List α) (k:κ):gB q k (gM q f l l.length) = (l.findIdx? (λx=>q (f x) k)).map (λi:Nat=>(i:Int)):=by
 grind [yu]
theorem X6 (hi:∀ x y,q x y = true ↔ x = y) (f:α->κ) (l:List α) (z:α) (i:Nat) (h:i < l.length):(gB q (f (l.getD i z)) (gM q f l l.length)).getD 0 = Ec (λx=>q (f x) (f (l.getD i z))) l:=by
 grind [TN,Ec]
abbrev akz (e:κ->κ->Bool):Prop:=∀ a b,e a b = true ↔ a = b
theorem Xv {p:α->Bool} {l:List α} {i:Nat} (h:i < l.length) (hp:p l[i] = true):0 <= Ec p l /\ Ec p l <= i:=by
 unfold Ec;cases e:l.findIdx? p with
 | none =>
   grind
 | some m =>
   obtain⟨h1,h2,h3⟩:=jU.1 e
   grind
theorem wc (hi:akz q) {f:α->κ} {l:List α} (z:α) (h:∀ i,i < l.length->¬ (gB q (f (l.getD i z)) (gM q f l l.length)).getD 0 < (i:Int)):(l.map f).Nodup:=by
 refine iB.2 λi j h1 h2 XA e=>?_
 have h1':i < l.length:=by simpa using h1
 have h2':j < l.length:=by simpa using h2
 have hj:=h j h2';rw [X6 hi f l z j h2'] at hj;have e2:l.getD j z = l[j]:=by simp [List.getD,h2']
 rw [e2] at hj;have:=(Xv (p:=λx=>q (f x) (f l[j])) h1' ((hi _ _).2 (by simpa using e))).2;omega
theorem HW {r:dk}:qm l r i = 0 ↔ gw r.qi = 0 /\ ES l r.out = true /\ ¬ (gB aw.nQ r.qi (BB l)).getD 0 < i:=by
 grind [qm]
theorem SI {r:bQ}:uX l r i = 0 ↔ qa r.name = true /\ ckB r.bucket = 0 /\ ¬ (gB eqs r.name (uW l)).getD 0 < i:=by
 unfold uX
 grind
theorem Pp {r:aZ}:pG l r i = 0 ↔ qa r.name = true /\ ES l r.out = true /\ abk r.room = true /\ ¬ (gB eqs r.name (sB l)).getD 0 < i:=by
 grind [pG]
def XN (h:l.Good d):(l.rs.map (·.qi)).Nodup:=wc aw.fJ ez.zero λi hi=>(HW.1 (h.rs i hi)).2.2
def XO (h:l.Good d):(l.ms.map (·.name)).Nodup:=wc rR eH.zero λi hi=>(SI.1 (h.ms i hi)).2.2
def XL (h:l.Good d):(l.xs.map (·.name)).Nodup:=wc rR dL.zero λi hi=>(Pp.1 (h.xs i hi)).2.2.2
def qM (k:Nat) (m:aN) (n:Int) (h:ae):Bool:=match k with
 | 0=>Bv m.ta n
 | 1=>decide (h.bz = m.bz)
 | 2=>vb m.src h.src
 | 3=>vb m.dst h.dst
 | 4=>Bv m.dD h.dD.toNat
 | _=>Bv m.dE h.dE.toNat
def fM (k:Nat):Nat:=([191,193,194,196,197,198]:List Nat).getD k 0
def AZ (c:Bool) (k:Nat) (l:List Nat):List Nat:=bif c then l ++ [k] else l
def ks (m:aN):List Nat:=AZ (fF m 32) 5 (AZ (fF m 16) 4 (AZ (fF m 4) 3 (AZ (fF m 2) 2 (AZ (fF m 8) 1 (AZ (fF m 1) 0 [])))))
def mQ (p:Nat) (l:List Nat):List OV:=l.map λk=>Bb (fM k) [.pointer (some ⟨p,0,none⟩)]
def yC (m:aN) (p:Nat):List OV:=mQ p (ks m)
theorem xd {c:Bool} {j:Nat} {l:List Nat} (h:j ∈ AZ c k l):j = k \/ j ∈ l:=by
 grind [AZ]
theorem afL {m:aN} (h:k ∈ ks m):k < 6:=by
 rcases xd h with rfl | h <;> (try omega)
 rcases xd h with rfl | h <;> (try omega)
 rcases xd h with rfl | h <;> (try omega)
 rcases xd h with rfl | h <;> (try omega)
 rcases xd h with rfl | h <;> (try omega)
 rcases xd h with rfl | h <;> (try omega)
 cases h
def D7 (m:aN) (n:Int) (h:ae):Bool:=(ks m).all λk=>qM k m n h
def ai1 (m:aN) (n:Int) (h:ae):Bool:=AW m && D7 m n h
theorem acr (m:aN) (n:Int) (h:ae) (p hp:Nat) (w:World) (hm:eK cU w p 0 m) (hh:eK bm w hp 0 h):aR 191 #[I n,.pointer (some ⟨hp,0,none⟩),.pointer (some ⟨p,0,none⟩)] w (dO w (.bool (qM 0 m n h))):=by
 refine iZ 10 Tryz.func191 (λ_ _=>?_);refine m12 ?_;refine sg ?_;refine m277 ?_;refine co (Ev.load Ex aa (jJ (λw I=>hm.keep I.keeps) aN.rF)) ?_;refine m27 ?_;refine dg eN (o2 rfl rfl) (λw I=>Eu _ _ w) ?_;refine m20 ?_
 rfl
theorem acp (m:aN) (n:Int) (h:ae) (p hp:Nat) (w:World) (hm:eK cU w p 0 m) (hh:eK bm w hp 0 h):aR 193 #[I n,.pointer (some ⟨hp,0,none⟩),.pointer (some ⟨p,0,none⟩)] w (dO w (.bool (qM 1 m n h))):=by
 refine iZ 13 Tryz.func193 (λ_ _=>?_);refine m12 ?_;refine seq ?_;refine m154 ?_;refine tk 2 rfl (fA 34 aa) ?_;refine tk 3 rfl (Ev.load jQ aa (jJ (λw I=>hh.keep I.keeps) ae.iF)) ?_;refine tk 4 rfl (fA 39 aa) ?_;refine tk 5 rfl (Ev.load jQ aa (jJ (λw I=>hm.keep I.keeps) aN.iF)) ?_;refine tk 6 rfl (Ev.Au aa aa) ?_;refine m285 ?_;refine m142 ?_;refine m123 ?_
 rfl
theorem aco (m:aN) (n:Int) (h:ae) (p hp:Nat) (w:World) (hm:eK cU w p 0 m) (hh:eK bm w hp 0 h):aR 194 #[I n,.pointer (some ⟨hp,0,none⟩),.pointer (some ⟨p,0,none⟩)] w (dO w (.bool (qM 2 m n h))):=by
 refine iZ 13 Tryz.func194 (λ_ _=>?_);refine m12 ?_;refine seq (o9 zk ?_);refine tk 0 rfl (fA 3 aa) ?_;refine tk 1 rfl (Ev.load kr aa (jJ (λw I=>hm.keep I.keeps) aN.mM)) ?_;refine m84 ?_;refine tk 4 rfl (fA 0 aa) ?_;refine tk 5 rfl (Ev.load mR aa (jJ (λw I=>hh.keep I.keeps) ae.mM)) ?_;exact s62
theorem acn (m:aN) (n:Int) (h:ae) (p hp:Nat) (w:World) (hm:eK cU w p 0 m) (hh:eK bm w hp 0 h):aR 196 #[I n,.pointer (some ⟨hp,0,none⟩),.pointer (some ⟨p,0,none⟩)] w (dO w (.bool (qM 3 m n h))):=by
 refine iZ 13 Tryz.func196 (λ_ _=>?_);refine m12 ?_;refine seq (o9 zk ?_);refine tk 0 rfl (fA 21 aa) ?_;refine tk 1 rfl (Ev.load kr aa (jJ (λw I=>hm.keep I.keeps) aN.nM)) ?_;refine m189 ?_;exact s62
theorem acm (m:aN) (n:Int) (h:ae) (p hp:Nat) (w:World) (hm:eK cU w p 0 m) (hh:eK bm w hp 0 h):aR 197 #[I n,.pointer (some ⟨hp,0,none⟩),.pointer (some ⟨p,0,none⟩)] w (dO w (.bool (qM 4 m n h))):=by
 refine iZ 14 Tryz.func197 (λ_ _=>?_);refine m12 ?_;refine seq (o9 zk ?_);refine tk 0 rfl (fA 40 aa) ?_;refine tk 1 rfl (Ev.load Ex aa (jJ (λw I=>hm.keep I.keeps) aN.gg)) ?_;refine m84 ?_;refine tk 4 rfl (fA 35 aa) ?_;refine tk 5 rfl (Ev.load qh aa (jJ (λw I=>hh.keep I.keeps) ae.gg)) ?_;exact s51
theorem ack (m:aN) (n:Int) (h:ae) (p hp:Nat) (w:World) (hm:eK cU w p 0 m) (hh:eK bm w hp 0 h):aR 198 #[I n,.pointer (some ⟨hp,0,none⟩),.pointer (some ⟨p,0,none⟩)] w (dO w (.bool (qM 5 m n h))):=by
 refine iZ 14 Tryz.func198 (λ_ _=>?_);refine m12 ?_;refine seq (o9 zk ?_);refine tk 0 rfl (fA 42 aa) ?_;refine tk 1 rfl (Ev.load Ex aa (jJ (λw I=>hm.keep I.keeps) aN.gk)) ?_;refine m84 ?_;refine tk 4 rfl (fA 36 aa) ?_;refine tk 5 rfl (Ev.load qh aa (jJ (λw I=>hh.keep I.keeps) ae.gk)) ?_;exact s51
theorem agR:∀ k,k < 6->Gx.dV Tryz.prog (fM k)
 | 0,_=>eN
 | 1,_=>eN
 | 2,_=>eN
 | 3,_=>eN
 | 4,_=>eN
 | 5,_=>eN
 | k + 6,h=>absurd h (by omega)
theorem agQ:∀ k,k < 6->∀ (m:aN) (n:Int) (h:ae) (p hp:Nat) (w:World) (hm:eK cU w p 0 m) (hh:eK bm w hp 0 h),aR (fM k) #[I n,.pointer (some ⟨hp,0,none⟩),.pointer (some ⟨p,0,none⟩)] w (dO w (.bool (qM k m n h)))
 | 0,_=>acr
 | 1,_=>acp
 | 2,_=>aco
 | 3,_=>acn
 | 4,_=>acm
 | 5,_=>ack
 | k + 6,h=>absurd h (by omega)
def tz:ot 363 (dJ iG):=oq
def Ox:zI 363 (dJ iG):=kI
def Es:DV 363 (dJ iG) 8:=kB
def Ep:Eo (dJ iG):=Hk _
theorem Ba (m:aN) (w:World):aR 137 #[cU.val m] w (nz w (λ_:OV × Nat=>True) (λx=>x.1.v) (λx=>[bY x.1.v (dJ iG) (yC m x.2) 363,Var x.2 cU m 199])):=by
 refine iZ 41 Tryz.func137 (λ_ _=>?_);refine m15 ?_;refine box aa (λb1=>?_);refine m98 ?_;refine m209 ?_;refine jf (dJ iG) 363 ?_;refine nP (cut (X:=OV × (List Nat)) (λx=>(x.2 = AZ (fF m 1) 0 []) /\ (x.2.length <= 1)) (λx=>[dz,(1,true,jc b1),(3,true,x.1.v)]) (λx=>[bY x.1.v (dJ iG) (mQ b1 x.2) 363,Var b1 cU m 199]) ?_ (λx hx=>?_))
 ·refine m42 ?_;refine dg eN (.cons aa (.cons (.c (v:=U8 1) rfl) .nil)) (λw I=>tT _ _ w) ?_;refine nP ?_;refine nG rfl (λh0=>?_) (λh0=>?_)
  ·refine m19 ?_;refine co (Ev.makeFunc (f:=191) (.cons aa .nil)) ?_;refine cons (buildSlice zO tz Ox (.cons aa .nil) rfl rfl (λv2=>?_));refine cons (app zO tz Es Ep aa aa (λv3=>?_) (hby:=⟨by ((show _ <= 9223372036854775807); simp; done),by simp⟩));refine vK rfl (nP (mt (_,[] ++ [0]) ⟨?_,?_⟩))
   ·grind [AZ,fF]
   simp
  ·refine skip (pN (mt (aM,[]) ⟨?_,?_⟩))
   ·grind [AZ,fF]
   simp
 obtain⟨o1,l1⟩:=x;dsimp only at hx;obtain⟨hl1,GL⟩:=hx;refine cut (X:=OV × (List Nat)) (λx=>(x.2 = AZ (fF m 8) 1 l1) /\ (x.2.length <= 2)) (λx=>[dz,(1,true,jc b1),(3,true,x.1.v)]) (λx=>[bY x.1.v (dJ iG) (mQ b1 x.2) 363,Var b1 cU m 199]) ?_ (λx hx=>?_)
 ·refine m42 ?_;refine dg eN (.cons aa (.cons (.c (v:=U8 8) rfl) .nil)) (λw I=>tT _ _ w) ?_;refine nP ?_;refine nG rfl (λh1=>?_) (λh1=>?_)
  ·refine m19 ?_;refine co (Ev.makeFunc (f:=193) (.cons aa .nil)) ?_;refine cons (buildSlice zO tz Ox (.cons aa .nil) rfl rfl (λv4=>?_));refine cons (app zO tz Es Ep aa aa (λv5=>?_) (hby:=⟨by first | ((show _ <= 9223372036854775807); simp; done) | ((show _ <= 9223372036854775807); simp [mQ]; omega),by grind [mQ]⟩));refine vK rfl (nP (mt (_,l1 ++ [1]) ⟨?_,?_⟩ (hL:=(by first | exact aY _ | (simp only [mQ,eF,dq,iD]; repeat first | exact aY _ | apply List.Sublist.cons_cons | apply List.Sublist.cons)))))
   ·grind [AZ,fF]
   grind
  ·refine skip (pN (mt _ ⟨?_,?_⟩))
   ·grind [AZ,fF]
   grind
 obtain⟨o2,l2⟩:=x;dsimp only at hx;obtain⟨hl2,BO⟩:=hx;refine cut (X:=OV × (List Nat)) (λx=>(x.2 = AZ (fF m 2) 2 l2) /\ (x.2.length <= 3)) (λx=>[dz,(1,true,jc b1),(3,true,x.1.v)]) (λx=>[bY x.1.v (dJ iG) (mQ b1 x.2) 363,Var b1 cU m 199]) ?_ (λx hx=>?_)
 ·refine m122 ?_;refine nP ?_;refine nG rfl (λh2=>?_) (λh2=>?_)
  ·refine m19 ?_;refine co (Ev.makeFunc (f:=194) (.cons aa .nil)) ?_;refine cons (buildSlice zO tz Ox (.cons aa .nil) rfl rfl (λv6=>?_));refine cons (app zO tz Es Ep aa aa (λv7=>?_) (hby:=⟨by first | ((show _ <= 9223372036854775807); simp; done) | ((show _ <= 9223372036854775807); simp [mQ]; omega),by grind [mQ]⟩));refine vK rfl (nP (mt (_,l2 ++ [2]) ⟨?_,?_⟩ (hL:=(by first | exact aY _ | (simp only [mQ,eF,dq,iD]; repeat first | exact aY _ | apply List.Sublist.cons_cons | apply List.Sublist.cons)))))
   ·grind [AZ,fF]
   grind
  ·refine skip (pN (mt _ ⟨?_,?_⟩))
   ·grind [AZ,fF]
   grind
 obtain⟨o3,l3⟩:=x;dsimp only at hx;obtain⟨hl3,ZM⟩:=hx;refine cut (X:=OV × (List Nat)) (λx=>(x.2 = AZ (fF m 4) 3 l3) /\ (x.2.length <= 4)) (λx=>[dz,(1,true,jc b1),(3,true,x.1.v)]) (λx=>[bY x.1.v (dJ iG) (mQ b1 x.2) 363,Var b1 cU m 199]) ?_ (λx hx=>?_)
 ·refine m42 ?_;refine dg eN (.cons aa (.cons (.c (v:=U8 4) rfl) .nil)) (λw I=>tT _ _ w) ?_;refine nP ?_;refine nG rfl (λh3=>?_) (λh3=>?_)
  ·refine m19 ?_;refine co (Ev.makeFunc (f:=196) (.cons aa .nil)) ?_;refine cons (buildSlice zO tz Ox (.cons aa .nil) rfl rfl (λv8=>?_));refine cons (app zO tz Es Ep aa aa (λv9=>?_) (hby:=⟨by first | ((show _ <= 9223372036854775807); simp; done) | ((show _ <= 9223372036854775807); simp [mQ]; omega),by grind [mQ]⟩));refine vK rfl (nP (mt (_,l3 ++ [3]) ⟨?_,?_⟩ (hL:=(by first | exact aY _ | (simp only [mQ,eF,dq,iD]; repeat first | exact aY _ | apply List.Sublist.cons_cons | apply List.Sublist.cons)))))
   ·grind [AZ,fF]
   grind
  ·refine skip (pN (mt _ ⟨?_,?_⟩))
   ·grind [AZ,fF]
   grind
 obtain⟨o4,l4⟩:=x;dsimp only at hx;obtain⟨hl4,hn4⟩:=hx;refine cut (X:=OV × (List Nat)) (λx=>(x.2 = AZ (fF m 16) 4 l4) /\ (x.2.length <= 5)) (λx=>[dz,(1,true,jc b1),(3,true,x.1.v)]) (λx=>[bY x.1.v (dJ iG) (mQ b1 x.2) 363,Var b1 cU m 199]) ?_ (λx hx=>?_)
 ·refine m42 ?_;refine dg eN (.cons aa (.cons (.c (v:=U8 16) rfl) .nil)) (λw I=>tT _ _ w) ?_;refine nP ?_;refine nG rfl (λh4=>?_) (λh4=>?_)
  ·refine m19 ?_;refine co (Ev.makeFunc (f:=197) (.cons aa .nil)) ?_;refine cons (buildSlice zO tz Ox (.cons aa .nil) rfl rfl (λv10=>?_));refine cons (app zO tz Es Ep aa aa (λv11=>?_) (hby:=⟨by first | ((show _ <= 9223372036854775807); simp; done) | ((show _ <= 9223372036854775807); simp [mQ]; omega),by grind [mQ]⟩));refine vK rfl (nP (mt (_,l4 ++ [4]) ⟨?_,?_⟩ (hL:=(by first | exact aY _ | (simp only [mQ,eF,dq,iD]; repeat first | exact aY _ | apply List.Sublist.cons_cons | apply List.Sublist.cons)))))
   ·grind [AZ,fF]
   grind
  ·refine skip (pN (mt _ ⟨?_,?_⟩))
   ·grind [AZ,fF]
   grind
 obtain⟨o5,l5⟩:=x;dsimp only at hx;obtain⟨hl5,hn5⟩:=hx;refine cut (X:=OV × (List Nat)) (λx=>(x.2 = AZ (fF m 32) 5 l5) /\ (x.2.length <= 6)) (λx=>[dz,(1,true,jc b1),(3,true,x.1.v)]) (λx=>[bY x.1.v (dJ iG) (mQ b1 x.2) 363,Var b1 cU m 199]) ?_ (λx hx=>?_)
 ·refine m42 ?_;refine dg eN (.cons aa (.cons (.c (v:=U8 32) rfl) .nil)) (λw I=>tT _ _ w) ?_;refine nP ?_;refine nG rfl (λh5=>?_) (λh5=>?_)
  ·refine m19 ?_;refine co (Ev.makeFunc (f:=198) (.cons aa .nil)) ?_;refine cons (buildSlice zO tz Ox (.cons aa .nil) rfl rfl (λv12=>?_));refine cons (app zO tz Es Ep aa aa (λv13=>?_) (hby:=⟨by first | ((show _ <= 9223372036854775807); simp; done) | ((show _ <= 9223372036854775807); simp [mQ]; omega),by grind [mQ]⟩));refine vK rfl (nP (mt (_,l5 ++ [5]) ⟨?_,?_⟩ (hL:=(by first | exact aY _ | (simp only [mQ,eF,dq,iD]; repeat first | exact aY _ | apply List.Sublist.cons_cons | apply List.Sublist.cons)))))
   ·grind [AZ,fF]
   grind
  ·refine skip (pN (mt _ ⟨?_,?_⟩))
   ·grind [AZ,fF]
   grind
 obtain⟨o6,l6⟩:=x;obtain⟨hl6,hn6⟩:=hx;refine m1 ?_;refine m48 ?_;refine done rfl (.tmp rfl .nil) (λw I=>?_);exact tU (o6,b1) trivial rfl (by grind [yC,ks]) w I
theorem Ui (m:aN) (p:Nat):(yC m p).length = (ks m).length:=by simp [yC,mQ]
theorem Uj (m:aN) (p:Nat) (i:Nat) (h:i < (ks m).length):(yC m p).getD i iG = Bb (fM ((ks m).getD i 0)) [.pointer (some ⟨p,0,none⟩)]:=by
 simp [yC,mQ,List.getD,h]
theorem IS (l:List α) (i:Nat) (d:α) (h:i < l.length):l.getD i d ∈ l:=by grind
theorem Pr (u:Value) (m:aN) (n:Int) (h:ae) (p hp:Nat) (w:World) (hs:bU (dJ iG) w u (yC m p)) (hm:eK cU w p 0 m) (hh:eK bm w hp 0 h):aR 170 #[u,I n,.pointer (some ⟨hp,0,none⟩)] w (dO w (.bool (D7 m n h))):=by
 have hle:=hs.le;have hcl:=Ui m p;refine iZ 21 Tryz.func170 (λ_ _=>?_);refine m173 ?_;refine co (Ev.len zO aa zf) ?_;refine m26 ?_;refine nP (block (lp (X:=Int) (λx=>(0 <= x /\ x <= (yC m p).length) /\ (((ks m).take x.toNat).all (λk=>qM k m n h) = true)) (λx=>[dz,(1,true,I n),(2,true,jc hp),(9,true,u),(10,true,I _),(11,true,I x)]) (λx=>[]) (λx=>((yC m p).length - x).toNat) (0) ⟨?_,?_⟩ (λx hx=>?_)))
 ·omega
 ·rfl
 obtain⟨i,rfl⟩:∃ y,y = x:=⟨x,rfl⟩;obtain⟨hi,hq⟩:(0 <= i /\ i <= (yC m p).length) /\ (((ks m).take i.toNat).all (λk=>qM k m n h) = true):=hx;refine m9 ?_;refine ig rfl (λhlt=>?_) (λhge=>?_)
 ·refine m191 ?_;refine co (Ev.indexAddr zO tz aa aa zf (λ_=>zo)) ?_;refine co (Ev.eT tz aa zf (λ_=>zo)) ?_;refine m0 ?_;refine sg ?_;have hil:i.toNat < (ks m).length:=by omega
  have hk6:=afL (IS _ i.toNat 0 hil);refine co (Ev.to (Ev.move aa) (by show ((yC m p).getD i.toNat iG).v = _; rw [Uj m p _ hil])) ?_;refine m247 ?_;refine Az aa (agR _ hk6) (.cons aa (.cons aa .nil)) (λw I=>agQ _ hk6 m n h p hp w (hm.keep I.keeps) (hh.keep I.keeps)) ?_;refine m57 ?_;refine nG rfl (λh1=>?_) (λh1=>?_)
  ·refine m12 ?_;refine ret ?_;refine m211 ?_;refine dn rfl rfl ?_;refine bX2 ?_
   symm
   rw [Bool.eq_false_iff];intro pM;have h2:=fI.1 pM _ (IS _ i.toNat 0 hil)
   grind
  ·refine m232 ?_;refine mv rfl (nP (nx _ ⟨?_,?_⟩ ?_))
   ·omega
   ·grind [qj]
   omega
 ·refine m13 ?_;refine m12 ?_;refine m123 ?_
  simp_all [bH,D7]
structure de where
 CS:OV
 asked:OV
def de.to:(OV × OV)->de:=λx=>⟨x.1,x.2⟩
def de.of:de->(OV × OV):=λx=>(x.CS,x.asked)
def qq:dy de:=l8 (cW (dJ aM) (dJ aM)) de.to de.of
def de.sH:aB qq (dJ aM) 0:=lI de.to de.of l1
@[simp] theorem de.XS (x:de):de.sH.get x = x.CS:=rfl
@[simp] theorem de.Wl (x:de) (y:OV):de.sH.set x y = { x with CS:=y }:=rfl
def de.u7:aB qq (dJ aM) 1:=lI de.to de.of (l2 (aB.id _))
@[simp] theorem de.adK (x:de):de.u7.get x = x.asked:=rfl
@[simp] theorem de.adl (x:de) (y:OV):de.u7.set x y = { x with asked:=y }:=rfl
def xq (w:World) (b:Nat) (l:List aN):Prop:=∃ (mo ao:OV) (os:List OV) (bs:Nat->Nat),eK qq w b 0 ⟨mo,ao⟩ /\ bU cU w mo.v l /\ bU (dJ aM) w ao.v os /\ os.length = l.length /\ ∀ k,k < l.length->bU (dJ iG) w (os.getD k aM).v (yC (l.getD k cU.zero) (bs k)) /\ eK cU w (bs k) 0 (l.getD k cU.zero)
theorem xq.keep {w w':World} {b:Nat} {l:List aN} (h:xq w b l) (k:bf fX w w'):xq w' b l:=by
 obtain⟨mo,ao,os,bs,h1,h2,h3,h4,h5⟩:=h;exact ⟨mo,ao,os,bs,h1.keep k,h2.cO k,h3.cO k,h4,λj hj=>⟨(h5 j hj).1.cO k,(h5 j hj).2.keep k⟩⟩
def vF (l:List aN):Int:=bif decide (256 < l.length) then 4 else bif l.all AW then 0 else 190
def O6 (l:List aN) (b:Nat):Option Addr:=bif decide (vF l = 0) then some ⟨b,0,none⟩ else none
def WE (l:List aN) (b:Nat):Value:=.pointer (O6 l b)
theorem WC {l:List aN} (b:Nat) (h:vF l = 0):O6 l b = some ⟨b,0,none⟩:=by
 unfold O6;simp [h]
def ahm (l:List aN) (x:Nat × List du):Prop:=vF l = 0->∀ w,(∀ r ∈ x.2,r.A w)->xq w x.1 l
def Jr (l:List aN) (x:Nat × List du):Value:=.tuple #[WE l x.1,I (vF l)]
theorem UP (l:List aN) (i:Int) (h0:0 <= i) (h1:i < l.length) (ha:(l.take i.toNat).all AW = true) (hi:AW (l.getD i.toNat cU.zero) = true):(l.take (i + 1).toNat).all AW = true:=by
 grind [qj]
theorem W6 (l:List aN) (i:Nat) (h1:i < l.length) (hi:AW (l.getD i cU.zero) = false):l.all AW = false:=by
 grind
def aio:zI 293 qq:=kI
def VL:zI 199 cU:=kI
def Ra:ot 221 (dJ aM):=oq
def YV:DV 199 cU 88:=kB
def YS:Eo cU:=Hk _
def Hx:ot 291 (dJ aM):=oq
def Ew:ot 295 (dJ aM):=oq
def aaj:zI 295 (dJ aM):=kI
def ad6:DV 295 (dJ aM) 24:=kB
def adX:Eo (dJ aM):=Hk _
theorem Me (u:Value) (l:List aN) (w:World) (hl:bU cU w u l):aR 83 #[u] w (nz w (ahm l) (Jr l) (λx=>x.2)):=by
 have hle:=hl.le;refine iZ 47 Tryz.func83 (λ_ _=>?_);refine m209 ?_;refine m149 ?_;refine co (Ev.len JQ aa zf) ?_;refine m137 ?_;refine nP ?_;refine ig rfl (λaov=>?_) (λajj=>?_)
 ·refine m209 ?_;refine ac (I 4) ?_;refine m62 ?_;refine done rfl (.tmp rfl (.tmp rfl .nil)) (λw I=>?_);have hc:vF l = 4:=by unfold vF; rw [ia (by omega)]; rfl
  exact tU (0,[]) (λh=>by omega) (by unfold Jr WE O6; simp_all) (jT _) w I
 ·refine m153 ?_;refine co (Ev.fe (places:=[(0,1),(1,1)]) aio rfl Tryz.underlying293 zk .nil bB.nil) ?_;refine cons (box aa (λb1=>?_));refine m174 ?_;refine co (Ev.len JQ aa zf) ?_;refine m83 ?_;refine jf (dJ aM) 295 ?_;refine jf cU 199 ?_;refine lp (X:=Int × OV × OV × (List OV) × (List du) × (Nat->Nat)) (λx=>(0 <= x.1 /\ x.1 <= l.length) /\ ((x.2.2.2.1.length:Int) = x.1) /\ ((l.take x.1.toNat).all AW = true) /\ (∀ w1:World,(∀ r ∈ x.2.2.2.2.1,r.A w1)->∀ q:Nat,(q:Int) < x.1->bU (dJ iG) w1 (x.2.2.2.1.getD q aM).v (yC (l.getD q cU.zero) (x.2.2.2.2.2 q)) /\ eK cU w1 (x.2.2.2.2.2 q) 0 (l.getD q cU.zero))) (λx=>[dz,(4,true,jc b1),(13,true,u),(14,true,I l.length),(15,true,I x.1)]) (λx=>(x.2.2.2.2.1 ++ [bY x.2.1.v cU (l.take x.1.toNat) 199,bY x.2.2.1.v (dJ aM) x.2.2.2.1 295,Var b1 qq ⟨x.2.1,x.2.2.1⟩ 293])) (λx=>(l.length - x.1).toNat) (0,aM,aM,[],[],λ_=>0) ⟨?_,?_,?_,?_⟩ (λx hx=>?_)
  ·omega
  ·rfl
  ·rfl
  ·omega
  obtain⟨i,mo,ao,os,Rs,bs⟩:=x;dsimp only at hx;obtain⟨hi,hos,GK,hR⟩:=hx;refine m9 ?_;refine ig rfl (λhlt=>?_) (λhge=>?_)
  ·refine m191 ?_;refine co (Ev.indexAddr JQ sj aa aa zf (λ_=>zo)) ?_;refine co (Ev.eT sj aa zf (λ_=>zo)) ?_;refine cons (alloc VL (λb2=>?_));refine cons (j8 sj (aB.id _) aa aa ?_);refine m143 ?_;refine sg (co (Ev.gS sj aa (aB.id _)) ?_);refine cons (dg eN (o1 rfl) (λw I=>Jv _ w) ?_);refine m171 ?_;refine nG rfl (λh2=>?_) (λh2=>?_)
   ·have agn:AW (l.getD i.toNat cU.zero) = false:=by
     have h3:decide (J9 (l.getD i.toNat cU.zero) = 0) = false:=by simpa using h2
     rwa [wN] at h3
    refine m152 ?_;refine m211 ?_;refine done rfl (.tmp rfl (.tmp rfl .nil)) (λw I=>?_);have hc:vF l = 190:=by unfold vF; rw [fS (by omega),W6 l i.toNat (by omega) agn]; rfl
    exact tU (0,[]) (λh=>by omega) (by unfold Jr WE O6; rw [hc]; show ug [.pointer none,Go.Gx.I (J9 (l.getD i.toNat cU.zero))] = _; unfold J9; simp_all) (jT _) w I
   ·have anV:AW (l.getD i.toNat cU.zero) = true:=by
     have h3:decide (J9 (l.getD i.toNat cU.zero) = 0) = true:=by simpa using h2
     rwa [wN] at h3
    refine m196 ?_;refine draw [Var b2 cU (l.getD i.toNat cU.zero) 199] zk ?_;refine m298 ?_;refine tk 5 rfl (Ev.gS sj aa (aB.id _)) ?_;refine all [4,6] zk (by decide) (.cons rfl ?_ (.cons rfl ?_ .nil))
    ·refine BF (Ev.gS Ra aa de.sH) ?_;refine m244 ?_;refine buildSlice JQ sj VL (.cons aa .nil) rfl rfl (λv3=>?_);exact s88
    ·refine (buildSlice JQ sj VL (.cons aa .nil) rfl rfl (λv11=>?_));refine m139 ?_;refine BF (Ev.gS Ra aa de.sH) ?_;exact s88
  ·refine m85 ?_;refine m52 ?_;refine done rfl (.tmp rfl (.tmp rfl .nil)) (λw I=>?_);have et:l.take i.toNat = l:=bH (by omega);rw [et] at GK I;have hc:vF l = 0:=by unfold vF; rw [fS (by omega),GK]; rfl
   refine tU (b1,Rs ++ [bY mo.v cU l 199,bY ao.v _ os 295,Var b1 qq ⟨mo,ao⟩ 293]) (λ_ w1 hw=>?_) (by unfold Jr WE O6; simp_all) (aY _) w I;refine ⟨mo,ao,os,bs,nB (hw _ (jw _ (aF _ (aF _ ah)))),bU.lJ (hw _ (jw _ ah)),bU.lJ (hw _ (jw _ (aF _ ah))),by omega,λq hq=>hR w1 (λr hr=>hw r (List.mem_append_left _ hr)) q (by omega)⟩
def pQ (q:aN->Bool):List aN->Int->Int
 | [],_=>-1
 | m :: l,k=>bif q m then k else pQ q l (k + 1)
theorem A6 (q:aN->Bool) (l:List aN) (i:Nat) (k:Int) (h:i < l.length):pQ q (l.drop i) k = bif q (l.getD i cU.zero) then k else pQ q (l.drop (i + 1)) (k + 1):=by
 grind [List.drop_eq_getElem_cons,pQ,List.getD]
theorem TJ (b:Nat) (l:List aN) (n:Int) (h:ae) (w:World) (hR:xq w b l):aR 123 #[.pointer (some ⟨b,0,none⟩),I n,bm.val h] w (dO w (I (pQ (λm=>D7 m n h) l 0))):=by
 obtain⟨mo,ao,os,bs,hr,hmo,hao,hol,hcl⟩:=hR;have hml:=hmo.le;have hal:=hao.le;refine iZ 26 Tryz.func123 (λ_ _=>?_);refine m15 ?_;refine box aa (λb1=>?_);refine m149 ?_;refine co (Ev.TX Tryz.underlying205 aa (.c rfl)) ?_;refine nP (nS rfl (rfl) ?_);refine m229 ?_;refine m248 ?_;refine m277 ?_;refine co (Ev.load Hx aa (jJ (λw I=>hr.keep I.keeps) de.u7)) ?_;refine co (Ev.len Qt aa zf) ?_;refine m26 ?_;refine nP (block (lp (X:=Int) (λx=>(0 <= x /\ x <= l.length) /\ (pQ (λm=>D7 m n h) (l.drop x.toNat) x = pQ (λm=>D7 m n h) l 0)) (λx=>[dz,(1,true,I n),(5,true,jc b1),(14,true,ao.v),(15,true,I os.length),(16,true,I x)]) (λx=>[Var b1 bm h 60]) (λx=>(l.length - x).toNat) (0) ⟨?_,?_⟩ (λx hx=>?_)))
 ·omega
 ·rfl
 obtain⟨i,rfl⟩:∃ y,y = x:=⟨x,rfl⟩;obtain⟨hi,hf⟩:(0 <= i /\ i <= l.length) /\ (pQ (λm=>D7 m n h) (l.drop i.toNat) i = pQ (λm=>D7 m n h) l 0):=hx;refine m9 ?_;refine ig rfl (λhlt=>?_) (λhge=>?_)
 ·refine m150 ?_;refine co (Ev.indexAddr Qt Ew aa aa zf (λ_=>zo)) ?_;refine co (Ev.eT Ew aa zf (λ_=>zo)) ?_;refine m41 ?_;refine sg ?_;have hck:=hcl i.toNat (by omega);refine m247 ?_;refine dg eN (o3 rfl rfl rfl) (λw I=>Pr _ _ n h _ _ w (hck.1.cO I.keeps) (hck.2.keep I.keeps) (ed zm (aB.id _) w I)) ?_;refine nP ?_;refine nG rfl (λh2=>?_) (λh2=>?_)
  ·refine m1 ?_;refine m48 ?_;refine m211 ?_;refine dn rfl rfl ?_
   simp_all [A6]
  ·refine m232 ?_;refine mv rfl (nP (nx _ ⟨?_,?_⟩ ?_))
   ·omega
   ·grind [A6]
   omega
 ·refine m13 ?_;refine sg (ac (I (-1)) ?_);refine nP ?_;refine m123 ?_;rw [gT (by omega)] at hf;rw [<- hf]; rfl
end Go.Proofs.YtgnmiaonbadbnaaGreat
namespace Go.Proofs.YtgnmiaonbadbnaaGreat.Tri
open Go Go.Gx
variable {y x c:List Bool} {h k:Bool} {κ α:Type} {q:aw} {a:bJ} {w:World} {X:Ext} {u:Int} {fr:Nat}
def D8:List Bool->List Bool->List Bool
 | a :: x,b :: y=>if a = b then a :: D8 x y else []
 | _,_=>[]
theorem wu:∀ x y,D8 x y <+: x
 | [],_=>by simp [D8]
 | a :: x,[]=>by simp [D8]
 | a :: x,b :: y=>by
   unfold D8;split
   ·rw [iw]; exact ⟨rfl,wu x y⟩
   simp
theorem Iz:∀ x y,D8 x y = D8 y x
 | [],[]=>rfl
 | [],_ :: _=>rfl
 | _ :: _,[]=>rfl
 | a :: x,b :: y=>by
   unfold D8
   by_cases h:a = b
   ·rw [if_pos h,if_pos h.symm,Iz x y,h]
   grind
theorem Ak (x y:List Bool):D8 x y <+: y:=by grind [Iz,wu]
theorem GD:∀ c x y:List Bool,c <+: x->c <+: y->c <+: D8 x y
 | [],_,_,_,_=>lT
 | c :: cs,[],_,h,_=>by grind
 | c :: cs,_ :: _,[],_,h=>by grind
 | c :: cs,a :: x,b :: y,h1,h2=>by
   rw [iw] at h1 h2;unfold D8;rw [if_pos (h1.1.symm.trans h2.1),iw];exact ⟨h1.1,GD cs x y h1.2 h2.2⟩
theorem E9:∀ x y:List Bool,D8 x y ≠ x->D8 x y ≠ y->∃ b,D8 x y ++ [b] <+: x /\ D8 x y ++ [!b] <+: y
 | [],y,h,_=>absurd (by rfl) h
 | a :: x,[],_,h=>absurd (by rfl) h
 | a :: x,b :: y,h1,h2=>by
   unfold D8 at h1 h2 ⊢
   by_cases h:a = b
   ·rw [if_pos h] at h1 h2 ⊢;subst h;obtain⟨c,k1,k2⟩:=E9 x y (λe=>h1 (by rw [e])) (λe=>h2 (by rw [e]))
    grind
   ·rw [if_neg h];refine ⟨a,by simp,?_⟩;have:(!a) = b:=by cases a <;> cases b <;> simp_all
    grind
def nb (x y:List Bool):Bool:=y.getD x.length false
theorem Cy (h:x <+: y) (hne:x ≠ y):x ++ [nb x y] <+: y:=by
 obtain⟨z,rfl⟩:=h;cases z with
 | nil=>grind
 | cons b z =>
   simp [nb]
theorem Ik {b:Bool} (h:x ++ [b] <+: y):nb x y = b:=by
 obtain⟨z,rfl⟩:=h;simp [nb,List.getD]
def yY (h:x <+: y) (hl:y.length <= x.length):x = y:=List.IsPrefix.eq_of_length_le h hl
theorem qQ {b:Bool} (h:x ++ [b] <+: y):x <+: y:=by grind [List.prefix_append]
theorem uu {z:List Bool} {b:Bool} (h1:x ++ [b] <+: y) (h2:x ++ [!b] <+: z) (h:y <+: z):False:=by
 have e1:=Ik (h1.trans h)
 grind [Ik]
def Vq:List Bool->List Bool->Bool
 | [],[]=>false
 | [],_ :: _=>true
 | _ :: _,[]=>false
 | a :: x,b :: y=>(!a && b) || (a == b && Vq x y)
theorem NB:∀ x,Vq x x = false
 | []=>rfl
 | a :: x=>by simp [Vq,NB x]
theorem NA:∀ x y:List Bool,x <+: y->x ≠ y->Vq x y = true
 | [],[],_,h=>absurd rfl h
 | [],_ :: _,_,_=>rfl
 | _ :: _,[],h,_=>by grind
 | a :: x,b :: y,h,hne=>by
   rw [iw] at h;obtain⟨rfl,h⟩:=h;have:=NA x y h (λe=>hne (by rw [e]));simp [Vq,this]
theorem E6:∀ c x y:List Bool,c ++ [false] <+: x->c ++ [true] <+: y->Vq x y = true
 | [],x,y,h1,h2=>by
   obtain⟨u,rfl⟩:=h1;obtain⟨v,rfl⟩:=h2
   rfl
 | c :: cs,x,y,h1,h2=>by
   cases x with
   | nil=>grind
   | cons a x =>
     cases y with
     | nil=>grind
     | cons b y =>
       rw [List.cons_append,iw] at h1 h2;have:=E6 cs x y h1.2 h2.2
       grind [Vq]
inductive Tr (κ:Type) where
 | nil:Tr κ
 | node:κ->Int->Bool->Tr κ->Tr κ->Tr κ
def Tr.isNil:Tr κ->Bool
 | .nil=>true
 | _=>false
def Tr.eY {κ:Type}:Tr κ->List (κ × Int)
 | .nil=>[]
 | .node p v h l r=>(if h = true then [(p,v)] else []) ++ (l.eY ++ r.eY)
def Tr.Wd {κ:Type}:Tr κ->List κ
 | .nil=>[]
 | .node p _ _ l r=>p :: (l.Wd ++ r.Wd)
def Tr.WF {κ:Type} (ok:κ->Prop) (bs:κ->List Bool):List Bool->Tr κ->Prop
 | _,.nil=>True
 | c,.node p v h l r=>ok p /\ c <+: bs p /\ l.WF ok bs (bs p ++ [false]) /\ r.WF ok bs (bs p ++ [true]) /\ (h = false->v = 0 /\ l ≠ .nil /\ r ≠ .nil)
section
variable {ok:κ->Prop} {bs:κ->List Bool}
theorem Tr.WF.mono {d:List Bool} (h:d <+: c):∀ {t:Tr κ},t.WF ok bs c->t.WF ok bs d
 | .nil,_=>trivial
 | .node _ _ _ _ _,⟨h1,h2,h3⟩=>⟨h1,h.trans h2,h3⟩
theorem Tr.WF.yb:∀ {t:Tr κ} {c:List Bool},t.WF ok bs c->∀ q ∈ t.Wd,ok q /\ c <+: bs q
 | .nil,_,_,q,hq=>by trivial
 | .node p v h l r,c,⟨h1,h2,h3,h4,_⟩,q,hq=>by
   simp only [Wd,aE,bG] at hq
   rcases hq with rfl | hq | hq
   ·trivial
   ·have:=h3.yb q hq
    grind
   ·have:=h4.yb q hq
    grind
theorem Tr.Di:∀ (t:Tr κ) (x:κ × Int),x ∈ t.eY->x.1 ∈ t.Wd
 | .nil,x,h=>by trivial
 | .node p v h l r,x,hx=>by
   simp only [eY,bG] at hx;simp only [Wd,aE,bG]
   rcases hx with hx | hx | hx
   ·grind
   ·exact .inr (.inl (Di l x hx))
   ·exact .inr (.inr (Di r x hx))
theorem Tr.WF.oJ {t:Tr κ} (h:t.WF ok bs c) (x:κ × Int) (hx:x ∈ t.eY):ok x.1 /\ c <+: bs x.1:=h.yb _ (t.Di x hx)
theorem Tr.WF.ya:∀ {t:Tr κ} {c:List Bool},t.WF ok bs c->t.Wd.Pairwise (λa b=>Vq (bs a) (bs b) = true)
 | .nil,_,_=>List.Pairwise.nil
 | .node p v h l r,c,⟨_,h2,h3,h4,_⟩=>by
   have low:∀ (b:Bool) (q:κ),bs p ++ [b] <+: bs q->Vq _ _ = true:=λb q hq=>NA _ _ (qQ hq) (λe=>by
    have:=hq.length_le;rw [<- e] at this;simp at this;omega)
   refine bC.2 ⟨λq hq=>?_,gF.2 ⟨h3.ya,h4.ya,λa ha b hb=>E6 _ _ _ (h3.yb a ha).2 (h4.yb b hb).2⟩⟩
   rcases bG.1 hq with hq | hq
   ·exact low _ q (h3.yb q hq).2
   ·exact low _ q (h4.yb q hq).2
theorem Tr.Dh:∀ (t:Tr κ),(t.eY.map (·.1)).Sublist t.Wd
 | .nil=>aY _
 | .node p v h l r=>by
   simp only [eY,Wd,eF];have:=(Dh l).append (Dh r)
   grind
def Tr.WF.Jd {t:Tr κ} (h:t.WF ok bs c):t.eY.Pairwise (λa b=>Vq (bs a.1) (bs b.1) = true) :=
 List.pairwise_map.1 (h.ya.sublist t.Dh)
structure KeyLaw (ok:κ->Prop) (bs:κ->List Bool) (both:κ->κ->κ) (bit:κ->κ->Bool):Prop where
 inj:∀ p q,ok p->ok q->bs p = bs q->p = q
 both:∀ p q,ok p->ok q->ok (both p q) /\ bs (both p q) = D8 (bs p) (bs q)
 bit:∀ p q,ok p->ok q->bs p <+: bs q->bs p ≠ bs q->bit p q = nb (bs p) (bs q)
variable [DecidableEq κ]
def Tr.put (both:κ->κ->κ) (bit:κ->κ->Bool) (p:κ) (v:Int):Tr κ->Tr κ × Bool
 | .nil=>(.node p v true .nil .nil,true)
 | .node q u h l r =>
   if q = p then (.node p v true l r,!h)
   else if both q p = q then
    if bit q p = true then (.node q u h l (r.put both bit p v).1,(r.put both bit p v).2) else (.node q u h (l.put both bit p v).1 r,(l.put both bit p v).2)
   else if both q p = p then
    (if bit p q = true then .node p v true .nil (.node q u h l r) else .node p v true (.node q u h l r) .nil,true)
   else (if bit (both q p) p = true then .node (both q p) 0 false (.node q u h l r) (.node p v true .nil .nil) else .node (both q p) 0 false (.node p v true .nil .nil) (.node q u h l r),true)
def Tr.bare:Tr κ->Tr κ
 | .nil=>.nil
 | .node p v h l r=>if h = true \/ (l.isNil = false /\ r.isNil = false) then .node p v h l r else if l.isNil = false then l else r
def Tr.cut (bit:κ->κ->Bool) (p:κ):Tr κ->Tr κ
 | .nil=>.nil
 | .node q u h l r=>if q = p then (Tr.node q 0 false l r).bare else if bit q p = true then (Tr.node q u h l (r.cut bit p)).bare else (Tr.node q u h (l.cut bit p) r).bare
variable {both:κ->κ->κ} {bit:κ->κ->Bool}
theorem KeyLaw.ways (K:KeyLaw ok bs both bit) {q p:κ} (hq:ok q) (hp:ok p) (hne:q ≠ p) :
 (both q p = q /\ bs q ++ [bit q p] <+: bs p) \/ (both q p ≠ q /\ both q p = p /\ bs p ++ [bit p q] <+: bs q) ∨
 (both q p ≠ q /\ both q p ≠ p /\ ok (both q p) /\ bs (both q p) = D8 (bs q) (bs p) /\ bit (both q p) q = !(bit (both q p) p) /\ bs (both q p) ++ [!(bit (both q p) p)] <+: bs q /\ bs (both q p) ++ [bit (both q p) p] <+: bs p):=by
 obtain⟨h1,h2⟩:=K.both q p hq hp;have hbne:bs q ≠ bs p:=λe=>hne (K.inj _ _ hq hp e)
 by_cases e1:both q p = q
 ·refine .inl ⟨e1,?_⟩;have hpre:bs q <+: bs p:=by
   rw [e1] at h2;rw [h2];exact Ak _ _
  rw [K.bit q p hq hp hpre hbne];exact Cy hpre hbne
 ·by_cases e2:both q p = p
  ·refine .inr (.inl ⟨e1,e2,?_⟩);have hpre:bs p <+: bs q:=by
    rw [e2] at h2;rw [h2];exact wu _ _
   rw [K.bit p q hp hq hpre hbne.symm];exact Cy hpre hbne.symm
  ·have n1:D8 _ _ ≠ bs q:=λe=>e1 (K.inj _ _ h1 hq (h2.trans e))
   have n2:D8 _ _ ≠ bs p:=λe=>e2 (K.inj _ _ h1 hp (h2.trans e))
   obtain⟨b,g1,g2⟩:=E9 _ _ n1 n2;rw [<- h2] at g1 g2 n1 n2;have b1:=K.bit _ q h1 hq (qQ g1) n1;have b2:=K.bit _ p h1 hp (qQ g2) n2
   grind [Ik]
theorem FY {b:Bool} (h:x ++ [b] <+: y):x ≠ y:=λe=>by
 have:=h.length_le;rw [<- e] at this;simp at this;omega
theorem KeyLaw.Cu (K:KeyLaw ok bs both bit) {p:κ} (hp:ok p) (v:Int):∀ (t:Tr κ) (c:List Bool),t.WF ok bs c->c <+: bs p ->
 (t.put both bit p v).1.WF ok bs c /\ (t.put both bit p v).1 ≠ .nil /\ (∀ x,x ∈ (t.put both bit p v).1.eY ↔ (x = (p,v) \/ (x ∈ t.eY /\ x.1 ≠ p))) /\ ((t.put both bit p v).2 = true ↔ ∀ x ∈ t.eY,x.1 ≠ p)
 | .nil,c,_,hc=>by
   refine ⟨⟨hp,hc,trivial,trivial,(λh=>by cases h)⟩,(λh=>by cases h),λx=>?_,?_⟩
   ·simp [Tr.put,Tr.eY]
   ·simp [Tr.put,Tr.eY]
 | .node q u h l r,c,hw,hc=>by
   have hw':=hw;obtain⟨hq,h2,h3,h4,h5⟩:=hw;have inl:=λx hx=>(h3.oJ x hx).2
   have inr:=λx hx=>(h4.oJ x hx).2
   by_cases e:q = p
   ·subst e;have nl:∀ x ∈ l.eY,x.1 ≠ q:=λx hx e=>FY (inl x hx) (by rw [e])
    have nr:∀ x ∈ r.eY,x.1 ≠ q:=λx hx e=>FY (inr x hx) (by rw [e])
    have hput:Tr.put both bit q v (.node q u h l r) = (.node q v true l r,!h):=by rw [Tr.put,if_pos rfl]
    rw [hput];refine ⟨⟨hq,h2,h3,h4,(λh=>by cases h)⟩,(λh=>by cases h),λx=>?_,?_⟩
    ·simp only [Tr.eY,if_true,bG,cq]
     grind
    ·simp only [Tr.eY,bG];constructor
     ·grind
     ·intro hh;cases h with
      | false=>rfl
      | true=>simp_all
   ·have epq:∀ x:κ × Int,x ∈ (if h = true then [(q,u)] else [])->x.1 ≠ p:=λx hx=>by
     split at hx
     ·simp only [cq] at hx; rw [hx]; exact e
     ·simp at hx
    rcases K.ways hq hp e with ⟨e1,e2⟩ | ⟨e0,e1,e2⟩ | ⟨e0,e1,e2,e3,e4,e5,e6⟩
    ·cases hb:bit q p with
     | true =>
       rw [hb] at e2;have hput:Tr.put both bit p v (.node q u h l r) = (.node q u h l (r.put both bit p v).1,(r.put both bit p v).2):=by rw [Tr.put,if_neg e,if_pos e1,if_pos hb]
       rw [hput];obtain⟨g1,g2,g3,g4⟩:=K.Cu hp v r _ h4 e2;refine ⟨⟨hq,h2,h3,g1,λhh=>⟨(h5 hh).1,(h5 hh).2.1,g2⟩⟩,(λh=>by cases h),λx=>?_,?_⟩
       ·have nl:x ∈ l.eY->x.1 ≠ p:=λhx e=>uu (inl x hx) e2 (by rw [e]; exact jS _)
        grind [Tr.eY]
       ·rw [g4];simp only [Tr.eY,bG];constructor
        ·rintro hh x (hx | hx | hx)
         ·grind
         ·exact λe=>uu (inl x hx) e2 (by grind)
         grind
        grind
     | false =>
       rw [hb] at e2;have hput:Tr.put both bit p v (.node q u h l r) = (.node q u h (l.put both bit p v).1 r,(l.put both bit p v).2):=by rw [Tr.put,if_neg e,if_pos e1,if_neg (by rw [hb]; exact cL)]
       rw [hput];obtain⟨g1,g2,g3,g4⟩:=K.Cu hp v l _ h3 e2;refine ⟨⟨hq,h2,g1,h4,λhh=>⟨(h5 hh).1,g2,(h5 hh).2.2⟩⟩,(λh=>by cases h),λx=>?_,?_⟩
       ·have nr:x ∈ r.eY->x.1 ≠ p:=λhx e=>uu (inr x hx) e2 (by rw [e]; exact jS _)
        grind [Tr.eY]
       ·rw [g4];simp only [Tr.eY,bG];constructor
        ·rintro hh x (hx | hx | hx)
         ·grind
         ·grind
         ·exact λe=>uu (inr x hx) e2 (by grind)
        grind
    ·have pM:∀ x ∈ (Tr.node q u h l r).eY,x.1 ≠ p:=λx hx e'=>by
      have:=(hw'.mono (lT (l:=c))).oJ x hx;have h9:bs q <+: bs x.1:=by
       exact s29
      rw [e'] at h9;exact FY e2 (yY (qQ e2) h9.length_le)
     have hwq:∀ d,d <+: bs q->(Tr.node q u h l r).WF ok bs d:=λd hd=>⟨hq,hd,h3,h4,h5⟩
     cases hb:bit p q with
     | true =>
       rw [hb] at e2;have hput:Tr.put both bit p v (.node q u h l r) = (.node p v true .nil (.node q u h l r),true):=by rw [Tr.put,if_neg e,if_neg e0,if_pos e1,if_pos hb]
       rw [hput];refine ⟨⟨hp,hc,trivial,hwq _ e2,(λh=>by cases h)⟩,(λh=>by cases h),λx=>?_,⟨λ_=>pM,λ_=>rfl⟩⟩
       grind [Tr.eY]
     | false =>
       rw [hb] at e2;have hput:Tr.put both bit p v (.node q u h l r) = (.node p v true (.node q u h l r) .nil,true):=by rw [Tr.put,if_neg e,if_neg e0,if_pos e1,if_neg (by rw [hb]; exact cL)]
       rw [hput];refine ⟨⟨hp,hc,hwq _ e2,trivial,(λh=>by cases h)⟩,(λh=>by cases h),λx=>?_,⟨λ_=>pM,λ_=>rfl⟩⟩
       grind [Tr.eY]
    ·have pM:∀ x ∈ (Tr.node q u h l r).eY,x.1 ≠ p:=λx hx e'=>by
      have h9:bs q <+: bs x.1:=by
       exact s29
      rw [e'] at h9;have e7:=e5.trans h9;have n1:=Ik e6;have n2:=Ik e7;rw [n1] at n2;cases hbb:bit (both q p) p <;> rw [hbb] at n2 <;> cases n2
     have hwq:∀ d,d <+: bs q->(Tr.node q u h l r).WF ok bs d:=λd hd=>⟨hq,hd,h3,h4,h5⟩
     have hcc:c <+: bs (both q p):=by rw [e3]; exact GD _ _ _ h2 hc
     cases hb:bit (both q p) p with
     | true =>
       rw [hb] at e5 e6;have hput:Tr.put both bit p v (.node q u h l r) = (.node (both q p) 0 false (.node q u h l r) (.node p v true .nil .nil),true):=by rw [Tr.put,if_neg e,if_neg e0,if_neg e1,if_pos hb]
       rw [hput];refine ⟨⟨e2,hcc,hwq _ e5,⟨hp,e6,trivial,trivial,(λh=>by cases h)⟩,λ_=>⟨rfl,(λh=>by cases h),(λh=>by cases h)⟩⟩,(λh=>by cases h),λx=>?_,⟨λ_=>pM,λ_=>rfl⟩⟩
       grind [Tr.eY]
     | false =>
       rw [hb] at e5 e6;have hput:Tr.put both bit p v (.node q u h l r) = (.node (both q p) 0 false (.node p v true .nil .nil) (.node q u h l r),true):=by rw [Tr.put,if_neg e,if_neg e0,if_neg e1,if_neg (by rw [hb]; exact cL)]
       rw [hput];refine ⟨⟨e2,hcc,⟨hp,e6,trivial,trivial,(λh=>by cases h)⟩,hwq _ e5,λ_=>⟨rfl,(λh=>by cases h),(λh=>by cases h)⟩⟩,(λh=>by cases h),λx=>?_,⟨λ_=>pM,λ_=>rfl⟩⟩
       grind [Tr.eY]
def Tr.path (xU lt:κ->κ->Bool) (bit:κ->κ->Bool) (p:κ):Tr κ->List (κ × Int × Bool)
 | .nil=>[]
 | .node q u h l r=>if xU q p = true then (q,u,h) :: (if lt q p = true then (if bit q p = true then r.path xU lt bit p else l.path xU lt bit p) else []) else []
variable {xU lt:κ->κ->Bool}
structure Hj (ok:κ->Prop) (bs:κ->List Bool) (xU lt:κ->κ->Bool):Prop where
 xU:∀ q p,ok q->ok p->(xU q p = true ↔ bs q <+: bs p)
 lt:∀ q p,ok q->ok p->(lt q p = true ↔ (bs q).length < (bs p).length)
theorem KeyLaw.wX (K:KeyLaw ok bs both bit) (C:Hj ok bs xU lt) {p:κ} (hp:ok p):∀ (t:Tr κ) (c:List Bool),t.WF ok bs c ->
 (∀ x:κ × Int,(x.1,x.2,true) ∈ t.path xU lt bit p ↔ (x ∈ t.eY /\ bs x.1 <+: bs p)) /\ (∀ y ∈ t.path xU lt bit p,c <+: bs y.1 /\ bs y.1 <+: bs p /\ ok y.1) /\ (t.path xU lt bit p).Pairwise (λa b=>(bs a.1).length < (bs b.1).length)
 | .nil,c,_=>⟨λx=>by simp [Tr.path,Tr.eY],λy hy=>by trivial,List.Pairwise.nil⟩
 | .node q u h l r,c,hw=>by
   obtain⟨hq,h2,h3,h4,h5⟩:=hw;have inl:=λx hx=>(h3.oJ x hx).2
   have inr:=λx hx=>(h4.oJ x hx).2
   have hqe:∀ x:κ × Int,x ∈ (if h = true then [(q,u)] else []) ↔ (x.1,x.2,true) = (q,u,h):=λx=>by
    cases h <;> simp [Prod.ext_iff]
   by_cases e1:xU q p = true
   ·have hpre:=(C.xU q p hq hp).1 e1
    by_cases e2:lt q p = true
    ·have hlt:=(C.lt q p hq hp).1 e2;have hne:bs q ≠ bs p:=by grind
     have hstep:=Cy hpre hne;rw [<- K.bit q p hq hp hpre hne] at hstep;cases hb:bit q p with
     | true =>
       rw [hb] at hstep;have hpath:Tr.path xU lt bit p (.node q u h l r) = (q,u,h) :: r.path xU lt bit p:=by rw [Tr.path,if_pos e1,if_pos e2,if_pos hb]
       rw [hpath];obtain⟨g1,g2,g3⟩:=K.wX C hp r _ h4;refine ⟨λx=>?_,λy hy=>?_,bC.2 ⟨λy hy=>?_,g3⟩⟩
       ·simp only [Tr.eY,bG,aE,hqe,g1];constructor
        ·grind
        ·rintro ⟨hx | hx | hx,hn⟩
         ·grind
         ·exact (uu (inl x hx) hstep hn).elim
         grind
       ·grind
       grind
     | false =>
       rw [hb] at hstep;have hpath:Tr.path xU lt bit p (.node q u h l r) = (q,u,h) :: l.path xU lt bit p:=by rw [Tr.path,if_pos e1,if_pos e2,if_neg (by rw [hb]; exact cL)]
       rw [hpath];obtain⟨g1,g2,g3⟩:=K.wX C hp l _ h3;refine ⟨λx=>?_,λy hy=>?_,bC.2 ⟨λy hy=>?_,g3⟩⟩
       ·simp only [Tr.eY,bG,aE,hqe,g1];constructor
        ·grind
        ·rintro ⟨hx | hx | hx,hn⟩
         ·grind
         ·grind
         ·exact (uu (inr x hx) hstep hn).elim
       ·grind
       grind
    ·have hge:¬ (bs q).length < (bs p).length:=λh=>e2 ((C.lt q p hq hp).2 h)
     have heq:=yY hpre (by omega);have hpath:Tr.path xU lt bit p (.node q u h l r) = [(q,u,h)]:=by rw [Tr.path,if_pos e1,if_neg e2]
     grind [Tr.eY]
   ·have hpath:Tr.path xU lt bit p (.node q u h l r) = []:=by rw [Tr.path,if_neg e1]
    rw [hpath];refine ⟨λx=>?_,λy hy=>by grind,List.Pairwise.nil⟩;simp only [Tr.eY,bG];constructor
    ·simp
    ·rintro ⟨hx,hn⟩;have h9:bs q <+: bs x.1:=by
      rcases hx with hx | hx | hx
      ·rw [hqe] at hx;have:=(Prod.ext_iff.1 hx).1;simp only at this;rw [this];exact jS _
      ·exact qQ (inl x hx)
      ·exact qQ (inr x hx)
     exact absurd ((C.xU q p hq hp).2 (h9.trans hn)) e1
def Tr.Qk (xU lt:κ->κ->Bool) (bit:κ->κ->Bool) (p:κ) (t:Tr κ):Option (κ × Int):=(((t.path xU lt bit p).filter (·.2.2)).getLast?).map (λn=>(n.1,n.2.1))
def Tr.get (xU lt:κ->κ->Bool) (bit:κ->κ->Bool) (p:κ) (t:Tr κ):Option Int:=((t.path xU lt bit p).find? (λn=>decide (n.1 = p) && n.2.2)).map (·.2.1)
theorem KeyLaw.Qi (K:KeyLaw ok bs both bit) (C:Hj ok bs xU lt) {p:κ} (hp:ok p) {t:Tr κ} (hw:t.WF ok bs c) {x:κ × Int} (h:t.Qk xU lt bit p = some x) :
 x ∈ t.eY /\ bs x.1 <+: bs p /\ ∀ y ∈ t.eY,bs y.1 <+: bs p->bs y.1 <+: bs x.1:=by
 obtain⟨g1,g2,g3⟩:=K.wX C hp t c hw;unfold Tr.Qk at h;rw [cd] at h;obtain⟨n,h1,rfl⟩:=h;obtain⟨A,hA⟩:=List.getLast?_eq_some_iff.1 h1;have hn:n ∈ (t.path xU lt bit p).filter (·.2.2):=by rw [hA]; simp
 obtain⟨m1,m2⟩:=List.mem_filter.1 hn;have hx:(n.1,n.2.1,true) ∈ t.path xU lt bit p:=by
  have:n = (n.1,n.2.1,true):=by rw [<- m2]
  rw [<- this]; exact m1
 obtain⟨k1,k2⟩:=(g1 (n.1,n.2.1)).1 hx;refine ⟨k1,k2,λy hy hyp=>?_⟩;have hy2:=(g1 y).2 ⟨hy,hyp⟩;have hy3:(y.1,y.2,true) ∈ (t.path xU lt bit p).filter (·.2.2):=by grind
 have hs:=g3.filter (·.2.2);rw [hA] at hs hy3;have hle:(bs y.1).length <= (bs n.1).length:=by
  rcases bG.1 hy3 with h | h
  ·have:=(gF.1 hs).2.2 _ h n (by simp);simp only at this;omega
  ·rw [cq] at h;rw [<- h];exact aA _
 grind [List.prefix_of_prefix_length_le]
theorem KeyLaw.Qj (K:KeyLaw ok bs both bit) (C:Hj ok bs xU lt) {p:κ} (hp:ok p) {t:Tr κ} (hw:t.WF ok bs c) (h:t.Qk xU lt bit p = none) :
 ∀ y ∈ t.eY,¬ bs y.1 <+: bs p:=by
 obtain⟨g1,g2,g3⟩:=K.wX C hp t c hw;unfold Tr.Qk at h
 simp_all; omega
end
theorem Oe (b:List UInt8) (i:Int):iR b i = 0 \/ iR b i = 1:=by
 have h:(iR b i).toNat < 2:=by rw [sV]; exact jY _ (by decide)
 rcases (show (iR b i).toNat = 0 \/ (iR b i).toNat = 1 by omega) with h | h
 ·exact .inl (cG.1 h)
 ·exact .inr (cG.1 h)
theorem Us (x y:UInt8) (h:∀ j,j < 8->sW x j = sW y j):x = y:=by
 have hz:x ^^^ y = 0:=by
  have h1:=(Gw (x ^^^ y) 0).2 (λj hj _=>by
   have e:=h j hj;apply cG.1;rw [lR,lS,Mq,<- lR,<- lR,e];have:(sW y j).toNat < 2:=by rw [lR]; exact jY _ (by decide)
   show ((sW y j).toNat + (sW y j).toNat) % 2 = 0;omega)
  rw [<- h1]
  rfl
 simp_all
theorem Ux (a b:Vector UInt8 16) (h:∀ i:Int,0 <= i->i < 128->iR a.toList i = iR b.toList i):a = b:=by
 apply ju;intro k hk;refine Us _ _ (λj hj=>?_);have:=h (8 * (k:Int) + j) (by omega) (by omega)
 grind [zJ]
theorem Io:∀ n:Fin 256,∀ l:Fin 9,∀ j:Fin 8,bn (D5 (l.val:Int) (UInt8.ofNat n.val)).toNat (7 - j.val) = if j.val < l.val then bn n.val (7 - j.val) else 0:=by decide +kernel
theorem Xi (x:UInt8) (left:Int) (j:Nat) (hj:j < 8):sW (D5 left x) j = if (j:Int) < left then sW x j else 0:=by
 have key:∀ l:Nat,l < 9->sW _ j = if j < l then sW x j else 0:=λl hl=>by
  have h:=Io ⟨x.toNat,x.toNat_lt⟩ ⟨l,hl⟩ ⟨j,hj⟩;simp only [mX] at h;apply cG.1;rw [lR,h];split
  ·rw [lR]
  ·rfl
 grind [D5]
theorem abR (n:Int) (b:Vector UInt8 16) (i:Int) (h0:0 <= i) (h1:i < 128):iR (mf n b).toList i = if i < n then iR b.toList i else 0:=by
 have e:i = 8 * ((i / 8).toNat:Int) + ((i % 8).toNat:Int):=by omega
 have hk:(i / 8).toNat < 16:=by omega
 rw [e,zJ _ _ _ (by omega),zJ _ _ _ (by omega),yM _ _ hk,yM _ _ hk];have em:(mf n b)[(i / 8).toNat] = D5 (n - 8 * ((i / 8).toNat:Int)) b[(i / 8).toNat]:=by simp [mf]
 grind [Xi]
def pb (p:aw):List Bool:=(List.range p.bits.toNat).map λi:Nat=>decide (iR p.addr.b.toList i = 1)
@[simp] theorem Gk (p:aw):(pb p).length = p.bits.toNat:=by simp [pb]
theorem Ac (p:aw) (i:Nat) (h:i < p.bits.toNat):(pb p)[i]? = some (decide (iR p.addr.b.toList i = 1)):=by simp [pb,h]
theorem F9 (x y:List Bool):x <+: y ↔ x.length <= y.length /\ ∀ i,i < x.length->x[i]? = y[i]?:=by
 constructor
 ·rintro ⟨z,rfl⟩
  grind
 ·rintro ⟨h1,h2⟩;refine ⟨y.drop x.length,?_⟩;have:x = y.take x.length:=by
   apply eZ;intro i
   by_cases hi:i < x.length
   ·rw [h2 i hi,List.getElem?_take_of_lt hi]
   ·rw [fg (by omega),fg (by simp; omega)]
  grind [List.take_append_drop]
theorem G3 {a b:List UInt8} {i j:Int}:decide (iR a i = 1) = decide (iR b j = 1) ↔ iR a i = iR b j:=by
 grind [Oe]
theorem yh (p q:aw) (hp:0 <= p.bits) (hq:0 <= q.bits):pb p <+: pb q ↔ p.bits <= q.bits /\ ∀ i:Int,0 <= i->i < p.bits->iR p.addr.b.toList i = iR q.addr.b.toList i:=by
 rw [F9,Gk,Gk];constructor
 ·rintro ⟨h1,h2⟩;refine ⟨by omega,λi h3 h4=>?_⟩;have:=h2 i.toNat (by omega);rw [Ac p _ (by omega),Ac q _ (by omega)] at this;have e:((i.toNat:Nat):Int) = i:=by omega
  rw [e] at this;exact G3.1 (ak this)
 grind [Ac]
def tV (k:Bool) (p:aw):Prop:=gw p = 0 /\ p.addr.v6 = k
theorem tV.nn {p:aw} (h:tV k p):0 <= p.bits /\ p.bits <= wd p.addr /\ p.bits <= 128:=by
 have:=(j3 p).1 h.1;have:=xA p.addr;omega
def rT (p q:aw):Int:=min (min p.bits q.bits) (pT p.addr.b.toList q.addr.b.toList)
def rG (p q:aw):aw:=⟨⟨p.addr.v6,mf (rT p q) p.addr.b⟩,rT p q⟩
def zK (p q:aw):Bool:=decide (iR q.addr.b.toList p.bits = 1)
theorem Ax {p:aw} (hp:tV k p) (hq:tV k q):0 <= rT p q /\ rT p q <= p.bits /\ rT p q <= q.bits /\ (∀ i:Int,0 <= i->i < rT p q->iR p.addr.b.toList i = iR q.addr.b.toList i) ∧
 (rT p q < p.bits->rT p q < q.bits->iR p.addr.b.toList (rT p q) ≠ iR q.addr.b.toList (rT p q)):=by
 have h:=Ds p.addr.b.toList q.addr.b.toList;have h1:=hp.nn;have h2:=hq.nn;have h3:=h.p;unfold rT;refine ⟨by omega,by omega,by omega,λi i0 i1=>h.eq i i0 (by omega),λl1 l2=>?_⟩;have e:min (min p.bits q.bits) (pT p.addr.b.toList q.addr.b.toList) = pT p.addr.b.toList q.addr.b.toList:=by omega
 rw [e];refine h.ne ?_ ?_ <;> simp <;> omega
theorem Ym {p:aw} (hp:tV k p) (hq:tV k q) {n:Int} (h0:0 <= n) (h1:n <= p.bits) (h2:n <= q.bits) (h3:∀ i:Int,0 <= i->i < n->iR p.addr.b.toList i = iR q.addr.b.toList i)
 (h4:n < p.bits->n < q.bits->iR p.addr.b.toList n ≠ iR q.addr.b.toList n):n = rT p q:=by
 obtain⟨g0,g1,g2,g3,g4⟩:=Ax hp hq
 grind
theorem Yt {p:aw} (hp:tV k p) (hq:tV k q):tV k (rG p q):=by
 obtain⟨g0,g1,g2,g3,g4⟩:=Ax hp hq;have h1:=hp.nn;refine ⟨(j3 _).2 ⟨g0,?_,λi h3 h4=>?_⟩,hp.2⟩
 ·show rT p q <= wd (rG p q).addr;have:wd (rG p q).addr = wd p.addr:=rfl;omega
 ·have hi:rT p q <= i:=h3;show iR (mf (rT p q) p.addr.b).toList i = 0
  grind [abR]
theorem Sg {p:aw} (hp:tV k p) (hq:tV k q) (h:pb p = pb q):p = q:=by
 have h1:=hp.nn;have h2:=hq.nn;have hb:p.bits = q.bits:=by
  have:=aL List.length h;simp at this;omega
 have hpre:=(yh p q h1.1 h2.1).1 (by rw [h]; exact jS _);have hv:=Ux _ _ (λi i0 i1=>by
  rcases ri i p.bits with hi | hi
  ·exact hpre.2 i i0 hi
  ·rw [((j3 p).1 hp.1).2.2 i hi i1,((j3 q).1 hq.1).2.2 i (by omega) i1])
 have hk:=hp.2.trans hq.2.symm;obtain⟨⟨v1,b1⟩,n1⟩:=p
 simp_all
theorem Lm (k:Bool):KeyLaw (tV k) pb rG zK where
 inj:=λp q hp hq h=>Sg hp hq h
 both:=λp q hp hq=>by
  have hb:=Yt hp hq;refine ⟨hb,?_⟩;obtain⟨g0,g1,g2,g3,g4⟩:=Ax hp hq;have h1:=hp.nn;have h2:=hq.nn;have hbit:∀ i:Int,0 <= i->i < rT p q->iR (rG p q).addr.b.toList i = iR p.addr.b.toList i:=λi i0 i1=>by
   show iR (mf (rT p q) p.addr.b).toList i = _;rw [abR _ _ _ i0 (by omega),if_pos i1]
  have c1:pb (rG p q) <+: pb p:=(yh _ _ g0 h1.1).2 ⟨g1,hbit⟩;have c2:=(yh _ _ g0 h2.1).2 ⟨g2,λi i0 i1=>(hbit i i0 i1).trans (g3 i i0 i1)⟩;refine yY (GD _ _ _ c1 c2) ?_;have l1:=(wu (pb p) (pb q)).length_le;have l2:=(Ak (pb p) (pb q)).length_le;rw [Gk] at l1 l2 ⊢;show _ <= (rT p q).toNat
  rcases fZ (rT p q).toNat (D8 (pb p) (pb q)).length with hl | hl
  ·exfalso;have e1:=((F9 _ _).1 (wu _ _)).2 _ hl;have e2:=((F9 _ _).1 (Ak _ _)).2 _ hl;rw [e1,Ac p _ (by omega),Ac q _ (by omega)] at e2;have e:(((rT p q).toNat:Nat):Int) = rT p q:=by omega
   rw [e] at e2;exact g4 (by omega) (by omega) (G3.1 (ak e2))
  omega
 bit:=λp q hp hq hpre hne=>by
  have h1:=hp.nn;have h2:=hq.nn;have hlt:p.bits < q.bits:=by
   have:=((yh p q h1.1 h2.1).1 hpre).1
   rcases ri p.bits q.bits with h | h
   ·exact h
   ·exact absurd (yY hpre (by simp; omega)) hne
  unfold zK nb;rw [Gk,cE,Ac q _ (by omega)]
  grind
theorem yA {p:aw} (hq:tV k q) (hp:tV k p):mP q p = true ↔ pb q <+: pb p:=by
 have h1:=hq.nn;have h2:=hp.nn;unfold mP;rw [yh q p h1.1 h2.1,cF,cF,cn,cn,wG];constructor
 ·grind
 ·rintro ⟨a,b⟩;exact ⟨⟨hp.1,a⟩,hq.1,Bc p hp.1,hp.2.trans hq.2.symm,λi i0 i1=>(b i i0 i1).symm⟩
def ltP (q p:aw):Bool:=decide (q.bits < p.bits)
theorem acj (k:Bool):Hj (tV k) pb mP ltP where
 xU:=λq p hq hp=>yA hq hp
 lt:=λq p hq hp=>by
  have h1:=hq.nn;simp [ltP]; omega
def full (a:bJ):aw:=⟨a,wd a⟩
theorem BR (h:fT a = 0):tV a.v6 (full a):=⟨(j3 _).2 ⟨by have:=xA a; show 0 <= wd a; omega,Int.le_refl _,(qX a).1 h⟩,rfl⟩
theorem wF {p:aw} (h:fT a = 0):vb p a = true ↔ (tV a.v6 p /\ pb p <+: pb (full a)):=by
 constructor
 ·intro hh;obtain⟨h1,h2,h3,h4⟩:=(wG p a).1 hh;have ho:tV a.v6 p:=⟨h1,h3.symm⟩;have h5:=ho.nn;have h6:=(BR h).nn;refine ⟨ho,(yh _ _ h5.1 h6.1).2 ⟨?_,λi i0 i1=>(h4 i i0 i1).symm⟩⟩;show p.bits <= wd a
  grind [wd]
 ·rintro ⟨ho,hpre⟩;have h5:=ho.nn;have h6:=(BR h).nn;exact (wG p a).2 ⟨ho.1,h,ho.2.symm,λi i0 i1=>(((yh _ _ h5.1 h6.1).1 hpre).2 i i0 i1).symm⟩
structure aW where
 p:aw
 v:Int
 has:Bool
 kids:(Vector OV 2)
variable {p:aw} {v:Int}
def aW.to:(aw × (Int × (Bool × (Vector OV 2))))->aW:=λx=>⟨x.1,x.2.1,x.2.2.1,x.2.2.2⟩
def aW.of:aW->(aw × (Int × (Bool × (Vector OV 2)))):=λx=>(x.p,x.v,x.has,x.kids)
def gp:dy aW:=l8 (cW cJ (cW iE (cW bE (mh 2 (dJ dB))))) aW.to aW.of
def aW.NG:aB gp cJ 0:=lI aW.to aW.of l1
@[simp] theorem aW.alV (x:aW):aW.NG.get x = x.p:=rfl
@[simp] theorem aW.akV (x:aW) (y:aw):aW.NG.set x y = { x with p:=y }:=rfl
def aW.Vr:aB gp iE 18:=lI aW.to aW.of (l2 l1)
@[simp] theorem aW.akU (x:aW) (y:Int):aW.Vr.set x y = { x with v:=y }:=rfl
def aW.C1:aB gp bE 19:=lI aW.to aW.of (l2 (l2 l1))
@[simp] theorem aW.ahW (x:aW):aW.C1.get x = x.has:=rfl
@[simp] theorem aW.ahu (x:aW) (y:Bool):aW.C1.set x y = { x with has:=y }:=rfl
def aW.u6:aB gp (mh 2 (dJ dB)) 20:=lI aW.to aW.of (l2 (l2 (l2 (aB.id _))))
@[simp] theorem aW.agy (x:aW):aW.u6.get x = x.kids:=rfl
@[simp] theorem aW.aeM (x:aW) (y:(Vector OV 2)):aW.u6.set x y = { x with kids:=y }:=rfl
structure cT where
 made:Bool
 n:Int
 roots:(Vector OV 2)
def cT.to:(Bool × (Int × (Vector OV 2)))->cT:=λx=>⟨x.1,x.2.1,x.2.2⟩
def cT.of:cT->(Bool × (Int × (Vector OV 2))):=λx=>(x.made,x.n,x.roots)
def kM:dy cT:=l8 (cW bE (cW iE (mh 2 (dJ dB)))) cT.to cT.of
def cT.GH:aB kM bE 0:=lI cT.to cT.of l1
@[simp] theorem cT.agx (x:cT):cT.GH.get x = x.made:=rfl
@[simp] theorem cT.aeL (x:cT) (y:Bool):cT.GH.set x y = { x with made:=y }:=rfl
def cT.l_n:aB kM iE 1:=lI cT.to cT.of (l2 l1)
@[simp] theorem cT.alW (x:cT):cT.l_n.get x = x.n:=rfl
@[simp] theorem cT.akW (x:cT) (y:Int):cT.l_n.set x y = { x with n:=y }:=rfl
def cT.za:aB kM (mh 2 (dJ dB)) 2:=lI cT.to cT.of (l2 (l2 (aB.id _)))
@[simp] theorem cT.adE (x:cT):cT.za.get x = x.roots:=rfl
@[simp] theorem cT.adh (x:cT) (y:(Vector OV 2)):cT.za.set x y = { x with roots:=y }:=rfl
inductive PT where
 | nil:PT
 | node:Nat->aw->Int->Bool->PT->PT->PT
def PT.adr:PT->Option Addr
 | .nil=>none
 | .node b _ _ _ _ _=>some ⟨b,0,none⟩
def PT.ptr (t:PT):OV:=⟨.pointer t.adr,rfl⟩
def PT.tr:PT->Tr aw
 | .nil=>.nil
 | .node _ p v h l r=>.node p v h l.tr r.tr
def kids (l r:PT):Vector OV 2:=#v[l.ptr,r.ptr]
def PT.rQ (b:Bool) (l r:PT):PT:=bif b then r else l
def PT.At (w:World):PT->Prop
 | .nil=>True
 | .node b p v h l r=>eK gp w b 0 (⟨p,v,h,kids l r⟩:aW) /\ l.At w /\ r.At w
theorem PT.At.keep {w w':World}:∀ {t:PT},t.At w->bf fX w w'->t.At w'
 | .nil,_,_=>trivial
 | .node _ _ _ _ _ _,⟨h1,h2,h3⟩,k=>⟨h1.keep k,h2.keep k,h3.keep k⟩
def bI (b:Bool):Int:=bif b then 1 else 0
theorem DD (b:Bool):0 <= bI b /\ bI b < 2:=by cases b <;> decide
theorem BN (l r:PT) (b:Bool) (h:(bI b).toNat < 2):(kids l r)[(bI b).toNat] = (PT.rQ b l r).ptr:=by cases b <;> rfl
theorem PT.At.rQ {w:World} {l r:PT} (hl:l.At w) (hr:r.At w) (b:Bool):(PT.rQ b l r).At w:=by cases b <;> assumption
def PT.bare:PT->PT
 | .nil=>.nil
 | .node b p v h l r=>if h = true \/ (l.adr.isNone = false /\ r.adr.isNone = false) then .node b p v h l r else if l.adr.isNone = false then l else r
def ak8 (p:aw) (v:Int) (h:Bool) (l r:PT):aW:=⟨p,v,h,kids l r⟩
theorem acE (b:List UInt8) (i:Int):((iR b i).toNat:Int) = bI (decide (iR b i = 1)):=by
 rcases Oe b i with h | h <;> rw [h] <;> rfl
theorem Uy (a:bJ) (i:Int) (w:World) (hi:0 <= i /\ i < 128):aR 233 #[iz.val a,I i] w (dO w (I (bI (decide (iR a.b.toList i = 1))))):=by
 refine iZ 16 Tryz.func233 (λ_ _=>?_);refine m15 ?_;refine box aa (λb1=>?_);refine m159 ?_;have h16:(i / 8).toNat < 16:=by omega
 have hq:0 <= (a.b[(i / 8).toNat].toNat:Int) / 2 ^ (7 - i % 8).toNat /\ (a.b[(i / 8).toNat].toNat:Int) / 2 ^ (7 - i % 8).toNat <= 9223372036854775807:=by
  have hx:=a.b[(i / 8).toNat].toNat_lt;have e:((a.b[(i / 8).toNat].toNat:Int) / 2 ^ (7 - i % 8).toNat) = ((a.b[(i / 8).toNat].toNat / 2 ^ (7 - i % 8).toNat:Nat):Int):=by simp
  rw [e];have h1:=kh a.b[(i / 8).toNat].toNat (2 ^ (7 - i % 8).toNat);have h2:∀ y:Nat,y <= 255->0 <= (y:Int) /\ (y:Int) <= 9223372036854775807:=λy hy=>by omega
  exact h2 _ (by omega)
 refine m19 ?_;refine co (Ev.ae7 aa (.c rfl) (λ_=>zo) (λ_=>zo) (λ_=>zo)) ?_;refine m121 ?_;refine co (Ev.gS jQ aa (aB.comp bJ.D9 (rP iO _ (by omega)))) ?_;refine co (Ev.Fy Y3 Y5 aa) ?_;refine mv rfl (co (Ev.aeZ aa (.c rfl) (λ_=>zo) (λ_=>zo)) ?_);refine co (Ev.uh (.c rfl) aa (λ_=>zo)) ?_;refine co (Ev.aeD aa aa (λ_=>zo)) ?_;refine co (Ev.Z6 aa (.c rfl) (λ_=>hq) (λ_=>by decide)) ?_;refine m20 ?_;refine aL I ?_;rw [<- acE];have e:((a.b[(i / 8).toNat].toNat:Int) / 2 ^ (7 - i % 8).toNat) = ((a.b[(i / 8).toNat].toNat / 2 ^ (7 - i % 8).toNat:Nat):Int):=by simp
 have e3:(1:Int).toNat = 1:=rfl;rw [sV,yM _ _ h16,e3,Nat.and_one_is_mod]
 rfl
theorem NJ (a:bJ) (w:World):aR 188 #[iz.val a] w (dO w (I (bI a.v6))):=by
 refine iZ 5 Tryz.func188 (λ_ _=>?_);refine m15 ?_;refine box aa (λb1=>?_);refine m159 ?_;refine m107 ?_;refine nG rfl (λh0=>?_) (λh0=>?_)
 ·refine sg (ac (I 1) ?_);refine m190 ?_;rw [h0]; rfl
 ·refine m228 ?_;rw [h0]; rfl
def Nq (a:bJ) (n:Int):Int:=if fT a ≠ 0 then fT a else if n < 0 \/ wd a < n then 151 else 0
def Vo (a:bJ) (n:Int):aw:=if Nq a n = 0 then ⟨⟨a.v6,mf n a.b⟩,n⟩ else cJ.zero
theorem SL (a:bJ) (n:Int) (w:World) (hn:0 <= n /\ n <= 128) (z:Vector UInt8 16) (hz:mf n a.b = z):aR 163 #[iz.val a,I n] w (dO w (iz.val { a with b:=z })):=by
 subst hz;exact Ah a n w hn
theorem CM (a:bJ) (n:Int) (w:World):aR 243 #[iz.val a,I n] w (dO w (.tuple #[cJ.val (Vo a n),I (Nq a n)])):=by
 refine iZ 27 Tryz.func243 (λ_ _=>?_);refine m15 ?_;refine box aa (λb1=>?_);refine cons (alloc Bh (λb2=>?_));refine m159 ?_;refine sg (co (Ev.gR a mR aa (aB.id _)) ?_);refine m274 ?_;refine m171 ?_;refine nG rfl (λh0=>?_) (λh0=>?_)
 ·refine sg ?_;refine m50 ?_;refine m27 ?_;refine m267 ?_;refine m48 ?_;refine pR ?_;refine m187 ?_;have hc:fT a ≠ 0:=h0;have e1:Nq a n = fT a:=by unfold Nq; rw [if_pos hc]
  simp_all [Vo]
 ·refine m229 ?_;refine m77 ?_;refine m5 ?_;refine cg rfl rfl (Ev.gR a mR aa (aB.id _)) ?_;refine cons (sT rfl rfl eN (.cons (.g rfl id) .nil) (λhg w I=>B5 _ w) ?_);refine m281 ?_;refine nG rfl (λh1=>?_) (λh1=>?_)
  ·refine sg ?_;refine m50 ?_;refine m92 ?_;refine ac (I 151) ?_;refine m62 ?_;refine m187 ?_;have hc:fT a = 0:=by omega
   have hb:n < 0 \/ wd a < n:=by simpa using h1
   have e1:Nq a n = 151:=by unfold Nq; rw [if_neg (by rw [hc]; decide),if_pos hb]
   simp_all [Vo,if_neg]
  ·refine m196 ?_;obtain⟨z,hz⟩:∃ z,mf n a.b = z:=⟨_,rfl⟩;refine region (co (Ev.gR a mR aa (aB.id _)) ?_);refine mv rfl (cons (dg eN (o2 rfl rfl) (λw I=>SL _ _ w (by have:=xA a; grind) z hz) ?_));refine mv rfl (co (Ev.fe (places:=[(0,17),(17,1)]) Bh rfl My zk (.cons aa (.cons aa .nil)) (bB.cons aw.lh rfl (bB.cons aw.lZ rfl bB.nil))) ?_);refine m92 ?_;refine m3 ?_;refine ret ?_;refine m187 ?_;have hc:fT a = 0:=by omega
   have hb:¬ (n < 0 \/ wd a < n):=by simpa using h1
   have e1:Nq a n = 0:=by unfold Nq; rw [if_neg (by rw [hc]; decide),if_neg hb]
   simp_all [Vo,mf]
theorem afu (a:bJ) (n:Int) (w:World) (x:aw) (e:Int) (hx:Vo a n = x) (he:Nq a n = e):aR 243 #[iz.val a,I n] w (dO w (.tuple #[cJ.val x,I e])):=by
 subst hx he;exact CM a n w
theorem acG {a b:Bool} (h:bI a = bI b):a = b:=by cases a <;> cases b <;> first | rfl | cases h
theorem Qh (k:Bool) (p q:aw) (w:World) (hp:tV k p) (hq:tV k q):aR 232 #[cJ.val p,cJ.val q] w (dO w (cJ.val (rG p q))):=by
 have h1:=hp.nn;have h2:=hq.nn;refine iZ 39 Tryz.func232 (λ_ _=>?_);refine m15 ?_;refine box aa (λb1=>?_);refine cons (box aa (λb2=>?_));refine cons (alloc Bh (λb3=>?_));refine nP ?_;refine m156 ?_;refine nP (seq (block (lp (λx=>(0 <= x /\ x <= p.bits /\ x <= q.bits) /\ (∀ i:Int,0 <= i->i < x->iR p.addr.b.toList i = iR q.addr.b.toList i)) (λx=>[dz,(2,true,jc b1),(3,true,jc b2),(4,true,jc b3),(5,true,I x)]) (λx=>[Var b3 cJ cJ.zero 197,Var b2 cJ q 197,Var b1 cJ p 197]) (λx=>(p.bits - x).toNat) (0) ⟨?_,?_⟩ (λx hx=>?_))))
 ·omega
 ·omega
 obtain⟨n,rfl⟩:∃ y,y = x:=⟨x,rfl⟩;obtain⟨hn,hs⟩:(0 <= n /\ n <= p.bits /\ n <= q.bits) /\ (∀ i:Int,0 <= i->i < n->iR p.addr.b.toList i = iR q.addr.b.toList i):=hx;refine seq (seq ?_);refine m47 ?_;refine tk 1 rfl (fA 17 aa) ?_;refine tk 2 rfl (Ev.gR p.bits l9 aa aw.lZ) ?_;refine tk 3 rfl (Ev.rE aa aa) ?_;refine tm 4 rfl rfl ?_;refine m224 ?_;refine jl 6 rfl rfl rfl (fA 17 aa) ?_;refine jl 7 rfl rfl rfl (Ev.gR q.bits l9 (.g rfl id) aw.lZ) ?_;refine jl 8 rfl rfl rfl (Ev.rE (.g rfl id) (.g rfl id)) ?_;refine tk 9 rfl (Ev.D2 aa rfl) ?_;refine tm 10 rfl rfl ?_;refine jl 11 rfl rfl rfl (fA 0 aa) ?_;refine jl 12 rfl rfl rfl (Ev.gR p.addr mR (.g rfl id) aw.lh) ?_;refine jl 13 rfl rfl rfl (Ev.move aa) ?_;refine jl 15 rfl rfl rfl (fA 0 aa) ?_;refine jl 16 rfl rfl rfl (Ev.gR q.addr mR (.g rfl id) aw.lh) ?_;refine jl 17 rfl rfl rfl (Ev.move aa) ?_;refine fB 14 rfl ?_;refine m212 ?_;refine m180 ?_;refine fB 18 rfl ?_;refine m212 ?_;refine m180 ?_;refine jl 19 rfl rfl rfl (Ev.xS (.g rfl id) (.g rfl id)) ?_;refine tk 20 rfl (Ev.D2 aa rfl) ?_;refine m142 ?_;refine nG rfl (λh0=>?_) (λh0=>?_)
 ·have hc:n < p.bits /\ n < q.bits /\ bI (decide (iR p.addr.b.toList n = 1)) = bI (decide (iR q.addr.b.toList n = 1)):=by simpa [and_assoc] using h0
  have hbit:=G3.1 (acG hc.2.2);refine m8 ?_;refine block ?_;refine m34 ?_;refine vK rfl (nil (bN (pN (nx _ ⟨?_,?_⟩ ?_))))
  ·omega
  ·grind
  omega
 ·have hc:n < p.bits->n < q.bits->¬ bI (decide (iR p.addr.b.toList n = 1)) = bI (decide (iR q.addr.b.toList n = 1)):=by simpa using h0
  obtain rfl:n = rT p q:=Ym hp hq hn.1 hn.2.1 hn.2.2 hs (λl1 l2 e=>hc l1 l2 (by grind));have eE:Nq p.addr (rT p q) = 0:=by unfold Nq; rw [if_neg (by rw [Bc p hp.1]; decide),if_neg (by omega)]
  have eV:Vo p.addr (rT p q) = rG p q:=by unfold Vo; rw [eE,if_pos rfl]; rfl
  obtain⟨z,hz⟩:∃ z,rG p q = z:=⟨_,rfl⟩;refine m13 ?_;refine m35 ?_;refine co (Ev.gR p.addr mR aa aw.lh) ?_;refine m27 ?_;refine dg eN (o2 rfl rfl) (λw I=>afu _ _ w z 0 (eV.trans hz) eE) ?_;refine m4 ?_;refine cons (alloc Bh (λb4=>?_));refine m92 ?_;refine m0 ?_;refine m167 ?_;refine m259 ?_
  simp_all
def kU {E:dy α} {b:Nat} {x:α} {T:TypeId} {Rs:List du} (h:∀ r ∈ Rs,r.A w) (hm:Var b E x T ∈ Rs):eK E w b 0 x:=nB (h _ hm)
theorem lC.app {r:du} {L M:List du} (k:List du) (h:lC L r M):lC (k ++ L) r (k ++ M):=by
 obtain⟨A,C,rfl,rfl⟩:=h;exact ⟨k ++ A,C,by simp,by simp⟩
theorem FI (a:bJ) (i:Int) (w:World) (hi:0 <= i /\ i < 128) (z:Bool) (hz:decide (iR a.b.toList i = 1) = z):aR 233 #[iz.val a,I i] w (dO w (I (bI z))):=by
 subst hz;exact Uy a i w hi
theorem Uu (k:Bool) (p q:aw) (w:World) (hp:tV k p) (hq:tV k q) (z:aw) (hz:rG p q = z):aR 232 #[cJ.val p,cJ.val q] w (dO w (cJ.val z)):=by
 subst hz;exact Qh k p q w hp hq
def YJ (t:PT) (R:Tr aw) (x:PT × List du):Prop:=x.1.tr = R /\ ∀ w1,t.At w1->(∀ r ∈ x.2,r.A w1)->x.1.At w1
theorem LU (h:aw.nQ q p = false):q ≠ p:=by simp_all
theorem FZ {x y:aw} {b:Bool} (hx:tV k x) (hy:tV k y) (h:pb x ++ [b] <+: pb y):0 <= x.bits /\ x.bits < 128:=by
 have h1:=h.length_le;have h2:=hx.nn;have h3:=hy.nn;simp at h1;omega
abbrev tf (p:aw) (v:Int) (t:Tr aw):Tr aw × Bool:=t.put rG zK p v
theorem aby {l r:PT} (hl:l.tr.WF (tV k) pb (pb q ++ [false])) (hr:r.tr.WF (tV k) pb (pb q ++ [true])) (b:Bool):(PT.rQ b l r).tr.WF (tV k) pb (pb q ++ [b]):=by cases b <;> assumption
def QU:zI 378 gp:=kI
theorem WA (p:aw) (v:Int) (w:World):aR 189 #[.pointer none,cJ.val p,I v] w (nz w (YJ .nil (tf p v .nil).1) (λx=>.tuple #[x.1.ptr.v,.bool (tf p v .nil).2]) (λx=>x.2)):=by
 refine iZ 132 Tryz.func189 (λ_ _=>?_);refine m15 ?_;refine box aa (λb1=>?_);refine m256 ?_;refine N6 rfl (rfl) ?_;refine m67 ?_;refine box aa (λb2=>?_);refine vK rfl (ac _ ?_);refine m62 ?_;refine done rfl (.tmp rfl (.tmp rfl .nil)) (λw I=>?_);exact lu (PT.node b2 p v true .nil .nil,[Var b2 gp (⟨p,v,true,kids .nil .nil⟩:aW) 378]) ⟨rfl,λw1 _ h=>⟨kU (T:=378) h (by simp),trivial,trivial⟩⟩ rfl zp w I
def aep:ot 346 (mh 2 (dJ dB)):=oq
def Y2:ot 378 gp:=oq
def pA:ot 345 (dJ dB):=oq
theorem Sa (k:Bool) (p:aw) (v:Int) (hp:tV k p) (b:Nat) (q:aw) (u:Int) (h:Bool) (l r:PT) (c:List Bool) (w:World) (sf:(PT.node b q u h l r).At w) (hw:(PT.node b q u h l r).tr.WF (tV k) pb c) (hc:c <+: pb p) (ih:∀ bb c' w',(PT.rQ bb l r).At w'->(PT.rQ bb l r).tr.WF (tV k) pb c'->c' <+: pb p->aR 189 #[(PT.rQ bb l r).ptr.v,cJ.val p,I v] w' (nz w' (YJ (PT.rQ bb l r) (tf p v (PT.rQ bb l r).tr).1) (λx=>.tuple #[x.1.ptr.v,.bool (tf p v (PT.rQ bb l r).tr).2]) (λx=>x.2))):aR 189 #[.pointer (some ⟨b,0,none⟩),cJ.val p,I v] w (nz w (YJ (PT.node b q u h l r) (tf p v (.node q u h l.tr r.tr)).1) (λx=>.tuple #[x.1.ptr.v,.bool (tf p v (.node q u h l.tr r.tr)).2]) (λx=>x.2)):=by
 have hq:=hw.1;refine iZ 132 Tryz.func189 (λ_ _=>?_);refine m15 ?_;refine box aa (λb1=>?_);refine m256 ?_;refine nS rfl (rfl) ?_;refine m196 ?_;refine m93 ?_;refine tk 5 rfl (Ev.acd rfl xn rfl zk aa aa) ?_;refine m142 ?_;refine nG rfl (λh1=>?_) (λh1=>?_)
 ·have Te:q = p:=by simp_all
  refine seq (o9 zk ?_);refine tk 0 rfl (Ev.gS kr aa (aB.id _)) ?_;refine m292 ?_;refine m84 ?_;refine tk 4 rfl (fA 20 aa) ?_;refine tk 5 rfl (Ev.load aep aa (jJ (λw I=>(sf.1).keep I.keeps) aW.u6)) ?_;refine tk 6 rfl (Ev.fe (places:=[(0,18),(18,1),(19,1),(20,2)]) QU rfl YE zk (.cons aa (.cons aa (.cons (.c rfl) (.cons aa .nil)))) (bB.cons aW.NG rfl (bB.cons aW.Vr rfl (bB.cons aW.C1 rfl (bB.cons aW.u6 rfl bB.nil))))) ?_;refine tm 8 rfl rfl ?_;refine tn 9 rfl rfl ?_;refine tk 10 rfl (fA 19 aa) ?_;refine tk 11 rfl (Ev.load x6 aa (jJ (λw I=>(sf.1).keep I.keeps) aW.C1)) ?_;refine tk 12 rfl (Ev.not aa) ?_;refine fB 7 rfl (box aa (λb2=>?_));refine m180 ?_;refine m240 ?_;refine tk 14 rfl (Ev.assign aa) ?_;refine m142 ?_;refine ret (pR (done rfl (.tmp rfl (.tmp rfl .nil)) (λw I=>?_)));have ep:tf p v (.node q u h l.tr r.tr) = (.node p v true l.tr r.tr,!h):=by show Tr.put _ _ _ _ _ = _; rw [Tr.put,if_pos Te]
  exact lu (PT.node b2 p v true l r,[Var b2 gp _ 378]) ⟨by rw [ep]; rfl,λw1 ho hh=>⟨kU (T:=378) hh (by simp),ho.2.1,ho.2.2⟩⟩ (by rw [ep]; rfl) zp w I
 ·have Te:q ≠ p:=LU h1;obtain⟨c0,QK⟩:∃ z,rG q p = z:=⟨_,rfl⟩;have hway:=(Lm k).ways hq hp Te;refine m8 ?_;refine m93 ?_;refine all [5,6] zk (by decide) (.cons rfl ?_ (.cons rfl ?_ .nil))
  ·refine dg eN (o2 rfl rfl) (λw I=>Uu k q p w hq hp c0 QK) ?_;refine m244 ?_;refine alloc Bh (λb3=>?_);exact s0
  ·refine (alloc Bh (λb9=>?_));refine m295 ?_;refine dg eN (o2 rfl rfl) (λw I=>Uu k q p w hq hp c0 QK) ?_;exact s0
theorem KJ (k:Bool) (p:aw) (v:Int) (hp:tV k p):∀ (t:PT) (c:List Bool) (w:World),t.At w->t.tr.WF (tV k) pb c->c <+: pb p->aR 189 #[t.ptr.v,cJ.val p,I v] w (nz w (YJ t (tf p v t.tr).1) (λx=>.tuple #[x.1.ptr.v,.bool (tf p v t.tr).2]) (λx=>x.2))
 | .nil,_,w,_,_,_=>WA p v w
 | .node b q u h l r,c,w,sf,hw,hc=>Sa k p v hp b q u h l r c w sf hw hc (λbb c' w' h1 h2 h3=>by
   cases bb with
   | true=>exact KJ k p v hp r c' w' h1 h2 h3
   | false=>exact KJ k p v hp l c' w' h1 h2 h3)
def KL (b:Bool) (l n:PT):PT:=bif b then l else n
def KR (b:Bool) (n r:PT):PT:=bif b then n else r
abbrev apl (p:aw) (t:Tr aw):Tr aw:=t.cut zK p
structure Tt where
 b:Nat
 made:Bool
 n:Int
 l:PT
 r:PT
variable {b:Nat} {t:Tt}
def Tt.ptr (t:Tt):OV:=⟨.pointer (some ⟨t.b,0,none⟩),rfl⟩
def Tt.val (t:Tt):cT:=⟨t.made,t.n,kids t.l t.r⟩
def Tt.At (w:World) (t:Tt):Prop:=eK kM w t.b 0 t.val /\ t.l.At w /\ t.r.At w
theorem Tt.At.keep {w w':World} {t:Tt} (h:t.At w) (k:bf fX w w'):t.At w':=⟨h.1.keep k,h.2.1.keep k,h.2.2.keep k⟩
def Tt.eY (t:Tt):List (aw × Int):=t.l.tr.eY ++ t.r.tr.eY
structure Tt.OK (t:Tt):Prop where
 made:t.made = true
 n:t.n = t.eY.length
 l:t.l.tr.WF (tV false) pb []
 r:t.r.tr.WF (tV true) pb []
variable {l:List (aw × Int)} {n:Int} {r:PT}
theorem Tt.OK.rQ {t:Tt} (h:t.OK) (k:Bool):(PT.rQ k t.l t.r).tr.WF (tV k) pb []:=by cases k; exact h.l; exact h.r
theorem Tt.At.rQ {w:World} {t:Tt} (h:t.At w) (k:Bool):(PT.rQ k t.l t.r).At w:=PT.At.rQ h.2.1 h.2.2 k
theorem Nh {t:Tr aw} (h:t.WF (tV k) pb c):(t.eY.map (·.1)).Nodup:=by
 have h1:=h.Jd
 grind [NB]
theorem Tt.OK.nodup (h:t.OK):(t.eY.map (·.1)).Nodup:=by
 unfold Tt.eY;rw [eF,List.nodup_append];refine ⟨Nh h.l,Nh h.r,λa ha b hb e=>?_⟩;obtain⟨x,hx,rfl⟩:=iC.1 ha;obtain⟨y,hy,rfl⟩:=iC.1 hb;have h1:=(h.l.oJ x hx).1.2;have h2:=(h.r.oJ y hy).1.2
 grind
theorem Tt.OK.mem (h:t.OK) (x:aw × Int):x ∈ t.eY ↔ x ∈ (PT.rQ x.1.addr.v6 t.l t.r).tr.eY:=by
 unfold Tt.eY;rw [bG];constructor
 ·rintro (hx | hx)
  ·rw [(h.l.oJ x hx).1.2]; exact hx
  ·rw [(h.r.oJ x hx).1.2]; exact hx
 ·intro hx;cases hv:x.1.addr.v6 with
  | false=>rw [hv] at hx; exact .inl hx
  | true=>rw [hv] at hx; exact .inr hx
theorem Tt.OK.Is (h:t.OK) (k:Bool) (x:aw × Int):x ∈ (PT.rQ k t.l t.r).tr.eY ↔ (x ∈ t.eY /\ x.1.addr.v6 = k):=by
 constructor
 ·intro hx;have e:=((h.rQ k).oJ x hx).1.2;exact ⟨(h.mem x).2 (by grind),e⟩
 ·rintro ⟨hx,rfl⟩;exact (h.mem x).1 hx
theorem xN (h:(l.map (·.1)).Nodup):l.Nodup:=by
 rw [List.nodup_iff_pairwise_ne,List.pairwise_map] at h;exact h.imp (λ{a b} hab e=>hab (by rw [e]))
theorem GC {m:List (aw × Int)} (hl:(l.map (·.1)).Nodup) (hm:(m.map (·.1)).Nodup) (h:∀ x,x ∈ m ↔ (x = (p,v) \/ (x ∈ l /\ x.1 ≠ p))) :
 ((∀ x ∈ l,x.1 ≠ p)->m.length = l.length + 1) /\ ((∃ x ∈ l,x.1 = p)->m.length = l.length):=by
 constructor
 ·intro hn;have hp:=(lQ (xN hm) (ki.2 ⟨λhx=>hn _ hx rfl,xN hl⟩)).2 (λx=>by
   rw [h,aE];exact ⟨λg=>g.imp id (·.1),λg=>g.imp id (λg=>⟨g,hn x g⟩)⟩)
  simpa using hp.length_eq
 ·rintro ⟨y,hy,hyp⟩;have hp:=(lQ hm hl).2 (λq=>by
   simp only [iC];constructor
   ·rintro ⟨x,hx,rfl⟩
    rcases (h x).1 hx with rfl | ⟨hx,_⟩
    ·exact ⟨y,hy,hyp⟩
    ·exact ⟨x,hx,rfl⟩
   ·rintro ⟨x,hx,rfl⟩
    by_cases e:x.1 = p
    ·exact ⟨(p,v),(h _).2 (.inl rfl),e.symm⟩
    ·exact ⟨x,(h x).2 (.inr ⟨hx,e⟩),rfl⟩)
  simpa using hp.length_eq
def pO (e:Int) (b:Nat):Option Addr:=if e = 0 then some ⟨b,0,none⟩ else none
def aaa (t:Tt) (p:aw) (v:Int) (x:Tt × List du):Prop:=gw p = 0->(x.1.OK /\ (∀ y,y ∈ x.1.eY ↔ (y = (p,v) \/ (y ∈ t.eY /\ y.1 ≠ p))) /\ ∀ w1,t.At w1->(∀ r ∈ x.2,r.A w1)->x.1.At w1)
def Tt.swap (t:Tt) (b:Nat) (n:Int) (k:Bool) (x:PT):Tt:=⟨b,t.made,n,bif k then t.l else x,bif k then x else t.r⟩
theorem Tt.EE (t:Tt) (b:Nat) (n:Int) (k:Bool) (x:PT) (h:(bI k).toNat < 2):(kids t.l t.r).set (bI k).toNat x.ptr h = kids (t.swap b n k x).l (t.swap b n k x).r:=by cases k <;> rfl
theorem Tt.MV {x:PT} (h:t.At w) (hx:x.At w) (hb:eK kM w b 0 (t.swap b n k x).val):(t.swap b n k x).At w:=⟨hb,by cases k; exact hx; exact h.2.1,by cases k; exact h.2.2; exact hx⟩
theorem Tt.FW (h:t.OK) {x:PT} (hx:x.tr.WF (tV k) pb []) (hn:n = (t.swap b n k x).eY.length):(t.swap b n k x).OK:=⟨h.made,hn,by cases k; exact hx; exact h.l,by cases k; exact h.r; exact hx⟩
theorem Tt.Ru (h:t.OK) {x:PT} (hx:x.tr.WF (tV k) pb []) (y:aw × Int):y ∈ (t.swap b n k x).eY ↔ ((y.1.addr.v6 = k /\ y ∈ x.tr.eY) \/ (y.1.addr.v6 ≠ k /\ y ∈ t.eY)):=by
 have hk:∀ {z:Tr aw} {j:Bool},z.WF (tV j) pb []->y ∈ z.eY->y.1.addr.v6 = j:=λhz hy=>(hz.oJ y hy).1.2
 cases k with
 | false =>
   show y ∈ x.tr.eY ++ t.r.tr.eY ↔ _;unfold Tt.eY;rw [bG,bG];constructor
   ·rintro (hy | hy)
    ·grind
    ·exact .inr ⟨by rw [hk h.r hy]; decide,.inr hy⟩
   ·rintro (hy | ⟨hn,hy | hy⟩)
    ·grind
    ·exact absurd (hk h.l hy) hn
    grind
 | true =>
   show y ∈ t.l.tr.eY ++ x.tr.eY ↔ _;unfold Tt.eY;rw [bG,bG];constructor
   ·rintro (hy | hy)
    ·exact .inr ⟨by rw [hk h.l hy]; decide,.inl hy⟩
    grind
   ·rintro (hy | ⟨hn,hy | hy⟩)
    ·grind
    ·grind
    ·exact absurd (hk h.r hy) hn
theorem Tt.Nd (h:t.OK) {x:PT} (hx:x.tr.WF (tV p.addr.v6) pb []) (hm:∀ y,y ∈ x.tr.eY ↔ (y = (p,v) \/ (y ∈ (PT.rQ p.addr.v6 t.l t.r).tr.eY /\ y.1 ≠ p))) (y:aw × Int) :
 y ∈ (t.swap b n p.addr.v6 x).eY ↔ (y = (p,v) \/ (y ∈ t.eY /\ y.1 ≠ p)):=by
 rw [Tt.Ru h hx,hm,h.Is]
 grind
theorem Rl (t:Tt) (w:World) (ht:eK kM w t.b 0 t.val):aR 187 #[.pointer (some ⟨t.b,0,none⟩)] w (dO w (.bool t.made)):=by
 refine iZ 11 Tryz.func187 (λ_ _=>?_);refine m273 ?_;refine co (Ev.E1 Tryz.underlying204 aa (.c rfl)) ?_;refine m5 ?_;refine m100 ?_;refine m64 ?_;refine cg rfl rfl (Ev.load x6 (.g rfl id) (jJ (λw I=>(ht).keep I.keeps) cT.GH)) ?_;exact s31
def aef:zI 348 kM:=kI
theorem Gs (w:World):aR 134 #[] w (nz w (λx:Tt=>x.OK /\ x.eY = [] /\ x.made = true /\ x.n = 0 /\ x.l = .nil /\ x.r = .nil) (λx=>x.ptr.v) (λx=>[Var x.b kM x.val 348])):=by
 refine iZ 3 Tryz.func134 (λ_ _=>?_);refine m12 ?_;refine sg (co (Ev.fe (places:=[(0,1),(1,1),(2,2)]) aef rfl Tryz.underlying348 zk (.cons (.c rfl) .nil) (bB.cons cT.GH rfl bB.nil)) ?_);refine cons (box aa (λb1=>?_));refine m48 ?_;refine done rfl (.tmp rfl .nil) (λw I=>?_);exact lu (⟨b1,true,0,.nil,.nil⟩:Tt) ⟨⟨rfl,rfl,trivial,trivial⟩,rfl,rfl,rfl,rfl,rfl⟩ rfl zp w I
def Tt.Cg (h:t.OK) {x:PT} (hx:x.tr.WF (tV k) pb []):((t.swap b n k x).eY.map (·.1)).Nodup:=(Tt.FW (b:=b) (n:=((t.swap b 0 k x).eY.length:Int)) h hx rfl).nodup
def Y6:ot 348 kM:=oq
theorem V7 (t:Tt) (p:aw) (v:Int) (w:World) (ht:t.At w) (ho:t.OK) (hn:t.n <= 4611686018427387904):aR 135 #[.pointer (some ⟨t.b,0,none⟩),cJ.val p,I v] w (nz w (aaa t p v) (λx=>.tuple #[.pointer (pO (gw p) x.1.b),I (gw p)]) (λx=>x.2)):=by
 refine iZ 48 Tryz.func135 (λ_ _=>?_);refine m15 ?_;refine box aa (λb1=>?_);refine ac _ ?_;refine m149 ?_;refine m216 ?_;refine nP (nS rfl (by rw [ho.made]; rfl) ?_);refine m196 ?_;refine sg (co (Ev.gR p kr aa (aB.id _)) ?_);refine m193 ?_;refine m171 ?_;refine nG rfl (λh1=>?_) (λh1=>?_)
 ·refine m152 ?_;refine done rfl (.tmp rfl (.tmp rfl .nil)) (λw I=>?_);exact lu (t,[]) (λh=>absurd h h1) (by simp_all [pO,gw]) lP.nil w I
 ·try simp only [nb] at h1
  have hck:gw p = 0:=by omega
  have hbn:=DD p.addr.v6;have hbt:(bI p.addr.v6).toNat < 2:=by omega
  obtain⟨sp1,sp2,sp3,sp4⟩:=(Lm p.addr.v6).Cu (p:=p) ⟨hck,rfl⟩ v (PT.rQ p.addr.v6 t.l t.r).tr [] (ho.rQ _) lT;refine m8 ?_;refine m58 ?_;refine co (Ev.load Y6 aa (jJ (λw I=>((ht).1).keep I.keeps) (aB.id _))) ?_;refine cons (alloc aef (λb2=>?_));refine cons (j8 Y6 (aB.id _) aa aa ?_);refine nP ?_;refine m35 ?_;refine co (Ev.gR p.addr mR aa aw.lh) ?_;refine cons (dg eN (o1 rfl) (λw I=>NJ _ w) ?_);refine m177 ?_;refine o9 zk ?_;refine m11 ?_;refine tk 3 rfl (fA 2 aa) ?_;refine tk 4 rfl (Ev.lj Mw pA aa aa (λ_=>zo)) ?_;refine tk 5 rfl (Ev.to (Ev.load pA aa (jJ (λw I=>((ht).1).keep I.keeps) (aB.comp cT.za (rP _ _ _)))) (aL OV.v (BN t.l t.r p.addr.v6 hbt))) ?_;refine tk 6 rfl (Ev.gR p kr aa (aB.id _)) ?_;refine tm 7 rfl rfl ?_;refine fB 8 rfl (iP (X:=PT × List du) _ _ _ eN (o3 rfl rfl rfl) (λw I=>KJ p.addr.v6 p v ⟨hck,rfl⟩ _ [] w ((ht.keep I.keeps).rQ _) (ho.rQ _) lT) (λx1 va=>?_));refine m101 ?_;refine seq ?_;have hwx:x1.1.tr.WF (tV p.addr.v6) pb []:=by rw [va.1]; exact sp1
  have hmx:=sp3;rw [<- show x1.1.tr = _ from va.1] at hmx;refine m126 ?_;refine cf 2 rfl ?_;refine co (Ev.lj Mw pA aa aa (λ_=>zo)) ?_;refine cons (j8 pA (aB.comp cT.za (rP _ _ (by omega))) aa aa ?_);refine m245 ?_;refine nP ?_;refine nG rfl (λh2=>?_) (λh2=>?_)
  ·have uK:∀ y ∈ t.eY,y.1 ≠ p:=λy hy e=>sp4.1 h2 y (by rw [<- e]; exact (ho.mem y).1 hy) e
   refine region ?_;refine m277 ?_;refine co (Ev.gS l9 aa cT.l_n) ?_;refine co (Ev.lx aa (.c rfl) (λ_=>by show Fit (t.n + 1); have:=ho.n; omega)) ?_;refine m277 ?_;refine cons (j8 l9 cT.l_n aa aa ?_);refine nP (sg ?_);refine m52 ?_;refine done rfl (.tmp rfl (.tmp rfl .nil)) (λw I=>?_);have qT:=Tt.Nd (b:=b2) (n:=(t.n + 1)) ho hwx hmx;have hln:=GC ho.nodup (Tt.Cg ho hwx) qT;have hcnt:(t.n + 1) = (t.swap b2 (t.n + 1) p.addr.v6 x1.1).eY.length:=by
    have h8:=ho.n;have h7:=hln.1 uK;omega
   refine lu ((t.swap b2 _ p.addr.v6 x1.1),Var b2 kM _ 348 :: x1.2) (λ_=>⟨Tt.FW ho hwx hcnt,qT,λw1 hw1 hh=>Tt.MV hw1 (va.2 w1 (hw1.rQ _) (λq hq=>hh q (aF _ hq))) (kU hh ah)⟩) (by show _ = Value.tuple #[.pointer (pO (gw p) (t.swap b2 (t.n + 1) p.addr.v6 x1.1).b),Gx.I (gw p)]; unfold pO; rw [if_pos hck,hck]; rfl) ?_ w I;unfold Tt.val;rw [<- Tt.EE t b2 (t.n + 1) p.addr.v6 x1.1 hbt];exact s52
  ·have uK:∃ y ∈ t.eY,y.1 = p:=by
    rcases Classical.em (∃ y ∈ t.eY,y.1 = p) with g | g
    ·exact g
    ·exfalso;have:=sp4.2 (λy hy e=>g ⟨y,((ho.Is _ y).1 hy).1,e⟩);rw [show (tf p v (PT.rQ p.addr.v6 t.l t.r).tr).2 = false from h2] at this;cases this
   refine m153 ?_;refine m52 ?_;refine done rfl (.tmp rfl (.tmp rfl .nil)) (λw I=>?_);have qT:=Tt.Nd (b:=b2) (n:=t.n) ho hwx hmx;have hln:=GC ho.nodup (Tt.Cg ho hwx) qT;have hcnt:t.n = (t.swap b2 t.n p.addr.v6 x1.1).eY.length:=by
    have h8:=ho.n;have h7:=hln.2 uK;omega
   refine lu ((t.swap b2 t.n p.addr.v6 x1.1),Var b2 kM _ 348 :: x1.2) (λ_=>⟨Tt.FW ho hwx hcnt,qT,λw1 hw1 hh=>Tt.MV hw1 (va.2 w1 (hw1.rQ _) (λq hq=>hh q (aF _ hq))) (kU hh ah)⟩) (by show _ = Value.tuple #[.pointer (pO (gw p) (t.swap b2 t.n p.addr.v6 x1.1).b),Gx.I (gw p)]; unfold pO; rw [if_pos hck,hck]; rfl) ?_ w I;unfold Tt.val;rw [<- Tt.EE t b2 t.n p.addr.v6 x1.1 hbt];exact s52
def PT.mV (p:aw):PT->List PT
 | .nil=>[]
 | .node b q u h l r=>if mP q p = true then .node b q u h l r :: (if ltP q p = true then (if zK q p = true then r.mV p else l.mV p) else []) else []
def PT.key:PT->aw × Int × Bool
 | .nil=>(cJ.zero,0,false)
 | .node _ q u h _ _=>(q,u,h)
def PT.size:PT->Nat
 | .nil=>0
 | .node _ _ _ _ l r=>l.size + r.size + 1
theorem PT.S6 (bb:Bool) (b:Nat) (q:aw) (u:Int) (h:Bool) (l r:PT):(PT.rQ bb l r).size < (PT.node b q u h l r).size:=by grind [rQ,size]
theorem PT.aas {l:PT} (hc:mP q p = false):PT.mV p (.node b q u h l r) = []:=by grind [PT.mV]
theorem PT.VV {l:PT} (hc:mP q p = true) (hl:¬ q.bits < p.bits):PT.mV p (.node b q u h l r) = [.node b q u h l r]:=by
 simp_all [ltP,dF,PT.mV,if_pos,if_neg]
theorem PT.B7 {l:PT} {bb:Bool} (hc:mP q p = true) (hl:q.bits < p.bits) (hb:zK q p = bb):PT.mV p (.node b q u h l r) = .node b q u h l r :: PT.mV p (PT.rQ bb l r):=by
 have e:ltP q p = true:=ia hl;subst hb;rw [PT.mV,if_pos hc,if_pos e];cases zK q p <;> rfl
theorem PT.FT (p:aw):∀ t:PT,(t.mV p).map PT.key = t.tr.path mP ltP zK p
 | .nil=>rfl
 | .node b q u h l r=>by
   have h1:=PT.FT p l;have h2:=PT.FT p r;simp only [PT.mV,PT.tr,Tr.path];split
   ·split
    ·split
     ·rw [dq,h2]; rfl
     ·rw [dq,h1]; rfl
    ·rfl
   ·rfl
theorem PT.vP {p:aw}:∀ {t:PT} {x:PT},x ∈ t.mV p->∃ b q u h l r,x = .node b q u h l r
 | .nil,x,hx=>by trivial
 | .node b q u h l r,x,hx=>by
   simp only [PT.mV] at hx;split at hx
   ·rcases aE.1 hx with rfl | hx
    ·simp
    ·split at hx
     ·split at hx
      ·exact PT.vP hx
      ·exact PT.vP hx
     trivial
   trivial
theorem PT.B8 {p:aw} {w:World}:∀ {t:PT} {x:PT},t.At w->x ∈ t.mV p->x.At w
 | .nil,x,_,hx=>by trivial
 | .node b q u h l r,x,sf,hx=>by
   simp only [PT.mV] at hx;split at hx
   ·rcases aE.1 hx with rfl | hx
    ·omega
    ·split at hx
     ·split at hx
      ·exact PT.B8 sf.2.2 hx
      ·exact PT.B8 sf.2.1 hx
     trivial
   trivial
theorem PT.split (p:aw) (t:PT):t = .nil \/ (∃ b q u h l r,t = .node b q u h l r /\ mP q p = false) \/ (∃ b q u h l r,t = .node b q u h l r /\ mP q p = true):=by
 cases t with
 | nil=>simp
 | node b q u h l r =>
   grind
def Vd (t:Tt) (p:aw) (bt bp:Nat) (w:World):Prop:=t.At w /\ eK (dJ dB) w bt 0 t.ptr /\ eK cJ w bp 0 p
abbrev Yf:PT->List Value:=λx=>[x.ptr.v]
def MO:ot 204 (dJ dB):=oq
theorem PW {σ:Type} (S:σ->du) (ok:PT->σ->Prop) (J:PT->σ->Bool × σ->Prop) (yv:Value) (w:World) (s:σ) (t:Tt) (p:aw) (bt bp:Nat) (hp:gw p = 0) (hf:∀ w',bf (S s).c9 w w'->Vd t p bt bp w') (hl:U5 ok J (PT.mV p (PT.rQ p.addr.v6 t.l t.r)) s) (sf:At (S s) w) (uK:fr <= w.heap.size) (hfb:∀ b,(S s).c9 b->fr <= b) (hY:BX X fr Tryz.prog yv Yf w (S s).c9 ok S J):iQ X fr Tryz.prog 271 #[yv,.pointer (some ⟨bt,0,none⟩),.pointer (some ⟨bp,0,none⟩)] w (mE w (S s) (FN J (PT.mV p (PT.rQ p.addr.v6 t.l t.r)) s) (λ_=>.tuple #[]) S):=by
 refine wM 51 [S s] Tryz.func271 rfl rfl (aT rfl) uK hfb (uj sf _) ?_;refine seq ?_;have hbn:=DD p.addr.v6;have hbt:(bI p.addr.v6).toNat < 2:=by omega
 refine o9 zk ?_;refine tk 0 rfl (Ev.to (v':=.pointer _) (Ev.load MO aa (jJ (λw I=>(hf w I.keeps).2.1) (aB.id _))) (rfl)) ?_;refine m205 ?_;refine tn 4 rfl rfl ?_;refine tk 5 rfl (fA 2 aa) ?_;refine fB 3 rfl (dg eN (o1 rfl) (λw I=>NJ p.addr w) ?_);refine m180 ?_;refine tk 6 rfl (Ev.lj Mw pA aa aa (λ_=>zo)) ?_;refine tk 7 rfl (Ev.to (Ev.load pA aa (jJ (λw I=>(hf w I.keeps).1.1) (aB.comp cT.za (rP _ _ _)))) (aL OV.v (BN t.l t.r p.addr.v6 hbt))) ?_;refine tk 8 rfl (Ev.assign aa) ?_;refine D3 (pN (block (lp (λx=>(∀ w',bf (S s).c9 w w'->x.1.At w') /\ (∀ z,FN J (PT.mV p x.1) x.2 z->FN J (PT.mV p (PT.rQ p.addr.v6 t.l t.r)) s z) /\ (U5 ok J (PT.mV p x.1) x.2)) (λx=>[dz,(0,true,yv),(1,true,jc bt),(2,true,jc bp),(4,true,x.1.ptr.v)]) (λx=>[S x.2]) (λx=>x.1.size) ((PT.rQ p.addr.v6 t.l t.r),s) ⟨?_,?_,?_⟩ (λx hx=>?_))))
 ·exact λw1 k=>(hf w1 k).1.rQ _
 ·simp
 ·exact hl
 obtain⟨cur,s1⟩:=x;dsimp only at hx;obtain⟨hc,hr,hlv⟩:=hx;refine seq (seq ?_)
 rcases PT.split p cur with rfl | ⟨b,q,u,h,l,r,rfl,Ts⟩ | ⟨b,q,u,h,l,r,rfl,Ts⟩
 ·refine draw ([]:List du) zk ?_;refine m202 ?_;refine tk 1 rfl (Ev.to (v':=.bool false) (Ev.E1 YF aa (.c rfl)) (rfl)) ?_;refine m222 ?_;refine jl 3 rfl rfl rfl (Ev.Hu (v:=.bool false) rfl) ?_;refine jl 4 rfl rfl rfl (Ev.Hu (v:=.bool false) rfl) ?_;refine jl 5 rfl rfl rfl (Ev.Hu (v:=.bool false) rfl) ?_;refine jl 6 rfl rfl rfl (Ev.Hu (v:=.bool false) rfl) ?_;refine jl 7 rfl rfl rfl (Ev.Hu (v:=.bool false) rfl) ?_;refine jl 8 rfl rfl rfl (Ev.Hu (v:=.bool false) rfl) ?_;refine tk 9 rfl (Ev.to (v':=.bool false) (Ev.D2 aa rfl) (rfl)) ?_;refine m7 ?_;refine zA rfl .nil (λw I=>?_);exact D1 s1 (hr _ rfl) rfl zm w I
 ·refine m14 ?_;refine m7 ?_;refine zA rfl .nil (λw I=>?_);exact D1 s1 (hr _ (by rw [PT.aas Ts]; rfl)) rfl (by simp) w I
 ·have ajf:ok (PT.node b q u h l r) s1:=by
   have h9:=hlv;rw [PT.mV,if_pos Ts] at h9;exact h9.1
  refine m14 ?_;refine tm 10 rfl rfl ?_;refine jl 11 rfl rfl rfl (Ev.move aa) ?_;refine jl 12 rfl rfl rfl (Ev.to (v':=.pointer (some _)) (Ev.move aa) (rfl)) ?_;refine fB 13 rfl (afr rfl rfl rfl (agV (vs:=Yf _) _ _ (λq=>mS.head) ah aa (.cons aa .nil) (λw I=>hY.call ajf zm w I) (λq1 hq1=>?_)));refine m180 ?_;refine tk 14 rfl (Ev.to (v':=.bool q1.1) (Ev.D2 aa rfl) (rfl)) ?_;refine tm 15 rfl rfl ?_;refine jl 16 rfl rfl rfl (Ev.to (v':=.pointer (some _)) (Ev.move aa) (rfl)) ?_;refine jl 17 rfl rfl rfl (Ev.nilCheck (.g rfl id)) ?_;refine jl 18 rfl rfl rfl (fA 0 (.g rfl id)) ?_;refine jl 19 rfl rfl rfl (fA 17 (.g rfl id)) ?_;refine jl 20 rfl rfl rfl (Ev.load l9 (.g rfl id) (jJ (λw I=>(hc w I.keeps).1) (aB.comp aW.NG aw.lZ))) ?_;refine jl 21 rfl rfl rfl (fA 17 aa) ?_;refine jl 22 rfl rfl rfl (Ev.load l9 (.g rfl id) (jJ (λw I=>(hf w I.keeps).2.2) aw.lZ)) ?_;refine jl 23 rfl rfl rfl (Ev.rE (.g rfl id) (.g rfl id)) ?_;refine tk 24 rfl (Ev.D2 aa rfl) ?_;refine m142 ?_;refine nG rfl (λh0=>?_) (λh0=>?_)
  ·have hq:q1.1 = true /\ q.bits < p.bits:=by
    have h9:=Bool.and_eq_true_iff.1 h0;exact ⟨h9.1,dF h9.2⟩
   obtain⟨bb,hbb⟩:∃ z,zK q p = z:=⟨_,rfl⟩;have aow:=DD bb;have hbb2:(bI bb).toNat < 2:=by omega
   have hq0:0 <= q.bits /\ q.bits < 128:=by
    have abQ:=Ts;unfold mP at abQ;simp only [cF] at abQ;have h1:=(j3 q).1 ((wG _ _).1 abQ.2).1;have h2:=(j3 p).1 hp;have:=xA p.addr;omega
   refine m21 ?_;refine m210 ?_;refine o9 zk ?_;refine tk 0 rfl (Ev.to (v':=.pointer (some _)) (Ev.move aa) (rfl)) ?_;refine m205 ?_;refine tk 3 rfl (Ev.to (v':=.pointer (some _)) (Ev.move aa) (rfl)) ?_;refine tn 4 rfl rfl ?_;refine tk 5 rfl (fA 0 aa) ?_;refine tk 6 rfl (fA 17 aa) ?_;refine tk 7 rfl (Ev.load l9 aa (jJ (λw I=>(hc w I.keeps).1) (aB.comp aW.NG aw.lZ))) ?_;refine tn 9 rfl rfl ?_;refine tk 10 rfl (fA 20 aa) ?_;refine fB 8 rfl (dg eN (o2 rfl rfl) (λw I=>FI _ _ w hq0 bb hbb) ?_);refine m180 ?_;refine tk 11 rfl (Ev.lj Mw pA aa aa (λ_=>zo)) ?_;refine tk 12 rfl (Ev.to (Ev.load pA aa (jJ (λw I=>(hc w I.keeps).1) (aB.comp aW.u6 (rP _ _ _)))) (aL OV.v (BN l r bb hbb2))) ?_;refine m240 ?_;refine D3 (pN (nx ((PT.rQ bb l r),q1.2) ⟨?_,?_,?_⟩ ?_))
   ·exact λw1 k=>PT.At.rQ (hc w1 k).2.1 (hc w1 k).2.2 bb
   ·exact λz hz=>hr z (by rw [PT.B7 Ts hq.2 hbb]; exact ⟨q1,hq1,by grind⟩)
   ·rw [PT.B7 Ts hq.2 hbb] at hlv;exact hlv.2 _ hq1 hq.1
   simp [PT.S6]
  ·have hq:¬ (q1.1 = true /\ q.bits < p.bits):=λe=>by
    have h9:(q1.1 && decide (q.bits < p.bits)) = false:=h0;rw [e.1,ia e.2] at h9;cases h9
   refine m102 ?_;refine zA rfl .nil (λw I=>?_);refine D1 q1.2 (hr _ ?_) rfl zm w I
   by_cases hlt:q.bits < p.bits
   ·rw [PT.B7 Ts hlt rfl];exact ⟨q1,hq1,by grind⟩
   ·rw [PT.VV Ts hlt];refine ⟨q1,hq1,?_⟩;split
    ·rfl
    ·rfl
theorem PY (t:Tt) (p:aw) (hp:gw p = 0) (bt bp:Nat) (w0:World) (M:Nat->Prop) (hf:∀ w',bf M w0 w'->Vd t p bt bp w'):MB X fr Tryz.prog (Mp 271 [] [.pointer (some ⟨bt,0,none⟩),.pointer (some ⟨bp,0,none⟩)]).v Yf w0 M (PT.mV p (PT.rQ p.addr.v6 t.l t.r)):=λσ S ok J yv w s hl hk hfo sf uK hfb hY =>
 vl.of (Gx.dV.mk' zk) (PW S ok J yv.v w s t p bt bp hp (λw' k=>hf w' (hk.trans' k (λi hi hm=>(hfo i hm).resolve_left (by omega)))) hl sf uK hfb hY)
theorem Yg (t:Tt) (p:aw) (w:World):aR 270 #[t.ptr.v,cJ.val p] w (nz w (λ_:Nat × Nat=>True) (λx=>(Mp 271 [] [.pointer (some ⟨x.1,0,none⟩),.pointer (some ⟨x.2,0,none⟩)]).v) (λx=>[Var x.2 cJ p 197,Var x.1 (dJ dB) t.ptr 204])):=by
 refine iZ 6 Tryz.func270 (λ_ _=>?_);refine m15 ?_;refine box (E:=(dJ dB)) aa (λb1=>?_);refine cons (box aa (λb2=>?_));refine ac Go.Value.nilFunc ?_;refine nP (sg (co (Ev.makeFunc (f:=271) (.cons aa (.cons aa .nil))) ?_));refine m48 ?_;refine done rfl (.tmp rfl .nil) (λw I=>?_);exact lu (b1,b2) trivial rfl zp w I
theorem Z1:∀ {xs:List PT} {s t:PT},q8 (λx s s'=>s' = if x.key.2.2 = true then x else s) xs s t->t = ((xs.filter (λx=>x.key.2.2)).getLast?).getD s
 | [],s,t,h=>h
 | x :: xs,s,t,⟨q,h1,h⟩=>by
   have h2:=Z1 h
   grind
def Tt.find (t:Tt) (a:bJ):Option (aw × Int):=(PT.rQ a.v6 t.l t.r).tr.Qk mP ltP zK (full a)
def qV (t:Tt) (a:bJ):aw × Int × Bool:=if fT a = 0 then (match t.find a with | some x=>(x.1,x.2,true) | none=>(cJ.zero,0,false)) else (cJ.zero,0,false)
theorem TL (t:Tt) (a:bJ):t.find a = (((PT.mV (full a) (PT.rQ a.v6 t.l t.r)).filter (λx=>x.key.2.2)).getLast?).map (λx=>(x.key.1,x.key.2.1)):=by
 unfold Tt.find Tr.Qk;rw [<- PT.FT,List.filter_map,List.getLast?_map,Option.map_map]
 rfl
theorem K7 (a:bJ):Nq a (wd a) = fT a:=by
 have:=xA a
 grind [Nq]
theorem abc (h:fT a = 0):Vo a (wd a) = full a:=by
 have h2:mf (wd a) a.b = a.b:=by
  unfold fT at h;split at h
  ·assumption
  ·cases h
 unfold Vo;rw [K7,if_pos h,h2]
 rfl
theorem PN {z s:PT} (hz:z = .nil) (h:s = (((PT.mV (full a) (PT.rQ a.v6 t.l t.r)).filter (λx=>x.key.2.2)).getLast?).getD z):(s = .nil /\ t.find a = none) \/ (s ∈ PT.mV (full a) (PT.rQ a.v6 t.l t.r) /\ t.find a = some (s.key.1,s.key.2.1)):=by
 grind [TL,PT.mV,full]
def aim:zI 345 (dJ dB):=kI
theorem X4 (t:Tt) (a:bJ) (w:World) (ht:t.At w) (ho:t.OK):aR 269 #[t.ptr.v,iz.val a] w (dO w (.tuple #[cJ.val (qV t a).1,I (qV t a).2.1,.bool (qV t a).2.2])):=by
 refine Yd 48 Tryz.func269 rfl rfl (aT rfl) (λ_ _=>?_);refine m15 ?_;refine box aa (λb1=>?_);refine cons (alloc Bh (λb2=>?_));refine ac (I 0) ?_;refine m98 ?_;refine sg (ac (I 32) ?_);refine nP (cut (λx=>(x = wd a)) (λx=>[dz,(0,true,jc t.b),(3,true,jc b1),(4,true,jc b2),(5,true,I 0),(6,true,.bool false),(7,true,I x)]) (λx=>[Var b2 cJ cJ.zero 197,Var b1 iz a 55,Dm []]) ?_ (λx hx=>?_))
 ·refine m107 ?_;refine nG rfl (λh0=>?_) (λh0=>?_)
  ·refine region (ac (I 128) ?_);refine nP (mt (_) ?_)
   grind [wd]
  ·refine m86 ?_
   grind [wd]
 obtain⟨n,rfl⟩:∃ y,y = x:=⟨x,rfl⟩;have hn:=hx;clear hx;refine seq ?_;obtain⟨z,hz⟩:∃ z,Vo a n = z:=⟨_,rfl⟩;obtain⟨e0,he⟩:∃ z,Nq a n = z:=⟨_,rfl⟩;refine region (co (Ev.gR a mR aa (aB.id _)) ?_);refine m27 ?_;refine dg eN (o2 rfl rfl) (λw I=>afu _ _ w z e0 hz he) ?_;refine m4 ?_;refine cons (alloc Bh (λb3=>?_));refine m92 ?_;refine m174 ?_;refine m216 ?_;refine m5 ?_;refine m72 ?_;refine m25 ?_;refine nP ?_;refine nG rfl (λh1=>?_) (λh1=>?_)
 ·refine m115 ?_;have hc:fT a ≠ 0:=by
   have h9:(!t.made) = true \/ e0 ≠ 0:=by simpa using h1
   rw [ho.made] at h9
   rcases h9 with h9 | h9
   ·cases h9
   ·rw [<- he,hn,K7] at h9; exact h9
  simp_all [qV]
 ·have hca:fT a = 0:=by
   have h9:(!t.made) = false /\ e0 = 0:=by simpa using h1
   rw [<- K7,<- hn,he]; exact h9.2
  have hzf:z = full a:=by rw [<- hz,hn]; exact abc hca
  have hzc:gw z = 0:=by rw [hzf]; exact (BR hca).1
  refine m200 ?_;refine alloc aim (λb4=>?_);refine m245 ?_;refine co (Ev.gS kr aa (aB.id _)) ?_;refine cons (iP _ _ _ eN (o2 rfl rfl) (λw I=>Yg t z w) (λx1 _=>?_));refine nP (block (aaW (ζ:=Unit) (m:=[]) (ps:=[31]) Yf (λs:PT=>Var b4 (dJ dB) s.ptr 345) PT.nil _ (λx s s'=>s' = if x.key.2.2 = true then x else s) (λ_ _ _ _=>False) (λx z=>[dz,(10,true,.pointer (some ⟨b4,0,none⟩)),(11,true,x.ptr.v)]) (λx z=>([]:List du)) (λ_=>True) trivial (λ_ _ _ _ _=>trivial) zr zr rfl aa ⟨271,[],_,rfl⟩ (λ_=>rfl) rfl (λw I hb=>PY t z hzc x1.1 x1.2 w _ (λw1 k=>⟨ht.keep (hb w1 k).keeps,ed (E':=dJ dB) zm (aB.id _) w1 (hb w1 k),ed (E':=cJ) zm (aB.id _) w1 (hb w1 k)⟩)) (λl x w=>?_) (λl x s zv n0 w hx QI hinv hft hb=>?_) (λs D hr=>?_) (λc s D hr=>?_)))
  ·refine region (vK rfl (nil (gd () (by repeat first | exact Sub.nil | refine Sub.cons rfl ?_) zs)))
  ·obtain⟨b,q,u,h,l,r,rfl⟩:=PT.vP hx;refine block (sg (co (Ev.to (v':=.pointer (some _)) (Ev.move aa) (rfl)) ?_));refine m248 ?_;refine cf 19 rfl ?_;refine co (Ev.load x6 aa (jJ (λw I=>(PT.B8 ((ht.keep (hb w I.keeps).keeps).rQ z.addr.v6) hx).1) aW.C1)) ?_;refine nP ?_;refine nG rfl (λh2=>?_) (λh2=>?_)
   ·refine m19 ?_;refine cons (j8 pA (aB.id _) aa aa ?_);refine nil (bN ?_);exact rdN QI _ (by rw [if_pos (show (PT.node b q u h l r).key.2.2 = true from h2)]) mH
   ·refine skip (bN ?_);exact rdN QI s (by rw [if_neg (show ¬ (PT.node b q u h l r).key.2.2 = true from by rw [show (PT.node b q u h l r).key.2.2 = h from rfl,show h = false from h2]; exact cL)]) mH
  ·have hfd:=Z1 hr;rw [hzf] at hfd;have hfn:=PN rfl hfd;refine bN (pN (seq (sg (co (Ev.to (v':=.pointer s.adr) (Ev.gS pA aa (aB.id _)) (rfl)) ?_))));refine co (Ev.TX YF aa (.c rfl)) ?_;refine nP ?_;refine nG rfl (λh3=>?_) (λh3=>?_)
   ·refine m115 ?_;have hg:t.find a = none:=by
     rcases hfn with g | ⟨g,_⟩
     ·exact g.2
     ·obtain⟨b,q,u,h,l,r,rfl⟩:=PT.vP g;cases h3
    simp_all [qV]
   ·refine m196 ?_;replace hfn:=hfn.resolve_left (λg=>by rw [g.1] at h3; cases h3);obtain⟨b,q,u,h,l,r,rfl⟩:=PT.vP hfn.1;have hsx:PT.node b q u h l r ∈ PT.mV z (PT.rQ z.addr.v6 t.l t.r):=by rw [hzf]; exact hfn.1
    refine vE 4 rfl zr zk ?_;refine tk 0 rfl (Ev.to (v':=.pointer (some _)) (Ev.gS pA aa (aB.id _)) (rfl)) ?_;refine tn 1 rfl rfl ?_;refine tk 2 rfl (fA 0 aa) ?_;refine tk 3 rfl (Ev.load kr aa (jJ (λw I=>(PT.B8 ((ht.keep I.keeps).rQ z.addr.v6) hsx).1) aW.NG)) ?_;refine tk 4 rfl (Ev.to (v':=.pointer (some _)) (Ev.gS pA aa (aB.id _)) (rfl)) ?_;refine tn 5 rfl rfl ?_;refine tk 6 rfl (fA 18 aa) ?_;refine tk 7 rfl (Ev.load l9 aa (jJ (λw I=>(PT.B8 ((ht.keep I.keeps).rQ z.addr.v6) hsx).1) aW.Vr)) ?_;refine fB 8 rfl ?_;refine m267 ?_;refine m180 ?_;refine m254 ?_;refine m257 ?_;unfold qV; rw [if_pos hca,hfn.2]; rfl
  ·exfalso;have:∀ (xs:List PT) (s0 s:PT),JV (λx s s'=>s' = if x.key.2.2 = true then x else s) (λ_ _ _ _=>False) c xs s0 s->False:=by
    intro xs
    induction xs with
    | nil=>intro _ _ h; exact h
    | cons x xs ih=>rintro s0 s (h | ⟨q,_,h⟩)
                    ·exact h
                    ·exact ih _ _ h
   grind
theorem ae9 {x:Tt} (ho:t.OK) (hx:x.OK) (h:∀ y,y ∈ x.eY ↔ (y = (p,v) \/ (y ∈ t.eY /\ y.1 ≠ p))):x.n <= t.n + 1:=by
 have h1:=GC ho.nodup hx.nodup h;rw [ho.n,hx.n]
 rcases Classical.em (∃ y ∈ t.eY,y.1 = p) with g | g
 ·grind
 grind
def rL (l:List dk):aw × Int->Prop:=l.foldl (λQ r y=>y = (r.qi,r.out) \/ (Q y /\ y.1 ≠ r.qi)) (λ_=>False)
theorem yT (l:List dk) (r:dk) (y:aw × Int):rL (l ++ [r]) y ↔ (y = (r.qi,r.out) \/ (rL l y /\ y.1 ≠ r.qi)):=by
 simp [rL]
def QE (l:List dk):Int:=if l.all (λr=>decide (gw r.qi = 0)) = true then 0 else 151
theorem Qe (p:aw):gw p = 0 \/ gw p = 151:=by
 grind [gw]
def ag5 (l:List dk) (x:Tt × List du):Prop:=QE l = 0->(x.1.OK /\ (∀ y,y ∈ x.1.eY ↔ rL l y) /\ x.1.n <= l.length /\ ∀ w1,(∀ r ∈ x.2,r.A w1)->x.1.At w1)
theorem Kq (l:List α) (i:Int) (h0:0 <= i) (h1:i < l.length) (z:α):l.take (i + 1).toNat = l.take i.toNat ++ [l.getD i.toNat z]:=by
 simp_all; omega
theorem S7 (h:(l.map (·.1)).Nodup) {a b:aw × Int} (ha:a ∈ l) (hb:b ∈ l) (e:a.1 = b.1):a = b:=by
 induction l with
 | nil=>grind
 | cons z l ih =>
   grind
theorem find_spec (ho:t.OK) (a:bJ):(∃ x ∈ t.eY,vb x.1 a = true /\ qV t a = (x.1,x.2,true) /\ ∀ y ∈ t.eY,vb y.1 a = true->mP y.1 x.1 = true) \/ (qV t a = (cJ.zero,0,false) /\ ∀ y ∈ t.eY,vb y.1 a = false):=by
 by_cases hc:fT a = 0
 ·have hk:=Lm a.v6;have cl:=acj a.v6;have hfo:=BR hc;cases hb:t.find a with
  | none =>
    refine .inr ⟨by grind [qV],λy hy=>?_⟩;have hn:=hk.Qj cl hfo (ho.rQ a.v6) hb;cases hh:vb y.1 a with
    | false=>rfl
    | true =>
      have h2:=(wF hc).1 hh;exact absurd h2.2 (hn y ((ho.Is _ y).2 ⟨hy,h2.1.2⟩))
  | some x =>
    obtain⟨h1,h2,h3⟩:=hk.Qi cl hfo (ho.rQ a.v6) hb;have hx:=(ho.Is _ x).1 h1;have hox:=((ho.rQ a.v6).oJ x h1).1;refine .inl ⟨x,hx.1,(wF hc).2 ⟨hox,h2⟩,by grind [qV],λy hy hh=>?_⟩;have h4:=(wF hc).1 hh;exact (yA h4.1 hox).2 (h3 y ((ho.Is _ y).2 ⟨hy,h4.1.2⟩) h4.2)
 simp_all [qV,if_neg,vb]
theorem X5 (ho:t.OK) {x:aw × Int} (hx:x ∈ t.eY) (hh:vb x.1 a = true) (hm:∀ y ∈ t.eY,vb y.1 a = true->y.1.bits <= x.1.bits):qV t a = (x.1,x.2,true):=by
 rcases find_spec ho a with ⟨z,h1,h2,h3,h4⟩ | ⟨h1,h2⟩
 ·have hc:=((wG _ _).1 hh).2.1;have oz:=((wF hc).1 h2).1;have ox:=((wF hc).1 hh).1;have e1:=(yA ox oz).1 (h4 x hx hh);have e2:=hm z h1 h2;have e:=Sg ox oz (yY e1 (by simp; omega));rw [S7 ho.nodup hx h1 e];exact h3
 grind
theorem TA (l:List α) (i:Nat) (d:α) (h:i < l.length):l.getD i d ∈ l:=by grind
theorem aaA (u:Value) (rs:List dk) (w:World) (hs:bU ez w u rs) (hl:rs.length <= 4611686018427387):aR 80 #[u] w (nz w (ag5 rs) (λx=>.tuple #[.pointer (pO (QE rs) x.1.b),I (QE rs)]) (λx=>x.2)):=by
 have hle:=hs.le;refine iZ 41 Tryz.func80 (λ_ _=>?_);refine m209 ?_;refine m149 ?_;refine co (Ev.len Z9 aa zf) ?_;refine m26 ?_;refine nP (block (lp (X:=Int) (λx=>(0 <= x /\ x <= rs.length) /\ (∀ j:Nat,j < x->gw (rs.getD j ez.zero).qi = 0)) (λx=>[dz,(0,true,u),(2,true,.pointer none),(3,true,I 0),(10,true,u),(11,true,I rs.length),(12,true,I x)]) (λx=>[]) (λx=>((rs.length:Int) - x).toNat) (0) ⟨?_,?_⟩ (λx hx=>?_)))
 ·omega
 ·omega
 obtain⟨i,rfl⟩:∃ y,y = x:=⟨x,rfl⟩;obtain⟨hi,hq⟩:(0 <= i /\ i <= rs.length) /\ (∀ j:Nat,j < i->gw (rs.getD j ez.zero).qi = 0):=hx;refine m9 ?_;refine nG rfl (λh0=>?_) (λh0=>?_)
 ·refine m191 ?_;refine m106 ?_;refine alloc QV (λb1=>?_);refine cons (j8 xC (aB.id _) aa aa ?_);refine nP ?_;refine m35 ?_;refine co (Ev.gS kr aa dk.tK) ?_;refine m193 ?_;refine m171 ?_;refine nG rfl (λh1=>?_) (λh1=>?_)
  ·refine m1 ?_;refine ac _ ?_;refine m48 ?_;refine m211 ?_;refine done rfl (.tmp rfl (.tmp rfl .nil)) (λw I=>?_);have he:QE rs = 151:=by
    unfold QE;rw [if_neg];intro h;exact h1 (dF (fI.1 h _ (TA rs i.toNat ez.zero (by omega))))
   have hc:gw (rs.getD i.toNat ez.zero).qi = 151:=(Qe _).resolve_left h1;exact lu ((⟨0,true,0,.nil,.nil⟩:Tt),[]) (λh=>by omega) (by simp_all [pO,QE,Gx.I]) lP.nil w I
  ·refine m232 ?_;refine mv rfl (nP (nx _ ⟨?_,?_⟩ ?_))
   ·omega
   ·intro j hj
    by_cases e:(j:Int) < i
    ·grind
    ·obtain rfl:j = i.toNat:=by omega
     simp_all
   omega
 ·try simp only [nb] at h0
  refine m13 ?_;refine seq ?_;have hgood:∀ r ∈ rs,gw r.qi = 0:=λr hr=>by
   obtain⟨j,hj,rfl⟩:=dP.1 hr;have:=hq j (by omega)
   simpa [List.getD,hj] using this
  have he0:QE rs = 0:=by
   unfold QE;rw [if_pos (fI.2 (λr hr=>ia (hgood r hr)))]
  refine region (cons (iP _ _ _ eN .nil (λw I=>Gs w) (λt0 uc=>?_)));refine m174 ?_;refine co (Ev.len Z9 aa zf) ?_;refine m26 ?_;refine nP (block (lp (X:=Int × Tt × (List du)) (λx=>(0 <= x.1 /\ x.1 <= rs.length) /\ (x.2.1.OK) /\ (x.2.1.n <= x.1) /\ (∀ y,y ∈ x.2.1.eY ↔ rL (rs.take x.1.toNat) y) /\ (∀ w1:World,(∀ r ∈ x.2.2,r.A w1)->x.2.1.At w1)) (λx=>[dz,(7,true,x.2.1.ptr.v),(24,true,u),(25,true,I rs.length),(26,true,I x.1)]) (λx=>x.2.2) (λx=>((rs.length:Int) - x.1).toNat) (0,t0,[Var t0.b kM t0.val 348]) ⟨?_,?_,?_,?_,?_⟩ (λx hx=>?_)))
  ·omega
  ·grind
  ·grind
  ·exact λy=>by rw [uc.2.1]; exact ⟨λh=>(by grind),λh=>h.elim⟩
  ·exact λw1 h=>⟨kU h ah,by rw [uc.2.2.2.2.1]; trivial,by rw [uc.2.2.2.2.2]; trivial⟩
  obtain⟨i2,tt,Rs⟩:=x;dsimp only at hx;obtain⟨hi2,GK,hn,hmm,sf⟩:=hx;refine m9 ?_;refine nG rfl (λh2=>?_) (λh2=>?_)
  ·refine m191 ?_;refine m106 ?_;refine alloc QV (λb2=>?_);refine cons (j8 xC (aB.id _) aa aa ?_);refine nP ?_;have hck:gw (rs.getD i2.toNat ez.zero).qi = 0:=by grind
   refine m19 ?_;refine cf 0 rfl ?_;refine co (Ev.gS kr aa dk.tK) ?_;refine cf 18 rfl ?_;refine co (Ev.gS l9 aa dk.qS) ?_;refine cons (iP (aaa tt (rs.getD i2.toNat ez.zero).qi (rs.getD i2.toNat ez.zero).out) (λx=>.tuple #[.pointer (pO (gw (rs.getD i2.toNat ez.zero).qi) x.1.b),I (gw (rs.getD i2.toNat ez.zero).qi)]) (λx=>x.2) eN (o3 rfl rfl rfl) (λw I=>V7 tt _ _ w (sf w (λr hr=>(I.own r (by grind)).1)) GK (by omega)) (λx1 va=>?_));refine mv rfl (co (Ev.to (v':=x1.1.ptr.v) (Ev.extract aa rfl) (aL Value.pointer (if_pos hck))) ?_);refine cx rfl rfl ?_;refine m76 ?_;obtain⟨ajq,ajx,aox⟩:=va hck;have GL:=ae9 GK ajq ajx;refine region ?_;refine m160 ?_;refine mv rfl (nP (nx (i2 + 1,x1.1,x1.2 ++ Rs) ⟨?_,?_,?_,?_,?_⟩ ?_ (hL:=(by simp))))
   ·omega
   ·omega
   ·grind
   ·grind [Kq,yT]
   ·grind
   omega
  ·refine m85 ?_;refine m52 ?_;refine done rfl (.tmp rfl (.tmp rfl .nil)) (λw I=>?_);have hi9:i2.toNat = rs.length:=by omega
   rw [hi9,jR] at hmm;refine lu _ (λ_=>⟨GK,hmm,by grind,sf⟩) (by show _ = Value.tuple #[.pointer (pO (QE rs) tt.b),Gx.I (QE rs)]; rw [he0]; rfl) (lP.of (aY _)) w I
end Go.Proofs.YtgnmiaonbadbnaaGreat.Tri
namespace Go.Proofs.YtgnmiaonbadbnaaGreat
open Go Go.Gx
variable {h:ae} {n d i:Int} {l:CL} {κ α β:Type} {rs:List dk}
def dG (h:ae):Int:=bif h.src.v6 then 40 else 20
def gf (p:UInt8):Int:=if p = 6 then 20 else if p = 17 then 8 else 0
def UG (p:UInt8):Int:=if p = 6 then 16 else 6
def js (h:ae) (n:Int):Int :=
 if fT h.src ≠ 0 \/ fT h.dst ≠ 0 \/ h.src.v6 ≠ h.dst.v6 \/ (bif h.src.v6 then 1048575 else 65535) < h.id then 2
 else if gf h.bz = 0 /\ (h.dD ≠ 0 \/ h.dE ≠ 0) \/ h.bz ≠ 6 /\ (h.flags ≠ 0 \/ h.seq ≠ 0) then 2
 else if 2048 < dG h + gf h.bz + n then 4 else 0
def gO (a:bJ):List UInt8:=a.b.toList.take (bif a.v6 then 16 else 4)
theorem IX (h:ae) (w:World):aR 114 #[bm.val h] w (dO w (I (dG h))):=by
 refine iZ 6 Tryz.func114 (λ_ _=>?_);exact s24
theorem O4 (h:ae) (w:World):aR 67 #[bm.val h] w (dO w (I (dG h))):=by
 refine iZ 6 Tryz.func67 (λ_ _=>?_);exact s24
theorem E3 (p:UInt8) (w:World):aR 61 #[U8 p] w (dO w (I (gf p))):=by
 refine iZ 8 Tryz.func61 (λ_ _=>?_);exact s18
theorem Cn (p:UInt8) (w:World):aR 66 #[U8 p] w (dO w (I (gf p))):=by
 refine iZ 8 Tryz.func66 (λ_ _=>?_);exact s18
theorem UD (p:UInt8) (w:World):aR 63 #[U8 p] w (dO w (I (UG p))):=by
 refine iZ 5 Tryz.func63 (λ_ _=>?_);refine m268 ?_;refine m132 ?_;refine nP ?_;refine ig rfl (λh0=>?_) (λh0=>?_)
 ·refine sg (ac (I 16) ?_);refine m190 ?_;simp [UG, *]
 ·refine m153 ?_;refine ac (I 6) ?_;refine nP ?_;refine m123 ?_;simp [UG, *]
def FU:ot 57 OE:=oq
def rm:ot 60 bm:=oq
def Bj:ot 58 (dJ aM):=oq
theorem ET (h:ae) (d:List UInt8) (w:World) (hd:bU iO w h.data.v d) (hl:d.length <= 1152921504606846975):aR 59 #[bm.val h] w (dO w (I (js h d.length))):=by
 have hfl:0 <= dG h /\ dG h <= 40:=by unfold dG; cases h.src.v6 <;> decide
 have hml:0 <= gf h.bz /\ gf h.bz <= 20:=by unfold gf; split <;> (try split) <;> decide
 refine iZ 67 Tryz.func59 (λ_ _=>?_);refine m15 ?_;refine box aa (λb1=>?_);refine m3 ?_;refine sg (ac (qZ 65535) ?_);refine nP (cut (λx=>(x = bif h.src.v6 then 1048575 else 65535)) (λx=>[dz,(1,true,jc b1),(3,true,qZ x)]) (λx=>[Var b1 bm h 60]) ?_ (λx hx=>?_))
 ·refine m49 ?_;refine nP ?_;refine ig rfl (λh0=>?_) (λh0=>?_)
  ·refine region (ac (qZ 1048575) ?_);refine nP (mt (_) ?_)
   grind
  ·refine m86 ?_
   grind
 obtain⟨m,rfl⟩:∃ y,y = x:=⟨x,rfl⟩;have hm:=hx;clear hx;refine m165 ?_;refine vK rfl (nP (seq (block (cut (λx=>(x = true ↔ (fT h.src ≠ 0 \/ fT h.dst ≠ 0 \/ h.src.v6 ≠ h.dst.v6 \/ m < h.id))) (λx=>[dz,(1,true,jc b1),(4,true,I (gf h.bz)),(11,true,.bool x)]) (λx=>[Var b1 bm h 60]) ?_ (λx hx=>?_)))))
 ·refine m35 ?_;refine m218 ?_;refine m274 ?_;refine m158 ?_;refine ig rfl (λh1=>?_) (λh1=>?_)
  ·refine m86 ?_
   grind
  ·refine sg ?_;refine m134 ?_;refine m274 ?_;refine m158 ?_;refine ig rfl (λh2=>?_) (λh2=>?_)
   ·refine m86 ?_
    grind
   ·refine m49 ?_;refine cf 17 rfl ?_;refine cf 0 rfl ?_;refine co (Ev.gR h.dst.v6 x6 aa (aB.comp ae.nM bJ.wv)) ?_;refine co (Ev.Zx Y4 aa aa) ?_;refine m0 ?_;refine ig rfl (λh3=>?_) (λh3=>?_)
    ·refine m86 ?_
     grind
    ·refine region ?_;refine m217 ?_;refine mv rfl (co (Ev.XK aa aa) ?_);refine m223 ?_
     grind
 obtain⟨c,rfl⟩:∃ y,y = x:=⟨x,rfl⟩;have hc:=hx;clear hx;refine nG rfl (λh4=>?_) (λh4=>?_)
 ·refine m94 ?_
  simp_all [js]
 ·refine cut (λx=>(x = true ↔ (gf h.bz = 0 /\ (h.dD ≠ 0 \/ h.dE ≠ 0) \/ h.bz ≠ 6 /\ (h.flags ≠ 0 \/ h.seq ≠ 0)))) (λx=>[dz,(1,true,jc b1),(4,true,I (gf h.bz)),(31,true,.bool x)]) (λx=>[Var b1 bm h 60]) ?_ (λx hx=>?_)
  ·refine m1 ?_;refine m43 ?_;refine mv rfl (cg rfl rfl (fA 35 aa) ?_);refine cg rfl rfl (Ev.gR h.dD qh (.g rfl id) ae.gg) ?_;refine cg rfl rfl (Ev.BH (.g rfl id) (.c (v:=rX 0) rfl)) ?_;refine m120 ?_;refine cg rfl rfl (fA 36 aa) ?_;refine cg rfl rfl (Ev.gR h.dE qh (.g rfl id) ae.gk) ?_;refine cg rfl rfl (Ev.BH (.g rfl id) (.c (v:=rX 0) rfl)) ?_;refine m147 ?_;refine ig rfl (λh5=>?_) (λh5=>?_)
   ·refine m86 ?_
    grind
   ·refine region ?_;refine m33 ?_;refine co (Ev.we aa (.c (v:=U8 6) rfl)) ?_;refine mv rfl (cg rfl rfl (fA 40 aa) ?_);refine cg rfl rfl (Ev.gR h.flags jQ (.g rfl id) ae.xb) ?_;refine cg rfl rfl (Ev.we (.g rfl id) (.c (v:=U8 0) rfl)) ?_;refine m120 ?_;refine cg rfl rfl (fA 41 aa) ?_;refine cg rfl rfl (Ev.gR h.seq FU (.g rfl id) ae.Fc) ?_;refine cg rfl rfl (Ev.Xa (.g rfl id) (.c (v:=qZ 0) rfl)) ?_;refine m147 ?_;refine mt (_) ?_
    grind
  obtain⟨c2,rfl⟩:∃ y,y = x:=⟨x,rfl⟩;have hc2:=hx;refine nG rfl (λh6=>?_) (λh6=>?_)
  ·refine m94 ?_
   simp_all [js,if_neg]
  ·refine seq (o9 zk ?_);refine tk 0 rfl (Ev.gR h rm aa (aB.id _)) ?_;refine m222 ?_;refine tk 4 rfl (fA 42 aa) ?_;refine tk 5 rfl (Ev.gR h.data Bj aa ae.wB) ?_;refine tk 6 rfl (Ev.len pg aa zf) ?_;refine fB 1 rfl (dg eN (o1 rfl) (λw I=>IX _ w) ?_);refine m180 ?_;refine tk 3 rfl (Ev.lx aa aa (λ_=>zo)) ?_;refine tk 7 rfl (Ev.lx aa aa (λ_=>zo)) ?_;refine tk 8 rfl (Ev.A1 aa (.c rfl)) ?_;refine tk 9 rfl (Ev.assign aa) ?_;refine m142 ?_;refine ig rfl (λh7=>?_) (λh7=>?_)
   ·refine sg (ac (I 4) ?_);refine m10 ?_;unfold js;rw [<- hm,if_neg (λe=>by rw [hc.2 e] at h4; cases h4),if_neg (λe=>by rw [hc2.2 e] at h6; cases h6)]
    simp_all
   ·refine m23 ?_;unfold js;rw [<- hm,if_neg (λe=>by rw [hc.2 e] at h4; cases h4),if_neg (λe=>by rw [hc2.2 e] at h6; cases h6)]
    first
     | (rw [if_pos (by omega)]; rfl)
     | (rw [if_neg (by omega)]; rfl)
open Go.Proofs.YtgnmiaonbadbnaaGreat.Tri
structure aQ where
 agN:cy
 rB:OV
 lW:OV
 rules:OV
 Dk:OV
 B9:OV
def aQ.to:(cy × (OV × (OV × (OV × (OV × OV)))))->aQ:=λx=>⟨x.1,x.2.1,x.2.2.1,x.2.2.2.1,x.2.2.2.2.1,x.2.2.2.2.2⟩
def aQ.of:aQ->(cy × (OV × (OV × (OV × (OV × OV))))):=λx=>(x.agN,x.rB,x.lW,x.rules,x.Dk,x.B9)
def im:dy aQ:=l8 (cW jI (cW (dJ og) (cW (dJ dB) (cW (dJ dB) (cW (dJ aM) (dJ aM)))))) aQ.to aQ.of
def aQ.S3:aB im jI 0:=lI aQ.to aQ.of l1
@[simp] theorem aQ.aeP (x:aQ) (y:cy):aQ.S3.set x y = { x with agN:=y }:=rfl
def aQ.jz:aB im (dJ og) 6:=lI aQ.to aQ.of (l2 l1)
@[simp] theorem aQ.Fp (x:aQ):aQ.jz.get x = x.rB:=rfl
@[simp] theorem aQ.EJ (x:aQ) (y:OV):aQ.jz.set x y = { x with rB:=y }:=rfl
def aQ.iy:aB im (dJ dB) 7:=lI aQ.to aQ.of (l2 (l2 l1))
@[simp] theorem aQ.yq (x:aQ):aQ.iy.get x = x.lW:=rfl
@[simp] theorem aQ.yc (x:aQ) (y:OV):aQ.iy.set x y = { x with lW:=y }:=rfl
def aQ.kX:aB im (dJ dB) 8:=lI aQ.to aQ.of (l2 (l2 (l2 l1)))
@[simp] theorem aQ.Fl (x:aQ):aQ.kX.get x = x.rules:=rfl
@[simp] theorem aQ.EI (x:aQ) (y:OV):aQ.kX.set x y = { x with rules:=y }:=rfl
def aQ.qp:aB im (dJ aM) 9:=lI aQ.to aQ.of (l2 (l2 (l2 (l2 l1))))
@[simp] theorem aQ.XT (x:aQ):aQ.qp.get x = x.Dk:=rfl
@[simp] theorem aQ.Wn (x:aQ) (y:OV):aQ.qp.set x y = { x with Dk:=y }:=rfl
def aQ.oR:aB im (dJ aM) 10:=lI aQ.to aQ.of (l2 (l2 (l2 (l2 (l2 (aB.id _))))))
@[simp] theorem aQ.XP (x:aQ):aQ.oR.get x = x.B9:=rfl
@[simp] theorem aQ.Wi (x:aQ) (y:OV):aQ.oR.set x y = { x with B9:=y }:=rfl
structure fG where
 lW:OV
def fG.to:OV->fG:=λx=>⟨x⟩
def fG.of:fG->OV:=λx=>x.lW
def tP:dy fG:=l8 (dJ dB) fG.to fG.of
def fG.iy:aB tP (dJ dB) 0:=lI fG.to fG.of (aB.id _)
@[simp] theorem fG.yq (x:fG):fG.iy.get x = x.lW:=rfl
@[simp] theorem fG.yc (x:fG) (y:OV):fG.iy.set x y = { x with lW:=y }:=rfl
structure bA where
 action:Int
 out:Int
 RP:Int
 qc:Int
 mz:Int
def bA.to:(Int × (Int × (Int × (Int × Int))))->bA:=λx=>⟨x.1,x.2.1,x.2.2.1,x.2.2.2.1,x.2.2.2.2⟩
def bA.of:bA->(Int × (Int × (Int × (Int × Int)))):=λx=>(x.action,x.out,x.RP,x.qc,x.mz)
def dK:dy bA:=l8 (cW iE (cW iE (cW iE (cW iE iE)))) bA.to bA.of
def bA.ku:aB dK iE 0:=lI bA.to bA.of l1
@[simp] theorem bA.LD (x:bA):bA.ku.get x = x.action:=rfl
@[simp] theorem bA.KA (x:bA) (y:Int):bA.ku.set x y = { x with action:=y }:=rfl
def bA.qS:aB dK iE 1:=lI bA.to bA.of (l2 l1)
@[simp] theorem bA.Wj (x:bA) (y:Int):bA.qS.set x y = { x with out:=y }:=rfl
def bA.GG:aB dK iE 2:=lI bA.to bA.of (l2 (l2 l1))
@[simp] theorem bA.aeG (x:bA) (y:Int):bA.GG.set x y = { x with RP:=y }:=rfl
def bA.rO:aB dK iE 3:=lI bA.to bA.of (l2 (l2 (l2 l1)))
@[simp] theorem bA.adj (x:bA) (y:Int):bA.rO.set x y = { x with qc:=y }:=rfl
def bA.pJ:aB dK iE 4:=lI bA.to bA.of (l2 (l2 (l2 (l2 (aB.id _)))))
@[simp] theorem bA.aaO (x:bA) (y:Int):bA.pJ.set x y = { x with mz:=y }:=rfl
def bA.nQ (x y:bA):Bool:=vD x.action y.action && (vD x.out y.out && (vD x.RP y.RP && (vD x.qc y.qc && (vD x.mz y.mz && (true)))))
theorem bA.fJ (x y:bA):bA.nQ x y = true ↔ x = y:=by
 obtain⟨a0,a1,a2,a3,a4⟩:=x;obtain⟨b0,b1,b2,b3,b4⟩:=y;simp [bA.nQ,cF]
instance:DecidableEq bA:=λx y=>decidable_of_iff (bA.nQ x y = true) (bA.fJ x y)
@[simp] theorem bA.rS (x y:bA):bA.nQ x y = decide (x = y):=by
  rw [dT,cn];exact bA.fJ x y
theorem RM {r:cS} (h:tE l r i = 0):AW r.lK = true:=by
 grind [tE]
def Vp (l:CL):List aN:=l.us.map λr=>r.lK
theorem SK (h:y3 l d = true):vF (Vp l) = 0:=by
 have hl:=CR h;have hg:=(wh h).us;have h1:(Vp l).length = l.us.length:=by simp [Vp]
 have h2:(Vp l).all AW = true:=fI.2 λm hm=>by
  obtain⟨r,hr,rfl⟩:=iC.1 hm;obtain⟨i,hi,rfl⟩:=dP.1 hr;have:=RM (hg i hi)
  simpa [List.getD,hi] using this
 grind [vF]
def ti {α κ β:Type} (q:κ->κ->Bool) (f:α->κ) (g:Nat->β) (l:List α):Nat->List (κ × β)
 | 0=>[]
 | n + 1=>match l[n]? with
   | none=>ti q f g l n
   | some x=>uo q (f x) (g n) (ti q f g l n)
theorem Cw (q:κ->κ->Bool) (f:α->κ) (g:Nat->β) (l:List α) (z:α) (h:0 <= i /\ i < l.length):ti q f g l (i + 1).toNat = uo q (f (l.getD i.toNat z)) (g i.toNat) (ti q f g l i.toNat):=by
 have e:(i + 1).toNat = i.toNat + 1:=by omega
 grind [ti]
theorem z9 (q:κ->κ->Bool) (f:α->κ) (g:Nat->β) (l:List α) {n:Nat} (h:n < l.length):ti q f g l (n + 1) = uo q (f l[n]) (g n) (ti q f g l n):=by
 grind [ti]
theorem EP {α κ β:Type} {q:κ->κ->Bool} (hi:∀ x y,q x y = true ↔ x = y) (f:α->κ) (g:Nat->β) (l:List α) {k:κ} (hk:k ∉ l.map f):∀ n,n <= l.length->Gx.gB q k (ti q f g l n) = none
 | 0,_=>rfl
 | n + 1,h=>by
   rw [z9 q f g l (by omega),uB hi,if_neg,EP hi f g l hk n (by omega)]
   grind
theorem Nf {α κ β:Type} {q:κ->κ->Bool} (hi:∀ x y,q x y = true ↔ x = y) {f:α->κ} (g:Nat->β) {l:List α} (hu:(l.map f).Nodup) {j:Nat} (hj:j < l.length):∀ n,n <= l.length->j < n->Gx.gB q (f l[j]) (ti q f g l n) = some (g j)
 | 0,_,h=>by omega
 | n + 1,h,hjn=>by
   rw [z9 q f g l (by omega),uB hi]
   by_cases e:j = n
   ·grind
   ·rw [if_neg,Nf hi g hu hj n (by omega) (by omega)];intro hq;have e2:=(hi _ _).1 hq;exact iB.1 hu j n (by grind) (by grind) (by omega) (by grind)
theorem H5 {α κ:Type} {q:κ->κ->Bool} (hi:∀ x y,q x y = true ↔ x = y) (f:α->κ) (l:List α) (k:κ):∀ n,n <= l.length->(Gx.gB q k (ti q f (λ_=>true) l n)).getD false = (l.take n).any (λx=>q k (f x))
 | 0,_=>rfl
 | n + 1,h=>by
   rw [z9 q f _ l (by omega),uB hi,iu (by omega),List.any_append,<- H5 hi f l k n (by omega)]
   grind
theorem Px {p:α->Bool} {l:List α} (h:∀ y ∈ l,p y = false):Ec p l = -1:=by
 grind [Ec]
def tp (m:List (ByteArray × Int)) (s:ByteArray):Int:=match Gx.gB eqs s m with
 | some i=>i
 | none=>-1
def Nu (f:α->ByteArray) (l:List α) (s:ByteArray):Int:=Ec (λx=>decide (f x = s)) l
theorem Il {f:α->ByteArray} {l:List α} (hu:(l.map f).Nodup) (s:ByteArray):tp (ti eqs f (λk:Nat=>(k:Int)) l l.length) s = Nu f l s:=by
 unfold tp Nu
 by_cases hs:s ∈ l.map f
 ·obtain⟨x,hx,rfl⟩:=iC.1 hs;obtain⟨j,hj,rfl⟩:=dP.1 hx;rw [Nf rR _ hu hj _ (aA _) hj];have h1:=abC (p:=λx=>decide (f x = f l[j])) (l:=l) (i:=(j:Int)) l[j] ⟨by omega,by omega⟩ (λk hk=>by
   have hkl:k < l.length:=by omega
   have e:l.getD k l[j] = l[k]:=by simp [List.getD,hkl]
   rw [e];exact fS λe2=>iB.1 hu k j (by simpa using hkl) (by simpa using hj) (by omega) (by simpa using e2)) (by simp [List.getD,hj])
  grind
 ·rw [EP rR f _ l hs _ (aA _)]
  grind [Px]
def CX (rs:List dk) (a:bJ):Nat->Int
 | 0=>-1
 | n + 1=>if (vb (rs.getD n ez.zero).qi a && (decide (CX rs a n < 0) || decide ((rs.getD (CX rs a n).toNat ez.zero).qi.bits < (rs.getD n ez.zero).qi.bits))) = true then (n:Int) else CX rs a n
def SP (rs:List dk) (a:bJ):Int:=CX rs a rs.length
theorem CW (rs:List dk) (a:bJ):∀ n,(CX rs a n = -1 /\ ∀ j,j < n->vb (rs.getD j ez.zero).qi a = false) \/ (∃ k:Nat,CX rs a n = k /\ k < n /\ vb (rs.getD k ez.zero).qi a = true /\ ∀ j,j < n->vb (rs.getD j ez.zero).qi a = true->(rs.getD j ez.zero).qi.bits <= (rs.getD k ez.zero).qi.bits)
 | 0=>.inl ⟨rfl,λj h=>by omega⟩
 | n + 1=>by
   rw [CX]
   rcases CW rs a n with ⟨h1,h2⟩ | ⟨k,h1,h2,h3,h4⟩
   ·grind
   ·rw [h1];have ek:((k:Int)).toNat = k:=by omega
    grind
theorem vY (hn:(rs.map (·.qi)).Nodup) (y:aw × Int):Tri.rL rs y ↔ ∃ r ∈ rs,y = (r.qi,r.out):=by
 have key:∀ n,n <= rs.length->(Tri.rL (rs.take n) y ↔ ∃ r ∈ rs.take n,y = (r.qi,r.out)):=by
  intro n
  induction n with
  | zero=>exact λ_=>⟨λh=>h.elim,λ⟨r,hr,_⟩=>by simp at hr⟩
  | succ n ih =>
    intro h;rw [iu (by omega),Tri.yT,ih (by omega)];constructor
    ·rintro (e | ⟨⟨r,hr,e⟩,_⟩)
     ·exact ⟨rs[n],jw _ (kj _),e⟩
     ·exact ⟨r,List.mem_append_left _ hr,e⟩
    ·rintro ⟨r,hr,e⟩
     rcases bG.1 hr with hr | hr
     ·refine .inr ⟨⟨r,hr,e⟩,λe2=>?_⟩;obtain⟨j,hj,rfl⟩:=dP.1 hr;have hj2:j < n:=by simp at hj; omega
      rw [e] at e2;exact iB.1 hn j n (by simp; omega) (by simp; omega) hj2 (by simpa using e2)
     ·rw [cq] at hr;subst hr;exact .inl e
 grind [List.take_length]
def ye (rs:List dk) (a:bJ):Int × Bool:=if SP rs a < 0 then (0,false) else ((rs.getD (SP rs a).toNat ez.zero).out,true)
theorem PO {t:Tt} (ho:t.OK) (hm:∀ y,y ∈ t.eY ↔ Tri.rL rs y) (hn:(rs.map (·.qi)).Nodup) (a:bJ):(Tri.qV t a).2 = ye rs a:=by
 unfold ye SP
 rcases CW rs a rs.length with ⟨h1,h2⟩ | ⟨k,h1,h2,h3,h4⟩
 ·rw [h1,if_pos (by decide)]
  rcases Tri.find_spec ho a with ⟨x,hx,hh,_⟩ | ⟨e,_⟩
  ·exfalso;obtain⟨r,hr,e⟩:=(vY hn x).1 ((hm x).1 hx);obtain⟨j,hj,rfl⟩:=dP.1 hr
   grind
  grind
 ·have e0:((k:Int)).toNat = k:=by omega
  have e2:rs.getD k ez.zero = rs[k]:=by simp [List.getD,h2]
  rw [h1,if_neg (by omega),e0];have hx:=(hm _).2 ((vY hn _).2 ⟨rs.getD k ez.zero,by rw [e2]; exact oa _,rfl⟩);rw [Tri.X5 ho hx h3 (λy hy hh=>by
   obtain⟨r,hr,e⟩:=(vY hn y).1 ((hm y).1 hy);obtain⟨j,hj,rfl⟩:=dP.1 hr;have e3:rs.getD j ez.zero = rs[j]:=by simp [List.getD,hj]
   have:=h4 j hj (by rw [e3]; rw [e] at hh; exact hh);rw [e3] at this;rw [e];exact this)]
def yz (r:OV) (a o:Int):OV:=if a = 3 then IF 287 (I o) else if a = 1 then IF 289 (tP.val ⟨r⟩) else IF 290 (I a)
def P4 (r:OV) (l:CL) (d:Int):List OV:=l.us.map (λu=>yz r u.action u.out) ++ [yz r d 0]
def Y1 (l:CL) (k:Nat):bA:=⟨0,0,(k:Int),Nu (·.name) l.ms (l.us.getD k iK.zero).qc,Nu (·.name) l.xs (l.us.getD k iK.zero).mz⟩
def noV:bA:=⟨0,0,-1,-1,-1⟩
def Z4:bA:=⟨2,-1,-1,-1,-1⟩
def vdL (l:CL):List bA:=(List.range l.us.length).map (Y1 l) ++ [noV]
def Mv (rs:List dk) (a o:Int) (x:bJ):Int × Int:=if a = 3 then (3,o) else if a = 1 then (if (ye rs x).2 = true then (3,(ye rs x).1) else (4,-1)) else (a,-1)
def D6 (l:CL) (n:Int) (h:ae):Int:=pQ (λm=>D7 m n h) (Vp l) 0
def p9 (l:CL) (n:Int) (h:ae):Nat:=if D6 l n h < 0 then l.us.length else (D6 l n h).toNat
def DJ (l:CL) (d:Int) (k:Nat):Int × Int:=if k < l.us.length then ((l.us.getD k iK.zero).action,(l.us.getD k iK.zero).out) else (d,0)
def L8 (l:CL) (d n:Int) (h:ae):bA:=if l.ps.any (λx=>decide (n = x)) = true then { (vdL l).getD (p9 l n h) dK.zero with action:=(Mv l.rs (DJ l d (p9 l n h)).1 (DJ l d (p9 l n h)).2 h.dst).1,out:=(Mv l.rs (DJ l d (p9 l n h)).1 (DJ l d (p9 l n h)).2 h.dst).2 } else Z4
structure Pl where
 b:Nat
 cb:CB
 pm:Nat
 tr:Tt
 rb:Nat
 dv:OV
 vv:OV
def KM (b:Nat):OV:=⟨.pointer (some ⟨b,0,none⟩),rfl⟩
def Pl.val (p:Pl) (d:Int):aQ:=⟨p.cb.c d,uY p.pm,p.tr.ptr,KM p.rb,p.dv,p.vv⟩
def uT (l:CL):List (Int × Bool):=ti vD (λx=>x) (λ_=>true) l.ps l.ps.length
structure vi (w:World) (p:Pl) (l:CL) (d:Int):Prop where
 pt:eK im w p.b 0 (p.val d)
 cf:kA w (p.cb.c d) l
 pm:pe w p.pm iE bE (uT l)
 tr:p.tr.At w
 ru:xq w p.rb (Vp l)
 ds:bU (dJ rC) w p.dv.v (P4 p.tr.ptr l d)
 vs:bU dK w p.vv.v (vdL l)
structure qz (p:Pl) (l:CL) (d:Int):Prop where
 may:y3 l d = true
 ok:p.tr.OK
 eY:∀ y,y ∈ p.tr.eY ↔ Tri.rL l.rs y
def qz.aeV {p:Pl} (h:qz p l d) (a:bJ):(Tri.qV p.tr a).2 = ye l.rs a:=PO h.ok h.eY (XN (wh h.may)) a
def Ve (l:CL) (d:Int) (x:Pl × List du):Prop:=y3 l d = true->qz x.1 l d /\ ∀ w,(∀ r ∈ x.2,r.A w)->vi w x.1 l d
def plO (l:CL) (d:Int) (b:Nat):Option Addr:=if y3 l d = true then some ⟨b,0,none⟩ else none
def Vn (l:CL) (d:Int):Int:=if y3 l d = true then 0 else 210
theorem Xk (h:y3 l d = true):Tri.QE l.rs = 0:=by
 unfold Tri.QE;rw [if_pos];refine fI.2 λr hr=>ia ?_
 obtain⟨i,hi,rfl⟩:=dP.1 hr;have h1:=(HW.1 ((wh h).rs i hi)).1
 grind
theorem Cz (l:CL) (n:Int):(Gx.gB vD n (uT l)).getD false = l.ps.any (λx=>decide (n = x)):=by
 simp [uT,H5,zw]
theorem Dc (q:aN->Bool):∀ (ms:List aN) (k:Int),pQ q ms k = -1 \/ (k <= pQ q ms k /\ pQ q ms k < k + ms.length)
 | [],k=>.inl rfl
 | m :: ms,k=>by
   unfold pQ;cases q m with
   | true=>grind
   | false =>
     rcases Dc q ms (k + 1) with g | ⟨g1,g2⟩
     ·grind
     grind
theorem Xe (l:CL):(Vp l).length = l.us.length:=by simp [Vp]
theorem SJ (l:CL) (n:Int) (h:ae):D6 l n h = -1 \/ (0 <= D6 l n h /\ D6 l n h < l.us.length):=by
 grind [Dc,D7,Vp,Xe,D6]
theorem RN (l:CL) (n:Int) (h:ae):p9 l n h <= l.us.length:=by
 grind [SJ,p9]
def Rc:ot 203 (dJ og):=oq
theorem O7 (b:Nat) (x:aQ) (m:Nat) (w:World) (hb:eK im w b 0 x) (hm:x.rB = uY m):aR 122 #[.pointer (some ⟨b,0,none⟩)] w (dO w (.bool true)):=by
 refine iZ 12 Tryz.func122 (λ_ _=>?_);refine m273 ?_;refine co (Ev.E1 Tryz.underlying115 aa (.c rfl)) ?_;refine m5 ?_;refine m100 ?_;refine cg rfl rfl (fA 6 (.g rfl id)) ?_;refine cg rfl rfl (Ev.to (v':=.map _) (Ev.load Rc (.g rfl id) (jJ (λw I=>hb.keep I.keeps) aQ.jz)) (aL OV.v hm)) ?_;refine cg rfl rfl (Ev.afv acS (.g rfl id) (.c rfl)) ?_;exact s31
def aip:zI 289 tP:=kI
theorem LZ (b:Nat) (x:aQ) (a o:Int) (w:World) (hb:eK im w b 0 x):aR 82 #[.pointer (some ⟨b,0,none⟩),I a,I o] w (dO w (yz x.lW a o).v):=by
 refine iZ 22 Tryz.func82 (λ_ _=>?_);refine sg (ac Go.Value.nilIface ?_);refine m245 ?_;refine nP (block (sg ?_));refine m43 ?_;refine m0 ?_;refine nG rfl (λh0=>?_) (λh0=>?_)
 ·refine m1 ?_;refine co (Ev.Lh Tryz.underlying287 rfl aa) ?_;refine m48 ?_;refine bR (pR (dn rfl rfl ?_))
  simp_all [yz]
 ·refine sg ?_;refine m43 ?_;refine m0 ?_;refine nG rfl (λh1=>?_) (λh1=>?_)
  ·refine m58 ?_;refine cf 7 rfl ?_;refine co (Ev.load MO aa (jJ (λw I=>hb.keep I.keeps) aQ.iy)) ?_;refine co (Ev.fe (places:=[(0,1)]) aip rfl acP zk (.cons aa .nil) (bB.cons fG.iy rfl bB.nil)) ?_;refine co (Ev.Lh acP rfl aa) ?_;refine m48 ?_;refine bR (pR (dn rfl rfl ?_))
   simp_all [yz,if_neg]
  ·refine m210 ?_;refine m1 ?_;refine co (Ev.Lh Tryz.underlying290 rfl aa) ?_;refine m20 ?_
   simp_all [yz]
theorem EY (b:Nat) (m:List (ByteArray × Int)) (s:ByteArray) (z:Int) (w:World) (hm:pe w b sE iE m) (hz:tp m s = z):aR 81 #[.map (some b),.string s] w (dO w (I z)):=by
 refine iZ 15 Tryz.func81 (λ_ _=>?_);refine m268 ?_;refine mv rfl (co (Ev.uZ Ej Y9 Ea z3 aa aa (λ_=>(λw I=>hm.cO I.keeps))) ?_);refine m270 ?_;refine nP ?_;refine nG rfl (λh0=>?_) (λh0=>?_)
 ·refine m1 ?_;refine m48 ?_;refine pR (dn rfl rfl ?_);rw [<- hz];unfold tp;cases hf:Gx.gB eqs s m with
  | none=>grind
  | some i=>rfl
 ·refine m153 ?_;refine ac (I (-1)) ?_;refine nP ?_;refine m123 ?_
  simp_all [tp,Gx.gB]
theorem Yh (o:Int) (u:Value) (w:World):aR 267 #[I o,u] w (dO w (.tuple #[I 3,I o])):=by
 refine iZ 7 Tryz.func267 (λ_ _=>?_);refine m156 ?_;refine m3 ?_;refine m1 ?_;refine ac (I 3) ?_;refine m48 ?_;refine m55 ?_
 rfl
theorem Yi (o:Int) (u:Value) (w:World):aR 273 #[I o,u] w (dO w (.tuple #[I o,I (-1)])):=by
 refine iZ 7 Tryz.func273 (λ_ _=>?_);refine m156 ?_;refine m3 ?_;refine m1 ?_;refine vK rfl (ac (I (-1)) ?_);refine m284 ?_;refine m55 ?_
 rfl
theorem Rm (t:Tt) (a:bJ) (w:World) (z:aw × Int × Bool) (hz:Tri.qV t a = z) (ht:t.At w) (ho:t.OK):aR 269 #[t.ptr.v,iz.val a] w (dO w (.tuple #[cJ.val z.1,I z.2.1,.bool z.2.2])):=by
 subst hz;exact Tri.X4 t a w ht ho
theorem LY (t:Tt) (hb:Nat) (h:ae) (z:aw × Int × Bool) (w:World) (hz:Tri.qV t h.dst = z) (hh:eK bm w hb 0 h) (ht:t.At w) (ho:t.OK):aR 268 #[tP.val ⟨t.ptr⟩,.pointer (some ⟨hb,0,none⟩)] w (dO w (.tuple #[I (if z.2.2 = true then 3 else 4),I (if z.2.2 = true then z.2.1 else -1)])):=by
 refine iZ 22 Tryz.func268 (λ_ _=>?_);refine m15 ?_;refine box aa (λb1=>?_);refine ac (I 0) ?_;refine m159 ?_;refine m125 ?_;refine tk 1 rfl (Ev.gS MO aa fG.iy) ?_;refine m189 ?_;refine all [6,11] zk (by decide) (.cons rfl ?_ (.cons rfl ?_ .nil))
 ·refine m79 ?_;refine fB 11 rfl (alloc Bh (λb2=>?_));refine m180 ?_;refine m280 ?_;refine m267 ?_;exact s22
 ·refine (alloc Bh (λb3=>?_));refine m244 ?_;refine m79 ?_;refine m280 ?_;refine m267 ?_;exact s22
theorem P3 (t:Tt) (l:CL) (a o:Int) (hb:Nat) (h:ae) (w:World) (hh:eK bm w hb 0 h) (ht:t.At w) (ho:t.OK) (hr:(Tri.qV t h.dst).2 = ye l.rs h.dst):ahf Tryz.prog (yz t.ptr a o) "patchbay/plan.decide" [.pointer (some ⟨hb,0,none⟩)] w (.tuple #[I (Mv l.rs a o h.dst).1,I (Mv l.rs a o h.dst).2]):=by
 unfold yz Mv;split
 ·exact ⟨_,_,_,267,rfl,rA.val zk Tryz.underlying287 rfl (by simp),Gx.dV.mk' zk,Yh o _ w⟩
 ·split
  ·have hc:=LY t hb h _ w rfl hh ht ho;rw [hr] at hc;refine ⟨_,_,_,268,rfl,rA.val zk acP rfl (by simp),Gx.dV.mk' zk,?_⟩;cases hb2:(ye l.rs h.dst).2 with
   | true=>rw [hb2] at hc; exact hc
   | false=>rw [hb2] at hc; exact hc
  ·exact ⟨_,_,_,273,rfl,rA.val zk Tryz.underlying290 rfl (by simp),Gx.dV.mk' zk,Yi a _ w⟩
theorem Cx (q:κ->κ->Bool) (f:α->κ) (l:List α) (z:α) (h:0 <= i /\ i < l.length):ti q f (λk:Nat=>(k:Int)) l (i + 1).toNat = uo q (f (l.getD i.toNat z)) i (ti q f (λk:Nat=>(k:Int)) l i.toNat):=by
 grind [Cw]
theorem VZ (l:CL) (h:0 <= i):(List.range (i + 1).toNat).map (Y1 l) = (List.range i.toNat).map (Y1 l) ++ [Y1 l i.toNat]:=by
 have e:(i + 1).toNat = i.toNat + 1:=by omega
 grind [List.range_succ]
theorem Dl (b:Nat) (x:aQ) (r:OV) (a o:Int) (w:World) (hb:eK im w b 0 x) (hr:x.lW = r):aR 82 #[.pointer (some ⟨b,0,none⟩),I a,I o] w (dO w (yz r a o).v):=by
 subst hr;exact LZ b x a o w hb
def abm:Pl:=⟨0,⟨aM,aM,aM,aM,aM⟩,0,⟨0,true,0,.nil,.nil⟩,0,aM,aM⟩
def aiq:zI 209 im:=kI
def MN:ot 206 (dJ aM):=oq
def AH:ot 223 (dJ rC):=oq
def VI:zI 223 (dJ rC):=kI
def YU:DV 223 (dJ rC) 16:=kB
def YR:Eo (dJ rC):=Hk _
def Hz:ot 207 (dJ aM):=oq
def vH:zI 102 dK:=kI
def p8:ot 102 dK:=oq
def YW:DV 102 dK 40:=kB
def YT:Eo dK:=Hk _
def Y7:ot 205 (dJ dB):=oq
theorem zF (c:cy) (l:CL) (w:World) (hc:kA w c l) (hn:l.Names) (hz:l.n <= 4611686018427387904):aR 35 #[jI.val c] w (nz w (Ve l c.default) (λx:Pl × List du=>.tuple #[.pointer (plO l c.default x.1.b),I (Vn l c.default)]) (λx=>x.2)):=by
 have hlp:=hc.ps.le;have hlr:=hc.rs.le;have hlu:=hc.us.le;have hlm:=hc.ms.le;have hlx:=hc.xs.le;refine iZ 162 Tryz.func35 (λ_ _=>?_);refine m15 ?_;refine box aa (λb1=>?_);refine ac _ ?_;refine m159 ?_;refine sg ?_;refine m146 ?_;refine dg eN (o1 rfl) (λw I=>abq c l w (hc.cO I.keeps) hn hz) ?_;refine m57 ?_;refine nG rfl (λh0=>?_) (λh0=>?_)
 ·have Lt:y3 l c.default = false:=by simpa using h0
  refine m209 ?_;refine ac (I 210) ?_;refine m62 ?_;refine done rfl (.tmp rfl (.tmp rfl .nil)) (λw I=>?_);refine lu (abm,[]) (λh=>by grind) ?_ lP.nil w I;exact s66
 ·have Lt:y3 l c.default = true:=by simpa using h0
  have af6:=CR Lt;have Tu:=SK Lt;have hof:=Xk Lt;have Hm:=XO (wh Lt);have hgx:=XL (wh Lt);have hsm:l.Small:=⟨by omega,by omega,by omega,by omega,by omega⟩;refine acg ?_;refine m153 ?_;refine m146 ?_;refine iP _ _ _ eN (o1 rfl) (λw I=>Yl c l w (hc.cO I.keeps) hsm) (λx0 _=>?_);refine vU zr ?_;refine cons (makeMap (E:=iE) (V:=bE) (λb2=>?_));refine co (Ev.fe (places:=[(0,6),(6,1),(7,1),(8,1),(9,1),(10,1)]) aiq rfl Tryz.underlying209 zk (.cons aa (.cons (.t (v:=(uY b2).v) rfl) .nil)) (bB.cons aQ.S3 rfl (bB.cons aQ.jz rfl bB.nil))) ?_;refine cons (box aa (λb3=>?_));refine m177 ?_;refine m35 ?_;refine co (Ev.gS Rb aa cy.jz) ?_;refine co (Ev.len Ei aa (λw I=>(hc.cO I.keeps).ps)) ?_;refine m83 ?_;refine lpo (X:=Int) (λx=>(0 <= x /\ x <= l.ps.length)) (λx=>[dz,(1,true,jc b1),(4,true,jc b3),(27,true,c.rB.v),(28,true,I l.ps.length),(29,true,I x)]) (λx=>[Var b3 im (⟨x0.c c.default,uY b2,dB,dB,aM,aM⟩:aQ) 209,oE b2 iE bE (ti vD (λx=>x) (λ_=>true) l.ps x.toNat),qx YQ _,Var b1 jI c 28]) (λx=>((l.ps.length:Int) - x).toNat) (0) (λx hx=>?_);obtain⟨i0,rfl⟩:∃ y,y = x:=⟨x,rfl⟩;have hi0:=hx;clear hx;refine m9 ?_;refine ig rfl (λh1=>?_) (λh1=>?_)
  ·refine m191 ?_;refine co (Ev.indexAddr Ei l9 aa aa (λw I=>(hc.cO I.keeps).ps) (λ_=>zo)) ?_;refine co (Ev.eT l9 aa (λw I=>(hc.cO I.keeps).ps) (λ_=>zo)) ?_;refine m231 ?_;refine m248 ?_;refine cf 6 rfl ?_;refine co (Ev.to (v':=.map _) (Ev.gS Rc aa aQ.jz) (rfl)) ?_;refine m27 ?_;refine mapUpdate acS Y3 S8 aa aa (.c rfl) zu ?_;refine m145 ?_;refine mv rfl (nP (nxo (i0 + 1) (hL:=(by grind [Cw]))))
  ·refine m13 ?_;refine seq ?_;have e0:i0.toNat = l.ps.length:=by omega
   rw [e0];refine region ?_;refine m149 ?_;refine m277 ?_;refine co (Ev.gS aay aa cy.iy) ?_;refine cons (iP (Tri.ag5 l.rs) _ _ eN (o1 rfl) (λw I=>Tri.aaA _ l.rs w (hc.cO I.keeps).rs (by omega)) (λxt hxt=>?_));refine mv rfl (co (Ev.to (v':=xt.1.ptr.v) (Ev.extract aa rfl) (aL Value.pointer (if_pos hof))) ?_);refine co (Ev.to (Ev.extract aa rfl) (aL Gx.I hof)) ?_;refine m248 ?_;refine cf 7 rfl ?_;refine cons (j8 MO aQ.iy aa aa ?_);refine m177 ?_;refine vU (r:=qx YQ _) zr ?_;obtain⟨GK,om,_,htr⟩:=hxt hof;refine m19 ?_;refine m31 ?_;refine nS rfl (rfl) ?_;refine m200 ?_;refine makeMap (E:=sE) (V:=iE) (λb4=>?_);refine cons (makeMap (E:=sE) (V:=iE) (λb5=>?_));refine m41 ?_;refine seq (sg (cf 3 rfl ?_));refine co (Ev.gS aaw aa cy.mg) ?_;refine co (Ev.len Y25 aa (λw I=>(hc.cO I.keeps).ms)) ?_;refine m83 ?_;refine lpo (X:=Int) (λx=>(0 <= x /\ x <= l.ms.length)) (λx=>[dz,(1,true,jc b1),(4,true,jc b3),(8,true,.map (some b4)),(9,true,.map _),(53,true,c.tW.v),(54,true,I l.ms.length),(55,true,I x)]) (λx=>[oE b5 sE iE _,oE b4 sE iE (ti eqs (λr:bQ=>r.name) (λk:Nat=>(k:Int)) l.ms x.toNat),qx _ xt.2,Var b3 im (⟨x0.c c.default,uY b2,xt.1.ptr,dB,aM,aM⟩:aQ) 209,oE b2 iE bE (uT l),Var b1 jI c 28]) (λx=>((l.ms.length:Int) - x).toNat) (0) (λx hx=>?_);obtain⟨i1,rfl⟩:∃ y,y = x:=⟨x,rfl⟩;have hi1:=hx;clear hx;refine m9 ?_;refine ig rfl (λh3=>?_) (λh3=>?_)
   ·refine m150 ?_;refine co (Ev.indexAddr Y25 Cb aa aa (λw I=>(hc.cO I.keeps).ms) (λ_=>zo)) ?_;refine co (Ev.eT Cb aa (λw I=>(hc.cO I.keeps).ms) (λ_=>zo)) ?_;refine cons (alloc VK (λb6=>?_));refine m238 ?_;refine j8 Cb (aB.id _) aa aa ?_;refine nP ?_;refine m19 ?_;refine cf 0 rfl ?_;refine co (Ev.gS Hw aa bQ.mB) ?_;refine m27 ?_;refine mapUpdate Ej Y9 Ea aa aa (.t rfl) zu ?_;refine m145 ?_;refine mv rfl (nP (nxo (i1 + 1) (hL:=(by rw [Cx _ _ _ eH.zero (by omega)]; simp))))
   ·refine m13 ?_;refine seq (seq ?_);have e1:i1.toNat = l.ms.length:=by omega
    rw [e1];refine region (cf 4 rfl ?_);refine co (Ev.gS aav aa cy.kL) ?_;refine co (Ev.len Y26 aa (λw I=>(hc.cO I.keeps).xs)) ?_;refine m83 ?_;refine lpo (X:=Int) (λx=>(0 <= x /\ x <= l.xs.length)) (λx=>[dz,(1,true,jc b1),(4,true,jc b3),(8,true,.map _),(9,true,.map _),(66,true,c.qE.v),(67,true,I l.xs.length),(68,true,I x)]) (λx=>[oE b5 sE iE (ti eqs (λr:aZ=>r.name) (λk:Nat=>(k:Int)) l.xs x.toNat),oE b4 sE iE _,qx _ xt.2,Var b3 im _ 209,oE b2 iE bE _,Var b1 jI c 28]) (λx=>((l.xs.length:Int) - x).toNat) (0) (λx hx=>?_);obtain⟨i2,rfl⟩:∃ y,y = x:=⟨x,rfl⟩;have hi2:=hx;clear hx;refine m9 ?_;refine ig rfl (λh4=>?_) (λh4=>?_)
    ·refine m150 ?_;refine co (Ev.indexAddr Y26 Ca aa aa (λw I=>(hc.cO I.keeps).xs) (λ_=>zo)) ?_;refine co (Ev.eT Ca aa (λw I=>(hc.cO I.keeps).xs) (λ_=>zo)) ?_;refine cons (alloc VJ (λb7=>?_));refine m238 ?_;refine j8 Ca (aB.id _) aa aa ?_;refine nP ?_;refine m19 ?_;refine cf 0 rfl ?_;refine co (Ev.gS Hw aa aZ.mB) ?_;refine m27 ?_;refine mapUpdate Ej Y9 Ea aa aa (.t rfl) zu ?_;refine m145 ?_;refine mv rfl (nP (nxo (i2 + 1) (hL:=(by rw [Cx _ _ _ dL.zero (by omega)]; simp))))
    ·refine m13 ?_;refine seq ?_;have e2:i2.toNat = l.xs.length:=by omega
     rw [e2];refine region (co (Ev.assign .f) ?_);refine nP ?_;refine m209 ?_;refine jf cU 199 ?_;refine m143 ?_;refine sg (cf 2 rfl ?_);refine co (Ev.gS aax aa cy.kX) ?_;refine co (Ev.len Z8 aa (λw I=>(hc.cO I.keeps).us)) ?_;refine m83 ?_;refine jf (dJ rC) 223 ?_;refine jf dK 102 ?_;refine lpo (X:=Int × OV × OV × OV) (λx=>(0 <= x.1 /\ x.1 <= l.us.length)) (λx=>[dz,(1,true,jc b1),(4,true,jc b3),(8,true,.map (some b4)),(9,true,.map (some b5)),(14,true,(Bb 81 []).v),(15,true,x.2.1.v),(79,true,c.rules.v),(80,true,I l.us.length),(81,true,I x.1)]) (λx=>[bY x.2.2.2.v dK ((List.range x.1.toNat).map (Y1 l)) 102,bY x.2.2.1.v (dJ rC) ((l.us.take x.1.toNat).map (λu=>yz xt.1.ptr u.action u.out)) 223,bY x.2.1.v cU ((l.us.take x.1.toNat).map (λr=>r.lK)) 199,oE b5 sE iE _,oE b4 sE iE _,qx _ xt.2,Var b3 im (⟨x0.c c.default,uY b2,xt.1.ptr,dB,x.2.2.1,x.2.2.2⟩:aQ) 209,oE b2 iE bE (uT l),Var b1 jI c 28]) (λx=>((l.us.length:Int) - x.1).toNat) (0,aM,aM,aM) (λx hx=>?_);obtain⟨i3,q,dv,vv⟩:=x;dsimp only at hx;have hi3:=hx;clear hx;have hq1:((l.us.take i3.toNat).map (λr=>r.lK)).length <= 256:=by simp; omega
     have hq2:((l.us.take i3.toNat).map (λu=>yz xt.1.ptr u.action u.out)).length <= 256:=by simp; omega
     have hq3:((List.range i3.toNat).map (Y1 l)).length <= 256:=by simp; omega
     refine m9 ?_;refine ig rfl (λh5=>?_) (λh5=>?_)
     ·refine m150 ?_;refine co (Ev.indexAddr Z8 AJ aa aa (λw I=>(hc.cO I.keeps).us) (λ_=>zo)) ?_;refine co (Ev.eT AJ aa (λw I=>(hc.cO I.keeps).us) (λ_=>zo)) ?_;refine cons (alloc Oy (λb8=>?_));refine m238 ?_;refine j8 AJ (aB.id _) aa aa ?_;refine m138 ?_;refine m277 ?_;refine co (Ev.gS sj aa cS.CZ) ?_;refine cons (buildSlice JQ sj VL (.cons aa .nil) rfl rfl (λv9=>?_));refine cons (vL JQ sj YV YS aa aa (λv10=>?_));refine vK rfl (nP (cut (X:=OV × OV) (λx=>True) (λx=>[dz,(1,true,jc b1),(4,true,jc b3),(8,true,.map (some b4)),(9,true,.map (some b5)),(14,true,(Bb 81 []).v),(15,true,x.1.v),(16,true,I i3),(17,true,jc b8),(79,true,c.rules.v),(80,true,I l.us.length),(81,true,I i3)]) (λx=>[Var b8 iK (l.us.getD i3.toNat iK.zero) 201,bY vv.v dK ((List.range i3.toNat).map (Y1 l)) 102,bY x.2.v (dJ rC) (((l.us.take i3.toNat).map (λu=>yz xt.1.ptr u.action u.out)) ++ [yz xt.1.ptr (l.us.getD i3.toNat iK.zero).action (l.us.getD i3.toNat iK.zero).out]) 223,bY x.1.v cU (((l.us.take i3.toNat).map (λr=>r.lK)) ++ [(l.us.getD i3.toNat iK.zero).lK]) 199,oE b5 sE iE (ti eqs (λr:aZ=>r.name) (λk:Nat=>(k:Int)) l.xs l.xs.length),oE b4 sE iE (ti eqs (λr:bQ=>r.name) (λk:Nat=>(k:Int)) l.ms l.ms.length),qx (qx YQ (x0.R l)) xt.2,Var b3 im (⟨x0.c c.default,uY b2,xt.1.ptr,dB,x.2,vv⟩:aQ) 209,oE b2 iE bE (uT l),Var b1 jI c 28]) ?_ (λx hx=>?_)))
      ·refine m289 ?_;refine tk 3 rfl (fA 9 aa) ?_;refine m221 ?_;refine tk 6 rfl (fA 45 aa) ?_;refine tk 7 rfl (Ev.gS l9 aa cS.ku) ?_;refine tk 8 rfl (fA 46 aa) ?_;refine tk 9 rfl (Ev.gS l9 aa cS.qS) ?_;refine all [4,10] zk (by decide) (.cons rfl ?_ (.cons rfl ?_ .nil))
       ·refine m70 ?_;refine m266 ?_;refine m246 ?_;exact s94
       ·refine m246 ?_;refine xi (all [4,11] zk (by decide) (.cons rfl ?_ (.cons rfl ?_ .nil)))
        ·refine m70 ?_;exact s94
        ·refine (buildSlice Mx AH VI (.cons aa .nil) rfl rfl (λv15=>?_));refine m139 ?_;refine m70 ?_;exact s15
      obtain⟨q1,dv1⟩:=x;refine m289 ?_;refine tk 3 rfl (fA 10 aa) ?_;refine tk 5 rfl (Ev.to (v':=I ((i3.toNat:Nat):Int)) (Ev.move aa) (aL Gx.I (by omega))) ?_;refine m198 ?_;refine tk 8 rfl (fA 47 aa) ?_;refine tk 9 rfl (Ev.gS Hw aa cS.rO) ?_;refine tm 11 rfl rfl ?_;refine tm 12 rfl rfl ?_;refine tk 13 rfl (fA 48 aa) ?_;refine tk 14 rfl (Ev.gS Hw aa cS.pJ) ?_;refine all [4,10] zk (by decide) (.cons rfl ?_ (.cons rfl ?_ .nil))
      ·refine m124 ?_;refine m266 ?_;refine m290 ?_;exact s89
      ·refine m290 ?_;refine xi (all [4,15] zk (by decide) (.cons rfl ?_ (.cons rfl ?_ .nil)))
       ·refine m124 ?_;exact s89
       ·refine m56 ?_;refine all [4,17] zk (by decide) (.cons rfl ?_ (.cons rfl ?_ .nil))
        ·refine m124 ?_;refine m180 ?_;refine fB 17 rfl (buildSlice JR p8 vH (.cons aa .nil) rfl rfl (λv21=>?_));exact s4
        ·refine (buildSlice JR p8 vH (.cons aa .nil) rfl rfl (λv23=>?_));refine m139 ?_;refine m124 ?_;exact s4
     ·refine exit (pX (pX (bX (pN (cut (X:=OV) (λx=>True) (λx=>[dz,(1,true,jc b1),(4,true,jc b3),(15,true,q.v)]) (λx=>[bY x.v (dJ rC) (P4 xt.1.ptr l c.default) 223,bY vv.v dK ((List.range l.us.length).map (Y1 l)) 102,bY q.v cU (Vp l) 199,oE b5 sE iE (ti eqs (λr:aZ=>r.name) (λk:Nat=>(k:Int)) l.xs l.xs.length),oE b4 sE iE (ti eqs (λr:bQ=>r.name) (λk:Nat=>(k:Int)) l.ms l.ms.length),qx (qx YQ (x0.R l)) xt.2,Var b3 im (⟨x0.c c.default,uY b2,xt.1.ptr,dB,x,vv⟩:aQ) 209,oE b2 iE bE (uT l),Var b1 jI c 28]) ?_ (λx hx=>?_))))))
      ·have e3:i3.toNat = l.us.length:=by omega
       rw [e3,jR];refine draw [Var b1 jI c 28] zk ?_;refine m11 ?_;refine tk 3 rfl (fA 9 aa) ?_;refine m221 ?_;refine tk 6 rfl (fA 5 aa) ?_;refine tk 7 rfl (Ev.gS l9 aa cy.nD) ?_;refine all [4,8] zk (by decide) (.cons rfl ?_ (.cons rfl ?_ .nil))
       ·refine m70 ?_;refine m169 ?_;refine m183 ?_;exact s95
       ·refine m183 ?_;refine xi (all [4,9] zk (by decide) (.cons rfl ?_ (.cons rfl ?_ .nil)))
        ·refine m70 ?_;exact s95
        ·refine (buildSlice Mx AH VI (.cons aa .nil) rfl rfl (λv29=>?_));refine m139 ?_;refine m70 ?_;exact s16
      obtain⟨aci,rfl⟩:∃ y,y = x:=⟨x,rfl⟩;refine m208 ?_;refine m248 ?_;refine cf 10 rfl ?_;refine co (Ev.to (v':=vv.v) (Ev.gS Hz aa aQ.oR) (rfl)) ?_;refine co (Ev.fe (fs:=_) (places:=[(0,1),(1,1),(2,1),(3,1),(4,1)]) vH rfl YG zk (.cons (.c rfl) (.cons (.c rfl) (.cons (.c rfl) .nil))) (bB.cons bA.GG rfl (bB.cons bA.rO rfl (bB.cons bA.pJ rfl bB.nil)))) ?_;refine cons (buildSlice JR p8 vH (.cons aa .nil) rfl rfl (λv31=>?_));refine cons (vL JR p8 YW YT aa aa (λv32=>?_));refine m248 ?_;refine cf 10 rfl ?_;refine cons (j8 Hz aQ.oR aa aa ?_);refine m245 ?_;refine m27 ?_;refine iP _ (Jr _) _ eN (o1 rfl) (λw I=>Me _ _ w (io w I)) (λxr hxr=>?_);refine mv rfl (co (Ev.to (v':=(KM xr.1).v) (Ev.extract aa rfl) (aL Value.pointer (WC xr.1 Tu))) ?_);refine co (Ev.to (Ev.extract aa rfl) (aL Gx.I Tu)) ?_;refine m248 ?_;refine cf 8 rfl ?_;refine cons (j8 Y7 aQ.kX aa aa ?_);refine m177 ?_;refine vU (r:=qx _ xt.2) zr ?_;refine m19 ?_;refine m31 ?_;refine nS rfl (rfl) ?_;refine m73 ?_;refine m52 ?_;refine done rfl (.tmp rfl (.tmp rfl .nil)) (λw I=>?_);refine lu (⟨b3,x0,b2,xt.1,xr.1,aci,v32⟩,[qx _ xr.2,Var b3 im (⟨x0.c c.default,uY b2,xt.1.ptr,KM xr.1,aci,v32⟩:aQ) 209,oE b2 iE bE _,bY aci.v _ _ 223,bY v32.v dK (vdL l) 102]) (λ_=>⟨⟨Lt,GK,om⟩,λw1 hw1=>?_⟩) ?_ zp w I
      ·exact s66
      ·obtain⟨a1,a2⟩:=qx.A _ _ (hw1 _ ah);obtain⟨a3,a4⟩:=qx.A _ _ a1;obtain⟨_,a5⟩:=qx.A _ _ a3;exact ⟨nB (hw1 _ (aF _ ah)),⟨bU.lJ (a5 (bY x0.o1.v iE l.ps 3) (by simp [CB.R])),bU.lJ (a5 (bY x0.o2.v ez l.rs 280) (by simp [CB.R])),bU.lJ (a5 (bY x0.o3.v iK l.us 201) (by simp [CB.R])),bU.lJ (a5 (bY x0.o4.v eH l.ms 216) (by simp [CB.R])),bU.lJ (a5 (bY x0.o5.v dL l.xs 218) (by simp [CB.R]))⟩,hw1 _ (aF _ (aF _ ah)),htr w1 a4,hxr Tu w1 a2,bU.lJ (hw1 _ (aF _ (aF _ (aF _ ah)))),bU.lJ (hw1 _ (aF _ (aF _ (aF _ (aF _ ah)))))⟩
def Uc (h:ae) (c:Int):Int:=if js h c = 2 then 2 else 0
def Z3 (l:CL) (d n:Int) (h:ae) (c:Int):bA:=if js h c = 2 then dK.zero else L8 l d n h
theorem Bw (l:CL):(vdL l).length = l.us.length + 1:=by simp [vdL]
theorem Ub (r:OV) (l:CL) (d:Int):(P4 r l d).length = l.us.length + 1:=by simp [P4]
theorem HV (hm:D6 l n h < 0):p9 l n h = l.us.length:=by
 unfold p9
 grind
theorem RO (hm:¬ D6 l n h < 0):((p9 l n h:Nat):Int) = D6 l n h:=by
 grind [p9]
theorem Yk (r:OV) (l:CL) (d:Int) {k:Nat} (hk:k <= l.us.length) (z:OV):(P4 r l d).getD k z = yz r (DJ l d k).1 (DJ l d k).2:=by
 unfold P4 DJ
 grind
theorem Ua (hp:l.ps.any (λx=>decide (n = x)) = true):L8 l d n h = { (vdL l).getD (p9 l n h) dK.zero with action:=(Mv l.rs (DJ l d (p9 l n h)).1 (DJ l d (p9 l n h)).2 h.dst).1,out:=(Mv l.rs (DJ l d (p9 l n h)).1 (DJ l d (p9 l n h)).2 h.dst).2 }:=by
 unfold L8
 grind
theorem Yj (hp:l.ps.any (λx=>decide (n = x)) = false):L8 l d n h = Z4:=by
 grind [L8]
def z4:zI 4 bE:=kI
theorem PZ (p:Pl) (l:CL) (d n:Int) (h:ae) (dt:List UInt8) (w:World) (hp:vi w p l d) (ho:qz p l d) (hd:bU iO w h.data.v dt) (hl:dt.length <= 1152921504606846975):aR 70 #[.pointer (some ⟨p.b,0,none⟩),I n,bm.val h] w (dO w (.tuple #[dK.val (Z3 l d n h dt.length),I (Uc h dt.length)])):=by
 have af6:=CR ho.may;refine iZ 62 Tryz.func70 (λ_ _=>?_);refine m15 ?_;refine box aa (λb1=>?_);refine cons (alloc vH (λb2=>?_));refine m149 ?_;refine cons (dg eN (o1 rfl) (λw I=>O7 p.b _ p.pm w (hp.pt.keep I.keeps) rfl) ?_);refine m278 ?_;refine m196 ?_;refine sg ?_;refine m276 ?_;refine dg eN (o1 rfl) (λw I=>ET h dt w (hd.cO I.keeps) hl) ?_;refine m195 ?_;refine nG rfl (λh1=>?_) (λh1=>?_)
 ·refine sg (co (Ev.fe (places:=[(0,1),(1,1),(2,1),(3,1),(4,1)]) vH rfl YG zk .nil bB.nil) ?_);refine m59 ?_;refine ac (I 2) ?_;refine m62 ?_;refine m188 ?_;have e1:Uc h dt.length = 2:=by unfold Uc; rw [if_pos h1]
  simp_all [Z3]
 ·refine m229 ?_;refine m248 ?_;refine cf 6 rfl ?_;refine co (Ev.to (v':=.map _) (Ev.load Rc aa (jJ (λw I=>(hp).pt.keep I.keeps) aQ.jz)) (rfl)) ?_;refine mv rfl (co (Ev.SO acS Y3 S8 z4 aa aa (λ_=>(λw I=>hp.pm.cO I.keeps))) ?_);refine m57 ?_;refine nG rfl (λh2=>?_) (λh2=>?_)
  ·have NK:l.ps.any (λx=>decide (n = x)) = false:=by
    rw [<- Cz];have h9:(!(Gx.gB vD n (uT l)).getD false) = true:=h2
    simpa using h9
   refine sg (co (Ev.fe (fs:=_) (places:=[(0,1),(1,1),(2,1),(3,1),(4,1)]) vH rfl YG zk (.cons (.c (v:=I 2) rfl) (.cons (.c (v:=I (-1)) rfl) (.cons (.c (v:=I (-1)) rfl) (.cons (.c (v:=I (-1)) rfl) (.cons (.c (v:=I (-1)) rfl) .nil))))) (bB.cons bA.ku rfl (bB.cons bA.qS rfl (bB.cons bA.GG rfl (bB.cons bA.rO rfl (bB.cons bA.pJ rfl bB.nil)))))) ?_);refine m59 ?_;refine m3 ?_;refine ret (pR ?_);refine m188 ?_;have e1:Uc h dt.length = 0:=by unfold Uc; rw [if_neg h1]
   have e2:Z3 l d n h dt.length = L8 l d n h:=by unfold Z3; rw [if_neg h1]
   rw [e1,e2,Yj NK]; rfl
  ·have NK:l.ps.any (λx=>decide (n = x)) = true:=by
    rw [<- Cz];have h9:(!(Gx.gB vD n (uT l)).getD false) = false:=h2
    simpa using h9
   refine m196 ?_;refine m154 ?_;refine tk 2 rfl (fA 8 aa) ?_;refine tk 3 rfl (Ev.to (v':=.pointer _) (Ev.load Y7 aa (jJ (λw I=>(hp).pt.keep I.keeps) aQ.kX)) (rfl)) ?_;refine tm 4 rfl rfl ?_;refine tk 5 rfl (Ev.gR h rm aa (aB.id _)) ?_;refine fB 6 rfl (dg eN (o3 rfl rfl rfl) (λw I=>TJ p.rb _ n h w (hp.ru.keep I.keeps)) ?_);refine m180 ?_;refine tk 7 rfl (Ev.to (v':=I (D6 l n h)) (Ev.assign aa) (rfl)) ?_;refine D3 (pN (cut (λx=>(x = ((p9 l n h:Nat):Int))) (λx=>[dz,(0,true,jc p.b),(5,true,jc b1),(6,true,jc b2),(7,true,I 0),(8,true,I x)]) (λx=>[Var b2 dK dK.zero 102,Var b1 bm h 60]) ?_ (λx hx=>?_)))
   ·refine m1 ?_;refine m77 ?_;refine nP ?_;refine ig rfl (λh3=>?_) (λh3=>?_)
    ·refine m19 ?_;refine m248 ?_;refine m182 ?_;refine co (Ev.len JR aa (λw I=>hp.vs.cO I.keeps)) ?_;refine co (Ev.uh aa (.c rfl) (λ_=>by rw [Bw]; omega)) ?_;refine m223 ?_
     ·try dsimp only
      (rw [HV h3,Bw]; omega)
    ·refine m86 ?_
     ·try dsimp only
      first | (rw [HV h3,Bw]; omega) | exact (RO h3).symm
   obtain⟨k,rfl⟩:∃ y,y = x:=⟨x,rfl⟩;have hk:=hx;clear hx;obtain⟨r,hr⟩:∃ r,p9 l n h = r:=⟨_,rfl⟩;have hrl:r <= l.us.length:=by rw [<- hr]; exact RN l n h
   have er:((r:Nat):Int).toNat = r:=by omega
   have hvl:=Bw l;have hdl:=Ub p.tr.ptr l d;rw [hr] at hk;subst hk;refine m58 ?_;refine m182 ?_;refine mv rfl (co (Ev.indexAddr JR p8 aa aa (λw I=>hp.vs.cO I.keeps) (λ_=>zo)) ?_);refine co (Ev.to (Ev.eT p8 aa (λw I=>hp.vs.cO I.keeps) (λ_=>by omega)) (by rw [er])) ?_;refine cons (alloc vH (λb3=>?_));refine m59 ?_;refine nP ?_;refine m58 ?_;refine cf 9 rfl ?_;refine co (Ev.to (v':=p.dv.v) (Ev.load MN aa (jJ (λw I=>(hp).pt.keep I.keeps) aQ.qp)) (rfl)) ?_;refine mv rfl (co (Ev.indexAddr Mx AH aa aa (λw I=>hp.ds.cO I.keeps) (λ_=>zo)) ?_);refine co (Ev.to (v':=(yz p.tr.ptr _ _).v) (Ev.eT AH aa (λw I=>hp.ds.cO I.keeps) (λ_=>by omega)) (aL OV.v (by rw [er]; exact Yk p.tr.ptr l d hrl _))) ?_;refine cons (acz aa (.cons aa .nil) (λw I=>P3 p.tr l _ _ b1 h w (ed zm (aB.id _) w I) (hp.tr.keep I.keeps) ho.ok (ho.aeV h.dst)) ?_);refine m4 ?_;refine m214 ?_;refine j8 l9 bA.ku aa aa ?_;refine m277 ?_;refine cons (j8 l9 bA.qS aa aa ?_);refine nP ?_;refine m220 ?_;refine m59 ?_;refine m3 ?_;refine ret ?_;refine m188 ?_;have e1:Uc h dt.length = 0:=by unfold Uc; rw [if_neg h1]
   have e2:Z3 l d n h dt.length = L8 l d n h:=by unfold Z3; rw [if_neg h1]
   rw [e1,e2,Ua NK,hr]; rfl
end Go.Proofs.YtgnmiaonbadbnaaGreat
namespace Go.Proofs.YtgnmiaonbadbnaaGreat.Oc
open Go Go.Gx Go.Proofs.YtgnmiaonbadbnaaGreat.Tri
variable {α:Type} {L:List du}
def g8:Nat->UInt64->List UInt8
 | 0,_=>[]
 | n + 1,v=>(jV v (8 * n)).toUInt8 :: g8 n v
theorem tH (n:Nat) (v:UInt64):(g8 n v).length = n:=by
 induction n with
 | zero=>rfl
 | succ n ih=>simp [g8,ih]
theorem B4 (w:World):aR 246 #[] w (dO w (I 1)):=by
 refine iZ 13 Tryz.func246 (λ_ _=>?_);refine m296 ?_;refine co (Ev.P5 Y5 Y3 (.c rfl)) ?_;refine co (Ev.Uf aa) ?_;refine co (Ev.qW Kb Y5 aa) ?_;refine vK rfl (nP (block (lp (X:=Nat × UInt64) (λx=>(x.1 <= 1) /\ (x.2.toNat + 1 = 256 ^ (1 - x.1))) (λx=>[dz,(0,true,I 0),(1,true,I x.1),(2,true,fO x.2)]) (λx=>[]) (λx=>1 - x.1) (0,_) ⟨?_,?_⟩ (λx hx=>?_))))
 ·omega
 ·decide
 obtain⟨k,t⟩:=x;dsimp only at hx;obtain⟨hk,ht⟩:=hx;refine m16 ?_;refine m164 ?_;refine ig rfl (λh0=>?_) (λh0=>?_)
 ·have hkn:k < 1:=by
   rcases fZ k 1 with h | h
   ·exact h
   ·have e:k = 1:=by omega
    subst e;simp [bZ] at h0 ht;omega
  refine m172 ?_;refine vK rfl (nP (nx (k + 1,jV t 8) ⟨?_,?_⟩ ?_))
  ·omega
  ·grind [fc]
  omega
 ·have hkn:k = 1:=by
   rcases fZ k 1 with h | h
   ·have e:1 - k = (1 - (k + 1)) + 1:=by omega
    have hp:0 < 256 ^ (1 - (k + 1)):=Nat.pow_pos (by decide);rw [e,rf] at ht;simp [bZ] at h0;omega
   ·omega
  exact s55
def Er:DV 5 iO 1:=kB
def Ho:Eo iO:=Hk _
def z5:zI 5 iO:=kI
theorem yX (u:Value) (b:List UInt8) (v:UInt8) (w:World) (hb:bU iO w u b) (hl:b.length + 1 <= 140737488355328) :
 aR 239 #[u,U8 v] w (vM w iO (b ++ g8 1 v.toUInt64) 5):=by
 have hbl:=hb.le;refine iZ 34 Tryz.func239 (λ_ _=>?_);refine m272 ?_;refine dg eN .nil (λw I=>B4 w) ?_;refine m68 ?_;refine CU pg jQ rfl Er aa aa ⟨by omega,by omega⟩ ⟨by omega,by omega⟩ (λo1=>?_);refine m44 ?_;have e1:(List.replicate (Int.toNat (b.length:Int)) iO.zero) = List.replicate b.length (0:UInt8):=by rw [eg]; rfl
 rw [e1];have e2:b.take (List.replicate b.length (0:UInt8)).length ++ (List.replicate b.length (0:UInt8)).drop b.length = b:=by simp
 rw [e2];refine lp (λx=>(-1 <= x.1 /\ x.1 <= 0) /\ (x.2.2 ++ g8 (x.1 + 1).toNat v.toUInt64 = b ++ g8 1 v.toUInt64)) (λx=>[dz,(1,true,U8 v),(5,true,I x.1),(6,true,x.2.1.v)]) (λx=>[bY x.2.1.v iO x.2.2 5]) (λx=>(x.1 + 1).toNat) (_,o1,b) ⟨?_,?_⟩ (λx hx=>?_)
 ·omega
 ·rfl
 obtain⟨i,o,xs⟩:=x;obtain⟨hi,hxs⟩:=hx;refine m236 ?_;refine ig rfl (λh0=>?_) (λh0=>?_)
 ·have hlen:xs.length + (i + 1).toNat = b.length + 1:=by
   have:=aL List.length hxs
   simpa [tH] using this
  refine m21 ?_;refine m126 ?_;refine co (Ev.qW Kb Y5 aa) ?_;exact s8
 ·exact s23
theorem vu (w:World):aR 165 #[] w (dO w (I 2)):=by
 refine iZ 13 Tryz.func165 (λ_ _=>?_);refine m296 ?_;refine co (Ev.yB Hn Y3 (.c rfl)) ?_;refine co (Ev.FB aa) ?_;refine co (Ev.zE Kb Hn aa) ?_;refine vK rfl (nP (block (lp (X:=Nat × UInt64) (λx=>(x.1 <= 2) /\ (x.2.toNat + 1 = 256 ^ (2 - x.1))) (λx=>[dz,(0,true,I 0),(1,true,I x.1),(2,true,fO x.2)]) (λx=>[]) (λx=>2 - x.1) (0,_) ⟨?_,?_⟩ (λx hx=>?_))))
 ·omega
 ·decide
 obtain⟨k,t⟩:=x;dsimp only at hx;obtain⟨hk,ht⟩:=hx;refine m16 ?_;refine m164 ?_;refine ig rfl (λh0=>?_) (λh0=>?_)
 ·have hkn:k < 2:=by
   rcases fZ k 2 with h | h
   ·exact h
   ·have e:k = 2:=by omega
    subst e;simp [bZ] at h0 ht;omega
  refine m172 ?_;refine vK rfl (nP (nx (k + 1,jV t 8) ⟨?_,?_⟩ ?_))
  ·omega
  ·try dsimp only
   rw [fc]; have e:2 - k = (2 - (k + 1)) + 1:=by omega
   grind
  omega
 ·have hkn:k = 2:=by
   rcases fZ k 2 with h | h
   ·have e:2 - k = (2 - (k + 1)) + 1:=by omega
    have hp:0 < 256 ^ (2 - (k + 1)):=Nat.pow_pos (by decide);rw [e,rf] at ht;simp [bZ] at h0;omega
   ·omega
  exact s55
theorem gP (u:Value) (b:List UInt8) (v:UInt16) (w:World) (hb:bU iO w u b) (hl:b.length + 2 <= 140737488355328) :
 aR 115 #[u,rX v] w (vM w iO (b ++ g8 2 v.toUInt64) 5):=by
 have hbl:=hb.le;refine iZ 34 Tryz.func115 (λ_ _=>?_);refine m272 ?_;refine dg eN .nil (λw I=>vu w) ?_;refine m68 ?_;refine CU pg jQ rfl Er aa aa ⟨by omega,by omega⟩ ⟨by omega,by omega⟩ (λo1=>?_);refine m44 ?_;have e1:(List.replicate (Int.toNat (b.length:Int)) iO.zero) = List.replicate b.length (0:UInt8):=by rw [eg]; rfl
 rw [e1];have e2:b.take (List.replicate b.length (0:UInt8)).length ++ (List.replicate b.length (0:UInt8)).drop b.length = b:=by simp
 rw [e2];refine lp (λx=>(-1 <= x.1 /\ x.1 <= 1) /\ (x.2.2 ++ g8 (x.1 + 1).toNat v.toUInt64 = b ++ g8 2 v.toUInt64)) (λx=>[dz,(1,true,rX v),(5,true,I x.1),(6,true,x.2.1.v)]) (λx=>[bY x.2.1.v iO x.2.2 5]) (λx=>(x.1 + 1).toNat) (_,o1,b) ⟨?_,?_⟩ (λx hx=>?_)
 ·omega
 ·rfl
 obtain⟨i,o,xs⟩:=x;obtain⟨hi,hxs⟩:=hx;refine m236 ?_;refine ig rfl (λh0=>?_) (λh0=>?_)
 ·have hlen:xs.length + (i + 1).toNat = b.length + 2:=by
   have:=aL List.length hxs
   simpa [tH] using this
  refine m21 ?_;refine m126 ?_;refine co (Ev.zE Kb Hn aa) ?_;exact s8
 ·exact s23
theorem vq (w:World):aR 166 #[] w (dO w (I 4)):=by
 refine iZ 13 Tryz.func166 (λ_ _=>?_);refine m296 ?_;refine co (Ev.Dq YD Y3 (.c rfl)) ?_;refine co (Ev.P7 aa) ?_;refine co (Ev.zD Kb YD aa) ?_;refine vK rfl (nP (block (lp (X:=Nat × UInt64) (λx=>(x.1 <= 4) /\ (x.2.toNat + 1 = 256 ^ (4 - x.1))) (λx=>[dz,(0,true,I 0),(1,true,I x.1),(2,true,fO x.2)]) (λx=>[]) (λx=>4 - x.1) (0,_) ⟨?_,?_⟩ (λx hx=>?_))))
 ·omega
 ·decide
 obtain⟨k,t⟩:=x;dsimp only at hx;obtain⟨hk,ht⟩:=hx;refine m16 ?_;refine m164 ?_;refine ig rfl (λh0=>?_) (λh0=>?_)
 ·have hkn:k < 4:=by
   rcases fZ k 4 with h | h
   ·exact h
   ·have e:k = 4:=by omega
    subst e;simp [bZ] at h0 ht;omega
  refine m172 ?_;refine vK rfl (nP (nx (k + 1,jV t 8) ⟨?_,?_⟩ ?_))
  ·omega
  ·try dsimp only
   rw [fc]; have e:4 - k = (4 - (k + 1)) + 1:=by omega
   grind
  omega
 ·have hkn:k = 4:=by
   rcases fZ k 4 with h | h
   ·have e:4 - k = (4 - (k + 1)) + 1:=by omega
    have hp:0 < 256 ^ (4 - (k + 1)):=Nat.pow_pos (by decide);rw [e,rf] at ht;simp [bZ] at h0;omega
   ·omega
  exact s55
theorem mj (u:Value) (b:List UInt8) (v:UInt32) (w:World) (hb:bU iO w u b) (hl:b.length + 4 <= 140737488355328) :
 aR 116 #[u,qZ v] w (vM w iO (b ++ g8 4 v.toUInt64) 5):=by
 have hbl:=hb.le;refine iZ 34 Tryz.func116 (λ_ _=>?_);refine m272 ?_;refine dg eN .nil (λw I=>vq w) ?_;refine m68 ?_;refine CU pg jQ rfl Er aa aa ⟨by omega,by omega⟩ ⟨by omega,by omega⟩ (λo1=>?_);refine m44 ?_;have e1:(List.replicate (Int.toNat (b.length:Int)) iO.zero) = List.replicate b.length (0:UInt8):=by rw [eg]; rfl
 rw [e1];have e2:b.take (List.replicate b.length (0:UInt8)).length ++ (List.replicate b.length (0:UInt8)).drop b.length = b:=by simp
 rw [e2];refine lp (λx=>(-1 <= x.1 /\ x.1 <= 3) /\ (x.2.2 ++ g8 (x.1 + 1).toNat v.toUInt64 = b ++ g8 4 v.toUInt64)) (λx=>[dz,(1,true,qZ v),(5,true,I x.1),(6,true,x.2.1.v)]) (λx=>[bY x.2.1.v iO x.2.2 5]) (λx=>(x.1 + 1).toNat) (_,o1,b) ⟨?_,?_⟩ (λx hx=>?_)
 ·omega
 ·rfl
 obtain⟨i,o,xs⟩:=x;obtain⟨hi,hxs⟩:=hx;refine m236 ?_;refine ig rfl (λh0=>?_) (λh0=>?_)
 ·have hlen:xs.length + (i + 1).toNat = b.length + 4:=by
   have:=aL List.length hxs
   simpa [tH] using this
  refine m21 ?_;refine m126 ?_;refine co (Ev.zD Kb YD aa) ?_;exact s8
 ·exact s23
def tp (l:List UInt8):UInt64:=l.foldl (λv x=>v * 256 + x.toUInt64) 0
theorem WW (v:UInt64) (x:UInt8):tC v 8 ||| x.toUInt64 = v * 256 + x.toUInt64:=by
 apply cC.1;have hx:=x.toNat_lt;rw [UInt64.toNat_or,qL,jb,UInt64.toNat_mul,lE];have e1:v.toNat * 2 ^ 8 % 18446744073709551616 = 2 ^ 8 * (v.toNat % 72057594037927936):=by omega
 rw [e1,<- jm (by omega:x.toNat < 2 ^ 8)]
 grind
theorem Pj (l:List UInt8) (x:UInt8):tp (l ++ [x]) = tp l * 256 + x.toUInt64:=by simp [tp]
theorem qj (l:List α) (i:Int) (h0:0 <= i) (h1:i < l.length) (z:α):l.take (i + 1).toNat = l.take i.toNat ++ [l.getD i.toNat z]:=by
 simp_all; omega
theorem Ph (l:List UInt8) (i:Int) (h0:0 <= i) (h1:i < l.length):tp (l.take (i + 1).toNat) = tp (l.take i.toNat) * 256 + (l.getD i.toNat 0).toUInt64:=by
 grind [qj,Pj]
def gU (b:List UInt8) (p:Int) (n:Nat):UInt64 × Int:=if 0 <= p /\ p + n <= b.length then (tp ((b.take (p + n).toNat).drop p.toNat),0) else (0,5)
theorem vT (u:Value) (b:List UInt8) (p:Int) (w:World) (hb:bU iO w u b):aR 168 #[u,I p] w (dO w (.tuple #[rX (gU b p 2).1.toUInt16,I (gU b p 2).2])):=by
 have hbl:=hb.le;refine iZ 41 Tryz.func168 (λ_ _=>?_);refine sg (ac (rX 0) ?_);refine m3 ?_;refine m15 ?_;refine dg eN .nil (λw I=>vu w) ?_;refine m46 ?_;refine ig rfl (λh0=>?_) (λh0=>?_)
 ·refine sg (ac (rX 0) ?_);refine ac (I 5) ?_;refine m62 ?_;refine m55 ?_;exact s25
 ·refine m53 ?_;have hs:=hb.sub (l:=p.toNat) (k:=(p + 2).toNat) (by omega) (by omega);have hxl:((b.take (p + 2).toNat).drop p.toNat).length = 2:=by simp; omega
  rw [hxl]
  generalize hxs:(b.take (p + 2).toNat).drop p.toNat = xs at hs hxl
  refine lp (λx=>(0 <= x.1 /\ x.1 <= 2) /\ (x.2 = tp (xs.take x.1.toNat))) (λx=>[dz,(7,true,fO x.2),(26,true,uN iO.size u p.toNat _),(27,true,I 2),(28,true,I x.1)]) (λx=>[]) (λx=>(2 - x.1).toNat) (0,_) ⟨?_,?_⟩ (λx hx=>?_)
  ·omega
  ·rfl
  obtain⟨i,v⟩:=x;obtain⟨hi,hv⟩:=hx;refine m9 ?_;refine ig rfl (λh1=>?_) (λh1=>?_)
  ·exact s17
  ·refine m85 ?_;refine co (Ev.zC Hn Kb aa) ?_;refine m52 ?_;refine m55 ?_;exact s25
theorem Cf (u:Value) (b:List UInt8) (p:Int) (w:World) (hb:bU iO w u b):aR 169 #[u,I p] w (dO w (.tuple #[qZ (gU b p 4).1.toUInt32,I (gU b p 4).2])):=by
 have hbl:=hb.le;refine iZ 41 Tryz.func169 (λ_ _=>?_);refine sg (ac (qZ 0) ?_);refine m3 ?_;refine m15 ?_;refine dg eN .nil (λw I=>vq w) ?_;refine m46 ?_;refine ig rfl (λh0=>?_) (λh0=>?_)
 ·refine sg (ac (qZ 0) ?_);refine ac (I 5) ?_;refine m62 ?_;refine m55 ?_;exact s26
 ·refine m53 ?_;have hs:=hb.sub (l:=p.toNat) (k:=(p + 4).toNat) (by omega) (by omega);have hxl:((b.take (p + 4).toNat).drop p.toNat).length = 4:=by simp; omega
  rw [hxl]
  generalize hxs:(b.take (p + 4).toNat).drop p.toNat = xs at hs hxl
  refine lp (λx=>(0 <= x.1 /\ x.1 <= 4) /\ (x.2 = tp (xs.take x.1.toNat))) (λx=>[dz,(7,true,fO x.2),(26,true,uN iO.size u p.toNat _),(27,true,I 4),(28,true,I x.1)]) (λx=>[]) (λx=>(4 - x.1).toNat) (0,_) ⟨?_,?_⟩ (λx hx=>?_)
  ·omega
  ·rfl
  obtain⟨i,v⟩:=x;obtain⟨hi,hv⟩:=hx;refine m9 ?_;refine ig rfl (λh1=>?_) (λh1=>?_)
  ·exact s17
  ·refine m85 ?_;refine co (Ev.G5 YD Kb aa) ?_;refine m52 ?_;refine m55 ?_;exact s26
def marks:List UInt8:=(List.range 20).map λi:Nat=>UInt8.ofInt (200 + (i:Int))
def tN (m:Nat):Nat:=if m = 0 then 0 else (m - 1) % 65535 + 1
theorem LL (m:Nat):tN (m / 65536 + m % 65536) = tN m:=by
 grind [tN]
theorem I0 {m:Nat} (h:m <= 65535):tN m = m:=by
 unfold tN
 grind
theorem TF (m:Nat):tN m <= 65535:=by
 unfold tN
 grind
def sh:Bool->Nat
 | true=>8
 | false=>0
def xE:Bool->List UInt8->UInt64->UInt64
 | _,[],n=>n
 | p,x :: l,n=>xE (!p) l (n + tC x.toUInt64 (sh p))
theorem Kr (p:Bool) (xs r:List UInt8) (j:Nat) (n:UInt64) (hj:j < xs.length):xE (!p) (xs.drop (j + 1) ++ r) (n + tC (xs.getD j 0).toUInt64 (sh p)) = xE p (xs.drop j ++ r) n:=by
 exact s82
def Ks (l:List UInt8):UInt16:=UInt16.ofNat (65535 - tN (xE true l 0).toNat)
def amx (s o n:UInt16):UInt16:=UInt16.ofNat (65535 - tN (65535 - s.toNat + (65535 - o.toNat) + n.toNat))
theorem Md (m:Nat): ~~~ (UInt16.ofNat (tN m)) = UInt16.ofNat (65535 - tN m):=by
 have h:=TF m;apply lz.1;simp; omega
theorem Ss (m:UInt64) (w:World):aR 167 #[fO m] w (dO w (rX (UInt16.ofNat (tN m.toNat)))):=by
 refine iZ 13 Tryz.func167 (λ_ _=>?_);refine sg (ac (rX 0) ?_);refine nP (seq (block (lp (λx=>(tN x.toNat = tN m.toNat)) (λx=>[dz,(0,true,fO x)]) (λx=>[]) (λx=>x.toNat) (_) ?_ (λx hx=>?_))))
 ·rfl
 obtain⟨n,rfl⟩:∃ y,y = x:=⟨x,rfl⟩;have hn:=hx;refine m16 ?_;refine m66 ?_;refine m164 ?_;refine ig rfl (λhgt=>?_) (λhle=>?_)
 ·have hg2:0 < n.toNat / 2 ^ 16:=by simpa [bZ,fc] using hgt
  have hnl:=n.toNat_lt;have hstep:(jV n 16 + (n &&& 65535)).toNat = n.toNat / 65536 + n.toNat % 65536:=by
   rw [jb,fc,nT];have e:UInt64.toNat 65535 = 2 ^ 16 - 1:=rfl;rw [e,eQ]; omega
  refine m8 ?_;refine block ?_;refine m19 ?_;refine m66 ?_;refine mv rfl (co (Ev.BV aa (.c (v:=fO 65535) rfl)) ?_);refine co (Ev.vh aa aa) ?_;refine vK rfl (nil (bN (pN (nx (_) ?_ ?_))))
  ·grind [LL]
  grind
 ·refine m85 ?_;refine co (Ev.zC Hn Kb aa) ?_;refine m20 ?_;have hl:n.toNat <= 65535:=by
   have:¬ 0 < n.toNat / 2 ^ 16:=by simpa [bZ,fc] using hle
   omega
  rw [<- hn,I0 hl]
  rfl
theorem Rv (u:Value) (rl:List (List UInt8)) (w:World) (hs:MC iO w u rl):aR 117 #[u] w (dO w (rX (Ks rl.flatten))):=by
 obtain⟨vs,hvs,hvl,he⟩:=hs;have ajg:=hvs.le;refine iZ 34 Tryz.func117 (λ_ _=>?_);refine sg (ac (rX 0) ?_);refine nP (sg ?_);refine m201 ?_;refine sg (ac (I 8) ?_);refine m245 ?_;refine co (Ev.len Qs aa zf) ?_;refine m26 ?_;refine nP (block (lp (X:=Int × UInt64 × Bool) (λx=>(0 <= x.1 /\ x.1 <= rl.length) /\ (xE x.2.2 (rl.drop x.1.toNat).flatten x.2.1 = xE true rl.flatten 0)) (λx=>[dz,(3,true,fO x.2.1),(4,true,I (sh x.2.2)),(9,true,u),(10,true,I vs.length),(11,true,I x.1)]) (λx=>[]) (λx=>(rl.length - x.1).toNat) (0,_,true) ⟨?_,?_⟩ (λx hx=>?_)))
 ·omega
 ·rfl
 obtain⟨i,h,p⟩:=x;dsimp only at hx;obtain⟨hi,hh⟩:=hx;refine m9 ?_;refine ig rfl (λhlt=>?_) (λhge=>?_)
 ·refine m163 ?_;have hd:rl.drop i.toNat = rl.getD i.toNat [] :: rl.drop (i + 1).toNat:=by
   exact s63
  rw [hd,List.flatten_cons] at hh;have hx:=he i.toNat (by omega);have hxl:=hx.le
  generalize rl.getD i.toNat [] = xs at hh hx hxl
  change bU iO w (vs.getD i.toNat aM).v xs at hx
  refine m288 ?_;refine m26 ?_;refine nP (block (lp (X:=Int × UInt64 × Bool) (λx=>(0 <= x.1 /\ x.1 <= xs.length) /\ (xE x.2.2 (xs.drop x.1.toNat ++ (rl.drop (i + 1).toNat).flatten) x.2.1 = xE p (xs ++ (rl.drop (i + 1).toNat).flatten) h)) (λx=>[dz,(3,true,fO x.2.1),(4,true,I (sh x.2.2)),(9,true,u),(10,true,I vs.length),(11,true,I i),(15,true,(vs.getD i.toNat aM).v),(16,true,I xs.length),(17,true,I x.1)]) (λx=>[]) (λx=>(xs.length - x.1).toNat) (0,_,_) ⟨?_,?_⟩ (λx hx=>?_)))
  ·omega
  ·rfl
  obtain⟨j,g,q⟩:=x;obtain⟨hj,hg⟩:=hx;refine m9 ?_;refine ig rfl (λaf4=>?_) (λaf9=>?_)
  ·refine m80 ?_;refine mv rfl (co (Ev.qW Kb Y5 aa) ?_);refine mv rfl (co (Ev.F2 aa aa (λ_=>zo)) ?_);refine co (Ev.vh aa aa) ?_;refine vK rfl (nP (region (mv rfl (co (Ev.Uw (r:=sh (!q)) (m:=sh q) (.inr (.inr rfl)) aa (.c rfl) (λ_=>by cases q <;> decide) (λ_=>by decide) (by cases q <;> rfl)) ?_))));refine m283 ?_;refine mv rfl (nP (nx (j + 1,_,!q) ⟨?_,?_⟩ ?_))
   ·omega
   ·rw [<- hg];have e:(j + 1).toNat = j.toNat + 1:=by omega
    rw [e];have e2:((sh q:Nat):Int).toNat = sh q:=rfl;exact Kr q xs _ j.toNat _ (by omega)
   omega
  ·have hq:xE q (rl.drop (i + 1).toNat).flatten g = xE p (xs ++ (rl.drop (i + 1).toNat).flatten) h:=by
    rw [gT (by omega)] at hg; exact hg
   refine m102 ?_;refine m2 ?_;refine mv rfl (nP (nx (i + 1,_,_) ⟨?_,?_⟩ ?_))
   ·omega
   ·grind
   omega
 ·refine m85 ?_;refine cons (dg eN (o1 rfl) (λw I=>Ss _ w) ?_);refine co (Ev.FB aa) ?_;refine m20 ?_;have e:rl.drop i.toNat = []:=by simp_all
  rw [e] at hh;rw [Md];unfold Ks;rw [<- hh]; rfl
def wE (h:UInt64) (l:List UInt8):UInt64:=l.foldl (λh x=>(h ^^^ x.toUInt64) * 1099511628211) h
theorem Lw (g:UInt64) (xs r:List UInt8) (j:Nat) (hj:j < xs.length):wE ((g ^^^ (xs.getD j 0).toUInt64) * 1099511628211) (xs.drop (j + 1) ++ r) = wE g (xs.drop j ++ r):=by
 exact s82
theorem XF (u:Value) (rl:List (List UInt8)) (w:World) (hs:MC iO w u rl):aR 208 #[u] w (dO w (fO (wE 14695981039346656037 rl.flatten))):=by
 obtain⟨vs,hvs,hvl,he⟩:=hs;have ajg:=hvs.le;refine iZ 29 Tryz.func208 (λ_ _=>?_);refine sg ?_;refine m201 ?_;refine sg (ac (fO 14695981039346656037) ?_);refine m245 ?_;refine co (Ev.len Qs aa zf) ?_;refine m26 ?_;refine nP (block (lp (X:=Int × UInt64) (λx=>(0 <= x.1 /\ x.1 <= rl.length) /\ (wE x.2 (rl.drop x.1.toNat).flatten = wE 14695981039346656037 rl.flatten)) (λx=>[dz,(3,true,fO x.2),(8,true,u),(9,true,I vs.length),(10,true,I x.1)]) (λx=>[]) (λx=>(rl.length - x.1).toNat) (0,_) ⟨?_,?_⟩ (λx hx=>?_)))
 ·omega
 ·rfl
 obtain⟨i,h⟩:=x;dsimp only at hx;obtain⟨hi,hh⟩:=hx;refine m9 ?_;refine ig rfl (λhlt=>?_) (λhge=>?_)
 ·refine m163 ?_;have hd:rl.drop i.toNat = rl.getD i.toNat [] :: rl.drop (i + 1).toNat:=by
   exact s63
  rw [hd,List.flatten_cons] at hh;have hx:=he i.toNat (by omega);have hxl:=hx.le
  generalize rl.getD i.toNat [] = xs at hh hx hxl
  change bU iO w (vs.getD i.toNat aM).v xs at hx
  refine m288 ?_;refine m26 ?_;refine nP (block (lp (X:=Int × UInt64) (λx=>(0 <= x.1 /\ x.1 <= xs.length) /\ (wE x.2 (xs.drop x.1.toNat ++ (rl.drop (i + 1).toNat).flatten) = wE h (xs ++ (rl.drop (i + 1).toNat).flatten))) (λx=>[dz,(3,true,fO x.2),(8,true,u),(9,true,I vs.length),(10,true,I i),(14,true,(vs.getD i.toNat aM).v),(15,true,I xs.length),(16,true,I x.1)]) (λx=>[]) (λx=>(xs.length - x.1).toNat) (0,_) ⟨?_,?_⟩ (λx hx=>?_)))
  ·omega
  ·rfl
  obtain⟨j,g⟩:=x;obtain⟨hj,hg⟩:=hx;refine m9 ?_;refine ig rfl (λaf4=>?_) (λaf9=>?_)
  ·refine m80 ?_;refine mv rfl (co (Ev.qW Kb Y5 aa) ?_);refine co (Ev.VO aa aa) ?_;refine m231 ?_;refine co (Ev.Xc aa (.c (v:=fO 1099511628211) rfl)) ?_;refine m283 ?_;refine mv rfl (nP (nx (j + 1,_) ⟨?_,?_⟩ ?_))
   ·omega
   ·rw [<- hg];have e:(j + 1).toNat = j.toNat + 1:=by omega
    rw [e];exact Lw g xs _ j.toNat (by omega)
   omega
  ·have hq:wE g (rl.drop (i + 1).toNat).flatten = wE h (xs ++ (rl.drop (i + 1).toNat).flatten):=by
    rw [gT (by omega)] at hg; exact hg
   refine m102 ?_;refine m2 ?_;refine mv rfl (nP (nx (i + 1,_) ⟨?_,?_⟩ ?_))
   ·omega
   ·grind
   omega
 ·refine m85 ?_;refine m20 ?_;have e:rl.drop i.toNat = []:=by simp_all
  rw [e] at hh;rw [<- hh]; rfl
def gO (a:bJ):List UInt8:=a.b.toList.take (bif a.v6 then 16 else 4)
theorem Jb (u v:Value) (a b:List UInt8) (w:World) (ha:bU iO w u a) (hb:bU iO w v b):aR 120 #[u,v] w (dO w (.bool (decide (a = b)))):=by
 refine iZ 10 Tryz.func120 (λ_ _=>?_);refine m273 ?_;refine co (Ev.Ue pg Y5 Y9 aa zf) ?_;refine mv rfl (co (Ev.Ue pg Y5 Y9 aa zf) ?_);refine co (Ev.agG aa aa) ?_;refine m20 ?_;simp
attribute [simp] tH
def adO (b:Nat) (a:bJ):OV:=⟨.slice (some ⟨b,1,none⟩) (bif a.v6 then 16 else 4) 16,rfl⟩
theorem jC (a:bJ):(gO a).length = bif a.v6 then 16 else 4:=by grind [gO]
theorem xe {K:Ctx} {b:Nat} {a:bJ} (hm:Var b iz a 55 ∈ L) (w:World) (h:bS K L w):bU iO w (adO b a).v (gO a):=by
 have h1:=uz (ed hm bJ.D9 w h) (by decide) (k:=bif a.v6 then 16 else 4) (bu _) (by cases a.v6 <;> decide)
 assumption
def gI (h:ae) (d:List UInt8) (s:UInt16):List UInt8 :=
 if h.bz = 6 then g8 2 h.dD.toUInt64 ++ g8 2 h.dE.toUInt64 ++ g8 4 h.seq.toUInt64 ++ [0,0,0,0,80,h.flags,255,255] ++ g8 2 s.toUInt64 ++ [0,0] ++ d
 else if h.bz = 17 then g8 2 h.dD.toUInt64 ++ g8 2 h.dE.toUInt64 ++ g8 2 (UInt16.ofInt (8 + (d.length:Int))).toUInt64 ++ g8 2 s.toUInt64 ++ d
 else d
theorem qv (a:bJ) (w:World):aR 118 #[iz.val a] w (nz w (λ_:Nat=>True) (λb=>(adO b a).v) (λb=>[Var b iz a 55])):=by
 refine iZ 9 Tryz.func118 (λ_ _=>?_);refine m15 ?_;refine box aa (λb1=>?_);refine m98 ?_;refine seq ?_;refine m107 ?_;refine ig rfl (λh0=>?_) (λh0=>?_)
 ·refine sg ?_;refine m277 ?_;refine co (Ev.sk Oi jQ aa rfl rfl (λ_=>by decide)) ?_;refine m48 ?_;refine pR (done rfl (.tmp rfl .nil) (λw I=>?_));exact tU b1 trivial (by unfold adO; simp_all) (by simp) w I
 ·refine m153 ?_;refine m277 ?_;refine co (Ev.sk (h:=4) Oi jQ aa rfl (.c rfl) (λ_=>by decide)) ?_;refine m48 ?_;refine done rfl (.tmp rfl .nil) (λw I=>?_);exact tU b1 trivial (by unfold adO; simp_all) (by simp) w I
theorem FJ (h:ae) (d:List UInt8) (w:World) (hd:bU iO w h.data.v d) (hl:d.length <= 4096):aR 60 #[bm.val h] w (vM w iO (gI h d 0) 5):=by
 refine iZ 51 Tryz.func60 (λ_ _=>?_);refine m15 ?_;refine box aa (λb1=>?_);refine m98 ?_;refine m287 ?_;refine m165 ?_;refine m195 ?_;refine ig rfl (λh0=>?_) (λh0=>?_)
 ·refine m1 ?_;refine m141 ?_;refine cons (vL pg jQ Er Ho aa aa (λv2=>?_));refine m48 ?_;refine pR ?_;refine m75 ?_;have h6:h.bz ≠ 6:=λe=>by rw [e] at h0; exact absurd h0 (by decide)
  have h17:h.bz ≠ 17:=λe=>by rw [e] at h0; exact absurd h0 (by decide)
  grind [gI]
 ·refine m73 ?_;refine cf 35 rfl ?_;refine co (Ev.gR h.dD qh aa ae.gg) ?_;refine cons (jW eN (o2 rfl rfl) (λw I=>gP _ _ _ w (zj w I) (by simp)) (λv3=>?_));refine m6 ?_;refine cf 36 rfl ?_;refine co (Ev.gR h.dE qh aa ae.gk) ?_;refine cons (jW eN (o2 rfl rfl) (λw I=>gP _ _ _ w (zj w I) (by simp)) (λv4=>?_));refine m177 ?_;refine sg ?_;refine m33 ?_;refine m132 ?_;refine nP ?_;refine ig rfl (λh1=>?_) (λh1=>?_)
  ·refine m1 ?_;refine cf 41 rfl ?_;refine co (Ev.gR h.seq FU aa ae.Fc) ?_;refine cons (jW eN (o2 rfl rfl) (λw I=>mj _ _ _ w (zj w I) (by simp)) (λv5=>?_));refine m6 ?_;refine cons (jW eN (.cons aa (.cons (.c (v:=qZ 0) rfl) .nil)) (λw I=>mj _ _ _ w (zj w I) (by simp)) (λv6=>?_));refine m6 ?_;refine cf 40 rfl ?_;refine co (Ev.gR h.flags jQ aa ae.xb) ?_;refine cons (buildSlice pg jQ z5 (.cons (.c (v:=U8 80) rfl) (.cons aa .nil)) rfl rfl (λv7=>?_));refine cons (vL pg jQ Er Ho aa aa (λv8=>?_));refine m6 ?_;refine cons (jW eN (.cons aa (.cons (.c (v:=rX 65535) rfl) .nil)) (λw I=>gP _ _ _ w (zj w I) (by simp)) (λv9=>?_));refine m231 ?_;refine cons (jW eN (.cons aa (.cons (.c (v:=qZ 0) rfl) .nil)) (λw I=>mj _ _ _ w (zj w I) (by simp)) (λv10=>?_));refine m6 ?_;refine m141 ?_;refine cons (vL pg jQ Er Ho aa aa (λv11=>?_));refine m230 ?_
   by_cases h6:h.bz = 6
   ·first
     | (exfalso; simp_all; done)
     | (unfold gI
        rw [if_pos h6];simp only [lU,bM]
        rfl)
   trivial
  ·refine m1 ?_;refine m141 ?_;refine m103 ?_;refine co (Ev.lx (.c rfl) aa (λ_=>zo)) ?_;refine m213 ?_;refine jW eN (o2 rfl rfl) (λw I=>gP _ _ _ w (zj w I) (by simp)) (λv12=>?_);refine m231 ?_;refine cons (jW eN (.cons aa (.cons (.c (v:=rX 0) rfl) .nil)) (λw I=>gP _ _ _ w (zj w I) (by simp)) (λv13=>?_));refine m6 ?_;refine m141 ?_;refine cons (vL pg jQ Er Ho aa aa (λv14=>?_));refine m230 ?_
   by_cases h6:h.bz = 6
   ·trivial
   simp_all [done,absurd,gf,if_neg,gI,if_pos,lU]
def y8 (xs:List UInt8) (p:Int) (s:UInt16):List UInt8:=(xs.set p.toNat (EH s 8).toUInt8).set (p + 1).toNat s.toUInt8
@[simp] theorem IA (xs:List UInt8) (p:Int) (s:UInt16):(y8 xs p s).length = xs.length:=by simp [y8]
theorem Lj (v:Value) (xs:List UInt8) (p:Int) (s:UInt16) (w:World) (hp:0 <= p /\ p + 1 < xs.length) (hx:(bY v iO xs 5).A w) (hb:∀ b,v.ownBlock = some b->b < w.heap.size):aR 62 #[v,I p,rX s] w (acW v iO xs (y8 xs p s) 5 (.tuple #[]) w):=by
 have hbl:=(bU.lJ hx).le;refine enter 18 _ Tryz.func62 rfl rfl (aT rfl) (OO hx hb) (λ_ _=>?_);refine m208 ?_;refine mv rfl (co (Ev.Wc aa (.c rfl) (λ_=>by decide)) ?_);refine co (Ev.A9 Y5 Hn aa) ?_;refine co (Ev.indexAddr pg jQ aa aa (λw I=>io w I) (λ_=>zo)) ?_;refine cons (Bx jQ aa aa zu (by omega) ?_);refine nP ?_;refine m126 ?_;refine m160 ?_;refine mv rfl (co (Ev.A9 Y5 Hn aa) ?_);refine co (Ev.indexAddr pg jQ aa aa (λw I=>io w I) (λ_=>by grind)) ?_;refine cons (Bx jQ aa aa zu (by grind) ?_);refine nil (zA rfl .nil (λw I=>?_));exact ⟨rfl,I.keeps,(I.own _ ah).1⟩
def BC (h:ae) (n:Int):List UInt8:=bif h.src.v6 then g8 4 (UInt32.ofInt n).toUInt64 ++ [0,0,0,h.bz] else [0,h.bz] ++ g8 2 (UInt16.ofInt n).toUInt64
def FX (h:ae) (b:List UInt8):UInt16 :=
 if Ks (gO h.src ++ gO h.dst ++ BC h b.length ++ b) = 0 /\ h.bz = 17 then 65535 else Ks (gO h.src ++ gO h.dst ++ BC h b.length ++ b)
def z58:zI 58 (dJ aM):=kI
theorem HF (h:ae) (v:Value) (b:List UInt8) (w:World) (hb:bU iO w v b) (hl:b.length <= 4096):aR 64 #[bm.val h,v] w (dO w (rX (FX h b))):=by
 obtain⟨o,rfl⟩:∃ o:OV,o.v = v:=⟨⟨v,hb.one⟩,rfl⟩;refine iZ 43 Tryz.func64 (λ_ _=>?_);refine m15 ?_;refine box aa (λb1=>?_);refine ac (rX 0) ?_;refine nP (sg ?_);refine m33 ?_;refine cons (buildSlice pg jQ z5 (.cons (.c (v:=U8 0) rfl) (.cons aa .nil)) rfl rfl (λv2=>?_));refine m288 ?_;refine m213 ?_;refine jW eN (o2 rfl rfl) (λw I=>gP _ _ _ w (zj w I) (by simp)) (λv3=>?_);refine m177 ?_;refine m49 ?_;refine nP ?_;refine ig rfl (λh0=>?_) (λh0=>?_)
 ·refine m47 ?_;refine tk 1 rfl (Ev.len pg aa zf) ?_;refine tk 2 rfl (Ev.Dq YD Y3 aa) ?_;refine tk 4 rfl (fA 34 aa) ?_;refine tk 5 rfl (Ev.gR h.bz jQ aa ae.iF) ?_;refine all [3,6] zk (by decide) (.cons rfl ?_ (.cons rfl ?_ .nil))
  ·refine (jW eN (.cons (.c rfl) (.cons aa .nil)) (λw I=>mj _ _ _ w (bU.nil _ w) (by simp)) (λv4=>?_));refine m244 ?_;refine buildSlice pg jQ z5 (.cons (.c (v:=U8 0) rfl) (.cons (.c (v:=U8 0) rfl) (.cons (.c (v:=U8 0) rfl) (.cons aa .nil)))) rfl rfl (λv5=>?_);exact s91
  ·refine (buildSlice pg jQ z5 (.cons (.c (v:=U8 0) rfl) (.cons (.c (v:=U8 0) rfl) (.cons (.c (v:=U8 0) rfl) (.cons aa .nil)))) rfl rfl (λv8=>?_));refine m180 ?_;refine fB 3 rfl (jW eN (.cons (.c rfl) (.cons aa .nil)) (λw I=>mj _ _ _ w (bU.nil _ w) (by simp)) (λv9=>?_));exact s91
 ·refine m196 ?_;refine o9 zk ?_;exact s2
def zd (h:ae) (n:Int):List UInt8:=[69,h.nq] ++ g8 2 (UInt16.ofInt (20 + n)).toUInt64 ++ g8 2 h.id.toUInt16.toUInt64 ++ g8 2 (16384:UInt16).toUInt64 ++ [h.ED,h.bz,0,0] ++ gO h.src ++ gO h.dst
def o7 (h:ae) (n:Int):List UInt8 :=
 if h.src.v6 = true then g8 4 (1610612736 ||| xG h.nq.toUInt32 20 ||| h.id).toUInt64 ++ g8 2 (UInt16.ofInt n).toUInt64 ++ [h.bz,h.ED] ++ gO h.src ++ gO h.dst
 else y8 (zd h n) 10 (Ks (zd h n))
theorem zc (h:ae) (n:Int):(zd h n).length = 12 + (gO h.src).length + (gO h.dst).length:=by
 simp [zd];omega
theorem zN (a:bJ):4 <= (gO a).length /\ (gO a).length <= 16:=by grind [jC]
theorem NM (h:ae) (n:Int) (w:World) (hn:0 <= n /\ n <= 4096):aR 65 #[bm.val h,I n] w (vM w iO (o7 h n) 5):=by
 have a1:=zN h.src;have a2:=zN h.dst;refine iZ 84 Tryz.func65 (λ_ _=>?_);refine m15 ?_;refine box aa (λb1=>?_);refine m98 ?_;refine m287 ?_;refine m49 ?_;refine nP ?_;refine ig rfl (λh0=>?_) (λh0=>?_)
 ·refine sg (ac (qZ 1610612736) ?_);refine m138 ?_;refine cf 38 rfl ?_;refine co (Ev.gR h.nq jQ aa ae.uw) ?_;refine co (Ev.Jm YD Y5 aa) ?_;refine co (Ev.We aa (.c rfl) (λ_=>by decide)) ?_;refine co (Ev.Sm aa aa) ?_;refine m6 ?_;refine m217 ?_;refine co (Ev.Sm aa aa) ?_;refine m6 ?_;refine m27 ?_;refine jW eN (o2 rfl rfl) (λw I=>mj _ _ _ w (zj w I) (by simp)) (λv2=>?_);refine m6 ?_;refine mv rfl ?_;refine m213 ?_;refine jW eN (o2 rfl rfl) (λw I=>gP _ _ _ w (zj w I) (by simp)) (λv3=>?_);refine m6 ?_;refine m33 ?_;refine cf 37 rfl ?_;refine co (Ev.gR h.ED jQ aa ae.CY) ?_;refine cons (buildSlice pg jQ z5 (.cons aa (.cons aa .nil)) rfl rfl (λv4=>?_));refine cons (vL pg jQ Er Ho aa aa (λv5=>?_));refine m6 ?_;refine cf 0 rfl ?_;refine m218 ?_;refine cons (iP _ _ _ eN (o1 rfl) (λw I=>qv _ w) (λn9 _=>?_));refine cons (vL pg jQ Er Ho aa aa (λv6=>?_) (hsrc:=(λw I=>xe (by simp) w I)));refine m6 ?_;refine m134 ?_;refine cons (iP _ _ _ eN (o1 rfl) (λw I=>qv _ w) (λn10 _=>?_));refine cons (vL pg jQ Er Ho aa aa (λv7=>?_) (hsrc:=(λw I=>xe (by simp) w I)));refine m48 ?_;refine pR ?_;refine m75 ?_
  simp_all [o7,if_pos]
 ·refine m73 ?_;refine cf 38 rfl ?_;refine co (Ev.gR h.nq jQ aa ae.uw) ?_;refine cons (buildSlice pg jQ z5 (.cons (.c (v:=U8 69) rfl) (.cons aa .nil)) rfl rfl (λv8=>?_));refine cons (vL pg jQ Er Ho aa aa (λv9=>?_));refine m6 ?_;refine mv rfl (co (Ev.lx (.c rfl) aa (λ_=>zo)) ?_);refine m213 ?_;refine jW eN (o2 rfl rfl) (λw I=>gP _ _ _ w (zj w I) (by simp)) (λv10=>?_);refine m6 ?_;refine m217 ?_;refine co (Ev.G6 Hn YD aa) ?_;refine cons (jW eN (o2 rfl rfl) (λw I=>gP _ _ _ w (zj w I) (by simp)) (λv11=>?_));refine m6 ?_;refine cons (jW eN (.cons aa (.cons (.c (v:=rX 16384) rfl) .nil)) (λw I=>gP _ _ _ w (zj w I) (by simp)) (λv12=>?_));refine m6 ?_;refine cf 37 rfl ?_;refine co (Ev.gR h.ED jQ aa ae.CY) ?_;refine m33 ?_;refine cons (buildSlice pg jQ z5 (.cons aa (.cons aa (.cons (.c (v:=U8 0) rfl) (.cons (.c (v:=U8 0) rfl) .nil)))) rfl rfl (λv13=>?_));refine cons (vL pg jQ Er Ho aa aa (λv14=>?_));refine m6 ?_;refine cf 0 rfl ?_;refine m218 ?_;refine cons (iP _ _ _ eN (o1 rfl) (λw I=>qv _ w) (λn16 _=>?_));refine cons (vL pg jQ Er Ho aa aa (λv15=>?_) (hsrc:=(λw I=>xe (by simp) w I)));refine m6 ?_;refine m134 ?_;refine cons (iP _ _ _ eN (o1 rfl) (λw I=>qv _ w) (λn17 _=>?_));refine cons (vL pg jQ Er Ho aa aa (λv16=>?_) (hsrc:=(λw I=>xe (by simp) w I)));refine m6 ?_;refine m27 ?_;refine buildSlice Qs Bj z58 (.cons aa .nil) rfl rfl (λv17=>?_);refine cons (dg eN (o1 rfl) (λw I=>Rv _ _ w (MC.mk' (io w I) (.cons (io w I) .nil))) ?_);refine cons (Uo (E:=iO) (T:=5) zu eN (.cons aa (.cons (.c (v:=I 10) rfl) (.cons aa .nil))) (λw I=>Lj _ (zd h n) _ _ w ⟨by omega,by rw [zc]; omega⟩ (I.own _ (by exact zm)).1 (λb hb=>((I.own (bY _ iO (zd h n) 5) (by exact zm)).2 b hb).2)) ?_);refine m138 ?_;refine m230 ?_;unfold o7
  grind [zd,Ks,List.flatten_cons,List.flatten_nil]
def lH (h:ae) (d:List UInt8):List UInt8:=if gf h.bz = 0 then gI h d 0 else y8 (gI h d 0) (UG h.bz) (FX h (gI h d 0))
def mL (h:ae) (d:List UInt8):List UInt8:=o7 h (lH h d).length ++ lH h d
theorem rW (h:ae) (d:List UInt8) (s:UInt16):((gI h d s).length:Int) = gf h.bz + d.length:=by
 unfold gI gf;split
 ·simp; omega
 ·split
  ·simp; omega
  ·simp
@[simp] theorem uS (h:ae) (d:List UInt8):((lH h d).length:Int) = gf h.bz + d.length:=by
  grind [lH,rW,IA]
theorem lY (p:UInt8):gf p = 0 \/ p = 6 /\ gf p = 20 \/ p = 17 /\ gf p = 8:=by grind [gf]
theorem UF (p:UInt8) (h:gf p ≠ 0):0 <= UG p /\ UG p + 1 < gf p:=by
 rcases lY p with e | ⟨rfl,e⟩ | ⟨rfl,e⟩
 ·omega
 ·trivial
 trivial
theorem Dt (h:ae) (n:Int) (hc:js h n = 0):n <= 2048:=by
 grind [js,dG,decide,gf,lY]
theorem Tp (h:ae) (n:Int):(o7 h n).length <= 44:=by
 have a1:=zN h.src;have a2:=zN h.dst;unfold o7;split
 ·simp; omega
 simp [zc]; omega
def aku (w:World) (h:ae) (d:List UInt8):ja :=
 nz w (λo:OV=>js h d.length ≠ 0->o = aM) (λo=>.tuple #[o.v,I (js h d.length)]) (λo=>if js h d.length = 0 then [bY o.v iO (mL h d) 5] else [])
theorem Nz (h:ae) (d:List UInt8) (w:World) (hd:bU iO w h.data.v d) (hl:d.length <= 1152921504606846975):aR 24 #[bm.val h] w (aku w h d):=by
 refine iZ 31 Tryz.func24 (λ_ _=>?_);refine m15 ?_;refine box aa (λb1=>?_);refine ac _ ?_;refine m159 ?_;refine sg ?_;refine m276 ?_;refine dg eN (o1 rfl) (λw I=>ET _ d w (hd.cO I.keeps) (by omega)) ?_;refine m171 ?_;refine ig rfl (λagn=>?_) (λGK=>?_)
 ·refine m152 ?_;refine done rfl (.tmp rfl (.tmp rfl .nil)) (λw I=>?_);exact tU aM (λ_=>rfl) rfl (by grind) w I
 ·have hcl:=Dt h d.length GK;have hbl:=rW h d 0;have hrl:=uS h d;have hmc:=lY h.bz;refine m153 ?_;refine m276 ?_;refine jW eN (o1 rfl) (λw I=>FJ _ d w (hd.cO I.keeps) (by omega)) (λv2=>?_);refine vK rfl (nP (cut (X:=OV × (List UInt8)) (λx=>(x.2 = lH h d)) (λx=>[dz,(1,true,jc b1),(5,true,x.1.v)]) (λx=>[bY x.1.v iO x.2 5,Var b1 bm h 60]) ?_ (λx hx=>?_)))
  ·refine m165 ?_;refine m137 ?_;refine nP ?_;refine ig rfl (λhm=>?_) (λhm=>?_)
   ·have sf:=UF h.bz (by omega);refine T9 lC.head zk ?_;refine m202 ?_;refine tk 1 rfl (fA 34 aa) ?_;refine tk 2 rfl (Ev.gR h.bz jQ aa ae.iF) ?_;refine tk 4 rfl (Ev.gR h rm aa (aB.id _)) ?_;refine m221 ?_;refine fB 3 rfl (dg eN (o1 rfl) (λw I=>UD _ w) ?_);refine m244 ?_;refine dg eN (o2 rfl rfl) (λw I=>HF _ _ _ w (io w I) (by omega)) ?_;refine m151 ?_;refine Uo zu eN (o3 rfl rfl rfl) (λw I=>Lj _ _ _ _ w (by omega) (I.own _ zm).1 (λb hb=>((I.own _ zm).2 b hb).2)) ?_;refine m51 ?_;refine mt (_,_) ?_
    ·exact (if_neg (by omega)).symm
   ·refine m8 ?_;refine mt (_,_) ?_
    ·first
      | exact (if_neg (by omega)).symm
      | exact (if_pos (by omega)).symm
  obtain⟨o,xs⟩:=x;have hxs:=hx;show Sat _ _ [dz,(1,true,.pointer (some ⟨b1,0,none⟩)),(5,true,o.v)] [bY o.v iO xs 5,Var b1 bm h 60];subst hxs;have hhl:=Tp h (lH h d).length;refine sg (co (Ev.gR h rm aa (aB.id _)) ?_);refine m288 ?_;refine cons (jW eN (o2 rfl rfl) (λw I=>NM _ _ w (by omega)) (λv3=>?_));refine m27 ?_;refine vL pg jQ Er Ho aa aa (λv4=>?_);refine m52 ?_;refine done rfl (.tmp rfl (.tmp rfl .nil)) (λw I=>?_);exact tU _ (λhn=>absurd GK hn) (by rw [GK]; rfl) (by rw [if_pos GK]; exact zs) w I
def Dn (b:List UInt8) (l k:Nat):List UInt8:=(b.take k).drop l
def hd4 (b:List UInt8):ae :=
 { bm.zero with nq:=b.getD 1 0,id:=(gU b 4 2).1.toUInt16.toUInt32,ED:=b.getD 8 0,bz:=b.getD 9 0,src:=⟨false,Aw (Vector.replicate 16 0) (Dn b 12 16) 0⟩,dst:=⟨false,Aw (Vector.replicate 16 0) (Dn b 16 20) 0⟩ }
def hd6 (b:List UInt8):ae :=
 { bm.zero with nq:=(EG (gU b 0 4).1.toUInt32 20).toUInt8,id:=(gU b 0 4).1.toUInt32 &&& 1048575,bz:=b.getD 6 0,ED:=b.getD 7 0,src:=⟨true,xB 16 (Dn b 8 24) 0⟩,dst:=⟨true,xB 16 (Dn b 24 40) 0⟩ }
def dc (b:List UInt8):ae × Int × Int :=
 if b.length = 0 then (bm.zero,0,160)
 else if vI (b.getD 0 0) 4 = 4 then
  if b.length < 20 then (bm.zero,0,160)
  else if b.getD 0 0 ≠ 69 \/ (gU b 6 2).1.toUInt16 ≠ 16384 then (bm.zero,0,161)
  else (hd4 b,((gU b 2 2).1.toUInt16.toNat:Int),0)
 else if vI (b.getD 0 0) 4 = 6 then
  if b.length < 40 then (bm.zero,0,160) else (hd6 b,40 + ((gU b 4 2).1.toUInt16.toNat:Int),0)
 else (bm.zero,0,161)
def QB:zI 60 bm:=kI
def MM:ot 322 (mh 4 iO):=oq
def VF:zI 322 (mh 4 iO):=kI
theorem LI (u:Value) (b:List UInt8) (w:World) (hb:bU iO w u b):aR 119 #[u] w (dO w (.tuple #[bm.val (dc b).1,I (dc b).2.1,I (dc b).2.2])):=by
 have hbl:=hb.le;have anx:=(gU b 4 2).1.toUInt16.toNat_lt;refine iZ 133 Tryz.func119 (λ_ _=>?_);refine m15 ?_;refine alloc QB (λb1=>?_);refine ac (I 0) ?_;refine m149 ?_;refine m103 ?_;refine m195 ?_;refine ig rfl (λh0=>?_) (λh0=>?_)
 ·refine m185 ?_;refine m37 ?_
  simp_all [dc]
 ·refine m229 ?_;refine m112 ?_;refine co (Ev.aaI aa (.c rfl) (λ_=>by decide)) ?_;refine nP (block (sg (co (Ev.Au aa (.c (v:=U8 4) rfl)) ?_)));refine m0 ?_;refine ig rfl (λh1=>?_) (λh1=>?_)
  ·refine m16 ?_;refine m103 ?_;refine m77 ?_;refine nP ?_;refine ig rfl (λh2=>?_) (λh2=>?_)
   ·refine m185 ?_;refine bR (pR ?_);refine m37 ?_;have n0:¬ b.length = 0:=by omega
    have e:dc b = (bm.zero,0,160):=by
     unfold dc;rw [if_neg n0,if_pos (show vI (b.getD 0 0) 4 = 4 from h1),if_pos (by omega)]
    simp_all
   ·refine m73 ?_;refine m30 ?_;refine m60 ?_;refine m30 ?_;refine m60 ?_;refine m30 ?_;refine m269 ?_;refine m112 ?_;refine co (Ev.we aa (.c (v:=U8 69) rfl)) ?_;refine m5 ?_;refine cg rfl rfl (Ev.BH (.g rfl id) (.c (v:=rX 16384) rfl)) ?_;refine m25 ?_;refine nP ?_;refine ig rfl (λh3=>?_) (λh3=>?_)
    ·refine m17 ?_;refine ac (I 0) ?_;refine ac (I 161) ?_;refine m62 ?_;refine bR (pR ?_);refine m37 ?_;have n0:¬ b.length = 0:=by omega
     have e:dc b = (bm.zero,0,161):=by
      unfold dc;rw [if_neg n0,if_pos (show vI (b.getD 0 0) 4 = 4 from h1),if_neg (by omega),if_pos (show b.getD 0 0 ≠ 69 \/ (gU b 6 2).1.toUInt16 ≠ 16384 from h3)]
     simp_all
    ·refine m196 ?_;refine vE 2 rfl zr zk ?_;refine m202 ?_;refine tk 1 rfl (Ev.indexAddr pg jQ aa (.c rfl) zf (λ_=>zo)) ?_;refine tk 2 rfl (Ev.eT jQ aa zf (λ_=>zo)) ?_;refine m184 ?_;refine tk 4 rfl (Ev.G7 YD Hn aa) ?_;refine m65 ?_;refine tk 11 rfl (Ev.fe (places:=[(0,17),(17,17),(34,1),(35,1),(36,1),(37,1),(38,1),(39,1),(40,1),(41,1),(42,1)]) QB rfl Y60 zk (.cons aa (.cons aa (.cons aa (.cons aa .nil)))) (bB.cons ae.uw rfl (bB.cons ae.GI rfl (bB.cons ae.CY rfl (bB.cons ae.iF rfl bB.nil))))) ?_;refine m280 ?_;refine m225 ?_;refine m51 ?_;refine seq ?_;refine m47 ?_;refine tk 1 rfl (Ev.slice pg jQ aa (.c rfl) (.c rfl) zf (λ_=>zo)) ?_;refine tk 2 rfl (Ev.Rj acO aa (λw I=>bU.sub (zj w I) (by omega) (by omega)) (λ_=>⟨by decide,by grind⟩)) ?_;refine tk 3 rfl (Ev.GB MM aa (λw I=>bU.sub (zj w I) (by omega) (by omega)) (λ_=>⟨by decide,by grind⟩)) ?_;refine tm 4 rfl rfl ?_;refine tk 5 rfl (Ev.slice pg jQ aa (.c rfl) (.c rfl) zf (λ_=>zo)) ?_;refine tk 6 rfl (Ev.Rj acO aa (λw I=>bU.sub (zj w I) (by omega) (by omega)) (λ_=>⟨by decide,by grind⟩)) ?_;refine tk 7 rfl (Ev.GB MM aa (λw I=>bU.sub (zj w I) (by omega) (by omega)) (λ_=>⟨by decide,by grind⟩)) ?_;refine all [8,9] zk (by decide) (.cons rfl ?_ (.cons rfl ?_ .nil))
     ·refine (alloc VF (λb2=>?_));refine m249 ?_;refine alloc VF (λb3=>?_);exact s3
     ·refine (alloc VF (λb4=>?_));refine m169 ?_;refine alloc VF (λb5=>?_);exact s3
  ·refine sg ?_;refine m132 ?_;refine m0 ?_;refine ig rfl (λh4=>?_) (λh4=>?_)
   ·refine m16 ?_;refine m103 ?_;refine m77 ?_;refine nP ?_;refine ig rfl (λh5=>?_) (λh5=>?_)
    ·refine m185 ?_;refine bR (pR ?_);refine m37 ?_;have n0:¬ b.length = 0:=by omega
     have e:dc b = (bm.zero,0,160):=by
      unfold dc;rw [if_neg n0,if_neg (show ¬ vI (b.getD 0 0) 4 = 4 from h1),if_pos (show vI (b.getD 0 0) 4 = 6 from h4),if_pos (by omega)]
     simp_all
    ·refine m73 ?_;refine m215 ?_;refine m60 ?_;refine m30 ?_;refine m41 ?_;refine seq (vE 2 rfl zr zk ?_);refine m202 ?_;refine tk 1 rfl (Ev.Wb aa (.c rfl) (λ_=>by decide)) ?_;refine tk 2 rfl (Ev.Jp Y5 YD aa) ?_;refine m184 ?_;refine tk 4 rfl (Ev.YC aa (.c (v:=qZ 1048575) rfl)) ?_;refine m65 ?_;refine tk 11 rfl (Ev.fe (places:=[(0,17),(17,17),(34,1),(35,1),(36,1),(37,1),(38,1),(39,1),(40,1),(41,1),(42,1)]) QB rfl Y60 zk (.cons aa (.cons aa (.cons aa (.cons aa .nil)))) (bB.cons ae.uw rfl (bB.cons ae.GI rfl (bB.cons ae.iF rfl (bB.cons ae.CY rfl bB.nil))))) ?_;refine m280 ?_;refine m225 ?_;refine m51 ?_;refine m32 ?_;refine m214 ?_;refine j8 mR ae.mM aa aa ?_;refine nP ?_;refine m32 ?_;refine cf 17 rfl ?_;refine cons (j8 mR ae.nM aa aa ?_);refine nP ?_;refine m74 ?_;refine mv rfl (co (Ev.sP Y3 Hn aa) ?_);refine co (Ev.lx (.c rfl) aa (λ_=>zo)) ?_;refine m81 ?_;refine m52 ?_;refine bR (pR ?_);refine m37 ?_;have n0:¬ b.length = 0:=by omega
     have e:dc b = (hd6 b,40 + ((gU b 4 2).1.toUInt16.toNat:Int),0):=by
      unfold dc;rw [if_neg n0,if_neg (show ¬ vI (b.getD 0 0) 4 = 4 from h1),if_pos (show vI (b.getD 0 0) 4 = 6 from h4),if_neg (by omega)]
     rw [e]
     rfl
   ·refine m210 ?_;refine m17 ?_;refine ac (I 0) ?_;refine ac (I 161) ?_;refine m284 ?_;refine m37 ?_;have n0:¬ b.length = 0:=by omega
    have e:dc b = (bm.zero,0,161):=by
     unfold dc;rw [if_neg n0,if_neg (show ¬ vI (b.getD 0 0) 4 = 4 from h1),if_neg (show ¬ vI (b.getD 0 0) 4 = 6 from h4)]
    simp_all
def wD (h:ae) (o:OV):ae:={ h with data:=o }
def y2 (h:ae) (b:List UInt8):List UInt8:=(b.take b.length).drop (gf h.bz).toNat
def sD (h:ae) (b:List UInt8):ae :=
 if gf h.bz = 0 then h
 else if h.bz = 6 then { h with dD:=(gU b 0 2).1.toUInt16,dE:=(gU b 2 2).1.toUInt16,seq:=(gU b 4 4).1.toUInt32,flags:=b.getD 13 0 }
 else { h with dD:=(gU b 0 2).1.toUInt16,dE:=(gU b 2 2).1.toUInt16 }
def Gy (h:ae) (b:List UInt8):UInt16:=(gU b (UG h.bz) 2).1.toUInt16
def xx (h:ae) (b:List UInt8):Int :=
 if (b.length:Int) < gf h.bz then 161
 else if gf h.bz = 0 then 0
 else if b ≠ y8 (gI (sD h b) (y2 h b) 0) (UG h.bz) (Gy h b) then 161
 else if Gy h b ≠ FX (sD h b) (gI (sD h b) (y2 h b) 0) then 162 else 0
def akv (w:World) (h:ae) (b:List UInt8):ja :=
 nz w (λo:OV=>(b.length:Int) < gf h.bz->o = h.data) (λo=>.tuple #[bm.val (wD (if (b.length:Int) < gf h.bz then h else sD h b) o),I (xx h b)]) (λo=>if (b.length:Int) < gf h.bz then [] else [bY o.v iO (y2 h b) 5])
theorem Ld (h:ae) (b:List UInt8):(sD h b).bz = h.bz:=by grind [sD]
theorem Ir (h:ae) (b:List UInt8) (hb:¬ (b.length:Int) < gf h.bz):((y2 h b).length:Int) = b.length - gf h.bz:=by
 grind [lY,y2]
theorem Lc (h:ae) (v:Value) (b:List UInt8) (w:World) (hb:bU iO w v b) (hl:b.length <= 4096):aR 121 #[bm.val h,v] w (akv w h b):=by
 have hmc:=lY h.bz;have hg:gf (ae.iF.get h) = gf h.bz:=rfl;refine iZ 83 Tryz.func121 (λ_ _=>?_);refine m15 ?_;refine box aa (λb1=>?_);refine cons (alloc QB (λb2=>?_));refine m3 ?_;refine sg ?_;refine m90 ?_;refine cons (dg eN (o1 rfl) (λw I=>E3 _ w) ?_);refine m174 ?_;refine m103 ?_;refine mv rfl ?_;refine m300 ?_;refine nP ?_;refine ig rfl (λh0=>?_) (λh0=>?_)
 ·have h0:(b.length:Int) < gf h.bz:=h0;refine m17 ?_;refine ac (I 161) ?_;refine m62 ?_;refine done rfl (.cellP rfl rm (ed zm (aB.id _)) (.tmp rfl .nil)) (λw I=>?_);exact tU h.data (λ_=>rfl) (by rw [if_pos h0]; unfold xx; rw [if_pos h0]; rfl) (by grind) w I
 ·have h0:¬ (b.length:Int) < gf h.bz:=h0;refine m73 ?_;refine mv rfl (co (Ev.aaG pg jQ aa aa zf (λ_=>zo)) ?_);refine jf iO 5 ?_;refine cons (vL pg jQ Er Ho (.c rfl) aa (λv3=>?_) (hsrc:=(λw I=>bU.sub (zj w I) (by omega) (by omega))));refine cf 42 rfl ?_;refine cons (j8 Bj ae.wB aa aa ?_);refine m245 ?_;refine m195 ?_;refine ig rfl (λh1=>?_) (λh1=>?_)
  ·have h1:gf h.bz = 0:=h1;refine m17 ?_;refine m3 ?_;refine ret (pR (done rfl (.cellP rfl rm (ed zm (aB.id _)) (.tmp rfl .nil)) (λw I=>?_)));exact tU v3 (λhn=>absurd hn h0) (by unfold xx; rw [if_neg h0,if_neg h0,if_pos h1]; unfold sD; rw [if_pos h1]; rfl) (by rw [if_neg h0]; exact zs) w I
  ·have h1:¬ gf h.bz = 0:=h1;refine m73 ?_;refine m30 ?_;refine cf 35 rfl ?_;refine cons (j8 qh ae.gg aa aa ?_);refine m138 ?_;refine m30 ?_;refine cf 36 rfl ?_;refine cons (j8 qh ae.gk aa aa ?_);refine nP (cut (λx=>(x = (wD (sD h b) v3))) (λx=>[dz,(1,true,v),(2,true,jc b1),(4,true,jc b2),(6,true,I (gf h.bz))]) (λx=>[bY v3.v iO (y2 h b) 5,Var b2 bm bm.zero 60,Var b1 bm x 60]) ?_ (λx hx=>?_))
   ·refine sg ?_;refine m90 ?_;refine m132 ?_;refine nP ?_;refine ig rfl (λh2=>?_) (λh2=>?_)
    ·have h2:h.bz = 6:=h2;have hm20:gf h.bz = 20:=by rw [h2]; rfl
     refine m1 ?_;refine m215 ?_;refine cf 41 rfl ?_;refine cons (j8 FU ae.Fc aa aa ?_);refine nP ?_;refine m19 ?_;refine m112 ?_;refine cf 40 rfl ?_;refine cons (j8 jQ ae.xb aa aa ?_);refine nP (mt (_) ?_)
     ·unfold sD;rw [if_neg h1]
      (rw [if_pos h2]; rfl)
    ·have h2:¬ h.bz = 6:=h2;refine m86 ?_
     ·unfold sD;rw [if_neg h1]
      first
       | (rw [if_pos h2]; rfl)
       | (rw [if_neg h2]; rfl)
   obtain⟨x,rfl⟩:∃ y,y = x:=⟨x,rfl⟩;have hx2:=hx;clear hx;subst hx2;have hmp:=Ld h b;have hgp:ae.iF.get (wD _ v3) = h.bz:=hmp;have hml:=Ir h b h0;have hbl:=rW (sD h b) (y2 h b) 0;rw [hmp] at hbl;have sf:=UF h.bz h1;have hg2:(gI (wD _ v3) (y2 h b) 0).length = (gI (sD h b) _ 0).length:=rfl;refine m1 ?_;refine m90 ?_;refine cons (dg eN (o1 rfl) (λw I=>UD _ w) ?_);refine cons (dg eN (o2 rfl rfl) (λw I=>vT _ _ _ w (zj w I)) ?_);refine m4 ?_;refine m41 ?_;refine m74 ?_;refine cons (jW eN (o1 rfl) (λw I=>FJ (wD _ v3) _ w (io w I) (by omega)) (λv4=>?_));refine m0 ?_;refine m74 ?_;refine m27 ?_;refine dg eN (o2 rfl rfl) (λw I=>HF _ _ _ w (io w I) (by omega)) ?_;refine m6 ?_;refine m90 ?_;refine cons (dg eN (o1 rfl) (λw I=>UD _ w) ?_);refine m27 ?_;refine Uo (T:=5) zu eN (o3 rfl rfl rfl) (λw I=>Lj _ (gI (sD h b) _ 0) _ _ w (by grind) (I.own _ (by exact zm)).1 (λb3 hb3=>((I.own _ (by exact zm)).2 b3 hb3).2)) ?_;refine m143 ?_;refine block ?_;refine m1 ?_;refine m27 ?_;refine dg eN (o2 rfl rfl) (λw I=>Jb _ _ _ _ w (zj w I) (zj w I)) ?_;refine m194 ?_;refine ig rfl (λh3=>?_) (λh3=>?_)
   ·rw [hgp] at h3;have h3:b ≠ y8 _ _ (Gy h b):=h3;refine m17 ?_;refine ac (I 161) ?_;refine m284 ?_;refine bR (pR (done rfl (.cellP rfl rm (ed zm (aB.id _)) (.tmp rfl .nil)) (λw I=>?_)));have e:xx h b = 161:=by
     unfold xx;rw [if_neg h0,if_neg h1,if_pos h3]
    exact s64
   ·rw [hgp] at h3;have h3:¬ (b ≠ y8 _ _ (Gy h b)):=λk=>k h3
    refine m208 ?_;refine co (Ev.BH aa aa) ?_;refine m0 ?_;refine ig rfl (λh4=>?_) (λh4=>?_)
    ·rw [hgp] at h4;have h4:Gy h b ≠ FX (sD h b) (gI (sD h b) _ 0):=h4;refine m17 ?_;refine ac (I 162) ?_;refine m284 ?_;refine bR (pR (done rfl (.cellP rfl rm (ed zm (aB.id _)) (.tmp rfl .nil)) (λw I=>?_)));have e:xx h b = 162:=by
      unfold xx;rw [if_neg h0,if_neg h1,if_neg h3,if_pos h4]
     exact s64
    ·rw [hgp] at h4;have h4:¬ (Gy h b ≠ FX (sD h b) (gI (sD h b) _ 0)):=λk=>k h4
     refine m210 ?_;refine m17 ?_;refine m3 ?_;refine ret (done rfl (.cellP rfl rm (ed zm (aB.id _)) (.tmp rfl .nil)) (λw I=>?_));have e:xx h b = 0:=by
      unfold xx;rw [if_neg h0,if_neg h1,if_neg h3,if_neg h4]
     exact s64
def su (b:List UInt8):List UInt8:=(b.take (dc b).2.1.toNat).drop (dG (dc b).1).toNat
def pD (b:List UInt8):Int :=
 if (dc b).2.2 ≠ 0 then (dc b).2.2
 else if (dc b).2.1 < dG (dc b).1 \/ 2048 < (dc b).2.1 then 161
 else if (b.length:Int) < (dc b).2.1 then 160
 else if (dc b).1.src.v6 = false /\ o7 (dc b).1 ((dc b).2.1 - dG (dc b).1) ≠ b.take (dG (dc b).1).toNat then 162
 else xx (dc b).1 (su b)
def xI (b:List UInt8):ae:=if pD b = 0 then sD (dc b).1 (su b) else bm.zero
def H4 (b:List UInt8):Int:=if pD b = 0 then (dc b).2.1 else 0
def yV (b:List UInt8):List UInt8:=y2 (dc b).1 (su b)
def mE (w:World) (b:List UInt8):ja :=
 nz w (λo:OV=>pD b ≠ 0->o = aM) (λo=>.tuple #[bm.val (wD (xI b) o),I (H4 b),I (pD b)]) (λo=>if pD b = 0 then [bY o.v iO (yV b) 5] else [])
theorem Iq (h:ae) (b:List UInt8) (he:xx h b = 0):¬ (b.length:Int) < gf h.bz:=λhn=>by
 unfold xx at he;rw [if_pos hn] at he;exact absurd he (by decide)
theorem Cp {e0:En} {w0:World} {n:Nat} {b:List UInt8} {e:Int} (he:pD b = e) (hn:e ≠ 0):∀ w,bS ⟨n,w0,fX,e0⟩ L w->mE w0 b (.returned (.tuple #[bm.val bm.zero,I 0,I e])) w:=by
 subst he;exact tU aM (λ_=>rfl) (by unfold xI H4; rw [if_neg hn,if_neg hn]; rfl) (by grind)
theorem ve (h:ae):h.src.v6 = true /\ dG h = 40 \/ h.src.v6 = false /\ dG h = 20:=by grind [dG]
theorem Wx (v:Value) (b:List UInt8) (w:World) (hb:bU iO w v b):aR 69 #[v] w (mE w b):=by
 have hfc:=ve (dc b).1;have hbl:=hb.le;have hfl:dG ((aB.id bm).get ((aB.id bm).set bm.zero (dc b).fst)) = dG (dc b).1:=rfl;refine iZ 69 Tryz.func69 (λ_ _=>?_);refine m15 ?_;refine alloc QB (λb1=>?_);refine ac (I 0) ?_;refine m3 ?_;refine m1 ?_;refine cons (dg eN (o1 rfl) (λw I=>LI _ b w (hb.cO I.keeps)) ?_);refine m241 ?_;refine alloc QB (λb2=>?_);refine m81 ?_;refine m269 ?_;refine m31 ?_;refine ig rfl (λh0=>?_) (λh0=>?_)
 ·refine m291 ?_;refine done rfl (.cellP rfl rm (ed zm (aB.id _)) (.tmp rfl (.tmp rfl .nil))) (λw I=>?_);exact Cp (by unfold pD; omega) h0 w I
 ·have h0:¬ ((dc b).2.2 ≠ 0):=λk=>k h0
  refine m8 ?_;refine m74 ?_;refine cons (dg eN (o1 rfl) (λw I=>IX _ w) ?_);refine m177 ?_;refine block ?_;refine m208 ?_;refine m300 ?_;refine m5 ?_;refine m63 ?_;refine m0 ?_;refine ig rfl (λh1=>?_) (λh1=>?_)
  ·have h1:((dc b).2.1 < dG (dc b).1 \/ 2048 < (dc b).2.1):=h1;refine m301 ?_;refine ac (I 161) ?_;exact s30
  ·have h1:¬ ((dc b).2.1 < dG (dc b).1 \/ 2048 < (dc b).2.1):=by omega
   refine m1 ?_;refine m103 ?_;refine m130 ?_;refine ig rfl (λh2=>?_) (λh2=>?_)
   ·refine m301 ?_;refine ac (I 160) ?_;exact s30
   ·have h2:=h2;refine m125 ?_;refine tk 1 rfl (fA 0 aa) ?_;refine tk 2 rfl (Ev.gS x6 aa (aB.comp ae.mM bJ.wv)) ?_;refine tk 3 rfl (Ev.not aa) ?_;refine tm 4 rfl rfl ?_;refine jl 5 rfl rfl rfl (Ev.gS rm aa (aB.id _)) ?_;refine jl 6 rfl rfl rfl (Ev.move aa) ?_;refine jl 7 rfl rfl rfl (Ev.move aa) ?_;refine jl 8 rfl rfl rfl (Ev.uh (.g rfl id) (.g rfl id) (λ_=>by omega)) ?_;refine jl 10 rfl rfl rfl (Ev.move aa) ?_;refine jl 11 rfl rfl rfl (Ev.move aa) ?_;refine jl 12 rfl rfl rfl (Ev.zY pg jQ (.g rfl id) (.g rfl id) zf (λ_=>by omega)) ?_;refine fB 9 rfl (acx rfl rfl eN (.cons (.g rfl id) (.cons (.g rfl id) .nil)) (λhg w I=>NM _ _ w (by omega)) (λv3=>?_));refine m180 ?_;refine fB 13 rfl (sT rfl rfl eN (.cons (.g rfl id) (.cons (.g rfl id) .nil)) (λhg w I=>Jb _ _ _ _ w (Xu zm hg w I) (bU.sub (hb.cO I.keeps) (by omega) (by omega))) ?_);refine m180 ?_;refine jl 14 rfl rfl rfl (Ev.not (.g rfl id)) ?_;refine tk 15 rfl (Ev.D2 aa rfl) ?_;refine tk 16 rfl (Ev.assign aa) ?_;refine m142 ?_;refine ig rfl (λh3=>?_) (λh3=>?_)
    ·have h3:((dc b).1.src.v6 = false /\ o7 (dc b).1 ((dc b).2.1 - dG (dc b).1) ≠ b.take (dG (dc b).1).toNat):=h3;refine m301 ?_;refine ac (I 162) ?_;exact s30
    ·have h3:¬ ((dc b).1.src.v6 = false /\ o7 (dc b).1 ((dc b).2.1 - dG (dc b).1) ≠ b.take (dG (dc b).1).toNat):=by
      rintro ⟨k1,k2⟩
      rcases h3 with k | k
      ·have k0:(dc b).1.src.v6 = true:=k;rw [k1] at k0;cases k0
      ·exact k2 k
     have e3:pD b = xx (dc b).1 (su b):=by unfold pD; rw [if_neg h0,if_neg h1,if_neg h2,if_neg h3]
     refine m210 ?_;refine seq (seq (vE 5 rfl zr zk ?_));refine m292 ?_;refine m222 ?_;refine m184 ?_;refine tk 4 rfl (Ev.slice pg jQ aa aa aa zf (λ_=>zo)) ?_;refine fB 0 rfl (BF (Ev.gS rm aa (aB.id _)) ?_);refine xi (fB 5 rfl ((iP _ _ _ eN (o2 rfl rfl) (λw I=>Lc (dc b).1 _ (su b) w (bU.sub (hb.cO I.keeps) (by omega) (by omega)) (by unfold su; grind)) (λx5 hx5=>?_))));refine m180 ?_;refine tm 6 rfl rfl ?_;refine tk 7 rfl (Ev.extract aa rfl) ?_;refine tk 8 rfl (Ev.extract aa rfl) ?_;refine fB 9 rfl ?_;refine m225 ?_;refine m180 ?_;refine tk 10 rfl (Ev.assign aa) ?_;refine m142 ?_;refine m1 ?_;refine m31 ?_;refine ig rfl (λh4=>?_) (λh4=>?_)
     ·refine m291 ?_;refine done rfl (.cellP rfl rm (ed zm (aB.id _)) (.tmp rfl (.tmp rfl .nil))) (λw I=>?_);exact Cp e3 h4 w I
     ·refine m8 ?_;refine m74 ?_;refine m27 ?_;refine m225 ?_;refine m52 ?_;refine done rfl (.cellP rfl rm (ed zm (aB.id _)) (.tmp rfl (.tmp rfl .nil))) (λw I=>?_);have e:pD b = 0:=by rw [e3]; exact h4
      exact tU x5 (λhn=>absurd e hn) (by unfold xI H4; rw [if_pos e,if_pos e,e]; show ug [bm.val (wD (if ((su b).length:Int) < gf (dc b).1.bz then (dc b).1 else sD (dc b).1 (su b)) x5),Go.Gx.I _,Go.Gx.I 0] = _; rw [if_neg (Iq _ _ h4)]; rfl) (by rw [if_pos e]; show (List.Sublist _ ((if _ then _ else _) ++ _)); rw [if_neg (Iq _ _ h4)]; exact zs) w I
structure gD where
 src:bJ
 dst:bJ
 bz:UInt8
 dD:UInt16
 dE:UInt16
def gD.to:(bJ × (bJ × (UInt8 × (UInt16 × UInt16))))->gD:=λx=>⟨x.1,x.2.1,x.2.2.1,x.2.2.2.1,x.2.2.2.2⟩
def gD.of:gD->(bJ × (bJ × (UInt8 × (UInt16 × UInt16)))):=λx=>(x.src,x.dst,x.bz,x.dD,x.dE)
def zy:dy gD:=l8 (cW iz (cW iz (cW iO (cW xw xw)))) gD.to gD.of
def gD.mM:aB zy iz 0:=lI gD.to gD.of l1
@[simp] theorem gD.NS (x:gD):gD.mM.get x = x.src:=rfl
@[simp] theorem gD.M5 (x:gD) (y:bJ):gD.mM.set x y = { x with src:=y }:=rfl
def gD.nM:aB zy iz 17:=lI gD.to gD.of (l2 l1)
@[simp] theorem gD.NV (x:gD):gD.nM.get x = x.dst:=rfl
@[simp] theorem gD.M6 (x:gD) (y:bJ):gD.nM.set x y = { x with dst:=y }:=rfl
def gD.iF:aB zy iO 34:=lI gD.to gD.of (l2 (l2 l1))
@[simp] theorem gD.Fo (x:gD):gD.iF.get x = x.bz:=rfl
@[simp] theorem gD.OT (x:gD) (y:UInt8):gD.iF.set x y = { x with bz:=y }:=rfl
def gD.gg:aB zy xw 35:=lI gD.to gD.of (l2 (l2 (l2 l1)))
@[simp] theorem gD.A3 (x:gD):gD.gg.get x = x.dD:=rfl
@[simp] theorem gD.AP (x:gD) (y:UInt16):gD.gg.set x y = { x with dD:=y }:=rfl
def gD.gk:aB zy xw 36:=lI gD.to gD.of (l2 (l2 (l2 (l2 (aB.id _)))))
@[simp] theorem gD.A4 (x:gD):gD.gk.get x = x.dE:=rfl
@[simp] theorem gD.AQ (x:gD) (y:UInt16):gD.gk.set x y = { x with dE:=y }:=rfl
def al9 (k:gD):gD:={ src:=k.dst,dst:=k.src,bz:=k.bz,dD:=k.dE,dE:=k.dD }
def W3 (h:ae):gD :=
 if h.bz = 6 \/ h.bz = 17 then { src:=h.src,dst:=h.dst,bz:=h.bz,dD:=h.dD,dE:=h.dE }
 else { src:=h.src,dst:=h.dst,bz:=h.bz,dD:=0,dE:=0 }
def aam:zI 138 zy:=kI
def HA:ot 138 zy:=oq
theorem CM (h:ae) (w:World):aR 58 #[bm.val h] w (dO w (zy.val (W3 h))):=by
 refine iZ 26 Tryz.func58 (λ_ _=>?_);refine m15 ?_;refine box aa (λb1=>?_);refine cons (alloc aam (λb2=>?_));refine nP ?_;refine m35 ?_;refine m218 ?_;refine m134 ?_;refine m33 ?_;refine co (Ev.fe (places:=[(0,17),(17,17),(34,1),(35,1),(36,1)]) aam rfl Tryz.underlying138 zk (.cons aa (.cons aa (.cons aa .nil))) (bB.cons gD.mM rfl (bB.cons gD.nM rfl (bB.cons gD.iF rfl bB.nil)))) ?_;refine cons (alloc aam (λb3=>?_));refine cons (j8 HA (aB.id _) aa aa ?_);refine m143 ?_;refine sg ?_;refine m33 ?_;refine m132 ?_;refine m113 ?_;refine m25 ?_;refine nP ?_;refine ig rfl (λh0=>?_) (λh0=>?_)
 ·refine vE 3 rfl zr zk ?_;refine tk 0 rfl (fA 35 aa) ?_;refine tk 1 rfl (Ev.gR h.dD qh aa ae.gg) ?_;refine tk 2 rfl (fA 36 aa) ?_;refine tk 3 rfl (Ev.gR h.dE qh aa ae.gk) ?_;refine tk 4 rfl (fA 35 aa) ?_;refine fB 5 rfl (j8 qh gD.gg aa aa ?_);refine m180 ?_;refine tk 6 rfl (fA 36 aa) ?_;refine fB 7 rfl (j8 qh gD.gk aa aa ?_);refine m51 ?_;refine m129 ?_
  simp_all [W3]
 ·refine m8 ?_;refine m129 ?_;unfold W3
  first | (rw [if_pos h0]; rfl) | (rw [if_neg (by rw [not_or]; exact h0)]; rfl)
def GX (a:bJ):List UInt8:=(if a.v6 = true then 1 else 0) :: a.b.toList
def Xt (k:gD):List UInt8:=GX k.src ++ GX k.dst ++ [k.bz] ++ g8 2 k.dD.toUInt64 ++ g8 2 k.dE.toUInt64
theorem H7 (v:UInt8):g8 1 v.toUInt64 = [v]:=by
 have e:(jV v.toUInt64 (8 * 0)).toUInt8 = v:=by
  apply cG.1;have h:=v.toNat_lt;simp [fc]
 show [(jV v.toUInt64 (8 * 0)).toUInt8] = [v];rw [e]
theorem Qr (a:bJ) (v:UInt8) (h:v = if a.v6 = true then 1 else 0):g8 1 v.toUInt64 ++ (a.b.toList.take 16).drop 0 = GX a:=by
 rw [H7,List.drop_zero,bH (by simp),h]
 rfl
theorem OM (f:α->List UInt8) (l:List α) (i:Int) (h0:0 <= i) (h1:i < l.length) (z:α):(l.take (i + 1).toNat).flatMap f = (l.take i.toNat).flatMap f ++ f (l.getD i.toNat z):=by
 have e:(i + 1).toNat = i.toNat + 1:=by omega
 grind [List.take_succ_eq_append_getElem]
def ail:zI 386 (mh 2 iz):=kI
theorem Ur (k:gD) (w:World):aR 209 #[zy.val k] w (vM w iO (Xt k) 5):=by
 refine iZ 38 Tryz.func209 (λ_ _=>?_);refine m15 ?_;refine box aa (λb1=>?_);refine m98 ?_;refine m12 ?_;refine seq ?_;refine m35 ?_;refine co (Ev.gR k.src mR aa gD.mM) ?_;refine cf 17 rfl ?_;refine co (Ev.gR k.dst mR aa gD.nM) ?_;refine co (Ev.acB ail Tryz.underlying386 mR (.cons aa (.cons aa .nil)) (bB.cons (rP iz 0 (by decide)) rfl (bB.cons (rP iz 1 (by decide)) rfl bB.nil))) ?_;refine m83 ?_;refine jf iO 5 ?_;refine lp (λx=>(0 <= x.1 /\ x.1 <= 2) /\ (x.2.2 = ([k.src,k.dst].take x.1.toNat).flatMap GX) /\ (x.2.2.length = 17 * x.1.toNat)) (λx=>[dz,(1,true,jc b1),(3,true,x.2.1.v),(11,true,(mh 2 iz).val #v[k.src,k.dst]),(12,true,I x.1)]) (λx=>[bY x.2.1.v iO x.2.2 5,Var b1 zy k 138]) (λx=>(2 - x.1).toNat) (0,aM,[]) ⟨?_,?_,?_⟩ (λx hx=>?_)
 ·omega
 ·rfl
 ·rfl
 obtain⟨i,o,xs⟩:=x;dsimp only at hx;obtain⟨hi,hx,hl⟩:=hx;refine sg ?_;refine m77 ?_;refine m143 ?_;refine ig rfl (λhlt=>?_) (λhge=>?_)
 ·refine m191 ?_;have hil:i.toNat < 2:=by omega
  refine co (Ev.abB Tryz.underlying386 mR aa aa (λ_=>zo)) ?_;refine cons (alloc z55 (λb2=>?_));refine cons (j8 mR (aB.id _) aa aa ?_);refine nP (sg (ac (U8 0) ?_));refine m143 ?_;refine m35 ?_;refine co (Ev.gS x6 aa bJ.wv) ?_;refine nP ?_;refine ig rfl (λha=>?_) (λha=>?_)
  ·refine m19 ?_;refine co (Ev.acL aa (.c (v:=U8 1) rfl)) ?_;refine m0 ?_;refine o9 zk ?_;exact s13
  ·refine m8 ?_;refine o9 zk ?_;exact s13
 ·refine m85 ?_;refine cf 34 rfl ?_;refine co (Ev.gR k.bz jQ aa gD.iF) ?_;refine cons (jW eN (o2 rfl rfl) (λw I=>yX _ _ _ w (zj w I) (by grind)) (λv7=>?_));refine m6 ?_;refine cf 35 rfl ?_;refine co (Ev.gR k.dD qh aa gD.gg) ?_;refine cons (jW eN (o2 rfl rfl) (λw I=>gP _ _ _ w (zj w I) (by simp; omega)) (λv8=>?_));refine m6 ?_;refine cf 36 rfl ?_;refine co (Ev.gR k.dE qh aa gD.gk) ?_;refine cons (jW eN (o2 rfl rfl) (λw I=>gP _ _ _ w (zj w I) (by simp; omega)) (λv9=>?_));refine m230 ?_;have e:i.toNat = 2:=by omega
  grind [H7,Xt]
theorem H6 (v:UInt16):g8 2 v.toUInt64 = [(v / 256).toUInt8,(v % 256).toUInt8]:=by
 have e1:(jV v.toUInt64 (8 * 1)).toUInt8 = (v / 256).toUInt8:=by
  apply cG.1;simp [fc,UInt16.toNat_div]
 have e2:(jV v.toUInt64 (8 * 0)).toUInt8 = (v % 256).toUInt8:=by
  apply cG.1;simp [fc,UInt16.toNat_mod]
 show [(jV v.toUInt64 (8 * 1)).toUInt8,(jV v.toUInt64 (8 * 0)).toUInt8] = _
 grind
end Go.Proofs.YtgnmiaonbadbnaaGreat.Oc
