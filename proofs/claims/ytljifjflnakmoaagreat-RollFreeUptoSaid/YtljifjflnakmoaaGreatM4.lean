/- Part. -/
import Derived.Test.YtljifjflnakmoaaGreatM3
set_option linter.unusedVariables false
set_option linter.unusedSimpArgs false
set_option linter.unusedSectionVars false
set_option maxRecDepth 100000
set_option maxHeartbeats 2000000
namespace Go.Proofs.YtljifjflnakmoaaGreat
open Go Go.Gx
theorem km {e:Nat→Int} {d:Int} {n ca:Nat} (h:cH e d n ca = []):n ≤ ca:=by
 unfold cH at h;have h2:=(List.append_eq_nil_iff.1 h).2
 by_cases hm:ca < n
 ·rw [if_pos hm] at h2; cases h2
 ·omega
theorem tE {l:CL} {d:Int} (h:og l d = true):l.ps.length ≤ 256 ∧ l.rs.length ≤ 1024 ∧ l.us.length ≤ 256 ∧ l.ms.length ≤ 64 ∧ l.xs.length ≤ 16:=by
 unfold og o0 lU at h;have h:=(List.append_eq_nil_iff.1 (of_decide_eq_true h)).1;have e5:=List.append_eq_nil_iff.1 h;have e4:=List.append_eq_nil_iff.1 e5.1;have e3:=List.append_eq_nil_iff.1 e4.1;have e2:=List.append_eq_nil_iff.1 e3.1;have e1:=List.append_eq_nil_iff.1 e2.1;exact ⟨km e1.2,km e2.2,km e3.2,km e4.2,km e5.2⟩
theorem p7 {e:Nat→Int} {d:Int}:∀ {n:Nat},dW e d n = []→∀ i,i < n→e i = 0
 | 0,_,i,hi=>absurd hi (Nat.not_lt_zero _)
 | n + 1,h,i,hi=>by
   unfold dW at h;obtain ⟨h1,h2⟩:=List.append_eq_nil_iff.1 h
   by_cases hin:i < n
   ·exact p7 h1 i hin
   ·obtain rfl:i = n:=by omega
    by_cases he:e i = 0
    ·exact he
    ·rw [if_neg he] at h2;cases h2
theorem nm {e:Nat→Int} {d:Int} {n ca:Nat} (h:cH e d n ca = []):∀ i,i < n→e i = 0:=by
 have hm:=km h;unfold cH at h;rw [Nat.min_eq_left hm] at h;exact p7 (List.append_eq_nil_iff.1 h).1
structure CL.Good (l:CL) (d:Int):Prop where
 ps:∀ i,i < l.ps.length→fH l.ps (l.ps.getD i iE.zero) i = 0
 rs:∀ i,i < l.rs.length→eb l (l.rs.getD i aX.zero) i = 0
 us:∀ i,i < l.us.length→gj l (l.us.getD i cy.zero) i = 0
 ms:∀ i,i < l.ms.length→jb l (l.ms.getD i bj.zero) i = 0
 xs:∀ i,i < l.xs.length→gG l (l.xs.getD i bg.zero) i = 0
 d:nH d = false
theorem nj {l:CL} {d:Int} (h:og l d = true):l.Good d:=by
 unfold og o0 lU at h;have h0:=List.append_eq_nil_iff.1 (of_decide_eq_true h);have e5:=List.append_eq_nil_iff.1 h0.1;have e4:=List.append_eq_nil_iff.1 e5.1;have e3:=List.append_eq_nil_iff.1 e4.1;have e2:=List.append_eq_nil_iff.1 e3.1;have e1:=List.append_eq_nil_iff.1 e2.1;refine ⟨nm e1.2,nm e2.2,nm e3.2,nm e4.2,nm e5.2,?_⟩;cases hd:nH d with
 | false=>rfl
 | true=>rw [hd,if_pos rfl] at h0; exact absurd h0.2 (by simp)
theorem oW {α κ:Type} {q:κ→κ→Bool} (hi:∀ x y,q x y = true ↔ x = y) (f:α→κ) (l:List α) (k:κ):∀ n,n ≤ l.length→cO q k (cE q f l n) = ((l.take n).findIdx? (fun x=>q (f x) k)).map (fun i:Nat=>(i:Int))
 | 0,_=>by simp [cE,cO,fK]
 | n + 1,h=>by
   have hlt:n < l.length:=by omega
   have ih:=oW hi f l k n (by omega);have ihx:=oW hi f l (f l[n]) n (by omega);have e:l[n]? = some l[n]:=List.getElem?_eq_getElem hlt;have hlen:(l.take n).length = n:=by simp; omega
   rw [cE,e,List.take_succ_eq_append_getElem hlt,List.findIdx?_append];simp only;cases hs:(cO q (f l[n]) (cE q f l n)).isSome with
   | true =>
     rw [if_pos rfl,ih];cases hk:(l.take n).findIdx? (fun x=>q (f x) k) with
     | some i=>simp
     | none =>
       have hq:q (f l[n]) k = false:=by
        rw [Bool.eq_false_iff];intro hq;have e2:=(hi _ _).1 hq;subst e2;rw [ihx,hk] at hs;cases hs
       simp [List.findIdx?_cons,hq]
   | false =>
     rw [if_neg Bool.false_ne_true,lN hi];have hn:(l.take n).findIdx? (fun x=>q (f x) (f l[n])) = none:=by
      rw [ihx] at hs;cases h2:(l.take n).findIdx? (fun x=>q (f x) (f l[n])) with
      | none=>rfl
      | some i=>rw [h2] at hs; cases hs
     by_cases hq:q k (f l[n]) = true
     ·have e2:=(hi _ _).1 hq;subst e2;rw [if_pos hq,hn];simp [List.findIdx?_cons,hq,hlen]
     ·rw [if_neg hq,ih];have hq2:q (f l[n]) k = false:=by
       rw [Bool.eq_false_iff];intro h2;exact hq ((hi _ _).2 ((hi _ _).1 h2).symm)
      cases hk:(l.take n).findIdx? (fun x=>q (f x) k) <;> simp [List.findIdx?_cons,hq2]
theorem find_all {α κ:Type} {q:κ→κ→Bool} (hi:∀ x y,q x y = true ↔ x = y) (f:α→κ) (l:List α) (k:κ):cO q k (cE q f l l.length) = (l.findIdx? (fun x=>q (f x) k)).map (fun i:Nat=>(i:Int)):=by
 rw [oW hi f l k _ (Nat.le_refl _),List.take_length]
theorem find_at {α κ:Type} {q:κ→κ→Bool} (hi:∀ x y,q x y = true ↔ x = y) (f:α→κ) (l:List α) (z:α) (i:Nat) (h:i < l.length):(cO q (f (l.getD i z)) (cE q f l l.length)).getD 0 = uU (fun x=>q (f x) (f (l.getD i z))) l:=by
 rw [find_all hi];unfold uU;cases hk:l.findIdx? (fun x=>q (f x) (f (l.getD i z))) with
 | some j=>rfl
 | none =>
   have:=List.findIdx?_eq_none_iff.1 hk (l.getD i z) (sq _ _ _ h);rw [(hi _ _).2 rfl] at this;cases this
abbrev KeyE {κ:Type} (e:κ→κ→Bool):Prop:=∀ a b,e a b = true ↔ a = b
theorem idxF_le {α:Type} {p:α→Bool} {l:List α} {i:Nat} (h:i < l.length) (hp:p l[i] = true):0 ≤ uU p l ∧ uU p l ≤ i:=by
 unfold uU;cases e:l.findIdx? p with
 | none =>
   have:=List.findIdx?_eq_none_iff.1 e l[i] (List.getElem_mem h);rw [hp] at this;cases this
 | some m =>
   obtain ⟨h1,h2,h3⟩:=List.findIdx?_eq_some_iff_getElem.1 e;simp only
   rcases Nat.lt_or_ge i m with h4 | h4
   ·exact absurd hp (h3 i h4)
   ·omega
theorem ng {α κ:Type} {q:κ→κ→Bool} (hi:KeyE q) {f:α→κ} {l:List α} (z:α) (h:∀ i,i < l.length→¬ (cO q (f (l.getD i z)) (cE q f l l.length)).getD 0 < (i:Int)):(l.map f).Nodup:=by
 refine List.pairwise_iff_getElem.2 fun i j h1 h2 hij e=>?_
 have h1':i < l.length:=by simpa using h1
 have h2':j < l.length:=by simpa using h2
 have hj:=h j h2';rw [find_at hi f l z j h2'] at hj;have e2:l.getD j z = l[j]:=by simp [List.getD,h2']
 rw [e2] at hj;have:=(idxF_le (p:=fun x=>q (f x) (f l[j])) h1' ((hi _ _).2 (by simpa using e))).2;omega
theorem routeE_z {l:CL} {r:bm} {i:Int}:eb l r i = 0 ↔ cN r.to_ = 0 ∧ vA l r.out = true ∧ ¬ (cO ae.eqb r.to_ (r7 l)).getD 0 < i:=by
 unfold eb;split
 ·rename_i h; simp [h]
 ·split
  ·rename_i h; simp [h]
  ·split
   ·rename_i h; simp [h]
   ·rename_i h1 h2 h3;simp only [ne_eq,Decidable.not_not] at h1;simp [h1,h3]
    simpa using h2
theorem meterE_z {l:CL} {r:aI} {i:Int}:jb l r i = 0 ↔ iD r.name = true ∧ ckB r.bucket = 0 ∧ ¬ (cO eqs r.name (l8 l)).getD 0 < i:=by
 unfold jb;split
 ·rename_i h; simp [h]
 ·split
  ·rename_i h1 h2;constructor
   ·intro h;cases h
   ·intro hh
    rcases h2 with h | h
    ·exact absurd h hh.2.2
    ·exact absurd hh.2.1 h
  ·rename_i h1 h2;simp only [not_or,ne_eq,Decidable.not_not] at h2;exact ⟨fun _=>⟨by simpa using h1,h2.2,h2.1⟩,fun _=>rfl⟩
theorem mirrorE_z {l:CL} {r:az} {i:Int}:gG l r i = 0 ↔ iD r.name = true ∧ vA l r.out = true ∧ vq r.room = true ∧ ¬ (cO eqs r.name (kE l)).getD 0 < i:=by
 unfold gG;split
 ·rename_i h; simp [h]
 ·split
  ·rename_i h; simp [h]
  ·split
   ·rename_i h; simp [h]
   ·split
    ·rename_i h; simp [h]
    ·rename_i h1 h2 h3 h4;exact ⟨fun _=>⟨by simpa using h1,by simpa using h3,by simpa using h4,h2⟩,fun _=>rfl⟩
theorem good_rs {l:CL} {d:Int} (h:l.Good d):(l.rs.map (·.to_)).Nodup:=ng ae.bJ aX.zero fun i hi=>(routeE_z.1 (h.rs i hi)).2.2
theorem good_ms {l:CL} {d:Int} (h:l.Good d):(l.ms.map (·.name)).Nodup:=ng iJ bj.zero fun i hi=>(meterE_z.1 (h.ms i hi)).2.2
theorem good_xs {l:CL} {d:Int} (h:l.Good d):(l.xs.map (·.name)).Nodup:=ng iJ bg.zero fun i hi=>(mirrorE_z.1 (h.xs i hi)).2.2.2
def qM (k:Nat) (m:aq) (n:Int) (h:aa):Bool:=match k with
 | 0=>rX m.in_ n
 | 1=>decide (h.aC = m.aC)
 | 2=>lM m.src h.src
 | 3=>lM m.dst h.dst
 | 4=>rX m.bB h.bB.toNat
 | _=>rX m.bC h.bC.toNat
def fM (k:Nat):Nat:=([123,125,126,128,129,130]:List Nat).getD k 0
def ksA (c:Bool) (k:Nat) (l:List Nat):List Nat:=bif c then l ++ [k] else l
def ks (m:aq):List Nat:=ksA (cA m 32) 5 (ksA (cA m 16) 4 (ksA (cA m 4) 3 (ksA (cA m 2) 2 (ksA (cA m 8) 1 (ksA (cA m 1) 0 [])))))
def dX (p:Nat) (l:List Nat):List OV:=l.map fun k=>clo (fM k) [.pointer (some ⟨p,0,none⟩)]
def nI (m:aq) (p:Nat):List OV:=dX p (ks m)
theorem nW {c:Bool} {k j:Nat} {l:List Nat} (h:j ∈ ksA c k l):j = k ∨ j ∈ l:=by
 unfold ksA at h;cases c
 ·exact .inr h
 ·rcases List.mem_append.1 h with h | h
  ·exact .inr h
  ·exact .inl (List.mem_singleton.1 h)
theorem ks_lt {m:aq} {k:Nat} (h:k ∈ ks m):k < 6:=by
 unfold ks at h
 rcases nW h with rfl | h <;> (try omega)
 rcases nW h with rfl | h <;> (try omega)
 rcases nW h with rfl | h <;> (try omega)
 rcases nW h with rfl | h <;> (try omega)
 rcases nW h with rfl | h <;> (try omega)
 rcases nW h with rfl | h <;> (try omega)
 cases h
def rV (m:aq) (n:Int) (h:aa):Bool:=(ks m).all fun k=>qM k m n h
def meetsB (m:aq) (n:Int) (h:aa):Bool:=okM m && rV m n h
theorem cl0_ok (m:aq) (n:Int) (h:aa) (p hp:Nat) (w:World) (hm:cq aR w p 0 m) (hh:cq aA w hp 0 h):Gx.Calls Tryz.prog 123 #[I n,.pointer (some ⟨hp,0,none⟩),.pointer (some ⟨p,0,none⟩)] w (bG w (.bool (qM 0 m n h))):=by
 refine en0 10 Tryz.func123 (fun _ _=>?_);refine sg (ac (.bool false) ?_);refine nP (sg (cf 1 rfl ?_));refine co (Ev.load ve (.t rfl) (c9 (fun w I=>hm.cn I.keeps) aq.iH)) ?_;refine mv rfl (cons (aQ eN (o2 rfl rfl) (fun w I=>vc _ _ w) ?_));refine asn rfl (nP (ret (dn rfl rfl ?_)))
 rfl
theorem cl1_ok (m:aq) (n:Int) (h:aa) (p hp:Nat) (w:World) (hm:cq aR w p 0 m) (hh:cq aA w hp 0 h):Gx.Calls Tryz.prog 125 #[I n,.pointer (some ⟨hp,0,none⟩),.pointer (some ⟨p,0,none⟩)] w (bG w (.bool (qM 1 m n h))):=by
 refine en0 13 Tryz.func125 (fun _ _=>?_);refine sg (ac (.bool false) ?_);refine nP (seq (dA zk ?_));refine tm 0 rfl rfl ?_;refine tn 1 rfl rfl ?_;refine tk 2 rfl (fA 34 (.t rfl)) ?_;refine tk 3 rfl (Ev.load ty5 (.t rfl) (c9 (fun w I=>hh.cn I.keeps) aa.bS)) ?_;refine tk 4 rfl (fA 39 (.t rfl)) ?_;refine tk 5 rfl (Ev.load ty5 (.t rfl) (c9 (fun w I=>hm.cn I.keeps) aq.bS)) ?_;refine tk 6 rfl (Ev.jQ (.t rfl) (.t rfl)) ?_;refine tk 7 rfl (Ev.assign (.t rfl)) ?_;refine ovr (pN (ret (dn rfl rfl ?_)))
 rfl
theorem cl2_ok (m:aq) (n:Int) (h:aa) (p hp:Nat) (w:World) (hm:cq aR w p 0 m) (hh:cq aA w hp 0 h):Gx.Calls Tryz.prog 126 #[I n,.pointer (some ⟨hp,0,none⟩),.pointer (some ⟨p,0,none⟩)] w (bG w (.bool (qM 2 m n h))):=by
 refine en0 13 Tryz.func126 (fun _ _=>?_);refine sg (ac (.bool false) ?_);refine nP (seq (dA zk ?_));refine tk 0 rfl (fA 3 (.t rfl)) ?_;refine tk 1 rfl (Ev.load cB (.t rfl) (c9 (fun w I=>hm.cn I.keeps) aq.eF)) ?_;refine tm 2 rfl rfl ?_;refine tn 3 rfl rfl ?_;refine tk 4 rfl (fA 0 (.t rfl)) ?_;refine tk 5 rfl (Ev.load eM (.t rfl) (c9 (fun w I=>hh.cn I.keeps) aa.eF)) ?_;exact s55
theorem cl3_ok (m:aq) (n:Int) (h:aa) (p hp:Nat) (w:World) (hm:cq aR w p 0 m) (hh:cq aA w hp 0 h):Gx.Calls Tryz.prog 128 #[I n,.pointer (some ⟨hp,0,none⟩),.pointer (some ⟨p,0,none⟩)] w (bG w (.bool (qM 3 m n h))):=by
 refine en0 13 Tryz.func128 (fun _ _=>?_);refine sg (ac (.bool false) ?_);refine nP (seq (dA zk ?_));refine tk 0 rfl (fA 21 (.t rfl)) ?_;refine tk 1 rfl (Ev.load cB (.t rfl) (c9 (fun w I=>hm.cn I.keeps) aq.fx)) ?_;refine tm 2 rfl rfl ?_;refine tn 3 rfl rfl ?_;refine tk 4 rfl (fA 17 (.t rfl)) ?_;refine tk 5 rfl (Ev.load eM (.t rfl) (c9 (fun w I=>hh.cn I.keeps) aa.fx)) ?_;exact s55
theorem cl4_ok (m:aq) (n:Int) (h:aa) (p hp:Nat) (w:World) (hm:cq aR w p 0 m) (hh:cq aA w hp 0 h):Gx.Calls Tryz.prog 129 #[I n,.pointer (some ⟨hp,0,none⟩),.pointer (some ⟨p,0,none⟩)] w (bG w (.bool (qM 4 m n h))):=by
 refine en0 14 Tryz.func129 (fun _ _=>?_);refine sg (ac (.bool false) ?_);refine nP (seq (dA zk ?_));refine tk 0 rfl (fA 40 (.t rfl)) ?_;refine tk 1 rfl (Ev.load ve (.t rfl) (c9 (fun w I=>hm.cn I.keeps) aq.cS)) ?_;refine tm 2 rfl rfl ?_;refine tn 3 rfl rfl ?_;refine tk 4 rfl (fA 35 (.t rfl)) ?_;refine tk 5 rfl (Ev.load iW (.t rfl) (c9 (fun w I=>hh.cn I.keeps) aa.cS)) ?_;exact s46
theorem cl5_ok (m:aq) (n:Int) (h:aa) (p hp:Nat) (w:World) (hm:cq aR w p 0 m) (hh:cq aA w hp 0 h):Gx.Calls Tryz.prog 130 #[I n,.pointer (some ⟨hp,0,none⟩),.pointer (some ⟨p,0,none⟩)] w (bG w (.bool (qM 5 m n h))):=by
 refine en0 14 Tryz.func130 (fun _ _=>?_);refine sg (ac (.bool false) ?_);refine nP (seq (dA zk ?_));refine tk 0 rfl (fA 42 (.t rfl)) ?_;refine tk 1 rfl (Ev.load ve (.t rfl) (c9 (fun w I=>hm.cn I.keeps) aq.cT)) ?_;refine tm 2 rfl rfl ?_;refine tn 3 rfl rfl ?_;refine tk 4 rfl (fA 36 (.t rfl)) ?_;refine tk 5 rfl (Ev.load iW (.t rfl) (c9 (fun w I=>hh.cn I.keeps) aa.cT)) ?_;exact s46
theorem cl_en:∀ k,k < 6→Gx.cv Tryz.prog (fM k)
 | 0,_=>eN
 | 1,_=>eN
 | 2,_=>eN
 | 3,_=>eN
 | 4,_=>eN
 | 5,_=>eN
 | k + 6,h=>absurd h (by omega)
theorem cl_ok:∀ k,k < 6→∀ (m:aq) (n:Int) (h:aa) (p hp:Nat) (w:World) (hm:cq aR w p 0 m) (hh:cq aA w hp 0 h),Gx.Calls Tryz.prog (fM k) #[I n,.pointer (some ⟨hp,0,none⟩),.pointer (some ⟨p,0,none⟩)] w (bG w (.bool (qM k m n h)))
 | 0,_=>cl0_ok
 | 1,_=>cl1_ok
 | 2,_=>cl2_ok
 | 3,_=>cl3_ok
 | 4,_=>cl4_ok
 | 5,_=>cl5_ok
 | k + 6,h=>absurd h (by omega)
theorem kY:tyI 262 (ovE cK):=tyP
theorem z262:zI 262 (ovE cK):=kI
theorem u9:zbI 262 (ovE cK) 8:=kB
theorem u7:zsI (ovE cK):=zsP _
theorem rK (m:aq) (w:World):Gx.Calls Tryz.prog 92 #[aR.val m] w (gL w (fun _:OV × Nat=>True) (fun x=>x.1.v) (fun x=>[aT x.1.v (ovE cK) (nI m x.2) 262,Var x.2 aR m 109])):=by
 refine en0 41 Tryz.func92 (fun _ _=>?_);refine sg (cons (box (E:=aR) (.t rfl) (fun b1=>?_)));refine ac (.slice none 0 0) ?_;refine nP (sg (ac (.slice none 0 0) ?_));refine dD (ovE cK) 262 ?_;refine nP (cut (X:=OV × (List Nat)) (fun x=>(x.2 = ksA (cA m 1) 0 []) ∧ (x.2.length ≤ 1)) (fun x=>[dz,(1,true,pvb b1),(3,true,x.1.v)]) (fun x=>[aT x.1.v (ovE cK) (dX b1 x.2) 262,Var b1 aR m 109]) ?_ (fun x hx=>?_))
 ·refine sg (co (Ev.ldx m fY (.t rfl) (ah.id _)) ?_);refine cons (aQ eN (.cons (.t rfl) (.cons (.c (v:=U8 1) rfl) .nil)) (fun w I=>iP _ _ w) ?_);refine nP ?_;refine cnq rfl (fun h0=>?_) (fun h0=>?_)
  ·refine region (mv rfl (co (Ev.makeFunc (f:=123) (.cons (.t rfl) .nil)) ?_));refine cons (buildSlice (E:=(ovE cK)) Y209 kY z262 (.cons (.t rfl) .nil) rfl rfl (fun v2=>?_));refine cons (app (E:=(ovE cK)) Y209 kY u9 u7 (.t rfl) (.t rfl) (fun v3=>?_) (hby:=⟨by first | ((show _ ≤ 9223372036854775807); simp; done) | ((show _ ≤ 9223372036854775807); simp [dX]; omega),by first | (simp; done) | (simp [dX]; omega)⟩));refine asn rfl (nP (mt (_,[] ++ [0]) ⟨?_,?_⟩ (hL:=(by first | exact List.Sublist.refl _ | (simp only [dX,List.map_append,List.map_cons,List.map_nil]; repeat first | exact List.Sublist.refl _ | apply List.Sublist.cons_cons | apply List.Sublist.cons)))))
   ·try dsimp only
    unfold ksA; simp_all [cA]
   ·try dsimp only
    first | omega | (simp; omega) | simp
  ·refine skip (pN (mt (ai,[]) ⟨?_,?_⟩ (hL:=(by first | exact List.Sublist.refl _ | (simp only [dX,List.map_append,List.map_cons,List.map_nil]; repeat first | exact List.Sublist.refl _ | apply List.Sublist.cons_cons | apply List.Sublist.cons)))))
   ·try dsimp only
    unfold ksA; simp_all [cA]
   ·try dsimp only
    first | omega | (simp; omega) | simp
 obtain ⟨o1,l1⟩:=x;dsimp only at hx;obtain ⟨hl1,hn1⟩:=hx;refine cut (X:=OV × (List Nat)) (fun x=>(x.2 = ksA (cA m 8) 1 l1) ∧ (x.2.length ≤ 2)) (fun x=>[dz,(1,true,pvb b1),(3,true,x.1.v)]) (fun x=>[aT x.1.v (ovE cK) (dX b1 x.2) 262,Var b1 aR m 109]) ?_ (fun x hx=>?_)
 ·refine sg (co (Ev.ldx m fY (.t rfl) (ah.id _)) ?_);refine cons (aQ eN (.cons (.t rfl) (.cons (.c (v:=U8 8) rfl) .nil)) (fun w I=>iP _ _ w) ?_);refine nP ?_;refine cnq rfl (fun h1=>?_) (fun h1=>?_)
  ·refine region (mv rfl (co (Ev.makeFunc (f:=125) (.cons (.t rfl) .nil)) ?_));refine cons (buildSlice (E:=(ovE cK)) Y209 kY z262 (.cons (.t rfl) .nil) rfl rfl (fun v4=>?_));refine cons (app (E:=(ovE cK)) Y209 kY u9 u7 (.t rfl) (.t rfl) (fun v5=>?_) (hby:=⟨by first | ((show _ ≤ 9223372036854775807); simp; done) | ((show _ ≤ 9223372036854775807); simp [dX]; omega),by first | (simp; done) | (simp [dX]; omega)⟩));refine asn rfl (nP (mt (_,l1 ++ [1]) ⟨?_,?_⟩ (hL:=(by first | exact List.Sublist.refl _ | (simp only [dX,List.map_append,List.map_cons,List.map_nil]; repeat first | exact List.Sublist.refl _ | apply List.Sublist.cons_cons | apply List.Sublist.cons)))))
   ·try dsimp only
    unfold ksA; simp_all [cA]
   ·try dsimp only
    first | omega | (simp; omega) | simp
  ·refine skip (pN (mt (o1,l1) ⟨?_,?_⟩ (hL:=(by first | exact List.Sublist.refl _ | (simp only [dX,List.map_append,List.map_cons,List.map_nil]; repeat first | exact List.Sublist.refl _ | apply List.Sublist.cons_cons | apply List.Sublist.cons)))))
   ·try dsimp only
    unfold ksA; simp_all [cA]
   ·try dsimp only
    first | omega | (simp; omega) | simp
 obtain ⟨o2,l2⟩:=x;dsimp only at hx;obtain ⟨hl2,hn2⟩:=hx;refine cut (X:=OV × (List Nat)) (fun x=>(x.2 = ksA (cA m 2) 2 l2) ∧ (x.2.length ≤ 3)) (fun x=>[dz,(1,true,pvb b1),(3,true,x.1.v)]) (fun x=>[aT x.1.v (ovE cK) (dX b1 x.2) 262,Var b1 aR m 109]) ?_ (fun x hx=>?_)
 ·refine sg (co (Ev.ldx m fY (.t rfl) (ah.id _)) ?_);refine cons (aQ eN (.cons (.t rfl) (.cons (.c (v:=U8 2) rfl) .nil)) (fun w I=>iP _ _ w) ?_);refine nP ?_;refine cnq rfl (fun h2=>?_) (fun h2=>?_)
  ·refine region (mv rfl (co (Ev.makeFunc (f:=126) (.cons (.t rfl) .nil)) ?_));refine cons (buildSlice (E:=(ovE cK)) Y209 kY z262 (.cons (.t rfl) .nil) rfl rfl (fun v6=>?_));refine cons (app (E:=(ovE cK)) Y209 kY u9 u7 (.t rfl) (.t rfl) (fun v7=>?_) (hby:=⟨by first | ((show _ ≤ 9223372036854775807); simp; done) | ((show _ ≤ 9223372036854775807); simp [dX]; omega),by first | (simp; done) | (simp [dX]; omega)⟩));refine asn rfl (nP (mt (_,l2 ++ [2]) ⟨?_,?_⟩ (hL:=(by first | exact List.Sublist.refl _ | (simp only [dX,List.map_append,List.map_cons,List.map_nil]; repeat first | exact List.Sublist.refl _ | apply List.Sublist.cons_cons | apply List.Sublist.cons)))))
   ·try dsimp only
    unfold ksA; simp_all [cA]
   ·try dsimp only
    first | omega | (simp; omega) | simp
  ·refine skip (pN (mt (o2,l2) ⟨?_,?_⟩ (hL:=(by first | exact List.Sublist.refl _ | (simp only [dX,List.map_append,List.map_cons,List.map_nil]; repeat first | exact List.Sublist.refl _ | apply List.Sublist.cons_cons | apply List.Sublist.cons)))))
   ·try dsimp only
    unfold ksA; simp_all [cA]
   ·try dsimp only
    first | omega | (simp; omega) | simp
 obtain ⟨o3,l3⟩:=x;dsimp only at hx;obtain ⟨hl3,hn3⟩:=hx;refine cut (X:=OV × (List Nat)) (fun x=>(x.2 = ksA (cA m 4) 3 l3) ∧ (x.2.length ≤ 4)) (fun x=>[dz,(1,true,pvb b1),(3,true,x.1.v)]) (fun x=>[aT x.1.v (ovE cK) (dX b1 x.2) 262,Var b1 aR m 109]) ?_ (fun x hx=>?_)
 ·refine sg (co (Ev.ldx m fY (.t rfl) (ah.id _)) ?_);refine cons (aQ eN (.cons (.t rfl) (.cons (.c (v:=U8 4) rfl) .nil)) (fun w I=>iP _ _ w) ?_);refine nP ?_;refine cnq rfl (fun h3=>?_) (fun h3=>?_)
  ·refine region (mv rfl (co (Ev.makeFunc (f:=128) (.cons (.t rfl) .nil)) ?_));refine cons (buildSlice (E:=(ovE cK)) Y209 kY z262 (.cons (.t rfl) .nil) rfl rfl (fun v8=>?_));refine cons (app (E:=(ovE cK)) Y209 kY u9 u7 (.t rfl) (.t rfl) (fun v9=>?_) (hby:=⟨by first | ((show _ ≤ 9223372036854775807); simp; done) | ((show _ ≤ 9223372036854775807); simp [dX]; omega),by first | (simp; done) | (simp [dX]; omega)⟩));refine asn rfl (nP (mt (_,l3 ++ [3]) ⟨?_,?_⟩ (hL:=(by first | exact List.Sublist.refl _ | (simp only [dX,List.map_append,List.map_cons,List.map_nil]; repeat first | exact List.Sublist.refl _ | apply List.Sublist.cons_cons | apply List.Sublist.cons)))))
   ·try dsimp only
    unfold ksA; simp_all [cA]
   ·try dsimp only
    first | omega | (simp; omega) | simp
  ·refine skip (pN (mt (o3,l3) ⟨?_,?_⟩ (hL:=(by first | exact List.Sublist.refl _ | (simp only [dX,List.map_append,List.map_cons,List.map_nil]; repeat first | exact List.Sublist.refl _ | apply List.Sublist.cons_cons | apply List.Sublist.cons)))))
   ·try dsimp only
    unfold ksA; simp_all [cA]
   ·try dsimp only
    first | omega | (simp; omega) | simp
 obtain ⟨o4,l4⟩:=x;dsimp only at hx;obtain ⟨hl4,hn4⟩:=hx;refine cut (X:=OV × (List Nat)) (fun x=>(x.2 = ksA (cA m 16) 4 l4) ∧ (x.2.length ≤ 5)) (fun x=>[dz,(1,true,pvb b1),(3,true,x.1.v)]) (fun x=>[aT x.1.v (ovE cK) (dX b1 x.2) 262,Var b1 aR m 109]) ?_ (fun x hx=>?_)
 ·refine sg (co (Ev.ldx m fY (.t rfl) (ah.id _)) ?_);refine cons (aQ eN (.cons (.t rfl) (.cons (.c (v:=U8 16) rfl) .nil)) (fun w I=>iP _ _ w) ?_);refine nP ?_;refine cnq rfl (fun h4=>?_) (fun h4=>?_)
  ·refine region (mv rfl (co (Ev.makeFunc (f:=129) (.cons (.t rfl) .nil)) ?_));refine cons (buildSlice (E:=(ovE cK)) Y209 kY z262 (.cons (.t rfl) .nil) rfl rfl (fun v10=>?_));refine cons (app (E:=(ovE cK)) Y209 kY u9 u7 (.t rfl) (.t rfl) (fun v11=>?_) (hby:=⟨by first | ((show _ ≤ 9223372036854775807); simp; done) | ((show _ ≤ 9223372036854775807); simp [dX]; omega),by first | (simp; done) | (simp [dX]; omega)⟩));refine asn rfl (nP (mt (_,l4 ++ [4]) ⟨?_,?_⟩ (hL:=(by first | exact List.Sublist.refl _ | (simp only [dX,List.map_append,List.map_cons,List.map_nil]; repeat first | exact List.Sublist.refl _ | apply List.Sublist.cons_cons | apply List.Sublist.cons)))))
   ·try dsimp only
    unfold ksA; simp_all [cA]
   ·try dsimp only
    first | omega | (simp; omega) | simp
  ·refine skip (pN (mt (o4,l4) ⟨?_,?_⟩ (hL:=(by first | exact List.Sublist.refl _ | (simp only [dX,List.map_append,List.map_cons,List.map_nil]; repeat first | exact List.Sublist.refl _ | apply List.Sublist.cons_cons | apply List.Sublist.cons)))))
   ·try dsimp only
    unfold ksA; simp_all [cA]
   ·try dsimp only
    first | omega | (simp; omega) | simp
 obtain ⟨o5,l5⟩:=x;dsimp only at hx;obtain ⟨hl5,hn5⟩:=hx;refine cut (X:=OV × (List Nat)) (fun x=>(x.2 = ksA (cA m 32) 5 l5) ∧ (x.2.length ≤ 6)) (fun x=>[dz,(1,true,pvb b1),(3,true,x.1.v)]) (fun x=>[aT x.1.v (ovE cK) (dX b1 x.2) 262,Var b1 aR m 109]) ?_ (fun x hx=>?_)
 ·refine sg (co (Ev.ldx m fY (.t rfl) (ah.id _)) ?_);refine cons (aQ eN (.cons (.t rfl) (.cons (.c (v:=U8 32) rfl) .nil)) (fun w I=>iP _ _ w) ?_);refine nP ?_;refine cnq rfl (fun h5=>?_) (fun h5=>?_)
  ·refine region (mv rfl (co (Ev.makeFunc (f:=130) (.cons (.t rfl) .nil)) ?_));refine cons (buildSlice (E:=(ovE cK)) Y209 kY z262 (.cons (.t rfl) .nil) rfl rfl (fun v12=>?_));refine cons (app (E:=(ovE cK)) Y209 kY u9 u7 (.t rfl) (.t rfl) (fun v13=>?_) (hby:=⟨by first | ((show _ ≤ 9223372036854775807); simp; done) | ((show _ ≤ 9223372036854775807); simp [dX]; omega),by first | (simp; done) | (simp [dX]; omega)⟩));refine asn rfl (nP (mt (_,l5 ++ [5]) ⟨?_,?_⟩ (hL:=(by first | exact List.Sublist.refl _ | (simp only [dX,List.map_append,List.map_cons,List.map_nil]; repeat first | exact List.Sublist.refl _ | apply List.Sublist.cons_cons | apply List.Sublist.cons)))))
   ·try dsimp only
    unfold ksA; simp_all [cA]
   ·try dsimp only
    first | omega | (simp; omega) | simp
  ·refine skip (pN (mt (o5,l5) ⟨?_,?_⟩ (hL:=(by first | exact List.Sublist.refl _ | (simp only [dX,List.map_append,List.map_cons,List.map_nil]; repeat first | exact List.Sublist.refl _ | apply List.Sublist.cons_cons | apply List.Sublist.cons)))))
   ·try dsimp only
    unfold ksA; simp_all [cA]
   ·try dsimp only
    first | omega | (simp; omega) | simp
 obtain ⟨o6,l6⟩:=x;dsimp only at hx;obtain ⟨hl6,hn6⟩:=hx;refine sg (mv rfl (asn rfl (nP (ret (done rfl (.tmp rfl .nil) (fun w I=>?_))))));exact ln (o6,b1) trivial rfl (by unfold nI ks; rw [← hl1,← hl2,← hl3,← hl4,← hl5,← hl6]; exact List.Sublist.refl _) w I
theorem clos_len (m:aq) (p:Nat):(nI m p).length = (ks m).length:=by simp [nI,dX]
theorem clos_get (m:aq) (p:Nat) (i:Nat) (h:i < (ks m).length):(nI m p).getD i cK = clo (fM ((ks m).getD i 0)) [.pointer (some ⟨p,0,none⟩)]:=by
 simp [nI,dX,List.getD,h]
theorem tR {α:Type} (l:List α) (i:Nat) (d:α) (h:i < l.length):l.getD i d ∈ l:=by simp [List.getD,h]
theorem meetsL_ok (u:Value) (m:aq) (n:Int) (h:aa) (p hp:Nat) (w:World) (hs:aO (ovE cK) w u (nI m p)) (hm:cq aR w p 0 m) (hh:cq aA w hp 0 h):Gx.Calls Tryz.prog 105 #[u,I n,.pointer (some ⟨hp,0,none⟩)] w (bG w (.bool (rV m n h))):=by
 have hle:=hs.le;have hcl:=clos_len m p;refine en0 21 Tryz.func105 (fun _ _=>?_);refine sg (ac (.bool false) ?_);refine nP (seq (sg (mv rfl (co (Ev.len Y209 (.t rfl) zf) ?_))));refine co (Ev.move (.c rfl)) ?_;refine nP (block (lp (X:=Int) (fun x=>(0 ≤ x ∧ x ≤ (nI m p).length) ∧ (((ks m).take x.toNat).all (fun k=>qM k m n h) = true)) (fun x=>[dz,(1,true,I n),(2,true,pvb hp),(9,true,u),(10,true,I (nI m p).length),(11,true,I x)]) (fun x=>[]) (fun x=>((nI m p).length - x).toNat) (0) ⟨?_,?_⟩ (fun x hx=>?_)))
 ·omega
 ·rfl
 obtain ⟨i,rfl⟩:∃ y,y = x:=⟨x,rfl⟩;obtain ⟨hi,hq⟩:(0 ≤ i ∧ i ≤ (nI m p).length) ∧ (((ks m).take i.toNat).all (fun k=>qM k m n h) = true):=hx;refine sg (co (Ev.cj (.t rfl) (.t rfl)) ?_);refine nP (seq ?_);refine cnd rfl (fun hlt=>?_) (fun hge=>?_)
 ·refine skip (pN (seq (block (sg (co (Ev.indexAddr Y209 kY (.t rfl) (.t rfl) zf (fun _=>zo)) ?_)))));refine co (Ev.bV kY (.t rfl) zf (fun _=>zo)) ?_;refine asn rfl (nP (sg ?_));have hil:i.toNat < (ks m).length:=by omega
  have hk6:=ks_lt (tR (ks m) i.toNat 0 hil);refine co (Ev.to (v':=(clo (fM ((ks m).getD i.toNat 0)) [.pointer (some ⟨p,0,none⟩)]).v) (Ev.move (.t rfl)) (by show ((nI m p).getD i.toNat cK).v = _; rw [clos_get m p _ hil])) ?_;refine mv rfl (mv rfl (cons (jS (.t rfl) (cl_en _ hk6) (.cons (.t rfl) (.cons (.t rfl) .nil)) (fun w I=>cl_ok _ hk6 m n h p hp w (hm.cn I.keeps) (hh.cn I.keeps)) ?_)));refine co (Ev.not (.t rfl)) ?_;refine nP ?_;refine cnq rfl (fun h1=>?_) (fun h1=>?_)
  ·refine sg (ac (.bool false) ?_);refine nP (ret (bR (pR (pR (bR (pR (dn rfl rfl ?_)))))));refine bX2 ?_
   symm
   rw [Bool.eq_false_iff];intro hall;have h2:=List.all_eq_true.1 hall _ (tR (ks m) i.toNat 0 hil);rw [h2] at h1;simp at h1
  ·refine skip (bN (pN (region (co (Ev.bL (.t rfl) (.c rfl) (fun _=>zo)) ?_))));refine mv rfl (nP (nx (i + 1) ⟨?_,?_⟩ ?_))
   ·try dsimp only
    omega
   ·try dsimp only
    rw [iX (ks m) i hi.1 (by omega) 0,List.all_append,hq]
    simpa using h1
   ·try dsimp only
    omega
 ·refine exit (pX (pX (bX (pN (sg (ac (.bool true) ?_))))));refine nP (ret (dn rfl rfl ?_));refine bX2 ?_;rw [List.take_of_length_le (by omega)] at hq;unfold rV;rw [hq]
structure bk where
 tF:OV
 asked:OV
def bk.to:(OV × OV)→bk:=fun x=>⟨x.1,x.2⟩
def bk.of:bk→(OV × OV):=fun x=>(x.tF,x.asked)
def ig:Enc bk:=gI (bh (ovE ai) (ovE ai)) bk.to bk.of
def bk.kH:ah ig (ovE ai) 0:=lI bk.to bk.of l1
@[simp] theorem bk.get_matches_ (x:bk):bk.kH.get x = x.tF:=rfl
@[simp] theorem bk.set_matches_ (x:bk) (y:OV):bk.kH.set x y = { x with tF:=y }:=rfl
def bk.ma:ah ig (ovE ai) 1:=lI bk.to bk.of (l2 (ah.id _))
@[simp] theorem bk.get_asked (x:bk):bk.ma.get x = x.asked:=rfl
@[simp] theorem bk.set_asked (x:bk) (y:OV):bk.ma.set x y = { x with asked:=y }:=rfl
def oc (w:World) (b:Nat) (l:List aq):Prop:=∃ (mo ao:OV) (os:List OV) (bs:Nat→Nat),cq ig w b 0 ⟨mo,ao⟩ ∧ aO aR w mo.v l ∧ aO (ovE ai) w ao.v os ∧ os.length = l.length ∧ ∀ k,k < l.length→aO (ovE cK) w (os.getD k ai).v (nI (l.getD k aR.zero) (bs k)) ∧ cq aR w (bs k) 0 (l.getD k aR.zero)
theorem oc.cn {w w':World} {b:Nat} {l:List aq} (h:oc w b l) (k:aJ dI w w'):oc w' b l:=by
 obtain ⟨mo,ao,os,bs,h1,h2,h3,h4,h5⟩:=h;exact ⟨mo,ao,os,bs,h1.cn k,h2.aV k,h3.aV k,h4,fun j hj=>⟨(h5 j hj).1.aV k,(h5 j hj).2.cn k⟩⟩
def mq (l:List aq):Int:=bif decide (256 < l.length) then 4 else bif l.all okM then 0 else 190
def ptrO (l:List aq) (b:Nat):Option Addr:=bif decide (mq l = 0) then some ⟨b,0,none⟩ else none
def ptrC (l:List aq) (b:Nat):Value:=.pointer (ptrO l b)
theorem ptrO_ok {l:List aq} (b:Nat) (h:mq l = 0):ptrO l b = some ⟨b,0,none⟩:=by
 unfold ptrO;simp [h]
def CompJ (l:List aq) (x:Nat × List Res):Prop:=mq l = 0→∀ w,(∀ r ∈ x.2,r.A w)→oc w x.1 l
def compV (l:List aq) (x:Nat × List Res):Value:=.tuple #[ptrC l x.1,I (mq l)]
theorem all_snoc (l:List aq) (i:Int) (h0:0 ≤ i) (h1:i < l.length) (ha:(l.take i.toNat).all okM = true) (hi:okM (l.getD i.toNat aR.zero) = true):(l.take (i + 1).toNat).all okM = true:=by
 rw [iX l i h0 h1 aR.zero,List.all_append,ha]
 simpa using hi
theorem not_all (l:List aq) (i:Nat) (h1:i < l.length) (hi:okM (l.getD i aR.zero) = false):l.all okM = false:=by
 rw [Bool.eq_false_iff];intro h;have:=List.all_eq_true.1 h _ (tR l i aR.zero h1);rw [hi] at this;cases this
theorem z207:zI 207 ig:=kI
theorem z109:zI 109 aR:=kI
theorem ty144:tyI 144 (ovE ai):=tyP
theorem zb109:zbI 109 aR 88:=kB
theorem zs109:zsI aR:=zsP _
theorem ty205:tyI 205 (ovE ai):=tyP
theorem vd:tyI 209 (ovE ai):=tyP
theorem z209:zI 209 (ovE ai):=kI
theorem zb209:zbI 209 (ovE ai) 24:=kB
theorem zs209:zsI (ovE ai):=zsP _
theorem compile_ok (u:Value) (l:List aq) (w:World) (hl:aO aR w u l):Gx.Calls Tryz.prog 45 #[u] w (gL w (CompJ l) (compV l) (fun x=>x.2)):=by
 have hle:=hl.le;refine en0 47 Tryz.func45 (fun _ _=>?_);refine sg (ac (.pointer none) ?_);refine ac (I 0) ?_;refine nP (seq (sg (mv rfl (co (Ev.len Y144 (.t rfl) zf) ?_))));refine co (Ev.ir (.t rfl) (.c rfl)) ?_;refine nP ?_;refine cnd rfl (fun hbig=>?_) (fun hsmall=>?_)
 ·refine sg (ac (.pointer none) ?_);refine ac (I 4) ?_;refine nP (ret (pR (done rfl (.tmp rfl (.tmp rfl .nil)) (fun w I=>?_))));have hc:mq l = 4:=by unfold mq; rw [decide_eq_true (by omega)]; rfl
  exact ln (0,[]) (fun h=>by rw [hc] at h; cases h) (by unfold compV ptrC ptrO; rw [hc]; rfl) (List.nil_sublist _) w I
 ·refine skip (pN (sg (co (Ev.bu (fs:=_) (places:=[(0,1),(1,1)]) z207 rfl Tryz.underlying207 zk .nil ay.nil) ?_)));refine cons (box (E:=ig) (.t rfl) (fun b1=>?_));refine asn rfl (nP (seq (sg (mv rfl (co (Ev.len Y144 (.t rfl) zf) ?_)))));refine co (Ev.move (.c rfl)) ?_;refine nP (block (dD (ovE ai) 209 ?_));refine dD aR 109 ?_;refine lp (X:=Int × OV × OV × (List OV) × (List Res) × (Nat→Nat)) (fun x=>(0 ≤ x.1 ∧ x.1 ≤ l.length) ∧ ((x.2.2.2.1.length:Int) = x.1) ∧ ((l.take x.1.toNat).all okM = true) ∧ (∀ w1:World,(∀ r ∈ x.2.2.2.2.1,r.A w1)→∀ q:Nat,(q:Int) < x.1→aO (ovE cK) w1 (x.2.2.2.1.getD q ai).v (nI (l.getD q aR.zero) (x.2.2.2.2.2 q)) ∧ cq aR w1 (x.2.2.2.2.2 q) 0 (l.getD q aR.zero))) (fun x=>[dz,(4,true,pvb b1),(13,true,u),(14,true,I l.length),(15,true,I x.1)]) (fun x=>(x.2.2.2.2.1 ++ [aT x.2.1.v aR (l.take x.1.toNat) 109,aT x.2.2.1.v (ovE ai) x.2.2.2.1 209,Var b1 ig ⟨x.2.1,x.2.2.1⟩ 207])) (fun x=>(l.length - x.1).toNat) (0,ai,ai,[],[],fun _=>0) ⟨?_,?_,?_,?_⟩ (fun x hx=>?_)
  ·omega
  ·rfl
  ·rfl
  ·intro w1 _ q hq; exact absurd hq (by show ¬ (q:Int) < 0; omega)
  obtain ⟨i,mo,ao,os,Rs,bs⟩:=x;dsimp only at hx;obtain ⟨hi,hos,hok,hR⟩:=hx;refine sg (co (Ev.cj (.t rfl) (.t rfl)) ?_);refine nP (seq ?_);refine cnd rfl (fun hlt=>?_) (fun hge=>?_)
  ·refine skip (pN (seq (block (sg (co (Ev.indexAddr Y144 fY (.t rfl) (.t rfl) zf (fun _=>zo)) ?_)))));refine co (Ev.bV fY (.t rfl) zf (fun _=>zo)) ?_;refine cons (alloc z109 (fun b2=>?_));refine cons (stv fY (ah.id _) (.t rfl) (.t rfl) ?_);refine nP (seq (sg (co (Ev.ldv fY (.t rfl) (ah.id _)) ?_)));refine cons (aQ eN (o1 rfl) (fun w I=>check_ok _ w) ?_);refine asn rfl (nP (sg (mv rfl (co (Ev.dS (.t rfl) (.c rfl)) ?_))));refine nP ?_;refine cnq rfl (fun h2=>?_) (fun h2=>?_)
   ·have hbad:okM (l.getD i.toNat aR.zero) = false:=by
     have h3:decide (ckM (l.getD i.toNat aR.zero) = 0) = false:=by simpa using h2
     rwa [lP] at h3
    refine sg (mv rfl (ac (.pointer none) ?_));refine asn rfl (nP (ret (pR (bR (pR (pR (bR (pR (done rfl (.tmp rfl (.tmp rfl .nil)) (fun w I=>?_))))))))));have hc:mq l = 190:=by unfold mq; rw [decide_eq_false (by omega),not_all l i.toNat (by omega) hbad]; rfl
    exact ln (0,[]) (fun h=>by rw [hc] at h; cases h) (by unfold compV ptrC ptrO; rw [hc]; show jY [.pointer none,Go.Gx.I (ckM (l.getD i.toNat aR.zero))] = _; unfold ckM; rw [hbad]; rfl) (List.nil_sublist _) w I
   ·have hokm:okM (l.getD i.toNat aR.zero) = true:=by
     have h3:decide (ckM (l.getD i.toNat aR.zero) = 0) = true:=by simpa using h2
     rwa [lP] at h3
    refine skip (pN (seq (draw [Var b2 aR (l.getD i.toNat aR.zero) 109] zk ?_)));refine tm 0 rfl rfl ?_;refine tm 1 rfl rfl ?_;refine tn 2 rfl rfl ?_;refine tk 3 rfl (fA 0 (.t rfl)) ?_;refine tk 5 rfl (Ev.ldv fY (.t rfl) (ah.id _)) ?_;refine all [4,6] zk (by decide) (.cons rfl ?_ (.cons rfl ?_ .nil))
    ·refine (opv (Ev.ldv ty144 (.t rfl) bk.kH) ?_);refine hdn (al1 6 rfl ((buildSlice (E:=aR) Y144 fY z109 (.cons (.t rfl) .nil) rfl rfl (fun v3=>?_))));exact s71
    ·refine (buildSlice (E:=aR) Y144 fY z109 (.cons (.t rfl) .nil) rfl rfl (fun v11=>?_));refine hdn (al1 4 rfl ((opv (Ev.ldv ty144 (.t rfl) bk.kH) ?_)));exact s71
  ·refine exit (pX (pX (bX (pN (sg (mv rfl (asn rfl (ac (I 0) ?_))))))));refine nP (ret (done rfl (.tmp rfl (.tmp rfl .nil)) (fun w I=>?_)));have et:l.take i.toNat = l:=List.take_of_length_le (by omega);rw [et] at hok I;have hc:mq l = 0:=by unfold mq; rw [decide_eq_false (by omega),hok]; rfl
   refine ln (b1,Rs ++ [aT mo.v aR l 109,aT ao.v (ovE ai) os 209,Var b1 ig ⟨mo,ao⟩ 207]) (fun _ w1 hw=>?_) (by unfold compV ptrC ptrO; rw [hc]; rfl) (List.Sublist.refl _) w I;refine ⟨mo,ao,os,bs,gE (hw _ (List.mem_append_right _ (List.mem_cons_of_mem _ (List.mem_cons_of_mem _ List.mem_cons_self)))),aO.gN (hw _ (List.mem_append_right _ List.mem_cons_self)),aO.gN (hw _ (List.mem_append_right _ (List.mem_cons_of_mem _ List.mem_cons_self))),by omega,fun q hq=>hR w1 (fun r hr=>hw r (List.mem_append_left _ hr)) q (by omega)⟩
def gS (q:aq→Bool):List aq→Int→Int
 | [],_=>-1
 | m :: l,k=>bif q m then k else gS q l (k + 1)
theorem rE (q:aq→Bool) (l:List aq) (i:Nat) (k:Int) (h:i < l.length):gS q (l.drop i) k = bif q (l.getD i aR.zero) then k else gS q (l.drop (i + 1)) (k + 1):=by
 rw [List.drop_eq_getElem_cons h];simp [gS,List.getD,h]
theorem first_ok (b:Nat) (l:List aq) (n:Int) (h:aa) (w:World) (hR:oc w b l):Gx.Calls Tryz.prog 79 #[.pointer (some ⟨b,0,none⟩),I n,aA.val h] w (bG w (I (gS (fun m=>rV m n h) l 0))):=by
 obtain ⟨mo,ao,os,bs,hr,hmo,hao,hol,hcl⟩:=hR;have hml:=hmo.le;have hal:=hao.le;refine en0 26 Tryz.func79 (fun _ _=>?_);refine sg (cons (box (E:=aA) (.t rfl) (fun b1=>?_)));refine ac (I 0) ?_;refine nP (seq (sg (mv rfl (co (Ev.eql_p Tryz.underlying128 (.t rfl) (.c rfl)) ?_))));refine nP (fL rfl (rfl) ?_);refine skip (pN (seq (sg (mv rfl (co (Ev.nilCheck (.t rfl)) ?_)))));refine cf 1 rfl ?_;refine co (Ev.load ty205 (.t rfl) (c9 (fun w I=>hr.cn I.keeps) bk.ma)) ?_;refine co (Ev.len Y205 (.t rfl) zf) ?_;refine co (Ev.move (.c rfl)) ?_;refine nP (block (lp (X:=Int) (fun x=>(0 ≤ x ∧ x ≤ l.length) ∧ (gS (fun m=>rV m n h) (l.drop x.toNat) x = gS (fun m=>rV m n h) l 0)) (fun x=>[dz,(1,true,I n),(5,true,pvb b1),(14,true,ao.v),(15,true,I os.length),(16,true,I x)]) (fun x=>[Var b1 aA h 85]) (fun x=>(l.length - x).toNat) (0) ⟨?_,?_⟩ (fun x hx=>?_)))
 ·omega
 ·rfl
 obtain ⟨i,rfl⟩:∃ y,y = x:=⟨x,rfl⟩;obtain ⟨hi,hf⟩:(0 ≤ i ∧ i ≤ l.length) ∧ (gS (fun m=>rV m n h) (l.drop i.toNat) i = gS (fun m=>rV m n h) l 0):=hx;refine sg (co (Ev.cj (.t rfl) (.t rfl)) ?_);refine nP (seq ?_);refine cnd rfl (fun hlt=>?_) (fun hge=>?_)
 ·refine skip (pN (seq (block (sg (mv rfl (co (Ev.indexAddr Y205 vd (.t rfl) (.t rfl) zf (fun _=>zo)) ?_))))));refine co (Ev.bV vd (.t rfl) zf (fun _=>zo)) ?_;refine asn rfl (asn rfl (nP (sg ?_)));have hck:=hcl i.toNat (by omega);refine mv rfl (mv rfl (cons (aQ eN (o3 rfl rfl rfl) (fun w I=>meetsL_ok _ _ n h _ _ w (hck.1.aV I.keeps) (hck.2.cn I.keeps) (br zm (ah.id _) w I)) ?_)));refine nP ?_;refine cnq rfl (fun h2=>?_) (fun h2=>?_)
  ·refine sg (mv rfl (asn rfl (nP (ret (bR (pR (pR (bR (pR (dn rfl rfl ?_))))))))));rw [← hf,rE _ l i.toNat i (by omega)];have h3:rV (l.getD i.toNat aR.zero) n h = true:=by simpa using h2
   rw [h3]; rfl
  ·refine skip (bN (pN (region (co (Ev.bL (.t rfl) (.c rfl) (fun _=>zo)) ?_))));refine mv rfl (nP (nx (i + 1) ⟨?_,?_⟩ ?_))
   ·try dsimp only
    omega
   ·try dsimp only
    rw [← hf,rE _ l i.toNat i (by omega)];have e:(i + 1).toNat = i.toNat + 1:=by omega
    rw [e];have h3:rV (l.getD i.toNat aR.zero) n h = false:=by simpa using h2
    rw [h3]; rfl
   ·try dsimp only
    omega
 ·refine exit (pX (pX (bX (pN (sg (ac (I (-1)) ?_))))));refine nP (ret (dn rfl rfl ?_));rw [List.drop_eq_nil_of_le (by omega)] at hf;rw [← hf]; rfl
end Go.Proofs.YtljifjflnakmoaaGreat
namespace Go.Proofs.YtljifjflnakmoaaGreat.Tri
open Go Go.Gx
def lcp:List Bool→List Bool→List Bool
 | a :: x,b :: y=>if a = b then a :: lcp x y else []
 | _,_=>[]
theorem np:∀ x y,lcp x y <+: x
 | [],_=>by simp [lcp]
 | a :: x,[]=>by simp [lcp]
 | a :: x,b :: y=>by
   unfold lcp;split
   ·rw [List.cons_prefix_cons]; exact ⟨rfl,np x y⟩
   ·exact List.nil_prefix
theorem lcp_comm:∀ x y,lcp x y = lcp y x
 | [],[]=>rfl
 | [],_ :: _=>rfl
 | _ :: _,[]=>rfl
 | a :: x,b :: y=>by
   unfold lcp
   by_cases h:a = b
   ·rw [if_pos h,if_pos h.symm,lcp_comm x y,h]
   ·rw [if_neg h,if_neg (fun e=>h e.symm)]
theorem qG (x y:List Bool):lcp x y <+: y:=by rw [lcp_comm]; exact np y x
theorem xc:∀ c x y:List Bool,c <+: x→c <+: y→c <+: lcp x y
 | [],_,_,_,_=>List.nil_prefix
 | c :: cs,[],_,h,_=>by simp at h
 | c :: cs,_ :: _,[],_,h=>by simp at h
 | c :: cs,a :: x,b :: y,h1,h2=>by
   rw [List.cons_prefix_cons] at h1 h2;unfold lcp;rw [if_pos (h1.1.symm.trans h2.1),List.cons_prefix_cons];exact ⟨h1.1,xc cs x y h1.2 h2.2⟩
theorem vL:∀ x y:List Bool,lcp x y ≠ x→lcp x y ≠ y→∃ b,lcp x y ++ [b] <+: x ∧ lcp x y ++ [!b] <+: y
 | [],y,h,_=>absurd (by simp [lcp]) h
 | a :: x,[],_,h=>absurd (by simp [lcp]) h
 | a :: x,b :: y,h1,h2=>by
   unfold lcp at h1 h2 ⊢
   by_cases h:a = b
   ·rw [if_pos h] at h1 h2 ⊢;subst h;obtain ⟨c,k1,k2⟩:=vL x y (fun e=>h1 (by rw [e])) (fun e=>h2 (by rw [e]));exact ⟨c,by simpa [List.cons_prefix_cons] using k1,by simpa [List.cons_prefix_cons] using k2⟩
   ·rw [if_neg h];refine ⟨a,by simp,?_⟩;have:(!a) = b:=by cases a <;> cases b <;> simp_all
    rw [this];simp
def nb (x y:List Bool):Bool:=y.getD x.length false
theorem tl {x y:List Bool} (h:x <+: y) (hne:x ≠ y):x ++ [nb x y] <+: y:=by
 obtain ⟨z,rfl⟩:=h;cases z with
 | nil=>simp at hne
 | cons b z =>
   have:nb x (x ++ b :: z) = b:=by simp [nb,List.getD]
   rw [this];exact ⟨z,by simp⟩
theorem vH {x y:List Bool} {b:Bool} (h:x ++ [b] <+: y):nb x y = b:=by
 obtain ⟨z,rfl⟩:=h;simp [nb,List.getD]
theorem l0 {x y:List Bool} (h:x <+: y) (hl:y.length ≤ x.length):x = y:=List.IsPrefix.eq_of_length_le h hl
theorem ff {x y:List Bool} {b:Bool} (h:x ++ [b] <+: y):x <+: y:=(List.prefix_append x [b]).trans h
theorem lF {x y z:List Bool} {b:Bool} (h1:x ++ [b] <+: y) (h2:x ++ [!b] <+: z) (h:y <+: z):False:=by
 have e1:=vH (h1.trans h);have e2:=vH h2;rw [e1] at e2;cases b <;> simp at e2
def ltB:List Bool→List Bool→Bool
 | [],[]=>false
 | [],_ :: _=>true
 | _ :: _,[]=>false
 | a :: x,b :: y=>(!a && b) || (a == b && ltB x y)
theorem ltB_irr:∀ x,ltB x x = false
 | []=>rfl
 | a :: x=>by simp [ltB,ltB_irr x]
theorem ltB_pre:∀ x y:List Bool,x <+: y→x ≠ y→ltB x y = true
 | [],[],_,h=>absurd rfl h
 | [],_ :: _,_,_=>rfl
 | _ :: _,[],h,_=>by simp at h
 | a :: x,b :: y,h,hne=>by
   rw [List.cons_prefix_cons] at h;obtain ⟨rfl,h⟩:=h;have:=ltB_pre x y h (fun e=>hne (by rw [e]));simp [ltB,this]
theorem vJ:∀ c x y:List Bool,c ++ [false] <+: x→c ++ [true] <+: y→ltB x y = true
 | [],x,y,h1,h2=>by
   obtain ⟨u,rfl⟩:=h1;obtain ⟨v,rfl⟩:=h2;simp [ltB]
 | c :: cs,x,y,h1,h2=>by
   cases x with
   | nil=>simp at h1
   | cons a x =>
     cases y with
     | nil=>simp at h2
     | cons b y =>
       rw [List.cons_append,List.cons_prefix_cons] at h1 h2;have:=vJ cs x y h1.2 h2.2;simp [ltB,← h1.1,← h2.1,this]
inductive Tr (κ:Type) where
 | nil:Tr κ
 | node:κ→Int→Bool→Tr κ→Tr κ→Tr κ
def Tr.isNil {κ:Type}:Tr κ→Bool
 | .nil=>true
 | _=>false
def Tr.bK {κ:Type}:Tr κ→List (κ × Int)
 | .nil=>[]
 | .node p v h l r=>(if h = true then [(p,v)] else []) ++ (l.bK ++ r.bK)
def Tr.shp {κ:Type}:Tr κ→List κ
 | .nil=>[]
 | .node p _ _ l r=>p :: (l.shp ++ r.shp)
def Tr.WF {κ:Type} (ok:κ→Prop) (bs:κ→List Bool):List Bool→Tr κ→Prop
 | _,.nil=>True
 | c,.node p v h l r=>ok p ∧ c <+: bs p ∧ l.WF ok bs (bs p ++ [false]) ∧ r.WF ok bs (bs p ++ [true]) ∧ (h = false→v = 0 ∧ l ≠ .nil ∧ r ≠ .nil)
section
variable {κ:Type} {ok:κ→Prop} {bs:κ→List Bool}
theorem Tr.WF.mono {c d:List Bool} (h:d <+: c):∀ {t:Tr κ},t.WF ok bs c→t.WF ok bs d
 | .nil,_=>trivial
 | .node _ _ _ _ _,⟨h1,h2,h3⟩=>⟨h1,h.trans h2,h3⟩
theorem Tr.WF.oM:∀ {t:Tr κ} {c:List Bool},t.WF ok bs c→∀ q ∈ t.shp,ok q ∧ c <+: bs q
 | .nil,_,_,q,hq=>by simp [shp] at hq
 | .node p v h l r,c,⟨h1,h2,h3,h4,_⟩,q,hq=>by
   simp only [shp,List.mem_cons,List.mem_append] at hq
   rcases hq with rfl | hq | hq
   ·exact ⟨h1,h2⟩
   ·have:=h3.oM q hq;exact ⟨this.1,h2.trans (ff this.2)⟩
   ·have:=h4.oM q hq;exact ⟨this.1,h2.trans (ff this.2)⟩
theorem Tr.ue:∀ (t:Tr κ) (x:κ × Int),x ∈ t.bK→x.1 ∈ t.shp
 | .nil,x,h=>by simp [bK] at h
 | .node p v h l r,x,hx=>by
   simp only [bK,List.mem_append] at hx;simp only [shp,List.mem_cons,List.mem_append]
   rcases hx with hx | hx | hx
   ·split at hx
    ·simp at hx; exact .inl (by rw [hx])
    ·simp at hx
   ·exact .inr (.inl (ue l x hx))
   ·exact .inr (.inr (ue r x hx))
theorem Tr.WF.ia {t:Tr κ} {c:List Bool} (h:t.WF ok bs c) (x:κ × Int) (hx:x ∈ t.bK):ok x.1 ∧ c <+: bs x.1:=h.oM _ (t.ue x hx)
theorem Tr.WF.oL:∀ {t:Tr κ} {c:List Bool},t.WF ok bs c→t.shp.Pairwise (fun a b=>ltB (bs a) (bs b) = true)
 | .nil,_,_=>List.Pairwise.nil
 | .node p v h l r,c,⟨_,h2,h3,h4,_⟩=>by
   simp only [shp];have low:∀ (b:Bool) (q:κ),bs p ++ [b] <+: bs q→ltB (bs p) (bs q) = true:=fun b q hq=>ltB_pre _ _ (ff hq) (fun e=>by
    have:=hq.length_le;rw [← e] at this;simp at this;omega)
   refine List.pairwise_cons.2 ⟨fun q hq=>?_,List.pairwise_append.2 ⟨h3.oL,h4.oL,fun a ha b hb=>vJ _ _ _ (h3.oM a ha).2 (h4.oM b hb).2⟩⟩
   rcases List.mem_append.1 hq with hq | hq
   ·exact low _ q (h3.oM q hq).2
   ·exact low _ q (h4.oM q hq).2
theorem Tr.ud:∀ (t:Tr κ),(t.bK.map (·.1)).Sublist t.shp
 | .nil=>List.Sublist.refl _
 | .node p v h l r=>by
   simp only [bK,shp,List.map_append];have:=(ud l).append (ud r);cases h with
   | true=>simpa using this.cons_cons p
   | false=>simpa using this.cons p
theorem Tr.WF.ents_sorted {t:Tr κ} {c:List Bool} (h:t.WF ok bs c):t.bK.Pairwise (fun a b=>ltB (bs a.1) (bs b.1) = true) :=
 List.pairwise_map.1 (h.oL.sublist t.ud)
structure KeyLaw (ok:κ→Prop) (bs:κ→List Bool) (both:κ→κ→κ) (bit:κ→κ→Bool):Prop where
 inj:∀ p q,ok p→ok q→bs p = bs q→p = q
 both:∀ p q,ok p→ok q→ok (both p q) ∧ bs (both p q) = lcp (bs p) (bs q)
 bit:∀ p q,ok p→ok q→bs p <+: bs q→bs p ≠ bs q→bit p q = nb (bs p) (bs q)
variable [DecidableEq κ]
def Tr.put (both:κ→κ→κ) (bit:κ→κ→Bool) (p:κ) (v:Int):Tr κ→Tr κ × Bool
 | .nil=>(.node p v true .nil .nil,true)
 | .node q u h l r =>
   if q = p then (.node p v true l r,!h)
   else if both q p = q then
    if bit q p = true then (.node q u h l (r.put both bit p v).1,(r.put both bit p v).2) else (.node q u h (l.put both bit p v).1 r,(l.put both bit p v).2)
   else if both q p = p then
    (if bit p q = true then .node p v true .nil (.node q u h l r) else .node p v true (.node q u h l r) .nil,true)
   else (if bit (both q p) p = true then .node (both q p) 0 false (.node q u h l r) (.node p v true .nil .nil) else .node (both q p) 0 false (.node p v true .nil .nil) (.node q u h l r),true)
def Tr.bare:Tr κ→Tr κ
 | .nil=>.nil
 | .node p v h l r=>if h = true ∨ (l.isNil = false ∧ r.isNil = false) then .node p v h l r else if l.isNil = false then l else r
def Tr.cut (bit:κ→κ→Bool) (p:κ):Tr κ→Tr κ
 | .nil=>.nil
 | .node q u h l r=>if q = p then (Tr.node q 0 false l r).bare else if bit q p = true then (Tr.node q u h l (r.cut bit p)).bare else (Tr.node q u h (l.cut bit p) r).bare
variable {both:κ→κ→κ} {bit:κ→κ→Bool}
theorem KeyLaw.ways (K:KeyLaw ok bs both bit) {q p:κ} (hq:ok q) (hp:ok p) (hne:q ≠ p) :
 (both q p = q ∧ bs q ++ [bit q p] <+: bs p) ∨ (both q p ≠ q ∧ both q p = p ∧ bs p ++ [bit p q] <+: bs q) ∨
 (both q p ≠ q ∧ both q p ≠ p ∧ ok (both q p) ∧ bs (both q p) = lcp (bs q) (bs p) ∧ bit (both q p) q = !(bit (both q p) p) ∧ bs (both q p) ++ [!(bit (both q p) p)] <+: bs q ∧ bs (both q p) ++ [bit (both q p) p] <+: bs p):=by
 obtain ⟨h1,h2⟩:=K.both q p hq hp;have hbne:bs q ≠ bs p:=fun e=>hne (K.inj _ _ hq hp e)
 by_cases e1:both q p = q
 ·refine .inl ⟨e1,?_⟩;have hpre:bs q <+: bs p:=by
   rw [e1] at h2;rw [h2];exact qG _ _
  rw [K.bit q p hq hp hpre hbne];exact tl hpre hbne
 ·by_cases e2:both q p = p
  ·refine .inr (.inl ⟨e1,e2,?_⟩);have hpre:bs p <+: bs q:=by
    rw [e2] at h2;rw [h2];exact np _ _
   rw [K.bit p q hp hq hpre hbne.symm];exact tl hpre hbne.symm
  ·have n1:lcp (bs q) (bs p) ≠ bs q:=fun e=>e1 (K.inj _ _ h1 hq (h2.trans e))
   have n2:lcp (bs q) (bs p) ≠ bs p:=fun e=>e2 (K.inj _ _ h1 hp (h2.trans e))
   obtain ⟨b,g1,g2⟩:=vL _ _ n1 n2;rw [← h2] at g1 g2 n1 n2;have b1:=K.bit _ q h1 hq (ff g1) n1;have b2:=K.bit _ p h1 hp (ff g2) n2;rw [vH g1] at b1;rw [vH g2] at b2;refine .inr (.inr ⟨e1,e2,h1,h2,?_,?_,?_⟩)
   ·rw [b1,b2,Bool.not_not]
   ·rw [b2,Bool.not_not]; exact g1
   ·rw [b2]; exact g2
theorem pr {x y:List Bool} {b:Bool} (h:x ++ [b] <+: y):x ≠ y:=fun e=>by
 have:=h.length_le;rw [← e] at this;simp at this;omega
theorem KeyLaw.th (K:KeyLaw ok bs both bit) {p:κ} (hp:ok p) (v:Int):∀ (t:Tr κ) (c:List Bool),t.WF ok bs c→c <+: bs p →
 (t.put both bit p v).1.WF ok bs c ∧ (t.put both bit p v).1 ≠ .nil ∧ (∀ x,x ∈ (t.put both bit p v).1.bK ↔ (x = (p,v) ∨ (x ∈ t.bK ∧ x.1 ≠ p))) ∧ ((t.put both bit p v).2 = true ↔ ∀ x ∈ t.bK,x.1 ≠ p)
 | .nil,c,_,hc=>by
   refine ⟨⟨hp,hc,trivial,trivial,(fun h=>by cases h)⟩,(fun h=>by cases h),fun x=>?_,?_⟩
   ·simp [Tr.put,Tr.bK]
   ·simp [Tr.put,Tr.bK]
 | .node q u h l r,c,hw,hc=>by
   have hw':=hw;obtain ⟨hq,h2,h3,h4,h5⟩:=hw;have inl:∀ x ∈ l.bK,bs q ++ [false] <+: bs x.1:=fun x hx=>(h3.ia x hx).2
   have inr:∀ x ∈ r.bK,bs q ++ [true] <+: bs x.1:=fun x hx=>(h4.ia x hx).2
   by_cases e:q = p
   ·subst e;have nl:∀ x ∈ l.bK,x.1 ≠ q:=fun x hx e=>pr (inl x hx) (by rw [e])
    have nr:∀ x ∈ r.bK,x.1 ≠ q:=fun x hx e=>pr (inr x hx) (by rw [e])
    have hput:Tr.put both bit q v (.node q u h l r) = (.node q v true l r,!h):=by rw [Tr.put,if_pos rfl]
    rw [hput];refine ⟨⟨hq,h2,h3,h4,(fun h=>by cases h)⟩,(fun h=>by cases h),fun x=>?_,?_⟩
    ·simp only [Tr.bK,if_true,List.mem_append,List.mem_singleton];constructor
     ·rintro (h | h | h)
      ·exact .inl h
      ·exact .inr ⟨.inr (.inl h),nl x h⟩
      ·exact .inr ⟨.inr (.inr h),nr x h⟩
     ·rintro (h | ⟨h | h | h,hn⟩)
      ·exact .inl h
      ·split at h
       ·simp only [List.mem_singleton] at h;rw [h] at hn;exact absurd rfl hn
       ·simp at h
      ·exact .inr (.inl h)
      ·exact .inr (.inr h)
    ·simp only [Tr.bK,List.mem_append];constructor
     ·intro hh x hx;have hf:h = false:=by simpa using hh
      subst hf
      rcases hx with hx | hx | hx
      ·simp at hx
      ·exact nl x hx
      ·exact nr x hx
     ·intro hh;cases h with
      | false=>rfl
      | true=>exact absurd rfl (hh (q,u) (.inl (by simp)))
   ·have epq:∀ x:κ × Int,x ∈ (if h = true then [(q,u)] else [])→x.1 ≠ p:=fun x hx=>by
     split at hx
     ·simp only [List.mem_singleton] at hx; rw [hx]; exact e
     ·simp at hx
    rcases K.ways hq hp e with ⟨e1,e2⟩ | ⟨e0,e1,e2⟩ | ⟨e0,e1,e2,e3,e4,e5,e6⟩
    ·cases hb:bit q p with
     | true =>
       rw [hb] at e2;have hput:Tr.put both bit p v (.node q u h l r) = (.node q u h l (r.put both bit p v).1,(r.put both bit p v).2):=by rw [Tr.put,if_neg e,if_pos e1,if_pos hb]
       rw [hput];obtain ⟨g1,g2,g3,g4⟩:=K.th hp v r _ h4 e2;refine ⟨⟨hq,h2,h3,g1,fun hh=>⟨(h5 hh).1,(h5 hh).2.1,g2⟩⟩,(fun h=>by cases h),fun x=>?_,?_⟩
       ·have nl:x ∈ l.bK→x.1 ≠ p:=fun hx e=>lF (b:=false) (inl x hx) e2 (by rw [e]; exact List.prefix_refl _)
        simp only [Tr.bK,List.mem_append,g3];constructor
        ·rintro (h | h | h | h)
         ·exact .inr ⟨.inl h,epq x h⟩
         ·exact .inr ⟨.inr (.inl h),nl h⟩
         ·exact .inl h
         ·exact .inr ⟨.inr (.inr h.1),h.2⟩
        ·rintro (h | ⟨h | h | h,hn⟩)
         ·exact .inr (.inr (.inl h))
         ·exact .inl h
         ·exact .inr (.inl h)
         ·exact .inr (.inr (.inr ⟨h,hn⟩))
       ·rw [g4];simp only [Tr.bK,List.mem_append];constructor
        ·rintro hh x (hx | hx | hx)
         ·exact epq x hx
         ·exact fun e=>lF (b:=false) (inl x hx) e2 (by rw [e]; exact List.prefix_refl _)
         ·exact hh x hx
        ·exact fun hh x hx=>hh x (.inr (.inr hx))
     | false =>
       rw [hb] at e2;have hput:Tr.put both bit p v (.node q u h l r) = (.node q u h (l.put both bit p v).1 r,(l.put both bit p v).2):=by rw [Tr.put,if_neg e,if_pos e1,if_neg (by rw [hb]; exact Bool.false_ne_true)]
       rw [hput];obtain ⟨g1,g2,g3,g4⟩:=K.th hp v l _ h3 e2;refine ⟨⟨hq,h2,g1,h4,fun hh=>⟨(h5 hh).1,g2,(h5 hh).2.2⟩⟩,(fun h=>by cases h),fun x=>?_,?_⟩
       ·have nr:x ∈ r.bK→x.1 ≠ p:=fun hx e=>lF (b:=true) (inr x hx) e2 (by rw [e]; exact List.prefix_refl _)
        simp only [Tr.bK,List.mem_append,g3];constructor
        ·rintro (h | (h | h) | h)
         ·exact .inr ⟨.inl h,epq x h⟩
         ·exact .inl h
         ·exact .inr ⟨.inr (.inl h.1),h.2⟩
         ·exact .inr ⟨.inr (.inr h),nr h⟩
        ·rintro (h | ⟨h | h | h,hn⟩)
         ·exact .inr (.inl (.inl h))
         ·exact .inl h
         ·exact .inr (.inl (.inr ⟨h,hn⟩))
         ·exact .inr (.inr h)
       ·rw [g4];simp only [Tr.bK,List.mem_append];constructor
        ·rintro hh x (hx | hx | hx)
         ·exact epq x hx
         ·exact hh x hx
         ·exact fun e=>lF (b:=true) (inr x hx) e2 (by rw [e]; exact List.prefix_refl _)
        ·exact fun hh x hx=>hh x (.inr (.inl hx))
    ·have hall:∀ x ∈ (Tr.node q u h l r).bK,x.1 ≠ p:=fun x hx e'=>by
      have:=(hw'.mono (List.nil_prefix (l:=c))).ia x hx;have h9:bs q <+: bs x.1:=by
       exact s32
      rw [e'] at h9;exact pr e2 (l0 (ff e2) h9.length_le)
     have hwq:∀ d,d <+: bs q→(Tr.node q u h l r).WF ok bs d:=fun d hd=>⟨hq,hd,h3,h4,h5⟩
     cases hb:bit p q with
     | true =>
       rw [hb] at e2;have hput:Tr.put both bit p v (.node q u h l r) = (.node p v true .nil (.node q u h l r),true):=by rw [Tr.put,if_neg e,if_neg e0,if_pos e1,if_pos hb]
       rw [hput];refine ⟨⟨hp,hc,trivial,hwq _ e2,(fun h=>by cases h)⟩,(fun h=>by cases h),fun x=>?_,⟨fun _=>hall,fun _=>rfl⟩⟩;rw [show (Tr.node p v true .nil (.node q u h l r)).bK = (p,v) :: (Tr.node q u h l r).bK by simp [Tr.bK],List.mem_cons];exact s62
     | false =>
       rw [hb] at e2;have hput:Tr.put both bit p v (.node q u h l r) = (.node p v true (.node q u h l r) .nil,true):=by rw [Tr.put,if_neg e,if_neg e0,if_pos e1,if_neg (by rw [hb]; exact Bool.false_ne_true)]
       rw [hput];refine ⟨⟨hp,hc,hwq _ e2,trivial,(fun h=>by cases h)⟩,(fun h=>by cases h),fun x=>?_,⟨fun _=>hall,fun _=>rfl⟩⟩;rw [show (Tr.node p v true (.node q u h l r) .nil).bK = (p,v) :: (Tr.node q u h l r).bK by simp [Tr.bK],List.mem_cons];exact s62
    ·have hall:∀ x ∈ (Tr.node q u h l r).bK,x.1 ≠ p:=fun x hx e'=>by
      have h9:bs q <+: bs x.1:=by
       exact s32
      rw [e'] at h9;have e7:=e5.trans h9;have n1:=vH e6;have n2:=vH e7;rw [n1] at n2;cases hbb:bit (both q p) p <;> rw [hbb] at n2 <;> cases n2
     have hwq:∀ d,d <+: bs q→(Tr.node q u h l r).WF ok bs d:=fun d hd=>⟨hq,hd,h3,h4,h5⟩
     have hcc:c <+: bs (both q p):=by rw [e3]; exact xc _ _ _ h2 hc
     cases hb:bit (both q p) p with
     | true =>
       rw [hb] at e5 e6;have hput:Tr.put both bit p v (.node q u h l r) = (.node (both q p) 0 false (.node q u h l r) (.node p v true .nil .nil),true):=by rw [Tr.put,if_neg e,if_neg e0,if_neg e1,if_pos hb]
       rw [hput];refine ⟨⟨e2,hcc,hwq _ e5,⟨hp,e6,trivial,trivial,(fun h=>by cases h)⟩,fun _=>⟨rfl,(fun h=>by cases h),(fun h=>by cases h)⟩⟩,(fun h=>by cases h),fun x=>?_,⟨fun _=>hall,fun _=>rfl⟩⟩;rw [show (Tr.node (both q p) 0 false (.node q u h l r) (.node p v true .nil .nil)).bK = (Tr.node q u h l r).bK ++ [(p,v)] by simp [Tr.bK],List.mem_append,List.mem_singleton];exact ⟨fun h=>h.symm.imp id fun h=>⟨h,hall x h⟩,fun h=>(h.imp id fun h=>h.1).symm⟩
     | false =>
       rw [hb] at e5 e6;have hput:Tr.put both bit p v (.node q u h l r) = (.node (both q p) 0 false (.node p v true .nil .nil) (.node q u h l r),true):=by rw [Tr.put,if_neg e,if_neg e0,if_neg e1,if_neg (by rw [hb]; exact Bool.false_ne_true)]
       rw [hput];refine ⟨⟨e2,hcc,⟨hp,e6,trivial,trivial,(fun h=>by cases h)⟩,hwq _ e5,fun _=>⟨rfl,(fun h=>by cases h),(fun h=>by cases h)⟩⟩,(fun h=>by cases h),fun x=>?_,⟨fun _=>hall,fun _=>rfl⟩⟩;rw [show (Tr.node (both q p) 0 false (.node p v true .nil .nil) (.node q u h l r)).bK = (p,v) :: (Tr.node q u h l r).bK by simp [Tr.bK],List.mem_cons];exact s62
def Tr.path (cov lt:κ→κ→Bool) (bit:κ→κ→Bool) (p:κ):Tr κ→List (κ × Int × Bool)
 | .nil=>[]
 | .node q u h l r=>if cov q p = true then (q,u,h) :: (if lt q p = true then (if bit q p = true then r.path cov lt bit p else l.path cov lt bit p) else []) else []
variable {cov lt:κ→κ→Bool}
structure xJ (ok:κ→Prop) (bs:κ→List Bool) (cov lt:κ→κ→Bool):Prop where
 cov:∀ q p,ok q→ok p→(cov q p = true ↔ bs q <+: bs p)
 lt:∀ q p,ok q→ok p→(lt q p = true ↔ (bs q).length < (bs p).length)
theorem KeyLaw.nN (K:KeyLaw ok bs both bit) (C:xJ ok bs cov lt) {p:κ} (hp:ok p):∀ (t:Tr κ) (c:List Bool),t.WF ok bs c →
 (∀ x:κ × Int,(x.1,x.2,true) ∈ t.path cov lt bit p ↔ (x ∈ t.bK ∧ bs x.1 <+: bs p)) ∧ (∀ y ∈ t.path cov lt bit p,c <+: bs y.1 ∧ bs y.1 <+: bs p ∧ ok y.1) ∧ (t.path cov lt bit p).Pairwise (fun a b=>(bs a.1).length < (bs b.1).length)
 | .nil,c,_=>⟨fun x=>by simp [Tr.path,Tr.bK],fun y hy=>by simp [Tr.path] at hy,List.Pairwise.nil⟩
 | .node q u h l r,c,hw=>by
   obtain ⟨hq,h2,h3,h4,h5⟩:=hw;have inl:∀ x ∈ l.bK,bs q ++ [false] <+: bs x.1:=fun x hx=>(h3.ia x hx).2
   have inr:∀ x ∈ r.bK,bs q ++ [true] <+: bs x.1:=fun x hx=>(h4.ia x hx).2
   have hqe:∀ x:κ × Int,x ∈ (if h = true then [(q,u)] else []) ↔ (x.1,x.2,true) = (q,u,h):=fun x=>by
    cases h <;> simp [Prod.ext_iff]
   by_cases e1:cov q p = true
   ·have hpre:=(C.cov q p hq hp).1 e1
    by_cases e2:lt q p = true
    ·have hlt:=(C.lt q p hq hp).1 e2;have hne:bs q ≠ bs p:=fun e=>by rw [e] at hlt; omega
     have hstep:=tl hpre hne;rw [← K.bit q p hq hp hpre hne] at hstep;cases hb:bit q p with
     | true =>
       rw [hb] at hstep;have hpath:Tr.path cov lt bit p (.node q u h l r) = (q,u,h) :: r.path cov lt bit p:=by rw [Tr.path,if_pos e1,if_pos e2,if_pos hb]
       rw [hpath];obtain ⟨g1,g2,g3⟩:=K.nN C hp r _ h4;refine ⟨fun x=>?_,fun y hy=>?_,List.pairwise_cons.2 ⟨fun y hy=>?_,g3⟩⟩
       ·simp only [Tr.bK,List.mem_append,List.mem_cons,hqe,g1];constructor
        ·rintro (hx | hx)
         ·exact s54
         ·exact ⟨.inr (.inr hx.1),hx.2⟩
        ·rintro ⟨hx | hx | hx,hn⟩
         ·exact .inl hx
         ·exact (lF (b:=false) (inl x hx) hstep hn).elim
         ·exact .inr ⟨hx,hn⟩
       ·exact s50
       ·exact s61
     | false =>
       rw [hb] at hstep;have hpath:Tr.path cov lt bit p (.node q u h l r) = (q,u,h) :: l.path cov lt bit p:=by rw [Tr.path,if_pos e1,if_pos e2,if_neg (by rw [hb]; exact Bool.false_ne_true)]
       rw [hpath];obtain ⟨g1,g2,g3⟩:=K.nN C hp l _ h3;refine ⟨fun x=>?_,fun y hy=>?_,List.pairwise_cons.2 ⟨fun y hy=>?_,g3⟩⟩
       ·simp only [Tr.bK,List.mem_append,List.mem_cons,hqe,g1];constructor
        ·rintro (hx | hx)
         ·exact s54
         ·exact ⟨.inr (.inl hx.1),hx.2⟩
        ·rintro ⟨hx | hx | hx,hn⟩
         ·exact .inl hx
         ·exact .inr ⟨hx,hn⟩
         ·exact (lF (b:=true) (inr x hx) hstep hn).elim
       ·exact s50
       ·exact s61
    ·have hge:¬ (bs q).length < (bs p).length:=fun h=>e2 ((C.lt q p hq hp).2 h)
     have heq:=l0 hpre (by omega);have hpath:Tr.path cov lt bit p (.node q u h l r) = [(q,u,h)]:=by rw [Tr.path,if_pos e1,if_neg e2]
     rw [hpath];refine ⟨fun x=>?_,fun y hy=>?_,List.pairwise_singleton _ _⟩
     ·simp only [Tr.bK,List.mem_append,List.mem_singleton,hqe];constructor
      ·intro hx;exact s54
      ·rintro ⟨hx | hx | hx,hn⟩
       ·exact hx
       ·exact absurd (l0 (ff (inl x hx)) (by rw [heq]; exact hn.length_le)) (pr (inl x hx))
       ·exact absurd (l0 (ff (inr x hx)) (by rw [heq]; exact hn.length_le)) (pr (inr x hx))
     ·rw [List.mem_singleton] at hy;subst hy;exact ⟨h2,hpre,hq⟩
   ·have hpath:Tr.path cov lt bit p (.node q u h l r) = []:=by rw [Tr.path,if_neg e1]
    rw [hpath];refine ⟨fun x=>?_,fun y hy=>by simp at hy,List.Pairwise.nil⟩;simp only [Tr.bK,List.mem_append];constructor
    ·intro hx; simp at hx
    ·rintro ⟨hx,hn⟩;have h9:bs q <+: bs x.1:=by
      rcases hx with hx | hx | hx
      ·rw [hqe] at hx;have:=(Prod.ext_iff.1 hx).1;simp only at this;rw [this];exact List.prefix_refl _
      ·exact ff (inl x hx)
      ·exact ff (inr x hx)
     exact absurd ((C.cov q p hq hp).2 (h9.trans hn)) e1
def Tr.best (cov lt:κ→κ→Bool) (bit:κ→κ→Bool) (p:κ) (t:Tr κ):Option (κ × Int):=(((t.path cov lt bit p).filter (·.2.2)).getLast?).map (fun n=>(n.1,n.2.1))
def Tr.get (cov lt:κ→κ→Bool) (bit:κ→κ→Bool) (p:κ) (t:Tr κ):Option Int:=((t.path cov lt bit p).find? (fun n=>decide (n.1 = p) && n.2.2)).map (·.2.1)
theorem KeyLaw.best_some (K:KeyLaw ok bs both bit) (C:xJ ok bs cov lt) {p:κ} (hp:ok p) {t:Tr κ} {c:List Bool} (hw:t.WF ok bs c) {x:κ × Int} (h:t.best cov lt bit p = some x) :
 x ∈ t.bK ∧ bs x.1 <+: bs p ∧ ∀ y ∈ t.bK,bs y.1 <+: bs p→bs y.1 <+: bs x.1:=by
 obtain ⟨g1,g2,g3⟩:=K.nN C hp t c hw;unfold Tr.best at h;rw [Option.map_eq_some_iff] at h;obtain ⟨n,h1,rfl⟩:=h;obtain ⟨A,hA⟩:=List.getLast?_eq_some_iff.1 h1;have hn:n ∈ (t.path cov lt bit p).filter (·.2.2):=by rw [hA]; simp
 obtain ⟨m1,m2⟩:=List.mem_filter.1 hn;have hx:(n.1,n.2.1,true) ∈ t.path cov lt bit p:=by
  have:n = (n.1,n.2.1,true):=by rw [← m2]
  rw [← this]; exact m1
 obtain ⟨k1,k2⟩:=(g1 (n.1,n.2.1)).1 hx;refine ⟨k1,k2,fun y hy hyp=>?_⟩;have hy2:=(g1 y).2 ⟨hy,hyp⟩;have hy3:(y.1,y.2,true) ∈ (t.path cov lt bit p).filter (·.2.2):=List.mem_filter.2 ⟨hy2,rfl⟩;have hs:=g3.filter (·.2.2);rw [hA] at hs hy3;have hle:(bs y.1).length ≤ (bs n.1).length:=by
  rcases List.mem_append.1 hy3 with h | h
  ·have:=(List.pairwise_append.1 hs).2.2 _ h n (by simp);simp only at this;omega
  ·rw [List.mem_singleton] at h;rw [← h];exact Nat.le_refl _
 exact List.prefix_of_prefix_length_le hyp k2 hle
theorem KeyLaw.best_none (K:KeyLaw ok bs both bit) (C:xJ ok bs cov lt) {p:κ} (hp:ok p) {t:Tr κ} {c:List Bool} (hw:t.WF ok bs c) (h:t.best cov lt bit p = none) :
 ∀ y ∈ t.bK,¬ bs y.1 <+: bs p:=by
 obtain ⟨g1,g2,g3⟩:=K.nN C hp t c hw;unfold Tr.best at h;rw [Option.map_eq_none_iff,List.getLast?_eq_none_iff] at h;intro y hy hyp;have hy2:=(g1 y).2 ⟨hy,hyp⟩;have:(y.1,y.2,true) ∈ (t.path cov lt bit p).filter (·.2.2):=List.mem_filter.2 ⟨hy2,rfl⟩;rw [h] at this;simp at this
theorem Tr.WF.small:∀ {t:Tr κ} {c:List Bool},t.WF ok bs c→t ≠ .nil→t.shp.length + 1 ≤ 2 * t.bK.length
 | .nil,_,_,h=>absurd rfl h
 | .node p v h l r,c,⟨_,_,h3,h4,h5⟩,_=>by
   have hl:l = .nil ∨ l.shp.length + 1 ≤ 2 * l.bK.length:=by
    by_cases e:l = .nil
    ·exact .inl e
    ·exact .inr (h3.small e)
   have hr:r = .nil ∨ r.shp.length + 1 ≤ 2 * r.bK.length:=by
    by_cases e:r = .nil
    ·exact .inl e
    ·exact .inr (h4.small e)
   simp only [shp,bK,List.length_cons,List.length_append];cases h with
   | true =>
     simp only [if_true,List.length_cons,List.length_nil]
     rcases hl with rfl | hl <;> rcases hr with rfl | hr <;> simp [shp,bK] at * <;> omega
   | false =>
     obtain ⟨_,n1,n2⟩:=h5 rfl;have hl:=hl.resolve_left n1;have hr:=hr.resolve_left n2;simp;omega
end
theorem xD (b:List UInt8) (i:Int):dj b i = 0 ∨ dj b i = 1:=by
 have h:(dj b i).toNat < 2:=by rw [jj]; exact Nat.mod_lt _ (by decide)
 rcases (show (dj b i).toNat = 0 ∨ (dj b i).toNat = 1 by omega) with h | h
 ·exact .inl (UInt8.toNat_inj.1 h)
 ·exact .inr (UInt8.toNat_inj.1 h)
theorem byte_ext (x y:UInt8) (h:∀ j,j < 8→kP x j = kP y j):x = y:=by
 have hz:x ^^^ y = 0:=by
  have h1:=(wZ (x ^^^ y) 0).2 (fun j hj _=>by
   have e:=h j hj;apply UInt8.toNat_inj.1;rw [fB,UInt8.toNat_xor,bn_xor,← fB,← fB,e];have:(kP y j).toNat < 2:=by rw [fB]; exact Nat.mod_lt _ (by decide)
   show ((kP y j).toNat + (kP y j).toNat) % 2 = 0;omega)
  rw [← h1]
  rfl
 have e2:=congrArg UInt8.toNat hz;rw [UInt8.toNat_xor] at e2;exact UInt8.toNat_inj.1 (xor_zero e2)
theorem bits_ext (a b:Vector UInt8 16) (h:∀ i:Int,0 ≤ i→i < 128→dj a.toList i = dj b.toList i):a = b:=by
 apply Vector.ext;intro k hk;refine byte_ext _ _ (fun j hj=>?_);have:=h (8 * (k:Int) + j) (by omega) (by omega);rw [oa _ _ _ hj,oa _ _ _ hj,ku _ k hk,ku _ k hk] at this;exact this
theorem mk1_bit_dec:∀ n:Fin 256,∀ l:Fin 9,∀ j:Fin 8,bn (mk1 (l.val:Int) (UInt8.ofNat n.val)).toNat (7 - j.val) = if j.val < l.val then bn n.val (7 - j.val) else 0:=by decide +kernel
theorem mk1_bit (x:UInt8) (left:Int) (j:Nat) (hj:j < 8):kP (mk1 left x) j = if (j:Int) < left then kP x j else 0:=by
 have key:∀ l:Nat,l < 9→kP (mk1 (l:Int) x) j = if j < l then kP x j else 0:=fun l hl=>by
  have h:=mk1_bit_dec ⟨x.toNat,x.toNat_lt⟩ ⟨l,hl⟩ ⟨j,hj⟩;simp only [UInt8.ofNat_toNat] at h;apply UInt8.toNat_inj.1;rw [fB,h];split
  ·rw [fB]
  ·rfl
 by_cases h0:left ≤ 0
 ·have e:mk1 left x = mk1 ((0:Nat):Int) x:=by
   unfold mk1;rw [if_pos h0,if_pos (by omega)]
  rw [e,key 0 (by omega),if_neg (by omega),if_neg (by omega)]
 ·by_cases h8:left < 8
  ·have e:left = (left.toNat:Int):=by omega
   rw [e,key left.toNat (by omega)]
   by_cases hl:j < left.toNat
   ·rw [if_pos hl,if_pos (by omega)]
   ·rw [if_neg hl,if_neg (by omega)]
  ·have e:mk1 left x = x:=by
    unfold mk1;rw [if_neg h0,if_neg h8]
   rw [e,if_pos (by omega)]
theorem mask_bit (n:Int) (b:Vector UInt8 16) (i:Int) (h0:0 ≤ i) (h1:i < 128):dj (fI n b).toList i = if i < n then dj b.toList i else 0:=by
 have e:i = 8 * ((i / 8).toNat:Int) + ((i % 8).toNat:Int):=by omega
 have hk:(i / 8).toNat < 16:=by omega
 rw [e,oa _ _ _ (by omega),oa _ _ _ (by omega),ku _ _ hk,ku _ _ hk];have em:(fI n b)[(i / 8).toNat] = mk1 (n - 8 * ((i / 8).toNat:Int)) b[(i / 8).toNat]:=by simp [fI]
 rw [em,mk1_bit _ _ _ (by omega)]
 by_cases h:i < n
 ·rw [if_pos (by omega),if_pos (by omega)]
 ·rw [if_neg (by omega),if_neg (by omega)]
def pb (p:ae):List Bool:=(List.range p.bits.toNat).map fun i:Nat=>decide (dj p.addr.b.toList i = 1)
@[simp] theorem qA (p:ae):(pb p).length = p.bits.toNat:=by simp [pb]
theorem oR (p:ae) (i:Nat) (h:i < p.bits.toNat):(pb p)[i]? = some (decide (dj p.addr.b.toList i = 1)):=by simp [pb,h]
theorem wM (x y:List Bool):x <+: y ↔ x.length ≤ y.length ∧ ∀ i,i < x.length→x[i]? = y[i]?:=by
 constructor
 ·rintro ⟨z,rfl⟩;exact ⟨by simp,fun i hi=>by rw [List.getElem?_append_left hi]⟩
 ·rintro ⟨h1,h2⟩;refine ⟨y.drop x.length,?_⟩;have:x = y.take x.length:=by
   apply List.ext_getElem?;intro i
   by_cases hi:i < x.length
   ·rw [h2 i hi,List.getElem?_take_of_lt hi]
   ·rw [List.getElem?_eq_none (by omega),List.getElem?_eq_none (by simp; omega)]
  rw [this];simp;rw [Nat.min_eq_left h1,List.take_append_drop]
theorem qa {a b:List UInt8} {i j:Int}:decide (dj a i = 1) = decide (dj b j = 1) ↔ dj a i = dj b j:=by
 rcases xD a i with h | h <;> rcases xD b j with k | k <;> simp [h,k]
theorem oQ (p q:ae) (hp:0 ≤ p.bits) (hq:0 ≤ q.bits):pb p <+: pb q ↔ p.bits ≤ q.bits ∧ ∀ i:Int,0 ≤ i→i < p.bits→dj p.addr.b.toList i = dj q.addr.b.toList i:=by
 rw [wM,qA,qA];constructor
 ·rintro ⟨h1,h2⟩;refine ⟨by omega,fun i h3 h4=>?_⟩;have:=h2 i.toNat (by omega);rw [oR p _ (by omega),oR q _ (by omega)] at this;have e:((i.toNat:Nat):Int) = i:=by omega
  rw [e] at this;exact qa.1 (Option.some.inj this)
 ·rintro ⟨h1,h2⟩;refine ⟨by omega,fun i hi=>?_⟩;rw [oR p _ (by omega),oR q _ (by omega)];exact congrArg some (qa.2 (h2 i (by omega) (by omega)))
def okP (k:Bool) (p:ae):Prop:=cN p = 0 ∧ p.addr.v6 = k
theorem okP.nn {k:Bool} {p:ae} (h:okP k p):0 ≤ p.bits ∧ p.bits ≤ wd p.addr ∧ p.bits ≤ 128:=by
 have:=(eh p).1 h.1;have:=oo p.addr;omega
def jR (p q:ae):Int:=min (min p.bits q.bits) (iL p.addr.b.toList q.addr.b.toList)
def jJ (p q:ae):ae:=⟨⟨p.addr.v6,fI (jR p q) p.addr.b⟩,jR p q⟩
def qh (p q:ae):Bool:=decide (dj q.addr.b.toList p.bits = 1)
theorem qP {k:Bool} {p q:ae} (hp:okP k p) (hq:okP k q):0 ≤ jR p q ∧ jR p q ≤ p.bits ∧ jR p q ≤ q.bits ∧ (∀ i:Int,0 ≤ i→i < jR p q→dj p.addr.b.toList i = dj q.addr.b.toList i) ∧
 (jR p q < p.bits→jR p q < q.bits→dj p.addr.b.toList (jR p q) ≠ dj q.addr.b.toList (jR p q)):=by
 have h:=um p.addr.b.toList q.addr.b.toList;have h1:=hp.nn;have h2:=hq.nn;have h3:=h.p;unfold jR;refine ⟨by omega,by omega,by omega,fun i i0 i1=>h.eq i i0 (by omega),fun l1 l2=>?_⟩;have e:min (min p.bits q.bits) (iL p.addr.b.toList q.addr.b.toList) = iL p.addr.b.toList q.addr.b.toList:=by omega
 rw [e];refine h.ne ?_ ?_ <;> simp <;> omega
theorem comN_of {k:Bool} {p q:ae} (hp:okP k p) (hq:okP k q) {n:Int} (h0:0 ≤ n) (h1:n ≤ p.bits) (h2:n ≤ q.bits) (h3:∀ i:Int,0 ≤ i→i < n→dj p.addr.b.toList i = dj q.addr.b.toList i)
 (h4:n < p.bits→n < q.bits→dj p.addr.b.toList n ≠ dj q.addr.b.toList n):n = jR p q:=by
 obtain ⟨g0,g1,g2,g3,g4⟩:=qP hp hq
 rcases Int.lt_trichotomy n (jR p q) with h | h | h
 ·exact absurd (g3 n h0 h) (h4 (by omega) (by omega))
 ·exact h
 ·exact absurd (h3 _ g0 h) (g4 (by omega) (by omega))
theorem both_ok {k:Bool} {p q:ae} (hp:okP k p) (hq:okP k q):okP k (jJ p q):=by
 obtain ⟨g0,g1,g2,g3,g4⟩:=qP hp hq;have h1:=hp.nn;refine ⟨(eh _).2 ⟨g0,?_,fun i h3 h4=>?_⟩,hp.2⟩
 ·show jR p q ≤ wd (jJ p q).addr;have:wd (jJ p q).addr = wd p.addr:=rfl;omega
 ·have hi:jR p q ≤ i:=h3;show dj (fI (jR p q) p.addr.b).toList i = 0;rw [mask_bit _ _ _ (by omega) h4,if_neg (by omega)]
theorem pb_inj {k:Bool} {p q:ae} (hp:okP k p) (hq:okP k q) (h:pb p = pb q):p = q:=by
 have h1:=hp.nn;have h2:=hq.nn;have hb:p.bits = q.bits:=by
  have:=congrArg List.length h;simp at this;omega
 have hpre:=(oQ p q h1.1 h2.1).1 (by rw [h]; exact List.prefix_refl _);have hv:p.addr.b = q.addr.b:=bits_ext _ _ (fun i i0 i1=>by
  rcases Int.lt_or_le i p.bits with hi | hi
  ·exact hpre.2 i i0 hi
  ·rw [((eh p).1 hp.1).2.2 i hi i1,((eh q).1 hq.1).2.2 i (by omega) i1])
 have hk:p.addr.v6 = q.addr.v6:=hp.2.trans hq.2.symm;obtain ⟨⟨v1,b1⟩,n1⟩:=p;obtain ⟨⟨v2,b2⟩,n2⟩:=q;simp only at hb hv hk;subst hb hv hk
 rfl
theorem keyLaw (k:Bool):KeyLaw (okP k) pb jJ qh where
 inj:=fun p q hp hq h=>pb_inj hp hq h
 both:=fun p q hp hq=>by
  have hb:=both_ok hp hq;refine ⟨hb,?_⟩;obtain ⟨g0,g1,g2,g3,g4⟩:=qP hp hq;have h1:=hp.nn;have h2:=hq.nn;have hbit:∀ i:Int,0 ≤ i→i < jR p q→dj (jJ p q).addr.b.toList i = dj p.addr.b.toList i:=fun i i0 i1=>by
   show dj (fI (jR p q) p.addr.b).toList i = _;rw [mask_bit _ _ _ i0 (by omega),if_pos i1]
  have c1:pb (jJ p q) <+: pb p:=(oQ _ _ g0 h1.1).2 ⟨g1,hbit⟩;have c2:pb (jJ p q) <+: pb q:=(oQ _ _ g0 h2.1).2 ⟨g2,fun i i0 i1=>(hbit i i0 i1).trans (g3 i i0 i1)⟩;refine l0 (xc _ _ _ c1 c2) ?_;have l1:=(np (pb p) (pb q)).length_le;have l2:=(qG (pb p) (pb q)).length_le;rw [qA] at l1 l2 ⊢;show _ ≤ (jR p q).toNat
  rcases Nat.lt_or_ge (jR p q).toNat (lcp (pb p) (pb q)).length with hl | hl
  ·exfalso;have e1:=((wM _ _).1 (np (pb p) (pb q))).2 _ hl;have e2:=((wM _ _).1 (qG (pb p) (pb q))).2 _ hl;rw [e1,oR p _ (by omega),oR q _ (by omega)] at e2;have e:(((jR p q).toNat:Nat):Int) = jR p q:=by omega
   rw [e] at e2;exact g4 (by omega) (by omega) (qa.1 (Option.some.inj e2))
  ·exact hl
 bit:=fun p q hp hq hpre hne=>by
  have h1:=hp.nn;have h2:=hq.nn;have hlt:p.bits < q.bits:=by
   have:=((oQ p q h1.1 h2.1).1 hpre).1
   rcases Int.lt_or_le p.bits q.bits with h | h
   ·exact h
   ·exact absurd (l0 hpre (by simp; omega)) hne
  unfold qh nb;rw [qA,List.getD_eq_getElem?_getD,oR q _ (by omega)];have e:((p.bits.toNat:Nat):Int) = p.bits:=by omega
  rw [e]
  rfl
theorem oZ {k:Bool} {q p:ae} (hq:okP k q) (hp:okP k p):fb q p = true ↔ pb q <+: pb p:=by
 have h1:=hq.nn;have h2:=hp.nn;unfold fb;rw [oQ q p h1.1 h2.1,Bool.and_eq_true,Bool.and_eq_true,decide_eq_true_iff,decide_eq_true_iff,lL];constructor
 ·rintro ⟨⟨_,a⟩,_,_,_,b⟩;exact ⟨a,fun i i0 i1=>(b i i0 i1).symm⟩
 ·rintro ⟨a,b⟩;exact ⟨⟨hp.1,a⟩,hq.1,rL p hp.1,hp.2.trans hq.2.symm,fun i i0 i1=>(b i i0 i1).symm⟩
def ltP (q p:ae):Bool:=decide (q.bits < p.bits)
theorem covLaw (k:Bool):xJ (okP k) pb fb ltP where
 cov:=fun q p hq hp=>oZ hq hp
 lt:=fun q p hq hp=>by
  have h1:=hq.nn;have h2:=hp.nn;unfold ltP;rw [decide_eq_true_iff,qA,qA];omega
def full (a:aG):ae:=⟨a,wd a⟩
theorem su {a:aG} (h:cG a = 0):okP a.v6 (full a):=⟨(eh _).2 ⟨by have:=oo a; show 0 ≤ wd a; omega,Int.le_refl _,(jH a).1 h⟩,rfl⟩
theorem nA {p:ae} {a:aG} (h:cG a = 0):lM p a = true ↔ (okP a.v6 p ∧ pb p <+: pb (full a)):=by
 constructor
 ·intro hh;obtain ⟨h1,h2,h3,h4⟩:=(lL p a).1 hh;have ho:okP a.v6 p:=⟨h1,h3.symm⟩;have h5:=ho.nn;have h6:=(su h).nn;refine ⟨ho,(oQ _ _ h5.1 h6.1).2 ⟨?_,fun i i0 i1=>(h4 i i0 i1).symm⟩⟩;show p.bits ≤ wd a;have:wd a = wd p.addr:=by unfold wd; rw [h3]
  omega
 ·rintro ⟨ho,hpre⟩;have h5:=ho.nn;have h6:=(su h).nn;exact (lL p a).2 ⟨ho.1,h,ho.2.symm,fun i i0 i1=>(((oQ _ _ h5.1 h6.1).1 hpre).2 i i0 i1).symm⟩
end Go.Proofs.YtljifjflnakmoaaGreat.Tri
namespace Go.Proofs.YtljifjflnakmoaaGreat.Tri
open Go Go.Gx
structure av where
 p:ae
 v:Int
 has:Bool
 kids:(Vector OV 2)
def av.to:(ae × (Int × (Bool × (Vector OV 2))))→av:=fun x=>⟨x.1,x.2.1,x.2.2.1,x.2.2.2⟩
def av.of:av→(ae × (Int × (Bool × (Vector OV 2)))):=fun x=>(x.p,x.v,x.has,x.kids)
def bW:Enc av:=gI (bh aM (bh iE (bh bE (fN 2 (ovE bP))))) av.to av.of
def av.l_p:ah bW aM 0:=lI av.to av.of l1
@[simp] theorem av.get_p (x:av):av.l_p.get x = x.p:=rfl
@[simp] theorem av.set_p (x:av) (y:ae):av.l_p.set x y = { x with p:=y }:=rfl
def av.l_v:ah bW iE 18:=lI av.to av.of (l2 l1)
@[simp] theorem av.set_v (x:av) (y:Int):av.l_v.set x y = { x with v:=y }:=rfl
def av.rz:ah bW bE 19:=lI av.to av.of (l2 (l2 l1))
@[simp] theorem av.get_has (x:av):av.rz.get x = x.has:=rfl
@[simp] theorem av.set_has (x:av) (y:Bool):av.rz.set x y = { x with has:=y }:=rfl
def av.kJ:ah bW (fN 2 (ovE bP)) 20:=lI av.to av.of (l2 (l2 (l2 (ah.id _))))
@[simp] theorem av.get_kids (x:av):av.kJ.get x = x.kids:=rfl
@[simp] theorem av.set_kids (x:av) (y:(Vector OV 2)):av.kJ.set x y = { x with kids:=y }:=rfl
structure aZ where
 made:Bool
 n:Int
 roots:(Vector OV 2)
def aZ.to:(Bool × (Int × (Vector OV 2)))→aZ:=fun x=>⟨x.1,x.2.1,x.2.2⟩
def aZ.of:aZ→(Bool × (Int × (Vector OV 2))):=fun x=>(x.made,x.n,x.roots)
def dT:Enc aZ:=gI (bh bE (bh iE (fN 2 (ovE bP)))) aZ.to aZ.of
def aZ.xe:ah dT bE 0:=lI aZ.to aZ.of l1
@[simp] theorem aZ.get_made (x:aZ):aZ.xe.get x = x.made:=rfl
@[simp] theorem aZ.set_made (x:aZ) (y:Bool):aZ.xe.set x y = { x with made:=y }:=rfl
def aZ.l_n:ah dT iE 1:=lI aZ.to aZ.of (l2 l1)
@[simp] theorem aZ.get_n (x:aZ):aZ.l_n.get x = x.n:=rfl
@[simp] theorem aZ.set_n (x:aZ) (y:Int):aZ.l_n.set x y = { x with n:=y }:=rfl
def aZ.pS:ah dT (fN 2 (ovE bP)) 2:=lI aZ.to aZ.of (l2 (l2 (ah.id _)))
@[simp] theorem aZ.get_roots (x:aZ):aZ.pS.get x = x.roots:=rfl
@[simp] theorem aZ.set_roots (x:aZ) (y:(Vector OV 2)):aZ.pS.set x y = { x with roots:=y }:=rfl
inductive PT where
 | nil:PT
 | node:Nat→ae→Int→Bool→PT→PT→PT
def PT.adr:PT→Option Addr
 | .nil=>none
 | .node b _ _ _ _ _=>some ⟨b,0,none⟩
def PT.ptr (t:PT):OV:=⟨.pointer t.adr,rfl⟩
def PT.tr:PT→Tr ae
 | .nil=>.nil
 | .node _ p v h l r=>.node p v h l.tr r.tr
def kids (l r:PT):Vector OV 2:=#v[l.ptr,r.ptr]
def PT.kid (b:Bool) (l r:PT):PT:=bif b then r else l
def PT.At (w:World):PT→Prop
 | .nil=>True
 | .node b p v h l r=>cq bW w b 0 (⟨p,v,h,kids l r⟩:av) ∧ l.At w ∧ r.At w
theorem PT.At.cn {w w':World}:∀ {t:PT},t.At w→aJ dI w w'→t.At w'
 | .nil,_,_=>trivial
 | .node _ _ _ _ _ _,⟨h1,h2,h3⟩,k=>⟨h1.cn k,h2.cn k,h3.cn k⟩
def bI (b:Bool):Int:=bif b then 1 else 0
theorem uA (b:Bool):0 ≤ bI b ∧ bI b < 2:=by cases b <;> decide
theorem sk (l r:PT) (b:Bool) (h:(bI b).toNat < 2):(kids l r)[(bI b).toNat] = (PT.kid b l r).ptr:=by cases b <;> rfl
theorem PT.At.kid {w:World} {l r:PT} (hl:l.At w) (hr:r.At w) (b:Bool):(PT.kid b l r).At w:=by cases b <;> assumption
def PT.bare:PT→PT
 | .nil=>.nil
 | .node b p v h l r=>if h = true ∨ (l.adr.isNone = false ∧ r.adr.isNone = false) then .node b p v h l r else if l.adr.isNone = false then l else r
theorem PT.At.bare {w:World} {t:PT} (h:t.At w):t.bare.At w:=by
 cases t with
 | nil=>trivial
 | node b p v g l r =>
   simp only [PT.bare];split
   ·exact h
   ·split
    ·exact h.2.1
    ·exact h.2.2
def nodeV (p:ae) (v:Int) (h:Bool) (l r:PT):av:=⟨p,v,h,kids l r⟩
theorem bit_01 (b:List UInt8) (i:Int):((dj b i).toNat:Int) = bI (decide (dj b i = 1)):=by
 rcases xD b i with h | h <;> rw [h] <;> rfl
theorem bit_ok (a:aG) (i:Int) (w:World) (hi:0 ≤ i ∧ i < 128):Gx.Calls Tryz.prog 150 #[cz.val a,I i] w (bG w (I (bI (decide (dj a.b.toList i = 1))))):=by
 refine en0 16 Tryz.func150 (fun _ _=>?_);refine sg (cons (box (E:=cz) (.t rfl) (fun b1=>?_)));refine ac (I 0) ?_;refine nP (seq ?_);have h16:(i / 8).toNat < 16:=by omega
 have hq:0 ≤ (a.b[(i / 8).toNat].toNat:Int) / 2 ^ (7 - i % 8).toNat ∧ (a.b[(i / 8).toNat].toNat:Int) / 2 ^ (7 - i % 8).toNat ≤ 9223372036854775807:=by
  have hx:=a.b[(i / 8).toNat].toNat_lt;have e:((a.b[(i / 8).toNat].toNat:Int) / 2 ^ (7 - i % 8).toNat) = ((a.b[(i / 8).toNat].toNat / 2 ^ (7 - i % 8).toNat:Nat):Int):=by simp
  rw [e];have h1:=Nat.div_le_self a.b[(i / 8).toNat].toNat (2 ^ (7 - i % 8).toNat);have h2:∀ y:Nat,y ≤ 255→0 ≤ (y:Int) ∧ (y:Int) ≤ 9223372036854775807:=fun y hy=>by omega
  exact h2 _ (by omega)
 refine region (mv rfl (co (Ev.quo_n (.t rfl) (.c rfl) (fun _=>zo) (fun _=>zo) (fun _=>zo)) ?_));refine cf 1 rfl ?_;refine co (Ev.de Y79 ty5 (.t rfl) (.t rfl) (fun _=>zo)) ?_;refine co (Ev.ldv ty5 (.t rfl) (ah.comp aG.l_b (jd (n:=16) u8E _ (by omega)))) ?_;refine co (Ev.vX Y3 Y5 (.t rfl)) ?_;refine mv rfl (co (Ev.rem_n (.t rfl) (.c rfl) (fun _=>zo) (fun _=>zo)) ?_);refine co (Ev.jV (.c rfl) (.t rfl) (fun _=>zo)) ?_;refine co (Ev.shr_i (.t rfl) (.t rfl) (fun _=>zo)) ?_;refine co (Ev.and_n (.t rfl) (.c rfl) (fun _=>hq) (fun _=>by decide)) ?_;refine asn rfl (nP (ret (dn rfl rfl ?_)));refine congrArg I ?_;rw [← bit_01];have e:((a.b[(i / 8).toNat].toNat:Int) / 2 ^ (7 - i % 8).toNat) = ((a.b[(i / 8).toNat].toNat / 2 ^ (7 - i % 8).toNat:Nat):Int):=by simp
 have e3:(1:Int).toNat = 1:=rfl;rw [jj,ku _ _ h16,e3,Nat.and_one_is_mod];unfold bn;show (((((a.b[(i / 8).toNat].toNat:Int) / 2 ^ (7 - i % 8).toNat)).toNat % 2:Nat):Int) = _;rw [e,Int.toNat_natCast]
theorem kind_ok (a:aG) (w:World):Gx.Calls Tryz.prog 120 #[cz.val a] w (bG w (I (bI a.v6))):=by
 refine en0 5 Tryz.func120 (fun _ _=>?_);refine sg (cons (box (E:=cz) (.t rfl) (fun b1=>?_)));refine ac (I 0) ?_;refine nP (seq (sg (cf 0 rfl ?_)));refine co (Ev.ldx a.v6 ty4 (.t rfl) aG.jP) ?_;refine nP ?_;refine cnq rfl (fun h0=>?_) (fun h0=>?_)
 ·try simp only [nb] at h0
  refine sg (ac (I 1) ?_);refine nP (ret (pR (dn rfl rfl ?_)));rw [h0]; rfl
 ·try simp only [nb] at h0
  refine skip (pN (sg (ac (I 0) ?_)));refine nP (ret (dn rfl rfl ?_));rw [h0]; rfl
def ofE (a:aG) (n:Int):Int:=if cG a ≠ 0 then cG a else if n < 0 ∨ wd a < n then 151 else 0
def ofV (a:aG) (n:Int):ae:=if ofE a n = 0 then ⟨⟨a.v6,fI n a.b⟩,n⟩ else aM.zero
theorem masked_g (a:aG) (n:Int) (w:World) (hn:0 ≤ n ∧ n ≤ 128) (z:Vector UInt8 16) (hz:fI n a.b = z):Gx.Calls Tryz.prog 118 #[cz.val a,I n] w (bG w (cz.val { a with b:=z })):=by
 subst hz;exact qD a n w hn
theorem tA (a:aG) (n:Int) (w:World):Gx.Calls Tryz.prog 153 #[cz.val a,I n] w (bG w (.tuple #[aM.val (ofV a n),I (ofE a n)])):=by
 refine en0 27 Tryz.func153 (fun _ _=>?_);refine sg (cons (box (E:=cz) (.t rfl) (fun b1=>?_)));refine cons (alloc mI (fun b2=>?_));refine ac (I 0) ?_;refine nP (seq (sg (co (Ev.ldx a eM (.t rfl) (ah.id _)) ?_)));refine cons (aQ eN (o1 rfl) (fun w I=>n8 _ w) ?_);refine asn rfl (nP (sg (mv rfl (co (Ev.dS (.t rfl) (.c rfl)) ?_))));refine nP ?_;refine cnq rfl (fun h0=>?_) (fun h0=>?_)
 ·try simp only [nb] at h0
  refine sg (co (Ev.bu (fs:=_) (places:=[(0,17),(17,1)]) mI rfl Y107 zk .nil ay.nil) ?_);refine mv rfl (cons (stv cB (ah.id _) (.t rfl) (.t rfl) ?_));refine asn rfl (nP (ret (pR (done rfl (.cellP rfl cB (br zm (ah.id _)) (.tmp rfl .nil)) (gD ?_)))));have hc:cG a ≠ 0:=h0;have e1:ofE a n = cG a:=by unfold ofE; rw [if_pos hc]
  have e2:ofV a n = aM.zero:=by unfold ofV; rw [e1,if_neg hc]
  rw [e1,e2]; rfl
 ·try simp only [nb] at h0
  refine skip (pN (seq (sg (mv rfl (co (Ev.cj (.t rfl) (.c rfl)) ?_)))));refine mv rfl (cg rfl rfl (Ev.move (.t rfl)) ?_);refine cg rfl rfl (Ev.ldx a eM (.t rfl) (ah.id _)) ?_;refine cons (iM rfl rfl eN (.cons (.g rfl id) .nil) (fun hg w I=>sJ _ w) ?_);refine cg rfl rfl (Ev.ir (.g rfl id) (.g rfl id)) ?_;refine co (Ev.pkO (.t rfl) rfl) ?_;refine nP ?_;refine cnq rfl (fun h1=>?_) (fun h1=>?_)
  ·refine sg (co (Ev.bu (fs:=_) (places:=[(0,17),(17,1)]) mI rfl Y107 zk .nil ay.nil) ?_);refine cons (stv cB (ah.id _) (.t rfl) (.t rfl) ?_);refine ac (I 151) ?_;refine nP (ret (pR (done rfl (.cellP rfl cB (br zm (ah.id _)) (.tmp rfl .nil)) (gD ?_))));have hc:cG a = 0:=Decidable.not_not.1 h0;have hb:n < 0 ∨ wd a < n:=by simpa using h1
   have e1:ofE a n = 151:=by unfold ofE; rw [if_neg (by rw [hc]; decide),if_pos hb]
   have e2:ofV a n = aM.zero:=by unfold ofV; rw [e1,if_neg (by decide)]
   rw [e1,e2]; rfl
  ·refine skip (pN (seq ?_));obtain ⟨z,hz⟩:∃ z,fI n a.b = z:=⟨_,rfl⟩;refine region (co (Ev.ldx a eM (.t rfl) (ah.id _)) ?_);refine mv rfl (cons (aQ eN (o2 rfl rfl) (fun w I=>masked_g _ _ w (by have:=oo a; simp at h1; omega) z hz) ?_));refine mv rfl (co (Ev.bu (fs:=_) (places:=[(0,17),(17,1)]) mI rfl Y107 zk (.cons (.t rfl) (.cons (.t rfl) .nil)) (ay.cons ae.eH rfl (ay.cons ae.fj rfl ay.nil))) ?_);refine cons (stv cB (ah.id _) (.t rfl) (.t rfl) ?_);refine ac (I 0) ?_;refine nP (ret (done rfl (.cellP rfl cB (br zm (ah.id _)) (.tmp rfl .nil)) (gD ?_)));have hc:cG a = 0:=Decidable.not_not.1 h0;have hb:¬ (n < 0 ∨ wd a < n):=by simpa using h1
   have e1:ofE a n = 0:=by unfold ofE; rw [if_neg (by rw [hc]; decide),if_neg hb]
   have e2:ofV a n = ⟨⟨a.v6,fI n a.b⟩,n⟩:=by unfold ofV; rw [e1,if_pos rfl]
   rw [e1,e2,hz]; rfl
theorem of_g (a:aG) (n:Int) (w:World) (x:ae) (e:Int) (hx:ofV a n = x) (he:ofE a n = e):Gx.Calls Tryz.prog 153 #[cz.val a,I n] w (bG w (.tuple #[aM.val x,I e])):=by
 subst hx he;exact tA a n w
theorem bI_inj {a b:Bool} (h:bI a = bI b):a = b:=by cases a <;> cases b <;> first | rfl | cases h
theorem both_ok_c (k:Bool) (p q:ae) (w:World) (hp:okP k p) (hq:okP k q):Gx.Calls Tryz.prog 149 #[aM.val p,aM.val q] w (bG w (aM.val (jJ p q))):=by
 have h1:=hp.nn;have h2:=hq.nn;refine en0 39 Tryz.func149 (fun _ _=>?_);refine sg (cons (box (E:=aM) (.t rfl) (fun b1=>?_)));refine cons (box (E:=aM) (.t rfl) (fun b2=>?_));refine cons (alloc mI (fun b3=>?_));refine nP (sg (ac (I 0) ?_));refine nP (seq (block (lp (X:=Int) (fun x=>(0 ≤ x ∧ x ≤ p.bits ∧ x ≤ q.bits) ∧ (∀ i:Int,0 ≤ i→i < x→dj p.addr.b.toList i = dj q.addr.b.toList i)) (fun x=>[dz,(2,true,pvb b1),(3,true,pvb b2),(4,true,pvb b3),(5,true,I x)]) (fun x=>[Var b3 aM aM.zero 107,Var b2 aM q 107,Var b1 aM p 107]) (fun x=>(p.bits - x).toNat) (0) ⟨?_,?_⟩ (fun x hx=>?_))))
 ·omega
 ·intro i h1 h2; omega
 obtain ⟨n,rfl⟩:∃ y,y = x:=⟨x,rfl⟩;obtain ⟨hn,hs⟩:(0 ≤ n ∧ n ≤ p.bits ∧ n ≤ q.bits) ∧ (∀ i:Int,0 ≤ i→i < n→dj p.addr.b.toList i = dj q.addr.b.toList i):=hx;refine seq (seq (dA zk ?_));refine tm 0 rfl rfl ?_;refine tk 1 rfl (fA 17 (.t rfl)) ?_;refine tk 2 rfl (Ev.ldx p.bits ty3 (.t rfl) ae.fj) ?_;refine tk 3 rfl (Ev.cj (.t rfl) (.t rfl)) ?_;refine tm 4 rfl rfl ?_;refine tkg 5 rfl rfl rfl (Ev.move (.t rfl)) ?_;refine tkg 6 rfl rfl rfl (fA 17 (.t rfl)) ?_;refine tkg 7 rfl rfl rfl (Ev.ldx q.bits ty3 (.g rfl id) ae.fj) ?_;refine tkg 8 rfl rfl rfl (Ev.cj (.g rfl id) (.g rfl id)) ?_;refine tk 9 rfl (Ev.pkA (.t rfl) rfl) ?_;refine tm 10 rfl rfl ?_;refine tkg 11 rfl rfl rfl (fA 0 (.t rfl)) ?_;refine tkg 12 rfl rfl rfl (Ev.ldx p.addr eM (.g rfl id) ae.eH) ?_;refine tkg 13 rfl rfl rfl (Ev.move (.t rfl)) ?_;refine tkg 15 rfl rfl rfl (fA 0 (.t rfl)) ?_;refine tkg 16 rfl rfl rfl (Ev.ldx q.addr eM (.g rfl id) ae.eH) ?_;refine tkg 17 rfl rfl rfl (Ev.move (.t rfl)) ?_;refine al1 14 rfl ((iM rfl rfl eN (.cons (.g rfl id) (.cons (.g rfl id) .nil)) (fun hg w I=>bit_ok _ _ w (by simp at hg; omega)) ?_));refine hdn (al1 18 rfl ((iM rfl rfl eN (.cons (.g rfl id) (.cons (.g rfl id) .nil)) (fun hg w I=>bit_ok _ _ w (by simp at hg; omega)) ?_)));refine hdn (tkg 19 rfl rfl rfl (Ev.dO (.g rfl id) (.g rfl id)) ?_);refine tk 20 rfl (Ev.pkA (.t rfl) rfl) ?_;refine ovr (pN ?_);refine cnq rfl (fun h0=>?_) (fun h0=>?_)
 ·have hc:n < p.bits ∧ n < q.bits ∧ bI (decide (dj p.addr.b.toList n = 1)) = bI (decide (dj q.addr.b.toList n = 1)):=by simpa [and_assoc] using h0
  have hbit:dj p.addr.b.toList n = dj q.addr.b.toList n:=qa.1 (bI_inj hc.2.2);refine skip (pN (block (region (mv rfl (co (Ev.bL (.t rfl) (.c rfl) (fun _=>zo)) ?_)))));refine asn rfl (nil (bN (pN (nx (n + 1) ⟨?_,?_⟩ ?_))))
  ·try dsimp only
   omega
  ·try dsimp only
   intro i i0 i1
   by_cases e:i < n
   ·exact hs i i0 e
   ·obtain rfl:i = n:=by omega
    exact hbit
  ·try dsimp only
   omega
 ·have hc:n < p.bits→n < q.bits→¬ bI (decide (dj p.addr.b.toList n = 1)) = bI (decide (dj q.addr.b.toList n = 1)):=by simpa using h0
  obtain rfl:n = jR p q:=comN_of hp hq hn.1 hn.2.1 hn.2.2 hs (fun l1 l2 e=>hc l1 l2 (by rw [qa.2 e]));have eE:ofE p.addr (jR p q) = 0:=by unfold ofE; rw [if_neg (by rw [rL p hp.1]; decide),if_neg (by omega)]
  have eV:ofV p.addr (jR p q) = jJ p q:=by unfold ofV; rw [eE,if_pos rfl]; rfl
  obtain ⟨z,hz⟩:∃ z,jJ p q = z:=⟨_,rfl⟩;refine exit (pX (pX (bX (pN (sg (cf 0 rfl ?_))))));refine co (Ev.ldx p.addr eM (.t rfl) ae.eH) ?_;refine mv rfl (cons (aQ eN (o2 rfl rfl) (fun w I=>of_g _ _ w z 0 (eV.trans hz) eE) ?_));refine mv rfl (cx rfl rfl (cx rfl rfl (cons (alloc mI (fun b4=>?_)))));refine cons (stv cB (ah.id _) (.t rfl) (.t rfl) ?_);refine asn rfl (nP (sg (co (Ev.ldv cB (.t rfl) (ah.id _)) ?_)));refine cons (stv cB (ah.id _) (.t rfl) (.t rfl) ?_);refine nP (ret (done rfl (.cellP rfl cB (br zm (ah.id _)) .nil) (gD ?_)));rw [hz]; first | rfl | (simp; done)
end Go.Proofs.YtljifjflnakmoaaGreat.Tri
namespace Go.Proofs.YtljifjflnakmoaaGreat.Tri
open Go Go.Gx
theorem eT {α:Type} {E:Enc α} {w:World} {b:Nat} {x:α} {T:TypeId} {Rs:List Res} (h:∀ r ∈ Rs,r.A w) (hm:Var b E x T ∈ Rs):cq E w b 0 x:=gE (h _ hm)
theorem Rem.app {r:Res} {L M:List Res} (k:List Res) (h:Rem L r M):Rem (k ++ L) r (k ++ M):=by
 obtain ⟨A,C,rfl,rfl⟩:=h;exact ⟨k ++ A,C,by simp,by simp⟩
theorem we (a:aG) (i:Int) (w:World) (hi:0 ≤ i ∧ i < 128) (z:Bool) (hz:decide (dj a.b.toList i = 1) = z):Gx.Calls Tryz.prog 150 #[cz.val a,I i] w (bG w (I (bI z))):=by
 subst hz;exact bit_ok a i w hi
theorem both_g (k:Bool) (p q:ae) (w:World) (hp:okP k p) (hq:okP k q) (z:ae) (hz:jJ p q = z):Gx.Calls Tryz.prog 149 #[aM.val p,aM.val q] w (bG w (aM.val z)):=by
 subst hz;exact both_ok_c k p q w hp hq
def PutJ (t:PT) (R:Tr ae) (x:PT × List Res):Prop:=x.1.tr = R ∧ ∀ w1,t.At w1→(∀ r ∈ x.2,r.A w1)→x.1.At w1
theorem eqb_no {q p:ae} (h:ae.eqb q p = false):q ≠ p:=fun e=>by
 rw [(ae.bJ q p).2 e] at h;cases h
theorem wF {x y:ae} {b:Bool} {k:Bool} (hx:okP k x) (hy:okP k y) (h:pb x ++ [b] <+: pb y):0 ≤ x.bits ∧ x.bits < 128:=by
 have h1:=h.length_le;have h2:=hx.nn;have h3:=hy.nn;simp at h1;omega
abbrev jz (p:ae) (v:Int) (t:Tr ae):Tr ae × Bool:=t.put jJ qh p v
theorem kid_wf {k:Bool} {q:ae} {l r:PT} (hl:l.tr.WF (okP k) pb (pb q ++ [false])) (hr:r.tr.WF (okP k) pb (pb q ++ [true])) (b:Bool):(PT.kid b l r).tr.WF (okP k) pb (pb q ++ [b]):=by cases b <;> assumption
theorem z277:zI 277 bW:=kI
theorem put_nil (p:ae) (v:Int) (w:World):Gx.Calls Tryz.prog 121 #[.pointer none,aM.val p,I v] w (gL w (PutJ .nil (jz p v .nil).1) (fun x=>.tuple #[x.1.ptr.v,.bool (jz p v .nil).2]) (fun x=>x.2)):=by
 refine en0 132 Tryz.func121 (fun _ _=>?_);refine sg (cons (box (E:=aM) (.t rfl) (fun b1=>?_)));refine ac (.pointer none) ?_;refine ac (.bool false) ?_;refine nP (seq (sg (mv rfl (co (Ev.eql_p Y247 (.t rfl) (.c rfl)) ?_))));refine nP (condT rfl (rfl) ?_);refine sg (co (Ev.ldv cB (.t rfl) (ah.id _)) ?_);refine mv rfl (co (Ev.bu (fs:=_) (places:=[(0,18),(18,1),(19,1),(20,2)]) z277 rfl Y277 zk (.cons (.t rfl) (.cons (.t rfl) (.cons (.c (v:=.bool true) rfl) .nil))) (ay.cons av.l_p rfl (ay.cons av.l_v rfl (ay.cons av.rz rfl ay.nil)))) ?_);refine cons (box (E:=bW) (.t rfl) (fun b2=>?_));refine asn rfl (ac (.bool true) ?_);refine nP (ret (pR (done rfl (.tmp rfl (.tmp rfl .nil)) (fun w I=>?_))));exact ft (PT.node b2 p v true .nil .nil,[Var b2 bW (⟨p,v,true,kids .nil .nil⟩:av) 277]) ⟨rfl,fun w1 _ h=>⟨eT (T:=277) h (by simp),trivial,trivial⟩⟩ rfl zp w I
theorem ty248:tyI 248 (fN 2 (ovE bP)):=tyP
theorem ty277:tyI 277 bW:=tyP
theorem fX:tyI 247 (ovE bP):=tyP
theorem put_node (k:Bool) (p:ae) (v:Int) (hp:okP k p) (b:Nat) (q:ae) (u:Int) (h:Bool) (l r:PT) (c:List Bool) (w:World) (hat:(PT.node b q u h l r).At w) (hw:(PT.node b q u h l r).tr.WF (okP k) pb c) (hc:c <+: pb p) (ih:∀ bb c' w',(PT.kid bb l r).At w'→(PT.kid bb l r).tr.WF (okP k) pb c'→c' <+: pb p→Gx.Calls Tryz.prog 121 #[(PT.kid bb l r).ptr.v,aM.val p,I v] w' (gL w' (PutJ (PT.kid bb l r) (jz p v (PT.kid bb l r).tr).1) (fun x=>.tuple #[x.1.ptr.v,.bool (jz p v (PT.kid bb l r).tr).2]) (fun x=>x.2))):Gx.Calls Tryz.prog 121 #[.pointer (some ⟨b,0,none⟩),aM.val p,I v] w (gL w (PutJ (PT.node b q u h l r) (jz p v (.node q u h l.tr r.tr)).1) (fun x=>.tuple #[x.1.ptr.v,.bool (jz p v (.node q u h l.tr r.tr)).2]) (fun x=>x.2)):=by
 have hq:okP k q:=hw.1;refine en0 132 Tryz.func121 (fun _ _=>?_);refine sg (cons (box (E:=aM) (.t rfl) (fun b1=>?_)));refine ac (.pointer none) ?_;refine ac (.bool false) ?_;refine nP (seq (sg (mv rfl (co (Ev.eql_p Y247 (.t rfl) (.c rfl)) ?_))));refine nP (fL rfl (rfl) ?_);refine skip (pN (seq (seq (dA zk ?_))));refine tm 0 rfl rfl ?_;refine tn 1 rfl rfl ?_;refine tk 2 rfl (fA 0 (.t rfl)) ?_;refine tk 3 rfl (Ev.load cB (.t rfl) (c9 (fun w I=>(hat.1).cn I.keeps) av.l_p)) ?_;refine tk 4 rfl (Ev.ldv cB (.t rfl) (ah.id _)) ?_;refine tk 5 rfl (Ev.eqlS rfl nY rfl zk (.t rfl) (.t rfl)) ?_;refine ovr (pN ?_);refine cnq rfl (fun h1=>?_) (fun h1=>?_)
 ·have hqp:q = p:=(ae.bJ _ _).1 h1;refine seq (dA zk ?_);refine tk 0 rfl (Ev.ldv cB (.t rfl) (ah.id _)) ?_;refine tm 1 rfl rfl ?_;refine tm 2 rfl rfl ?_;refine tn 3 rfl rfl ?_;refine tk 4 rfl (fA 20 (.t rfl)) ?_;refine tk 5 rfl (Ev.load ty248 (.t rfl) (c9 (fun w I=>(hat.1).cn I.keeps) av.kJ)) ?_;refine tk 6 rfl (Ev.bu (fs:=_) (places:=[(0,18),(18,1),(19,1),(20,2)]) z277 rfl Y277 zk (.cons (.t rfl) (.cons (.t rfl) (.cons (.c (v:=.bool true) rfl) (.cons (.t rfl) .nil)))) (ay.cons av.l_p rfl (ay.cons av.l_v rfl (ay.cons av.rz rfl (ay.cons av.kJ rfl ay.nil))))) ?_;refine tm 8 rfl rfl ?_;refine tn 9 rfl rfl ?_;refine tk 10 rfl (fA 19 (.t rfl)) ?_;refine tk 11 rfl (Ev.load ty4 (.t rfl) (c9 (fun w I=>(hat.1).cn I.keeps) av.rz)) ?_;refine tk 12 rfl (Ev.not (.t rfl)) ?_;refine al1 7 rfl ((box (E:=bW) (.t rfl) (fun b2=>?_)));refine hdn (tk 13 rfl (Ev.assign (.t rfl)) ?_);refine tk 14 rfl (Ev.assign (.t rfl)) ?_;refine ovr (pN (ret (pR (done rfl (.tmp rfl (.tmp rfl .nil)) (fun w I=>?_)))));have ep:jz p v (.node q u h l.tr r.tr) = (.node p v true l.tr r.tr,!h):=by show Tr.put _ _ _ _ _ = _; rw [Tr.put,if_pos hqp]
  exact ft (PT.node b2 p v true l r,[Var b2 bW (⟨p,v,true,kids l r⟩:av) 277]) ⟨by rw [ep]; rfl,fun w1 ho hh=>⟨eT (T:=277) hh (by simp),ho.2.1,ho.2.2⟩⟩ (by rw [ep]; rfl) zp w I
 ·have hqp:q ≠ p:=eqb_no h1;obtain ⟨c0,hc0⟩:∃ z,jJ q p = z:=⟨_,rfl⟩;have hway:=(keyLaw k).ways hq hp hqp;refine skip (pN (seq (dA zk ?_)));refine tm 0 rfl rfl ?_;refine tn 1 rfl rfl ?_;refine tk 2 rfl (fA 0 (.t rfl)) ?_;refine tk 3 rfl (Ev.load cB (.t rfl) (c9 (fun w I=>(hat.1).cn I.keeps) av.l_p)) ?_;refine tk 4 rfl (Ev.ldv cB (.t rfl) (ah.id _)) ?_;refine all [5,6] zk (by decide) (.cons rfl ?_ (.cons rfl ?_ .nil))
  ·refine (aQ eN (o2 rfl rfl) (fun w I=>both_g k q p w hq hp c0 hc0) ?_);refine hdn (al1 6 rfl ((alloc mI (fun b3=>?_))));exact s0
  ·refine (alloc mI (fun b9=>?_));refine hdn (al1 5 rfl ((aQ eN (o2 rfl rfl) (fun w I=>both_g k q p w hq hp c0 hc0) ?_)));exact s0
theorem put_ok (k:Bool) (p:ae) (v:Int) (hp:okP k p):∀ (t:PT) (c:List Bool) (w:World),t.At w→t.tr.WF (okP k) pb c→c <+: pb p→Gx.Calls Tryz.prog 121 #[t.ptr.v,aM.val p,I v] w (gL w (PutJ t (jz p v t.tr).1) (fun x=>.tuple #[x.1.ptr.v,.bool (jz p v t.tr).2]) (fun x=>x.2))
 | .nil,_,w,_,_,_=>put_nil p v w
 | .node b q u h l r,c,w,hat,hw,hc=>put_node k p v hp b q u h l r c w hat hw hc (fun bb c' w' h1 h2 h3=>by
   cases bb with
   | true=>exact put_ok k p v hp r c' w' h1 h2 h3
   | false=>exact put_ok k p v hp l c' w' h1 h2 h3)
end Go.Proofs.YtljifjflnakmoaaGreat.Tri
namespace Go.Proofs.YtljifjflnakmoaaGreat.Tri
open Go Go.Gx
def KL (b:Bool) (l n:PT):PT:=bif b then l else n
def KR (b:Bool) (n r:PT):PT:=bif b then n else r
abbrev cutT (p:ae) (t:Tr ae):Tr ae:=t.cut qh p
end Go.Proofs.YtljifjflnakmoaaGreat.Tri
namespace Go.Proofs.YtljifjflnakmoaaGreat.Tri
open Go Go.Gx
structure Tt where
 b:Nat
 made:Bool
 n:Int
 l:PT
 r:PT
def Tt.ptr (t:Tt):OV:=⟨.pointer (some ⟨t.b,0,none⟩),rfl⟩
def Tt.val (t:Tt):aZ:=⟨t.made,t.n,kids t.l t.r⟩
def Tt.At (w:World) (t:Tt):Prop:=cq dT w t.b 0 t.val ∧ t.l.At w ∧ t.r.At w
theorem Tt.At.cn {w w':World} {t:Tt} (h:t.At w) (k:aJ dI w w'):t.At w':=⟨h.1.cn k,h.2.1.cn k,h.2.2.cn k⟩
def Tt.bK (t:Tt):List (ae × Int):=t.l.tr.bK ++ t.r.tr.bK
structure Tt.OK (t:Tt):Prop where
 made:t.made = true
 n:t.n = t.bK.length
 l:t.l.tr.WF (okP false) pb []
 r:t.r.tr.WF (okP true) pb []
theorem Tt.OK.kid {t:Tt} (h:t.OK) (k:Bool):(PT.kid k t.l t.r).tr.WF (okP k) pb []:=by cases k; exact h.l; exact h.r
theorem Tt.At.kid {w:World} {t:Tt} (h:t.At w) (k:Bool):(PT.kid k t.l t.r).At w:=PT.At.kid h.2.1 h.2.2 k
theorem pb_keys {k:Bool} {t:Tr ae} {c:List Bool} (h:t.WF (okP k) pb c):(t.bK.map (·.1)).Nodup:=by
 have h1:=h.ents_sorted;rw [List.nodup_iff_pairwise_ne,List.pairwise_map];exact h1.imp (fun {a b} hab e=>by rw [e,ltB_irr] at hab; cases hab)
theorem Tt.OK.nodup {t:Tt} (h:t.OK):(t.bK.map (·.1)).Nodup:=by
 unfold Tt.bK;rw [List.map_append,List.nodup_append];refine ⟨pb_keys h.l,pb_keys h.r,fun a ha b hb e=>?_⟩;obtain ⟨x,hx,rfl⟩:=List.mem_map.1 ha;obtain ⟨y,hy,rfl⟩:=List.mem_map.1 hb;have h1:=(h.l.ia x hx).1.2;have h2:=(h.r.ia y hy).1.2;rw [e,h2] at h1;cases h1
theorem Tt.OK.mem {t:Tt} (h:t.OK) (x:ae × Int):x ∈ t.bK ↔ x ∈ (PT.kid x.1.addr.v6 t.l t.r).tr.bK:=by
 unfold Tt.bK;rw [List.mem_append];constructor
 ·rintro (hx | hx)
  ·rw [(h.l.ia x hx).1.2]; exact hx
  ·rw [(h.r.ia x hx).1.2]; exact hx
 ·intro hx;cases hv:x.1.addr.v6 with
  | false=>rw [hv] at hx; exact .inl hx
  | true=>rw [hv] at hx; exact .inr hx
theorem Tt.OK.mem_k {t:Tt} (h:t.OK) (k:Bool) (x:ae × Int):x ∈ (PT.kid k t.l t.r).tr.bK ↔ (x ∈ t.bK ∧ x.1.addr.v6 = k):=by
 constructor
 ·intro hx;have e:=((h.kid k).ia x hx).1.2;exact ⟨(h.mem x).2 (by rw [e]; exact hx),e⟩
 ·rintro ⟨hx,rfl⟩;exact (h.mem x).1 hx
theorem oD {l:List (ae × Int)} (h:(l.map (·.1)).Nodup):l.Nodup:=by
 rw [List.nodup_iff_pairwise_ne,List.pairwise_map] at h;rw [List.nodup_iff_pairwise_ne];exact h.imp (fun {a b} hab e=>hab (by rw [e]))
theorem xb {l m:List (ae × Int)} (hl:(l.map (·.1)).Nodup) (hm:(m.map (·.1)).Nodup) {p:ae} {v:Int} (h:∀ x,x ∈ m ↔ (x = (p,v) ∨ (x ∈ l ∧ x.1 ≠ p))) :
 ((∀ x ∈ l,x.1 ≠ p)→m.length = l.length + 1) ∧ ((∃ x ∈ l,x.1 = p)→m.length = l.length):=by
 constructor
 ·intro hn;have hp:m.Perm ((p,v) :: l):=(List.perm_ext_iff_of_nodup (oD hm) (List.nodup_cons.2 ⟨fun hx=>hn _ hx rfl,oD hl⟩)).2 (fun x=>by
   rw [h,List.mem_cons];exact ⟨fun g=>g.imp id (·.1),fun g=>g.imp id (fun g=>⟨g,hn x g⟩)⟩)
  simpa using hp.length_eq
 ·rintro ⟨y,hy,hyp⟩;have hp:(m.map (·.1)).Perm (l.map (·.1)):=(List.perm_ext_iff_of_nodup hm hl).2 (fun q=>by
   simp only [List.mem_map];constructor
   ·rintro ⟨x,hx,rfl⟩
    rcases (h x).1 hx with rfl | ⟨hx,_⟩
    ·exact ⟨y,hy,hyp⟩
    ·exact ⟨x,hx,rfl⟩
   ·rintro ⟨x,hx,rfl⟩
    by_cases e:x.1 = p
    ·exact ⟨(p,v),(h _).2 (.inl rfl),e.symm⟩
    ·exact ⟨x,(h x).2 (.inr ⟨hx,e⟩),rfl⟩)
  simpa using hp.length_eq
def pO (e:Int) (b:Nat):Option Addr:=if e = 0 then some ⟨b,0,none⟩ else none
def TputJ (t:Tt) (p:ae) (v:Int) (x:Tt × List Res):Prop:=cN p = 0→(x.1.OK ∧ (∀ y,y ∈ x.1.bK ↔ (y = (p,v) ∨ (y ∈ t.bK ∧ y.1 ≠ p))) ∧ ∀ w1,t.At w1→(∀ r ∈ x.2,r.A w1)→x.1.At w1)
def Tt.swap (t:Tt) (b:Nat) (n:Int) (k:Bool) (x:PT):Tt:=⟨b,t.made,n,bif k then t.l else x,bif k then x else t.r⟩
theorem Tt.vg (t:Tt) (b:Nat) (n:Int) (k:Bool) (x:PT) (h:(bI k).toNat < 2):(kids t.l t.r).set (bI k).toNat x.ptr h = kids (t.swap b n k x).l (t.swap b n k x).r:=by cases k <;> rfl
theorem Tt.swap_at {w:World} {t:Tt} {b:Nat} {n:Int} {k:Bool} {x:PT} (h:t.At w) (hx:x.At w) (hb:cq dT w b 0 (t.swap b n k x).val):(t.swap b n k x).At w:=⟨hb,by cases k; exact hx; exact h.2.1,by cases k; exact h.2.2; exact hx⟩
theorem Tt.wB {t:Tt} (h:t.OK) {k:Bool} {x:PT} {b:Nat} {n:Int} (hx:x.tr.WF (okP k) pb []) (hn:n = (t.swap b n k x).bK.length):(t.swap b n k x).OK:=⟨h.made,hn,by cases k; exact hx; exact h.l,by cases k; exact h.r; exact hx⟩
theorem Tt.swap_mem {t:Tt} (h:t.OK) {k:Bool} {x:PT} {b:Nat} {n:Int} (hx:x.tr.WF (okP k) pb []) (y:ae × Int):y ∈ (t.swap b n k x).bK ↔ ((y.1.addr.v6 = k ∧ y ∈ x.tr.bK) ∨ (y.1.addr.v6 ≠ k ∧ y ∈ t.bK)):=by
 have hk:∀ {z:Tr ae} {j:Bool},z.WF (okP j) pb []→y ∈ z.bK→y.1.addr.v6 = j:=fun hz hy=>(hz.ia y hy).1.2
 cases k with
 | false =>
   show y ∈ x.tr.bK ++ t.r.tr.bK ↔ _;unfold Tt.bK;rw [List.mem_append,List.mem_append];constructor
   ·rintro (hy | hy)
    ·exact .inl ⟨hk hx hy,hy⟩
    ·exact .inr ⟨by rw [hk h.r hy]; decide,.inr hy⟩
   ·rintro (hy | ⟨hn,hy | hy⟩)
    ·exact .inl hy.2
    ·exact absurd (hk h.l hy) hn
    ·exact .inr hy
 | true =>
   show y ∈ t.l.tr.bK ++ x.tr.bK ↔ _;unfold Tt.bK;rw [List.mem_append,List.mem_append];constructor
   ·rintro (hy | hy)
    ·exact .inr ⟨by rw [hk h.l hy]; decide,.inl hy⟩
    ·exact .inl ⟨hk hx hy,hy⟩
   ·rintro (hy | ⟨hn,hy | hy⟩)
    ·exact .inr hy.2
    ·exact .inl hy
    ·exact absurd (hk h.r hy) hn
theorem Tt.put_mem {t:Tt} (h:t.OK) {p:ae} {v:Int} {x:PT} {b:Nat} {n:Int} (hx:x.tr.WF (okP p.addr.v6) pb []) (hm:∀ y,y ∈ x.tr.bK ↔ (y = (p,v) ∨ (y ∈ (PT.kid p.addr.v6 t.l t.r).tr.bK ∧ y.1 ≠ p))) (y:ae × Int) :
 y ∈ (t.swap b n p.addr.v6 x).bK ↔ (y = (p,v) ∨ (y ∈ t.bK ∧ y.1 ≠ p)):=by
 rw [Tt.swap_mem h hx,hm,h.mem_k];constructor
 ·rintro (⟨h1,h2 | h2⟩ | ⟨h1,h2⟩)
  ·exact .inl h2
  ·exact .inr ⟨h2.1.1,h2.2⟩
  ·exact .inr ⟨h2,fun e=>h1 (by rw [e])⟩
 ·rintro (h2 | ⟨h2,h3⟩)
  ·exact .inl ⟨by rw [h2],.inl h2⟩
  ·by_cases e:y.1.addr.v6 = p.addr.v6
   ·exact .inl ⟨e,.inr ⟨⟨h2,e⟩,h3⟩⟩
   ·exact .inr ⟨e,h2⟩
theorem there_ok (t:Tt) (w:World) (ht:cq dT w t.b 0 t.val):Gx.Calls Tryz.prog 119 #[.pointer (some ⟨t.b,0,none⟩)] w (bG w (.bool t.made)):=by
 refine en0 11 Tryz.func119 (fun _ _=>?_);refine sg (ac (.bool false) ?_);refine nP (sg (mv rfl (co (Ev.tB Tryz.underlying127 (.t rfl) (.c rfl)) ?_)));refine mv rfl (cg rfl rfl (Ev.move (.t rfl)) ?_);refine cg rfl rfl (Ev.nilCheck (.g rfl id)) ?_;refine cg rfl rfl (fA 0 (.g rfl id)) ?_;refine cg rfl rfl (Ev.load ty4 (.g rfl id) (c9 (fun w I=>(ht).cn I.keeps) aZ.xe)) ?_;refine co (Ev.pkA (.t rfl) rfl) ?_;refine asn rfl (nP (ret (dn rfl rfl ?_)))
 first | rfl | (simp [Tt.val]; done) | (simp [jY,Tt.val])
theorem z250:zI 250 dT:=kI
theorem wU (w:World):Gx.Calls Tryz.prog 89 #[] w (gL w (fun x:Tt=>x.OK ∧ x.bK = [] ∧ x.made = true ∧ x.n = 0 ∧ x.l = .nil ∧ x.r = .nil) (fun x=>x.ptr.v) (fun x=>[Var x.b dT x.val 250])):=by
 refine en0 3 Tryz.func89 (fun _ _=>?_);refine sg (ac (.pointer none) ?_);refine nP (sg (co (Ev.bu (fs:=_) (places:=[(0,1),(1,1),(2,2)]) z250 rfl Tryz.underlying250 zk (.cons (.c (v:=.bool true) rfl) .nil) (ay.cons aZ.xe rfl ay.nil)) ?_));refine cons (box (E:=dT) (.t rfl) (fun b1=>?_));refine asn rfl (nP (ret (done rfl (.tmp rfl .nil) (fun w I=>?_))));exact ft (⟨b1,true,0,.nil,.nil⟩:Tt) ⟨⟨rfl,rfl,trivial,trivial⟩,rfl,rfl,rfl,rfl,rfl⟩ rfl zp w I
theorem Tt.sX {t:Tt} (h:t.OK) {k:Bool} {x:PT} {b:Nat} {n:Int} (hx:x.tr.WF (okP k) pb []):((t.swap b n k x).bK.map (·.1)).Nodup:=(Tt.wB (b:=b) (n:=((t.swap b 0 k x).bK.length:Int)) h hx rfl).nodup
theorem ty250:tyI 250 dT:=tyP
theorem tput_ok (t:Tt) (p:ae) (v:Int) (w:World) (ht:t.At w) (ho:t.OK) (hn:t.n ≤ 4611686018427387904):Gx.Calls Tryz.prog 90 #[.pointer (some ⟨t.b,0,none⟩),aM.val p,I v] w (gL w (TputJ t p v) (fun x=>.tuple #[.pointer (pO (cN p) x.1.b),I (cN p)]) (fun x=>x.2)):=by
 refine en0 48 Tryz.func90 (fun _ _=>?_);refine sg (cons (box (E:=aM) (.t rfl) (fun b1=>?_)));refine ac (.pointer none) ?_;refine ac (I 0) ?_;refine nP (seq (sg (mv rfl (cons (aQ eN (o1 rfl) (fun w I=>there_ok t w (ht.1.cn I.keeps)) ?_)))));refine co (Ev.not (.t rfl)) ?_;refine nP (fL rfl (by rw [ho.made]; rfl) ?_);refine skip (pN (seq (sg (co (Ev.ldx p cB (.t rfl) (ah.id _)) ?_))));refine cons (aQ eN (o1 rfl) (fun w I=>jh _ w) ?_);refine asn rfl (nP (sg (mv rfl (co (Ev.dS (.t rfl) (.c rfl)) ?_))));refine nP ?_;refine cnq rfl (fun h1=>?_) (fun h1=>?_)
 ·try simp only [nb] at h1
  refine sg (mv rfl (ac (.pointer none) ?_));refine asn rfl (nP (ret (pR (done rfl (.tmp rfl (.tmp rfl .nil)) (fun w I=>?_)))));exact ft (t,[]) (fun h=>absurd h h1) (by show _ = Value.tuple #[.pointer (pO (cN p) t.b),Gx.I (cN p)]; unfold pO; rw [if_neg h1]; rfl) fU.nil w I
 ·try simp only [nb] at h1
  have hck:cN p = 0:=Decidable.not_not.1 h1;have hbn:=uA p.addr.v6;have hbt:(bI p.addr.v6).toNat < 2:=by omega
  obtain ⟨sp1,sp2,sp3,sp4⟩:=(keyLaw p.addr.v6).th (p:=p) ⟨hck,rfl⟩ v (PT.kid p.addr.v6 t.l t.r).tr [] (ho.kid _) List.nil_prefix;refine skip (pN (sg (mv rfl (co (Ev.nilCheck (.t rfl)) ?_))));refine co (Ev.load ty250 (.t rfl) (c9 (fun w I=>((ht).1).cn I.keeps) (ah.id _))) ?_;refine cons (alloc z250 (fun b2=>?_));refine cons (stv ty250 (ah.id _) (.t rfl) (.t rfl) ?_);refine nP (sg (cf 0 rfl ?_));refine co (Ev.ldx p.addr eM (.t rfl) ae.eH) ?_;refine cons (aQ eN (o1 rfl) (fun w I=>kind_ok _ w) ?_);refine asn rfl (nP (seq (dA zk ?_)));refine tm 0 rfl rfl ?_;refine tm 1 rfl rfl ?_;refine tn 2 rfl rfl ?_;refine tk 3 rfl (fA 2 (.t rfl)) ?_;refine tk 4 rfl (Ev.de Y248 fX (.t rfl) (.t rfl) (fun _=>zo)) ?_;refine tk 5 rfl (Ev.to (v':=(PT.kid p.addr.v6 t.l t.r).ptr.v) (Ev.load fX (.t rfl) (c9 (fun w I=>((ht).1).cn I.keeps) (ah.comp aZ.pS (jd (n:=2) (ovE bP) _ (by omega))))) (congrArg OV.v (sk t.l t.r p.addr.v6 hbt))) ?_;refine tk 6 rfl (Ev.ldx p cB (.t rfl) (ah.id _)) ?_;refine tm 7 rfl rfl ?_;refine al1 8 rfl ((dB (X:=PT × List Res) (PutJ (PT.kid p.addr.v6 t.l t.r) (jz p v (PT.kid p.addr.v6 t.l t.r).tr).1) (fun x=>.tuple #[x.1.ptr.v,.bool (jz p v (PT.kid p.addr.v6 t.l t.r).tr).2]) (fun x=>x.2) eN (o3 rfl rfl rfl) (fun w I=>put_ok p.addr.v6 p v ⟨hck,rfl⟩ (PT.kid p.addr.v6 t.l t.r) [] w ((ht.cn I.keeps).kid _) (ho.kid _) List.nil_prefix) (fun x1 hx1=>?_)));refine hdn (tm 9 rfl rfl ?_);refine tk 10 rfl (Ev.extract (.t rfl) rfl) ?_;refine tk 11 rfl (Ev.extract (.t rfl) rfl) ?_;refine tk 12 rfl (Ev.assign (.t rfl)) ?_;refine tk 13 rfl (Ev.assign (.t rfl)) ?_;refine ovr (pN (seq ?_));have hwx:x1.1.tr.WF (okP p.addr.v6) pb []:=by rw [hx1.1]; exact sp1
  have hmx:=sp3;rw [← show x1.1.tr = _ from hx1.1] at hmx;refine region (mv rfl (mv rfl (cf 2 rfl ?_)));refine co (Ev.de Y248 fX (.t rfl) (.t rfl) (fun _=>zo)) ?_;refine cons (stv fX (ah.comp aZ.pS (jd (n:=2) (ovE bP) _ (by omega))) (.t rfl) (.t rfl) ?_);refine nP (seq (sg (mv rfl (nP ?_))));refine cnq rfl (fun h2=>?_) (fun h2=>?_)
  ·have hfr:∀ y ∈ t.bK,y.1 ≠ p:=fun y hy e=>sp4.1 h2 y (by rw [← e]; exact (ho.mem y).1 hy) e
   refine region (cf 1 rfl ?_);refine co (Ev.ldv ty3 (.t rfl) aZ.l_n) ?_;refine co (Ev.bL (.t rfl) (.c rfl) (fun _=>by show Fit (t.n + 1); unfold Fit; have:=ho.n; omega)) ?_;refine cf 1 rfl ?_;refine cons (stv ty3 aZ.l_n (.t rfl) (.t rfl) ?_);refine nP (sg (asn rfl (ac (I 0) ?_)));refine nP (ret (done rfl (.tmp rfl (.tmp rfl .nil)) (fun w I=>?_)));have hmem:=Tt.put_mem (b:=b2) (n:=(t.n + 1)) ho hwx hmx;have hln:=xb ho.nodup (Tt.sX (b:=b2) (n:=(t.n + 1)) ho hwx) hmem;have hcnt:(t.n + 1) = (t.swap b2 (t.n + 1) p.addr.v6 x1.1).bK.length:=by
    have h8:=ho.n;have h7:=hln.1 hfr;omega
   refine ft ((t.swap b2 (t.n + 1) p.addr.v6 x1.1),Var b2 dT (t.swap b2 (t.n + 1) p.addr.v6 x1.1).val 250 :: x1.2) (fun _=>⟨Tt.wB ho hwx hcnt,hmem,fun w1 hw1 hh=>Tt.swap_at hw1 (hx1.2 w1 (hw1.kid _) (fun q hq=>hh q (List.mem_cons_of_mem _ hq))) (eT (T:=250) hh List.mem_cons_self)⟩) (by show _ = Value.tuple #[.pointer (pO (cN p) (t.swap b2 (t.n + 1) p.addr.v6 x1.1).b),Gx.I (cN p)]; unfold pO; rw [if_pos hck,hck]; rfl) ?_ w I;unfold Tt.val;rw [← Tt.vg t b2 (t.n + 1) p.addr.v6 x1.1 hbt];exact s49
  ·have hfr:∃ y ∈ t.bK,y.1 = p:=by
    rcases Classical.em (∃ y ∈ t.bK,y.1 = p) with g | g
    ·exact g
    ·exfalso;have:=sp4.2 (fun y hy e=>g ⟨y,((ho.mem_k _ y).1 hy).1,e⟩);rw [show (jz p v (PT.kid p.addr.v6 t.l t.r).tr).2 = false from h2] at this;cases this
   refine skip (pN (sg (asn rfl (ac (I 0) ?_))));refine nP (ret (done rfl (.tmp rfl (.tmp rfl .nil)) (fun w I=>?_)));have hmem:=Tt.put_mem (b:=b2) (n:=t.n) ho hwx hmx;have hln:=xb ho.nodup (Tt.sX (b:=b2) (n:=t.n) ho hwx) hmem;have hcnt:t.n = (t.swap b2 t.n p.addr.v6 x1.1).bK.length:=by
    have h8:=ho.n;have h7:=hln.2 hfr;omega
   refine ft ((t.swap b2 t.n p.addr.v6 x1.1),Var b2 dT (t.swap b2 t.n p.addr.v6 x1.1).val 250 :: x1.2) (fun _=>⟨Tt.wB ho hwx hcnt,hmem,fun w1 hw1 hh=>Tt.swap_at hw1 (hx1.2 w1 (hw1.kid _) (fun q hq=>hh q (List.mem_cons_of_mem _ hq))) (eT (T:=250) hh List.mem_cons_self)⟩) (by show _ = Value.tuple #[.pointer (pO (cN p) (t.swap b2 t.n p.addr.v6 x1.1).b),Gx.I (cN p)]; unfold pO; rw [if_pos hck,hck]; rfl) ?_ w I;unfold Tt.val;rw [← Tt.vg t b2 t.n p.addr.v6 x1.1 hbt];exact s49
end Go.Proofs.YtljifjflnakmoaaGreat.Tri
namespace Go.Proofs.YtljifjflnakmoaaGreat.Tri
open Go Go.Gx
def PT.way (p:ae):PT→List PT
 | .nil=>[]
 | .node b q u h l r=>if fb q p = true then .node b q u h l r :: (if ltP q p = true then (if qh q p = true then r.way p else l.way p) else []) else []
def PT.key:PT→ae × Int × Bool
 | .nil=>(aM.zero,0,false)
 | .node _ q u h _ _=>(q,u,h)
def PT.size:PT→Nat
 | .nil=>0
 | .node _ _ _ _ l r=>l.size + r.size + 1
theorem PT.kid_size (bb:Bool) (b:Nat) (q:ae) (u:Int) (h:Bool) (l r:PT):(PT.kid bb l r).size < (PT.node b q u h l r).size:=by cases bb <;> simp only [kid,size,cond_true,cond_false] <;> omega
theorem PT.way_no {p:ae} {b:Nat} {q:ae} {u:Int} {h:Bool} {l r:PT} (hc:fb q p = false):PT.way p (.node b q u h l r) = []:=by rw [PT.way,if_neg (by rw [hc]; exact Bool.false_ne_true)]
theorem PT.way_end {p:ae} {b:Nat} {q:ae} {u:Int} {h:Bool} {l r:PT} (hc:fb q p = true) (hl:¬ q.bits < p.bits):PT.way p (.node b q u h l r) = [.node b q u h l r]:=by
 have e:¬ ltP q p = true:=fun e=>hl (of_decide_eq_true e)
 rw [PT.way,if_pos hc,if_neg e]
theorem PT.sL {p:ae} {b:Nat} {q:ae} {u:Int} {h:Bool} {l r:PT} {bb:Bool} (hc:fb q p = true) (hl:q.bits < p.bits) (hb:qh q p = bb):PT.way p (.node b q u h l r) = .node b q u h l r :: PT.way p (PT.kid bb l r):=by
 have e:ltP q p = true:=decide_eq_true hl;subst hb;rw [PT.way,if_pos hc,if_pos e];cases qh q p <;> rfl
theorem PT.wy (p:ae):∀ t:PT,(t.way p).map PT.key = t.tr.path fb ltP qh p
 | .nil=>rfl
 | .node b q u h l r=>by
   have h1:=PT.wy p l;have h2:=PT.wy p r;simp only [PT.way,PT.tr,Tr.path];split
   ·split
    ·split
     ·rw [List.map_cons,h2]; rfl
     ·rw [List.map_cons,h1]; rfl
    ·rfl
   ·rfl
theorem PT.mK {p:ae}:∀ {t:PT} {x:PT},x ∈ t.way p→∃ b q u h l r,x = .node b q u h l r
 | .nil,x,hx=>by simp [PT.way] at hx
 | .node b q u h l r,x,hx=>by
   simp only [PT.way] at hx;split at hx
   ·rcases List.mem_cons.1 hx with rfl | hx
    ·exact ⟨b,q,u,h,l,r,rfl⟩
    ·split at hx
     ·split at hx
      ·exact PT.mK hx
      ·exact PT.mK hx
     ·simp at hx
   ·simp at hx
theorem PT.sM {p:ae} {w:World}:∀ {t:PT} {x:PT},t.At w→x ∈ t.way p→x.At w
 | .nil,x,_,hx=>by simp [PT.way] at hx
 | .node b q u h l r,x,hat,hx=>by
   simp only [PT.way] at hx;split at hx
   ·rcases List.mem_cons.1 hx with rfl | hx
    ·exact hat
    ·split at hx
     ·split at hx
      ·exact PT.sM hat.2.2 hx
      ·exact PT.sM hat.2.1 hx
     ·simp at hx
   ·simp at hx
theorem PT.split (p:ae) (t:PT):t = .nil ∨ (∃ b q u h l r,t = .node b q u h l r ∧ fb q p = false) ∨ (∃ b q u h l r,t = .node b q u h l r ∧ fb q p = true):=by
 cases t with
 | nil=>exact .inl rfl
 | node b q u h l r =>
   cases hc:fb q p with
   | false=>exact .inr (.inl ⟨b,q,u,h,l,r,rfl,hc⟩)
   | true=>exact .inr (.inr ⟨b,q,u,h,l,r,rfl,hc⟩)
def DownAt (t:Tt) (p:ae) (bt bp:Nat) (w:World):Prop:=t.At w ∧ cq (ovE bP) w bt 0 t.ptr ∧ cq aM w bp 0 p
abbrev encN:PT→List Value:=fun x=>[x.ptr.v]
theorem ty127:tyI 127 (ovE bP):=tyP
theorem down_walk {X:Ext} {fr:Nat} {σ:Type} (S:σ→Res) (ok:PT→σ→Prop) (J:PT→σ→Bool × σ→Prop) (yv:Value) (w:World) (s:σ) (t:Tt) (p:ae) (bt bp:Nat) (hp:cN p = 0) (hf:∀ w',aJ (S s).bQ w w'→DownAt t p bt bp w') (hl:uI ok J (PT.way p (PT.kid p.addr.v6 t.l t.r)) s) (hat:At (S s) w) (hfr:fr ≤ w.heap.size) (hfb:∀ b,(S s).bQ b→fr ≤ b) (hY:mg X fr Tryz.prog yv encN w (S s).bQ ok S J):eo X fr Tryz.prog 179 #[yv,.pointer (some ⟨bt,0,none⟩),.pointer (some ⟨bp,0,none⟩)] w (fV w (S s) (uE J (PT.way p (PT.kid p.addr.v6 t.l t.r)) s) (fun _=>.tuple #[]) S):=by
 refine nG 51 [S s] Tryz.func179 rfl rfl (Nat.le_of_ble_eq_true rfl) hfr hfb (gU hat _) ?_;refine seq ?_;have hbn:=uA p.addr.v6;have hbt:(bI p.addr.v6).toNat < 2:=by omega
 refine dA zk ?_;refine tk 0 rfl (Ev.to (v':=.pointer (some ⟨t.b,0,none⟩)) (Ev.load ty127 (.t rfl) (c9 (fun w I=>(hf w I.keeps).2.1) (ah.id _))) (rfl)) ?_;refine tk 1 rfl (fA 0 (.t rfl)) ?_;refine tk 2 rfl (Ev.load eM (.t rfl) (c9 (fun w I=>(hf w I.keeps).2.2) ae.eH)) ?_;refine tn 4 rfl rfl ?_;refine tk 5 rfl (fA 2 (.t rfl)) ?_;refine al1 3 rfl ((aQ eN (o1 rfl) (fun w I=>kind_ok p.addr w) ?_));refine hdn (tk 6 rfl (Ev.de Y248 fX (.t rfl) (.t rfl) (fun _=>zo)) ?_);refine tk 7 rfl (Ev.to (v':=(PT.kid p.addr.v6 t.l t.r).ptr.v) (Ev.load fX (.t rfl) (c9 (fun w I=>(hf w I.keeps).1.1) (ah.comp aZ.pS (jd (n:=2) (ovE bP) _ (by omega))))) (congrArg OV.v (sk t.l t.r p.addr.v6 hbt))) ?_;refine tk 8 rfl (Ev.assign (.t rfl)) ?_;refine ovr (pN (block (lp (X:=PT × σ) (fun x=>(∀ w',aJ (S s).bQ w w'→x.1.At w') ∧ (∀ z,uE J (PT.way p x.1) x.2 z→uE J (PT.way p (PT.kid p.addr.v6 t.l t.r)) s z) ∧ (uI ok J (PT.way p x.1) x.2)) (fun x=>[dz,(0,true,yv),(1,true,pvb bt),(2,true,pvb bp),(4,true,x.1.ptr.v)]) (fun x=>[S x.2]) (fun x=>x.1.size) ((PT.kid p.addr.v6 t.l t.r),s) ⟨?_,?_,?_⟩ (fun x hx=>?_))))
 ·exact fun w1 k=>(hf w1 k).1.kid _
 ·exact fun z h=>h
 ·exact hl
 obtain ⟨cur,s1⟩:=x;dsimp only at hx;obtain ⟨hc,hr,hlv⟩:=hx;refine seq (seq ?_)
 rcases PT.split p cur with rfl | ⟨b,q,u,h,l,r,rfl,hcv⟩ | ⟨b,q,u,h,l,r,rfl,hcv⟩
 ·refine draw ([]:List Res) zk ?_;refine tm 0 rfl rfl ?_;refine tk 1 rfl (Ev.to (v':=.bool false) (Ev.tB Y247 (.t rfl) (.c rfl)) (rfl)) ?_;refine tm 2 rfl rfl ?_;refine tkg 3 rfl rfl rfl (Ev.vac (v:=.bool false) rfl) ?_;refine tkg 4 rfl rfl rfl (Ev.vac (v:=.bool false) rfl) ?_;refine tkg 5 rfl rfl rfl (Ev.vac (v:=.bool false) rfl) ?_;refine tkg 6 rfl rfl rfl (Ev.vac (v:=.bool false) rfl) ?_;refine tkg 7 rfl rfl rfl (Ev.vac (v:=.bool false) rfl) ?_;refine tkg 8 rfl rfl rfl (Ev.vac (v:=.bool false) rfl) ?_;refine tk 9 rfl (Ev.to (v':=.bool false) (Ev.pkA (.t rfl) rfl) (rfl)) ?_;refine tm 10 rfl rfl ?_;refine tkg 11 rfl rfl rfl (Ev.vac (v:=.bool false) rfl) ?_;refine tkg 12 rfl rfl rfl (Ev.vac (v:=.bool false) rfl) ?_;refine tkg 13 rfl rfl rfl (Ev.vac (v:=.bool false) rfl) ?_;refine tk 14 rfl (Ev.to (v':=.bool false) (Ev.pkA (.t rfl) rfl) (rfl)) ?_;refine tm 15 rfl rfl ?_;refine tkg 16 rfl rfl rfl (Ev.vac (v:=.bool false) rfl) ?_;refine tkg 17 rfl rfl rfl (Ev.vac (v:=.bool false) rfl) ?_;refine tkg 18 rfl rfl rfl (Ev.vac (v:=.bool false) rfl) ?_;refine tkg 19 rfl rfl rfl (Ev.vac (v:=.bool false) rfl) ?_;refine tkg 20 rfl rfl rfl (Ev.vac (v:=.bool false) rfl) ?_;refine tkg 21 rfl rfl rfl (Ev.vac (v:=.bool false) rfl) ?_;refine tkg 22 rfl rfl rfl (Ev.vac (v:=.bool false) rfl) ?_;refine tkg 23 rfl rfl rfl (Ev.vac (v:=.bool false) rfl) ?_;refine tk 24 rfl (Ev.to (v':=.bool false) (Ev.pkA (.t rfl) rfl) (rfl)) ?_;refine ovr (pN (fL rfl (rfl) ?_));refine exit (pX (pX (bX (rH rfl .nil (fun w I=>?_)))));exact mY (X:=σ) s1 (hr _ rfl) rfl zm w I
 ·refine draw ([]:List Res) zk ?_;refine tk 0 rfl (Ev.to (v':=.pointer (some ⟨b,0,none⟩)) (Ev.move (.t rfl)) (rfl)) ?_;refine tk 1 rfl (Ev.to (v':=.bool true) (Ev.tB Y247 (.t rfl) (.c rfl)) (rfl)) ?_;refine tm 2 rfl rfl ?_;refine tkg 3 rfl rfl rfl (Ev.to (v':=.pointer (some ⟨b,0,none⟩)) (Ev.move (.t rfl)) (rfl)) ?_;refine tkg 4 rfl rfl rfl (Ev.nilCheck (.g rfl id)) ?_;refine tkg 5 rfl rfl rfl (fA 0 (.g rfl id)) ?_;refine tkg 6 rfl rfl rfl (Ev.load cB (.g rfl id) (c9 (fun w I=>(hc w I.keeps).1) av.l_p)) ?_;refine tkg 7 rfl rfl rfl (Ev.load cB (.t rfl) (c9 (fun w I=>(hf w I.keeps).2.2) (ah.id _))) ?_;refine al1 8 rfl (iM rfl rfl eN (.cons (.g rfl id) (.cons (.g rfl id) .nil)) (fun hg w I=>ug _ _ w) ?_);refine hdn (tk 9 rfl (Ev.to (v':=.bool false) (Ev.pkA (.t rfl) rfl) (congrArg Value.bool hcv)) ?_);refine tm 10 rfl rfl ?_;refine tkg 11 rfl rfl rfl (Ev.vac (v:=.bool false) rfl) ?_;refine tkg 12 rfl rfl rfl (Ev.vac (v:=.bool false) rfl) ?_;refine tkg 13 rfl rfl rfl (Ev.vac (v:=.bool false) rfl) ?_;refine tk 14 rfl (Ev.to (v':=.bool false) (Ev.pkA (.t rfl) rfl) (rfl)) ?_;refine tm 15 rfl rfl ?_;refine tkg 16 rfl rfl rfl (Ev.vac (v:=.bool false) rfl) ?_;refine tkg 17 rfl rfl rfl (Ev.vac (v:=.bool false) rfl) ?_;refine tkg 18 rfl rfl rfl (Ev.vac (v:=.bool false) rfl) ?_;refine tkg 19 rfl rfl rfl (Ev.vac (v:=.bool false) rfl) ?_;refine tkg 20 rfl rfl rfl (Ev.vac (v:=.bool false) rfl) ?_;refine tkg 21 rfl rfl rfl (Ev.vac (v:=.bool false) rfl) ?_;refine tkg 22 rfl rfl rfl (Ev.vac (v:=.bool false) rfl) ?_;refine tkg 23 rfl rfl rfl (Ev.vac (v:=.bool false) rfl) ?_;refine tk 24 rfl (Ev.to (v':=.bool false) (Ev.pkA (.t rfl) rfl) (rfl)) ?_;refine ovr (pN (fL rfl (rfl) ?_));refine exit (pX (pX (bX (rH rfl .nil (fun w I=>?_)))))
  exact mY (X:=σ) s1 (hr _ (by rw [PT.way_no hcv]; rfl)) rfl (by repeat first | exact mH | apply mT | apply mA) w I
 ·have hxin:ok (PT.node b q u h l r) s1:=by
   have h9:=hlv;rw [PT.way,if_pos hcv] at h9;exact h9.1
  refine draw ([]:List Res) zk ?_;refine tk 0 rfl (Ev.to (v':=.pointer (some ⟨b,0,none⟩)) (Ev.move (.t rfl)) (rfl)) ?_;refine tk 1 rfl (Ev.to (v':=.bool true) (Ev.tB Y247 (.t rfl) (.c rfl)) (rfl)) ?_;refine tm 2 rfl rfl ?_;refine tkg 3 rfl rfl rfl (Ev.to (v':=.pointer (some ⟨b,0,none⟩)) (Ev.move (.t rfl)) (rfl)) ?_;refine tkg 4 rfl rfl rfl (Ev.nilCheck (.g rfl id)) ?_;refine tkg 5 rfl rfl rfl (fA 0 (.g rfl id)) ?_;refine tkg 6 rfl rfl rfl (Ev.load cB (.g rfl id) (c9 (fun w I=>(hc w I.keeps).1) av.l_p)) ?_;refine tkg 7 rfl rfl rfl (Ev.load cB (.t rfl) (c9 (fun w I=>(hf w I.keeps).2.2) (ah.id _))) ?_;refine al1 8 rfl (iM rfl rfl eN (.cons (.g rfl id) (.cons (.g rfl id) .nil)) (fun hg w I=>ug _ _ w) ?_);refine hdn (tk 9 rfl (Ev.to (v':=.bool true) (Ev.pkA (.t rfl) rfl) (congrArg Value.bool hcv)) ?_);refine tm 10 rfl rfl ?_;refine tkg 11 rfl rfl rfl (Ev.move (.t rfl)) ?_;refine tkg 12 rfl rfl rfl (Ev.to (v':=.pointer (some ⟨b,0,none⟩)) (Ev.move (.t rfl)) (rfl)) ?_;refine al1 13 rfl (opgTI rfl rfl rfl (callY (X:=Bool × σ) (r:=S s1) (r':=fun q=>S q.2) (L':=fun q=>[S q.2]) (vs:=encN (PT.node b q u h l r)) (J (PT.node b q u h l r) s1) (fun q=>.bool q.1) (fun q=>Upd.head) List.mem_cons_self (.t rfl) (.cons (.t rfl) .nil) (fun w I=>hY.call (x:=PT.node b q u h l r) hxin zm w I) (fun q1 hq1=>?_)));refine hdn (tk 14 rfl (Ev.to (v':=.bool q1.1) (Ev.pkA (.t rfl) rfl) (rfl)) ?_);refine tm 15 rfl rfl ?_;refine tkg 16 rfl rfl rfl (Ev.to (v':=.pointer (some ⟨b,0,none⟩)) (Ev.move (.t rfl)) (rfl)) ?_;refine tkg 17 rfl rfl rfl (Ev.nilCheck (.g rfl id)) ?_;refine tkg 18 rfl rfl rfl (fA 0 (.g rfl id)) ?_;refine tkg 19 rfl rfl rfl (fA 17 (.g rfl id)) ?_;refine tkg 20 rfl rfl rfl (Ev.load ty3 (.g rfl id) (c9 (fun w I=>(hc w I.keeps).1) (ah.comp av.l_p ae.fj))) ?_
  refine tkg 21 rfl rfl rfl (fA 17 (.t rfl)) ?_;refine tkg 22 rfl rfl rfl (Ev.load ty3 (.g rfl id) (c9 (fun w I=>(hf w I.keeps).2.2) ae.fj)) ?_;refine tkg 23 rfl rfl rfl (Ev.cj (.g rfl id) (.g rfl id)) ?_;refine tk 24 rfl (Ev.pkA (.t rfl) rfl) ?_;refine ovr (pN ?_);refine cnq rfl (fun h0=>?_) (fun h0=>?_)
  ·have hq:q1.1 = true ∧ q.bits < p.bits:=by
    have h9:=Bool.and_eq_true_iff.1 h0;exact ⟨h9.1,of_decide_eq_true h9.2⟩
   obtain ⟨bb,hbb⟩:∃ z,qh q p = z:=⟨_,rfl⟩;have hbb1:=uA bb;have hbb2:(bI bb).toNat < 2:=by omega
   have hq0:0 ≤ q.bits ∧ q.bits < 128:=by
    have hcv2:=hcv;unfold fb at hcv2;simp only [Bool.and_eq_true] at hcv2;have h1:=(eh q).1 ((lL _ _).1 hcv2.2).1;have h2:=(eh p).1 hp;have:=oo p.addr;omega
   refine skip (pN (seq (block (skip (bN (pN (dA zk ?_)))))));refine tk 0 rfl (Ev.to (v':=.pointer (some ⟨b,0,none⟩)) (Ev.move (.t rfl)) (rfl)) ?_;refine tk 1 rfl (fA 0 (.t rfl)) ?_;refine tk 2 rfl (Ev.load eM (.t rfl) (c9 (fun w I=>(hf w I.keeps).2.2) ae.eH)) ?_;refine tk 3 rfl (Ev.to (v':=.pointer (some ⟨b,0,none⟩)) (Ev.move (.t rfl)) (rfl)) ?_;refine tn 4 rfl rfl ?_;refine tk 5 rfl (fA 0 (.t rfl)) ?_;refine tk 6 rfl (fA 17 (.t rfl)) ?_;refine tk 7 rfl (Ev.load ty3 (.t rfl) (c9 (fun w I=>(hc w I.keeps).1) (ah.comp av.l_p ae.fj))) ?_;refine tn 9 rfl rfl ?_;refine tk 10 rfl (fA 20 (.t rfl)) ?_;refine al1 8 rfl ((aQ eN (o2 rfl rfl) (fun w I=>we _ _ w hq0 bb hbb) ?_));refine hdn (tk 11 rfl (Ev.de Y248 fX (.t rfl) (.t rfl) (fun _=>zo)) ?_);refine tk 12 rfl (Ev.to (v':=(PT.kid bb l r).ptr.v) (Ev.load fX (.t rfl) (c9 (fun w I=>(hc w I.keeps).1) (ah.comp av.kJ (jd (n:=2) (ovE bP) _ (by omega))))) (congrArg OV.v (sk l r bb hbb2))) ?_;refine tk 13 rfl (Ev.assign (.t rfl)) ?_;refine ovr (pN (nx ((PT.kid bb l r),q1.2) ⟨?_,?_,?_⟩ ?_))
   ·try dsimp only
    exact fun w1 k=>PT.At.kid (hc w1 k).2.1 (hc w1 k).2.2 bb
   ·try dsimp only
    exact fun z hz=>hr z (by rw [PT.sL hcv hq.2 hbb]; exact ⟨q1,hq1,by rw [if_pos hq.1]; exact hz⟩)
   ·try dsimp only
    rw [PT.sL hcv hq.2 hbb] at hlv;exact hlv.2 _ hq1 hq.1
   ·try dsimp only
    exact PT.kid_size bb b q u h l r
  ·have hq:¬ (q1.1 = true ∧ q.bits < p.bits):=fun e=>by
    have h9:(q1.1 && decide (q.bits < p.bits)) = false:=h0;rw [e.1,decide_eq_true e.2] at h9;cases h9
   refine exit (pX (pX (bX (rH rfl .nil (fun w I=>?_)))));refine mY (X:=σ) q1.2 (hr _ ?_) rfl zm w I
   by_cases hlt:q.bits < p.bits
   ·rw [PT.sL hcv hlt rfl];exact ⟨q1,hq1,by rw [if_neg (fun e=>hq ⟨e,hlt⟩)]⟩
   ·rw [PT.way_end hcv hlt];refine ⟨q1,hq1,?_⟩;split
    ·rfl
    ·rfl
theorem down_iter {X:Ext} {fr:Nat} (t:Tt) (p:ae) (hp:cN p = 0) (bt bp:Nat) (w0:World) (M:Nat→Prop) (hf:∀ w',aJ M w0 w'→DownAt t p bt bp w'):IterAt X fr Tryz.prog (bnd 179 [] [.pointer (some ⟨bt,0,none⟩),.pointer (some ⟨bp,0,none⟩)]).v encN w0 M (PT.way p (PT.kid p.addr.v6 t.l t.r)):=fun σ S ok J yv w s hl hk hfo hat hfr hfb hY =>
 mh.of (Gx.cv.mk' zk) (down_walk S ok J yv.v w s t p bt bp hp (fun w' k=>hf w' (hk.trans' k (fun i hi hm=>(hfo i hm).resolve_left (by omega)))) hl hat hfr hfb hY)
theorem down_ok (t:Tt) (p:ae) (w:World):Gx.Calls Tryz.prog 178 #[t.ptr.v,aM.val p] w (gL w (fun _:Nat × Nat=>True) (fun x=>(bnd 179 [] [.pointer (some ⟨x.1,0,none⟩),.pointer (some ⟨x.2,0,none⟩)]).v) (fun x=>[Var x.2 aM p 107,Var x.1 (ovE bP) t.ptr 127])):=by
 refine en0 6 Tryz.func178 (fun _ _=>?_);refine sg (cons (box (E:=(ovE bP)) (.t rfl) (fun b1=>?_)));refine cons (box (E:=aM) (.t rfl) (fun b2=>?_));refine ac Go.Value.nilFunc ?_;refine nP (sg (co (Ev.makeFunc (f:=179) (.cons (.t rfl) (.cons (.t rfl) .nil))) ?_));refine asn rfl (nP (ret (done rfl (.tmp rfl .nil) (fun w I=>?_))));exact ft (b1,b2) trivial rfl zp w I
end Go.Proofs.YtljifjflnakmoaaGreat.Tri
namespace Go.Proofs.YtljifjflnakmoaaGreat.Tri
open Go Go.Gx
theorem findN:∀ {xs:List PT} {s t:PT},jK (fun x s s'=>s' = if x.key.2.2 = true then x else s) xs s t→t = ((xs.filter (fun x=>x.key.2.2)).getLast?).getD s
 | [],s,t,h=>h
 | x :: xs,s,t,⟨q,h1,h⟩=>by
   have h2:=findN h;rw [h2,List.filter_cons]
   by_cases hx:x.key.2.2 = true
   ·rw [if_pos hx,List.getLast?_cons,h1,if_pos hx]
    rfl
   ·rw [if_neg hx,h1,if_neg hx]
def Tt.find (t:Tt) (a:aG):Option (ae × Int):=(PT.kid a.v6 t.l t.r).tr.best fb ltP qh (full a)
def jD (t:Tt) (a:aG):ae × Int × Bool:=if cG a = 0 then (match t.find a with | some x=>(x.1,x.2,true) | none=>(aM.zero,0,false)) else (aM.zero,0,false)
theorem find_way (t:Tt) (a:aG):t.find a = (((PT.way (full a) (PT.kid a.v6 t.l t.r)).filter (fun x=>x.key.2.2)).getLast?).map (fun x=>(x.key.1,x.key.2.1)):=by
 unfold Tt.find Tr.best;rw [← PT.wy,List.filter_map,List.getLast?_map,Option.map_map]
 rfl
theorem ofE_wd (a:aG):ofE a (wd a) = cG a:=by
 have:=oo a;unfold ofE;split
 ·rfl
 ·rename_i h;rw [if_neg (by omega)];exact (Decidable.not_not.1 h).symm
theorem ofV_wd {a:aG} (h:cG a = 0):ofV a (wd a) = full a:=by
 have h2:fI (wd a) a.b = a.b:=by
  unfold cG at h;split at h
  ·assumption
  ·cases h
 unfold ofV;rw [ofE_wd,if_pos h,h2]
 rfl
theorem find_none {t:Tt} {a:aG} {z s:PT} (hz:z = .nil) (h:s = (((PT.way (full a) (PT.kid a.v6 t.l t.r)).filter (fun x=>x.key.2.2)).getLast?).getD z):(s = .nil ∧ t.find a = none) ∨ (s ∈ PT.way (full a) (PT.kid a.v6 t.l t.r) ∧ t.find a = some (s.key.1,s.key.2.1)):=by
 rw [find_way];cases hl:((PT.way (full a) (PT.kid a.v6 t.l t.r)).filter (fun x=>x.key.2.2)).getLast? with
 | none=>rw [hl] at h; exact .inl ⟨h.trans hz,rfl⟩
 | some x =>
   rw [hl] at h;have h:s = x:=h;subst h;refine .inr ⟨?_,rfl⟩;obtain ⟨A,hA⟩:=List.getLast?_eq_some_iff.1 hl;have:s ∈ (PT.way (full a) (PT.kid a.v6 t.l t.r)).filter (fun x=>x.key.2.2):=by rw [hA]; simp
   exact (List.mem_filter.1 this).1
theorem z247:zI 247 (ovE bP):=kI
theorem find_ok (t:Tt) (a:aG) (w:World) (ht:t.At w) (ho:t.OK):Gx.Calls Tryz.prog 177 #[t.ptr.v,cz.val a] w (bG w (.tuple #[aM.val (jD t a).1,I (jD t a).2.1,.bool (jD t a).2.2])):=by
 refine enterM0 48 Tryz.func177 rfl rfl (Nat.le_of_ble_eq_true rfl) (fun _ _=>?_);refine sg (cons (box (E:=cz) (.t rfl) (fun b1=>?_)));refine cons (alloc mI (fun b2=>?_));refine ac (I 0) ?_;refine ac (.bool false) ?_;refine nP (sg (ac (I 32) ?_));refine nP (cut (X:=Int) (fun x=>(x = wd a)) (fun x=>[dz,(0,true,pvb t.b),(3,true,pvb b1),(4,true,pvb b2),(5,true,I 0),(6,true,.bool false),(7,true,I x)]) (fun x=>[Var b2 aM aM.zero 107,Var b1 cz a 81,Dm []]) ?_ (fun x hx=>?_))
 ·refine sg (cf 0 rfl ?_);refine co (Ev.ldx a.v6 ty4 (.t rfl) aG.jP) ?_;refine nP ?_;refine cnq rfl (fun h0=>?_) (fun h0=>?_)
  ·try simp only [nb] at h0
   refine region (ac (I 128) ?_);refine nP (mt (_) ?_)
   ·try dsimp only
    unfold wd; rw [show a.v6 = _ from h0]; rfl
  ·try simp only [nb] at h0
   refine skip (pN (mt (_) ?_))
   ·try dsimp only
    unfold wd; rw [show a.v6 = _ from h0]; rfl
 obtain ⟨n,rfl⟩:∃ y,y = x:=⟨x,rfl⟩;have hn:n = wd a:=hx;clear hx;refine seq ?_;obtain ⟨z,hz⟩:∃ z,ofV a n = z:=⟨_,rfl⟩;obtain ⟨e0,he⟩:∃ z,ofE a n = z:=⟨_,rfl⟩;refine region (co (Ev.ldx a eM (.t rfl) (ah.id _)) ?_);refine mv rfl (cons (aQ eN (o2 rfl rfl) (fun w I=>of_g _ _ w z e0 hz he) ?_));refine mv rfl (cx rfl rfl (cx rfl rfl (cons (alloc mI (fun b3=>?_)))));refine cons (stv cB (ah.id _) (.t rfl) (.t rfl) ?_);refine asn rfl (nP (seq (sg (mv rfl (cons (aQ eN (o1 rfl) (fun w I=>there_ok t w (ht.1.cn I.keeps)) ?_))))));refine co (Ev.not (.t rfl)) ?_;refine mv rfl (cg rfl rfl (Ev.move (.t rfl)) ?_);refine cg rfl rfl (Ev.dS (.g rfl id) (.c rfl)) ?_;refine co (Ev.pkO (.t rfl) rfl) ?_;refine nP ?_;refine cnq rfl (fun h1=>?_) (fun h1=>?_)
 ·refine sg (co (Ev.bu (fs:=_) (places:=[(0,17),(17,1)]) mI rfl Y107 zk .nil ay.nil) ?_);refine cons (stv cB (ah.id _) (.t rfl) (.t rfl) ?_);refine ac (I 0) ?_;refine ac (.bool false) ?_;refine nP (ret (pR (doneM zr rfl rfl (.cellP rfl cB (br zm (ah.id _)) (.tmp rfl (.tmp rfl .nil))) (gD ?_))));have hc:cG a ≠ 0:=by
   have h9:(!t.made) = true ∨ e0 ≠ 0:=by simpa using h1
   rw [ho.made] at h9
   rcases h9 with h9 | h9
   ·cases h9
   ·rw [← he,hn,ofE_wd] at h9; exact h9
  unfold jD; rw [if_neg hc]; rfl
 ·have hca:cG a = 0:=by
   have h9:(!t.made) = false ∧ e0 = 0:=by simpa using h1
   rw [← ofE_wd,← hn,he]; exact h9.2
  have hzf:z = full a:=by rw [← hz,hn]; exact ofV_wd hca
  have hzc:cN z = 0:=by rw [hzf]; exact (su hca).1
  refine skip (pN (sg (cons (alloc z247 (fun b4=>?_)))));refine nP (seq (sg (mv rfl (co (Ev.ldv cB (.t rfl) (ah.id _)) ?_))));refine cons (dB (X:=Nat × Nat) (fun _=>True) (fun x=>(bnd 179 [] [.pointer (some ⟨x.1,0,none⟩),.pointer (some ⟨x.2,0,none⟩)]).v) (fun x=>[Var x.2 aM z 107,Var x.1 (ovE bP) t.ptr 127]) eN (o2 rfl rfl) (fun w I=>down_ok t z w) (fun x1 _=>?_));refine nP (block (rangeF (ζ:=Unit) (m:=[]) (ps:=[31]) encN (fun s:PT=>Var b4 (ovE bP) s.ptr 247) PT.nil (PT.way z (PT.kid z.addr.v6 t.l t.r)) (fun x s s'=>s' = if x.key.2.2 = true then x else s) (fun _ _ _ _=>False) (fun x z=>[dz,(10,true,.pointer (some ⟨b4,0,none⟩)),(11,true,x.ptr.v)]) (fun x z=>([]:List Res)) (fun _=>True) trivial (fun _ _ _ _ _=>trivial) zr zr rfl (.t rfl) ⟨179,[],[.pointer (some ⟨x1.1,0,none⟩),.pointer (some ⟨x1.2,0,none⟩)],rfl⟩ (fun _=>rfl) rfl (fun w I hb=>down_iter t z hzc x1.1 x1.2 w _ (fun w1 k=>⟨ht.cn (hb w1 k).keeps,br (E':=ovE bP) zm (ah.id _) w1 (hb w1 k),br (E':=aM) zm (ah.id _) w1 (hb w1 k)⟩)) (fun l x w=>?_) (fun l x s zv n0 w hx hn0 hinv hft hb=>?_) (fun s D hr=>?_) (fun c s D hr=>?_)))
  ·refine region (asn rfl (nil (gd () (by repeat first | exact Sub.nil | refine Sub.cons rfl ?_) zs)))
  ·obtain ⟨b,q,u,h,l,r,rfl⟩:=PT.mK hx;refine block (sg (co (Ev.to (v':=.pointer (some ⟨b,0,none⟩)) (Ev.move (.t rfl)) (rfl)) ?_));refine co (Ev.nilCheck (.t rfl)) ?_;refine cf 19 rfl ?_;refine co (Ev.load ty4 (.t rfl) (c9 (fun w I=>(PT.sM ((ht.cn (hb w I.keeps).keeps).kid z.addr.v6) hx).1) av.rz)) ?_;refine nP ?_;refine cnq rfl (fun h2=>?_) (fun h2=>?_)
   ·refine region (mv rfl (cons (stv fX (ah.id _) (.t rfl) (.t rfl) ?_)));refine nil (bN ?_);exact rdN hn0 (PT.node b q u h l r) (by rw [if_pos (show (PT.node b q u h l r).key.2.2 = true from h2)]) mH
   ·refine skip (bN ?_);exact rdN hn0 s (by rw [if_neg (show ¬ (PT.node b q u h l r).key.2.2 = true from by rw [show (PT.node b q u h l r).key.2.2 = h from rfl,show h = false from h2]; exact Bool.false_ne_true)]) mH
  ·have hfd:=findN hr;rw [hzf] at hfd;have hfn:=find_none (t:=t) (a:=a) rfl hfd;refine bN (pN (seq (sg (co (Ev.to (v':=.pointer s.adr) (Ev.ldv fX (.t rfl) (ah.id _)) (rfl)) ?_))));refine co (Ev.eql_p Y247 (.t rfl) (.c rfl)) ?_;refine nP ?_;refine cnq rfl (fun h3=>?_) (fun h3=>?_)
   ·refine sg (co (Ev.bu (fs:=_) (places:=[(0,17),(17,1)]) mI rfl Y107 zk .nil ay.nil) ?_);refine cons (stv cB (ah.id _) (.t rfl) (.t rfl) ?_);refine ac (I 0) ?_;refine ac (.bool false) ?_;refine nP (ret (pR (doneM zr rfl rfl (.cellP rfl cB (br zm (ah.id _)) (.tmp rfl (.tmp rfl .nil))) (gD ?_))));have hg:t.find a = none:=by
     rcases hfn with g | ⟨g,_⟩
     ·exact g.2
     ·obtain ⟨b,q,u,h,l,r,rfl⟩:=PT.mK g;cases h3
    unfold jD; rw [if_pos hca,hg]; rfl
   ·refine skip (pN (seq ?_));replace hfn:=hfn.resolve_left (fun g=>by rw [g.1] at h3; cases h3);obtain ⟨b,q,u,h,l,r,rfl⟩:=PT.mK hfn.1;have hsx:PT.node b q u h l r ∈ PT.way z (PT.kid z.addr.v6 t.l t.r):=by rw [hzf]; exact hfn.1
    refine lO 4 rfl zr zk ?_;refine tk 0 rfl (Ev.to (v':=.pointer (some ⟨b,0,none⟩)) (Ev.ldv fX (.t rfl) (ah.id _)) (rfl)) ?_;refine tn 1 rfl rfl ?_;refine tk 2 rfl (fA 0 (.t rfl)) ?_;refine tk 3 rfl (Ev.load cB (.t rfl) (c9 (fun w I=>(PT.sM ((ht.cn I.keeps).kid z.addr.v6) hsx).1) av.l_p)) ?_;refine tk 4 rfl (Ev.to (v':=.pointer (some ⟨b,0,none⟩)) (Ev.ldv fX (.t rfl) (ah.id _)) (rfl)) ?_;refine tn 5 rfl rfl ?_;refine tk 6 rfl (fA 18 (.t rfl)) ?_;refine tk 7 rfl (Ev.load ty3 (.t rfl) (c9 (fun w I=>(PT.sM ((ht.cn I.keeps).kid z.addr.v6) hsx).1) av.l_v)) ?_;refine al1 8 rfl ((stv cB (ah.id _) (.t rfl) (.t rfl) ?_));refine hdn (tk 9 rfl (Ev.assign (.t rfl)) ?_);refine tk 10 rfl (Ev.assign (.c (v:=.bool true) rfl)) ?_;refine ovr (pN (ret (doneM zr rfl rfl (.cellP rfl cB (br zm (ah.id _)) (.tmp rfl (.tmp rfl .nil))) (gD ?_))));unfold jD; rw [if_pos hca,hfn.2]; rfl
  ·exfalso;have:∀ (xs:List PT) (s0 s:PT),RunsX (fun x s s'=>s' = if x.key.2.2 = true then x else s) (fun _ _ _ _=>False) c xs s0 s→False:=by
    intro xs
    induction xs with
    | nil=>intro _ _ h; exact h
    | cons x xs ih=>rintro s0 s (h | ⟨q,_,h⟩)
                    ·exact h
                    ·exact ih _ _ h
   exact this _ _ _ hr
end Go.Proofs.YtljifjflnakmoaaGreat.Tri
namespace Go.Proofs.YtljifjflnakmoaaGreat.Tri
open Go Go.Gx
theorem put_n {t x:Tt} {p:ae} {v:Int} (ho:t.OK) (hx:x.OK) (h:∀ y,y ∈ x.bK ↔ (y = (p,v) ∨ (y ∈ t.bK ∧ y.1 ≠ p))):x.n ≤ t.n + 1:=by
 have h1:=xb ho.nodup hx.nodup h;rw [ho.n,hx.n]
 rcases Classical.em (∃ y ∈ t.bK,y.1 = p) with g | g
 ·have:=h1.2 g;omega
 ·have:=h1.1 (fun y hy e=>g ⟨y,hy,e⟩);omega
def j2 (l:List bm):ae × Int→Prop:=l.foldl (fun Q r y=>y = (r.to_,r.out) ∨ (Q y ∧ y.1 ≠ r.to_)) (fun _=>False)
theorem pB (l:List bm) (r:bm) (y:ae × Int):j2 (l ++ [r]) y ↔ (y = (r.to_,r.out) ∨ (j2 l y ∧ y.1 ≠ r.to_)):=by
 unfold j2;rw [List.foldl_append];exact Iff.rfl
def ofR (l:List bm):Int:=if l.all (fun r=>decide (cN r.to_ = 0)) = true then 0 else 151
theorem checkP_01 (p:ae):cN p = 0 ∨ cN p = 151:=by
 unfold cN;split
 ·exact .inr rfl
 ·exact .inl rfl
def TofJ (l:List bm) (x:Tt × List Res):Prop:=ofR l = 0→(x.1.OK ∧ (∀ y,y ∈ x.1.bK ↔ j2 l y) ∧ x.1.n ≤ l.length ∧ ∀ w1,(∀ r ∈ x.2,r.A w1)→x.1.At w1)
theorem take_snoc' {α:Type} (l:List α) (i:Int) (h0:0 ≤ i) (h1:i < l.length) (z:α):l.take (i + 1).toNat = l.take i.toNat ++ [l.getD i.toNat z]:=by
 have e:(i + 1).toNat = i.toNat + 1:=by omega
 have hl:i.toNat < l.length:=by omega
 rw [e,List.take_add_one,List.getElem?_eq_getElem hl];simp [List.getD,hl]
theorem key_uniq {l:List (ae × Int)} (h:(l.map (·.1)).Nodup) {a b:ae × Int} (ha:a ∈ l) (hb:b ∈ l) (e:a.1 = b.1):a = b:=by
 induction l with
 | nil=>simp at ha
 | cons z l ih =>
   rw [List.map_cons,List.nodup_cons] at h
   rcases List.mem_cons.1 ha with ha | ha <;> rcases List.mem_cons.1 hb with hb | hb
   ·rw [ha,hb]
   ·exact absurd (List.mem_map.2 ⟨b,hb,by rw [← e,ha]⟩) h.1
   ·exact absurd (List.mem_map.2 ⟨a,ha,by rw [e,hb]⟩) h.1
   ·exact ih h.2 ha hb
theorem find_spec {t:Tt} (ho:t.OK) (a:aG):(∃ x ∈ t.bK,lM x.1 a = true ∧ jD t a = (x.1,x.2,true) ∧ ∀ y ∈ t.bK,lM y.1 a = true→fb y.1 x.1 = true) ∨ (jD t a = (aM.zero,0,false) ∧ ∀ y ∈ t.bK,lM y.1 a = false):=by
 by_cases hc:cG a = 0
 ·have hk:=keyLaw a.v6;have cl:=covLaw a.v6;have hfo:=su hc;cases hb:t.find a with
  | none =>
    refine .inr ⟨by unfold jD; rw [if_pos hc,hb],fun y hy=>?_⟩;have hn:=hk.best_none cl hfo (ho.kid a.v6) hb;cases hh:lM y.1 a with
    | false=>rfl
    | true =>
      have h2:=(nA hc).1 hh;exact absurd h2.2 (hn y ((ho.mem_k _ y).2 ⟨hy,h2.1.2⟩))
  | some x =>
    obtain ⟨h1,h2,h3⟩:=hk.best_some cl hfo (ho.kid a.v6) hb;have hx:=(ho.mem_k _ x).1 h1;have hox:okP a.v6 x.1:=((ho.kid a.v6).ia x h1).1;refine .inl ⟨x,hx.1,(nA hc).2 ⟨hox,h2⟩,by unfold jD; rw [if_pos hc,hb],fun y hy hh=>?_⟩;have h4:=(nA hc).1 hh;exact (oZ h4.1 hox).2 (h3 y ((ho.mem_k _ y).2 ⟨hy,h4.1.2⟩) h4.2)
 ·refine .inr ⟨by unfold jD; rw [if_neg hc],fun y _=>?_⟩;cases hh:lM y.1 a with
  | false=>rfl
  | true=>exact absurd ((lL _ _).1 hh).2.1 hc
theorem find_of {t:Tt} (ho:t.OK) {a:aG} {x:ae × Int} (hx:x ∈ t.bK) (hh:lM x.1 a = true) (hm:∀ y ∈ t.bK,lM y.1 a = true→y.1.bits ≤ x.1.bits):jD t a = (x.1,x.2,true):=by
 rcases find_spec ho a with ⟨z,h1,h2,h3,h4⟩ | ⟨h1,h2⟩
 ·have hc:=((lL _ _).1 hh).2.1;have oz:=((nA hc).1 h2).1;have ox:=((nA hc).1 hh).1;have e1:=(oZ ox oz).1 (h4 x hx hh);have e2:=hm z h1 h2;have n1:=ox.nn;have n2:=oz.nn;have e:x.1 = z.1:=pb_inj ox oz (l0 e1 (by simp; omega));rw [key_uniq ho.nodup hx h1 e];exact h3
 ·rw [h2 x hx] at hh;cases hh
theorem getD_in' {α:Type} (l:List α) (i:Nat) (d:α) (h:i < l.length):l.getD i d ∈ l:=by simp [List.getD,h]
theorem tof_ok (u:Value) (rs:List bm) (w:World) (hs:aO aX w u rs) (hl:rs.length ≤ 4611686018427387):Gx.Calls Tryz.prog 42 #[u] w (gL w (TofJ rs) (fun x=>.tuple #[.pointer (pO (ofR rs) x.1.b),I (ofR rs)]) (fun x=>x.2)):=by
 have hle:=hs.le;refine en0 41 Tryz.func42 (fun _ _=>?_);refine sg (ac (.pointer none) ?_);refine ac (I 0) ?_;refine nP (seq (sg (mv rfl (co (Ev.len Y23 (.t rfl) zf) ?_))));refine co (Ev.move (.c rfl)) ?_;refine nP (block (lp (X:=Int) (fun x=>(0 ≤ x ∧ x ≤ rs.length) ∧ (∀ j:Nat,j < x→cN (rs.getD j aX.zero).to_ = 0)) (fun x=>[dz,(0,true,u),(2,true,.pointer none),(3,true,I 0),(10,true,u),(11,true,I rs.length),(12,true,I x)]) (fun x=>[]) (fun x=>((rs.length:Int) - x).toNat) (0) ⟨?_,?_⟩ (fun x hx=>?_)))
 ·omega
 ·intro j h; omega
 obtain ⟨i,rfl⟩:∃ y,y = x:=⟨x,rfl⟩;obtain ⟨hi,hq⟩:(0 ≤ i ∧ i ≤ rs.length) ∧ (∀ j:Nat,j < i→cN (rs.getD j aX.zero).to_ = 0):=hx;refine sg (co (Ev.cj (.t rfl) (.t rfl)) ?_);refine nP (seq ?_);refine cnq rfl (fun h0=>?_) (fun h0=>?_)
 ·try simp only [nb] at h0
  refine skip (pN (seq (block (sg (co (Ev.indexAddr Y23 kZ (.t rfl) (.t rfl) zf (fun _=>zo)) ?_)))));refine co (Ev.bV kZ (.t rfl) zf (fun _=>zo)) ?_;refine cons (alloc z194 (fun b1=>?_));refine cons (stv kZ (ah.id _) (.t rfl) (.t rfl) ?_);refine nP (sg (cf 0 rfl ?_));refine co (Ev.ldv cB (.t rfl) bm.lj) ?_;refine cons (aQ eN (o1 rfl) (fun w I=>jh _ w) ?_);refine asn rfl (nP (sg (mv rfl (co (Ev.dS (.t rfl) (.c rfl)) ?_))));refine nP ?_;refine cnq rfl (fun h1=>?_) (fun h1=>?_)
  ·try simp only [nb] at h1
   refine sg (mv rfl (ac (.pointer none) ?_));refine asn rfl (nP (ret (bR (pR (pR (bR (pR (done rfl (.tmp rfl (.tmp rfl .nil)) (fun w I=>?_)))))))));have he:ofR rs = 151:=by
    unfold ofR;rw [if_neg];intro h;exact h1 (of_decide_eq_true (List.all_eq_true.1 h _ (getD_in' rs i.toNat aX.zero (by omega))))
   have hc:cN (rs.getD i.toNat aX.zero).to_ = 151:=(checkP_01 _).resolve_left h1;exact ft ((⟨0,true,0,.nil,.nil⟩:Tt),[]) (fun h=>by rw [he] at h; cases h) (by show _ = Value.tuple #[.pointer (pO (ofR rs) 0),Gx.I (ofR rs)]; rw [he,← hc]; unfold pO; rw [if_neg (show ¬ cN (rs.getD i.toNat aX.zero).to_ = 0 from h1)]; rfl) fU.nil w I
  ·try simp only [nb] at h1
   refine skip (bN (pN (region (co (Ev.bL (.t rfl) (.c rfl) (fun _=>zo)) ?_))));refine mv rfl (nP (nx (i + 1) ⟨?_,?_⟩ ?_))
   ·try dsimp only
    omega
   ·try dsimp only
    intro j hj
    by_cases e:(j:Int) < i
    ·exact hq j e
    ·obtain rfl:j = i.toNat:=by omega
     exact Decidable.not_not.1 h1
   ·try dsimp only
    omega
 ·try simp only [nb] at h0
  refine exit (pX (pX (bX (pN (seq ?_)))));have hgood:∀ r ∈ rs,cN r.to_ = 0:=fun r hr=>by
   obtain ⟨j,hj,rfl⟩:=List.mem_iff_getElem.1 hr;have:=hq j (by omega)
   simpa [List.getD,hj] using this
  have he0:ofR rs = 0:=by
   unfold ofR;rw [if_pos (List.all_eq_true.2 (fun r hr=>decide_eq_true (hgood r hr)))]
  refine region (cons (dB (X:=Tt) (fun x:Tt=>x.OK ∧ x.bK = [] ∧ x.made = true ∧ x.n = 0 ∧ x.l = .nil ∧ x.r = .nil) (fun x=>x.ptr.v) (fun x=>[Var x.b dT x.val 250]) eN .nil (fun w I=>wU w) (fun t0 ht0=>?_)));refine asn rfl (nP (seq (sg (mv rfl (co (Ev.len Y23 (.t rfl) zf) ?_)))));refine co (Ev.move (.c rfl)) ?_;refine nP (block (lp (X:=Int × Tt × (List Res)) (fun x=>(0 ≤ x.1 ∧ x.1 ≤ rs.length) ∧ (x.2.1.OK) ∧ (x.2.1.n ≤ x.1) ∧ (∀ y,y ∈ x.2.1.bK ↔ j2 (rs.take x.1.toNat) y) ∧ (∀ w1:World,(∀ r ∈ x.2.2,r.A w1)→x.2.1.At w1)) (fun x=>[dz,(7,true,x.2.1.ptr.v),(24,true,u),(25,true,I rs.length),(26,true,I x.1)]) (fun x=>x.2.2) (fun x=>((rs.length:Int) - x.1).toNat) (0,t0,[Var t0.b dT t0.val 250]) ⟨?_,?_,?_,?_,?_⟩ (fun x hx=>?_)))
  ·omega
  ·exact ht0.1
  ·rw [ht0.2.2.2.1]; exact Int.le_refl _
  ·exact fun y=>by rw [ht0.2.1]; exact ⟨fun h=>(by simp at h),fun h=>h.elim⟩
  ·exact fun w1 h=>⟨eT (T:=250) h List.mem_cons_self,by rw [ht0.2.2.2.2.1]; trivial,by rw [ht0.2.2.2.2.2]; trivial⟩
  obtain ⟨i2,tt,Rs⟩:=x;dsimp only at hx;obtain ⟨hi2,hok,hn,hmm,hat⟩:=hx;refine sg (co (Ev.cj (.t rfl) (.t rfl)) ?_);refine nP (seq ?_);refine cnq rfl (fun h2=>?_) (fun h2=>?_)
  ·try simp only [nb] at h2
   refine skip (pN (seq (block (sg (co (Ev.indexAddr Y23 kZ (.t rfl) (.t rfl) zf (fun _=>zo)) ?_)))));refine co (Ev.bV kZ (.t rfl) zf (fun _=>zo)) ?_;refine cons (alloc z194 (fun b2=>?_));refine cons (stv kZ (ah.id _) (.t rfl) (.t rfl) ?_);refine nP ?_;have hck:cN (rs.getD i2.toNat aX.zero).to_ = 0:=hgood _ (getD_in' rs i2.toNat aX.zero (by omega));refine region (mv rfl (cf 0 rfl ?_));refine co (Ev.ldv cB (.t rfl) bm.lj) ?_;refine cf 18 rfl ?_;refine co (Ev.ldv ty3 (.t rfl) bm.jB) ?_;refine cons (dB (X:=Tt × List Res) (TputJ tt (rs.getD i2.toNat aX.zero).to_ (rs.getD i2.toNat aX.zero).out) (fun x=>.tuple #[.pointer (pO (cN (rs.getD i2.toNat aX.zero).to_) x.1.b),I (cN (rs.getD i2.toNat aX.zero).to_)]) (fun x=>x.2) eN (o3 rfl rfl rfl) (fun w I=>tput_ok tt _ _ w (hat w (fun r hr=>(I.own r (by repeat first | exact hr | apply List.Mem.tail)).1)) hok (by omega)) (fun x1 hx1=>?_));refine mv rfl (co (Ev.to (v':=x1.1.ptr.v) (Ev.extract (.t rfl) rfl) (congrArg Value.pointer (if_pos hck))) ?_);refine cx rfl rfl (asn rfl (nil (bN (pN ?_))));obtain ⟨hok1,hmm1,hat1⟩:=hx1 hck;have hn1:=put_n hok hok1 hmm1;refine region (co (Ev.bL (.t rfl) (.c rfl) (fun _=>zo)) ?_);refine mv rfl (nP (nx (i2 + 1,x1.1,x1.2 ++ Rs) ⟨?_,?_,?_,?_,?_⟩ ?_ (hL:=(by first | exact List.Sublist.refl _ | (apply List.Sublist.append_left; repeat first | exact List.Sublist.refl _ | apply List.Sublist.cons)))))
   ·try dsimp only
    omega
   ·try dsimp only
    exact hok1
   ·try dsimp only
    omega
   ·try dsimp only
    exact fun y=>by rw [take_snoc' rs i2 hi2.1 (by omega) aX.zero,pB,hmm1,hmm]
   ·try dsimp only
    exact fun w1 h=>hat1 w1 (hat w1 (fun r hr=>h r (List.mem_append_right _ hr))) (fun r hr=>h r (List.mem_append_left _ hr))
   ·try dsimp only
    omega
  ·try simp only [nb] at h2
   refine exit (pX (pX (bX (pN (sg (mv rfl (asn rfl (ac (I 0) ?_))))))));refine nP (ret (done rfl (.tmp rfl (.tmp rfl .nil)) (fun w I=>?_)));have hi9:i2.toNat = rs.length:=by omega
   rw [hi9,List.take_length] at hmm;refine ft (tt,Rs) (fun _=>⟨hok,hmm,by show tt.n ≤ rs.length; omega,hat⟩) (by show _ = Value.tuple #[.pointer (pO (ofR rs) tt.b),Gx.I (ofR rs)]; rw [he0]; rfl) (fU.of (List.Sublist.refl _)) w I
end Go.Proofs.YtljifjflnakmoaaGreat.Tri
namespace Go.Proofs.YtljifjflnakmoaaGreat
open Go Go.Gx
def bD (h:aa):Int:=bif h.src.v6 then 40 else 20
def cI (p:UInt8):Int:=if p = 6 then 20 else if p = 17 then 8 else 0
def atN (p:UInt8):Int:=if p = 6 then 16 else 6
def dH (h:aa) (n:Int):Int :=
 if cG h.src ≠ 0 ∨ cG h.dst ≠ 0 ∨ h.src.v6 ≠ h.dst.v6 ∨ (bif h.src.v6 then 1048575 else 65535) < h.id then 2
 else if cI h.aC = 0 ∧ (h.bB ≠ 0 ∨ h.bC ≠ 0) ∨ h.aC ≠ 6 ∧ (h.flags ≠ 0 ∨ h.seq ≠ 0) then 2
 else if 2048 < bD h + cI h.aC + n then 4 else 0
def cW (a:aG):List UInt8:=a.b.toList.take (bif a.v6 then 16 else 4)
theorem front_ok (h:aa) (w:World):Gx.Calls Tryz.prog 75 #[aA.val h] w (bG w (I (bD h))):=by
 refine en0 6 Tryz.func75 (fun _ _=>?_);exact s27
theorem rfront_ok (h:aa) (w:World):Gx.Calls Tryz.prog 47 #[aA.val h] w (bG w (I (bD h))):=by
 refine en0 6 Tryz.func47 (fun _ _=>?_);exact s27
theorem nR (p:UInt8) (w:World):Gx.Calls Tryz.prog 50 #[U8 p] w (bG w (I (cI p))):=by
 refine en0 8 Tryz.func50 (fun _ _=>?_);exact s23
theorem tc (p:UInt8) (w:World):Gx.Calls Tryz.prog 46 #[U8 p] w (bG w (I (cI p))):=by
 refine en0 8 Tryz.func46 (fun _ _=>?_);exact s23
theorem at_ok (p:UInt8) (w:World):Gx.Calls Tryz.prog 52 #[U8 p] w (bG w (I (atN p))):=by
 refine en0 5 Tryz.func52 (fun _ _=>?_);refine sg (ac (I 0) ?_);refine nP (seq (sg (mv rfl (co (Ev.jQ (.t rfl) (.c (v:=U8 6) rfl)) ?_))));refine nP ?_;refine cnd rfl (fun h0=>?_) (fun h0=>?_)
 ·refine sg (ac (I 16) ?_);refine nP (ret (pR (dn rfl rfl ?_)));simp [atN, *]
 ·refine skip (pN (sg (ac (I 6) ?_)));refine nP (ret (dn rfl rfl ?_));simp [atN, *]
theorem sP:tyI 83 u32E:=tyP
theorem cJ:tyI 85 aA:=tyP
theorem oe:tyI 48 (ovE ai):=tyP
theorem vB (h:aa) (d:List UInt8) (w:World) (hd:aO u8E w h.data.v d) (hl:d.length ≤ 1152921504606846975):Gx.Calls Tryz.prog 48 #[aA.val h] w (bG w (I (dH h d.length))):=by
 have hfl:0 ≤ bD h ∧ bD h ≤ 40:=by unfold bD; cases h.src.v6 <;> decide
 have hml:0 ≤ cI h.aC ∧ cI h.aC ≤ 20:=by unfold cI; split <;> (try split) <;> decide
 refine en0 67 Tryz.func48 (fun _ _=>?_);refine sg (cons (box (E:=aA) (.t rfl) (fun b1=>?_)));refine ac (I 0) ?_;refine nP (sg (ac (U32 65535) ?_));refine nP (cut (X:=UInt32) (fun x=>(x = bif h.src.v6 then 1048575 else 65535)) (fun x=>[dz,(1,true,pvb b1),(3,true,U32 x)]) (fun x=>[Var b1 aA h 85]) ?_ (fun x hx=>?_))
 ·refine sg (cf 0 rfl ?_);refine cf 0 rfl ?_;refine co (Ev.ldx h.src.v6 ty4 (.t rfl) (ah.comp aa.eF aG.jP)) ?_;refine nP ?_;refine cnd rfl (fun h0=>?_) (fun h0=>?_)
  ·refine region (ac (U32 1048575) ?_);refine nP (mt (_) ?_)
   ·exact s52
  ·refine skip (pN (mt (_) ?_))
   ·exact s52
 obtain ⟨m,rfl⟩:∃ y,y = x:=⟨x,rfl⟩;have hm:m = bif h.src.v6 then 1048575 else 65535:=hx;clear hx;refine sg (cf 34 rfl ?_);refine co (Ev.ldx h.aC ty5 (.t rfl) aa.bS) ?_;refine cons (aQ eN (o1 rfl) (fun w I=>nR _ w) ?_);refine asn rfl (nP (seq (block (cut (X:=Bool) (fun x=>(x = true ↔ (cG h.src ≠ 0 ∨ cG h.dst ≠ 0 ∨ h.src.v6 ≠ h.dst.v6 ∨ m < h.id))) (fun x=>[dz,(1,true,pvb b1),(4,true,I (cI h.aC)),(11,true,.bool x)]) (fun x=>[Var b1 aA h 85]) ?_ (fun x hx=>?_)))))
 ·refine sg (cf 0 rfl ?_);refine co (Ev.ldx h.src eM (.t rfl) aa.eF) ?_;refine cons (aQ eN (o1 rfl) (fun w I=>n8 _ w) ?_);refine co (Ev.dS (.t rfl) (.c rfl)) ?_;refine asn rfl (nP ?_);refine cnd rfl (fun h1=>?_) (fun h1=>?_)
  ·refine skip (pN (mt (_) ?_))
   ·try dsimp only
    simp_all
  ·refine sg (cf 17 rfl ?_);refine co (Ev.ldx h.dst eM (.t rfl) aa.fx) ?_;refine cons (aQ eN (o1 rfl) (fun w I=>n8 _ w) ?_);refine co (Ev.dS (.t rfl) (.c rfl)) ?_;refine asn rfl (nP ?_);refine cnd rfl (fun h2=>?_) (fun h2=>?_)
   ·refine skip (pN (mt (_) ?_))
    ·try dsimp only
     simp_all
   ·refine sg (cf 0 rfl ?_);refine cf 0 rfl ?_;refine co (Ev.ldx h.src.v6 ty4 (.t rfl) (ah.comp aa.eF aG.jP)) ?_;refine cf 17 rfl ?_;refine cf 0 rfl ?_;refine co (Ev.ldx h.dst.v6 ty4 (.t rfl) (ah.comp aa.fx aG.jP)) ?_;refine co (Ev.neq_b Y4 (.t rfl) (.t rfl)) ?_;refine asn rfl (nP ?_);refine cnd rfl (fun h3=>?_) (fun h3=>?_)
    ·refine skip (pN (mt (_) ?_))
     ·try dsimp only
      simp_all
    ·refine region (cf 39 rfl ?_);refine co (Ev.ldx h.id sP (.t rfl) aa.tN) ?_;refine mv rfl (co (Ev.gtr_u32 (.t rfl) (.t rfl)) ?_);refine asn rfl (nP (mt (_) ?_))
     ·try dsimp only
      simp_all
 obtain ⟨c,rfl⟩:∃ y,y = x:=⟨x,rfl⟩;have hc:c = true ↔ (cG h.src ≠ 0 ∨ cG h.dst ≠ 0 ∨ h.src.v6 ≠ h.dst.v6 ∨ m < h.id):=hx;clear hx;refine cnq rfl (fun h4=>?_) (fun h4=>?_)
 ·refine sg (ac (I 2) ?_);refine nP (ret (bR (pR (dn rfl rfl ?_))));unfold dH;rw [← hm,if_pos (hc.1 h4)]
  rfl
 ·refine cut (X:=Bool) (fun x=>(x = true ↔ (cI h.aC = 0 ∧ (h.bB ≠ 0 ∨ h.bC ≠ 0) ∨ h.aC ≠ 6 ∧ (h.flags ≠ 0 ∨ h.seq ≠ 0)))) (fun x=>[dz,(1,true,pvb b1),(4,true,I (cI h.aC)),(31,true,.bool x)]) (fun x=>[Var b1 aA h 85]) ?_ (fun x hx=>?_)
  ·refine sg (mv rfl (co (Ev.dO (.t rfl) (.c rfl)) ?_));refine mv rfl (cg rfl rfl (fA 35 (.t rfl)) ?_);refine cg rfl rfl (Ev.ldx h.bB iW (.g rfl id) aa.cS) ?_;refine cg rfl rfl (Ev.sb (.g rfl id) (.c (v:=U16 0) rfl)) ?_;refine cg rfl rfl (Ev.move (.g rfl id)) ?_;refine cg rfl rfl (fA 36 (.t rfl)) ?_;refine cg rfl rfl (Ev.ldx h.bC iW (.g rfl id) aa.cT) ?_;refine cg rfl rfl (Ev.sb (.g rfl id) (.c (v:=U16 0) rfl)) ?_;refine cg rfl rfl (Ev.pkO (.g rfl id) rfl) ?_;refine co (Ev.pkA (.t rfl) rfl) ?_;refine asn rfl (nP ?_);refine cnd rfl (fun h5=>?_) (fun h5=>?_)
   ·refine skip (pN (mt (_) ?_))
    ·exact s63
   ·refine region (cf 34 rfl ?_);refine co (Ev.ldx h.aC ty5 (.t rfl) aa.bS) ?_;refine co (Ev.lu (.t rfl) (.c (v:=U8 6) rfl)) ?_;refine mv rfl (cg rfl rfl (fA 40 (.t rfl)) ?_);refine cg rfl rfl (Ev.ldx h.flags ty5 (.g rfl id) aa.nV) ?_;refine cg rfl rfl (Ev.lu (.g rfl id) (.c (v:=U8 0) rfl)) ?_;refine cg rfl rfl (Ev.move (.g rfl id)) ?_;refine cg rfl rfl (fA 41 (.t rfl)) ?_;refine cg rfl rfl (Ev.ldx h.seq sP (.g rfl id) aa.vN) ?_;refine cg rfl rfl (Ev.neq_u32 (.g rfl id) (.c (v:=U32 0) rfl)) ?_;refine cg rfl rfl (Ev.pkO (.g rfl id) rfl) ?_;refine co (Ev.pkA (.t rfl) rfl) ?_;refine asn rfl (nP (mt (_) ?_))
    ·exact s63
  obtain ⟨c2,rfl⟩:∃ y,y = x:=⟨x,rfl⟩;have hc2:c2 = true ↔ (cI h.aC = 0 ∧ (h.bB ≠ 0 ∨ h.bC ≠ 0) ∨ h.aC ≠ 6 ∧ (h.flags ≠ 0 ∨ h.seq ≠ 0)):=hx;clear hx;refine cnq rfl (fun h6=>?_) (fun h6=>?_)
  ·refine sg (ac (I 2) ?_);refine nP (ret (bR (pR (dn rfl rfl ?_))));unfold dH;rw [← hm,if_neg (fun e=>by rw [hc.2 e] at h4; cases h4),if_pos (hc2.1 h6)]
   rfl
  ·refine seq (dA zk ?_);refine tk 0 rfl (Ev.ldx h cJ (.t rfl) (ah.id _)) ?_;refine tm 2 rfl rfl ?_;refine tk 4 rfl (fA 42 (.t rfl)) ?_;refine tk 5 rfl (Ev.ldx h.data oe (.t rfl) aa.ly) ?_;refine tk 6 rfl (Ev.len Y48 (.t rfl) zf) ?_;refine al1 1 rfl ((aQ eN (o1 rfl) (fun w I=>front_ok _ w) ?_));refine hdn (tk 3 rfl (Ev.bL (.t rfl) (.t rfl) (fun _=>zo)) ?_);refine tk 7 rfl (Ev.bL (.t rfl) (.t rfl) (fun _=>zo)) ?_;refine tk 8 rfl (Ev.ir (.t rfl) (.c rfl)) ?_;refine tk 9 rfl (Ev.assign (.t rfl)) ?_;refine ovr (pN ?_);refine cnd rfl (fun h7=>?_) (fun h7=>?_)
   ·refine sg (ac (I 4) ?_);refine nP (ret (bR (pR (dn rfl rfl ?_))));exact s40
   ·refine skip (bN (pN (sg (ac (I 0) ?_))));refine nP (ret (dn rfl rfl ?_));exact s40
end Go.Proofs.YtljifjflnakmoaaGreat
