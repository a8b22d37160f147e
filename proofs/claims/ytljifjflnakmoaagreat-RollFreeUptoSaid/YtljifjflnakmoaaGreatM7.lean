/- Part. -/
import Derived.Test.YtljifjflnakmoaaGreatM6
import Derived.Test.YtljifjflnakmoaaGreatM2
set_option linter.unusedVariables false
set_option linter.unusedSimpArgs false
set_option linter.unusedSectionVars false
set_option maxRecDepth 100000
set_option maxHeartbeats 2000000
namespace Go.Proofs.YtljifjflnakmoaaGreat
open Go Go.Gx Go.Proofs.YtljifjflnakmoaaGreat.Tri Go.Proofs.YtljifjflnakmoaaGreat.Oc
def Bxs:List Nat→Res
 | []=>Emp
 | b :: r=>Sep (Var b iE (r.length:Int) 3) (Bxs r)
theorem bxs_at {w:World}:∀ (bs:List Nat) (i:Nat),i < bs.length→(Bxs bs).A w→cq iE w (bs.getD (bs.length - 1 - i) 0) 0 (i:Int)
 | b :: r,i,hi,⟨h1,h2,_⟩=>by
   simp only [List.length_cons] at hi
   by_cases e:i = r.length
   ·subst e;rw [List.length_cons,Nat.add_sub_cancel,Nat.sub_self];exact gE (E:=iE) h1
   ·have:=bxs_at r i (by omega) h2;rw [List.length_cons,show r.length + 1 - 1 - i = (r.length - 1 - i) + 1 by omega];exact this
theorem boxIn {K:Ctx} {F:Fr} {L L1 L':List Res} {X:Act→World→Prop} {b:Nat} {bs:List Nat} (h1:Rem L (Var b iE (bs.length:Int) 3) L1) (h2:Rem L1 (Bxs bs) L') (next:Sat K X F (Bxs (b :: bs) :: L')):Sat K X F L:=px h1 h2 next
def pZ (cap:Nat→List Value):List Nat→List OV
 | []=>[]
 | b :: r=>pZ cap r ++ [clo 21 (cap b)]
theorem sw (cap:Nat→List Value):∀ bs:List Nat,pZ cap bs = (List.range bs.length).map fun i=>clo 21 (cap (bs.getD (bs.length - 1 - i) 0))
 | []=>rfl
 | b :: r=>by
   rw [pZ,sw cap r,List.length_cons,List.range_succ,List.map_append]
   congr 1
   ·refine List.map_congr_left fun i hi=>?_
    have:=List.mem_range.1 hi;rw [show r.length + 1 - 1 - i = (r.length - 1 - i) + 1 by omega]
    rfl
   ·simp
theorem fnsB_range (cap:Nat→List Value) (n:Nat):FnsB ((List.range n).map fun i=>clo 21 (cap i)):=fun i hi=>⟨cap i,by
 simp only [List.length_map,List.length_range] at hi;simp [List.getD,hi]⟩
def capB (g d r s k:Nat):List Value:=[.pointer (some ⟨g,0,none⟩),.pointer (some ⟨k,0,none⟩),.pointer (some ⟨d,0,none⟩),.pointer (some ⟨r,0,none⟩),.pointer (some ⟨s,0,none⟩)]
theorem tW (cap:Nat→List Value) (bs:List Nat):(pZ cap bs).length = bs.length:=by rw [sw]; simp
theorem getD_old {α:Type} {l:List α} {z:α} {k:Nat} (l2:List α) (h:k < l.length):(l ++ l2).getD k z = l.getD k z:=by simp [List.getD,List.getElem?_append,h]
theorem getD_new {α:Type} {l:List α} {v z:α}:(l ++ [v]).getD l.length z = v:=by simp [List.getD]
def subO (o:OV) (k:Nat):OV:=⟨lD cP.size o.v 0 k,subS_one _ _ _ _ o.one⟩
def jT (w:World) (us:List OV) (rows:Nat→List a8):Prop:=∀ k,k < us.length→aO cP w (us.getD k ai).v (rows k)
def xu (us:List OV) (rows:Nat→List a8) (k:Nat):List a8:=if us.length = 0 then [] else (rows k).take 12
theorem rows_add {w:World} {us xs:List OV} {rows:Nat→List a8} {i:Nat} {n:Nat} (h:jT w us rows) (hx:jT w xs fun k=>(rows k).take 12) (hi:i < us.length) (hl:xs.length = i) (hn:n = min (rows i).length 12):jT w (xs ++ [subO (us.getD i ai) n]) fun k=>(rows k).take 12:=fun k hk=>by
 rw [List.length_append,List.length_singleton] at hk
 by_cases e:k < xs.length
 ·rw [getD_old _ e]; exact hx k e
 ·obtain rfl:k = xs.length:=by omega
  rw [getD_new];have h1:=(h i hi).sub (Nat.zero_le n) (by rw [hn]; exact Nat.min_le_left _ _);rw [List.drop_zero] at h1;subst hl;have e2:(rows xs.length).take 12 = (rows xs.length).take n:=by
   rw [hn]
   by_cases h12:(rows xs.length).length ≤ 12
   ·rw [Nat.min_eq_left h12,List.take_of_length_le h12,List.take_length]
   ·rw [Nat.min_eq_right (by omega)]
  show aO _ w _ ((rows xs.length).take 12);rw [e2];exact h1
theorem fewR_len (us:List OV) (rows:Nat→List a8) (k:Nat):(xu us rows k).length ≤ 12:=by
 unfold xu;split
 ·exact Nat.zero_le _
 ·rw [List.length_take]; omega
structure FewJ (us:List OV) (rows:Nat→List a8) (xs:List OV):Prop where
 pos:1 ≤ xs.length
 few:xs.length ≤ 6
 le:us.length ≠ 0→xs.length ≤ us.length
 at_:∀ w,jT w us rows→jT w xs (xu us rows)
theorem few_some {us:List OV} {rows:Nat→List a8} {xs:List OV} (h1:1 ≤ xs.length) (h2:xs.length ≤ 6) (h3:xs.length ≤ us.length) (h:∀ w,jT w us rows→jT w xs fun k=>(rows k).take 12):FewJ us rows xs:=⟨h1,h2,fun _=>h3,fun w hw k hk=>by
 unfold xu;rw [if_neg (by omega)];exact h w hw k hk⟩
theorem few_none {us:List OV} {rows:Nat→List a8} (h:us.length = 0):FewJ us rows [ai]:=⟨Nat.le_refl _,by decide,fun e=>absurd h e,fun w hw k hk=>by
 obtain rfl:k = 0:=by simpa using hk
 unfold xu;rw [if_pos h];exact aO.nil _ w⟩
def kX (a n:Int):Int:=if a.tmod n < 0 then a.tmod n + n else a.tmod n
theorem within_in {a n:Int} (h:0 < n):0 ≤ kX a n ∧ kX a n < n:=by
 have h1:=Int.lt_tmod_of_pos a h;have h2:=Int.tmod_lt_of_pos a h;unfold kX;split <;> omega
structure PX where
 run:OV
 C:Nat
 C2:Nat
 g:Nat
 s:Nat
 d:Nat
 r:Nat
 ks:List Nat
def ky (C n:Nat):OV:=⟨.slice (some ⟨C,0,none⟩) n n,rfl⟩
def pt3O (b:Nat):OV:=⟨.pointer (some ⟨b,0,none⟩),rfl⟩
def PX.cap (x:PX):Nat→List Value:=capB x.g x.d x.r x.s
def PX.R (x:PX) (b:Nat) (u:OV) (cnt:Nat):List Res:=[aT x.run.v (ovE cK) (pZ x.cap x.ks) 98,qV x.C cnt (.bool false) 4,qV x.C2 cnt ai.v 95,Var x.g (ovE ai) (ky x.C cnt) 41,Var x.s (ovE ai) (ky x.C2 cnt) 40,Var x.d (ovE ai) u 32,Var x.r (ovE bP) (pt3O b) 35,Bxs x.ks]
end Go.Proofs.YtljifjflnakmoaaGreat
namespace Go.Proofs.YtljifjflnakmoaaGreat
open Go Go.Gx Go.Proofs.YtljifjflnakmoaaGreat.Tri Go.Proofs.YtljifjflnakmoaaGreat.Oc
theorem z78:zI 78 (ovE ai):=kI
theorem zb78:zbI 78 (ovE ai) 24:=kB
theorem zs78:zsI (ovE ai):=zsP _
theorem few_ok (u:Value) (us:List OV) (rows:Nat→List a8) (w:World) (hu:aO (ovE ai) w u us) (hr:jT w us rows):Gx.Calls Tryz.prog 8 #[u] w (gL w (fun o:OV × List OV=>FewJ us rows o.2) (fun o=>o.1.v) (fun o=>[aT o.1.v (ovE ai) o.2 78])):=by
 have hle:=hu.le;refine en0 36 Tryz.func8 (fun _ _=>?_);refine sg (ac (.slice none 0 0) ?_);refine nP (sg (ac (.slice none 0 0) ?_));refine dD (ovE ai) 78 ?_;refine nP (seq (sg (ac (I 0) ?_)));refine nP (block (lp (X:=Int × OV × (List OV)) (fun x=>(0 ≤ x.1 ∧ x.1 ≤ us.length ∧ x.1 ≤ 6) ∧ ((x.2.2.length:Int) = x.1) ∧ (∀ w,jT w us rows→jT w x.2.2 fun k=>(rows k).take 12)) (fun x=>[dz,(0,true,u),(3,true,x.2.1.v),(4,true,I x.1)]) (fun x=>[aT x.2.1.v (ovE ai) x.2.2 78]) (fun x=>(6 - x.1).toNat) (0,ai,[]) ⟨?_,?_,?_⟩ (fun x hx=>?_)))
 ·omega
 ·rfl
 ·intro w _ k hk; simp at hk
 obtain ⟨i,o,xs⟩:=x;dsimp only at hx;obtain ⟨hi,hxl,hx⟩:=hx;refine seq (sg (mv rfl (mv rfl (co (Ev.len Y32 (.t rfl) zf) ?_))));refine co (Ev.cj (.t rfl) (.t rfl)) ?_;refine mv rfl (cg rfl rfl (Ev.move (.t rfl)) ?_);refine cg rfl rfl (Ev.cj (.g rfl id) (.c rfl)) ?_;refine co (Ev.pkA (.t rfl) rfl) ?_;refine nP ?_;refine cnd rfl (fun h0=>?_) (fun h0=>?_)
 ·refine skip (pN (seq (block (drawR Rem.head zk ?_))));refine tm 0 rfl rfl ?_;refine tm 1 rfl rfl ?_;refine tm 2 rfl rfl ?_;refine tk 3 rfl (Ev.indexAddr Y32 rQ (.t rfl) (.t rfl) zf (fun _=>zo)) ?_;refine tk 4 rfl (Ev.bV rQ (.t rfl) zf (fun _=>zo)) ?_;refine tm 5 rfl rfl ?_;refine tm 6 rfl rfl ?_;refine tk 7 rfl (Ev.indexAddr Y32 rQ (.t rfl) (.t rfl) zf (fun _=>zo)) ?_;refine tk 8 rfl (Ev.bV rQ (.t rfl) zf (fun _=>zo)) ?_;refine tk 9 rfl (Ev.len Y78 (.t rfl) (fun w I=>(hr i.toNat (by omega)).aV I.keeps)) ?_;refine tk 10 rfl (Ev.to (v':=I (min (rows i.toNat).length 12:Nat)) (Ev.min_i (.t rfl) (.c rfl)) (congrArg I (by omega))) ?_;refine tk 11 rfl (Ev.to (v':=(subO (us.getD i.toNat ai) (min (rows i.toNat).length 12)).v) (Ev.qu Y78 ty87 (.t rfl) (.t rfl) (fun w I=>(hr i.toNat (by omega)).aV I.keeps) (fun _=>by omega)) (by rw [Int.toNat_natCast]; rfl)) ?_;refine al1 12 rfl ((buildSlice (E:=(ovE ai)) Y32 rQ z78 (.cons (.t rfl) .nil) rfl rfl (fun v1=>?_)));refine hdn (al1 13 rfl ((apz (E:=(ovE ai)) Y32 rQ zb78 zs78 (.t rfl) (.t rfl) (fun v2=>?_))));refine hdn (tk 14 rfl (Ev.assign (.t rfl)) ?_);refine ovr (bN (pN (region (mv rfl (co (Ev.bL (.t rfl) (.c rfl) (fun _=>zo)) ?_)))));refine asn rfl (nP (nxP (i + 1,v2,_) ⟨?_,?_,?_⟩ ?_))
  ·try dsimp only
   omega
  ·try dsimp only
   simp; omega
  ·try dsimp only
   exact fun w hw=>rows_add hw (hx w hw) (by omega) (by omega) rfl
  ·try dsimp only
   omega
 ·refine exit (pX (pX (bX (pN (seq (sg (mv rfl (co (Ev.len Y32 (.t rfl) zf) ?_))))))));refine co (Ev.dO (.t rfl) (.c rfl)) ?_;refine nP ?_;refine cnd rfl (fun h1=>?_) (fun h1=>?_)
  ·refine region (mv rfl (cons (buildSlice (E:=(ovE ai)) Y32 rQ z78 (.cons (.c (v:=(ovE ai).val (ovE ai).zero) rfl) .nil) rfl rfl (fun v3=>?_))));refine cons (apz (E:=(ovE ai)) Y32 rQ zb78 zs78 (.t rfl) (.t rfl) (fun v4=>?_));refine asn rfl (nP (sg (mv rfl (asn rfl (nP (ret (done rfl (.tmp rfl .nil) (fun w I=>?_))))))));obtain rfl:xs = []:=List.eq_nil_of_length_eq_zero (by omega);exact ft (v4,_) (few_none (by omega)) rfl zp w I
  ·refine skip (pN (sg (mv rfl (asn rfl (nP (ret (done rfl (.tmp rfl .nil) (fun w I=>?_))))))));exact ln (o,xs) (few_some (by omega) (by omega) (by omega) hx) rfl (List.cons_sublist_cons.2 (List.nil_sublist _)) w I
theorem pD (a n:Int) (w:World) (hn:0 < n ∧ n ≤ 1000):Gx.Calls Tryz.prog 17 #[I a,I n] w (bG w (I (kX a n))):=by
 have h1:=Int.lt_tmod_of_pos a hn.1;have h2:=Int.tmod_lt_of_pos a hn.1;refine en0 14 Tryz.func17 (fun _ _=>?_);refine sg (ac (I 0) ?_);refine nP (sg (mv rfl (mv rfl (co (Ev.rem_i (.t rfl) (.t rfl) (fun _=>zo)) ?_))));refine asn rfl (nP (seq (sg (mv rfl (co (Ev.cj (.t rfl) (.c rfl)) ?_)))));refine nP ?_;refine cnd rfl (fun h0=>?_) (fun h0=>?_)
 ·refine region (mv rfl (mv rfl (co (Ev.bL (.t rfl) (.t rfl) (fun _=>zo)) ?_)));refine asn rfl (nP (sg (mv rfl (asn rfl (nP (ret (dn rfl rfl ?_)))))));unfold kX; first | (rw [if_pos h0]; rfl) | (rw [if_neg h0]; rfl)
 ·refine skip (pN (sg (mv rfl (asn rfl (nP (ret (dn rfl rfl ?_)))))));unfold kX; first | (rw [if_pos h0]; rfl) | (rw [if_neg h0]; rfl)
theorem fit_ok (u:Value) (us:List au) (w:World) (hu:aO aS w u us):Gx.Calls Tryz.prog 5 #[u] w (gL w (fun o:OV × List au=>o.2.length ≤ 10) (fun o=>o.1.v) (fun o=>[aT o.1.v aS o.2 53])):=by
 have hle:=hu.le;refine en0 61 Tryz.func5 (fun _ _=>?_);refine sg (ac (.slice none 0 0) ?_);refine nP (sg (ac (.slice none 0 0) ?_));refine dD aS 53 ?_;refine nP (sg (ac (I 0) ?_));refine nP (seq (sg (ac (I 0) ?_)));refine nP (block (lp (X:=Int × Int × OV × (List au)) (fun x=>(0 ≤ x.1 ∧ x.1 ≤ us.length ∧ x.1 ≤ 10) ∧ (0 ≤ x.2.1 ∧ x.2.1 ≤ 100) ∧ ((x.2.2.2.length:Int) ≤ x.1)) (fun x=>[dz,(0,true,u),(3,true,x.2.2.1.v),(4,true,I x.2.1),(5,true,I x.1)]) (fun x=>[aT x.2.2.1.v aS x.2.2.2 53]) (fun x=>(10 - x.1).toNat) (0,0,ai,[]) ⟨?_,?_,?_⟩ (fun x hx=>?_)))
 ·omega
 ·exact ⟨Int.le_refl _,by decide⟩
 ·exact Int.le_refl _
 obtain ⟨i,last,o,xs⟩:=x;dsimp only at hx;obtain ⟨hi,hla,hxl⟩:=hx;refine seq (sg (mv rfl (mv rfl (co (Ev.len Y29 (.t rfl) zf) ?_))));refine co (Ev.cj (.t rfl) (.t rfl)) ?_;refine mv rfl (cg rfl rfl (Ev.move (.t rfl)) ?_);refine cg rfl rfl (Ev.cj (.g rfl id) (.c rfl)) ?_;refine co (Ev.pkA (.t rfl) rfl) ?_;refine nP ?_;refine cnd rfl (fun h0=>?_) (fun h0=>?_)
 ·refine skip (pN (seq (block (sg (ac (I 40) ?_)))));refine nP (cut (X:=Int) (fun x=>(1 ≤ x ∧ x ≤ 100)) (fun x=>[dz,(0,true,u),(3,true,o.v),(4,true,I last),(5,true,I i),(6,true,I x)]) (fun x=>[aT o.v aS xs 53]) ?_ (fun x hx=>?_))
  ·refine sg (mv rfl (co (Ev.dO (.t rfl) (.c rfl)) ?_));refine nP ?_;refine cnd rfl (fun h1=>?_) (fun h1=>?_)
   ·refine region (ac (I 100) ?_);refine nP (mt (_) ?_)
    ·try dsimp only
     omega
   ·refine skip (pN (mt (_) ?_))
    ·try dsimp only
     omega
  obtain ⟨st,rfl⟩:∃ y,y = x:=⟨x,rfl⟩;have hst:1 ≤ st ∧ st ≤ 100:=hx;clear hx;refine cut (X:=Nat × au) (fun x=>(0 ≤ x.2.parts ∧ x.2.parts ≤ 1000)) (fun x=>[dz,(0,true,u),(3,true,o.v),(4,true,I last),(5,true,I i),(7,true,pvb x.1)]) (fun x=>[Var x.1 aS x.2 53,aT o.v aS xs 53]) ?_ (fun x hx=>?_)
  ·obtain ⟨pv,hpv⟩:∃ z,(us.getD i.toNat aS.zero).parts = z:=⟨_,rfl⟩;have hwi:=within_in (a:=pv) (show 0 < st by omega);refine dA zk ?_;refine tm 0 rfl rfl ?_;refine tk 1 rfl (Ev.bL (.t rfl) (.c rfl) (fun _=>zo)) ?_;refine tm 2 rfl rfl ?_;refine tm 3 rfl rfl ?_;refine tk 4 rfl (Ev.indexAddr Y29 ju (.t rfl) (.t rfl) zf (fun _=>zo)) ?_;refine tk 5 rfl (Ev.gw (o:=0) (i:=i) (.t rfl) zf (fun _=>zo) zk) ?_;refine tk 6 rfl (Ev.to (v':=I pv) (Ev.pM ty3 au.fC rfl (.t rfl) zf (fun _=>zo)) (congrArg I hpv)) ?_;refine tm 7 rfl rfl ?_;refine tm 10 rfl rfl ?_;refine tm 11 rfl rfl ?_;refine tk 12 rfl (Ev.indexAddr Y29 ju (.t rfl) (.t rfl) zf (fun _=>zo)) ?_;refine tk 13 rfl (Ev.gw (o:=1) (i:=i) (.t rfl) zf (fun _=>zo) zk) ?_;refine tk 14 rfl (Ev.pM eO au.gP rfl (.t rfl) zf (fun _=>zo)) ?_;refine tk 15 rfl (Ev.wL (.t rfl) (.c (v:=U64 6) rfl) (fun _=>by decide)) ?_;refine tk 16 rfl (Ev.gK (.c (v:=U64 1) rfl) (.t rfl)) ?_;refine tm 17 rfl rfl ?_;refine tm 18 rfl rfl ?_;refine tk 19 rfl (Ev.indexAddr Y29 ju (.t rfl) (.t rfl) zf (fun _=>zo)) ?_;refine tk 20 rfl (Ev.gw (o:=2) (i:=i) (.t rfl) zf (fun _=>zo) zk) ?_;refine tk 21 rfl (Ev.pM eO au.jc rfl (.t rfl) zf (fun _=>zo)) ?_;refine tk 22 rfl (Ev.wL (.t rfl) (.c (v:=U64 4) rfl) (fun _=>by decide)) ?_;refine all [8,24] zk (by decide) (.cons rfl ?_ (.cons rfl ?_ .nil))
   ·refine (aQ eN (o2 rfl rfl) (fun w I=>pD _ _ w (by omega)) ?_);refine hdn (tk 9 rfl (Ev.bL (.t rfl) (.t rfl) (fun _=>zo)) ?_);refine tk 23 rfl (Ev.bu (fs:=_) (places:=[(0,1),(1,1),(2,1)]) z53 rfl Y53 zk (.cons (.t rfl) (.cons (.t rfl) (.cons (.t rfl) .nil))) (ay.cons au.fC rfl (ay.cons au.gP rfl (ay.cons au.jc rfl ay.nil)))) ?_;refine al1 24 rfl ((alloc z53 (fun b1=>?_)));refine hdn (al1 25 rfl ((stv ju (ah.id _) (.t rfl) (.t rfl) ?_)));exact s59
   ·refine (alloc z53 (fun b2=>?_));refine hdn (al1 8 rfl ((aQ eN (o2 rfl rfl) (fun w I=>pD _ _ w (by omega)) ?_)));refine hdn (tk 9 rfl (Ev.bL (.t rfl) (.t rfl) (fun _=>zo)) ?_);refine tk 23 rfl (Ev.bu (fs:=_) (places:=[(0,1),(1,1),(2,1)]) z53 rfl Y53 zk (.cons (.t rfl) (.cons (.t rfl) (.cons (.t rfl) .nil))) (ay.cons au.fC rfl (ay.cons au.gP rfl (ay.cons au.jc rfl ay.nil)))) ?_;refine al1 25 rfl ((stv ju (ah.id _) (.t rfl) (.t rfl) ?_));exact s59
  obtain ⟨b7,y⟩:=x;dsimp only at hx;have hy:=hx;clear hx;refine seq (sg (cf 0 rfl ?_));refine co (Ev.to (v':=I y.parts) (Ev.ldv ty3 (.t rfl) au.fC) (rfl)) ?_;refine co (Ev.ir (.t rfl) (.c rfl)) ?_;refine nP ?_;refine cnd rfl (fun h2=>?_) (fun h2=>?_)
  ·refine exit (pX (bO rfl (pX (pX (bX (pN (seq (sg (mv rfl (co (Ev.len Y29 (.t rfl) zf) ?_))))))))));exact s15
  ·refine skip (pN (sg (cf 0 rfl ?_)));refine co (Ev.to (v':=I y.parts) (Ev.ldv ty3 (.t rfl) au.fC) (rfl)) ?_;refine asn rfl (nP (region (mv rfl (co (Ev.ldv ju (.t rfl) (ah.id _)) ?_))));refine cons (buildSlice (E:=aS) Y29 ju z53 (.cons (.t rfl) .nil) rfl rfl (fun v5=>?_));refine cons (apz (E:=aS) Y29 ju zb53 zs53 (.t rfl) (.t rfl) (fun v6=>?_));refine asn rfl (nil (bN (pN (region (mv rfl (co (Ev.bL (.t rfl) (.c rfl) (fun _=>zo)) ?_))))));refine asn rfl (nP (nxP (i + 1,y.parts,v6,_) ⟨?_,?_,?_⟩ ?_))
   ·try dsimp only
    omega
   ·try dsimp only
    omega
   ·try dsimp only
    simp; omega
   ·try dsimp only
    omega
 ·refine exit (pX (pX (bX (pN (seq (sg (mv rfl (co (Ev.len Y29 (.t rfl) zf) ?_))))))));exact s15
end Go.Proofs.YtljifjflnakmoaaGreat
namespace Go.Proofs.YtljifjflnakmoaaGreat
open Go Go.Gx Go.Proofs.YtljifjflnakmoaaGreat.Tri Go.Proofs.YtljifjflnakmoaaGreat.Oc
theorem z40:zI 40 (ovE ai):=kI
theorem z41:zI 41 (ovE ai):=kI
theorem z98:zI 98 (ovE cK):=kI
theorem zb98:zbI 98 (ovE cK) 8:=kB
theorem zs98:zsI (ovE cK):=zsP _
theorem passes_ok (b:Nat) (u:OV) (dos:List OV) (cnt:Nat) (w:World) (hu:aO (ovE ai) w u.v dos) (hc:dos.length = cnt) (h6:cnt ≤ 6):Gx.Calls Tryz.prog 7 #[.pointer (some ⟨b,0,none⟩),u.v] w (gL w (fun z:PX=>z.ks.length = cnt) (fun z=>.tuple #[z.run.v,(ky z.C2 cnt).v,(ky z.C cnt).v]) (fun z=>z.R b u cnt)):=by
 have hle:=hu.le;refine en0 28 Tryz.func7 (fun _ _=>?_);refine sg (cons (box (E:=(ovE bP)) (.t (v:=(pt3O b).v) rfl) (fun b1=>?_)));refine cons (box (E:=(ovE ai)) (.t (v:=u.v) rfl) (fun b2=>?_));refine ac (.slice none 0 0) ?_;refine dD (ovE cK) 98 ?_;refine cons (alloc z40 (fun b3=>?_));refine cons (alloc z41 (fun b4=>?_));refine nP (sg (co (Ev.ldv ty32 (.t rfl) (ah.id _)) ?_));refine co (Ev.to (v':=I cnt) (Ev.len Y32 (.t rfl) zf) (congrArg I (by omega))) ?_;refine cons (makeRowV (ovE ai) ai (n:=cnt) (by_:=24) Y40 zk rfl rfl (by decide) (.t rfl) (.t rfl) (by omega) (fun C2=>?_));refine cons (stv ty40 (ah.id _) (.t rfl) (.t (v:=(ky C2 cnt).v) rfl) ?_);refine nP (sg (co (Ev.ldv ty32 (.t rfl) (ah.id _)) ?_));refine co (Ev.to (v':=I cnt) (Ev.len Y32 (.t rfl) zf) (congrArg I (by omega))) ?_;refine cons (makeRowV bE false (n:=cnt) (by_:=1) Y41 zk rfl rfl (by decide) (.t rfl) (.t rfl) (by omega) (fun C=>?_));refine cons (stv wA (ah.id _) (.t rfl) (.t (v:=(ky C cnt).v) rfl) ?_);refine nP (seq (seq (emp0 ?_)));refine region (cons (alloc z3 (fun b5=>?_)));refine cons (stv ty3 (ah.id _) (.t rfl) (.c rfl) ?_);refine nP (block (lp (X:=(List Nat) × Nat × OV) (fun x=>(x.1.length ≤ cnt)) (fun x=>[dz,(2,true,pvb b1),(3,true,pvb b2),(5,true,pvb b3),(6,true,pvb b4),(4,true,x.2.2.v),(7,true,pvb x.2.1)]) (fun x=>[Var x.2.1 iE (x.1.length:Int) 3,Bxs x.1,qV C cnt (.bool false) 4,qV C2 cnt ai.v 95,Var b4 (ovE ai) (ky C cnt) 41,Var b3 (ovE ai) (ky C2 cnt) 40,aT x.2.2.v (ovE cK) (pZ (capB b4 b2 b1 b3) x.1) 98,Var b2 (ovE ai) u 32,Var b1 (ovE bP) (pt3O b) 35]) (fun x=>cnt - x.1.length) ([],b5,ai) ?_ (fun x hx=>?_)))
 ·exact Nat.zero_le _
 obtain ⟨ks,kb,orun⟩:=x;dsimp only at hx;have hks:=hx;clear hx;have hfl:(pZ (capB b4 b2 b1 b3) ks).length = ks.length:=tW _ ks;refine seq (sg (co (Ev.to (v':=I ks.length) (Ev.ldv ty3 (.t rfl) (ah.id _)) (rfl)) ?_));refine co (Ev.ldv ty32 (.t rfl) (ah.id _)) ?_;refine co (Ev.to (v':=I cnt) (Ev.len Y32 (.t rfl) zf) (congrArg I (by omega))) ?_;refine co (Ev.cj (.t rfl) (.t rfl)) ?_;refine nP ?_;refine cnd rfl (fun h0=>?_) (fun h0=>?_)
 ·refine skip (pN (seq (block (region (mv rfl (co (Ev.makeFunc (f:=21) (.cons (.t rfl) (.cons (.t rfl) (.cons (.t rfl) (.cons (.t rfl) (.cons (.t rfl) .nil)))))) ?_))))));refine cons (buildSlice (E:=(ovE cK)) Y39 ty98 z98 (.cons (.t rfl) .nil) rfl rfl (fun v6=>?_));refine cons (apz (E:=(ovE cK)) Y39 ty98 zb98 zs98 (.t rfl) (.t rfl) (fun v7=>?_));refine asn rfl (nil (bN (pN (seq (sg (co (Ev.to (v':=I ks.length) (Ev.ldv ty3 (.t rfl) (ah.id _)) (rfl)) ?_))))));refine nP (boxIn (bs:=ks) zr zr ?_);refine region (cons (alloc z3 (fun b8=>?_)));refine cons (stv ty3 (ah.id _) (.t rfl) (.t rfl) ?_);refine nP (region (co (Ev.to (v':=I ks.length) (Ev.ldv ty3 (.t rfl) (ah.id _)) (rfl)) ?_));refine co (Ev.to (v':=I ((kb :: ks).length:Nat)) (Ev.bL (.t rfl) (.c rfl) (fun _=>by omega)) (congrArg I (by simp))) ?_;refine cons (stv ty3 (ah.id _) (.t rfl) (.t rfl) ?_);refine nP (nxP (kb :: ks,b8,v7) ?_ ?_)
  ·try dsimp only
   simp; omega
  ·try dsimp only
   simp; omega
 ·refine exit (pX (pX (bX (pN (seq (draw [Var b4 (ovE ai) (ky C cnt) 41,Var b3 (ovE ai) (ky C2 cnt) 40] zk ?_))))));refine tm 0 rfl rfl ?_;refine tk 1 rfl (Ev.ldv ty40 (.t rfl) (ah.id _)) ?_;refine tk 2 rfl (Ev.ldv wA (.t rfl) (ah.id _)) ?_;refine tk 3 rfl (Ev.assign (.t rfl)) ?_;refine al1 4 rfl ((stv ty40 (ah.id _) (.t rfl) (.t rfl) ?_));refine hdn (al1 5 rfl ((stv wA (ah.id _) (.t rfl) (.t rfl) ?_)));refine hdn (ovr (pN (ret (done rfl (.tmp rfl (.cellP rfl ty40 (br zm (ah.id _)) (.cellP rfl wA (br zm (ah.id _)) .nil))) (fun w I=>?_)))));exact ft (⟨orun,C,C2,b4,b3,b2,b1,ks⟩:PX) (by show ks.length = cnt; omega) rfl (by unfold PX.R; exact zp) w I
end Go.Proofs.YtljifjflnakmoaaGreat
namespace Go.Proofs.YtljifjflnakmoaaGreat
open Go Go.Gx Go.Proofs.YtljifjflnakmoaaGreat.Tri Go.Proofs.YtljifjflnakmoaaGreat.Oc
open Go.Conc Go.ConcN
structure FY where
 n:UInt64
 os:List OV
 lss:Nat→List aL
structure FY.J (ss:List au) (cnt:Nat) (y:FY):Prop where
 h:HoldF ss y.n cnt y.lss
 l:y.os.length = cnt
 le:∀ k,k < cnt→(y.lss k).length ≤ 12
def SawsR (C2 cnt:Nat) (os:List OV) (lss:Nat→List aL):Res where
 bQ:=fun b=>b = C2 ∨ ∃ k,k < cnt ∧ (aT (os.getD k ai).v bz (lss k) 97).bQ b
 A:=fun w=>w.heap[C2]? = some (.cells (os.map OV.v).toArray 95 (0,0)) ∧ ∀ k,k < cnt→(aT (os.getD k ai).v bz (lss k) 97).A w
 st:=fun w w' h ⟨h1,h2⟩=>⟨(h _ (.inl rfl)).trans h1,fun k hk=>(aT _ _ _ _).st w w' (fun b hb=>h b (.inr ⟨k,hk,hb⟩)) (h2 k hk)⟩
abbrev D31 (C2:Nat) (x:RX) (ss:List au) (hg:fE ss) (N0:Nat):Duo:=rollD C2 x ss hg (wq N0 C2 x ss) (fun _ _ _ h g=>h.grow g)
theorem free_out {N0 cnt C2:Nat} {x:RX} {ss:List au} {hg:fE ss} {v:World} (h:@kr (D31 C2 x ss hg N0) N0 cnt v) :
 ∃ y:FY,y.J ss cnt ∧ (SawsR C2 cnt y.os y.lss).A v ∧ (∀ k,k < cnt→∀ b,(aT (y.os.getD k ai).v bz (y.lss k) 97).bQ b→N0 ≤ b ∧ b < v.heap.size) ∧ v.heap[x.b]? = some (.cells (aH.cells (x.rv y.n)).toArray 72 (0,0)):=by
 letI:Duo:=D31 C2 x ss hg N0;obtain ⟨γs,hini,⟨σ,hw,n,hσ,hwf,hall,B,hB,h1,h2⟩,⟨cs,hcs,hsz⟩,hend⟩:=h;subst hσ;have key:∀ i,∃ p:OV × WS × List aL,i < cnt→v.cell? ⟨C2,i,none⟩ = some p.1.v ∧ γs i = gam p.2.1 ∧ (aT p.1.v bz p.2.2 97).A v ∧ (∀ b,(aT p.1.v bz p.2.2 97).bQ b→N0 ≤ b ∧ b < v.heap.size) ∧ (∃ ca,o9 ss p.2.1 p.2.2 ca) ∧ p.2.2.length ≤ 12:=fun i=>by
  by_cases hi:i < cnt
  ·obtain ⟨ui,z,nv,⟨o,s,ls,ca,k1,k2,k3,k4,k5,k6⟩,hgh,hc2,hcell,hvis⟩:=hend i hi;have hz:z = o.v:=(kx (Option.some.inj (hc2.symm.trans k1))).2;subst hz;have hγ:γs i = gam s:=xm hgh k2;have hv:∀ b,(aT o.v bz ls 97).bQ b→v.heap[b]? = ui.heap[b]?:=fun b hb=>hvis b (k4 b hb).1 (k4 b hb).2 fun ob hob=>by
    rcases k3.2 with ⟨e,_⟩ | ⟨g,cap,cur,e,_,hh,_⟩
    ·have hb':o.v.ownBlock = some b:=hb;rw [e] at hb'; cases hb'
    ·have hb':o.v.ownBlock = some b:=hb;rw [e] at hb';obtain rfl:g = b:=by simpa [Value.ownBlock] using hb'
     rw [hh] at hob; cases hob; rfl
   refine ⟨(o,s,ls),fun _=>⟨hcell,hγ,(aT o.v bz ls 97).st ui v hv k3,fun b hb=>⟨(k4 b hb).1,?_⟩,⟨ca,k5⟩,k6⟩⟩;have e:=hv b hb;rw [Array.getElem?_eq_getElem (k4 b hb).2] at e;exact aw e
  ·exact ⟨(ai,(0,0,0),[]),fun h=>absurd h hi⟩
 obtain ⟨f,hf⟩:=Classical.axiomOfChoice key;have hol:((List.range cnt).map fun i=>(f i).1).length = cnt:=by simp
 have hog:∀ k,k < cnt→((List.range cnt).map fun i=>(f i).1).getD k ai = (f k).1:=fun k hk=>by simp [List.getD,hk]
 have s1:du (g1 γs) cnt = kU ss n:=by
  have e1:=lC (f:=g1 γs) (B:=B) (fun k hk=>(hB k hk).1) cnt;have e2:=lC (f:=g1 γs) (B:=cnt) (fun k hk=>by unfold g1; rw [hini k hk]; rfl) B;rw [Nat.add_comm B cnt] at e1;rw [← h1,← e1,e2]
 have s2:du (g2 γs) cnt ≤ mstd ss n:=by
  have e1:=lC (f:=g2 γs) (B:=B) (fun k hk=>(hB k hk).2) cnt;have e2:=lC (f:=g2 γs) (B:=cnt) (fun k hk=>by unfold g2; rw [hini k hk]; rfl) B;rw [Nat.add_comm B cnt] at e1;rw [← e2,e1];exact h2
 refine ⟨⟨n,(List.range cnt).map fun i=>(f i).1,fun k=>(f k).2.2⟩,⟨⟨hwf,?_,fun hne=>?_⟩,hol,fun k hk=>(hf k hk).2.2.2.2.2⟩,⟨?_,fun k hk=>?_⟩,fun k hk=>?_,hw⟩
 ·rw [← s1];refine nL fun k hk=>?_
  obtain ⟨_,q1,_,_,⟨ca,q2⟩,_⟩:=hf k hk;unfold g1;rw [q1];exact q2.ge
 ·have hn:∀ k,k < cnt→im (f k).2.2 = g1 γs k ∧ jF (f k).2.2 = g2 γs k:=fun k hk=>by
   obtain ⟨_,q1,_,_,⟨ca,q2⟩,_⟩:=hf k hk;obtain ⟨m,c,d,k1,_,k3⟩:=hall k;have k4:[(f k).2.1.1.toNat,(f k).2.1.2.1,(f k).2.1.2.2] = [m.toNat,c,d]:=q1.symm.trans k1;simp only [List.cons.injEq,and_true] at k4;have k5:(f k).2.1.1 = m:=UInt64.toNat_inj.1 k4.1;obtain ⟨z1,z2⟩:=q2.eq fun e=>hne (end1_of (k5 ▸ k3) e)
   unfold g1 g2;rw [q1];exact ⟨z1,z2⟩
  exact ⟨(iY fun k hk=>(hn k hk).1).trans s1,Nat.le_trans (Nat.le_of_eq (iY fun k hk=>(hn k hk).2)) s2⟩
 ·refine hcs.trans (congrArg (fun c=>some (Obj.cells c 95 (0,0))) ?_);apply Array.ext
  ·simp [hsz]
  ·intro k hk hk';have hk2:k < cnt:=by rw [← hsz]; exact hk
   have q1:=(hf k hk2).1;have hcs':v.heap[C2]? = some (.cells cs 95 (0,0)):=hcs;simp only [World.cell?,hcs'] at q1;have q2:cs[k]? = some (f k).1.v:=q1;rw [Array.getElem?_eq_getElem hk] at q2;simp only [Option.some.injEq] at q2;simp [q2]
 ·show (aT (((List.range cnt).map fun i=>(f i).1).getD k ai).v _ _ _).A v;rw [hog k hk];exact (hf k hk).2.2.1
 ·show ∀ b,(aT (((List.range cnt).map fun i=>(f i).1).getD k ai).v _ _ _).bQ b→_;rw [hog k hk];exact (hf k hk).2.2.2.1
end Go.Proofs.YtljifjflnakmoaaGreat
namespace Go.Proofs.YtljifjflnakmoaaGreat
open Go Go.Gx Go.Proofs.YtljifjflnakmoaaGreat.Tri Go.Proofs.YtljifjflnakmoaaGreat.Oc
def FR0 (z:PX) (x:RX) (cnt:Nat):Res:=Sep (qV z.C cnt (.bool false) 4) (Sep (qV z.C2 cnt ai.v 95) (Var x.b aH (x.rv 0) 72))
def FR1 (z:PX) (x:RX) (cnt:Nat) (y:FY):Res:=Sep (qV z.C cnt (.bool true) 4) (Sep (SawsR z.C2 cnt y.os y.lss) (Var x.b aH (x.rv y.n) 72))
def capZ (z:PX) (i:Nat):List Value:=z.cap (z.ks.getD (z.ks.length - 1 - i) 0)
section
variable {K:Ctx} {F:Fr} {L:List Res} {Q:Exit→Act→World→Prop} {N:Act→World→Prop} {ops:Array Oper} {ty:TypeId} {pos:String} {af:Array Edge} {d:Nat} {op:Operand}
theorem callFree (hX:K.E.X = XP) {z:PX} {G:Gt} {cnt:Nat} {ats:Array TypeId} {L1:List Res} {L':FY→List Res} (h0:0 < cnt) (h6:cnt ≤ 6) (hx:Opd F true op z.run.v) (hG2:GateOK G) (hk:z.ks.length = cnt)
 (hr:Rem L (FR0 z G.x cnt) L1) (hm:aT z.run.v (ovE cK) (pZ z.cap z.ks) 98 ∈ L1) (hu:∀ y,Upd L (FR0 z G.x cnt) (FR1 z G.x cnt y) (L' y))
 (hw:∀ w,aP K L w→Gx.Calls Tryz.prog 26 #[z.run.v] w (bG w (I 0)))
 (hA:∀ w,aP K L1 w→∀ i,i < cnt→GateAt w G z.C z.C2 cnt i z.g (z.ks.getD (z.ks.length - 1 - i) 0) z.d z.r z.s)
 (next:∀ y,y.J G.ss cnt→Sat K N ((d,true,I 0) :: F) (L' y)) (hd:Nat.blt d K.n = true:=by rfl) :
 Sat K (bH Tryz.prog K ops Q ⟨some d,.call { callee:=.value (.func 9),args:=#[op],argTypes:=ats },ty,pos,af,none⟩ N) F L:=by
 have hml:aT z.run.v (ovE cK) (pZ z.cap z.ks) 98 ∈ L:=hr.perm.mem_iff.1 (List.mem_cons_of_mem _ hm);refine uu (X:=FY) (args:=[op]) (vs:=[z.run.v]) (fun w=>⟨(FR0 z G.x cnt).bQ,fun e w'=>e = .returned (.int .i64 0) ∧ ∃ y:FY,y.J G.ss cnt ∧ aJ (FR0 z G.x cnt).bQ w w' ∧ (FR1 z G.x cnt y).A w' ∧ ∀ b,(FR1 z G.x cnt y).bQ b→((FR0 z G.x cnt).bQ b ∨ w.heap.size ≤ b) ∧ b < w'.heap.size⟩) (fun y=>y.J G.ss cnt) (fun _=>I 0) L' (cv.mk' zk) (.cons hx .nil) (fun w I=>?_) (fun w I b hb=>((I.own _ (hu ⟨0,[],fun _=>[]⟩).mem).2 b hb).1)
  (fun w I u w' ⟨he,y,hJ,hkp,ha,hf⟩=>⟨y,hJ,by cases he; rfl,I.upd (hu y) hkp ha hf⟩) next hd
 rw [hX];obtain ⟨ho1,ho2⟩:=(I.own _ hml).1;have hlen:(pZ z.cap z.ks).length = cnt:=(tW _ _).trans hk;rw [hlen] at ho2
 rcases ho2 with ⟨_,h⟩ | ⟨gb,cp,cur,hv,_,hh,h1,h2,h3,h4⟩
 ·omega
 have hp:=I.perm hr.perm;have hdis:=(List.pairwise_cons.1 hp.dis).1 _ hm;have hgb:∀ b,(FR0 z G.x cnt).bQ b→gb ≠ b:=fun b hb e=>hdis b hb (show z.run.v.ownBlock = some b by rw [hv,← e]; rfl)
 have hgv:∀ v1,bo w v1→aP K L v1:=fun v1 hgr=>I.grow (aJ.ed hgr)
 show eo XP K.E.fr Tryz.prog 9 #[z.run.v] w _;rw [hv];refine free_ok (C:=z.C) (cap:=fun i=>(capZ z i).toArray) fun v1 hgr nv=>?_
 have I1:=hgv v1 hgr;obtain ⟨⟨hrow,⟨hrow2,hroll,d23⟩,d12⟩,hfoot⟩:=I1.own _ (hu ⟨0,[],fun _=>[]⟩).mem;have hC2:z.C ≠ z.C2:=fun e=>d12 z.C rfl (.inl e)
 have hRC:G.x.b ≠ z.C:=fun e=>d12 z.C rfl (.inr e.symm)
 have hR2:G.x.b ≠ z.C2:=fun e=>d23 z.C2 rfl e.symm
 have hh1:v1.heap[gb]? = some (.cells cur 98 (0,0)):=by rw [hgr.old _ (aw hh)]; exact hh
 letI dd:Duo:=D31 z.C2 G.x G.ss hG2.g v1.heap.size;have hRo:¬ Row z.C Duo.R:=fun h=>h.elim hRC hR2
 have hIs:qY G.x G.ss:=⟨rfl,rfl,fun h=>h,fun h=>h⟩;have hMx:∀ b,Mx z.C b ↔ (FR0 z G.x cnt).bQ b:=fun b=>by
  constructor
  ·rintro ((h | h) | h)
   ·exact .inl h
   ·exact .inr (.inl h)
   ·exact .inr (.inr h)
  ·rintro (h | h | h)
   ·exact .inl (.inl h)
   ·exact .inl (.inr h)
   ·exact .inr h
 have hcell:∀ i,i < cnt→v1.cell? ⟨gb,i,none⟩ = some (.func (.func 21) #[] (capZ z i).toArray):=fun i hi=>by
  rw [row_fn,sw,List.map_map,hk] at h4;have h5:(cur.toList.take (cnt * (ovE cK).size))[i]? = some (clo 21 (capZ z i)).v:=by
   rw [h4]; simp [hi,capZ,hk]
  rw [List.getElem?_take] at h5;split at h5
  ·simp only [World.cell?,hh1];have h6:cur[i]? = some (clo 21 (capZ z i)).v:=by simpa using h5
   simpa [clo] using h6
  ·cases h5
 refine ⟨dd,⟨h0,by omega,hcell,fun h=>hgb gb ((hMx gb).1 h) rfl,hrow,hrow2,⟨0,hroll,rJ0 hG2.g hG2.pos⟩,hRo,hC2,fun v s hg2 nv2 h7 h8=>?_,fun i hi v s nv2 h7 h8 h9 h10 h11 h12=>?_⟩,fun v' ho=>?_⟩
 ·have:=hw v (I1.grow (aJ.ed hg2)) X0 s h8 (fun _ h=>h.elim);rw [hv] at this;exact this
 ·have hkv:∀ w',aJ (Mx z.C) v w'→aP K L1 w':=fun w' k=>I1.but hr ((h12.trans k).mono fun b hb=>(hMx b).1 hb)
  have hc:=(gate_ok G hG2 hIs z.C cnt i z.g (z.ks.getD (z.ks.length - 1 - i) 0) z.d z.r z.s v1.heap.size v h12.size hC2 hRo (fun w' k=>hA w' (hkv w' k) i hi) h9 h10 h11 (fun _ h=>h)).front (s:=s) frontXW ⟨h7,fun b hb hpm hvis=>?_⟩
  ·have e:#[Value.nilIface] ++ (capZ z i).toArray = (.nilIface :: capZ z i).toArray:=by simp
   rw [e];exact hc
  ·rcases hpm with h | (h | h) | h
   ·omega
   ·have h13:=hvis _ (show v.heap[b]? = _ by rw [show b = z.C from h]; exact h9);simp [isP,slot] at h13
   ·have h13:=hvis _ (show v.heap[b]? = _ by rw [show b = Duo.C2 from h]; exact h10);simp [isP,slot] at h13
   ·have h13:=hvis _ (show v.heap[b]? = _ by rw [show b = Duo.R from h]; exact h11);simp [isP,roB] at h13
 ·obtain ⟨hkp,hrow',hff⟩:=ho;obtain ⟨y,hJ,hs,hfs,hb⟩:=free_out hff;have hsz:w.heap.size ≤ v1.heap.size:=hgr.size;have l1:z.C < v1.heap.size:=aw hrow;have l2:z.C2 < v1.heap.size:=aw hrow2;have l3:G.x.b < v1.heap.size:=aw hroll;refine ⟨y,hJ,((aJ.ed hgr).mono fun _ h=>h.elim).trans' (hkp.mono fun b hb=>(hMx b).1 hb) fun b _ h=>h,⟨hrow',⟨hs,hb,?_⟩,?_⟩,?_⟩
  ·rintro b (h | ⟨k,hk,h⟩) h'
   ·exact hR2 ((show b = G.x.b from h').symm.trans h)
   ·have:=(hfs k hk b h).1;rw [show b = G.x.b from h'] at this;omega
  ·rintro b h ((h' | ⟨k,hk,h'⟩) | h')
   ·exact hC2 ((show b = z.C from h).symm.trans h')
   ·have:=(hfs k hk b h').1;rw [show b = z.C from h] at this;omega
   ·exact hRC ((show b = G.x.b from h').symm.trans h)
  ·rintro b (h | (h | ⟨k,hk,h⟩) | h)
   ·exact ⟨.inl (.inl h),by rw [show b = z.C from h]; exact aw hrow'⟩
   ·exact ⟨.inl (.inr (.inl h)),by rw [show b = z.C2 from h]; exact aw hs.1⟩
   ·have:=hfs k hk b h;exact ⟨.inr (by omega),this.2⟩
   ·exact ⟨.inl (.inr (.inr h)),by rw [show b = G.x.b from h]; exact aw hb⟩
end
end Go.Proofs.YtljifjflnakmoaaGreat
namespace Go.Proofs.YtljifjflnakmoaaGreat
open Go Go.Gx Go.Proofs.YtljifjflnakmoaaGreat.Tri Go.Proofs.YtljifjflnakmoaaGreat.Oc
theorem few_dat {w:World} {us xs:List OV} {rows:Nat→List a8} {dat:Nat→Nat→List UInt8} (h:∀ k j,k < us.length→j < (rows k).length→aO u8E w ((rows k).getD j cP.zero).h.data.v (dat k j)) (hJ:FewJ us rows xs):∀ k j,k < xs.length→j < (xu us rows k).length→aO u8E w ((xu us rows k).getD j cP.zero).h.data.v (dat k j):=fun k j hk hj=>by
 unfold xu at hj ⊢
 by_cases h0:us.length = 0
 ·rw [if_pos h0] at hj; exact absurd hj (Nat.not_lt_zero _)
 ·rw [if_neg h0] at hj ⊢;rw [List.length_take] at hj;have e:((rows k).take 12).getD j cP.zero = (rows k).getD j cP.zero:=by
   rw [List.getD_eq_getElem?_getD,List.getElem?_take,if_pos (by omega),← List.getD_eq_getElem?_getD]
  rw [e];exact h k j (Nat.lt_of_lt_of_le hk (hJ.le h0)) (by omega)
theorem saws_sl {w:World} {C2 cnt:Nat} {os:List OV} {lss:Nat→List aL} (h:(SawsR C2 cnt os lss).A w) (hl:os.length = cnt) (hc:cnt ≤ 16):aO (ovE ai) w (ky C2 cnt).v os:=by
 have hm:maxLen = 9223372036854775807:=rfl;refine ⟨_,cnt,by rw [hl]; rfl,by omega,by omega,fun e=>(by cases e),fun p hp=>?_⟩;cases hp;refine ⟨fun _=>rfl,fun j u hu=>?_⟩;have e:(ovE ai).row os = os.map OV.v:=by
  induction os with
  | nil=>rfl
  | cons a l ih=>exact congrArg (a.v :: ·) (show (ovE ai).row l = l.map OV.v from by
   clear ih hu hl h
   induction l with
   | nil=>rfl
   | cons a l ih=>exact congrArg (a.v :: ·) ih)
 rw [e] at hu;have h1:w.heap[C2]? = some (.cells (os.map OV.v).toArray 95 (0,0)):=h.1;simp only [World.cell?,h1,Nat.zero_add]
 simpa using hu
structure bf where
 old:aN
 new:aN
 mQ:OV
def bf.to:(aN × (aN × OV))→bf:=fun x=>⟨x.1,x.2.1,x.2.2⟩
def bf.of:bf→(aN × (aN × OV)):=fun x=>(x.old,x.new,x.mQ)
def dV:Enc bf:=gI (bh cZ (bh cZ (ovE ai))) bf.to bf.of
def bf.l_old:ah dV cZ 0:=lI bf.to bf.of l1
@[simp] theorem bf.get_old (x:bf):bf.l_old.get x = x.old:=rfl
def bf.oE:ah dV cZ 6:=lI bf.to bf.of (l2 l1)
@[simp] theorem bf.get_new (x:bf):bf.oE.get x = x.new:=rfl
def bf.nq:ah dV (ovE ai) 12:=lI bf.to bf.of (l2 (l2 (ah.id _)))
@[simp] theorem bf.get_stages (x:bf):bf.nq.get x = x.mQ:=rfl
theorem ty29:tyI 29 (ovE ai):=tyP
theorem uZ (p:bf) (l1 l2:CL) (sts:List au) (u:OV) (us:List OV) (rows:Nat→List a8) (dat:Nat→Nat→List UInt8) (w:World) (fr:Nat) (hfr:fr ≤ w.heap.size) (hc1:eI w p.old l1) (hc2:eI w p.new l2) (hn1:l1.Names) (hn2:l2.Names) (hz1:l1.n ≤ 4611686018427387904) (hz2:l2.n ≤ 4611686018427387904) (hst:aO aS w p.mQ.v sts) (hu:aO (ovE ai) w u.v us) (hr:jT w us rows) (hdat:∀ k j,k < us.length→j < (rows k).length→aO u8E w ((rows k).getD j cP.zero).h.data.v (dat k j)):CallF XP fr Tryz.prog 3 #[dV.val p,u.v] w (bG w (.bool true)):=by
 refine enterF 45 [] Tryz.func3 rfl rfl (Nat.le_of_ble_eq_true rfl) hfr (fun _ h=>h.elim) (fun ok=>aP.start ok) ?_;refine sg (cons (box (E:=dV) (.t rfl) (fun b1=>?_)));refine ac (.bool false) ?_;refine nP (seq (sg (cons (aQ eN .nil (fun w I=>works_ok w) ?_))));refine co (Ev.not (.t rfl)) ?_;refine nP (fL rfl (rfl) ?_);refine skip (pN (sg (cf 12 rfl ?_)));refine co (Ev.ldx p.mQ ty29 (.t rfl) bf.nq) ?_;refine cons (dB (X:=OV × List au) (fun o=>o.2.length ≤ 10) (fun o=>o.1.v) (fun o=>[aT o.1.v aS o.2 53]) eN (o1 rfl) (fun w I=>fit_ok _ sts w (hst.aV I.keeps)) (fun st hs2=>?_));refine asn rfl (nP (sg (cf 0 rfl ?_)));refine co (Ev.ldx p.old ph (.t rfl) bf.l_old) ?_;refine cf 6 rfl ?_;refine co (Ev.ldx p.new ph (.t rfl) bf.oE) ?_;refine mv rfl (cons (dB (X:=RX) (fun x:RX=>iT l1 l2 p.old.default p.new.default st.2 = 0→NewJ l1 l2 p.old.default p.new.default st.2 x) (fun x=>.tuple #[.pointer (rollO (iT l1 l2 p.old.default p.new.default st.2) x.b),I (iT l1 l2 p.old.default p.new.default st.2)]) (fun x=>if iT l1 l2 p.old.default p.new.default st.2 = 0 then x.R st.2 else []) eN (o3 rfl rfl rfl) (fun w I=>wU p.old p.new l1 l2 _ st.2 w (hc1.aV I.keeps) (hc2.aV I.keeps) (io w I) hn1 hn2 hz1 hz2 (by omega)) (fun x1 hx=>?_)));refine mv rfl (cx rfl rfl (cx rfl rfl (asn rfl (asn rfl (nP (seq (sg (mv rfl (co (Ev.dS (.t rfl) (.c rfl)) ?_)))))))));refine nP ?_;refine cnq rfl (fun h1=>?_) (fun h1=>?_)
 ·refine sg (ac (.bool true) ?_);refine nP (ret (pR (dn rfl rfl ?_)))
  rfl
 ·have hre:iT l1 l2 p.old.default p.new.default st.2 = 0:=by simpa using h1
  refine skip (pN (seq ?_));rw [if_pos hre];have hx1:=hx hre;show Sat _ _ _ [Var x1.b aH (x1.rv 0) 72,x1.r,aT x1.sv.v aS st.2 53,aT st.1.v aS st.2 53,Var b1 dV p 31];refine region (co (Ev.to (v':=.pointer (some ⟨x1.b,0,none⟩)) (Ev.move (.t rfl)) (congrArg Value.pointer (if_pos hre))) ?_);refine mv rfl (cons (dB (X:=OV × List OV) (fun o=>FewJ us rows o.2) (fun o=>o.1.v) (fun o=>[aT o.1.v (ovE ai) o.2 78]) eN (o1 rfl) (fun w I=>few_ok u.v us rows w (hu.aV I.keeps) (fun k hk=>(hr k hk).aV I.keeps)) (fun fw hfw=>?_)));obtain ⟨cnt,hcnt⟩:∃ n,fw.2.length = n:=⟨_,rfl⟩;have hfp:=hfw.pos;have hff:=hfw.few;refine cons (dB (X:=PX) (fun z=>z.ks.length = cnt) (fun z=>.tuple #[z.run.v,(ky z.C2 cnt).v,(ky z.C cnt).v]) (fun z=>z.R x1.b fw.1 cnt) eN (o2 rfl rfl) (fun w I=>passes_ok x1.b fw.1 fw.2 cnt w (io w I) hcnt (by omega)) (fun z hz=>?_));refine mv rfl (cx rfl rfl (cx rfl rfl (cx rfl rfl (asn rfl (asn rfl (asn rfl (nP (seq (px (r:=qV z.C2 cnt ai.v 95) (s:=Var x1.b aH (x1.rv 0) 72) zr zr ?_)))))))));refine px (r:=qV z.C cnt (.bool false) 4) (s:=Sep (qV z.C2 cnt ai.v 95) (Var x1.b aH (x1.rv 0) 72)) zr zr ?_;show Sat _ _ _ [FR0 z x1 cnt,aT z.run.v (ovE cK) (pZ z.cap z.ks) 98,Var z.g (ovE ai) (ky z.C cnt) 41,Var z.s (ovE ai) (ky z.C2 cnt) 40,Var z.d (ovE ai) fw.1 32,Var z.r (ovE bP) (pt3O x1.b) 35,Bxs z.ks,aT fw.1.v (ovE ai) fw.2 78,x1.r,aT x1.sv.v aS st.2 53,aT st.1.v aS st.2 53,Var b1 dV p 31]
  refine region (mv rfl (cons (callFree rfl (z:=z) (G:=⟨x1,l1,l2,p.old.default,p.new.default,st.2,fw.1,fw.2,xu us rows,dat⟩) (cnt:=cnt) (L1:=[aT z.run.v (ovE cK) (pZ z.cap z.ks) 98,Var z.g (ovE ai) (ky z.C cnt) 41,Var z.s (ovE ai) (ky z.C2 cnt) 40,Var z.d (ovE ai) fw.1 32,Var z.r (ovE bP) (pt3O x1.b) 35,Bxs z.ks,aT fw.1.v (ovE ai) fw.2 78,x1.r,aT x1.sv.v aS st.2 53,aT st.1.v aS st.2 53,Var b1 dV p 31]) (L':=fun y=>[FR1 z x1 cnt y,aT z.run.v (ovE cK) (pZ z.cap z.ks) 98,Var z.g (ovE ai) (ky z.C cnt) 41,Var z.s (ovE ai) (ky z.C2 cnt) 40,Var z.d (ovE ai) fw.1 32,Var z.r (ovE bP) (pt3O x1.b) 35,Bxs z.ks,aT fw.1.v (ovE ai) fw.2 78,x1.r,aT x1.sv.v aS st.2 53,aT st.1.v aS st.2 53,Var b1 dV p 31]) (by omega) (by omega) (.t rfl) ⟨hx1.p,hx1.q,mb hx1.st,hx1.pos,fewR_len us rows⟩ hz zr (by repeat first | exact mH | apply mT | apply mA) (fun _=>zu) (fun w I=>wrong_ok _ _ w (fJ (show aT z.run.v (ovE cK) (pZ z.cap z.ks) 98 ∈ _ from (by repeat first | exact mH | apply mT | apply mA)) w I) (by rw [sw]; exact fnsB_range _ _) (by rw [tW]; omega)) (fun w I i hi=>⟨⟨(hx1.r w (I.own _ (show x1.r ∈ _ from (by repeat first | exact mH | apply mT | apply mA))).1).1,(hx1.r w (I.own _ (show x1.r ∈ _ from (by repeat first | exact mH | apply mT | apply mA))).1).2,io w I⟩,io w I,fun k hk=>hfw.at_ w (fun k hk=>(hr k hk).aV I.keeps) k hk,few_dat (fun k j hk hj=>(hdat k j hk hj).aV I.keeps) hfw,hcnt,hi,by omega,br (E':=(ovE ai)) (show Var z.g (ovE ai) (ky z.C cnt) 41 ∈ _ from (by repeat first | exact mH | apply mT | apply mA)) (ah.id _) w I,bxs_at z.ks i (by omega) (I.own _ (show Bxs z.ks ∈ _ from (by repeat first | exact mH | apply mT | apply mA))).1,br (E':=(ovE ai)) (show Var z.d (ovE ai) fw.1 32 ∈ _ from (by repeat first | exact mH | apply mT | apply mA)) (ah.id _) w I,br (E':=(ovE bP)) (show Var z.r (ovE bP) (pt3O x1.b) 35 ∈ _ from (by repeat first | exact mH | apply mT | apply mA)) (ah.id _) w I,br (E':=(ovE ai)) (show Var z.s (ovE ai) (ky z.C2 cnt) 40 ∈ _ from (by repeat first | exact mH | apply mT | apply mA)) (ah.id _) w I⟩) (fun y hy=>?_))))
  refine lW (r:=qV z.C cnt (.bool true) 4) (s:=Sep (SawsR z.C2 cnt y.os y.lss) (Var x1.b aH (x1.rv y.n) 72)) Rem.head ?_;refine lW (Rem.tail Rem.head) ?_;refine co (Ev.to (v':=.bool true) (Ev.dO (.t rfl) (.c rfl)) (rfl)) ?_;refine mv rfl (cg rfl rfl (Ev.to (v':=.pointer (some ⟨x1.b,0,none⟩)) (Ev.move (.t rfl)) (congrArg Value.pointer (if_pos hre))) ?_);refine cg rfl rfl (Ev.move (.t rfl)) ?_;refine cg rfl rfl (Ev.move (.t rfl)) ?_;refine cg rfl rfl (Ev.move (.t rfl)) ?_;refine cons (opgT rfl rfl rfl ?_);refine (lQ (X:=Unit) (fun _=>True) (fun _=>.bool true) (r:=Var x1.b aH (x1.rv y.n) 72) (r':=fun _=>Var x1.b aH (x1.rv y.n) 72) (fun _=>zu) zm eN (.cons (.g rfl id) (.cons (.g rfl id) (.cons (.g rfl id) (.cons (.g rfl id) .nil)))) (fun w I=>holds_ok x1 st.2 y.n cnt st.1.v (ky z.C2 cnt).v (ky z.C cnt).v y.os y.lss w (am w I) hx1.st hy.h hy.l (by omega) hy.le (fun w2 k2=>have I2:=I.but zr k2; have hs2:=(I2.own _ (show SawsR z.C2 cnt y.os y.lss ∈ _ from zm)).1; ⟨fJ (show aT st.1.v aS st.2 53 ∈ _ from zm) w2 I2,saws_sl hs2 hy.l (by omega),fun k hk=>aO.gN (hs2.2 k (by have:=hy.l; omega)),isSl_rowV (E:=bE) (x:=true) rfl rfl (by omega) zm w2 I2⟩)) (fun _ _=>?_));exact s57
end Go.Proofs.YtljifjflnakmoaaGreat
