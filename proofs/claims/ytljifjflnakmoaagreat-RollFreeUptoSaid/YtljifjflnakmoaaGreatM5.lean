/- Part. -/
import Derived.Test.YtljifjflnakmoaaGreatM4
set_option linter.unusedVariables false
set_option linter.unusedSimpArgs false
set_option linter.unusedSectionVars false
set_option maxRecDepth 100000
set_option maxHeartbeats 2000000
namespace Go.Proofs.YtljifjflnakmoaaGreat
open Go Go.Gx Go.Proofs.YtljifjflnakmoaaGreat.Tri
structure aj where
 conf:aN
 jA:OV
 fe:OV
 rules:OV
 uf:OV
 sO:OV
def aj.to:(aN × (OV × (OV × (OV × (OV × OV)))))→aj:=fun x=>⟨x.1,x.2.1,x.2.2.1,x.2.2.2.1,x.2.2.2.2.1,x.2.2.2.2.2⟩
def aj.of:aj→(aN × (OV × (OV × (OV × (OV × OV))))):=fun x=>(x.conf,x.jA,x.fe,x.rules,x.uf,x.sO)
def cF:Enc aj:=gI (bh cZ (bh (ovE gO) (bh (ovE bP) (bh (ovE bP) (bh (ovE ai) (ovE ai)))))) aj.to aj.of
def aj.l_conf:ah cF cZ 0:=lI aj.to aj.of l1
@[simp] theorem aj.set_conf (x:aj) (y:aN):aj.l_conf.set x y = { x with conf:=y }:=rfl
def aj.dE:ah cF (ovE gO) 6:=lI aj.to aj.of (l2 l1)
@[simp] theorem aj.vT (x:aj):aj.dE.get x = x.jA:=rfl
@[simp] theorem aj.vm (x:aj) (y:OV):aj.dE.set x y = { x with jA:=y }:=rfl
def aj.db:ah cF (ovE bP) 7:=lI aj.to aj.of (l2 (l2 l1))
@[simp] theorem aj.oV (x:aj):aj.db.get x = x.fe:=rfl
@[simp] theorem aj.oN (x:aj) (y:OV):aj.db.set x y = { x with fe:=y }:=rfl
def aj.eJ:ah cF (ovE bP) 8:=lI aj.to aj.of (l2 (l2 (l2 l1)))
@[simp] theorem aj.vR (x:aj):aj.eJ.get x = x.rules:=rfl
@[simp] theorem aj.vl (x:aj) (y:OV):aj.eJ.set x y = { x with rules:=y }:=rfl
def aj.eG:ah cF (ovE ai) 9:=lI aj.to aj.of (l2 (l2 (l2 (l2 l1))))
@[simp] theorem aj.get_deciders (x:aj):aj.eG.get x = x.uf:=rfl
@[simp] theorem aj.set_deciders (x:aj) (y:OV):aj.eG.set x y = { x with uf:=y }:=rfl
def aj.eD:ah cF (ovE ai) 10:=lI aj.to aj.of (l2 (l2 (l2 (l2 (l2 (ah.id _))))))
@[simp] theorem aj.get_verdicts (x:aj):aj.eD.get x = x.sO:=rfl
@[simp] theorem aj.set_verdicts (x:aj) (y:OV):aj.eD.set x y = { x with sO:=y }:=rfl
structure cD where
 fe:OV
def cD.to:OV→cD:=fun x=>⟨x⟩
def cD.of:cD→OV:=fun x=>x.fe
def jE:Enc cD:=gI (ovE bP) cD.to cD.of
def cD.db:ah jE (ovE bP) 0:=lI cD.to cD.of (ah.id _)
@[simp] theorem cD.oV (x:cD):cD.db.get x = x.fe:=rfl
@[simp] theorem cD.oN (x:cD) (y:OV):cD.db.set x y = { x with fe:=y }:=rfl
structure aD where
 action:Int
 out:Int
 rule:Int
 iV:Int
 fS:Int
def aD.to:(Int × (Int × (Int × (Int × Int))))→aD:=fun x=>⟨x.1,x.2.1,x.2.2.1,x.2.2.2.1,x.2.2.2.2⟩
def aD.of:aD→(Int × (Int × (Int × (Int × Int)))):=fun x=>(x.action,x.out,x.rule,x.iV,x.fS)
def a7:Enc aD:=gI (bh iE (bh iE (bh iE (bh iE iE)))) aD.to aD.of
def aD.dM:ah a7 iE 0:=lI aD.to aD.of l1
@[simp] theorem aD.get_action (x:aD):aD.dM.get x = x.action:=rfl
@[simp] theorem aD.set_action (x:aD) (y:Int):aD.dM.set x y = { x with action:=y }:=rfl
def aD.jB:ah a7 iE 1:=lI aD.to aD.of (l2 l1)
@[simp] theorem aD.set_out (x:aD) (y:Int):aD.jB.set x y = { x with out:=y }:=rfl
def aD.tK:ah a7 iE 2:=lI aD.to aD.of (l2 (l2 l1))
@[simp] theorem aD.set_rule (x:aD) (y:Int):aD.tK.set x y = { x with rule:=y }:=rfl
def aD.jq:ah a7 iE 3:=lI aD.to aD.of (l2 (l2 (l2 l1)))
@[simp] theorem aD.set_meter (x:aD) (y:Int):aD.jq.set x y = { x with iV:=y }:=rfl
def aD.gX:ah a7 iE 4:=lI aD.to aD.of (l2 (l2 (l2 (l2 (ah.id _)))))
@[simp] theorem aD.set_mirror (x:aD) (y:Int):aD.gX.set x y = { x with fS:=y }:=rfl
def aD.eqb (x y:aD):Bool:=eqd x.action y.action && (eqd x.out y.out && (eqd x.rule y.rule && (eqd x.iV y.iV && (eqd x.fS y.fS && (true)))))
theorem aD.bJ (x y:aD):aD.eqb x y = true ↔ x = y:=by
 obtain ⟨a0,a1,a2,a3,a4⟩:=x;obtain ⟨b0,b1,b2,b3,b4⟩:=y;simp only [aD.eqb,Bool.and_eq_true,dy,dy,dy,dy,dy,aD.mk.injEq,and_true]
instance:DecidableEq aD:=fun x y=>decidable_of_iff (aD.eqb x y = true) (aD.bJ x y)
@[simp] theorem aD.j5 (x y:aD):aD.eqb x y = decide (x = y):=by
  rw [Bool.eq_iff_iff,decide_eq_true_iff];exact aD.bJ x y
theorem rule_okM {l:CL} {r:aY} {i:Int} (h:gj l r i = 0):okM r.eY = true:=by
 unfold gj at h;split at h
 ·cases h
 split at h
 ·cases h
 split at h
 ·cases h
 ·rename_i h3
  simpa using h3
def mtL (l:CL):List aq:=l.us.map fun r=>r.eY
theorem may_comp {l:CL} {d:Int} (h:og l d = true):mq (mtL l) = 0:=by
 have hl:=tE h;have hg:=(nj h).us;have h1:(mtL l).length = l.us.length:=by simp [mtL]
 have h2:(mtL l).all okM = true:=List.all_eq_true.2 fun m hm=>by
  obtain ⟨r,hr,rfl⟩:=List.mem_map.1 hm;obtain ⟨i,hi,rfl⟩:=List.mem_iff_getElem.1 hr;have:=rule_okM (hg i hi)
  simpa [List.getD,hi] using this
 unfold mq;rw [decide_eq_false (by omega),h2]
 rfl
def jN {α κ β:Type} (q:κ→κ→Bool) (f:α→κ) (g:Nat→β) (l:List α):Nat→List (κ × β)
 | 0=>[]
 | n + 1=>match l[n]? with
   | none=>jN q f g l n
   | some x=>lE q (f x) (g n) (jN q f g l n)
theorem ti {α κ β:Type} (q:κ→κ→Bool) (f:α→κ) (g:Nat→β) (l:List α) (z:α) {i:Int} (h:0 ≤ i ∧ i < l.length):jN q f g l (i + 1).toNat = lE q (f (l.getD i.toNat z)) (g i.toNat) (jN q f g l i.toNat):=by
 have e:(i + 1).toNat = i.toNat + 1:=by omega
 have e2:l[i.toNat]? = some (l.getD i.toNat z):=by
  have:i.toNat < l.length:=by omega
  simp [List.getD,List.getElem?_eq_getElem this]
 rw [e,jN,e2]
theorem qy {α κ β:Type} (q:κ→κ→Bool) (f:α→κ) (g:Nat→β) (l:List α) {n:Nat} (h:n < l.length):jN q f g l (n + 1) = lE q (f l[n]) (g n) (jN q f g l n):=by
 rw [jN,List.getElem?_eq_getElem h]
theorem vx {α κ β:Type} {q:κ→κ→Bool} (hi:∀ x y,q x y = true ↔ x = y) (f:α→κ) (g:Nat→β) (l:List α) {k:κ} (hk:k ∉ l.map f):∀ n,n ≤ l.length→Gx.cO q k (jN q f g l n) = none
 | 0,_=>rfl
 | n + 1,h=>by
   rw [qy q f g l (by omega),lN hi,if_neg,vx hi f g l hk n (by omega)];intro hq;exact hk (List.mem_map.2 ⟨l[n],List.getElem_mem _,((hi _ _).1 hq).symm⟩)
theorem putN_at {α κ β:Type} {q:κ→κ→Bool} (hi:∀ x y,q x y = true ↔ x = y) {f:α→κ} (g:Nat→β) {l:List α} (hu:(l.map f).Nodup) {j:Nat} (hj:j < l.length):∀ n,n ≤ l.length→j < n→Gx.cO q (f l[j]) (jN q f g l n) = some (g j)
 | 0,_,h=>by omega
 | n + 1,h,hjn=>by
   rw [qy q f g l (by omega),lN hi]
   by_cases e:j = n
   ·subst e;rw [if_pos ((hi _ _).2 rfl)]
   ·rw [if_neg,putN_at hi g hu hj n (by omega) (by omega)];intro hq;have e2:=(hi _ _).1 hq;exact List.pairwise_iff_getElem.1 hu j n (by simpa using hj) (by simp; omega) (by omega) (by simpa using e2)
theorem putN_mem {α κ:Type} {q:κ→κ→Bool} (hi:∀ x y,q x y = true ↔ x = y) (f:α→κ) (l:List α) (k:κ):∀ n,n ≤ l.length→(Gx.cO q k (jN q f (fun _=>true) l n)).getD false = (l.take n).any (fun x=>q k (f x))
 | 0,_=>rfl
 | n + 1,h=>by
   rw [qy q f _ l (by omega),lN hi,List.take_succ_eq_append_getElem (by omega),List.any_append,← putN_mem hi f l k n (by omega)];cases hq:q k (f l[n]) with
   | true=>rw [if_pos rfl]; simp [hq]
   | false=>rw [if_neg Bool.false_ne_true]; simp [hq]
theorem idx_none' {α:Type} {p:α→Bool} {l:List α} (h:∀ y ∈ l,p y = false):uU p l = -1:=by
 unfold uU;rw [List.findIdx?_eq_none_iff.2 h]
def kT (m:List (ByteArray × Int)) (s:ByteArray):Int:=match Gx.cO eqs s m with
 | some i=>i
 | none=>-1
def nameI {α:Type} (f:α→ByteArray) (l:List α) (s:ByteArray):Int:=uU (fun x=>decide (f x = s)) l
theorem pJ {α:Type} {f:α→ByteArray} {l:List α} (hu:(l.map f).Nodup) (s:ByteArray):kT (jN eqs f (fun k:Nat=>(k:Int)) l l.length) s = nameI f l s:=by
 unfold kT nameI
 by_cases hs:s ∈ l.map f
 ·obtain ⟨x,hx,rfl⟩:=List.mem_map.1 hs;obtain ⟨j,hj,rfl⟩:=List.mem_iff_getElem.1 hx;rw [putN_at iJ _ hu hj _ (Nat.le_refl _) hj];have h1:=idx_at (p:=fun x=>decide (f x = f l[j])) (l:=l) (i:=(j:Int)) l[j] ⟨by omega,by omega⟩ (fun k hk=>by
   have hkl:k < l.length:=by omega
   have e:l.getD k l[j] = l[k]:=by simp [List.getD,hkl]
   rw [e];exact decide_eq_false fun e2=>List.pairwise_iff_getElem.1 hu k j (by simpa using hkl) (by simpa using hj) (by omega) (by simpa using e2)) (by simp [List.getD,hj])
  exact h1.symm
 ·rw [vx iJ f _ l hs _ (Nat.le_refl _)];refine (idx_none' (p:=fun x=>decide (f x = s)) fun y hy=>decide_eq_false fun e=>hs (List.mem_map.2 ⟨y,hy,e⟩)).symm
def tI (rs:List bm) (a:aG):Nat→Int
 | 0=>-1
 | n + 1=>if (lM (rs.getD n aX.zero).to_ a && (decide (tI rs a n < 0) || decide ((rs.getD (tI rs a n).toNat aX.zero).to_.bits < (rs.getD n aX.zero).to_.bits))) = true then (n:Int) else tI rs a n
def longK (rs:List bm) (a:aG):Int:=tI rs a rs.length
theorem tH (rs:List bm) (a:aG):∀ n,(tI rs a n = -1 ∧ ∀ j,j < n→lM (rs.getD j aX.zero).to_ a = false) ∨ (∃ k:Nat,tI rs a n = k ∧ k < n ∧ lM (rs.getD k aX.zero).to_ a = true ∧ ∀ j,j < n→lM (rs.getD j aX.zero).to_ a = true→(rs.getD j aX.zero).to_.bits ≤ (rs.getD k aX.zero).to_.bits)
 | 0=>.inl ⟨rfl,fun j h=>by omega⟩
 | n + 1=>by
   rw [tI]
   rcases tH rs a n with ⟨h1,h2⟩ | ⟨k,h1,h2,h3,h4⟩
   ·rw [h1];cases hh:lM (rs.getD n aX.zero).to_ a with
    | true =>
      refine .inr ⟨n,by simp,by omega,hh,fun j hj hjh=>?_⟩
      by_cases e:j = n
      ·subst e; exact Int.le_refl _
      ·rw [h2 j (by omega)] at hjh; cases hjh
    | false =>
      refine .inl ⟨by simp,fun j hj=>?_⟩
      by_cases e:j = n
      ·subst e; exact hh
      ·exact h2 j (by omega)
   ·rw [h1];have ek:((k:Int)).toNat = k:=by omega
    rw [ek];split
    ·rename_i hc;simp only [Bool.and_eq_true,Bool.or_eq_true,decide_eq_true_eq] at hc;have hlt:(rs.getD k aX.zero).to_.bits < (rs.getD n aX.zero).to_.bits:=by
      rcases hc.2 with g | g
      ·omega
      ·exact g
     refine .inr ⟨n,rfl,by omega,hc.1,fun j hj hjh=>?_⟩
     by_cases e:j = n
     ·subst e; exact Int.le_refl _
     ·have:=h4 j (by omega) hjh;omega
    ·rename_i hc;refine .inr ⟨k,rfl,by omega,h3,fun j hj hjh=>?_⟩
     by_cases e:j = n
     ·subst e
      rcases Int.lt_or_le (rs.getD k aX.zero).to_.bits (rs.getD j aX.zero).to_.bits with g | g
      ·exact absurd (by simp only [Bool.and_eq_true,Bool.or_eq_true,decide_eq_true_eq]; exact ⟨hjh,.inr g⟩) hc
      ·exact g
     ·exact h4 j (by omega) hjh
theorem mW {rs:List bm} (hn:(rs.map (·.to_)).Nodup) (y:ae × Int):Tri.j2 rs y ↔ ∃ r ∈ rs,y = (r.to_,r.out):=by
 have key:∀ n,n ≤ rs.length→(Tri.j2 (rs.take n) y ↔ ∃ r ∈ rs.take n,y = (r.to_,r.out)):=by
  intro n
  induction n with
  | zero=>exact fun _=>⟨fun h=>h.elim,fun ⟨r,hr,_⟩=>by simp at hr⟩
  | succ n ih =>
    intro h;rw [List.take_succ_eq_append_getElem (by omega),Tri.pB,ih (by omega)];constructor
    ·rintro (e | ⟨⟨r,hr,e⟩,_⟩)
     ·exact ⟨rs[n],List.mem_append_right _ (List.mem_singleton_self _),e⟩
     ·exact ⟨r,List.mem_append_left _ hr,e⟩
    ·rintro ⟨r,hr,e⟩
     rcases List.mem_append.1 hr with hr | hr
     ·refine .inr ⟨⟨r,hr,e⟩,fun e2=>?_⟩;obtain ⟨j,hj,rfl⟩:=List.mem_iff_getElem.1 hr;have hj2:j < n:=by simp at hj; omega
      rw [e] at e2;exact List.pairwise_iff_getElem.1 hn j n (by simp; omega) (by simp; omega) hj2 (by simpa using e2)
     ·rw [List.mem_singleton] at hr;subst hr;exact .inl e
 have:=key rs.length (Nat.le_refl _)
 rwa [List.take_length] at this
def oP (rs:List bm) (a:aG):Int × Bool:=if longK rs a < 0 then (0,false) else ((rs.getD (longK rs a).toNat aX.zero).out,true)
theorem find_long {t:Tt} (ho:t.OK) {rs:List bm} (hm:∀ y,y ∈ t.bK ↔ Tri.j2 rs y) (hn:(rs.map (·.to_)).Nodup) (a:aG):(Tri.jD t a).2 = oP rs a:=by
 unfold oP longK
 rcases tH rs a rs.length with ⟨h1,h2⟩ | ⟨k,h1,h2,h3,h4⟩
 ·rw [h1,if_pos (by decide)]
  rcases Tri.find_spec ho a with ⟨x,hx,hh,_⟩ | ⟨e,_⟩
  ·exfalso;obtain ⟨r,hr,e⟩:=(mW hn x).1 ((hm x).1 hx);obtain ⟨j,hj,rfl⟩:=List.mem_iff_getElem.1 hr;have:=h2 j hj;have e2:rs.getD j aX.zero = rs[j]:=by simp [List.getD,hj]
   rw [e2] at this;rw [e] at hh;rw [this] at hh;cases hh
  ·rw [e]
 ·have e0:((k:Int)).toNat = k:=by omega
  have e2:rs.getD k aX.zero = rs[k]:=by simp [List.getD,h2]
  rw [h1,if_neg (by omega),e0];have hx:((rs.getD k aX.zero).to_,(rs.getD k aX.zero).out) ∈ t.bK:=(hm _).2 ((mW hn _).2 ⟨rs.getD k aX.zero,by rw [e2]; exact List.getElem_mem _,rfl⟩);rw [Tri.find_of ho hx h3 (fun y hy hh=>by
   obtain ⟨r,hr,e⟩:=(mW hn y).1 ((hm y).1 hy);obtain ⟨j,hj,rfl⟩:=List.mem_iff_getElem.1 hr;have e3:rs.getD j aX.zero = rs[j]:=by simp [List.getD,hj]
   have:=h4 j hj (by rw [e3]; rw [e] at hh; exact hh);rw [e3] at this;rw [e];exact this)]
def oY (r:OV) (a o:Int):OV:=if a = 3 then ifc 201 (I o) else if a = 1 then ifc 203 (jE.val ⟨r⟩) else ifc 204 (I a)
def decL (r:OV) (l:CL) (d:Int):List OV:=l.us.map (fun u=>oY r u.action u.out) ++ [oY r d 0]
def vdV (l:CL) (k:Nat):aD:=⟨0,0,(k:Int),nameI (·.name) l.ms (l.us.getD k cy.zero).iV,nameI (·.name) l.xs (l.us.getD k cy.zero).fS⟩
def noV:aD:=⟨0,0,-1,-1,-1⟩
def dropV:aD:=⟨2,-1,-1,-1,-1⟩
def vdL (l:CL):List aD:=(List.range l.us.length).map (vdV l) ++ [noV]
def actO (rs:List bm) (a o:Int) (x:aG):Int × Int:=if a = 3 then (3,o) else if a = 1 then (if (oP rs x).2 = true then (3,(oP rs x).1) else (4,-1)) else (a,-1)
def uS (l:CL) (n:Int) (h:aa):Int:=gS (fun m=>rV m n h) (mtL l) 0
def iA (l:CL) (n:Int) (h:aa):Nat:=if uS l n h < 0 then l.us.length else (uS l n h).toNat
def qU (l:CL) (d:Int) (k:Nat):Int × Int:=if k < l.us.length then ((l.us.getD k cy.zero).action,(l.us.getD k cy.zero).out) else (d,0)
def decV (l:CL) (d n:Int) (h:aa):aD:=if l.ps.any (fun x=>decide (n = x)) = true then { (vdL l).getD (iA l n h) a7.zero with action:=(actO l.rs (qU l d (iA l n h)).1 (qU l d (iA l n h)).2 h.dst).1,out:=(actO l.rs (qU l d (iA l n h)).1 (qU l d (iA l n h)).2 h.dst).2 } else dropV
structure Pl where
 b:Nat
 cb:CB
 pm:Nat
 tr:Tt
 rb:Nat
 dv:OV
 vv:OV
def ptrV (b:Nat):OV:=⟨.pointer (some ⟨b,0,none⟩),rfl⟩
def Pl.val (p:Pl) (d:Int):aj:=⟨p.cb.c d,lG p.pm,p.tr.ptr,ptrV p.rb,p.dv,p.vv⟩
def kC (l:CL):List (Int × Bool):=jN eqd (fun x=>x) (fun _=>true) l.ps l.ps.length
structure jU (w:World) (p:Pl) (l:CL) (d:Int):Prop where
 pt:cq cF w p.b 0 (p.val d)
 cf:eI w (p.cb.c d) l
 pm:iw w p.pm iE bE (kC l)
 tr:p.tr.At w
 ru:oc w p.rb (mtL l)
 ds:aO (ovE eB) w p.dv.v (decL p.tr.ptr l d)
 vs:aO a7 w p.vv.v (vdL l)
theorem jU.cn {w w':World} {p:Pl} {l:CL} {d:Int} (h:jU w p l d) (k:aJ dI w w'):jU w' p l d:=⟨h.pt.cn k,h.cf.aV k,h.pm.aV k,h.tr.cn k,h.ru.cn k,h.ds.aV k,h.vs.aV k⟩
structure jl (p:Pl) (l:CL) (d:Int):Prop where
 may:og l d = true
 ok:p.tr.OK
 bK:∀ y,y ∈ p.tr.bK ↔ Tri.j2 l.rs y
theorem jl.route {p:Pl} {l:CL} {d:Int} (h:jl p l d) (a:aG):(Tri.jD p.tr a).2 = oP l.rs a:=find_long h.ok h.bK (good_rs (nj h.may)) a
def uM (l:CL) (d:Int) (x:Pl × List Res):Prop:=og l d = true→jl x.1 l d ∧ ∀ w,(∀ r ∈ x.2,r.A w)→jU w x.1 l d
def plO (l:CL) (d:Int) (b:Nat):Option Addr:=if og l d = true then some ⟨b,0,none⟩ else none
def plE (l:CL) (d:Int):Int:=if og l d = true then 0 else 210
theorem may_ofR {l:CL} {d:Int} (h:og l d = true):Tri.ofR l.rs = 0:=by
 unfold Tri.ofR;rw [if_pos];refine List.all_eq_true.2 fun r hr=>decide_eq_true ?_
 obtain ⟨i,hi,rfl⟩:=List.mem_iff_getElem.1 hr;have h1:=(routeE_z.1 ((nj h).rs i hi)).1;have e:l.rs.getD i aX.zero = l.rs[i]:=by simp [List.getD,hi]
 rwa [e] at h1
theorem tp (l:CL) (n:Int):(Gx.cO eqd n (kC l)).getD false = l.ps.any (fun x=>decide (n = x)):=by
 unfold kC;rw [putN_mem dy _ _ _ _ (Nat.le_refl _),List.take_length]
 rfl
theorem tY (q:aq→Bool):∀ (ms:List aq) (k:Int),gS q ms k = -1 ∨ (k ≤ gS q ms k ∧ gS q ms k < k + ms.length)
 | [],k=>.inl rfl
 | m :: ms,k=>by
   unfold gS;cases q m with
   | true=>exact .inr ⟨Int.le_refl _,by simp; omega⟩
   | false =>
     rcases tY q ms (k + 1) with g | ⟨g1,g2⟩
     ·exact .inl g
     ·refine .inr ⟨?_,?_⟩
      ·show k ≤ gS q ms (k + 1);omega
      ·show gS q ms (k + 1) < _;simp only [List.length_cons];omega
theorem mtL_len (l:CL):(mtL l).length = l.us.length:=by simp [mtL]
theorem metI_rng (l:CL) (n:Int) (h:aa):uS l n h = -1 ∨ (0 ≤ uS l n h ∧ uS l n h < l.us.length):=by
 have h1:=tY (fun m=>rV m n h) (mtL l) 0;rw [mtL_len] at h1;unfold uS;omega
theorem ruleI_le (l:CL) (n:Int) (h:aa):iA l n h ≤ l.us.length:=by
 have:=metI_rng l n h;unfold iA;split <;> omega
end Go.Proofs.YtljifjflnakmoaaGreat
namespace Go.Proofs.YtljifjflnakmoaaGreat
open Go Go.Gx Go.Proofs.YtljifjflnakmoaaGreat.Tri
theorem ty126:tyI 126 (ovE gO):=tyP
theorem pthere_ok (b:Nat) (x:aj) (m:Nat) (w:World) (hb:cq cF w b 0 x) (hm:x.jA = lG m):Gx.Calls Tryz.prog 78 #[.pointer (some ⟨b,0,none⟩)] w (bG w (.bool true)):=by
 refine en0 12 Tryz.func78 (fun _ _=>?_);refine sg (ac (.bool false) ?_);refine nP (sg (mv rfl (co (Ev.tB Tryz.underlying65 (.t rfl) (.c rfl)) ?_)));refine mv rfl (cg rfl rfl (Ev.move (.t rfl)) ?_);refine cg rfl rfl (Ev.nilCheck (.g rfl id)) ?_;refine cg rfl rfl (fA 6 (.g rfl id)) ?_;refine cg rfl rfl (Ev.to (v':=.map (some m)) (Ev.load ty126 (.g rfl id) (c9 (fun w I=>hb.cn I.keeps) aj.dE)) (congrArg OV.v hm)) ?_;refine cg rfl rfl (Ev.neq_m Y126 (.g rfl id) (.c rfl)) ?_;exact s68
theorem z203:zI 203 jE:=kI
theorem decider_ok (b:Nat) (x:aj) (a o:Int) (w:World) (hb:cq cF w b 0 x):Gx.Calls Tryz.prog 44 #[.pointer (some ⟨b,0,none⟩),I a,I o] w (bG w (oY x.fe a o).v):=by
 refine en0 22 Tryz.func44 (fun _ _=>?_);refine sg (ac Go.Value.nilIface ?_);refine nP (seq (sg (mv rfl (nP (block (sg (co (Ev.dO (.t rfl) (.c rfl)) ?_)))))));refine asn rfl (nP ?_);refine cnq rfl (fun h0=>?_) (fun h0=>?_)
 ·refine sg (mv rfl (co (Ev.makeIf Tryz.underlying201 rfl (.t rfl)) ?_));refine asn rfl (nP (ret (bR (pR (dn rfl rfl ?_)))));have e:a = 3:=by simpa using h0
  unfold oY; rw [if_pos e]; rfl
 ·refine sg (co (Ev.dO (.t rfl) (.c rfl)) ?_);refine asn rfl (nP ?_);refine cnq rfl (fun h1=>?_) (fun h1=>?_)
  ·refine sg (mv rfl (co (Ev.nilCheck (.t rfl)) ?_));refine cf 7 rfl ?_;refine co (Ev.load ty127 (.t rfl) (c9 (fun w I=>hb.cn I.keeps) aj.db)) ?_;refine co (Ev.bu (fs:=_) (places:=[(0,1)]) z203 rfl Y203 zk (.cons (.t rfl) .nil) (ay.cons cD.db rfl ay.nil)) ?_;refine co (Ev.makeIf Y203 rfl (.t rfl)) ?_;refine asn rfl (nP (ret (bR (pR (dn rfl rfl ?_)))));have e:¬ a = 3:=by simpa using h0
   have e2:a = 1:=by simpa using h1
   unfold oY; rw [if_neg e,if_pos e2]; rfl
  ·refine skip (bN (pN (sg (mv rfl (co (Ev.makeIf Tryz.underlying204 rfl (.t rfl)) ?_)))));refine asn rfl (nP (ret (dn rfl rfl ?_)));have e:¬ a = 3:=by simpa using h0
   have e2:¬ a = 1:=by simpa using h1
   unfold oY; rw [if_neg e,if_neg e2]; rfl
theorem nO (b:Nat) (m:List (ByteArray × Int)) (s:ByteArray) (z:Int) (w:World) (hm:iw w b sE iE m) (hz:kT m s = z):Gx.Calls Tryz.prog 43 #[.map (some b),.string s] w (bG w (I z)):=by
 refine en0 15 Tryz.func43 (fun _ _=>?_);refine sg (ac (I 0) ?_);refine nP (seq (sg (mv rfl (mv rfl (co (Ev.l9 Y135 Y9 uT z3 (.t rfl) (.t rfl) (fun _=>(fun w I=>hm.aV I.keeps))) ?_)))));refine mv rfl (cx rfl rfl (cx rfl rfl (asn rfl (asn rfl (nP (sg (mv rfl (nP ?_))))))));refine cnq rfl (fun h0=>?_) (fun h0=>?_)
 ·refine sg (mv rfl (asn rfl (nP (ret (pR (dn rfl rfl ?_))))));rw [← hz];unfold kT;cases hf:Gx.cO eqs s m with
  | none=>rw [hf] at h0; cases h0
  | some i=>rfl
 ·refine skip (pN (sg (ac (I (-1)) ?_)));refine nP (ret (dn rfl rfl ?_));rw [← hz];unfold kT;cases hf:Gx.cO eqs s m with
  | none=>rfl
  | some i=>rw [hf] at h0; cases h0
theorem dout_ok (o:Int) (u:Value) (w:World):Gx.Calls Tryz.prog 175 #[I o,u] w (bG w (.tuple #[I 3,I o])):=by
 refine en0 7 Tryz.func175 (fun _ _=>?_);refine sg (ac (I 0) ?_);refine ac (I 0) ?_;refine nP (sg (mv rfl (ac (I 3) ?_)));refine asn rfl (nP (ret (done rfl (.tmp rfl (.tmp rfl .nil)) (gD ?_))))
 rfl
theorem dnot_ok (o:Int) (u:Value) (w:World):Gx.Calls Tryz.prog 181 #[I o,u] w (bG w (.tuple #[I o,I (-1)])):=by
 refine en0 7 Tryz.func181 (fun _ _=>?_);refine sg (ac (I 0) ?_);refine ac (I 0) ?_;refine nP (sg (mv rfl (asn rfl (ac (I (-1)) ?_))));refine nP (ret (done rfl (.tmp rfl (.tmp rfl .nil)) (gD ?_)))
 rfl
theorem tfind_to (t:Tt) (a:aG) (w:World) (z:ae × Int × Bool) (hz:Tri.jD t a = z) (ht:t.At w) (ho:t.OK):Gx.Calls Tryz.prog 177 #[t.ptr.v,cz.val a] w (bG w (.tuple #[aM.val z.1,I z.2.1,.bool z.2.2])):=by
 subst hz;exact Tri.find_ok t a w ht ho
theorem drouted_ok (t:Tt) (hb:Nat) (h:aa) (z:ae × Int × Bool) (w:World) (hz:Tri.jD t h.dst = z) (hh:cq aA w hb 0 h) (ht:t.At w) (ho:t.OK):Gx.Calls Tryz.prog 176 #[jE.val ⟨t.ptr⟩,.pointer (some ⟨hb,0,none⟩)] w (bG w (.tuple #[I (if z.2.2 = true then 3 else 4),I (if z.2.2 = true then z.2.1 else -1)])):=by
 refine en0 22 Tryz.func176 (fun _ _=>?_);refine sg (cons (box (E:=jE) (.t rfl) (fun b1=>?_)));refine ac (I 0) ?_;refine ac (I 0) ?_;refine nP (seq (seq (dA zk ?_)));refine tk 0 rfl (fA 0 (.t rfl)) ?_;refine tk 1 rfl (Ev.ldv ty127 (.t rfl) cD.db) ?_;refine tm 2 rfl rfl ?_;refine tn 3 rfl rfl ?_;refine tk 4 rfl (fA 17 (.t rfl)) ?_;refine tk 5 rfl (Ev.load eM (.t rfl) (c9 (fun w I=>hh.cn I.keeps) aa.fx)) ?_;refine all [6,11] zk (by decide) (.cons rfl ?_ (.cons rfl ?_ .nil))
 ·refine (aQ eN (o2 rfl rfl) (fun w I=>tfind_to t h.dst w z hz (ht.cn I.keeps) ho) ?_);refine hdn (tm 7 rfl rfl ?_);refine tk 8 rfl (Ev.extract (.t rfl) rfl) ?_;refine tk 9 rfl (Ev.extract (.t rfl) rfl) ?_;refine tk 10 rfl (Ev.extract (.t rfl) rfl) ?_;refine al1 11 rfl ((alloc mI (fun b2=>?_)));refine hdn (al1 12 rfl ((stv cB (ah.id _) (.t rfl) (.t rfl) ?_)));exact s24
 ·refine (alloc mI (fun b3=>?_));refine hdn (al1 6 rfl ((aQ eN (o2 rfl rfl) (fun w I=>tfind_to t h.dst w z hz (ht.cn I.keeps) ho) ?_)));refine hdn (tm 7 rfl rfl ?_);refine tk 8 rfl (Ev.extract (.t rfl) rfl) ?_;refine tk 9 rfl (Ev.extract (.t rfl) rfl) ?_;refine tk 10 rfl (Ev.extract (.t rfl) rfl) ?_;refine al1 12 rfl ((stv cB (ah.id _) (.t rfl) (.t rfl) ?_));exact s24
theorem decide_if (t:Tt) (l:CL) (a o:Int) (hb:Nat) (h:aa) (w:World) (hh:cq aA w hb 0 h) (ht:t.At w) (ho:t.OK) (hr:(Tri.jD t h.dst).2 = oP l.rs h.dst):IfAt Tryz.prog (oY t.ptr a o) "patchbay/plan.decide" [.pointer (some ⟨hb,0,none⟩)] w (.tuple #[I (actO l.rs a o h.dst).1,I (actO l.rs a o h.dst).2]):=by
 unfold oY actO;split
 ·exact ⟨_,_,_,175,rfl,pf.val zk Tryz.underlying201 rfl (by decide +kernel),Gx.cv.mk' zk,dout_ok o _ w⟩
 ·split
  ·have hc:=drouted_ok t hb h _ w rfl hh ht ho;rw [hr] at hc;refine ⟨_,_,_,176,rfl,pf.val zk Y203 rfl (by decide +kernel),Gx.cv.mk' zk,?_⟩;cases hb2:(oP l.rs h.dst).2 with
   | true=>rw [hb2] at hc; exact hc
   | false=>rw [hb2] at hc; exact hc
  ·exact ⟨_,_,_,181,rfl,pf.val zk Tryz.underlying204 rfl (by decide +kernel),Gx.cv.mk' zk,dnot_ok a _ w⟩
end Go.Proofs.YtljifjflnakmoaaGreat
namespace Go.Proofs.YtljifjflnakmoaaGreat
open Go Go.Gx Go.Proofs.YtljifjflnakmoaaGreat.Tri
theorem tj {α κ:Type} (q:κ→κ→Bool) (f:α→κ) (l:List α) (z:α) {i:Int} (h:0 ≤ i ∧ i < l.length):jN q f (fun k:Nat=>(k:Int)) l (i + 1).toNat = lE q (f (l.getD i.toNat z)) i (jN q f (fun k:Nat=>(k:Int)) l i.toNat):=by
 rw [ti q f _ l z h];have e:((i.toNat:Nat):Int) = i:=by omega
 simp only [e]
theorem vd_step (l:CL) {i:Int} (h:0 ≤ i):(List.range (i + 1).toNat).map (vdV l) = (List.range i.toNat).map (vdV l) ++ [vdV l i.toNat]:=by
 have e:(i + 1).toNat = i.toNat + 1:=by omega
 rw [e,List.range_succ,List.map_append]
 rfl
theorem me (b:Nat) (x:aj) (r:OV) (a o:Int) (w:World) (hb:cq cF w b 0 x) (hr:x.fe = r):Gx.Calls Tryz.prog 44 #[.pointer (some ⟨b,0,none⟩),I a,I o] w (bG w (oY r a o).v):=by
 subst hr;exact decider_ok b x a o w hb
def noPl:Pl:=⟨0,⟨ai,ai,ai,ai,ai⟩,0,⟨0,true,0,.nil,.nil⟩,0,ai,ai⟩
theorem z132:zI 132 cF:=kI
theorem pn:tyI 129 (ovE ai):=tyP
theorem q8:tyI 146 (ovE eB):=tyP
theorem z146:zI 146 (ovE eB):=kI
theorem zb146:zbI 146 (ovE eB) 16:=kB
theorem zs146:zsI (ovE eB):=zsP _
theorem pj:tyI 130 (ovE ai):=tyP
theorem z55:zI 55 a7:=kI
theorem gT:tyI 55 a7:=tyP
theorem zb55:zbI 55 a7 40:=kB
theorem zs55:zsI a7:=zsP _
theorem ty128:tyI 128 (ovE bP):=tyP
theorem qg (c:aN) (l:CL) (w:World) (hc:eI w c l) (hn:l.Names) (hz:l.n ≤ 4611686018427387904):Gx.Calls Tryz.prog 19 #[cZ.val c] w (gL w (uM l c.default) (fun x:Pl × List Res=>.tuple #[.pointer (plO l c.default x.1.b),I (plE l c.default)]) (fun x=>x.2)):=by
 have hlp:=hc.ps.le;have hlr:=hc.rs.le;have hlu:=hc.us.le;have hlm:=hc.ms.le;have hlx:=hc.xs.le;refine en0 162 Tryz.func19 (fun _ _=>?_);refine sg (cons (box (E:=cZ) (.t rfl) (fun b1=>?_)));refine ac (.pointer none) ?_;refine ac (I 0) ?_;refine nP (seq (sg (co (Ev.ldv ph (.t rfl) (ah.id _)) ?_)));refine cons (aQ eN (o1 rfl) (fun w I=>may_ok c l w (hc.aV I.keeps) hn hz) ?_);refine co (Ev.not (.t rfl)) ?_;refine nP ?_;refine cnq rfl (fun h0=>?_) (fun h0=>?_)
 ·have hmay:og l c.default = false:=by simpa using h0
  refine sg (ac (.pointer none) ?_);refine ac (I 210) ?_;refine nP (ret (pR (done rfl (.tmp rfl (.tmp rfl .nil)) (fun w I=>?_))));refine ft (noPl,[]) (fun h=>by rw [hmay] at h; cases h) ?_ fU.nil w I;exact s56
 ·have hmay:og l c.default = true:=by simpa using h0
  have hlens:=tE hmay;have hcomp:=may_comp hmay;have hof:=may_ofR hmay;have hgm:=good_ms (nj hmay);have hgx:=good_xs (nj hmay);have hsm:l.Small:=⟨by omega,by omega,by omega,by omega,by omega⟩;refine emp0 ?_;refine skip (pN (sg (co (Ev.ldv ph (.t rfl) (ah.id _)) ?_)));refine cons (dB (X:=CB) (fun _=>True) (fun x=>cZ.val (x.c c.default)) (fun x=>x.R l) eN (o1 rfl) (fun w I=>copy_ok c l w (hc.aV I.keeps) hsm) (fun x0 _=>?_));refine mP (r:=Emp) zr ?_;refine cons (makeMap (E:=iE) (V:=bE) (fun b2=>?_));refine co (Ev.bu (fs:=_) (places:=[(0,6),(6,1),(7,1),(8,1),(9,1),(10,1)]) z132 rfl Tryz.underlying132 zk (.cons (.t rfl) (.cons (.t (v:=(lG b2).v) rfl) .nil)) (ay.cons aj.l_conf rfl (ay.cons aj.dE rfl ay.nil))) ?_;refine cons (box (E:=cF) (.t rfl) (fun b3=>?_));refine asn rfl (nP (seq (sg (cf 0 rfl ?_))));refine co (Ev.ldv ty22 (.t rfl) aN.dE) ?_;refine co (Ev.len Y22 (.t rfl) (fun w I=>(hc.aV I.keeps).ps)) ?_;refine co (Ev.move (.c rfl)) ?_;refine nP (block (lpo (X:=Int) (fun x=>(0 ≤ x ∧ x ≤ l.ps.length)) (fun x=>[dz,(1,true,pvb b1),(4,true,pvb b3),(27,true,c.jA.v),(28,true,I l.ps.length),(29,true,I x)]) (fun x=>[Var b3 cF (⟨x0.c c.default,lG b2,bP,bP,ai,ai⟩:aj) 132,fW b2 iE bE (jN eqd (fun x=>x) (fun _=>true) l.ps x.toNat),gi Emp (x0.R l),Var b1 cZ c 28]) (fun x=>((l.ps.length:Int) - x).toNat) (0) (fun x hx=>?_)));obtain ⟨i0,rfl⟩:∃ y,y = x:=⟨x,rfl⟩;have hi0:0 ≤ i0 ∧ i0 ≤ l.ps.length:=hx;clear hx;refine sg (co (Ev.cj (.t rfl) (.t rfl)) ?_);refine nP (seq ?_);refine cnd rfl (fun h1=>?_) (fun h1=>?_)
  ·refine skip (pN (seq (block (sg (co (Ev.indexAddr Y22 ty3 (.t rfl) (.t rfl) (fun w I=>(hc.aV I.keeps).ps) (fun _=>zo)) ?_)))));refine co (Ev.bV ty3 (.t rfl) (fun w I=>(hc.aV I.keeps).ps) (fun _=>zo)) ?_;refine asn rfl (nP (region (mv rfl (co (Ev.nilCheck (.t rfl)) ?_))));refine cf 6 rfl ?_;refine co (Ev.to (v':=.map (some b2)) (Ev.ldv ty126 (.t rfl) aj.dE) (rfl)) ?_;refine mv rfl (cons (mapUpdate (V:=bE) (v:=true) Y126 Y3 key3 (.t rfl) (.t rfl) (.c rfl) zu ?_));refine nil (bN (pN (region (co (Ev.bL (.t rfl) (.c rfl) (fun _=>zo)) ?_))));refine mv rfl (nP (nxo (i0 + 1) (hL:=(by rw [ti _ _ _ _ iE.zero (by omega)]; exact zs))))
  ·refine exit (pX (pX (bX (pN (seq ?_)))));have e0:i0.toNat = l.ps.length:=by omega
   rw [e0];refine region (ac (I 0) ?_);refine nP (seq (sg (mv rfl (cf 1 rfl ?_))));refine co (Ev.ldv ty23 (.t rfl) aN.db) ?_;refine cons (dB (X:=Tt × List Res) (Tri.TofJ l.rs) (fun x=>.tuple #[.pointer (Tri.pO (Tri.ofR l.rs) x.1.b),I (Tri.ofR l.rs)]) (fun x=>x.2) eN (o1 rfl) (fun w I=>Tri.tof_ok _ l.rs w (hc.aV I.keeps).rs (by omega)) (fun xt hxt=>?_));refine mv rfl (co (Ev.to (v':=xt.1.ptr.v) (Ev.extract (.t rfl) rfl) (congrArg Value.pointer (if_pos hof))) ?_);refine co (Ev.to (v':=I 0) (Ev.extract (.t rfl) rfl) (congrArg Gx.I hof)) ?_;refine co (Ev.nilCheck (.t rfl)) ?_;refine cf 7 rfl ?_;refine cons (stv ty127 aj.db (.t rfl) (.t rfl) ?_);refine asn rfl (nP (seq (mP (r:=gi Emp (x0.R l)) zr ?_)));obtain ⟨hok,hen,_,htr⟩:=hxt hof;refine region (mv rfl (co (Ev.dS (.t rfl) (.c rfl)) ?_));refine nP (fL rfl (rfl) ?_);refine skip (pN (sg (cons (makeMap (E:=sE) (V:=iE) (fun b4=>?_)))));refine cons (makeMap (E:=sE) (V:=iE) (fun b5=>?_));refine asn rfl (asn rfl (nP (seq (sg (cf 3 rfl ?_)))));refine co (Ev.ldv ty25 (.t rfl) aN.fh) ?_;refine co (Ev.len Y25 (.t rfl) (fun w I=>(hc.aV I.keeps).ms)) ?_;refine co (Ev.move (.c rfl)) ?_;refine nP (block (lpo (X:=Int) (fun x=>(0 ≤ x ∧ x ≤ l.ms.length)) (fun x=>[dz,(1,true,pvb b1),(4,true,pvb b3),(8,true,.map (some b4)),(9,true,.map (some b5)),(53,true,c.kF.v),(54,true,I l.ms.length),(55,true,I x)]) (fun x=>[fW b5 sE iE ([]:List (ByteArray × Int)),fW b4 sE iE (jN eqs (fun r:aI=>r.name) (fun k:Nat=>(k:Int)) l.ms x.toNat),gi (gi Emp (x0.R l)) xt.2,Var b3 cF (⟨x0.c c.default,lG b2,xt.1.ptr,bP,ai,ai⟩:aj) 132,fW b2 iE bE (kC l),Var b1 cZ c 28]) (fun x=>((l.ms.length:Int) - x).toNat) (0) (fun x hx=>?_)));obtain ⟨i1,rfl⟩:∃ y,y = x:=⟨x,rfl⟩;have hi1:0 ≤ i1 ∧ i1 ≤ l.ms.length:=hx;clear hx;refine sg (co (Ev.cj (.t rfl) (.t rfl)) ?_)
   refine nP (seq ?_);refine cnd rfl (fun h3=>?_) (fun h3=>?_)
   ·refine skip (pN (seq (block (sg (mv rfl (co (Ev.indexAddr Y25 sT (.t rfl) (.t rfl) (fun w I=>(hc.aV I.keeps).ms) (fun _=>zo)) ?_))))));refine co (Ev.bV sT (.t rfl) (fun w I=>(hc.aV I.keeps).ms) (fun _=>zo)) ?_;refine cons (alloc z139 (fun b6=>?_));refine asn rfl (cons (stv sT (ah.id _) (.t rfl) (.t rfl) ?_));refine nP (region (mv rfl (cf 0 rfl ?_)));refine co (Ev.ldv ty9 (.t rfl) aI.fT) ?_;refine mv rfl (cons (mapUpdate Y135 Y9 uT (.t rfl) (.t rfl) (.t rfl) zu ?_));refine nil (bN (pN (region (co (Ev.bL (.t rfl) (.c rfl) (fun _=>zo)) ?_))));refine mv rfl (nP (nxo (i1 + 1) (hL:=(by rw [tj _ _ _ bj.zero (by omega)]; exact zs))))
   ·refine exit (pX (pX (bX (pN (seq (seq ?_))))));have e1:i1.toNat = l.ms.length:=by omega
    rw [e1];refine region (cf 4 rfl ?_);refine co (Ev.ldv ty26 (.t rfl) aN.eu) ?_;refine co (Ev.len Y26 (.t rfl) (fun w I=>(hc.aV I.keeps).xs)) ?_;refine co (Ev.move (.c rfl)) ?_;refine nP (block (lpo (X:=Int) (fun x=>(0 ≤ x ∧ x ≤ l.xs.length)) (fun x=>[dz,(1,true,pvb b1),(4,true,pvb b3),(8,true,.map (some b4)),(9,true,.map (some b5)),(66,true,c.iF.v),(67,true,I l.xs.length),(68,true,I x)]) (fun x=>[fW b5 sE iE (jN eqs (fun r:az=>r.name) (fun k:Nat=>(k:Int)) l.xs x.toNat),fW b4 sE iE (jN eqs (fun r:aI=>r.name) (fun k:Nat=>(k:Int)) l.ms l.ms.length),gi (gi Emp (x0.R l)) xt.2,Var b3 cF (⟨x0.c c.default,lG b2,xt.1.ptr,bP,ai,ai⟩:aj) 132,fW b2 iE bE (kC l),Var b1 cZ c 28]) (fun x=>((l.xs.length:Int) - x).toNat) (0) (fun x hx=>?_)));obtain ⟨i2,rfl⟩:∃ y,y = x:=⟨x,rfl⟩;have hi2:0 ≤ i2 ∧ i2 ≤ l.xs.length:=hx;clear hx;refine sg (co (Ev.cj (.t rfl) (.t rfl)) ?_);refine nP (seq ?_);refine cnd rfl (fun h4=>?_) (fun h4=>?_)
    ·refine skip (pN (seq (block (sg (mv rfl (co (Ev.indexAddr Y26 sQ (.t rfl) (.t rfl) (fun w I=>(hc.aV I.keeps).xs) (fun _=>zo)) ?_))))));refine co (Ev.bV sQ (.t rfl) (fun w I=>(hc.aV I.keeps).xs) (fun _=>zo)) ?_;refine cons (alloc z141 (fun b7=>?_));refine asn rfl (cons (stv sQ (ah.id _) (.t rfl) (.t rfl) ?_));refine nP (region (mv rfl (cf 0 rfl ?_)));refine co (Ev.ldv ty9 (.t rfl) az.fT) ?_;refine mv rfl (cons (mapUpdate Y135 Y9 uT (.t rfl) (.t rfl) (.t rfl) zu ?_));refine nil (bN (pN (region (co (Ev.bL (.t rfl) (.c rfl) (fun _=>zo)) ?_))));refine mv rfl (nP (nxo (i2 + 1) (hL:=(by rw [tj _ _ _ bg.zero (by omega)]; exact zs))))
    ·refine exit (pX (pX (bX (pN (seq ?_)))));have e2:i2.toNat = l.xs.length:=by omega
     rw [e2];refine region (co (Ev.assign .f) ?_);refine nP (sg (ac (.slice none 0 0) ?_));refine dD aR 109 ?_;refine nP (seq (sg (cf 2 rfl ?_)));refine co (Ev.ldv ty24 (.t rfl) aN.eJ) ?_;refine co (Ev.len Y24 (.t rfl) (fun w I=>(hc.aV I.keeps).us)) ?_;refine co (Ev.move (.c rfl)) ?_;refine nP (block (dD (ovE eB) 146 ?_));refine dD a7 55 ?_;refine lpo (X:=Int × OV × OV × OV) (fun x=>(0 ≤ x.1 ∧ x.1 ≤ l.us.length)) (fun x=>[dz,(1,true,pvb b1),(4,true,pvb b3),(8,true,.map (some b4)),(9,true,.map (some b5)),(14,true,(clo 43 []).v),(15,true,x.2.1.v),(79,true,c.rules.v),(80,true,I l.us.length),(81,true,I x.1)]) (fun x=>[aT x.2.2.2.v a7 ((List.range x.1.toNat).map (vdV l)) 55,aT x.2.2.1.v (ovE eB) ((l.us.take x.1.toNat).map (fun u=>oY xt.1.ptr u.action u.out)) 146,aT x.2.1.v aR ((l.us.take x.1.toNat).map (fun r=>r.eY)) 109,fW b5 sE iE (jN eqs (fun r:az=>r.name) (fun k:Nat=>(k:Int)) l.xs l.xs.length),fW b4 sE iE (jN eqs (fun r:aI=>r.name) (fun k:Nat=>(k:Int)) l.ms l.ms.length),gi (gi Emp (x0.R l)) xt.2,Var b3 cF (⟨x0.c c.default,lG b2,xt.1.ptr,bP,x.2.2.1,x.2.2.2⟩:aj) 132,fW b2 iE bE (kC l),Var b1 cZ c 28]) (fun x=>((l.us.length:Int) - x.1).toNat) (0,ai,ai,ai) (fun x hx=>?_);obtain ⟨i3,q,dv,vv⟩:=x;dsimp only at hx;have hi3:=hx;clear hx;have hq1:((l.us.take i3.toNat).map (fun r=>r.eY)).length ≤ 256:=by simp; omega
     have hq2:((l.us.take i3.toNat).map (fun u=>oY xt.1.ptr u.action u.out)).length ≤ 256:=by simp; omega
     have hq3:((List.range i3.toNat).map (vdV l)).length ≤ 256:=by simp; omega
     refine sg (co (Ev.cj (.t rfl) (.t rfl)) ?_);refine nP (seq ?_);refine cnd rfl (fun h5=>?_) (fun h5=>?_)
     ·refine skip (pN (seq (block (sg (mv rfl (co (Ev.indexAddr Y24 q9 (.t rfl) (.t rfl) (fun w I=>(hc.aV I.keeps).us) (fun _=>zo)) ?_))))));refine co (Ev.bV q9 (.t rfl) (fun w I=>(hc.aV I.keeps).us) (fun _=>zo)) ?_;refine cons (alloc z111 (fun b8=>?_));refine asn rfl (cons (stv q9 (ah.id _) (.t rfl) (.t rfl) ?_));refine nP (sg (mv rfl (cf 1 rfl ?_)));refine co (Ev.ldv fY (.t rfl) aY.tM) ?_;refine cons (buildSlice (E:=aR) Y144 fY z109 (.cons (.t rfl) .nil) rfl rfl (fun v9=>?_));refine cons (apz (E:=aR) Y144 fY zb109 zs109 (.t rfl) (.t rfl) (fun v10=>?_));refine asn rfl (nP (cut (X:=OV × OV) (fun x=>True) (fun x=>[dz,(1,true,pvb b1),(4,true,pvb b3),(8,true,.map (some b4)),(9,true,.map (some b5)),(14,true,(clo 43 []).v),(15,true,x.1.v),(16,true,I i3),(17,true,pvb b8),(79,true,c.rules.v),(80,true,I l.us.length),(81,true,I i3)]) (fun x=>[Var b8 cy (l.us.getD i3.toNat cy.zero) 111,aT vv.v a7 ((List.range i3.toNat).map (vdV l)) 55,aT x.2.v (ovE eB) (((l.us.take i3.toNat).map (fun u=>oY xt.1.ptr u.action u.out)) ++ [oY xt.1.ptr (l.us.getD i3.toNat cy.zero).action (l.us.getD i3.toNat cy.zero).out]) 146,aT x.1.v aR (((l.us.take i3.toNat).map (fun r=>r.eY)) ++ [(l.us.getD i3.toNat cy.zero).eY]) 109,fW b5 sE iE (jN eqs (fun r:az=>r.name) (fun k:Nat=>(k:Int)) l.xs l.xs.length),fW b4 sE iE (jN eqs (fun r:aI=>r.name) (fun k:Nat=>(k:Int)) l.ms l.ms.length),gi (gi Emp (x0.R l)) xt.2,Var b3 cF (⟨x0.c c.default,lG b2,xt.1.ptr,bP,x.2,vv⟩:aj) 132,fW b2 iE bE (kC l),Var b1 cZ c 28]) ?_ (fun x hx=>?_)))
      ·refine draw [Var b8 cy (l.us.getD i3.toNat cy.zero) 111] zk ?_;refine tm 0 rfl rfl ?_;refine tm 1 rfl rfl ?_;refine tn 2 rfl rfl ?_;refine tk 3 rfl (fA 9 (.t rfl)) ?_;refine tm 5 rfl rfl ?_;refine tk 6 rfl (fA 45 (.t rfl)) ?_;refine tk 7 rfl (Ev.ldv ty3 (.t rfl) aY.dM) ?_;refine tk 8 rfl (fA 46 (.t rfl)) ?_;refine tk 9 rfl (Ev.ldv ty3 (.t rfl) aY.jB) ?_;refine all [4,10] zk (by decide) (.cons rfl ?_ (.cons rfl ?_ .nil))
       ·refine (opv (Ev.to (v':=dv.v) (Ev.ldv pn (.t rfl) aj.eG) (rfl)) ?_);refine hdn (al1 10 rfl ((aQ eN (o3 rfl rfl rfl) (fun w I=>me b3 _ xt.1.ptr _ _ w (br (E':=cF) zm (ah.id _) w I) rfl) ?_)));exact s80
       ·refine (aQ eN (o3 rfl rfl rfl) (fun w I=>me b3 _ xt.1.ptr _ _ w (br (E':=cF) zm (ah.id _) w I) rfl) ?_);refine hdn (all [4,11] zk (by decide) (.cons rfl ?_ (.cons rfl ?_ .nil)))
        ·refine (opv (Ev.to (v':=dv.v) (Ev.ldv pn (.t rfl) aj.eG) (rfl)) ?_);exact s80
        ·refine (buildSlice (E:=(ovE eB)) Y129 q8 z146 (.cons (.t rfl) .nil) rfl rfl (fun v15=>?_));refine hdn (al1 4 rfl ((opv (Ev.to (v':=dv.v) (Ev.ldv pn (.t rfl) aj.eG) (rfl)) ?_)));exact s19
      obtain ⟨q1,dv1⟩:=x;refine draw [Var b8 cy (l.us.getD i3.toNat cy.zero) 111] zk ?_;refine tm 0 rfl rfl ?_;refine tm 1 rfl rfl ?_;refine tn 2 rfl rfl ?_;refine tk 3 rfl (fA 10 (.t rfl)) ?_;refine tk 5 rfl (Ev.to (v':=I ((i3.toNat:Nat):Int)) (Ev.move (.t rfl)) (congrArg Gx.I (by omega))) ?_;refine tm 6 rfl rfl ?_;refine tm 7 rfl rfl ?_;refine tk 8 rfl (fA 47 (.t rfl)) ?_;refine tk 9 rfl (Ev.ldv ty9 (.t rfl) aY.jq) ?_;refine tm 11 rfl rfl ?_;refine tm 12 rfl rfl ?_;refine tk 13 rfl (fA 48 (.t rfl)) ?_;refine tk 14 rfl (Ev.ldv ty9 (.t rfl) aY.gX) ?_;refine all [4,10] zk (by decide) (.cons rfl ?_ (.cons rfl ?_ .nil))
      ·refine (opv (Ev.to (v':=vv.v) (Ev.ldv pj (.t rfl) aj.eD) (rfl)) ?_);refine hdn (al1 10 rfl ((jS (.t rfl) eN (o2 rfl rfl) (fun w I=>nO b4 _ _ _ w (eP zm w I) (pJ hgm _)) ?_)));exact s76
      ·refine (jS (.t rfl) eN (o2 rfl rfl) (fun w I=>nO b4 _ _ _ w (eP zm w I) (pJ hgm _)) ?_);refine hdn (all [4,15] zk (by decide) (.cons rfl ?_ (.cons rfl ?_ .nil)))
       ·refine (opv (Ev.to (v':=vv.v) (Ev.ldv pj (.t rfl) aj.eD) (rfl)) ?_);exact s76
       ·refine (jS (.t rfl) eN (o2 rfl rfl) (fun w I=>nO b5 _ _ _ w (eP zm w I) (pJ hgx _)) ?_);refine hdn (tk 16 rfl (Ev.bu (fs:=_) (places:=[(0,1),(1,1),(2,1),(3,1),(4,1)]) z55 rfl Y55 zk (.cons (.t rfl) (.cons (.t rfl) (.cons (.t rfl) .nil))) (ay.cons aD.tK rfl (ay.cons aD.jq rfl (ay.cons aD.gX rfl ay.nil)))) ?_);refine all [4,17] zk (by decide) (.cons rfl ?_ (.cons rfl ?_ .nil))
        ·refine (opv (Ev.to (v':=vv.v) (Ev.ldv pj (.t rfl) aj.eD) (rfl)) ?_);refine hdn (al1 17 rfl ((buildSlice (E:=a7) Y130 gT z55 (.cons (.t rfl) .nil) rfl rfl (fun v21=>?_))));exact s6
        ·refine (buildSlice (E:=a7) Y130 gT z55 (.cons (.t rfl) .nil) rfl rfl (fun v23=>?_));refine hdn (al1 4 rfl ((opv (Ev.to (v':=vv.v) (Ev.ldv pj (.t rfl) aj.eD) (rfl)) ?_)));exact s6
     ·refine exit (pX (pX (bX (pN (cut (X:=OV) (fun x=>True) (fun x=>[dz,(1,true,pvb b1),(4,true,pvb b3),(15,true,q.v)]) (fun x=>[aT x.v (ovE eB) (decL xt.1.ptr l c.default) 146,aT vv.v a7 ((List.range l.us.length).map (vdV l)) 55,aT q.v aR (mtL l) 109,fW b5 sE iE (jN eqs (fun r:az=>r.name) (fun k:Nat=>(k:Int)) l.xs l.xs.length),fW b4 sE iE (jN eqs (fun r:aI=>r.name) (fun k:Nat=>(k:Int)) l.ms l.ms.length),gi (gi Emp (x0.R l)) xt.2,Var b3 cF (⟨x0.c c.default,lG b2,xt.1.ptr,bP,x,vv⟩:aj) 132,fW b2 iE bE (kC l),Var b1 cZ c 28]) ?_ (fun x hx=>?_))))))
      ·have e3:i3.toNat = l.us.length:=by omega
       rw [e3,List.take_length];refine draw [Var b1 cZ c 28] zk ?_;refine tm 0 rfl rfl ?_;refine tm 1 rfl rfl ?_;refine tn 2 rfl rfl ?_;refine tk 3 rfl (fA 9 (.t rfl)) ?_;refine tm 5 rfl rfl ?_;refine tk 6 rfl (fA 5 (.t rfl)) ?_;refine tk 7 rfl (Ev.ldv ty3 (.t rfl) aN.fQ) ?_;refine all [4,8] zk (by decide) (.cons rfl ?_ (.cons rfl ?_ .nil))
       ·refine (opv (Ev.to (v':=dv.v) (Ev.ldv pn (.t rfl) aj.eG) (rfl)) ?_);refine hdn (al1 8 rfl ((aQ eN (.cons (.t rfl) (.cons (.t rfl) (.cons (.c (v:=I 0) rfl) .nil))) (fun w I=>me b3 _ xt.1.ptr _ _ w (br (E':=cF) zm (ah.id _) w I) rfl) ?_)));exact s81
       ·refine (aQ eN (.cons (.t rfl) (.cons (.t rfl) (.cons (.c (v:=I 0) rfl) .nil))) (fun w I=>me b3 _ xt.1.ptr _ _ w (br (E':=cF) zm (ah.id _) w I) rfl) ?_);refine hdn (all [4,9] zk (by decide) (.cons rfl ?_ (.cons rfl ?_ .nil)))
        ·refine (opv (Ev.to (v':=dv.v) (Ev.ldv pn (.t rfl) aj.eG) (rfl)) ?_);exact s81
        ·refine (buildSlice (E:=(ovE eB)) Y129 q8 z146 (.cons (.t rfl) .nil) rfl rfl (fun v29=>?_));refine hdn (al1 4 rfl ((opv (Ev.to (v':=dv.v) (Ev.ldv pn (.t rfl) aj.eG) (rfl)) ?_)));exact s21
      obtain ⟨dfin,rfl⟩:∃ y,y = x:=⟨x,rfl⟩;refine sg (mv rfl (mv rfl (co (Ev.nilCheck (.t rfl)) ?_)));refine cf 10 rfl ?_;refine co (Ev.to (v':=vv.v) (Ev.ldv pj (.t rfl) aj.eD) (rfl)) ?_;refine co (Ev.bu (fs:=_) (places:=[(0,1),(1,1),(2,1),(3,1),(4,1)]) z55 rfl Y55 zk (.cons (.c (v:=I (-1)) rfl) (.cons (.c (v:=I (-1)) rfl) (.cons (.c (v:=I (-1)) rfl) .nil))) (ay.cons aD.tK rfl (ay.cons aD.jq rfl (ay.cons aD.gX rfl ay.nil)))) ?_;refine cons (buildSlice (E:=a7) Y130 gT z55 (.cons (.t rfl) .nil) rfl rfl (fun v31=>?_));refine cons (apz (E:=a7) Y130 gT zb55 zs55 (.t rfl) (.t rfl) (fun v32=>?_));refine co (Ev.nilCheck (.t rfl)) ?_;refine cf 10 rfl ?_;refine cons (stv pj aj.eD (.t rfl) (.t rfl) ?_);refine nP (seq (sg (mv rfl (mv rfl (cons (dB (X:=Nat × List Res) (CompJ (mtL l)) (compV (mtL l)) (fun x=>x.2) eN (o1 rfl) (fun w I=>compile_ok _ (mtL l) w (io w I)) (fun xr hxr=>?_)))))));refine mv rfl (co (Ev.to (v':=(ptrV xr.1).v) (Ev.extract (.t rfl) rfl) (congrArg Value.pointer (ptrO_ok xr.1 hcomp))) ?_);refine co (Ev.to (v':=I 0) (Ev.extract (.t rfl) rfl) (congrArg Gx.I hcomp)) ?_;refine co (Ev.nilCheck (.t rfl)) ?_;refine cf 8 rfl ?_;refine cons (stv ty128 aj.eJ (.t rfl) (.t rfl) ?_);refine asn rfl (nP (seq (mP (r:=gi (gi Emp (x0.R l)) xt.2) zr ?_)));refine region (mv rfl (co (Ev.dS (.t rfl) (.c rfl)) ?_));refine nP (fL rfl (rfl) ?_);refine skip (pN (sg (mv rfl (asn rfl (ac (I 0) ?_)))));refine nP (ret (done rfl (.tmp rfl (.tmp rfl .nil)) (fun w I=>?_)));refine ft (⟨b3,x0,b2,xt.1,xr.1,dfin,v32⟩,[gi (gi (gi Emp (x0.R l)) xt.2) xr.2,Var b3 cF (⟨x0.c c.default,lG b2,xt.1.ptr,ptrV xr.1,dfin,v32⟩:aj) 132,fW b2 iE bE (kC l),aT dfin.v (ovE eB) (decL xt.1.ptr l c.default) 146,aT v32.v a7 (vdL l) 55]) (fun _=>⟨⟨hmay,hok,hen⟩,fun w1 hw1=>?_⟩) ?_ zp w I
      ·exact s56
      ·obtain ⟨a1,a2⟩:=gi.A _ _ (hw1 _ List.mem_cons_self);obtain ⟨a3,a4⟩:=gi.A _ _ a1;obtain ⟨_,a5⟩:=gi.A _ _ a3;exact ⟨gE (hw1 _ (List.mem_cons_of_mem _ List.mem_cons_self)),⟨aO.gN (a5 (aT x0.o1.v iE l.ps 3) (by simp [CB.R])),aO.gN (a5 (aT x0.o2.v aX l.rs 194) (by simp [CB.R])),aO.gN (a5 (aT x0.o3.v cy l.us 111) (by simp [CB.R])),aO.gN (a5 (aT x0.o4.v bj l.ms 139) (by simp [CB.R])),aO.gN (a5 (aT x0.o5.v bg l.xs 141) (by simp [CB.R]))⟩,hw1 _ (List.mem_cons_of_mem _ (List.mem_cons_of_mem _ List.mem_cons_self)),htr w1 a4,hxr hcomp w1 a2,aO.gN (hw1 _ (List.mem_cons_of_mem _ (List.mem_cons_of_mem _ (List.mem_cons_of_mem _ List.mem_cons_self)))),aO.gN (hw1 _ (List.mem_cons_of_mem _ (List.mem_cons_of_mem _ (List.mem_cons_of_mem _ (List.mem_cons_of_mem _ List.mem_cons_self)))))⟩
end Go.Proofs.YtljifjflnakmoaaGreat
namespace Go.Proofs.YtljifjflnakmoaaGreat
open Go Go.Gx Go.Proofs.YtljifjflnakmoaaGreat.Tri
def deE (h:aa) (c:Int):Int:=if dH h c = 2 then 2 else 0
def dvV (l:CL) (d n:Int) (h:aa) (c:Int):aD:=if dH h c = 2 then a7.zero else decV l d n h
theorem wz (l:CL):(vdL l).length = l.us.length + 1:=by simp [vdL]
theorem decL_len (r:OV) (l:CL) (d:Int):(decL r l d).length = l.us.length + 1:=by simp [decL]
theorem ruleI_lt {l:CL} {n:Int} {h:aa} (hm:uS l n h < 0):iA l n h = l.us.length:=by
 unfold iA;rw [if_pos hm]
theorem ruleI_ge {l:CL} {n:Int} {h:aa} (hm:¬ uS l n h < 0):((iA l n h:Nat):Int) = uS l n h:=by
 unfold iA;rw [if_neg hm];omega
theorem decL_at (r:OV) (l:CL) (d:Int) {k:Nat} (hk:k ≤ l.us.length) (z:OV):(decL r l d).getD k z = oY r (qU l d k).1 (qU l d k).2:=by
 unfold decL qU
 by_cases e:k < l.us.length
 ·rw [if_pos e];simp [List.getD,List.getElem?_append,e]
 ·obtain rfl:k = l.us.length:=by omega
  rw [if_neg e];simp [List.getD,List.getElem?_append]
theorem decV_yes {l:CL} {d n:Int} {h:aa} (hp:l.ps.any (fun x=>decide (n = x)) = true):decV l d n h = { (vdL l).getD (iA l n h) a7.zero with action:=(actO l.rs (qU l d (iA l n h)).1 (qU l d (iA l n h)).2 h.dst).1,out:=(actO l.rs (qU l d (iA l n h)).1 (qU l d (iA l n h)).2 h.dst).2 }:=by
 unfold decV;rw [if_pos hp]
theorem decV_no {l:CL} {d n:Int} {h:aa} (hp:l.ps.any (fun x=>decide (n = x)) = false):decV l d n h = dropV:=by
 unfold decV;rw [if_neg (by rw [hp]; exact Bool.false_ne_true)]
theorem z4:zI 4 bE:=kI
theorem decide_ok (p:Pl) (l:CL) (d n:Int) (h:aa) (dt:List UInt8) (w:World) (hp:jU w p l d) (ho:jl p l d) (hd:aO u8E w h.data.v dt) (hl:dt.length ≤ 1152921504606846975):Gx.Calls Tryz.prog 33 #[.pointer (some ⟨p.b,0,none⟩),I n,aA.val h] w (bG w (.tuple #[a7.val (dvV l d n h dt.length),I (deE h dt.length)])):=by
 have hlens:=tE ho.may;refine en0 62 Tryz.func33 (fun _ _=>?_);refine sg (cons (box (E:=aA) (.t rfl) (fun b1=>?_)));refine cons (alloc z55 (fun b2=>?_));refine ac (I 0) ?_;refine nP (seq (sg (mv rfl (cons (aQ eN (o1 rfl) (fun w I=>pthere_ok p.b (p.val d) p.pm w (hp.pt.cn I.keeps) rfl) ?_)))));refine co (Ev.not (.t rfl)) ?_;refine nP (fL rfl (rfl) ?_);refine skip (pN (seq (sg (co (Ev.ldx h cJ (.t rfl) (ah.id _)) ?_))));refine cons (aQ eN (o1 rfl) (fun w I=>vB h dt w (hd.aV I.keeps) hl) ?_);refine co (Ev.dO (.t rfl) (.c rfl)) ?_;refine nP ?_;refine cnq rfl (fun h1=>?_) (fun h1=>?_)
 ·refine sg (co (Ev.bu (fs:=_) (places:=[(0,1),(1,1),(2,1),(3,1),(4,1)]) z55 rfl Y55 zk .nil ay.nil) ?_);refine cons (stv gT (ah.id _) (.t rfl) (.t rfl) ?_);refine ac (I 2) ?_;refine nP (ret (pR (done rfl (.cellP rfl gT (br zm (ah.id _)) (.tmp rfl .nil)) (gD ?_))));have e1:deE h dt.length = 2:=by unfold deE; rw [if_pos h1]
  have e2:dvV l d n h dt.length = a7.zero:=by unfold dvV; rw [if_pos h1]
  rw [e1,e2]; rfl
 ·refine skip (pN (seq (sg (mv rfl (co (Ev.nilCheck (.t rfl)) ?_)))));refine cf 6 rfl ?_;refine co (Ev.to (v':=.map (some p.pm)) (Ev.load ty126 (.t rfl) (c9 (fun w I=>(hp).pt.cn I.keeps) aj.dE)) (rfl)) ?_;refine mv rfl (co (Ev.lookupFV (V:=bE) Y126 Y3 key3 z4 (.t rfl) (.t rfl) (fun _=>(fun w I=>hp.pm.aV I.keeps))) ?_);refine co (Ev.not (.t rfl)) ?_;refine nP ?_;refine cnq rfl (fun h2=>?_) (fun h2=>?_)
  ·have hps:l.ps.any (fun x=>decide (n = x)) = false:=by
    rw [← tp];have h9:(!(Gx.cO eqd n (kC l)).getD false) = true:=h2
    simpa using h9
   refine sg (co (Ev.bu (fs:=_) (places:=[(0,1),(1,1),(2,1),(3,1),(4,1)]) z55 rfl Y55 zk (.cons (.c (v:=I 2) rfl) (.cons (.c (v:=I (-1)) rfl) (.cons (.c (v:=I (-1)) rfl) (.cons (.c (v:=I (-1)) rfl) (.cons (.c (v:=I (-1)) rfl) .nil))))) (ay.cons aD.dM rfl (ay.cons aD.jB rfl (ay.cons aD.tK rfl (ay.cons aD.jq rfl (ay.cons aD.gX rfl ay.nil)))))) ?_);refine cons (stv gT (ah.id _) (.t rfl) (.t rfl) ?_);refine ac (I 0) ?_;refine nP (ret (pR (done rfl (.cellP rfl gT (br zm (ah.id _)) (.tmp rfl .nil)) (gD ?_))));have e1:deE h dt.length = 0:=by unfold deE; rw [if_neg h1]
   have e2:dvV l d n h dt.length = decV l d n h:=by unfold dvV; rw [if_neg h1]
   rw [e1,e2,decV_no hps]; rfl
  ·have hps:l.ps.any (fun x=>decide (n = x)) = true:=by
    rw [← tp];have h9:(!(Gx.cO eqd n (kC l)).getD false) = false:=h2
    simpa using h9
   refine skip (pN (seq (dA zk ?_)));refine tm 0 rfl rfl ?_;refine tn 1 rfl rfl ?_;refine tk 2 rfl (fA 8 (.t rfl)) ?_;refine tk 3 rfl (Ev.to (v':=.pointer (some ⟨p.rb,0,none⟩)) (Ev.load ty128 (.t rfl) (c9 (fun w I=>(hp).pt.cn I.keeps) aj.eJ)) (rfl)) ?_;refine tm 4 rfl rfl ?_;refine tk 5 rfl (Ev.ldx h cJ (.t rfl) (ah.id _)) ?_;refine al1 6 rfl ((aQ eN (o3 rfl rfl rfl) (fun w I=>first_ok p.rb (mtL l) n h w (hp.ru.cn I.keeps)) ?_));refine hdn (tk 7 rfl (Ev.to (v':=I (uS l n h)) (Ev.assign (.t rfl)) (rfl)) ?_);refine ovr (pN (cut (X:=Int) (fun x=>(x = ((iA l n h:Nat):Int))) (fun x=>[dz,(0,true,pvb p.b),(5,true,pvb b1),(6,true,pvb b2),(7,true,I 0),(8,true,I x)]) (fun x=>[Var b2 a7 a7.zero 55,Var b1 aA h 85]) ?_ (fun x hx=>?_)))
   ·refine sg (mv rfl (co (Ev.cj (.t rfl) (.c rfl)) ?_));refine nP ?_;refine cnd rfl (fun h3=>?_) (fun h3=>?_)
    ·refine region (mv rfl (co (Ev.nilCheck (.t rfl)) ?_));refine cf 10 rfl ?_;refine co (Ev.to (v':=p.vv.v) (Ev.load pj (.t rfl) (c9 (fun w I=>(hp).pt.cn I.keeps) aj.eD)) (rfl)) ?_;refine co (Ev.len Y130 (.t rfl) (fun w I=>hp.vs.aV I.keeps)) ?_;refine co (Ev.jV (.t rfl) (.c rfl) (fun _=>by rw [wz]; omega)) ?_;refine asn rfl (nP (mt (_) ?_))
     ·exact s67
    ·refine skip (pN (mt (_) ?_))
     ·exact s67
   obtain ⟨k,rfl⟩:∃ y,y = x:=⟨x,rfl⟩;have hk:k = ((iA l n h:Nat):Int):=hx;clear hx;obtain ⟨r,hr⟩:∃ r,iA l n h = r:=⟨_,rfl⟩;have hrl:r ≤ l.us.length:=by rw [← hr]; exact ruleI_le l n h
   have er:((r:Nat):Int).toNat = r:=by omega
   have hvl:=wz l;have hdl:=decL_len p.tr.ptr l d;rw [hr] at hk;subst hk;refine sg (mv rfl (co (Ev.nilCheck (.t rfl)) ?_));refine cf 10 rfl ?_;refine co (Ev.to (v':=p.vv.v) (Ev.load pj (.t rfl) (c9 (fun w I=>(hp).pt.cn I.keeps) aj.eD)) (rfl)) ?_;refine mv rfl (co (Ev.indexAddr Y130 gT (.t rfl) (.t rfl) (fun w I=>hp.vs.aV I.keeps) (fun _=>zo)) ?_);refine co (Ev.to (v':=a7.val ((vdL l).getD r a7.zero)) (Ev.bV gT (.t rfl) (fun w I=>hp.vs.aV I.keeps) (fun _=>by omega)) (by rw [er])) ?_;refine cons (alloc z55 (fun b3=>?_));refine cons (stv gT (ah.id _) (.t rfl) (.t rfl) ?_);refine nP (sg (mv rfl (co (Ev.nilCheck (.t rfl)) ?_)));refine cf 9 rfl ?_;refine co (Ev.to (v':=p.dv.v) (Ev.load pn (.t rfl) (c9 (fun w I=>(hp).pt.cn I.keeps) aj.eG)) (rfl)) ?_;refine mv rfl (co (Ev.indexAddr Y129 q8 (.t rfl) (.t rfl) (fun w I=>hp.ds.aV I.keeps) (fun _=>zo)) ?_);refine co (Ev.to (v':=(oY p.tr.ptr (qU l d r).1 (qU l d r).2).v) (Ev.bV q8 (.t rfl) (fun w I=>hp.ds.aV I.keeps) (fun _=>by omega)) (congrArg OV.v (by rw [er]; exact decL_at p.tr.ptr l d hrl _))) ?_;refine cons (callIf (.t rfl) (.cons (.t rfl) .nil) (fun w I=>decide_if p.tr l _ _ b1 h w (br (E':=aA) zm (ah.id _) w I) (hp.tr.cn I.keeps) ho.ok (ho.route h.dst)) ?_);refine mv rfl (cx rfl rfl (cx rfl rfl (cf 0 rfl ?_)));refine cons (stv ty3 aD.dM (.t rfl) (.t rfl) ?_);refine cf 1 rfl ?_;refine cons (stv ty3 aD.jB (.t rfl) (.t rfl) ?_);refine nP (sg (co (Ev.ldv gT (.t rfl) (ah.id _)) ?_));refine cons (stv gT (ah.id _) (.t rfl) (.t rfl) ?_);refine ac (I 0) ?_;refine nP (ret (done rfl (.cellP rfl gT (br zm (ah.id _)) (.tmp rfl .nil)) (gD ?_)));have e1:deE h dt.length = 0:=by unfold deE; rw [if_neg h1]
   have e2:dvV l d n h dt.length = decV l d n h:=by unfold dvV; rw [if_neg h1]
   rw [e1,e2,decV_yes hps,hr]; rfl
end Go.Proofs.YtljifjflnakmoaaGreat
namespace Go.Proofs.YtljifjflnakmoaaGreat.Oc
open Go Go.Gx Go.Proofs.YtljifjflnakmoaaGreat.Tri
def dc:Nat→UInt64→List UInt8
 | 0,_=>[]
 | n + 1,v=>(dR v (8 * n)).toUInt8 :: dc n v
theorem aK (n:Nat) (v:UInt64):(dc n v).length = n:=by
 induction n with
 | zero=>rfl
 | succ n ih=>simp [dc,ih]
theorem sI (w:World):Gx.Calls Tryz.prog 155 #[] w (bG w (I 1)):=by
 refine en0 13 Tryz.func155 (fun _ _=>?_);refine sg (ac (I 0) ?_);refine nP (sg (ac (I 0) ?_));refine nP (seq (sg (co (Ev.conv_i_u8 Y5 Y3 (.c rfl)) ?_)));refine co (Ev.compl_u8 (.t rfl)) ?_;refine co (Ev.jG Y51 Y5 (.t rfl)) ?_;refine asn rfl (nP (block (lp (X:=Nat × UInt64) (fun x=>(x.1 ≤ 1) ∧ (x.2.toNat + 1 = 256 ^ (1 - x.1))) (fun x=>[dz,(0,true,I 0),(1,true,I x.1),(2,true,U64 x.2)]) (fun x=>[]) (fun x=>1 - x.1) (0,_) ⟨?_,?_⟩ (fun x hx=>?_))))
 ·omega
 ·decide
 obtain ⟨k,t⟩:=x;dsimp only at hx;obtain ⟨hk,ht⟩:=hx;refine seq (sg (mv rfl (co (Ev.gJ (.t rfl) (.c (v:=U64 0) rfl)) ?_)));refine nP ?_;refine cnd rfl (fun h0=>?_) (fun h0=>?_)
 ·have hkn:k < 1:=by
   rcases Nat.lt_or_ge k 1 with h | h
   ·exact h
   ·have e:k = 1:=by omega
    subst e;simp [UInt64.lt_iff_toNat_lt] at h0 ht;omega
  refine skip (pN (seq (block (region (mv rfl (co (Ev.bL (.t rfl) (.c rfl) (fun _=>zo)) ?_))))));refine asn rfl (nil (bN (pN (region (mv rfl (co (Ev.jm (.t rfl) (.c rfl) (fun _=>by decide)) ?_))))));refine asn rfl (nP (nx (k + 1,dR t 8) ⟨?_,?_⟩ ?_))
  ·try dsimp only
   omega
  ·try dsimp only
   rw [bU]; have e:1 - k = (1 - (k + 1)) + 1:=by omega
   rw [e,Nat.pow_succ] at ht;omega
  ·try dsimp only
   first | omega | (simp; omega)
 ·have hkn:k = 1:=by
   rcases Nat.lt_or_ge k 1 with h | h
   ·have e:1 - k = (1 - (k + 1)) + 1:=by omega
    have hp:0 < 256 ^ (1 - (k + 1)):=Nat.pow_pos (by decide);rw [e,Nat.pow_succ] at ht;simp [UInt64.lt_iff_toNat_lt] at h0;omega
   ·omega
  exact s42
theorem zb5:zbI 5 u8E 1:=kB
theorem zs5:zsI u8E:=zsP _
theorem z5:zI 5 u8E:=kI
theorem pF (u:Value) (b:List UInt8) (v:UInt8) (w:World) (hb:aO u8E w u b) (hl:b.length + 1 ≤ 140737488355328) :
 Gx.Calls Tryz.prog 152 #[u,U8 v] w (mE w u8E (b ++ dc 1 v.toUInt64) 5):=by
 have hbl:=hb.le;refine en0 34 Tryz.func152 (fun _ _=>?_);refine sg (ac (.slice none 0 0) ?_);refine nP (sg (cons (aQ eN .nil (fun w I=>sI w) ?_)));refine asn rfl (nP (sg (mv rfl (co (Ev.len Y48 (.t rfl) zf) ?_))));refine mv rfl (co (Ev.len Y48 (.t rfl) zf) ?_);refine mv rfl (co (Ev.bL (.t rfl) (.t rfl) (fun _=>zo)) ?_);refine cons (makeSl (E:=u8E) Y48 ty5 rfl zb5 (.t rfl) (.t rfl) ⟨by omega,by omega⟩ ⟨by omega,by omega⟩ (fun o1=>?_));refine asn rfl (nP (sg (mv rfl (mv rfl (cons (copyO (E:=u8E) Y48 ty5 (.t rfl) (.t rfl) (by repeat first | exact Upd.head | apply Upd.tail) (fun w I=>hb.aV I.keeps) ?_))))));refine nP (seq (sg (mv rfl (co (Ev.jV (.t rfl) (.c rfl) (fun _=>zo)) ?_))));refine asn rfl (nP (block ?_));have e1:(List.replicate (Int.toNat (b.length:Int)) u8E.zero) = List.replicate b.length (0:UInt8):=by rw [Int.toNat_natCast]; rfl
 rw [e1];have e2:b.take (List.replicate b.length (0:UInt8)).length ++ (List.replicate b.length (0:UInt8)).drop b.length = b:=by simp
 rw [e2];refine lp (X:=Int × OV × (List UInt8)) (fun x=>(-1 ≤ x.1 ∧ x.1 ≤ 0) ∧ (x.2.2 ++ dc (x.1 + 1).toNat v.toUInt64 = b ++ dc 1 v.toUInt64)) (fun x=>[dz,(1,true,U8 v),(5,true,I x.1),(6,true,x.2.1.v)]) (fun x=>[aT x.2.1.v u8E x.2.2 5]) (fun x=>(x.1 + 1).toNat) (_,o1,b) ⟨?_,?_⟩ (fun x hx=>?_)
 ·omega
 ·rfl
 obtain ⟨i,o,xs⟩:=x;dsimp only at hx;obtain ⟨hi,hxs⟩:=hx;refine seq (sg (mv rfl (co (Ev.tS (.t rfl) (.c rfl)) ?_)));refine nP ?_;refine cnd rfl (fun h0=>?_) (fun h0=>?_)
 ·have hlen:xs.length + (i + 1).toNat = b.length + 1:=by
   have:=congrArg List.length hxs
   simpa [aK] using this
  refine skip (pN (seq (block (region (mv rfl (mv rfl (co (Ev.jG Y51 Y5 (.t rfl)) ?_)))))));exact s9
 ·exact s28
theorem mj (w:World):Gx.Calls Tryz.prog 131 #[] w (bG w (I 2)):=by
 refine en0 13 Tryz.func131 (fun _ _=>?_);refine sg (ac (I 0) ?_);refine nP (sg (ac (I 0) ?_));refine nP (seq (sg (co (Ev.jg Y82 Y3 (.c rfl)) ?_)));refine co (Ev.vZ (.t rfl)) ?_;refine co (Ev.qf Y51 Y82 (.t rfl)) ?_;refine asn rfl (nP (block (lp (X:=Nat × UInt64) (fun x=>(x.1 ≤ 2) ∧ (x.2.toNat + 1 = 256 ^ (2 - x.1))) (fun x=>[dz,(0,true,I 0),(1,true,I x.1),(2,true,U64 x.2)]) (fun x=>[]) (fun x=>2 - x.1) (0,_) ⟨?_,?_⟩ (fun x hx=>?_))))
 ·omega
 ·decide
 obtain ⟨k,t⟩:=x;dsimp only at hx;obtain ⟨hk,ht⟩:=hx;refine seq (sg (mv rfl (co (Ev.gJ (.t rfl) (.c (v:=U64 0) rfl)) ?_)));refine nP ?_;refine cnd rfl (fun h0=>?_) (fun h0=>?_)
 ·have hkn:k < 2:=by
   rcases Nat.lt_or_ge k 2 with h | h
   ·exact h
   ·have e:k = 2:=by omega
    subst e;simp [UInt64.lt_iff_toNat_lt] at h0 ht;omega
  refine skip (pN (seq (block (region (mv rfl (co (Ev.bL (.t rfl) (.c rfl) (fun _=>zo)) ?_))))));refine asn rfl (nil (bN (pN (region (mv rfl (co (Ev.jm (.t rfl) (.c rfl) (fun _=>by decide)) ?_))))));refine asn rfl (nP (nx (k + 1,dR t 8) ⟨?_,?_⟩ ?_))
  ·try dsimp only
   omega
  ·try dsimp only
   rw [bU]; have e:2 - k = (2 - (k + 1)) + 1:=by omega
   rw [e,Nat.pow_succ] at ht;omega
  ·try dsimp only
   first | omega | (simp; omega)
 ·have hkn:k = 2:=by
   rcases Nat.lt_or_ge k 2 with h | h
   ·have e:2 - k = (2 - (k + 1)) + 1:=by omega
    have hp:0 < 256 ^ (2 - (k + 1)):=Nat.pow_pos (by decide);rw [e,Nat.pow_succ] at ht;simp [UInt64.lt_iff_toNat_lt] at h0;omega
   ·omega
  exact s42
theorem c7 (u:Value) (b:List UInt8) (v:UInt16) (w:World) (hb:aO u8E w u b) (hl:b.length + 2 ≤ 140737488355328) :
 Gx.Calls Tryz.prog 94 #[u,U16 v] w (mE w u8E (b ++ dc 2 v.toUInt64) 5):=by
 have hbl:=hb.le;refine en0 34 Tryz.func94 (fun _ _=>?_);refine sg (ac (.slice none 0 0) ?_);refine nP (sg (cons (aQ eN .nil (fun w I=>mj w) ?_)));refine asn rfl (nP (sg (mv rfl (co (Ev.len Y48 (.t rfl) zf) ?_))));refine mv rfl (co (Ev.len Y48 (.t rfl) zf) ?_);refine mv rfl (co (Ev.bL (.t rfl) (.t rfl) (fun _=>zo)) ?_);refine cons (makeSl (E:=u8E) Y48 ty5 rfl zb5 (.t rfl) (.t rfl) ⟨by omega,by omega⟩ ⟨by omega,by omega⟩ (fun o1=>?_));refine asn rfl (nP (sg (mv rfl (mv rfl (cons (copyO (E:=u8E) Y48 ty5 (.t rfl) (.t rfl) (by repeat first | exact Upd.head | apply Upd.tail) (fun w I=>hb.aV I.keeps) ?_))))));refine nP (seq (sg (mv rfl (co (Ev.jV (.t rfl) (.c rfl) (fun _=>zo)) ?_))));refine asn rfl (nP (block ?_));have e1:(List.replicate (Int.toNat (b.length:Int)) u8E.zero) = List.replicate b.length (0:UInt8):=by rw [Int.toNat_natCast]; rfl
 rw [e1];have e2:b.take (List.replicate b.length (0:UInt8)).length ++ (List.replicate b.length (0:UInt8)).drop b.length = b:=by simp
 rw [e2];refine lp (X:=Int × OV × (List UInt8)) (fun x=>(-1 ≤ x.1 ∧ x.1 ≤ 1) ∧ (x.2.2 ++ dc (x.1 + 1).toNat v.toUInt64 = b ++ dc 2 v.toUInt64)) (fun x=>[dz,(1,true,U16 v),(5,true,I x.1),(6,true,x.2.1.v)]) (fun x=>[aT x.2.1.v u8E x.2.2 5]) (fun x=>(x.1 + 1).toNat) (_,o1,b) ⟨?_,?_⟩ (fun x hx=>?_)
 ·omega
 ·rfl
 obtain ⟨i,o,xs⟩:=x;dsimp only at hx;obtain ⟨hi,hxs⟩:=hx;refine seq (sg (mv rfl (co (Ev.tS (.t rfl) (.c rfl)) ?_)));refine nP ?_;refine cnd rfl (fun h0=>?_) (fun h0=>?_)
 ·have hlen:xs.length + (i + 1).toNat = b.length + 2:=by
   have:=congrArg List.length hxs
   simpa [aK] using this
  refine skip (pN (seq (block (region (mv rfl (mv rfl (co (Ev.qf Y51 Y82 (.t rfl)) ?_)))))));exact s9
 ·exact s28
theorem mi (w:World):Gx.Calls Tryz.prog 132 #[] w (bG w (I 4)):=by
 refine en0 13 Tryz.func132 (fun _ _=>?_);refine sg (ac (I 0) ?_);refine nP (sg (ac (I 0) ?_));refine nP (seq (sg (co (Ev.uj Y83 Y3 (.c rfl)) ?_)));refine co (Ev.compl_u32 (.t rfl)) ?_;refine co (Ev.qe Y51 Y83 (.t rfl)) ?_;refine asn rfl (nP (block (lp (X:=Nat × UInt64) (fun x=>(x.1 ≤ 4) ∧ (x.2.toNat + 1 = 256 ^ (4 - x.1))) (fun x=>[dz,(0,true,I 0),(1,true,I x.1),(2,true,U64 x.2)]) (fun x=>[]) (fun x=>4 - x.1) (0,_) ⟨?_,?_⟩ (fun x hx=>?_))))
 ·omega
 ·decide
 obtain ⟨k,t⟩:=x;dsimp only at hx;obtain ⟨hk,ht⟩:=hx;refine seq (sg (mv rfl (co (Ev.gJ (.t rfl) (.c (v:=U64 0) rfl)) ?_)));refine nP ?_;refine cnd rfl (fun h0=>?_) (fun h0=>?_)
 ·have hkn:k < 4:=by
   rcases Nat.lt_or_ge k 4 with h | h
   ·exact h
   ·have e:k = 4:=by omega
    subst e;simp [UInt64.lt_iff_toNat_lt] at h0 ht;omega
  refine skip (pN (seq (block (region (mv rfl (co (Ev.bL (.t rfl) (.c rfl) (fun _=>zo)) ?_))))));refine asn rfl (nil (bN (pN (region (mv rfl (co (Ev.jm (.t rfl) (.c rfl) (fun _=>by decide)) ?_))))));refine asn rfl (nP (nx (k + 1,dR t 8) ⟨?_,?_⟩ ?_))
  ·try dsimp only
   omega
  ·try dsimp only
   rw [bU]; have e:4 - k = (4 - (k + 1)) + 1:=by omega
   rw [e,Nat.pow_succ] at ht;omega
  ·try dsimp only
   first | omega | (simp; omega)
 ·have hkn:k = 4:=by
   rcases Nat.lt_or_ge k 4 with h | h
   ·have e:4 - k = (4 - (k + 1)) + 1:=by omega
    have hp:0 < 256 ^ (4 - (k + 1)):=Nat.pow_pos (by decide);rw [e,Nat.pow_succ] at ht;simp [UInt64.lt_iff_toNat_lt] at h0;omega
   ·omega
  exact s42
theorem fP (u:Value) (b:List UInt8) (v:UInt32) (w:World) (hb:aO u8E w u b) (hl:b.length + 4 ≤ 140737488355328) :
 Gx.Calls Tryz.prog 95 #[u,U32 v] w (mE w u8E (b ++ dc 4 v.toUInt64) 5):=by
 have hbl:=hb.le;refine en0 34 Tryz.func95 (fun _ _=>?_);refine sg (ac (.slice none 0 0) ?_);refine nP (sg (cons (aQ eN .nil (fun w I=>mi w) ?_)));refine asn rfl (nP (sg (mv rfl (co (Ev.len Y48 (.t rfl) zf) ?_))));refine mv rfl (co (Ev.len Y48 (.t rfl) zf) ?_);refine mv rfl (co (Ev.bL (.t rfl) (.t rfl) (fun _=>zo)) ?_);refine cons (makeSl (E:=u8E) Y48 ty5 rfl zb5 (.t rfl) (.t rfl) ⟨by omega,by omega⟩ ⟨by omega,by omega⟩ (fun o1=>?_));refine asn rfl (nP (sg (mv rfl (mv rfl (cons (copyO (E:=u8E) Y48 ty5 (.t rfl) (.t rfl) (by repeat first | exact Upd.head | apply Upd.tail) (fun w I=>hb.aV I.keeps) ?_))))));refine nP (seq (sg (mv rfl (co (Ev.jV (.t rfl) (.c rfl) (fun _=>zo)) ?_))));refine asn rfl (nP (block ?_));have e1:(List.replicate (Int.toNat (b.length:Int)) u8E.zero) = List.replicate b.length (0:UInt8):=by rw [Int.toNat_natCast]; rfl
 rw [e1];have e2:b.take (List.replicate b.length (0:UInt8)).length ++ (List.replicate b.length (0:UInt8)).drop b.length = b:=by simp
 rw [e2];refine lp (X:=Int × OV × (List UInt8)) (fun x=>(-1 ≤ x.1 ∧ x.1 ≤ 3) ∧ (x.2.2 ++ dc (x.1 + 1).toNat v.toUInt64 = b ++ dc 4 v.toUInt64)) (fun x=>[dz,(1,true,U32 v),(5,true,I x.1),(6,true,x.2.1.v)]) (fun x=>[aT x.2.1.v u8E x.2.2 5]) (fun x=>(x.1 + 1).toNat) (_,o1,b) ⟨?_,?_⟩ (fun x hx=>?_)
 ·omega
 ·rfl
 obtain ⟨i,o,xs⟩:=x;dsimp only at hx;obtain ⟨hi,hxs⟩:=hx;refine seq (sg (mv rfl (co (Ev.tS (.t rfl) (.c rfl)) ?_)));refine nP ?_;refine cnd rfl (fun h0=>?_) (fun h0=>?_)
 ·have hlen:xs.length + (i + 1).toNat = b.length + 4:=by
   have:=congrArg List.length hxs
   simpa [aK] using this
  refine skip (pN (seq (block (region (mv rfl (mv rfl (co (Ev.qe Y51 Y83 (.t rfl)) ?_)))))));exact s9
 ·exact s28
def kT (l:List UInt8):UInt64:=l.foldl (fun v x=>v * 256 + x.toUInt64) 0
theorem or_byte (v:UInt64) (x:UInt8):iS v 8 ||| x.toUInt64 = v * 256 + x.toUInt64:=by
 apply UInt64.toNat_inj.1;have hx:=x.toNat_lt;rw [UInt64.toNat_or,jw,UInt64.toNat_add,UInt64.toNat_mul,UInt8.toNat_toUInt64];have e1:v.toNat * 2 ^ 8 % 18446744073709551616 = 2 ^ 8 * (v.toNat % 72057594037927936):=by omega
 rw [e1,← Nat.two_pow_add_eq_or_of_lt (by omega:x.toNat < 2 ^ 8)];have e2:UInt64.toNat 256 = 256:=rfl;rw [e2];omega
theorem numB_snoc (l:List UInt8) (x:UInt8):kT (l ++ [x]) = kT l * 256 + x.toUInt64:=by simp [kT]
theorem iX {α:Type} (l:List α) (i:Int) (h0:0 ≤ i) (h1:i < l.length) (z:α):l.take (i + 1).toNat = l.take i.toNat ++ [l.getD i.toNat z]:=by
 exact s58
theorem numB_step (l:List UInt8) (i:Int) (h0:0 ≤ i) (h1:i < l.length):kT (l.take (i + 1).toNat) = kT (l.take i.toNat) * 256 + (l.getD i.toNat 0).toUInt64:=by
 rw [iX l i h0 h1 0,numB_snoc]
def da (b:List UInt8) (p:Int) (n:Nat):UInt64 × Int:=if 0 ≤ p ∧ p + n ≤ b.length then (kT ((b.take (p + n).toNat).drop p.toNat),0) else (0,5)
theorem eA (u:Value) (b:List UInt8) (p:Int) (w:World) (hb:aO u8E w u b):Gx.Calls Tryz.prog 103 #[u,I p] w (bG w (.tuple #[U16 (da b p 2).1.toUInt16,I (da b p 2).2])):=by
 have hbl:=hb.le;refine en0 41 Tryz.func103 (fun _ _=>?_);refine sg (ac (U16 0) ?_);refine ac (I 0) ?_;refine nP (sg (cons (aQ eN .nil (fun w I=>mj w) ?_)));refine asn rfl (nP (seq (sg (mv rfl (co (Ev.cj (.t rfl) (.c rfl)) ?_)))));refine mv rfl (cg rfl rfl (Ev.move (.t rfl)) ?_);refine cg rfl rfl (Ev.move (.t rfl)) ?_;refine cg rfl rfl (Ev.len Y48 (.g rfl id) zf) ?_;refine cg rfl rfl (Ev.move (.t rfl)) ?_;refine cg rfl rfl (Ev.jV (.g rfl id) (.g rfl id) (fun _=>by first | omega | (rename_i hg; simp at hg; omega))) ?_;refine cg rfl rfl (Ev.ir (.g rfl id) (.g rfl id)) ?_;refine co (Ev.pkO (.t rfl) rfl) ?_;refine nP ?_;refine cnd rfl (fun h0=>?_) (fun h0=>?_)
 ·refine sg (ac (U16 0) ?_);refine ac (I 5) ?_;refine nP (ret (pR (done rfl (.tmp rfl (.tmp rfl .nil)) (gD ?_))));exact s30
 ·refine skip (pN (sg (ac (U64 0) ?_)));refine nP (seq (sg (mv rfl (mv rfl (mv rfl (mv rfl (co (Ev.bL (.t rfl) (.t rfl) (fun _=>zo)) ?_)))))));refine co (Ev.slice Y48 ty5 (.t rfl) (.t rfl) (.t rfl) zf (fun _=>zo)) ?_;refine co (Ev.len Y48 (.t rfl) (fun w I=>aO.sub (w:=w) (zj w I) (by omega) (by omega))) ?_;refine co (Ev.move (.c rfl)) ?_;refine nP (block ?_);have hs:=hb.sub (l:=p.toNat) (k:=(p + 2).toNat) (by omega) (by omega);have hxl:((b.take (p + 2).toNat).drop p.toNat).length = 2:=by simp; omega
  rw [hxl]
  generalize hxs:(b.take (p + 2).toNat).drop p.toNat = xs at hs hxl
  refine lp (X:=Int × UInt64) (fun x=>(0 ≤ x.1 ∧ x.1 ≤ 2) ∧ (x.2 = kT (xs.take x.1.toNat))) (fun x=>[dz,(7,true,U64 x.2),(26,true,lD u8E.size u p.toNat (p + 2).toNat),(27,true,I 2),(28,true,I x.1)]) (fun x=>[]) (fun x=>(2 - x.1).toNat) (0,_) ⟨?_,?_⟩ (fun x hx=>?_)
  ·omega
  ·rfl
  obtain ⟨i,v⟩:=x;dsimp only at hx;obtain ⟨hi,hv⟩:=hx;refine sg (co (Ev.cj (.t rfl) (.t rfl)) ?_);refine nP (seq ?_);refine cnd rfl (fun h1=>?_) (fun h1=>?_)
  ·exact s18
  ·refine exit (pX (pX (bX (pN (sg (mv rfl (co (Ev.qd Y82 Y51 (.t rfl)) ?_)))))));refine asn rfl (ac (I 0) ?_);refine nP (ret (done rfl (.tmp rfl (.tmp rfl .nil)) (gD ?_)));exact s30
theorem mO (u:Value) (b:List UInt8) (p:Int) (w:World) (hb:aO u8E w u b):Gx.Calls Tryz.prog 104 #[u,I p] w (bG w (.tuple #[U32 (da b p 4).1.toUInt32,I (da b p 4).2])):=by
 have hbl:=hb.le;refine en0 41 Tryz.func104 (fun _ _=>?_);refine sg (ac (U32 0) ?_);refine ac (I 0) ?_;refine nP (sg (cons (aQ eN .nil (fun w I=>mi w) ?_)));refine asn rfl (nP (seq (sg (mv rfl (co (Ev.cj (.t rfl) (.c rfl)) ?_)))));refine mv rfl (cg rfl rfl (Ev.move (.t rfl)) ?_);refine cg rfl rfl (Ev.move (.t rfl)) ?_;refine cg rfl rfl (Ev.len Y48 (.g rfl id) zf) ?_;refine cg rfl rfl (Ev.move (.t rfl)) ?_;refine cg rfl rfl (Ev.jV (.g rfl id) (.g rfl id) (fun _=>by first | omega | (rename_i hg; simp at hg; omega))) ?_;refine cg rfl rfl (Ev.ir (.g rfl id) (.g rfl id)) ?_;refine co (Ev.pkO (.t rfl) rfl) ?_;refine nP ?_;refine cnd rfl (fun h0=>?_) (fun h0=>?_)
 ·refine sg (ac (U32 0) ?_);refine ac (I 5) ?_;refine nP (ret (pR (done rfl (.tmp rfl (.tmp rfl .nil)) (gD ?_))));exact s31
 ·refine skip (pN (sg (ac (U64 0) ?_)));refine nP (seq (sg (mv rfl (mv rfl (mv rfl (mv rfl (co (Ev.bL (.t rfl) (.t rfl) (fun _=>zo)) ?_)))))));refine co (Ev.slice Y48 ty5 (.t rfl) (.t rfl) (.t rfl) zf (fun _=>zo)) ?_;refine co (Ev.len Y48 (.t rfl) (fun w I=>aO.sub (w:=w) (zj w I) (by omega) (by omega))) ?_;refine co (Ev.move (.c rfl)) ?_;refine nP (block ?_);have hs:=hb.sub (l:=p.toNat) (k:=(p + 4).toNat) (by omega) (by omega);have hxl:((b.take (p + 4).toNat).drop p.toNat).length = 4:=by simp; omega
  rw [hxl]
  generalize hxs:(b.take (p + 4).toNat).drop p.toNat = xs at hs hxl
  refine lp (X:=Int × UInt64) (fun x=>(0 ≤ x.1 ∧ x.1 ≤ 4) ∧ (x.2 = kT (xs.take x.1.toNat))) (fun x=>[dz,(7,true,U64 x.2),(26,true,lD u8E.size u p.toNat (p + 4).toNat),(27,true,I 4),(28,true,I x.1)]) (fun x=>[]) (fun x=>(4 - x.1).toNat) (0,_) ⟨?_,?_⟩ (fun x hx=>?_)
  ·omega
  ·rfl
  obtain ⟨i,v⟩:=x;dsimp only at hx;obtain ⟨hi,hv⟩:=hx;refine sg (co (Ev.cj (.t rfl) (.t rfl)) ?_);refine nP (seq ?_);refine cnd rfl (fun h1=>?_) (fun h1=>?_)
  ·exact s18
  ·refine exit (pX (pX (bX (pN (sg (mv rfl (co (Ev.xz Y83 Y51 (.t rfl)) ?_)))))));refine asn rfl (ac (I 0) ?_);refine nP (ret (done rfl (.tmp rfl (.tmp rfl .nil)) (gD ?_)));exact s31
def marks:List UInt8:=(List.range 20).map fun i:Nat=>UInt8.ofInt (200 + (i:Int))
def jX (m:Nat):Nat:=if m = 0 then 0 else (m - 1) % 65535 + 1
theorem foldN_step (m:Nat):jX (m / 65536 + m % 65536) = jX m:=by
 unfold jX
 by_cases h:m = 0
 ·subst h; rfl
 ·have h1:m / 65536 + m % 65536 ≠ 0:=by omega
  rw [if_neg h,if_neg h1];omega
theorem foldN_small {m:Nat} (h:m ≤ 65535):jX m = m:=by
 unfold jX;split <;> omega
theorem foldN_le (m:Nat):jX m ≤ 65535:=by
 unfold jX;split <;> omega
def sh:Bool→Nat
 | true=>8
 | false=>0
def ov:Bool→List UInt8→UInt64→UInt64
 | _,[],n=>n
 | p,x :: l,n=>ov (!p) l (n + iS x.toUInt64 (sh p))
theorem sumGo_step (p:Bool) (xs r:List UInt8) (j:Nat) (n:UInt64) (hj:j < xs.length):ov (!p) (xs.drop (j + 1) ++ r) (n + iS (xs.getD j 0).toUInt64 (sh p)) = ov p (xs.drop j ++ r) n:=by
 exact s69
def sumB (l:List UInt8):UInt16:=UInt16.ofNat (65535 - jX (ov true l 0).toNat)
def updB (s o n:UInt16):UInt16:=UInt16.ofNat (65535 - jX (65535 - s.toNat + (65535 - o.toNat) + n.toNat))
theorem compl_fold (m:Nat): ~~~ (UInt16.ofNat (jX m)) = UInt16.ofNat (65535 - jX m):=by
 have h:=foldN_le m;apply UInt16.toNat_inj.1;rw [UInt16.toNat_not,UInt16.toNat_ofNat',UInt16.toNat_ofNat'];simp only [UInt16.size];omega
theorem ofold_ok (m:UInt64) (w:World):Gx.Calls Tryz.prog 133 #[U64 m] w (bG w (U16 (UInt16.ofNat (jX m.toNat)))):=by
 refine en0 13 Tryz.func133 (fun _ _=>?_);refine sg (ac (U16 0) ?_);refine nP (seq (block (lp (X:=UInt64) (fun x=>(jX x.toNat = jX m.toNat)) (fun x=>[dz,(0,true,U64 x)]) (fun x=>[]) (fun x=>x.toNat) (_) ?_ (fun x hx=>?_))))
 ·rfl
 obtain ⟨n,rfl⟩:∃ y,y = x:=⟨x,rfl⟩;have hn:jX n.toNat = jX m.toNat:=hx;clear hx;refine seq (sg (mv rfl (co (Ev.jm (.t rfl) (.c rfl) (fun _=>by decide)) ?_)));refine co (Ev.gJ (.t rfl) (.c (v:=U64 0) rfl)) ?_;refine nP ?_;refine cnd rfl (fun hgt=>?_) (fun hle=>?_)
 ·have hg2:0 < n.toNat / 2 ^ 16:=by simpa [UInt64.lt_iff_toNat_lt,bU] using hgt
  have hnl:=n.toNat_lt;have hstep:(dR n 16 + (n &&& 65535)).toNat = n.toNat / 65536 + n.toNat % 65536:=by
   rw [UInt64.toNat_add,bU,UInt64.toNat_and];have e:UInt64.toNat 65535 = 2 ^ 16 - 1:=rfl;rw [e,Nat.and_two_pow_sub_one_eq_mod]; omega
  refine skip (pN (block (region (mv rfl (co (Ev.jm (.t rfl) (.c rfl) (fun _=>by decide)) ?_)))));refine mv rfl (co (Ev.sB (.t rfl) (.c (v:=U64 65535) rfl)) ?_);refine co (Ev.gK (.t rfl) (.t rfl)) ?_;refine asn rfl (nil (bN (pN (nx (_) ?_ ?_))))
  ·try dsimp only
   rw [← hn,← foldN_step n.toNat,← hstep]; rfl
  ·try dsimp only
   have hm:(dR n (Int.toNat 16) + (n &&& 65535)).toNat = n.toNat / 65536 + n.toNat % 65536:=hstep;rw [hm]; omega
 ·refine exit (pX (pX (bX (pN (sg (mv rfl (co (Ev.qd Y82 Y51 (.t rfl)) ?_)))))));refine asn rfl (nP (ret (dn rfl rfl ?_)));have hl:n.toNat ≤ 65535:=by
   have:¬ 0 < n.toNat / 2 ^ 16:=by simpa [UInt64.lt_iff_toNat_lt,bU] using hle
   omega
  rw [← hn,foldN_small hl];have e:n.toUInt16 = UInt16.ofNat n.toNat:=by
   apply UInt16.toNat_inj.1;rw [UInt64.toNat_toUInt16,UInt16.toNat_ofNat']
  rw [← e]; rfl
theorem sum_ok (u:Value) (xss:List (List UInt8)) (w:World) (hs:IsSS u8E w u xss):Gx.Calls Tryz.prog 96 #[u] w (bG w (U16 (sumB xss.flatten))):=by
 obtain ⟨vs,hvs,hvl,he⟩:=hs;have hvle:=hvs.le;refine en0 34 Tryz.func96 (fun _ _=>?_);refine sg (ac (U16 0) ?_);refine nP (sg (ac (U64 0) ?_));refine nP (sg (ac (I 8) ?_));refine nP (seq (sg (mv rfl (co (Ev.len Y258 (.t rfl) zf) ?_))));refine co (Ev.move (.c rfl)) ?_;refine nP (block (lp (X:=Int × UInt64 × Bool) (fun x=>(0 ≤ x.1 ∧ x.1 ≤ xss.length) ∧ (ov x.2.2 (xss.drop x.1.toNat).flatten x.2.1 = ov true xss.flatten 0)) (fun x=>[dz,(3,true,U64 x.2.1),(4,true,I (sh x.2.2)),(9,true,u),(10,true,I vs.length),(11,true,I x.1)]) (fun x=>[]) (fun x=>(xss.length - x.1).toNat) (0,_,true) ⟨?_,?_⟩ (fun x hx=>?_)))
 ·omega
 ·rfl
 obtain ⟨i,h,p⟩:=x;dsimp only at hx;obtain ⟨hi,hh⟩:=hx;refine sg (co (Ev.cj (.t rfl) (.t rfl)) ?_);refine nP (seq ?_);refine cnd rfl (fun hlt=>?_) (fun hge=>?_)
 ·refine skip (pN (seq (block (sg (co (Ev.indexAddr Y258 oe (.t rfl) (.t rfl) zf (fun _=>zo)) ?_)))));refine co (Ev.bV oe (.t rfl) zf (fun _=>zo)) ?_;refine asn rfl (nP (sg ?_));have hd:xss.drop i.toNat = xss.getD i.toNat [] :: xss.drop (i + 1).toNat:=by
   exact s60
  rw [hd,List.flatten_cons] at hh;have hx:=he i.toNat (by omega);have hxl:=hx.le
  generalize xss.getD i.toNat [] = xs at hh hx hxl
  change aO u8E w (vs.getD i.toNat ai).v xs at hx
  refine mv rfl (co (Ev.len Y48 (.t rfl) zf) ?_);refine co (Ev.move (.c rfl)) ?_;refine nP (block (lp (X:=Int × UInt64 × Bool) (fun x=>(0 ≤ x.1 ∧ x.1 ≤ xs.length) ∧ (ov x.2.2 (xs.drop x.1.toNat ++ (xss.drop (i + 1).toNat).flatten) x.2.1 = ov p (xs ++ (xss.drop (i + 1).toNat).flatten) h)) (fun x=>[dz,(3,true,U64 x.2.1),(4,true,I (sh x.2.2)),(9,true,u),(10,true,I vs.length),(11,true,I i),(15,true,(vs.getD i.toNat ai).v),(16,true,I xs.length),(17,true,I x.1)]) (fun x=>[]) (fun x=>(xs.length - x.1).toNat) (0,_,_) ⟨?_,?_⟩ (fun x hx=>?_)))
  ·omega
  ·rfl
  obtain ⟨j,g,q⟩:=x;dsimp only at hx;obtain ⟨hj,hg⟩:=hx;refine sg (co (Ev.cj (.t rfl) (.t rfl)) ?_);refine nP (seq ?_);refine cnd rfl (fun hlt2=>?_) (fun hge2=>?_)
  ·refine skip (pN (seq (block (sg (co (Ev.indexAddr Y48 ty5 (.t rfl) (.t rfl) zf (fun _=>zo)) ?_)))));refine co (Ev.bV ty5 (.t rfl) zf (fun _=>zo)) ?_;refine asn rfl (nP (sg (mv rfl (mv rfl (co (Ev.jG Y51 Y5 (.t rfl)) ?_)))));refine mv rfl (co (Ev.pw (.t rfl) (.t rfl) (fun _=>zo)) ?_);refine co (Ev.gK (.t rfl) (.t rfl)) ?_;refine asn rfl (nP (region (mv rfl (co (Ev.bits_i (r:=sh (!q)) (m:=sh q) (n:=8) (.inr (.inr rfl)) (.t rfl) (.c rfl) (fun _=>by cases q <;> decide) (fun _=>by decide) (by cases q <;> rfl)) ?_))));refine asn rfl (nil (bN (pN (region (co (Ev.bL (.t rfl) (.c rfl) (fun _=>zo)) ?_)))));refine mv rfl (nP (nx (j + 1,_,!q) ⟨?_,?_⟩ ?_))
   ·try dsimp only
    omega
   ·try dsimp only
    rw [← hg];have e:(j + 1).toNat = j.toNat + 1:=by omega
    rw [e];have e2:((sh q:Nat):Int).toNat = sh q:=rfl;rw [e2];exact sumGo_step q xs _ j.toNat _ (by omega)
   ·try dsimp only
    omega
  ·have hq:ov q (xss.drop (i + 1).toNat).flatten g = ov p (xs ++ (xss.drop (i + 1).toNat).flatten) h:=by
    rw [List.drop_eq_nil_of_le (by omega)] at hg; exact hg
   refine exit (pX (pX (bX (bN (pN (region (co (Ev.bL (.t rfl) (.c rfl) (fun _=>zo)) ?_)))))));refine mv rfl (nP (nx (i + 1,_,_) ⟨?_,?_⟩ ?_))
   ·try dsimp only
    omega
   ·try dsimp only
    exact hq.trans hh
   ·try dsimp only
    omega
 ·refine exit (pX (pX (bX (pN (sg (mv rfl (cons (aQ eN (o1 rfl) (fun w I=>ofold_ok _ w) ?_))))))));refine co (Ev.vZ (.t rfl)) ?_;refine asn rfl (nP (ret (dn rfl rfl ?_)));have e:xss.drop i.toNat = []:=List.drop_eq_nil_of_le (by omega);rw [e] at hh;rw [compl_fold];unfold sumB;rw [← hh]; rfl
def nz (h:UInt64) (l:List UInt8):UInt64:=l.foldl (fun h x=>(h ^^^ x.toUInt64) * 1099511628211) h
theorem hashB_step (g:UInt64) (xs r:List UInt8) (j:Nat) (hj:j < xs.length):nz ((g ^^^ (xs.getD j 0).toUInt64) * 1099511628211) (xs.drop (j + 1) ++ r) = nz g (xs.drop j ++ r):=by
 exact s69
theorem hash_ok (u:Value) (xss:List (List UInt8)) (w:World) (hs:IsSS u8E w u xss):Gx.Calls Tryz.prog 134 #[u] w (bG w (U64 (nz 14695981039346656037 xss.flatten))):=by
 obtain ⟨vs,hvs,hvl,he⟩:=hs;have hvle:=hvs.le;refine en0 29 Tryz.func134 (fun _ _=>?_);refine sg (ac (U64 0) ?_);refine nP (sg (ac (U64 14695981039346656037) ?_));refine nP (seq (sg (mv rfl (co (Ev.len Y258 (.t rfl) zf) ?_))));refine co (Ev.move (.c rfl)) ?_;refine nP (block (lp (X:=Int × UInt64) (fun x=>(0 ≤ x.1 ∧ x.1 ≤ xss.length) ∧ (nz x.2 (xss.drop x.1.toNat).flatten = nz 14695981039346656037 xss.flatten)) (fun x=>[dz,(3,true,U64 x.2),(8,true,u),(9,true,I vs.length),(10,true,I x.1)]) (fun x=>[]) (fun x=>(xss.length - x.1).toNat) (0,_) ⟨?_,?_⟩ (fun x hx=>?_)))
 ·omega
 ·rfl
 obtain ⟨i,h⟩:=x;dsimp only at hx;obtain ⟨hi,hh⟩:=hx;refine sg (co (Ev.cj (.t rfl) (.t rfl)) ?_);refine nP (seq ?_);refine cnd rfl (fun hlt=>?_) (fun hge=>?_)
 ·refine skip (pN (seq (block (sg (co (Ev.indexAddr Y258 oe (.t rfl) (.t rfl) zf (fun _=>zo)) ?_)))));refine co (Ev.bV oe (.t rfl) zf (fun _=>zo)) ?_;refine asn rfl (nP (sg ?_));have hd:xss.drop i.toNat = xss.getD i.toNat [] :: xss.drop (i + 1).toNat:=by
   exact s60
  rw [hd,List.flatten_cons] at hh;have hx:=he i.toNat (by omega);have hxl:=hx.le
  generalize xss.getD i.toNat [] = xs at hh hx hxl
  change aO u8E w (vs.getD i.toNat ai).v xs at hx
  refine mv rfl (co (Ev.len Y48 (.t rfl) zf) ?_);refine co (Ev.move (.c rfl)) ?_;refine nP (block (lp (X:=Int × UInt64) (fun x=>(0 ≤ x.1 ∧ x.1 ≤ xs.length) ∧ (nz x.2 (xs.drop x.1.toNat ++ (xss.drop (i + 1).toNat).flatten) = nz h (xs ++ (xss.drop (i + 1).toNat).flatten))) (fun x=>[dz,(3,true,U64 x.2),(8,true,u),(9,true,I vs.length),(10,true,I i),(14,true,(vs.getD i.toNat ai).v),(15,true,I xs.length),(16,true,I x.1)]) (fun x=>[]) (fun x=>(xs.length - x.1).toNat) (0,_) ⟨?_,?_⟩ (fun x hx=>?_)))
  ·omega
  ·rfl
  obtain ⟨j,g⟩:=x;dsimp only at hx;obtain ⟨hj,hg⟩:=hx;refine sg (co (Ev.cj (.t rfl) (.t rfl)) ?_);refine nP (seq ?_);refine cnd rfl (fun hlt2=>?_) (fun hge2=>?_)
  ·refine skip (pN (seq (block (sg (co (Ev.indexAddr Y48 ty5 (.t rfl) (.t rfl) zf (fun _=>zo)) ?_)))));refine co (Ev.bV ty5 (.t rfl) zf (fun _=>zo)) ?_;refine asn rfl (nP (sg (mv rfl (mv rfl (co (Ev.jG Y51 Y5 (.t rfl)) ?_)))));refine co (Ev.xor_u64 (.t rfl) (.t rfl)) ?_;refine asn rfl (nP (region (mv rfl (co (Ev.mul_u64 (.t rfl) (.c (v:=U64 1099511628211) rfl)) ?_))));refine asn rfl (nil (bN (pN (region (co (Ev.bL (.t rfl) (.c rfl) (fun _=>zo)) ?_)))));refine mv rfl (nP (nx (j + 1,_) ⟨?_,?_⟩ ?_))
   ·try dsimp only
    omega
   ·try dsimp only
    rw [← hg];have e:(j + 1).toNat = j.toNat + 1:=by omega
    rw [e];exact hashB_step g xs _ j.toNat (by omega)
   ·try dsimp only
    omega
  ·have hq:nz g (xss.drop (i + 1).toNat).flatten = nz h (xs ++ (xss.drop (i + 1).toNat).flatten):=by
    rw [List.drop_eq_nil_of_le (by omega)] at hg; exact hg
   refine exit (pX (pX (bX (bN (pN (region (co (Ev.bL (.t rfl) (.c rfl) (fun _=>zo)) ?_)))))));refine mv rfl (nP (nx (i + 1,_) ⟨?_,?_⟩ ?_))
   ·try dsimp only
    omega
   ·try dsimp only
    exact hq.trans hh
   ·try dsimp only
    omega
 ·refine exit (pX (pX (bX (pN (sg (mv rfl (asn rfl (nP (ret (dn rfl rfl ?_))))))))));have e:xss.drop i.toNat = []:=List.drop_eq_nil_of_le (by omega);rw [e] at hh;rw [← hh]; rfl
end Go.Proofs.YtljifjflnakmoaaGreat.Oc
namespace Go.Proofs.YtljifjflnakmoaaGreat.Oc
open Go Go.Gx Go.Proofs.YtljifjflnakmoaaGreat.Tri
def cW (a:aG):List UInt8:=a.b.toList.take (bif a.v6 then 16 else 4)
theorem equal_ok (u v:Value) (a b:List UInt8) (w:World) (ha:aO u8E w u a) (hb:aO u8E w v b):Gx.Calls Tryz.prog 76 #[u,v] w (bG w (.bool (decide (a = b)))):=by
 refine en0 10 Tryz.func76 (fun _ _=>?_);refine sg (ac (.bool false) ?_);refine nP (sg (mv rfl (co (Ev.convBS Y48 Y5 Y9 (.t rfl) zf) ?_)));refine mv rfl (co (Ev.convBS Y48 Y5 Y9 (.t rfl) zf) ?_);refine co (Ev.eql_s (.t rfl) (.t rfl)) ?_;refine asn rfl (nP (ret (dn rfl rfl ?_)));exact congrArg Value.bool (decide_eq_decide.2 ⟨fun h=>by simpa using h,fun h=>by rw [h]⟩)
end Go.Proofs.YtljifjflnakmoaaGreat.Oc
namespace Go.Proofs.YtljifjflnakmoaaGreat.Oc
open Go Go.Gx Go.Proofs.YtljifjflnakmoaaGreat.Tri
attribute [simp] aK
def adO (b:Nat) (a:aG):OV:=⟨.slice (some ⟨b,1,none⟩) (bif a.v6 then 16 else 4) 16,rfl⟩
theorem dL (a:aG):(cW a).length = bif a.v6 then 16 else 4:=by unfold cW; cases a.v6 <;> simp
theorem nX {K:Ctx} {L:List Res} {b:Nat} {a:aG} (hm:Var b cz a 81 ∈ L) (w:World) (h:aP K L w):aO u8E w (adO b a).v (cW a):=by
 have h1:=lK (br hm aG.l_b w h) (by decide) (l:=0) (k:=bif a.v6 then 16 else 4) (Nat.zero_le _) (by cases a.v6 <;> decide);unfold cW;show aO u8E w (.slice (some ⟨b,1,none⟩) (bif a.v6 then 16 else 4) 16) _;cases hv:a.v6 <;> rw [hv] at h1 <;> exact h1
def cC (h:aa) (d:List UInt8) (s:UInt16):List UInt8 :=
 if h.aC = 6 then dc 2 h.bB.toUInt64 ++ dc 2 h.bC.toUInt64 ++ dc 4 h.seq.toUInt64 ++ [0,0,0,0,80,h.flags,255,255] ++ dc 2 s.toUInt64 ++ [0,0] ++ d
 else if h.aC = 17 then dc 2 h.bB.toUInt64 ++ dc 2 h.bC.toUInt64 ++ dc 2 (UInt16.ofInt (8 + (d.length:Int))).toUInt64 ++ dc 2 s.toUInt64 ++ d
 else d
theorem jk (a:aG) (w:World):Gx.Calls Tryz.prog 97 #[cz.val a] w (gL w (fun _:Nat=>True) (fun b=>(adO b a).v) (fun b=>[Var b cz a 81])):=by
 refine en0 9 Tryz.func97 (fun _ _=>?_);refine sg (cons (box (E:=cz) (.t rfl) (fun b1=>?_)));refine ac (.slice none 0 0) ?_;refine nP (seq (sg (cf 0 rfl ?_)));refine co (Ev.ldx a.v6 ty4 (.t rfl) aG.jP) ?_;refine nP ?_;refine cnd rfl (fun h0=>?_) (fun h0=>?_)
 ·refine sg (cf 1 rfl ?_);refine co (Ev.iz (l:=0) (h:=16) Y79 ty5 (.t rfl) rfl rfl (fun _=>by decide)) ?_;refine asn rfl (nP (ret (pR (done rfl (.tmp rfl .nil) (fun w I=>?_)))));exact ln b1 trivial (by unfold adO; rw [h0]; rfl) (by exact List.Sublist.refl _) w I
 ·refine skip (pN (sg (cf 1 rfl ?_)));refine co (Ev.iz (l:=0) (h:=4) Y79 ty5 (.t rfl) rfl (.c rfl) (fun _=>by decide)) ?_;refine asn rfl (nP (ret (done rfl (.tmp rfl .nil) (fun w I=>?_))));exact ln b1 trivial (by unfold adO; rw [h0]; rfl) (by exact List.Sublist.refl _) w I
theorem wh (h:aa) (d:List UInt8) (w:World) (hd:aO u8E w h.data.v d) (hl:d.length ≤ 4096):Gx.Calls Tryz.prog 49 #[aA.val h] w (mE w u8E (cC h d 0) 5):=by
 refine en0 51 Tryz.func49 (fun _ _=>?_);refine sg (cons (box (E:=aA) (.t rfl) (fun b1=>?_)));refine ac (.slice none 0 0) ?_;refine nP (sg (ac (.slice none 0 0) ?_));refine dD u8E 5 ?_;refine nP (seq (sg (cf 34 rfl ?_)));refine co (Ev.ldx h.aC ty5 (.t rfl) aa.bS) ?_;refine cons (aQ eN (o1 rfl) (fun w I=>nR _ w) ?_);refine co (Ev.dO (.t rfl) (.c rfl)) ?_;refine nP ?_;refine cnd rfl (fun h0=>?_) (fun h0=>?_)
 ·refine sg (mv rfl (cf 42 rfl ?_));refine co (Ev.ldx h.data oe (.t rfl) aa.ly) ?_;refine cons (apz (E:=u8E) Y48 ty5 zb5 zs5 (.t rfl) (.t rfl) (fun v2=>?_) (hsrc:=zf));refine asn rfl (nP (ret (pR (done rfl (.tmp rfl .nil) (oB zm ?_)))));have h6:h.aC ≠ 6:=fun e=>by rw [e] at h0; exact absurd h0 (by decide)
  have h17:h.aC ≠ 17:=fun e=>by rw [e] at h0; exact absurd h0 (by decide)
  unfold cC;rw [if_neg h6,if_neg h17]; rfl
 ·refine skip (pN (sg (mv rfl (cf 35 rfl ?_))));refine co (Ev.ldx h.bB iW (.t rfl) aa.cS) ?_;refine cons (dY eN (o2 rfl rfl) (fun w I=>c7 _ _ _ w (zj w I) (by first | assumption | omega | (simp [aK]; done) | (simp [aK]; omega))) (fun v3=>?_));refine asn rfl (nP (sg (mv rfl (cf 36 rfl ?_))));refine co (Ev.ldx h.bC iW (.t rfl) aa.cT) ?_;refine cons (dY eN (o2 rfl rfl) (fun w I=>c7 _ _ _ w (zj w I) (by first | assumption | omega | (simp [aK]; done) | (simp [aK]; omega))) (fun v4=>?_));refine asn rfl (nP (seq (sg (cf 34 rfl ?_))));refine co (Ev.ldx h.aC ty5 (.t rfl) aa.bS) ?_;refine co (Ev.jQ (.t rfl) (.c (v:=U8 6) rfl)) ?_;refine nP ?_;refine cnd rfl (fun h1=>?_) (fun h1=>?_)
  ·refine sg (mv rfl (cf 41 rfl ?_));refine co (Ev.ldx h.seq sP (.t rfl) aa.vN) ?_;refine cons (dY eN (o2 rfl rfl) (fun w I=>fP _ _ _ w (zj w I) (by first | assumption | omega | (simp [aK]; done) | (simp [aK]; omega))) (fun v5=>?_));refine asn rfl (nP (sg (mv rfl (cons (dY eN (.cons (.t rfl) (.cons (.c (v:=U32 0) rfl) .nil)) (fun w I=>fP _ _ _ w (zj w I) (by first | assumption | omega | (simp [aK]; done) | (simp [aK]; omega))) (fun v6=>?_))))));refine asn rfl (nP (sg (mv rfl (cf 40 rfl ?_))));refine co (Ev.ldx h.flags ty5 (.t rfl) aa.nV) ?_;refine cons (buildSlice (E:=u8E) Y48 ty5 z5 (.cons (.c (v:=U8 80) rfl) (.cons (.t rfl) .nil)) rfl rfl (fun v7=>?_));refine cons (apz (E:=u8E) Y48 ty5 zb5 zs5 (.t rfl) (.t rfl) (fun v8=>?_));refine asn rfl (nP (sg (mv rfl (cons (dY eN (.cons (.t rfl) (.cons (.c (v:=U16 65535) rfl) .nil)) (fun w I=>c7 _ _ _ w (zj w I) (by first | assumption | omega | (simp [aK]; done) | (simp [aK]; omega))) (fun v9=>?_))))));refine asn rfl (nP (region (mv rfl (cons (dY eN (.cons (.t rfl) (.cons (.c (v:=U32 0) rfl) .nil)) (fun w I=>fP _ _ _ w (zj w I) (by first | assumption | omega | (simp [aK]; done) | (simp [aK]; omega))) (fun v10=>?_))))));exact s16
  ·refine sg (mv rfl (cf 42 rfl ?_));refine co (Ev.ldx h.data oe (.t rfl) aa.ly) ?_;refine co (Ev.len Y48 (.t rfl) zf) ?_;refine co (Ev.bL (.c rfl) (.t rfl) (fun _=>zo)) ?_;refine co (Ev.jg Y82 Y3 (.t rfl)) ?_;refine cons (dY eN (o2 rfl rfl) (fun w I=>c7 _ _ _ w (zj w I) (by first | assumption | omega | (simp [aK]; done) | (simp [aK]; omega))) (fun v12=>?_));refine asn rfl (nP (region (mv rfl (cons (dY eN (.cons (.t rfl) (.cons (.c (v:=U16 0) rfl) .nil)) (fun w I=>c7 _ _ _ w (zj w I) (by first | assumption | omega | (simp [aK]; done) | (simp [aK]; omega))) (fun v13=>?_))))));exact s16
end Go.Proofs.YtljifjflnakmoaaGreat.Oc
namespace Go.Proofs.YtljifjflnakmoaaGreat.Oc
open Go Go.Gx Go.Proofs.YtljifjflnakmoaaGreat.Tri
def oT (xs:List UInt8) (p:Int) (s:UInt16):List UInt8:=(xs.set p.toNat (vk s 8).toUInt8).set (p + 1).toNat s.toUInt8
@[simp] theorem ry (xs:List UInt8) (p:Int) (s:UInt16):(oT xs p s).length = xs.length:=by simp [oT]
theorem lay_ok (v:Value) (xs:List UInt8) (p:Int) (s:UInt16) (w:World) (hp:0 ≤ p ∧ p + 1 < xs.length) (hx:(aT v u8E xs 5).A w) (hb:∀ b,v.ownBlock = some b→b < w.heap.size):Gx.Calls Tryz.prog 51 #[v,I p,U16 s] w (RetW v u8E xs (oT xs p s) 5 (.tuple #[]) w):=by
 have hbl:xs.length ≤ 9223372036854775807:=(aO.gN hx).le;refine enter 18 [aT v u8E xs 5] Tryz.func51 rfl rfl (Nat.le_of_ble_eq_true rfl) (start_own hx hb) (fun _ _=>?_);refine sg (mv rfl (mv rfl (mv rfl (co (Ev.shr_u16 (.t rfl) (.c rfl) (fun _=>by decide)) ?_))));refine co (Ev.rI Y5 Y82 (.t rfl)) ?_;refine co (Ev.indexAddr Y48 ty5 (.t rfl) (.t rfl) (fun w I=>io w I) (fun _=>zo)) ?_;refine cons (storeS0 ty5 (.t rfl) (.t rfl) zu (by omega) ?_);refine nP (region (mv rfl (mv rfl (co (Ev.bL (.t rfl) (.c rfl) (fun _=>zo)) ?_))));refine mv rfl (co (Ev.rI Y5 Y82 (.t rfl)) ?_);refine co (Ev.indexAddr Y48 ty5 (.t rfl) (.t rfl) (fun w I=>io w I) (fun _=>by rw [List.length_set]; omega)) ?_;refine cons (storeS0 ty5 (.t rfl) (.t rfl) zu (by rw [List.length_set]; omega) ?_);refine nil (rH rfl .nil (fun w I=>?_));exact ⟨rfl,I.keeps,(I.own _ List.mem_cons_self).1⟩
end Go.Proofs.YtljifjflnakmoaaGreat.Oc
namespace Go.Proofs.YtljifjflnakmoaaGreat.Oc
open Go Go.Gx Go.Proofs.YtljifjflnakmoaaGreat.Tri
def r8 (h:aa) (n:Int):List UInt8:=bif h.src.v6 then dc 4 (UInt32.ofInt n).toUInt64 ++ [0,0,0,h.aC] else [0,h.aC] ++ dc 2 (UInt16.ofInt n).toUInt64
def wE (h:aa) (b:List UInt8):UInt16 :=
 if sumB (cW h.src ++ cW h.dst ++ r8 h b.length ++ b) = 0 ∧ h.aC = 17 then 65535 else sumB (cW h.src ++ cW h.dst ++ r8 h b.length ++ b)
theorem z48:zI 48 (ovE ai):=kI
theorem sum16_ok (h:aa) (v:Value) (b:List UInt8) (w:World) (hb:aO u8E w v b) (hl:b.length ≤ 4096):Gx.Calls Tryz.prog 53 #[aA.val h,v] w (bG w (U16 (wE h b))):=by
 obtain ⟨o,rfl⟩:∃ o:OV,o.v = v:=⟨⟨v,hb.one⟩,rfl⟩;refine en0 43 Tryz.func53 (fun _ _=>?_);refine sg (cons (box (E:=aA) (.t rfl) (fun b1=>?_)));refine ac (U16 0) ?_;refine nP (sg (cf 34 rfl ?_));refine co (Ev.ldx h.aC ty5 (.t rfl) aa.bS) ?_;refine cons (buildSlice (E:=u8E) Y48 ty5 z5 (.cons (.c (v:=U8 0) rfl) (.cons (.t rfl) .nil)) rfl rfl (fun v2=>?_));refine mv rfl (co (Ev.len Y48 (.t rfl) zf) ?_);refine co (Ev.jg Y82 Y3 (.t rfl)) ?_;refine cons (dY eN (o2 rfl rfl) (fun w I=>c7 _ _ _ w (zj w I) (by first | assumption | omega | (simp [aK]; done) | (simp [aK]; omega))) (fun v3=>?_));refine asn rfl (nP (seq (sg (cf 0 rfl ?_))));refine cf 0 rfl ?_;refine co (Ev.ldx h.src.v6 ty4 (.t rfl) (ah.comp aa.eF aG.jP)) ?_;refine nP ?_;refine cnd rfl (fun h0=>?_) (fun h0=>?_)
 ·refine dA zk ?_;refine tm 0 rfl rfl ?_;refine tk 1 rfl (Ev.len Y48 (.t rfl) zf) ?_;refine tk 2 rfl (Ev.uj Y83 Y3 (.t rfl)) ?_;refine tk 4 rfl (fA 34 (.t rfl)) ?_;refine tk 5 rfl (Ev.ldx h.aC ty5 (.t rfl) aa.bS) ?_;refine all [3,6] zk (by decide) (.cons rfl ?_ (.cons rfl ?_ .nil))
  ·refine (dY eN (.cons (.c (v:=(Go.Value.slice none 0 0)) rfl) (.cons (.t rfl) .nil)) (fun w I=>fP _ _ _ w (aO.nil _ w) (by first | assumption | omega | (simp [aK]; done) | (simp [aK]; omega))) (fun v4=>?_));refine hdn (al1 6 rfl ((buildSlice (E:=u8E) Y48 ty5 z5 (.cons (.c (v:=U8 0) rfl) (.cons (.c (v:=U8 0) rfl) (.cons (.c (v:=U8 0) rfl) (.cons (.t rfl) .nil)))) rfl rfl (fun v5=>?_))));exact s78
  ·refine (buildSlice (E:=u8E) Y48 ty5 z5 (.cons (.c (v:=U8 0) rfl) (.cons (.c (v:=U8 0) rfl) (.cons (.c (v:=U8 0) rfl) (.cons (.t rfl) .nil)))) rfl rfl (fun v8=>?_));refine hdn (al1 3 rfl ((dY eN (.cons (.c (v:=(Go.Value.slice none 0 0)) rfl) (.cons (.t rfl) .nil)) (fun w I=>fP _ _ _ w (aO.nil _ w) (by first | assumption | omega | (simp [aK]; done) | (simp [aK]; omega))) (fun v9=>?_))));exact s78
 ·refine skip (pN (seq (dA zk ?_)));exact s2
end Go.Proofs.YtljifjflnakmoaaGreat.Oc
namespace Go.Proofs.YtljifjflnakmoaaGreat.Oc
open Go Go.Gx Go.Proofs.YtljifjflnakmoaaGreat.Tri
def mn (h:aa) (n:Int):List UInt8:=[69,h.gA] ++ dc 2 (UInt16.ofInt (20 + n)).toUInt64 ++ dc 2 h.id.toUInt16.toUInt64 ++ dc 2 (16384:UInt16).toUInt64 ++ [h.tTL,h.aC,0,0] ++ cW h.src ++ cW h.dst
def iq (h:aa) (n:Int):List UInt8 :=
 if h.src.v6 = true then dc 4 (1610612736 ||| mU h.gA.toUInt32 20 ||| h.id).toUInt64 ++ dc 2 (UInt16.ofInt n).toUInt64 ++ [h.aC,h.tTL] ++ cW h.src ++ cW h.dst
 else oT (mn h n) 10 (sumB (mn h n))
theorem pU (h:aa) (n:Int):(mn h n).length = 12 + (cW h.src).length + (cW h.dst).length:=by
 simp [mn];omega
theorem qj (a:aG):4 ≤ (cW a).length ∧ (cW a).length ≤ 16:=by rw [dL]; cases a.v6 <;> decide
theorem head_ok (h:aa) (n:Int) (w:World) (hn:0 ≤ n ∧ n ≤ 4096):Gx.Calls Tryz.prog 54 #[aA.val h,I n] w (mE w u8E (iq h n) 5):=by
 have a1:=qj h.src;have a2:=qj h.dst;refine en0 84 Tryz.func54 (fun _ _=>?_);refine sg (cons (box (E:=aA) (.t rfl) (fun b1=>?_)));refine ac (.slice none 0 0) ?_;refine nP (sg (ac (.slice none 0 0) ?_));refine dD u8E 5 ?_;refine nP (seq (sg (cf 0 rfl ?_)));refine cf 0 rfl ?_;refine co (Ev.ldx h.src.v6 ty4 (.t rfl) (ah.comp aa.eF aG.jP)) ?_;refine nP ?_;refine cnd rfl (fun h0=>?_) (fun h0=>?_)
 ·refine sg (ac (U32 1610612736) ?_);refine nP (sg (mv rfl (cf 38 rfl ?_)));refine co (Ev.ldx h.gA ty5 (.t rfl) aa.lJ) ?_;refine co (Ev.conv_u8_u32 Y83 Y5 (.t rfl)) ?_;refine co (Ev.shl_u32 (.t rfl) (.c rfl) (fun _=>by decide)) ?_;refine co (Ev.or_u32 (.t rfl) (.t rfl)) ?_;refine asn rfl (nP (sg (mv rfl (cf 39 rfl ?_))));refine co (Ev.ldx h.id sP (.t rfl) aa.tN) ?_;refine co (Ev.or_u32 (.t rfl) (.t rfl)) ?_;refine asn rfl (nP (sg (mv rfl (mv rfl (cons (dY eN (o2 rfl rfl) (fun w I=>fP _ _ _ w (zj w I) (by first | assumption | omega | (simp [aK]; done) | (simp [aK]; omega))) (fun v2=>?_)))))));refine asn rfl (nP (sg (mv rfl (mv rfl (co (Ev.jg Y82 Y3 (.t rfl)) ?_)))));refine cons (dY eN (o2 rfl rfl) (fun w I=>c7 _ _ _ w (zj w I) (by first | assumption | omega | (simp [aK]; done) | (simp [aK]; omega))) (fun v3=>?_));refine asn rfl (nP (sg (mv rfl (cf 34 rfl ?_))));refine co (Ev.ldx h.aC ty5 (.t rfl) aa.bS) ?_;refine cf 37 rfl ?_;refine co (Ev.ldx h.tTL ty5 (.t rfl) aa.tJ) ?_;refine cons (buildSlice (E:=u8E) Y48 ty5 z5 (.cons (.t rfl) (.cons (.t rfl) .nil)) rfl rfl (fun v4=>?_));refine cons (apz (E:=u8E) Y48 ty5 zb5 zs5 (.t rfl) (.t rfl) (fun v5=>?_));refine asn rfl (nP (sg (mv rfl (cf 0 rfl ?_))));refine co (Ev.ldx h.src eM (.t rfl) aa.eF) ?_;refine cons (dB (X:=Nat) (fun _=>True) (fun b=>(adO b h.src).v) (fun b=>[Var b cz h.src 81]) eN (o1 rfl) (fun w I=>jk _ w) (fun n9 _=>?_));refine cons (apz (E:=u8E) Y48 ty5 zb5 zs5 (.t rfl) (.t rfl) (fun v6=>?_) (hsrc:=(fun w I=>nX (by repeat first | exact mH | apply mT | apply mA) w I)));refine asn rfl (nP (sg (mv rfl (cf 17 rfl ?_))));refine co (Ev.ldx h.dst eM (.t rfl) aa.fx) ?_;refine cons (dB (X:=Nat) (fun _=>True) (fun b=>(adO b h.dst).v) (fun b=>[Var b cz h.dst 81]) eN (o1 rfl) (fun w I=>jk _ w) (fun n10 _=>?_))
  refine cons (apz (E:=u8E) Y48 ty5 zb5 zs5 (.t rfl) (.t rfl) (fun v7=>?_) (hsrc:=(fun w I=>nX (by repeat first | exact mH | apply mT | apply mA) w I)));refine asn rfl (nP (ret (pR (done rfl (.tmp rfl .nil) (oB zm ?_)))));unfold iq;rw [if_pos h0];simp only [List.nil_append,List.append_assoc]
  rfl
 ·refine skip (pN (sg (mv rfl (cf 38 rfl ?_))));refine co (Ev.ldx h.gA ty5 (.t rfl) aa.lJ) ?_;refine cons (buildSlice (E:=u8E) Y48 ty5 z5 (.cons (.c (v:=U8 69) rfl) (.cons (.t rfl) .nil)) rfl rfl (fun v8=>?_));refine cons (apz (E:=u8E) Y48 ty5 zb5 zs5 (.t rfl) (.t rfl) (fun v9=>?_));refine asn rfl (nP (sg (mv rfl (mv rfl (co (Ev.bL (.c rfl) (.t rfl) (fun _=>zo)) ?_)))));refine co (Ev.jg Y82 Y3 (.t rfl)) ?_;refine cons (dY eN (o2 rfl rfl) (fun w I=>c7 _ _ _ w (zj w I) (by first | assumption | omega | (simp [aK]; done) | (simp [aK]; omega))) (fun v10=>?_));refine asn rfl (nP (sg (mv rfl (cf 39 rfl ?_))));refine co (Ev.ldx h.id sP (.t rfl) aa.tN) ?_;refine co (Ev.xA Y82 Y83 (.t rfl)) ?_;refine cons (dY eN (o2 rfl rfl) (fun w I=>c7 _ _ _ w (zj w I) (by first | assumption | omega | (simp [aK]; done) | (simp [aK]; omega))) (fun v11=>?_));refine asn rfl (nP (sg (mv rfl (cons (dY eN (.cons (.t rfl) (.cons (.c (v:=U16 16384) rfl) .nil)) (fun w I=>c7 _ _ _ w (zj w I) (by first | assumption | omega | (simp [aK]; done) | (simp [aK]; omega))) (fun v12=>?_))))));refine asn rfl (nP (sg (mv rfl (cf 37 rfl ?_))));refine co (Ev.ldx h.tTL ty5 (.t rfl) aa.tJ) ?_;refine cf 34 rfl ?_;refine co (Ev.ldx h.aC ty5 (.t rfl) aa.bS) ?_;refine cons (buildSlice (E:=u8E) Y48 ty5 z5 (.cons (.t rfl) (.cons (.t rfl) (.cons (.c (v:=U8 0) rfl) (.cons (.c (v:=U8 0) rfl) .nil)))) rfl rfl (fun v13=>?_));refine cons (apz (E:=u8E) Y48 ty5 zb5 zs5 (.t rfl) (.t rfl) (fun v14=>?_));refine asn rfl (nP (sg (mv rfl (cf 0 rfl ?_))));refine co (Ev.ldx h.src eM (.t rfl) aa.eF) ?_;refine cons (dB (X:=Nat) (fun _=>True) (fun b=>(adO b h.src).v) (fun b=>[Var b cz h.src 81]) eN (o1 rfl) (fun w I=>jk _ w) (fun n16 _=>?_))
  refine cons (apz (E:=u8E) Y48 ty5 zb5 zs5 (.t rfl) (.t rfl) (fun v15=>?_) (hsrc:=(fun w I=>nX (by repeat first | exact mH | apply mT | apply mA) w I)));refine asn rfl (nP (sg (mv rfl (cf 17 rfl ?_))));refine co (Ev.ldx h.dst eM (.t rfl) aa.fx) ?_;refine cons (dB (X:=Nat) (fun _=>True) (fun b=>(adO b h.dst).v) (fun b=>[Var b cz h.dst 81]) eN (o1 rfl) (fun w I=>jk _ w) (fun n17 _=>?_));refine cons (apz (E:=u8E) Y48 ty5 zb5 zs5 (.t rfl) (.t rfl) (fun v16=>?_) (hsrc:=(fun w I=>nX (by repeat first | exact mH | apply mT | apply mA) w I)));refine asn rfl (nP (sg (mv rfl (mv rfl (cons (buildSlice (E:=(ovE ai)) Y258 oe z48 (.cons (.t rfl) .nil) rfl rfl (fun v17=>?_)))))));refine cons (aQ eN (o1 rfl) (fun w I=>sum_ok _ _ w (IsSS.mk' (io w I) (.cons (io w I) .nil))) ?_);refine cons (callw (E:=u8E) (xs:=mn h n) (T:=5) zu eN (.cons (.t rfl) (.cons (.c (v:=I 10) rfl) (.cons (.t rfl) .nil))) (fun w I=>lay_ok _ (mn h n) _ _ w ⟨by omega,by rw [pU]; omega⟩ (I.own (aT _ u8E (mn h n) 5) (by repeat first | exact mH | apply mT | apply mA)).1 (fun b hb=>((I.own (aT _ u8E (mn h n) 5) (by repeat first | exact mH | apply mT | apply mA)).2 b hb).2)) ?_);refine nP (sg (mv rfl (asn rfl (nP (ret (done rfl (.tmp rfl .nil) (oB zm ?_)))))));unfold iq;rw [if_neg (by simp [h0])];exact congrArg (fun z=>oT (mn h n) 10 (sumB z)) (by simp only [mn,List.flatten_cons,List.flatten_nil,List.append_nil,List.nil_append])
end Go.Proofs.YtljifjflnakmoaaGreat.Oc
namespace Go.Proofs.YtljifjflnakmoaaGreat.Oc
open Go Go.Gx Go.Proofs.YtljifjflnakmoaaGreat.Tri
def eR (h:aa) (d:List UInt8):List UInt8:=if cI h.aC = 0 then cC h d 0 else oT (cC h d 0) (atN h.aC) (wE h (cC h d 0))
def gf (h:aa) (d:List UInt8):List UInt8:=iq h (eR h d).length ++ eR h d
theorem iO (h:aa) (d:List UInt8) (s:UInt16):((cC h d s).length:Int) = cI h.aC + d.length:=by
 unfold cC cI;split
 ·simp; omega
 ·split
  ·simp; omega
  ·simp
@[simp] theorem lZ (h:aa) (d:List UInt8):((eR h d).length:Int) = cI h.aC + d.length:=by
  unfold eR;split
  ·exact iO h d 0
  ·rw [ry]; exact iO h d 0
theorem eX (p:UInt8):cI p = 0 ∨ p = 6 ∧ cI p = 20 ∨ p = 17 ∧ cI p = 8:=by unfold cI; split <;> (try split) <;> simp_all
theorem atN_le (p:UInt8) (h:cI p ≠ 0):0 ≤ atN p ∧ atN p + 1 < cI p:=by
 rcases eX p with e | ⟨rfl,e⟩ | ⟨rfl,e⟩
 ·exact absurd e h
 ·rw [e]; decide
 ·rw [e]; decide
theorem uo (h:aa) (n:Int) (hc:dH h n = 0):n ≤ 2048:=by
 unfold dH at hc;have h1:0 ≤ bD h:=by unfold bD; cases h.src.v6 <;> decide
 have h2:0 ≤ cI h.aC:=by rcases eX h.aC with e | ⟨_,e⟩ | ⟨_,e⟩ <;> omega
 split at hc
 ·simp at hc
 ·split at hc
  ·simp at hc
  ·split at hc
   ·simp at hc
   ·omega
theorem headB_le (h:aa) (n:Int):(iq h n).length ≤ 44:=by
 have a1:=qj h.src;have a2:=qj h.dst;unfold iq;split
 ·simp; omega
 ·rw [ry,pU]; omega
def RetM (w:World) (h:aa) (d:List UInt8):cX :=
 gL w (fun o:OV=>dH h d.length ≠ 0→o = ai) (fun o=>.tuple #[o.v,I (dH h d.length)]) (fun o=>if dH h d.length = 0 then [aT o.v u8E (gf h d) 5] else [])
theorem make_ok (h:aa) (d:List UInt8) (w:World) (hd:aO u8E w h.data.v d) (hl:d.length ≤ 1152921504606846975):Gx.Calls Tryz.prog 23 #[aA.val h] w (RetM w h d):=by
 refine en0 31 Tryz.func23 (fun _ _=>?_);refine sg (cons (box (E:=aA) (.t rfl) (fun b1=>?_)));refine ac (.slice none 0 0) ?_;refine ac (I 0) ?_;refine nP (seq (sg (co (Ev.ldx h cJ (.t rfl) (ah.id _)) ?_)));refine cons (aQ eN (o1 rfl) (fun w I=>vB _ d w (hd.aV I.keeps) (by omega)) ?_);refine asn rfl (nP (sg (mv rfl (co (Ev.dS (.t rfl) (.c rfl)) ?_))));refine nP ?_;refine cnd rfl (fun hbad=>?_) (fun hok=>?_)
 ·refine sg (mv rfl (ac (.slice none 0 0) ?_));refine asn rfl (nP (ret (pR (done rfl (.tmp rfl (.tmp rfl .nil)) (fun w I=>?_)))));exact ln ai (fun _=>rfl) rfl (by rw [if_neg hbad]; exact List.nil_sublist _) w I
 ·have hcl:=uo h d.length hok;have hbl:=iO h d 0;have hrl:=lZ h d;have hmc:=eX h.aC;refine skip (pN (sg (co (Ev.ldx h cJ (.t rfl) (ah.id _)) ?_)));refine cons (dY eN (o1 rfl) (fun w I=>wh _ d w (hd.aV I.keeps) (by omega)) (fun v2=>?_));refine asn rfl (nP (cut (X:=OV × (List UInt8)) (fun x=>(x.2 = eR h d)) (fun x=>[dz,(1,true,pvb b1),(5,true,x.1.v)]) (fun x=>[aT x.1.v u8E x.2 5,Var b1 aA h 85]) ?_ (fun x hx=>?_)))
  ·refine sg (cf 34 rfl ?_);refine co (Ev.ldx h.aC ty5 (.t rfl) aa.bS) ?_;refine cons (aQ eN (o1 rfl) (fun w I=>nR _ w) ?_);refine co (Ev.ir (.t rfl) (.c rfl)) ?_;refine nP ?_;refine cnd rfl (fun hm=>?_) (fun hm=>?_)
   ·have hat:=atN_le h.aC (by omega);refine drawR Rem.head zk ?_;refine tm 0 rfl rfl ?_;refine tk 1 rfl (fA 34 (.t rfl)) ?_;refine tk 2 rfl (Ev.ldx h.aC ty5 (.t rfl) aa.bS) ?_;refine tk 4 rfl (Ev.ldx h cJ (.t rfl) (ah.id _)) ?_;refine tm 5 rfl rfl ?_;refine al1 3 rfl ((aQ eN (o1 rfl) (fun w I=>at_ok _ w) ?_));refine hdn (al1 6 rfl ((aQ eN (o2 rfl rfl) (fun w I=>sum16_ok _ _ _ w (io w I) (by omega)) ?_)));refine hdn (al1 7 rfl ((callw (E:=u8E) (xs:=cC h d 0) (T:=5) zu eN (o3 rfl rfl rfl) (fun w I=>lay_ok _ (cC h d 0) _ _ w (by omega) (I.own (aT _ u8E (cC h d 0) 5) zm).1 (fun b hb=>((I.own (aT _ u8E (cC h d 0) 5) zm).2 b hb).2)) ?_)));refine hdn (ovr (pN (mt (_,_) ?_)))
    ·exact s51
   ·refine skip (pN (mt (_,_) ?_))
    ·exact s51
  obtain ⟨o,xs⟩:=x;dsimp only at hx;have hxs:=hx;clear hx;show Sat _ _ [dz,(1,true,.pointer (some ⟨b1,0,none⟩)),(5,true,o.v)] [aT o.v u8E xs 5,Var b1 aA h 85];subst hxs;have hhl:=headB_le h (eR h d).length;refine sg (co (Ev.ldx h cJ (.t rfl) (ah.id _)) ?_);refine mv rfl (co (Ev.len Y48 (.t rfl) zf) ?_);refine cons (dY eN (o2 rfl rfl) (fun w I=>head_ok _ _ w (by omega)) (fun v3=>?_));refine mv rfl (cons (apz (E:=u8E) Y48 ty5 zb5 zs5 (.t rfl) (.t rfl) (fun v4=>?_)));refine asn rfl (ac (I 0) ?_);refine nP (ret (done rfl (.tmp rfl (.tmp rfl .nil)) (fun w I=>?_)));exact ln _ (fun hn=>absurd hok hn) (by rw [hok]; rfl) (by rw [if_pos hok]; exact List.cons_sublist_cons.2 (List.nil_sublist _)) w I
end Go.Proofs.YtljifjflnakmoaaGreat.Oc
namespace Go.Proofs.YtljifjflnakmoaaGreat.Oc
open Go Go.Gx Go.Proofs.YtljifjflnakmoaaGreat.Tri
def rW (b:List UInt8) (l k:Nat):List UInt8:=(b.take k).drop l
def hd4 (b:List UInt8):aa :=
 { aA.zero with gA:=b.getD 1 0,id:=(da b 4 2).1.toUInt16.toUInt32,tTL:=b.getD 8 0,aC:=b.getD 9 0,src:=⟨false,qO (Vector.replicate 16 0) (rW b 12 16) 0⟩,dst:=⟨false,qO (Vector.replicate 16 0) (rW b 16 20) 0⟩ }
def hd6 (b:List UInt8):aa :=
 { aA.zero with gA:=(vj (da b 0 4).1.toUInt32 20).toUInt8,id:=(da b 0 4).1.toUInt32 &&& 1048575,aC:=b.getD 6 0,tTL:=b.getD 7 0,src:=⟨true,oq 16 (rW b 8 24) 0⟩,dst:=⟨true,oq 16 (rW b 24 40) 0⟩ }
def aW (b:List UInt8):aa × Int × Int :=
 if b.length = 0 then (aA.zero,0,160)
 else if mz (b.getD 0 0) 4 = 4 then
  if b.length < 20 then (aA.zero,0,160)
  else if b.getD 0 0 ≠ 69 ∨ (da b 6 2).1.toUInt16 ≠ 16384 then (aA.zero,0,161)
  else (hd4 b,((da b 2 2).1.toUInt16.toNat:Int),0)
 else if mz (b.getD 0 0) 4 = 6 then
  if b.length < 40 then (aA.zero,0,160) else (hd6 b,40 + ((da b 4 2).1.toUInt16.toNat:Int),0)
 else (aA.zero,0,161)
theorem z85:zI 85 aA:=kI
theorem ty221:tyI 221 (fN 4 u8E):=tyP
theorem z221:zI 221 (fN 4 u8E):=kI
theorem fronted_ok (u:Value) (b:List UInt8) (w:World) (hb:aO u8E w u b):Gx.Calls Tryz.prog 74 #[u] w (bG w (.tuple #[aA.val (aW b).1,I (aW b).2.1,I (aW b).2.2])):=by
 have hbl:=hb.le;have hx16:=(da b 4 2).1.toUInt16.toNat_lt;refine en0 133 Tryz.func74 (fun _ _=>?_);refine sg (cons (alloc z85 (fun b1=>?_)));refine ac (I 0) ?_;refine ac (I 0) ?_;refine nP (seq (sg (mv rfl (co (Ev.len Y48 (.t rfl) zf) ?_))));refine co (Ev.dO (.t rfl) (.c rfl)) ?_;refine nP ?_;refine cnd rfl (fun h0=>?_) (fun h0=>?_)
 ·refine sg (co (Ev.ldv cJ (.t rfl) (ah.id _)) ?_);refine cons (stv cJ (ah.id _) (.t rfl) (.t rfl) ?_);refine ac (I 0) ?_;refine ac (I 160) ?_;refine nP (ret (pR (done rfl (.cellP rfl cJ (br zm (ah.id _)) (.tmp rfl (.tmp rfl .nil))) (gD ?_))));have e:aW b = (aA.zero,0,160):=by
   unfold aW;rw [if_pos (by omega)]
  rw [e]; rfl
 ·refine skip (pN (seq (sg (mv rfl (co (Ev.indexAddr Y48 ty5 (.t rfl) (.c rfl) zf (fun _=>zo)) ?_)))));refine co (Ev.bV (i:=0) ty5 (.t rfl) zf (fun _=>zo)) ?_;refine co (Ev.shr_u8 (.t rfl) (.c rfl) (fun _=>by decide)) ?_;refine nP (block (sg (co (Ev.jQ (.t rfl) (.c (v:=U8 4) rfl)) ?_)));refine asn rfl (nP ?_);refine cnd rfl (fun h1=>?_) (fun h1=>?_)
  ·refine seq (sg (mv rfl (co (Ev.len Y48 (.t rfl) zf) ?_)));refine co (Ev.cj (.t rfl) (.c rfl)) ?_;refine nP ?_;refine cnd rfl (fun h2=>?_) (fun h2=>?_)
   ·refine sg (co (Ev.ldv cJ (.t rfl) (ah.id _)) ?_);refine cons (stv cJ (ah.id _) (.t rfl) (.t rfl) ?_);refine ac (I 0) ?_;refine ac (I 160) ?_;refine nP (ret (pR (bR (pR (done rfl (.cellP rfl cJ (br zm (ah.id _)) (.tmp rfl (.tmp rfl .nil))) (gD ?_))))));have n0:¬ b.length = 0:=by omega
    have e:aW b = (aA.zero,0,160):=by
     unfold aW;rw [if_neg n0,if_pos (show mz (b.getD 0 0) 4 = 4 from h1),if_pos (by omega)]
    rw [e]
    rfl
   ·refine skip (pN (sg (mv rfl (cons (aQ eN (.cons (.t rfl) (.cons (.c (v:=I 2) rfl) .nil)) (fun w I=>eA _ _ _ w (zj w I)) ?_)))));refine mv rfl (cx rfl rfl (cx rfl rfl (asn rfl (asn rfl (nP (sg (mv rfl (cons (aQ eN (.cons (.t rfl) (.cons (.c (v:=I 4) rfl) .nil)) (fun w I=>eA _ _ _ w (zj w I)) ?_)))))))));refine mv rfl (cx rfl rfl (cx rfl rfl (asn rfl (asn rfl (nP (sg (mv rfl (cons (aQ eN (.cons (.t rfl) (.cons (.c (v:=I 6) rfl) .nil)) (fun w I=>eA _ _ _ w (zj w I)) ?_)))))))));refine mv rfl (cx rfl rfl (cx rfl rfl (asn rfl (asn rfl (nP (seq (sg (mv rfl (co (Ev.indexAddr Y48 ty5 (.t rfl) (.c rfl) zf (fun _=>zo)) ?_)))))))));refine co (Ev.bV (i:=0) ty5 (.t rfl) zf (fun _=>zo)) ?_;refine co (Ev.lu (.t rfl) (.c (v:=U8 69) rfl)) ?_;refine mv rfl (cg rfl rfl (Ev.move (.t rfl)) ?_);refine cg rfl rfl (Ev.sb (.g rfl id) (.c (v:=U16 16384) rfl)) ?_;refine co (Ev.pkO (.t rfl) rfl) ?_;refine nP ?_;refine cnd rfl (fun h3=>?_) (fun h3=>?_)
    ·refine sg (co (Ev.ldv cJ (.t rfl) (ah.id _)) ?_);refine cons (stv cJ (ah.id _) (.t rfl) (.t rfl) ?_);refine ac (I 0) ?_;refine ac (I 161) ?_;refine nP (ret (pR (bR (pR (done rfl (.cellP rfl cJ (br zm (ah.id _)) (.tmp rfl (.tmp rfl .nil))) (gD ?_))))));have n0:¬ b.length = 0:=by omega
     have e:aW b = (aA.zero,0,161):=by
      unfold aW;rw [if_neg n0,if_pos (show mz (b.getD 0 0) 4 = 4 from h1),if_neg (by omega),if_pos (show b.getD 0 0 ≠ 69 ∨ (da b 6 2).1.toUInt16 ≠ 16384 from h3)]
     rw [e]
     rfl
    ·refine skip (pN (seq (lO 2 rfl zr zk ?_)));refine tm 0 rfl rfl ?_;refine tk 1 rfl (Ev.indexAddr Y48 ty5 (.t rfl) (.c rfl) zf (fun _=>zo)) ?_;refine tk 2 rfl (Ev.bV (i:=1) ty5 (.t rfl) zf (fun _=>zo)) ?_;refine tm 3 rfl rfl ?_;refine tk 4 rfl (Ev.xB Y83 Y82 (.t rfl)) ?_;refine tm 5 rfl rfl ?_;refine tk 6 rfl (Ev.indexAddr Y48 ty5 (.t rfl) (.c rfl) zf (fun _=>zo)) ?_;refine tk 7 rfl (Ev.bV (i:=8) ty5 (.t rfl) zf (fun _=>zo)) ?_;refine tm 8 rfl rfl ?_;refine tk 9 rfl (Ev.indexAddr Y48 ty5 (.t rfl) (.c rfl) zf (fun _=>zo)) ?_;refine tk 10 rfl (Ev.bV (i:=9) ty5 (.t rfl) zf (fun _=>zo)) ?_;refine tk 11 rfl (Ev.bu (fs:=_) (places:=[(0,17),(17,17),(34,1),(35,1),(36,1),(37,1),(38,1),(39,1),(40,1),(41,1),(42,1)]) z85 rfl Y85 zk (.cons (.t rfl) (.cons (.t rfl) (.cons (.t rfl) (.cons (.t rfl) .nil)))) (ay.cons aa.lJ rfl (ay.cons aa.tN rfl (ay.cons aa.tJ rfl (ay.cons aa.bS rfl ay.nil))))) ?_;refine al1 12 rfl ((stv cJ (ah.id _) (.t rfl) (.t rfl) ?_));refine hdn (ovr (pN (seq (dA zk ?_))));refine tm 0 rfl rfl ?_;refine tk 1 rfl (Ev.slice Y48 ty5 (.t rfl) (.c rfl) (.c rfl) zf (fun _=>zo)) ?_;refine tk 2 rfl (Ev.toArr Y221 (.t rfl) (fun w I=>aO.sub (w:=w) (zj w I) (by omega) (by omega)) (fun _=>⟨by decide,by first | omega | (simp; done) | (simp; omega)⟩)) ?_;refine tk 3 rfl (Ev.si ty221 (.t rfl) (fun w I=>aO.sub (w:=w) (zj w I) (by omega) (by omega)) (fun _=>⟨by decide,by first | omega | (simp; done) | (simp; omega)⟩)) ?_;refine tm 4 rfl rfl ?_;refine tk 5 rfl (Ev.slice Y48 ty5 (.t rfl) (.c rfl) (.c rfl) zf (fun _=>zo)) ?_;refine tk 6 rfl (Ev.toArr Y221 (.t rfl) (fun w I=>aO.sub (w:=w) (zj w I) (by omega) (by omega)) (fun _=>⟨by decide,by first | omega | (simp; done) | (simp; omega)⟩)) ?_
     refine tk 7 rfl (Ev.si ty221 (.t rfl) (fun w I=>aO.sub (w:=w) (zj w I) (by omega) (by omega)) (fun _=>⟨by decide,by first | omega | (simp; done) | (simp; omega)⟩)) ?_;refine all [8,9] zk (by decide) (.cons rfl ?_ (.cons rfl ?_ .nil))
     ·refine (alloc z221 (fun b2=>?_));refine hdn (al1 9 rfl ((alloc z221 (fun b3=>?_))));exact s3
     ·refine (alloc z221 (fun b4=>?_));refine hdn (al1 8 rfl ((alloc z221 (fun b5=>?_))));exact s3
  ·refine sg (co (Ev.jQ (.t rfl) (.c (v:=U8 6) rfl)) ?_);refine asn rfl (nP ?_);refine cnd rfl (fun h4=>?_) (fun h4=>?_)
   ·refine seq (sg (mv rfl (co (Ev.len Y48 (.t rfl) zf) ?_)));refine co (Ev.cj (.t rfl) (.c rfl)) ?_;refine nP ?_;refine cnd rfl (fun h5=>?_) (fun h5=>?_)
    ·refine sg (co (Ev.ldv cJ (.t rfl) (ah.id _)) ?_);refine cons (stv cJ (ah.id _) (.t rfl) (.t rfl) ?_);refine ac (I 0) ?_;refine ac (I 160) ?_;refine nP (ret (pR (bR (pR (done rfl (.cellP rfl cJ (br zm (ah.id _)) (.tmp rfl (.tmp rfl .nil))) (gD ?_))))));have n0:¬ b.length = 0:=by omega
     have e:aW b = (aA.zero,0,160):=by
      unfold aW;rw [if_neg n0,if_neg (show ¬ mz (b.getD 0 0) 4 = 4 from h1),if_pos (show mz (b.getD 0 0) 4 = 6 from h4),if_pos (by omega)]
     rw [e]
     rfl
    ·refine skip (pN (sg (mv rfl (cons (aQ eN (.cons (.t rfl) (.cons (.c (v:=I 0) rfl) .nil)) (fun w I=>mO _ _ _ w (zj w I)) ?_)))));refine mv rfl (cx rfl rfl (cx rfl rfl (asn rfl (asn rfl (nP (sg (mv rfl (cons (aQ eN (.cons (.t rfl) (.cons (.c (v:=I 4) rfl) .nil)) (fun w I=>eA _ _ _ w (zj w I)) ?_)))))))));refine mv rfl (cx rfl rfl (cx rfl rfl (asn rfl (asn rfl (nP (seq (lO 2 rfl zr zk ?_)))))));refine tm 0 rfl rfl ?_;refine tk 1 rfl (Ev.shr_u32 (.t rfl) (.c rfl) (fun _=>by decide)) ?_;refine tk 2 rfl (Ev.conv_u32_u8 Y5 Y83 (.t rfl)) ?_;refine tm 3 rfl rfl ?_;refine tk 4 rfl (Ev.and_u32 (.t rfl) (.c (v:=U32 1048575) rfl)) ?_;refine tm 5 rfl rfl ?_;refine tk 6 rfl (Ev.indexAddr Y48 ty5 (.t rfl) (.c rfl) zf (fun _=>zo)) ?_;refine tk 7 rfl (Ev.bV (i:=6) ty5 (.t rfl) zf (fun _=>zo)) ?_;refine tm 8 rfl rfl ?_;refine tk 9 rfl (Ev.indexAddr Y48 ty5 (.t rfl) (.c rfl) zf (fun _=>zo)) ?_;refine tk 10 rfl (Ev.bV (i:=7) ty5 (.t rfl) zf (fun _=>zo)) ?_;refine tk 11 rfl (Ev.bu (fs:=_) (places:=[(0,17),(17,17),(34,1),(35,1),(36,1),(37,1),(38,1),(39,1),(40,1),(41,1),(42,1)]) z85 rfl Y85 zk (.cons (.t rfl) (.cons (.t rfl) (.cons (.t rfl) (.cons (.t rfl) .nil)))) (ay.cons aa.lJ rfl (ay.cons aa.tN rfl (ay.cons aa.bS rfl (ay.cons aa.tJ rfl ay.nil))))) ?_;refine al1 12 rfl ((stv cJ (ah.id _) (.t rfl) (.t rfl) ?_));refine hdn (ovr (pN (sg (mv rfl (co (Ev.slice Y48 ty5 (.t rfl) (.c rfl) (.c rfl) zf (fun _=>zo)) ?_)))));refine co (Ev.toArr Y79 (.t rfl) (fun w I=>aO.sub (w:=w) (zj w I) (by omega) (by omega)) (fun _=>⟨by decide,by first | omega | (simp; done) | (simp; omega)⟩)) ?_;refine co (Ev.si ty79 (.t rfl) (fun w I=>aO.sub (w:=w) (zj w I) (by omega) (by omega)) (fun _=>⟨by decide,by first | omega | (simp; done) | (simp; omega)⟩)) ?_
     refine co (Ev.bu (fs:=_) (places:=[(0,1),(1,16)]) z81 rfl Y81 zk (.cons (.c (v:=.bool true) rfl) (.cons (.t rfl) .nil)) (ay.cons aG.jP rfl (ay.cons aG.l_b rfl ay.nil))) ?_;refine cf 0 rfl ?_;refine cons (stv eM aa.eF (.t rfl) (.t rfl) ?_);refine nP (sg (mv rfl (co (Ev.slice Y48 ty5 (.t rfl) (.c rfl) (.c rfl) zf (fun _=>zo)) ?_)));refine co (Ev.toArr Y79 (.t rfl) (fun w I=>aO.sub (w:=w) (zj w I) (by omega) (by omega)) (fun _=>⟨by decide,by first | omega | (simp; done) | (simp; omega)⟩)) ?_;refine co (Ev.si ty79 (.t rfl) (fun w I=>aO.sub (w:=w) (zj w I) (by omega) (by omega)) (fun _=>⟨by decide,by first | omega | (simp; done) | (simp; omega)⟩)) ?_;refine co (Ev.bu (fs:=_) (places:=[(0,1),(1,16)]) z81 rfl Y81 zk (.cons (.c (v:=.bool true) rfl) (.cons (.t rfl) .nil)) (ay.cons aG.jP rfl (ay.cons aG.l_b rfl ay.nil))) ?_;refine cf 17 rfl ?_;refine cons (stv eM aa.fx (.t rfl) (.t rfl) ?_);refine nP (sg (co (Ev.ldv cJ (.t rfl) (ah.id _)) ?_));refine mv rfl (co (Ev.kO Y3 Y82 (.t rfl)) ?_);refine co (Ev.bL (.c rfl) (.t rfl) (fun _=>zo)) ?_;refine cons (stv cJ (ah.id _) (.t rfl) (.t rfl) ?_);refine asn rfl (ac (I 0) ?_);refine nP (ret (bR (pR (done rfl (.cellP rfl cJ (br zm (ah.id _)) (.tmp rfl (.tmp rfl .nil))) (gD ?_)))));have n0:¬ b.length = 0:=by omega
     have e:aW b = (hd6 b,40 + ((da b 4 2).1.toUInt16.toNat:Int),0):=by
      unfold aW;rw [if_neg n0,if_neg (show ¬ mz (b.getD 0 0) 4 = 4 from h1),if_pos (show mz (b.getD 0 0) 4 = 6 from h4),if_neg (by omega)]
     rw [e];refine congrArg (fun z=>Value.tuple #[aA.val z,I _,I 0]) ?_;simp [hd6,rW,ah.comp];exact ⟨rfl,rfl,rfl,rfl⟩
   ·refine skip (bN (pN (sg (co (Ev.ldv cJ (.t rfl) (ah.id _)) ?_))));refine cons (stv cJ (ah.id _) (.t rfl) (.t rfl) ?_);refine ac (I 0) ?_;refine ac (I 161) ?_;refine nP (ret (done rfl (.cellP rfl cJ (br zm (ah.id _)) (.tmp rfl (.tmp rfl .nil))) (gD ?_)));have n0:¬ b.length = 0:=by omega
    have e:aW b = (aA.zero,0,161):=by
     unfold aW;rw [if_neg n0,if_neg (show ¬ mz (b.getD 0 0) 4 = 4 from h1),if_neg (show ¬ mz (b.getD 0 0) 4 = 6 from h4)]
    rw [e]
    rfl
end Go.Proofs.YtljifjflnakmoaaGreat.Oc
namespace Go.Proofs.YtljifjflnakmoaaGreat.Oc
open Go Go.Gx Go.Proofs.YtljifjflnakmoaaGreat.Tri
def wD (h:aa) (o:OV):aa:={ h with data:=o }
def jO (h:aa) (b:List UInt8):List UInt8:=(b.take b.length).drop (cI h.aC).toNat
def gH (h:aa) (b:List UInt8):aa :=
 if cI h.aC = 0 then h
 else if h.aC = 6 then { h with bB:=(da b 0 2).1.toUInt16,bC:=(da b 2 2).1.toUInt16,seq:=(da b 4 4).1.toUInt32,flags:=b.getD 13 0 }
 else { h with bB:=(da b 0 2).1.toUInt16,bC:=(da b 2 2).1.toUInt16 }
def w7 (h:aa) (b:List UInt8):UInt16:=(da b (atN h.aC) 2).1.toUInt16
def ni (h:aa) (b:List UInt8):Int :=
 if (b.length:Int) < cI h.aC then 161
 else if cI h.aC = 0 then 0
 else if b ≠ oT (cC (gH h b) (jO h b) 0) (atN h.aC) (w7 h b) then 161
 else if w7 h b ≠ wE (gH h b) (cC (gH h b) (jO h b) 0) then 162 else 0
def RetD (w:World) (h:aa) (b:List UInt8):cX :=
 gL w (fun o:OV=>(b.length:Int) < cI h.aC→o = h.data) (fun o=>.tuple #[aA.val (wD (if (b.length:Int) < cI h.aC then h else gH h b) o),I (ni h b)]) (fun o=>if (b.length:Int) < cI h.aC then [] else [aT o.v u8E (jO h b) 5])
theorem midH_proto (h:aa) (b:List UInt8):(gH h b).aC = h.aC:=by unfold gH; split <;> (try split) <;> rfl
theorem midD_length (h:aa) (b:List UInt8) (hb:¬ (b.length:Int) < cI h.aC):((jO h b).length:Int) = b.length - cI h.aC:=by
 have:=eX h.aC;unfold jO;simp;omega
theorem middled_ok (h:aa) (v:Value) (b:List UInt8) (w:World) (hb:aO u8E w v b) (hl:b.length ≤ 4096):Gx.Calls Tryz.prog 77 #[aA.val h,v] w (RetD w h b):=by
 have hmc:=eX h.aC;have hg:cI (aa.bS.get h) = cI h.aC:=rfl;refine en0 83 Tryz.func77 (fun _ _=>?_);refine sg (cons (box (E:=aA) (.t rfl) (fun b1=>?_)));refine cons (alloc z85 (fun b2=>?_));refine ac (I 0) ?_;refine nP (sg (cf 34 rfl ?_));refine co (Ev.ldv ty5 (.t rfl) aa.bS) ?_;refine cons (aQ eN (o1 rfl) (fun w I=>nR _ w) ?_);refine asn rfl (nP (seq (sg (mv rfl (co (Ev.len Y48 (.t rfl) zf) ?_)))));refine mv rfl (co (Ev.cj (.t rfl) (.t rfl)) ?_);refine nP ?_;refine cnd rfl (fun h0=>?_) (fun h0=>?_)
 ·have h0:(b.length:Int) < cI h.aC:=h0;refine sg (co (Ev.ldv cJ (.t rfl) (ah.id _)) ?_);refine cons (stv cJ (ah.id _) (.t rfl) (.t rfl) ?_);refine ac (I 161) ?_;refine nP (ret (pR (done rfl (.cellP rfl cJ (br zm (ah.id _)) (.tmp rfl .nil)) (fun w I=>?_))));exact ln h.data (fun _=>rfl) (by rw [if_pos h0]; unfold ni; rw [if_pos h0]; rfl) (by rw [if_pos h0]; exact List.nil_sublist _) w I
 ·have h0:¬ (b.length:Int) < cI h.aC:=h0;refine skip (pN (sg (mv rfl (mv rfl (co (Ev.sliceL Y48 ty5 (.t rfl) (.t rfl) zf (fun _=>zo)) ?_)))));refine dD u8E 5 ?_;refine cons (apz (E:=u8E) Y48 ty5 zb5 zs5 (.c (v:=(Go.Value.slice none 0 0)) rfl) (.t rfl) (fun v3=>?_) (hsrc:=(fun w I=>aO.sub (w:=w) (zj w I) (by omega) (by omega))));refine cf 42 rfl ?_;refine cons (stv oe aa.ly (.t rfl) (.t rfl) ?_);refine nP (seq (sg (mv rfl (co (Ev.dO (.t rfl) (.c rfl)) ?_))));refine nP ?_;refine cnd rfl (fun h1=>?_) (fun h1=>?_)
  ·have h1:cI h.aC = 0:=h1;refine sg (co (Ev.ldv cJ (.t rfl) (ah.id _)) ?_);refine cons (stv cJ (ah.id _) (.t rfl) (.t rfl) ?_);refine ac (I 0) ?_;refine nP (ret (pR (done rfl (.cellP rfl cJ (br zm (ah.id _)) (.tmp rfl .nil)) (fun w I=>?_))));exact ln v3 (fun hn=>absurd hn h0) (by unfold ni; rw [if_neg h0,if_neg h0,if_pos h1]; unfold gH; rw [if_pos h1]; rfl) (by rw [if_neg h0]; exact List.cons_sublist_cons.2 (List.nil_sublist _)) w I
  ·have h1:¬ cI h.aC = 0:=h1;refine skip (pN (sg (mv rfl (cons (aQ eN (.cons (.t rfl) (.cons (.c (v:=I 0) rfl) .nil)) (fun w I=>eA _ _ _ w (zj w I)) ?_)))));refine mv rfl (cx rfl rfl (cx rfl rfl (cf 35 rfl ?_)));refine cons (stv iW aa.cS (.t rfl) (.t rfl) ?_);refine nP (sg (mv rfl (cons (aQ eN (.cons (.t rfl) (.cons (.c (v:=I 2) rfl) .nil)) (fun w I=>eA _ _ _ w (zj w I)) ?_))));refine mv rfl (cx rfl rfl (cx rfl rfl (cf 36 rfl ?_)));refine cons (stv iW aa.cT (.t rfl) (.t rfl) ?_);refine nP (cut (X:=aa) (fun x=>(x = (wD (gH h b) v3))) (fun x=>[dz,(1,true,v),(2,true,pvb b1),(4,true,pvb b2),(6,true,I (cI h.aC))]) (fun x=>[aT v3.v u8E (jO h b) 5,Var b2 aA aA.zero 85,Var b1 aA x 85]) ?_ (fun x hx=>?_))
   ·refine sg (cf 34 rfl ?_);refine co (Ev.ldv ty5 (.t rfl) aa.bS) ?_;refine co (Ev.jQ (.t rfl) (.c (v:=U8 6) rfl)) ?_;refine nP ?_;refine cnd rfl (fun h2=>?_) (fun h2=>?_)
    ·have h2:h.aC = 6:=h2;have hm20:cI h.aC = 20:=by rw [h2]; rfl
     refine sg (mv rfl (cons (aQ eN (.cons (.t rfl) (.cons (.c (v:=I 4) rfl) .nil)) (fun w I=>mO _ _ _ w (zj w I)) ?_)));refine mv rfl (cx rfl rfl (cx rfl rfl (cf 41 rfl ?_)));refine cons (stv sP aa.vN (.t rfl) (.t rfl) ?_);refine nP (region (mv rfl (co (Ev.indexAddr Y48 ty5 (.t rfl) (.c rfl) zf (fun _=>zo)) ?_)));refine co (Ev.bV (i:=13) ty5 (.t rfl) zf (fun _=>zo)) ?_;refine cf 40 rfl ?_;refine cons (stv ty5 aa.nV (.t rfl) (.t rfl) ?_);refine nP (mt (_) ?_)
     ·exact s48
    ·have h2:¬ h.aC = 6:=h2;refine skip (pN (mt (_) ?_))
     ·exact s48
   obtain ⟨x,rfl⟩:∃ y,y = x:=⟨x,rfl⟩;have hx2:x = (wD (gH h b) v3):=hx;clear hx;subst hx2;have hmp:=midH_proto h b;have hgp:aa.bS.get (wD (gH h b) v3) = h.aC:=hmp;have hml:=midD_length h b h0;have hbl:=iO (gH h b) (jO h b) 0;rw [hmp] at hbl;have hat:=atN_le h.aC h1;have hg2:(cC (wD (gH h b) v3) (jO h b) 0).length = (cC (gH h b) (jO h b) 0).length:=rfl;refine sg (mv rfl (cf 34 rfl ?_));refine co (Ev.ldv ty5 (.t rfl) aa.bS) ?_;refine cons (aQ eN (o1 rfl) (fun w I=>at_ok _ w) ?_);refine cons (aQ eN (o2 rfl rfl) (fun w I=>eA _ _ _ w (zj w I)) ?_);refine mv rfl (cx rfl rfl (cx rfl rfl (asn rfl (asn rfl (nP (sg (co (Ev.ldv cJ (.t rfl) (ah.id _)) ?_)))))));refine cons (dY eN (o1 rfl) (fun w I=>wh (wD (gH h b) v3) (jO h b) w (io w I) (by omega)) (fun v4=>?_));refine asn rfl (nP (sg (co (Ev.ldv cJ (.t rfl) (ah.id _)) ?_)));refine mv rfl (cons (aQ eN (o2 rfl rfl) (fun w I=>sum16_ok _ _ _ w (io w I) (by omega)) ?_));refine asn rfl (nP (sg (mv rfl (cf 34 rfl ?_))));refine co (Ev.ldv ty5 (.t rfl) aa.bS) ?_;refine cons (aQ eN (o1 rfl) (fun w I=>at_ok _ w) ?_);refine mv rfl (cons (callw (E:=u8E) (xs:=cC (gH h b) (jO h b) 0) (T:=5) zu eN (o3 rfl rfl rfl) (fun w I=>lay_ok _ (cC (gH h b) (jO h b) 0) _ _ w (by show 0 ≤ atN (gH h b).aC ∧ atN (gH h b).aC + 1 < _; rw [hmp]; omega) (I.own (aT _ u8E (cC (gH h b) (jO h b) 0) 5) (by repeat first | exact mH | apply mT | apply mA)).1 (fun b3 hb3=>((I.own (aT _ u8E (cC (gH h b) (jO h b) 0) 5) (by repeat first | exact mH | apply mT | apply mA)).2 b3 hb3).2)) ?_));refine nP (seq (block (sg (mv rfl (mv rfl (cons (aQ eN (o2 rfl rfl) (fun w I=>equal_ok _ _ _ _ w (zj w I) (zj w I)) ?_)))))));refine co (Ev.not (.t rfl)) ?_;refine asn rfl (nP ?_);refine cnd rfl (fun h3=>?_) (fun h3=>?_)
   ·rw [hgp] at h3;have h3:b ≠ oT (cC (gH h b) (jO h b) 0) (atN h.aC) (w7 h b):=h3;refine sg (co (Ev.ldv cJ (.t rfl) (ah.id _)) ?_);refine cons (stv cJ (ah.id _) (.t rfl) (.t rfl) ?_);refine ac (I 161) ?_;refine nP (ret (bR (pR (done rfl (.cellP rfl cJ (br zm (ah.id _)) (.tmp rfl .nil)) (fun w I=>?_)))));have e:ni h b = 161:=by
     unfold ni;rw [if_neg h0,if_neg h1,if_pos h3]
    exact s35
   ·rw [hgp] at h3;have h3:¬ (b ≠ oT (cC (gH h b) (jO h b) 0) (atN h.aC) (w7 h b)):=fun k=>k h3
    refine sg (mv rfl (mv rfl (co (Ev.sb (.t rfl) (.t rfl)) ?_)));refine asn rfl (nP ?_);refine cnd rfl (fun h4=>?_) (fun h4=>?_)
    ·rw [hgp] at h4;have h4:w7 h b ≠ wE (gH h b) (cC (gH h b) (jO h b) 0):=h4;refine sg (co (Ev.ldv cJ (.t rfl) (ah.id _)) ?_);refine cons (stv cJ (ah.id _) (.t rfl) (.t rfl) ?_);refine ac (I 162) ?_;refine nP (ret (bR (pR (done rfl (.cellP rfl cJ (br zm (ah.id _)) (.tmp rfl .nil)) (fun w I=>?_)))));have e:ni h b = 162:=by
      unfold ni;rw [if_neg h0,if_neg h1,if_neg h3,if_pos h4]
     exact s35
    ·rw [hgp] at h4;have h4:¬ (w7 h b ≠ wE (gH h b) (cC (gH h b) (jO h b) 0)):=fun k=>k h4
     refine skip (bN (pN (sg (co (Ev.ldv cJ (.t rfl) (ah.id _)) ?_))));refine cons (stv cJ (ah.id _) (.t rfl) (.t rfl) ?_);refine ac (I 0) ?_;refine nP (ret (done rfl (.cellP rfl cJ (br zm (ah.id _)) (.tmp rfl .nil)) (fun w I=>?_)));have e:ni h b = 0:=by
      unfold ni;rw [if_neg h0,if_neg h1,if_neg h3,if_neg h4]
     exact s35
end Go.Proofs.YtljifjflnakmoaaGreat.Oc
namespace Go.Proofs.YtljifjflnakmoaaGreat.Oc
open Go Go.Gx Go.Proofs.YtljifjflnakmoaaGreat.Tri
def gk (b:List UInt8):List UInt8:=(b.take (aW b).2.1.toNat).drop (bD (aW b).1).toNat
def fZ (b:List UInt8):Int :=
 if (aW b).2.2 ≠ 0 then (aW b).2.2
 else if (aW b).2.1 < bD (aW b).1 ∨ 2048 < (aW b).2.1 then 161
 else if (b.length:Int) < (aW b).2.1 then 160
 else if (aW b).1.src.v6 = false ∧ iq (aW b).1 ((aW b).2.1 - bD (aW b).1) ≠ b.take (bD (aW b).1).toNat then 162
 else ni (aW b).1 (gk b)
def jW (b:List UInt8):aa:=if fZ b = 0 then gH (aW b).1 (gk b) else aA.zero
def vw (b:List UInt8):Int:=if fZ b = 0 then (aW b).2.1 else 0
def kA (b:List UInt8):List UInt8:=jO (aW b).1 (gk b)
def fV (w:World) (b:List UInt8):cX :=
 gL w (fun o:OV=>fZ b ≠ 0→o = ai) (fun o=>.tuple #[aA.val (wD (jW b) o),I (vw b),I (fZ b)]) (fun o=>if fZ b = 0 then [aT o.v u8E (kA b) 5] else [])
theorem midE_len (h:aa) (b:List UInt8) (he:ni h b = 0):¬ (b.length:Int) < cI h.aC:=fun hn=>by
 unfold ni at he;rw [if_pos hn] at he;exact absurd he (by decide)
theorem mX {e0:En} {w0:World} {n:Nat} {L:List Res} {b:List UInt8} {e:Int} (he:fZ b = e) (hn:e ≠ 0):∀ w,aP ⟨n,w0,dI,e0⟩ L w→fV w0 b (.returned (.tuple #[aA.val aA.zero,I 0,I e])) w:=by
 subst he;exact ln ai (fun _=>rfl) (by unfold jW vw; rw [if_neg hn,if_neg hn]; rfl) (by rw [if_neg hn]; exact List.nil_sublist _)
theorem j4 (h:aa):h.src.v6 = true ∧ bD h = 40 ∨ h.src.v6 = false ∧ bD h = 20:=by unfold bD; cases h.src.v6 <;> simp
theorem read_ok (v:Value) (b:List UInt8) (w:World) (hb:aO u8E w v b):Gx.Calls Tryz.prog 32 #[v] w (fV w b):=by
 have hfc:=j4 (aW b).1;have hbl:=hb.le;have hfl:bD ((ah.id aA).get ((ah.id aA).set aA.zero (aW b).fst)) = bD (aW b).1:=rfl;refine en0 69 Tryz.func32 (fun _ _=>?_);refine sg (cons (alloc z85 (fun b1=>?_)));refine ac (I 0) ?_;refine ac (I 0) ?_;refine nP (sg (mv rfl (cons (aQ eN (o1 rfl) (fun w I=>fronted_ok _ b w (hb.aV I.keeps)) ?_))));refine mv rfl (cx rfl rfl (cx rfl rfl (cx rfl rfl (cons (alloc z85 (fun b2=>?_))))));refine cons (stv cJ (ah.id _) (.t rfl) (.t rfl) ?_);refine asn rfl (asn rfl (nP (seq (sg (mv rfl (co (Ev.dS (.t rfl) (.c rfl)) ?_))))));refine nP ?_;refine cnd rfl (fun h0=>?_) (fun h0=>?_)
 ·have h0:((aW b).2.2 ≠ 0):=h0;refine sg (co (Ev.bu (fs:=_) (places:=[(0,17),(17,17),(34,1),(35,1),(36,1),(37,1),(38,1),(39,1),(40,1),(41,1),(42,1)]) z85 rfl Y85 zk .nil ay.nil) ?_);refine mv rfl (cons (stv cJ (ah.id _) (.t rfl) (.t rfl) ?_));refine ac (I 0) ?_;refine asn rfl (nP (ret (pR (done rfl (.cellP rfl cJ (br zm (ah.id _)) (.tmp rfl (.tmp rfl .nil))) (fun w I=>?_)))));exact mX (by unfold fZ; rw [if_pos h0]) h0 w I
 ·have h0:¬ ((aW b).2.2 ≠ 0):=fun k=>k h0
  refine skip (pN (sg (co (Ev.ldv cJ (.t rfl) (ah.id _)) ?_)));refine cons (aQ eN (o1 rfl) (fun w I=>front_ok _ w) ?_);refine asn rfl (nP (seq (block (sg (mv rfl (mv rfl (co (Ev.cj (.t rfl) (.t rfl)) ?_)))))));refine mv rfl (cg rfl rfl (Ev.move (.t rfl)) ?_);refine cg rfl rfl (Ev.ir (.g rfl id) (.c rfl)) ?_;refine co (Ev.pkO (.t rfl) rfl) ?_;refine asn rfl (nP ?_);refine cnd rfl (fun h1=>?_) (fun h1=>?_)
  ·have h1:((aW b).2.1 < bD (aW b).1 ∨ 2048 < (aW b).2.1):=h1;refine sg (co (Ev.bu (fs:=_) (places:=[(0,17),(17,17),(34,1),(35,1),(36,1),(37,1),(38,1),(39,1),(40,1),(41,1),(42,1)]) z85 rfl Y85 zk .nil ay.nil) ?_);refine cons (stv cJ (ah.id _) (.t rfl) (.t rfl) ?_);refine ac (I 0) ?_;refine ac (I 161) ?_;refine nP (ret (bR (pR (done rfl (.cellP rfl cJ (br zm (ah.id _)) (.tmp rfl (.tmp rfl .nil))) (fun w I=>?_)))));exact mX (by unfold fZ; rw [if_neg h0,if_pos h1]) (by decide) w I
  ·have h1:¬ ((aW b).2.1 < bD (aW b).1 ∨ 2048 < (aW b).2.1):=fun k=>k.elim h1.1 h1.2
   refine sg (mv rfl (co (Ev.len Y48 (.t rfl) zf) ?_));refine mv rfl (co (Ev.cj (.t rfl) (.t rfl)) ?_);refine asn rfl (nP ?_);refine cnd rfl (fun h2=>?_) (fun h2=>?_)
   ·have h2:((b.length:Int) < (aW b).2.1):=h2;refine sg (co (Ev.bu (fs:=_) (places:=[(0,17),(17,17),(34,1),(35,1),(36,1),(37,1),(38,1),(39,1),(40,1),(41,1),(42,1)]) z85 rfl Y85 zk .nil ay.nil) ?_);refine cons (stv cJ (ah.id _) (.t rfl) (.t rfl) ?_);refine ac (I 0) ?_;refine ac (I 160) ?_;refine nP (ret (bR (pR (done rfl (.cellP rfl cJ (br zm (ah.id _)) (.tmp rfl (.tmp rfl .nil))) (fun w I=>?_)))));exact mX (by unfold fZ; rw [if_neg h0,if_neg h1,if_pos h2]) (by decide) w I
   ·have h2:¬ ((b.length:Int) < (aW b).2.1):=h2;refine seq (dA zk ?_);refine tk 0 rfl (fA 0 (.t rfl)) ?_;refine tk 1 rfl (fA 0 (.t rfl)) ?_;refine tk 2 rfl (Ev.ldv ty4 (.t rfl) (ah.comp aa.eF aG.jP)) ?_;refine tk 3 rfl (Ev.not (.t rfl)) ?_;refine tm 4 rfl rfl ?_;refine tkg 5 rfl rfl rfl (Ev.ldv cJ (.t rfl) (ah.id _)) ?_;refine tkg 6 rfl rfl rfl (Ev.move (.t rfl)) ?_;refine tkg 7 rfl rfl rfl (Ev.move (.t rfl)) ?_;refine tkg 8 rfl rfl rfl (Ev.jV (.g rfl id) (.g rfl id) (fun _=>by first | omega | (rename_i hg; simp at hg; omega))) ?_;refine tkg 10 rfl rfl rfl (Ev.move (.t rfl)) ?_;refine tkg 11 rfl rfl rfl (Ev.move (.t rfl)) ?_;refine tkg 12 rfl rfl rfl (Ev.qu Y48 ty5 (.g rfl id) (.g rfl id) zf (fun _=>by first | omega | (rename_i hg; simp at hg; omega))) ?_;refine al1 9 rfl ((callgo rfl rfl eN (.cons (.g rfl id) (.cons (.g rfl id) .nil)) (fun hg w I=>head_ok _ _ w (by omega)) (fun v3=>?_)));refine hdn (al1 13 rfl ((iM rfl rfl eN (.cons (.g rfl id) (.cons (.g rfl id) .nil)) (fun hg w I=>equal_ok _ _ _ _ w (isSl_gd zm hg w I) (aO.sub (hb.aV I.keeps) (by omega) (by omega))) ?_)));refine hdn (tkg 14 rfl rfl rfl (Ev.not (.g rfl id)) ?_);refine tk 15 rfl (Ev.pkA (.t rfl) rfl) ?_;refine tk 16 rfl (Ev.assign (.t rfl)) ?_;refine ovr (pN ?_);refine cnd rfl (fun h3=>?_) (fun h3=>?_)
    ·have h3:((aW b).1.src.v6 = false ∧ iq (aW b).1 ((aW b).2.1 - bD (aW b).1) ≠ b.take (bD (aW b).1).toNat):=h3;refine sg (co (Ev.bu (fs:=_) (places:=[(0,17),(17,17),(34,1),(35,1),(36,1),(37,1),(38,1),(39,1),(40,1),(41,1),(42,1)]) z85 rfl Y85 zk .nil ay.nil) ?_);refine cons (stv cJ (ah.id _) (.t rfl) (.t rfl) ?_);refine ac (I 0) ?_;refine ac (I 162) ?_;refine nP (ret (bR (pR (done rfl (.cellP rfl cJ (br zm (ah.id _)) (.tmp rfl (.tmp rfl .nil))) (fun w I=>?_)))));exact mX (by unfold fZ; rw [if_neg h0,if_neg h1,if_neg h2,if_pos h3]) (by decide) w I
    ·have h3:¬ ((aW b).1.src.v6 = false ∧ iq (aW b).1 ((aW b).2.1 - bD (aW b).1) ≠ b.take (bD (aW b).1).toNat):=by
      rintro ⟨k1,k2⟩
      rcases h3 with k | k
      ·have k0:(aW b).1.src.v6 = true:=k;rw [k1] at k0;cases k0
      ·exact k2 k
     have e3:fZ b = ni (aW b).1 (gk b):=by unfold fZ; rw [if_neg h0,if_neg h1,if_neg h2,if_neg h3]
     refine skip (bN (pN (seq (seq (lO 5 rfl zr zk ?_)))));refine tm 1 rfl rfl ?_;refine tm 2 rfl rfl ?_;refine tm 3 rfl rfl ?_;refine tk 4 rfl (Ev.slice Y48 ty5 (.t rfl) (.t rfl) (.t rfl) zf (fun _=>zo)) ?_;refine al1 0 rfl ((opv (Ev.ldv cJ (.t rfl) (ah.id _)) ?_));refine hdn (al1 5 rfl ((dB (X:=OV) (fun o:OV=>((gk b).length:Int) < cI (aW b).1.aC→o = (aW b).1.data) (fun o=>.tuple #[aA.val (wD (if ((gk b).length:Int) < cI (aW b).1.aC then (aW b).1 else gH (aW b).1 (gk b)) o),I (ni (aW b).1 (gk b))]) (fun o=>if ((gk b).length:Int) < cI (aW b).1.aC then [] else [aT o.v u8E (jO (aW b).1 (gk b)) 5]) eN (o2 rfl rfl) (fun w I=>middled_ok (aW b).1 _ (gk b) w (aO.sub (hb.aV I.keeps) (by omega) (by omega)) (by unfold gk; simp; omega)) (fun x5 hx5=>?_))));refine hdn (tm 6 rfl rfl ?_);refine tk 7 rfl (Ev.extract (.t rfl) rfl) ?_;refine tk 8 rfl (Ev.extract (.t rfl) rfl) ?_;refine al1 9 rfl ((stv cJ (ah.id _) (.t rfl) (.t rfl) ?_));refine hdn (tk 10 rfl (Ev.assign (.t rfl)) ?_);refine ovr (pN (sg (mv rfl (co (Ev.dS (.t rfl) (.c rfl)) ?_))));refine nP ?_;refine cnd rfl (fun h4=>?_) (fun h4=>?_)
     ·refine sg (co (Ev.bu (fs:=_) (places:=[(0,17),(17,17),(34,1),(35,1),(36,1),(37,1),(38,1),(39,1),(40,1),(41,1),(42,1)]) z85 rfl Y85 zk .nil ay.nil) ?_);refine mv rfl (cons (stv cJ (ah.id _) (.t rfl) (.t rfl) ?_));refine ac (I 0) ?_;refine asn rfl (nP (ret (pR (done rfl (.cellP rfl cJ (br zm (ah.id _)) (.tmp rfl (.tmp rfl .nil))) (fun w I=>?_)))));exact mX e3 h4 w I
     ·refine skip (pN (sg (co (Ev.ldv cJ (.t rfl) (ah.id _)) ?_)));refine mv rfl (cons (stv cJ (ah.id _) (.t rfl) (.t rfl) ?_));refine asn rfl (ac (I 0) ?_);refine nP (ret (done rfl (.cellP rfl cJ (br zm (ah.id _)) (.tmp rfl (.tmp rfl .nil))) (fun w I=>?_)));have e:fZ b = 0:=by rw [e3]; exact h4
      exact ln x5 (fun hn=>absurd e hn) (by unfold jW vw; rw [if_pos e,if_pos e,e]; show jY [aA.val (wD (if ((gk b).length:Int) < cI (aW b).1.aC then (aW b).1 else gH (aW b).1 (gk b)) x5),Go.Gx.I _,Go.Gx.I 0] = _; rw [if_neg (midE_len _ _ h4)]; rfl) (by rw [if_pos e]; show (List.Sublist _ ((if _ then _ else _) ++ _)); rw [if_neg (midE_len _ _ h4)]; exact List.cons_sublist_cons.2 (List.nil_sublist _)) w I
end Go.Proofs.YtljifjflnakmoaaGreat.Oc
namespace Go.Proofs.YtljifjflnakmoaaGreat.Oc
open Go Go.Gx Go.Proofs.YtljifjflnakmoaaGreat.Tri
structure cV where
 src:aG
 dst:aG
 aC:UInt8
 bB:UInt16
 bC:UInt16
def cV.to:(aG × (aG × (UInt8 × (UInt16 × UInt16))))→cV:=fun x=>⟨x.1,x.2.1,x.2.2.1,x.2.2.2.1,x.2.2.2.2⟩
def cV.of:cV→(aG × (aG × (UInt8 × (UInt16 × UInt16)))):=fun x=>(x.src,x.dst,x.aC,x.bB,x.bC)
def mD:Enc cV:=gI (bh cz (bh cz (bh u8E (bh od od)))) cV.to cV.of
def cV.eF:ah mD cz 0:=lI cV.to cV.of l1
@[simp] theorem cV.get_src (x:cV):cV.eF.get x = x.src:=rfl
@[simp] theorem cV.set_src (x:cV) (y:aG):cV.eF.set x y = { x with src:=y }:=rfl
def cV.fx:ah mD cz 17:=lI cV.to cV.of (l2 l1)
@[simp] theorem cV.get_dst (x:cV):cV.fx.get x = x.dst:=rfl
@[simp] theorem cV.set_dst (x:cV) (y:aG):cV.fx.set x y = { x with dst:=y }:=rfl
def cV.bS:ah mD u8E 34:=lI cV.to cV.of (l2 (l2 l1))
@[simp] theorem cV.vS (x:cV):cV.bS.get x = x.aC:=rfl
@[simp] theorem cV.set_proto (x:cV) (y:UInt8):cV.bS.set x y = { x with aC:=y }:=rfl
def cV.cS:ah mD od 35:=lI cV.to cV.of (l2 (l2 (l2 l1)))
@[simp] theorem cV.rA (x:cV):cV.cS.get x = x.bB:=rfl
@[simp] theorem cV.ri (x:cV) (y:UInt16):cV.cS.set x y = { x with bB:=y }:=rfl
def cV.cT:ah mD od 36:=lI cV.to cV.of (l2 (l2 (l2 (l2 (ah.id _)))))
@[simp] theorem cV.rB (x:cV):cV.cT.get x = x.bC:=rfl
@[simp] theorem cV.rj (x:cV) (y:UInt16):cV.cT.set x y = { x with bC:=y }:=rfl
def backK (k:cV):cV:={ src:=k.dst,dst:=k.src,aC:=k.aC,bB:=k.bC,bC:=k.bB }
def ofK (h:aa):cV :=
 if h.aC = 6 ∨ h.aC = 17 then { src:=h.src,dst:=h.dst,aC:=h.aC,bB:=h.bB,bC:=h.bC }
 else { src:=h.src,dst:=h.dst,aC:=h.aC,bB:=0,bC:=0 }
theorem z93:zI 93 mD:=kI
theorem ty93:tyI 93 mD:=tyP
theorem tA (h:aa) (w:World):Gx.Calls Tryz.prog 25 #[aA.val h] w (bG w (mD.val (ofK h))):=by
 refine en0 26 Tryz.func25 (fun _ _=>?_);refine sg (cons (box (E:=aA) (.t rfl) (fun b1=>?_)));refine cons (alloc z93 (fun b2=>?_));refine nP (sg (cf 0 rfl ?_));refine co (Ev.ldx h.src eM (.t rfl) aa.eF) ?_;refine cf 17 rfl ?_;refine co (Ev.ldx h.dst eM (.t rfl) aa.fx) ?_;refine cf 34 rfl ?_;refine co (Ev.ldx h.aC ty5 (.t rfl) aa.bS) ?_;refine co (Ev.bu (fs:=_) (places:=[(0,17),(17,17),(34,1),(35,1),(36,1)]) z93 rfl Tryz.underlying93 zk (.cons (.t rfl) (.cons (.t rfl) (.cons (.t rfl) .nil))) (ay.cons cV.eF rfl (ay.cons cV.fx rfl (ay.cons cV.bS rfl ay.nil)))) ?_;refine cons (alloc z93 (fun b3=>?_));refine cons (stv ty93 (ah.id _) (.t rfl) (.t rfl) ?_);refine nP (seq (sg (cf 34 rfl ?_)));refine co (Ev.ldx h.aC ty5 (.t rfl) aa.bS) ?_;refine co (Ev.jQ (.t rfl) (.c (v:=U8 6) rfl)) ?_;refine mv rfl (cg rfl rfl (fA 34 (.t rfl)) ?_);refine cg rfl rfl (Ev.ldx h.aC ty5 (.g rfl id) aa.bS) ?_;refine cg rfl rfl (Ev.jQ (.g rfl id) (.c (v:=U8 17) rfl)) ?_;refine co (Ev.pkO (.t rfl) rfl) ?_;refine nP ?_;refine cnd rfl (fun h0=>?_) (fun h0=>?_)
 ·refine lO 3 rfl zr zk ?_;refine tk 0 rfl (fA 35 (.t rfl)) ?_;refine tk 1 rfl (Ev.ldx h.bB iW (.t rfl) aa.cS) ?_;refine tk 2 rfl (fA 36 (.t rfl)) ?_;refine tk 3 rfl (Ev.ldx h.bC iW (.t rfl) aa.cT) ?_;refine tk 4 rfl (fA 35 (.t rfl)) ?_;refine al1 5 rfl ((stv iW cV.cS (.t rfl) (.t rfl) ?_));refine hdn (tk 6 rfl (fA 36 (.t rfl)) ?_);refine al1 7 rfl ((stv iW cV.cT (.t rfl) (.t rfl) ?_));refine hdn (ovr (pN (sg (co (Ev.ldv ty93 (.t rfl) (ah.id _)) ?_))));exact s43
 ·refine skip (pN (sg (co (Ev.ldv ty93 (.t rfl) (ah.id _)) ?_)));exact s43
end Go.Proofs.YtljifjflnakmoaaGreat.Oc
namespace Go.Proofs.YtljifjflnakmoaaGreat.Oc
open Go Go.Gx Go.Proofs.YtljifjflnakmoaaGreat.Tri
def tZ (a:aG):List UInt8:=(if a.v6 = true then 1 else 0) :: a.b.toList
def keyB (k:cV):List UInt8:=tZ k.src ++ tZ k.dst ++ [k.aC] ++ dc 2 k.bB.toUInt64 ++ dc 2 k.bC.toUInt64
theorem putB_one (v:UInt8):dc 1 v.toUInt64 = [v]:=by
 have e:(dR v.toUInt64 (8 * 0)).toUInt8 = v:=by
  apply UInt8.toNat_inj.1;have h:=v.toNat_lt;simp [bU]
 show [(dR v.toUInt64 (8 * 0)).toUInt8] = [v];rw [e]
theorem addr_step (a:aG) (v:UInt8) (h:v = if a.v6 = true then 1 else 0):dc 1 v.toUInt64 ++ (a.b.toList.take 16).drop 0 = tZ a:=by
 rw [putB_one,List.drop_zero,List.take_of_length_le (by simp),h]
 rfl
theorem take_flat {α:Type} (f:α→List UInt8) (l:List α) (i:Int) (h0:0 ≤ i) (h1:i < l.length) (z:α):(l.take (i + 1).toNat).flatMap f = (l.take i.toNat).flatMap f ++ f (l.getD i.toNat z):=by
 have e:(i + 1).toNat = i.toNat + 1:=by omega
 have h2:i.toNat < l.length:=by omega
 rw [e,List.take_succ_eq_append_getElem h2,List.flatMap_append];simp [List.getD,h2]
theorem z281:zI 281 (fN 2 cz):=kI
theorem bytes_ok (k:cV) (w:World):Gx.Calls Tryz.prog 135 #[mD.val k] w (mE w u8E (keyB k) 5):=by
 refine en0 38 Tryz.func135 (fun _ _=>?_);refine sg (cons (box (E:=mD) (.t rfl) (fun b1=>?_)));refine ac (.slice none 0 0) ?_;refine nP (sg (ac (.slice none 0 0) ?_));refine nP (seq (sg (cf 0 rfl ?_)));refine co (Ev.ldx k.src eM (.t rfl) cV.eF) ?_;refine cf 17 rfl ?_;refine co (Ev.ldx k.dst eM (.t rfl) cV.fx) ?_;refine co (Ev.buildA z281 Tryz.underlying281 eM (.cons (.t rfl) (.cons (.t rfl) .nil)) (ay.cons (jd cz 0 (by decide)) rfl (ay.cons (jd cz 1 (by decide)) rfl ay.nil))) ?_;refine co (Ev.move (.c rfl)) ?_;refine nP (block (dD u8E 5 ?_));refine lp (X:=Int × OV × (List UInt8)) (fun x=>(0 ≤ x.1 ∧ x.1 ≤ 2) ∧ (x.2.2 = ([k.src,k.dst].take x.1.toNat).flatMap tZ) ∧ (x.2.2.length = 17 * x.1.toNat)) (fun x=>[dz,(1,true,pvb b1),(3,true,x.2.1.v),(11,true,(fN 2 cz).val #v[k.src,k.dst]),(12,true,I x.1)]) (fun x=>[aT x.2.1.v u8E x.2.2 5,Var b1 mD k 93]) (fun x=>(2 - x.1).toNat) (0,ai,[]) ⟨?_,?_,?_⟩ (fun x hx=>?_)
 ·omega
 ·rfl
 ·rfl
 obtain ⟨i,o,xs⟩:=x;dsimp only at hx;obtain ⟨hi,hx,hl⟩:=hx;refine sg (co (Ev.cj (.t rfl) (.c rfl)) ?_);refine nP (seq ?_);refine cnd rfl (fun hlt=>?_) (fun hge=>?_)
 ·refine skip (pN (seq (block (sg ?_))));have hil:i.toNat < 2:=by omega
  refine co (Ev.indexA Tryz.underlying281 eM (.t rfl) (.t rfl) (fun _=>zo)) ?_;refine cons (alloc z81 (fun b2=>?_));refine cons (stv eM (ah.id _) (.t rfl) (.t rfl) ?_);refine nP (sg (ac (U8 0) ?_));refine nP (seq (sg (cf 0 rfl ?_)));refine co (Ev.ldv ty4 (.t rfl) aG.jP) ?_;refine nP ?_;refine cnd rfl (fun ha=>?_) (fun ha=>?_)
  ·refine region (mv rfl (co (Ev.add_u8 (.t rfl) (.c (v:=U8 1) rfl)) ?_));refine asn rfl (nP (dA zk ?_));exact s10
  ·refine skip (pN (dA zk ?_));exact s10
 ·refine exit (pX (pX (bX (pN (sg (mv rfl (cf 34 rfl ?_)))))));refine co (Ev.ldx k.aC ty5 (.t rfl) cV.bS) ?_;refine cons (dY eN (o2 rfl rfl) (fun w I=>pF _ _ _ w (zj w I) (by first | assumption | omega | (simp [aK]; done) | (simp [aK]; omega))) (fun v7=>?_));refine asn rfl (nP (sg (mv rfl (cf 35 rfl ?_))));refine co (Ev.ldx k.bB iW (.t rfl) cV.cS) ?_;refine cons (dY eN (o2 rfl rfl) (fun w I=>c7 _ _ _ w (zj w I) (by first | assumption | omega | (simp [aK]; done) | (simp [aK]; omega))) (fun v8=>?_));refine asn rfl (nP (sg (mv rfl (cf 36 rfl ?_))));refine co (Ev.ldx k.bC iW (.t rfl) cV.cT) ?_;refine cons (dY eN (o2 rfl rfl) (fun w I=>c7 _ _ _ w (zj w I) (by first | assumption | omega | (simp [aK]; done) | (simp [aK]; omega))) (fun v9=>?_));refine asn rfl (nP (ret (done rfl (.tmp rfl .nil) (oB zm ?_))));have e:i.toNat = 2:=by omega
  rw [e] at hx;rw [hx,putB_one]; simp [keyB]
end Go.Proofs.YtljifjflnakmoaaGreat.Oc
namespace Go.Proofs.YtljifjflnakmoaaGreat.Oc
open Go Go.Gx Go.Proofs.YtljifjflnakmoaaGreat.Tri
theorem putB_two (v:UInt16):dc 2 v.toUInt64 = [(v / 256).toUInt8,(v % 256).toUInt8]:=by
 have h:=v.toNat_lt;have e1:(dR v.toUInt64 (8 * 1)).toUInt8 = (v / 256).toUInt8:=by
  apply UInt8.toNat_inj.1;simp [bU,UInt16.toNat_div]
 have e2:(dR v.toUInt64 (8 * 0)).toUInt8 = (v % 256).toUInt8:=by
  apply UInt8.toNat_inj.1;simp [bU,UInt16.toNat_mod]
 show [(dR v.toUInt64 (8 * 1)).toUInt8,(dR v.toUInt64 (8 * 0)).toUInt8] = _;rw [e1,e2]
end Go.Proofs.YtljifjflnakmoaaGreat.Oc
