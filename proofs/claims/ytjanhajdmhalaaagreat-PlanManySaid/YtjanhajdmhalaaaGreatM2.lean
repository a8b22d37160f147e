/- Part. -/
import Derived.Test.YtjanhajdmhalaaaGreatM1
set_option linter.unusedVariables false
set_option linter.unusedSimpArgs false
set_option linter.unusedSectionVars false
namespace Go.Proofs.YtjanhajdmhalaaaGreat
open Go Go.Gx
structure av where
  l:OV
  at_:Int
def av.to:(OV × Int)→av:=fun x=>⟨x.1,x.2⟩
def av.of:av→(OV × Int):=fun x=>(x.l,x.at_)
def bD:Enc av:=iH (aa (ovE aw) iE) av.to av.of
def av.l_l:ak bD (ovE aw) 0:=cP _ av.to av.of (fun _=>rfl) (dF (ovE aw) iE)
@[simp] theorem av.get_l (x:av):av.l_l.get x = x.l:=rfl
@[simp] theorem av.set_l (x:av) (y:OV):av.l_l.set x y = { x with l:=y }:=rfl
def av.cA:ak bD iE 1:=cP _ av.to av.of (fun _=>rfl) (ak.comp (bg (ovE aw) iE) (ak.id iE))
@[simp] theorem av.get_at_ (x:av):av.cA.get x = x.at_:=rfl
@[simp] theorem av.set_at_ (x:av) (y:Int):av.cA.set x y = { x with at_:=y }:=rfl
structure br where
  code:Int
  at_:Int
def br.to:(Int × Int)→br:=fun x=>⟨x.1,x.2⟩
def br.of:br→(Int × Int):=fun x=>(x.code,x.at_)
def aY:Enc br:=iH (aa iE iE) br.to br.of
def br.ez:ak aY iE 0:=cP _ br.to br.of (fun _=>rfl) (dF iE iE)
@[simp] theorem br.get_code (x:br):br.ez.get x = x.code:=rfl
@[simp] theorem br.set_code (x:br) (y:Int):br.ez.set x y = { x with code:=y }:=rfl
def br.cA:ak aY iE 1:=cP _ br.to br.of (fun _=>rfl) (ak.comp (bg iE iE) (ak.id iE))
@[simp] theorem br.get_at_ (x:br):br.cA.get x = x.at_:=rfl
@[simp] theorem br.set_at_ (x:br) (y:Int):br.cA.set x y = { x with at_:=y }:=rfl
def cJ (e:Nat→Int) (d:Int):Nat→List br
  | 0=>[]
  | n + 1=>cJ e d n ++ (if e n = 0 then [] else [⟨e n,d + n⟩])
theorem aI (e:Nat→Int) (d:Int):∀ n,(cJ e d n).length ≤ n
  | 0=>Nat.le_refl _
  | n + 1=>by
    have:=aI e d n
    unfold cJ
    rw [List.length_append]
    split <;> simp <;> omega
theorem ik {e:Nat→Int} {d i:Int} (h:0 ≤ i) (he:e i.toNat = 0):cJ e d (i + 1).toNat = cJ e d i.toNat:=by
  rw [show (i + 1).toNat = i.toNat + 1 by omega,cJ,if_pos he,List.append_nil]
theorem gM {e:Nat→Int} {d i:Int} (h:0 ≤ i) (he:¬ e i.toNat = 0):cJ e d (i + 1).toNat = cJ e d i.toNat ++ [⟨e i.toNat,d + i⟩]:=by
  rw [show (i + 1).toNat = i.toNat + 1 by omega,cJ,if_neg he]
  have:((i.toNat:Nat):Int) = i:=by omega
  rw [this]
def bJ (e:Nat→Int) (d:Int) (n most:Nat):List br:=cJ e d (min n most) ++ (if most < n then [⟨4,d + most⟩] else [])
abbrev FR (b:Nat) (o:OV) (fs:List br) (d:Int):Res:=Sep (Var b bD ⟨o,d⟩ 161) (aP o.v aY fs 173)
theorem ig {α:Type} (l:List α) (m i:Nat) (d:α) (h:i < m):(l.take m).getD i d = l.getD i d:=by simp [List.getD,List.getElem?_take,h]
theorem bY:bF Tryz.prog 112 (ovE aw):=bF.mk' zk zk
theorem dK:(Tryz.prog.info? 173).bind (·.zero) = some (aY.val aY.zero):=by kernel_rfl
theorem cj:bF Tryz.prog 173 aY:=bF.mk' zk zk
theorem ed:(Tryz.prog.info? 173).map (fun i=>(i.zero,i.bytes)) = some (some (aY.val aY.zero),16):=by kernel_rfl
theorem eb:(aY.val aY.zero).cells.size = aY.size:=by rw [Enc.cK,List.size_toArray,Enc.len]
set_option maxRecDepth 8000 in
theorem list_3 (f:Nat) (fst cap:List Value) (g:Int→Int→Int) (D:Int→Int→Prop) (b:Nat) (o:OV) (fs:List br) (d:Int) (u:Value) (xs:List Int) (most:Nat) (w:World) (hen:Gx.aC Tryz.prog f) (h:At (FR b o fs d) w) (hxs:∀ w1,aX (FR b o fs d).cI w w1→bH iE w1 u xs) (hk:FnB2 Tryz.prog f fst cap (FR b o fs d).cI w iE iE iE D g) (hD:∀ i:Nat,i < xs.length→D (xs.getD i iE.zero) i) (hd:0 ≤ d ∧ d + xs.length ≤ 4611686018427387904) (hf:fs.length + most ≤ 100000):Gx.Calls Tryz.prog 62 #[.pointer (some ⟨b,0,none⟩),u,I most,(bnd f fst cap).v] w (iZ w (FR b o fs d) (fun _:OV=>True) (fun _=>.tuple #[]) (fun o2=>FR b o2 (fs ++ bJ (fun j0:Nat=>g (xs.getD j0 iE.zero) j0) d xs.length most) (d + xs.length))):=by
  obtain ⟨m,hm⟩:∃ m:Nat,(min (xs.length:Int) (most:Int)) = (m:Int):=⟨min xs.length most,by omega⟩
  have hm2:m = min xs.length most:=by omega
  have hle:=(hxs w (aX.refl _ _)).le
  have htl:(xs.take m).length = m:=by simp; omega
  refine enter 76 [FR b o fs d] Tryz.func62 rfl rfl (Nat.le_of_ble_eq_true rfl) (iR h) (fun _ _=>?_)
  refine ju Rem.head ?_
  refine seq (sg (mv rfl (mv rfl (co (Ev.len Tryz.underlying22 (.t rfl) (fun w I=>hxs w I.keeps)) ?_))))
  refine mv rfl (co (Ev.to (v':=I ((m:Nat):Int)) (Ev.oV (.t rfl) (.t rfl)) (by rw [hm])) ?_)
  refine co (Ev.lR Tryz.underlying22 ty3 (.t rfl) (.t rfl) (fun w I=>hxs w I.keeps) (fun _=>zo)) ?_
  refine co (Ev.len Tryz.underlying22 (.t rfl) (fun w I=>by have:=(hxs w I.keeps).sub (l:=0) (k:=m) (by omega) (by omega); simpa using this)) ?_
  refine co (Ev.move (.c (v:=I 0) rfl)) ?_
  refine nP (block (lp (X:=Int × OV) (fun x:Int × OV=>(0 ≤ x.1 ∧ x.1 ≤ m)) (fun x:Int × OV=>[dz,(0,true,.pointer (some ⟨b,0,none⟩)),(1,true,u),(2,true,I most),(3,true,(bnd f fst cap).v),(16,true,iu iE.size u 0 m),(17,true,I (xs.take m).length),(18,true,I x.1)]) (fun x:Int × OV=>[Var b bD ⟨x.2,d⟩ 161,aP x.2.v aY (fs ++ cJ (fun j0:Nat=>g (xs.getD j0 iE.zero) j0) d x.1.toNat) 173]) (fun x:Int × OV=>((m:Int) - x.1).toNat) (0,o) ?_ (fun x hx=>?_) (hL:=(by simp only [show (0:Int).toNat = 0 from rfl,cJ,List.append_nil]; repeat first | exact sR | exact sN | apply sC | apply sS | apply sA))))
  · omega
  obtain ⟨i,q⟩:=x
  have hi:0 ≤ i ∧ i ≤ m:=hx
  clear hx
  show Sat _ _ [dz,(0,true,.pointer (some ⟨b,0,none⟩)),(1,true,u),(2,true,I most),(3,true,(bnd f fst cap).v),(16,true,iu iE.size u 0 m),(17,true,I (xs.take m).length),(18,true,I i)] [Var b bD ⟨q,d⟩ 161,aP q.v aY (fs ++ cJ (fun j0:Nat=>g (xs.getD j0 iE.zero) j0) d i.toNat) 173]
  refine sg (co (Ev.dx (.t rfl) (.t rfl)) ?_)
  refine nP (seq ?_)
  first | refine aL rfl (fun h0=>?_) (fun h0=>?_) | refine cond rfl (fun h0=>?_) (fun h0=>?_)
  · try simp only [Gx.nb] at h0
    refine skip (pN (seq (block (sg (mv rfl (co (Ev.indexAddr Tryz.underlying22 ty3 (.t rfl) (.t rfl) (fun w I=>by have:=(hxs w I.keeps).sub (l:=0) (k:=m) (by omega) (by omega); simpa using this) (fun _=>by omega)) ?_))))))
    refine co (Ev.to (v':=iE.val (xs.getD i.toNat iE.zero)) (Ev.dp ty3 (.t rfl) (fun w I=>by have:=(hxs w I.keeps).sub (l:=0) (k:=m) (by omega) (by omega); simpa using this) (fun _=>by omega)) (congrArg iE.val (ig xs m i.toNat _ (by omega)))) ?_
    refine asn rfl (asn rfl (nP (sg (mv rfl (mv rfl (mv rfl (cons (pE (.t rfl) hen (.cons (.t rfl) (.cons (.t rfl) .nil)) (fun w I=>hk (xs.getD i.toNat iE.zero) i w (by have:=hD i.toNat (by omega); rwa [show ((i.toNat:Nat):Int) = i by omega] at this) I.keeps) ?_))))))))
    refine asn rfl (nP (sg (mv rfl (co (Ev.eX (.t rfl) (.c (v:=I 0) rfl)) ?_))))
    refine nP ?_
    first | refine aL rfl (fun h1=>?_) (fun h1=>?_) | refine cond rfl (fun h1=>?_) (fun h1=>?_)
    · try simp only [Gx.nb] at h1
      have ei:((i.toNat:Nat):Int) = i:=by omega
      have hst:=gM (e:=(fun j0:Nat=>g (xs.getD j0 iE.zero) j0)) (d:=d) hi.1 (by (try dsimp only); rw [ei]; exact h1)
      (try dsimp only at hst)
      rw [ei] at hst
      refine draw [] zk ?_
      refine tk 0 rfl (Ev.move (.t rfl)) ?_
      refine tk 1 rfl (Ev.move (.t rfl)) ?_
      refine tk 2 rfl (Ev.nilCheck (.t rfl)) ?_
      refine tk 3 rfl (fA 0 (.t rfl)) ?_
      refine tk 5 rfl (Ev.move (.t rfl)) ?_
      refine tk 6 rfl (Ev.move (.t rfl)) ?_
      refine tk 7 rfl (Ev.nilCheck (.t rfl)) ?_
      refine tk 8 rfl (fA 1 (.t rfl)) ?_
      refine tk 10 rfl (Ev.move (.t rfl)) ?_
      refine all [4,9] zk (by decide) (.cons rfl ?_ (.cons rfl ?_ .nil))
      · refine (opv (Ev.ldv bY (.t rfl) av.l_l) ?_)
        refine hdn (al1 9 rfl ((opv (Ev.ldv ty3 (.t rfl) av.cA) ?_)))
        refine hdn (tk 11 rfl (Ev.a8 (.t rfl) (.t rfl) (fun _=>by simp; omega)) ?_)
        refine tk 12 rfl (Ev.aQ (fs:=_) (places:=[(0,1),(1,1)]) dK rfl Tryz.underlying173 zk (.cons (.t rfl) (.cons (.t rfl) .nil)) (aj.cons br.ez rfl (aj.cons br.cA rfl aj.nil))) ?_
        refine al1 13 rfl ((buildSlice (E:=aY) Tryz.underlying112 cj dK (.cons (.t rfl) .nil) rfl rfl (fun v1=>?_)))
        refine hdn (al1 14 rfl ((app (E:=aY) Tryz.underlying112 cj ed eb (.t rfl) (.t rfl) (fun v2=>?_) (hby:=⟨by (show _ ≤ 9223372036854775807); have:=aI (fun j0:Nat=>g (xs.getD j0 iE.zero) j0) d i.toNat; simp only [List.length_append,List.length_cons,List.length_nil]; omega,by have:=aI (fun j0:Nat=>g (xs.getD j0 iE.zero) j0) d i.toNat; simp only [List.length_append,List.length_cons,List.length_nil]; omega⟩))))
        refine hdn (tk 15 rfl (Ev.nilCheck (.t rfl)) ?_)
        refine tk 16 rfl (fA 0 (.t rfl)) ?_
        refine al1 17 rfl ((stv bY av.l_l (.t rfl) (.t rfl) ?_))
        refine hdn (ovr (bN (pN (region (co (Ev.a8 (.t rfl) (.c (v:=I 1) rfl) (fun _=>zo)) ?_)))))
        refine mv rfl (nP (nx (X:=Int × OV) (i + 1,_) ?_ ?_ (hL:=(by rw [hst]; (try rw [← List.append_assoc]); repeat first | exact sR | exact sN | apply sC | apply sS | apply sA))))
        · try dsimp only
          omega
        · try dsimp only
          omega
      · refine (opv (Ev.ldv ty3 (.t rfl) av.cA) ?_)
        refine hdn (tk 11 rfl (Ev.a8 (.t rfl) (.t rfl) (fun _=>by simp; omega)) ?_)
        refine tk 12 rfl (Ev.aQ (fs:=_) (places:=[(0,1),(1,1)]) dK rfl Tryz.underlying173 zk (.cons (.t rfl) (.cons (.t rfl) .nil)) (aj.cons br.ez rfl (aj.cons br.cA rfl aj.nil))) ?_
        refine all [4,13] zk (by decide) (.cons rfl ?_ (.cons rfl ?_ .nil))
        · refine (opv (Ev.ldv bY (.t rfl) av.l_l) ?_)
          refine hdn (al1 13 rfl ((buildSlice (E:=aY) Tryz.underlying112 cj dK (.cons (.t rfl) .nil) rfl rfl (fun v3=>?_))))
          refine hdn (al1 14 rfl ((app (E:=aY) Tryz.underlying112 cj ed eb (.t rfl) (.t rfl) (fun v4=>?_) (hby:=⟨by (show _ ≤ 9223372036854775807); have:=aI (fun j0:Nat=>g (xs.getD j0 iE.zero) j0) d i.toNat; simp only [List.length_append,List.length_cons,List.length_nil]; omega,by have:=aI (fun j0:Nat=>g (xs.getD j0 iE.zero) j0) d i.toNat; simp only [List.length_append,List.length_cons,List.length_nil]; omega⟩))))
          refine hdn (tk 15 rfl (Ev.nilCheck (.t rfl)) ?_)
          refine tk 16 rfl (fA 0 (.t rfl)) ?_
          refine al1 17 rfl ((stv bY av.l_l (.t rfl) (.t rfl) ?_))
          refine hdn (ovr (bN (pN (region (co (Ev.a8 (.t rfl) (.c (v:=I 1) rfl) (fun _=>zo)) ?_)))))
          refine mv rfl (nP (nx (X:=Int × OV) (i + 1,_) ?_ ?_ (hL:=(by rw [hst]; (try rw [← List.append_assoc]); repeat first | exact sR | exact sN | apply sC | apply sS | apply sA))))
          · try dsimp only
            omega
          · try dsimp only
            omega
        · refine (buildSlice (E:=aY) Tryz.underlying112 cj dK (.cons (.t rfl) .nil) rfl rfl (fun v5=>?_))
          refine hdn (al1 4 rfl ((opv (Ev.ldv bY (.t rfl) av.l_l) ?_)))
          refine hdn (al1 14 rfl ((app (E:=aY) Tryz.underlying112 cj ed eb (.t rfl) (.t rfl) (fun v6=>?_) (hby:=⟨by (show _ ≤ 9223372036854775807); have:=aI (fun j0:Nat=>g (xs.getD j0 iE.zero) j0) d i.toNat; simp only [List.length_append,List.length_cons,List.length_nil]; omega,by have:=aI (fun j0:Nat=>g (xs.getD j0 iE.zero) j0) d i.toNat; simp only [List.length_append,List.length_cons,List.length_nil]; omega⟩))))
          refine hdn (tk 15 rfl (Ev.nilCheck (.t rfl)) ?_)
          refine tk 16 rfl (fA 0 (.t rfl)) ?_
          refine al1 17 rfl ((stv bY av.l_l (.t rfl) (.t rfl) ?_))
          refine hdn (ovr (bN (pN (region (co (Ev.a8 (.t rfl) (.c (v:=I 1) rfl) (fun _=>zo)) ?_)))))
          refine mv rfl (nP (nx (X:=Int × OV) (i + 1,_) ?_ ?_ (hL:=(by rw [hst]; (try rw [← List.append_assoc]); repeat first | exact sR | exact sN | apply sC | apply sS | apply sA))))
          · try dsimp only
            omega
          · try dsimp only
            omega
    · try simp only [Gx.nb] at h1
      have ei:((i.toNat:Nat):Int) = i:=by omega
      have hst:=ik (e:=(fun j0:Nat=>g (xs.getD j0 iE.zero) j0)) (d:=d) hi.1 (by (try dsimp only); rw [ei]; exact h1)
      refine skip (bN (pN (region (co (Ev.a8 (.t rfl) (.c (v:=I 1) rfl) (fun _=>zo)) ?_))))
      refine mv rfl (nP (nx (X:=Int × OV) (i + 1,_) ?_ ?_ (hL:=(by rw [hst]; (try rw [← List.append_assoc]); repeat first | exact sR | exact sN | apply sC | apply sS | apply sA))))
      · try dsimp only
        omega
      · try dsimp only
        omega
  · try simp only [Gx.nb] at h0
    refine exit (pX (pX (bX (pN (cut (X:=OV) (fun x:OV=>True) (fun x:OV=>[dz,(0,true,.pointer (some ⟨b,0,none⟩)),(1,true,u)]) (fun x:OV=>[Var b bD ⟨x,d⟩ 161,aP x.v aY (fs ++ bJ (fun j0:Nat=>g (xs.getD j0 iE.zero) j0) d xs.length most) 173]) ?_ (fun x hx=>?_))))))
    · refine sg ?_
      have him:i.toNat = m:=by omega
      rw [him]
      refine mv rfl (co (Ev.len Tryz.underlying22 (.t rfl) (fun w I=>hxs w I.keeps)) ?_)
      refine mv rfl (co (Ev.eJ (.t rfl) (.t rfl)) ?_)
      refine nP ?_
      first | refine aL rfl (fun h2=>?_) (fun h2=>?_) | refine cond rfl (fun h2=>?_) (fun h2=>?_)
      · try simp only [Gx.nb] at h2
        refine draw [] zk ?_
        refine tk 0 rfl (Ev.move (.t rfl)) ?_
        refine tk 1 rfl (Ev.move (.t rfl)) ?_
        refine tk 2 rfl (Ev.nilCheck (.t rfl)) ?_
        refine tk 3 rfl (fA 0 (.t rfl)) ?_
        refine tk 5 rfl (Ev.move (.t rfl)) ?_
        refine tk 6 rfl (Ev.nilCheck (.t rfl)) ?_
        refine tk 7 rfl (fA 1 (.t rfl)) ?_
        refine tk 9 rfl (Ev.move (.t rfl)) ?_
        refine all [4,8] zk (by decide) (.cons rfl ?_ (.cons rfl ?_ .nil))
        · refine (opv (Ev.ldv bY (.t rfl) av.l_l) ?_)
          refine hdn (al1 8 rfl ((opv (Ev.ldv ty3 (.t rfl) av.cA) ?_)))
          refine hdn (tk 10 rfl (Ev.a8 (.t rfl) (.t rfl) (fun _=>by simp; omega)) ?_)
          refine tk 11 rfl (Ev.aQ (fs:=_) (places:=[(0,1),(1,1)]) dK rfl Tryz.underlying173 zk (.cons (.c (v:=I 4) rfl) (.cons (.t rfl) .nil)) (aj.cons br.ez rfl (aj.cons br.cA rfl aj.nil))) ?_
          refine al1 12 rfl ((buildSlice (E:=aY) Tryz.underlying112 cj dK (.cons (.t rfl) .nil) rfl rfl (fun v7=>?_)))
          refine hdn (al1 13 rfl ((app (E:=aY) Tryz.underlying112 cj ed eb (.t rfl) (.t rfl) (fun v8=>?_) (hby:=⟨by (show _ ≤ 9223372036854775807); have:=aI (fun j0:Nat=>g (xs.getD j0 iE.zero) j0) d m; simp only [List.length_append,List.length_cons,List.length_nil]; omega,by have:=aI (fun j0:Nat=>g (xs.getD j0 iE.zero) j0) d m; simp only [List.length_append,List.length_cons,List.length_nil]; omega⟩))))
          refine hdn (tk 14 rfl (Ev.nilCheck (.t rfl)) ?_)
          refine tk 15 rfl (fA 0 (.t rfl)) ?_
          refine al1 16 rfl ((stv bY av.l_l (.t rfl) (.t rfl) ?_))
          refine hdn (ovr (pN (mt (X:=OV) (_) trivial (hL:=(by unfold bJ; rw [← hm2]; (first | rw [if_pos (by omega),← List.append_assoc] | rw [if_neg (by omega),List.append_nil]); repeat first | exact sR | exact sN | apply sC | apply sS | apply sA)))))
        · refine (opv (Ev.ldv ty3 (.t rfl) av.cA) ?_)
          refine hdn (tk 10 rfl (Ev.a8 (.t rfl) (.t rfl) (fun _=>by simp; omega)) ?_)
          refine tk 11 rfl (Ev.aQ (fs:=_) (places:=[(0,1),(1,1)]) dK rfl Tryz.underlying173 zk (.cons (.c (v:=I 4) rfl) (.cons (.t rfl) .nil)) (aj.cons br.ez rfl (aj.cons br.cA rfl aj.nil))) ?_
          refine all [4,12] zk (by decide) (.cons rfl ?_ (.cons rfl ?_ .nil))
          · refine (opv (Ev.ldv bY (.t rfl) av.l_l) ?_)
            refine hdn (al1 12 rfl ((buildSlice (E:=aY) Tryz.underlying112 cj dK (.cons (.t rfl) .nil) rfl rfl (fun v9=>?_))))
            refine hdn (al1 13 rfl ((app (E:=aY) Tryz.underlying112 cj ed eb (.t rfl) (.t rfl) (fun v10=>?_) (hby:=⟨by (show _ ≤ 9223372036854775807); have:=aI (fun j0:Nat=>g (xs.getD j0 iE.zero) j0) d m; simp only [List.length_append,List.length_cons,List.length_nil]; omega,by have:=aI (fun j0:Nat=>g (xs.getD j0 iE.zero) j0) d m; simp only [List.length_append,List.length_cons,List.length_nil]; omega⟩))))
            refine hdn (tk 14 rfl (Ev.nilCheck (.t rfl)) ?_)
            refine tk 15 rfl (fA 0 (.t rfl)) ?_
            refine al1 16 rfl ((stv bY av.l_l (.t rfl) (.t rfl) ?_))
            refine hdn (ovr (pN (mt (X:=OV) (_) trivial (hL:=(by unfold bJ; rw [← hm2]; (first | rw [if_pos (by omega),← List.append_assoc] | rw [if_neg (by omega),List.append_nil]); repeat first | exact sR | exact sN | apply sC | apply sS | apply sA)))))
          · refine (buildSlice (E:=aY) Tryz.underlying112 cj dK (.cons (.t rfl) .nil) rfl rfl (fun v11=>?_))
            refine hdn (al1 4 rfl ((opv (Ev.ldv bY (.t rfl) av.l_l) ?_)))
            refine hdn (al1 13 rfl ((app (E:=aY) Tryz.underlying112 cj ed eb (.t rfl) (.t rfl) (fun v12=>?_) (hby:=⟨by (show _ ≤ 9223372036854775807); have:=aI (fun j0:Nat=>g (xs.getD j0 iE.zero) j0) d m; simp only [List.length_append,List.length_cons,List.length_nil]; omega,by have:=aI (fun j0:Nat=>g (xs.getD j0 iE.zero) j0) d m; simp only [List.length_append,List.length_cons,List.length_nil]; omega⟩))))
            refine hdn (tk 14 rfl (Ev.nilCheck (.t rfl)) ?_)
            refine tk 15 rfl (fA 0 (.t rfl)) ?_
            refine al1 16 rfl ((stv bY av.l_l (.t rfl) (.t rfl) ?_))
            refine hdn (ovr (pN (mt (X:=OV) (_) trivial (hL:=(by unfold bJ; rw [← hm2]; (first | rw [if_pos (by omega),← List.append_assoc] | rw [if_neg (by omega),List.append_nil]); repeat first | exact sR | exact sN | apply sC | apply sS | apply sA)))))
      · try simp only [Gx.nb] at h2
        refine skip (pN (mt (X:=OV) (_) trivial (hL:=(by unfold bJ; rw [← hm2]; (first | rw [if_pos (by omega),← List.append_assoc] | rw [if_neg (by omega),List.append_nil]); repeat first | exact sR | exact sN | apply sC | apply sS | apply sA))))
    obtain ⟨q2,rfl⟩:∃ y,y = x:=⟨x,rfl⟩
    show Sat _ _ [dz,(0,true,.pointer (some ⟨b,0,none⟩)),(1,true,u)] [Var b bD ⟨q2,d⟩ 161,aP q2.v aY (fs ++ bJ (fun j0:Nat=>g (xs.getD j0 iE.zero) j0) d xs.length most) 173]
    refine region (mv rfl (co (Ev.nilCheck (.t rfl)) ?_))
    refine co (fA 1 (.t rfl)) ?_
    refine co (Ev.ldv ty3 (.t rfl) av.cA) ?_
    refine mv rfl (co (Ev.len Tryz.underlying22 (.t rfl) (fun w I=>hxs w I.keeps)) ?_)
    refine co (Ev.a8 (.t rfl) (.t rfl) (fun _=>by simp; omega)) ?_
    refine co (Ev.nilCheck (.t rfl)) ?_
    refine co (fA 1 (.t rfl)) ?_
    refine cons (stv ty3 av.cA (.t rfl) (.t rfl) ?_)
    refine nil (mR rfl .nil (fun w I=>?_))
    exact retR (r':=fun o2=>FR b o2 (fs ++ bJ (fun j0:Nat=>g (xs.getD j0 iE.zero) j0) d xs.length most) (d + xs.length)) _ trivial rfl (List.mem_singleton_self _) w (bh.lz (I.sub zs))
set_option maxRecDepth 8000 in
theorem list_111 (f:Nat) (fst cap:List Value) (g:aU→Int→Int) (D:aU→Int→Prop) (b:Nat) (o:OV) (fs:List br) (d:Int) (u:Value) (xs:List aU) (most:Nat) (w:World) (hen:Gx.aC Tryz.prog f) (h:At (FR b o fs d) w) (hxs:∀ w1,aX (FR b o fs d).cI w w1→bH aA w1 u xs) (hk:FnB2 Tryz.prog f fst cap (FR b o fs d).cI w aA iE iE D g) (hD:∀ i:Nat,i < xs.length→D (xs.getD i aA.zero) i) (hd:0 ≤ d ∧ d + xs.length ≤ 4611686018427387904) (hf:fs.length + most ≤ 100000):Gx.Calls Tryz.prog 64 #[.pointer (some ⟨b,0,none⟩),u,I most,(bnd f fst cap).v] w (iZ w (FR b o fs d) (fun _:OV=>True) (fun _=>.tuple #[]) (fun o2=>FR b o2 (fs ++ bJ (fun j0:Nat=>g (xs.getD j0 aA.zero) j0) d xs.length most) (d + xs.length))):=by
  obtain ⟨m,hm⟩:∃ m:Nat,(min (xs.length:Int) (most:Int)) = (m:Int):=⟨min xs.length most,by omega⟩
  have hm2:m = min xs.length most:=by omega
  have hle:=(hxs w (aX.refl _ _)).le
  have htl:(xs.take m).length = m:=by simp; omega
  refine enter 76 [FR b o fs d] Tryz.func64 rfl rfl (Nat.le_of_ble_eq_true rfl) (iR h) (fun _ _=>?_)
  refine ju Rem.head ?_
  refine seq (sg (mv rfl (mv rfl (co (Ev.len Tryz.underlying23 (.t rfl) (fun w I=>hxs w I.keeps)) ?_))))
  refine mv rfl (co (Ev.to (v':=I ((m:Nat):Int)) (Ev.oV (.t rfl) (.t rfl)) (by rw [hm])) ?_)
  refine co (Ev.lR Tryz.underlying23 de (.t rfl) (.t rfl) (fun w I=>hxs w I.keeps) (fun _=>zo)) ?_
  refine co (Ev.len Tryz.underlying23 (.t rfl) (fun w I=>by have:=(hxs w I.keeps).sub (l:=0) (k:=m) (by omega) (by omega); simpa using this)) ?_
  refine co (Ev.move (.c (v:=I 0) rfl)) ?_
  refine nP (block (lp (X:=Int × OV) (fun x:Int × OV=>(0 ≤ x.1 ∧ x.1 ≤ m)) (fun x:Int × OV=>[dz,(0,true,.pointer (some ⟨b,0,none⟩)),(1,true,u),(2,true,I most),(3,true,(bnd f fst cap).v),(16,true,iu aA.size u 0 m),(17,true,I (xs.take m).length),(18,true,I x.1)]) (fun x:Int × OV=>[Var b bD ⟨x.2,d⟩ 161,aP x.2.v aY (fs ++ cJ (fun j0:Nat=>g (xs.getD j0 aA.zero) j0) d x.1.toNat) 173]) (fun x:Int × OV=>((m:Int) - x.1).toNat) (0,o) ?_ (fun x hx=>?_) (hL:=(by simp only [show (0:Int).toNat = 0 from rfl,cJ,List.append_nil]; repeat first | exact sR | exact sN | apply sC | apply sS | apply sA))))
  · omega
  obtain ⟨i,q⟩:=x
  have hi:0 ≤ i ∧ i ≤ m:=hx
  clear hx
  show Sat _ _ [dz,(0,true,.pointer (some ⟨b,0,none⟩)),(1,true,u),(2,true,I most),(3,true,(bnd f fst cap).v),(16,true,iu aA.size u 0 m),(17,true,I (xs.take m).length),(18,true,I i)] [Var b bD ⟨q,d⟩ 161,aP q.v aY (fs ++ cJ (fun j0:Nat=>g (xs.getD j0 aA.zero) j0) d i.toNat) 173]
  refine sg (co (Ev.dx (.t rfl) (.t rfl)) ?_)
  refine nP (seq ?_)
  first | refine aL rfl (fun h0=>?_) (fun h0=>?_) | refine cond rfl (fun h0=>?_) (fun h0=>?_)
  · try simp only [Gx.nb] at h0
    refine skip (pN (seq (block (sg (mv rfl (co (Ev.indexAddr Tryz.underlying23 de (.t rfl) (.t rfl) (fun w I=>by have:=(hxs w I.keeps).sub (l:=0) (k:=m) (by omega) (by omega); simpa using this) (fun _=>by omega)) ?_))))))
    refine co (Ev.to (v':=aA.val (xs.getD i.toNat aA.zero)) (Ev.dp de (.t rfl) (fun w I=>by have:=(hxs w I.keeps).sub (l:=0) (k:=m) (by omega) (by omega); simpa using this) (fun _=>by omega)) (congrArg aA.val (ig xs m i.toNat _ (by omega)))) ?_
    refine cons (alloc eO (fun b1=>?_))
    refine asn rfl (cons (stv de (ak.id _) (.t rfl) (.t rfl) ?_))
    refine nP (sg (mv rfl (co (Ev.ldv de (.t rfl) (ak.id _)) ?_)))
    refine mv rfl (cons (pE (.t rfl) hen (.cons (.t rfl) (.cons (.t rfl) .nil)) (fun w I=>hk (xs.getD i.toNat aA.zero) i w (by have:=hD i.toNat (by omega); rwa [show ((i.toNat:Nat):Int) = i by omega] at this) I.keeps) ?_))
    refine asn rfl (nP (sg (mv rfl (co (Ev.eX (.t rfl) (.c (v:=I 0) rfl)) ?_))))
    refine nP ?_
    first | refine aL rfl (fun h1=>?_) (fun h1=>?_) | refine cond rfl (fun h1=>?_) (fun h1=>?_)
    · try simp only [Gx.nb] at h1
      have ei:((i.toNat:Nat):Int) = i:=by omega
      have hst:=gM (e:=(fun j0:Nat=>g (xs.getD j0 aA.zero) j0)) (d:=d) hi.1 (by (try dsimp only); rw [ei]; exact h1)
      (try dsimp only at hst)
      rw [ei] at hst
      refine draw [] zk ?_
      refine tk 0 rfl (Ev.move (.t rfl)) ?_
      refine tk 1 rfl (Ev.move (.t rfl)) ?_
      refine tk 2 rfl (Ev.nilCheck (.t rfl)) ?_
      refine tk 3 rfl (fA 0 (.t rfl)) ?_
      refine tk 5 rfl (Ev.move (.t rfl)) ?_
      refine tk 6 rfl (Ev.move (.t rfl)) ?_
      refine tk 7 rfl (Ev.nilCheck (.t rfl)) ?_
      refine tk 8 rfl (fA 1 (.t rfl)) ?_
      refine tk 10 rfl (Ev.move (.t rfl)) ?_
      refine all [4,9] zk (by decide) (.cons rfl ?_ (.cons rfl ?_ .nil))
      · refine (opv (Ev.ldv bY (.t rfl) av.l_l) ?_)
        refine hdn (al1 9 rfl ((opv (Ev.ldv ty3 (.t rfl) av.cA) ?_)))
        refine hdn (tk 11 rfl (Ev.a8 (.t rfl) (.t rfl) (fun _=>by simp; omega)) ?_)
        refine tk 12 rfl (Ev.aQ (fs:=_) (places:=[(0,1),(1,1)]) dK rfl Tryz.underlying173 zk (.cons (.t rfl) (.cons (.t rfl) .nil)) (aj.cons br.ez rfl (aj.cons br.cA rfl aj.nil))) ?_
        refine al1 13 rfl ((buildSlice (E:=aY) Tryz.underlying112 cj dK (.cons (.t rfl) .nil) rfl rfl (fun v2=>?_)))
        refine hdn (al1 14 rfl ((app (E:=aY) Tryz.underlying112 cj ed eb (.t rfl) (.t rfl) (fun v3=>?_) (hby:=⟨by (show _ ≤ 9223372036854775807); have:=aI (fun j0:Nat=>g (xs.getD j0 aA.zero) j0) d i.toNat; simp only [List.length_append,List.length_cons,List.length_nil]; omega,by have:=aI (fun j0:Nat=>g (xs.getD j0 aA.zero) j0) d i.toNat; simp only [List.length_append,List.length_cons,List.length_nil]; omega⟩))))
        refine hdn (tk 15 rfl (Ev.nilCheck (.t rfl)) ?_)
        refine tk 16 rfl (fA 0 (.t rfl)) ?_
        refine al1 17 rfl ((stv bY av.l_l (.t rfl) (.t rfl) ?_))
        refine hdn (ovr (bN (pN (region (co (Ev.a8 (.t rfl) (.c (v:=I 1) rfl) (fun _=>zo)) ?_)))))
        refine mv rfl (nP (nx (X:=Int × OV) (i + 1,_) ?_ ?_ (hL:=(by rw [hst]; (try rw [← List.append_assoc]); repeat first | exact sR | exact sN | apply sC | apply sS | apply sA))))
        · try dsimp only
          omega
        · try dsimp only
          omega
      · refine (opv (Ev.ldv ty3 (.t rfl) av.cA) ?_)
        refine hdn (tk 11 rfl (Ev.a8 (.t rfl) (.t rfl) (fun _=>by simp; omega)) ?_)
        refine tk 12 rfl (Ev.aQ (fs:=_) (places:=[(0,1),(1,1)]) dK rfl Tryz.underlying173 zk (.cons (.t rfl) (.cons (.t rfl) .nil)) (aj.cons br.ez rfl (aj.cons br.cA rfl aj.nil))) ?_
        refine all [4,13] zk (by decide) (.cons rfl ?_ (.cons rfl ?_ .nil))
        · refine (opv (Ev.ldv bY (.t rfl) av.l_l) ?_)
          refine hdn (al1 13 rfl ((buildSlice (E:=aY) Tryz.underlying112 cj dK (.cons (.t rfl) .nil) rfl rfl (fun v4=>?_))))
          refine hdn (al1 14 rfl ((app (E:=aY) Tryz.underlying112 cj ed eb (.t rfl) (.t rfl) (fun v5=>?_) (hby:=⟨by (show _ ≤ 9223372036854775807); have:=aI (fun j0:Nat=>g (xs.getD j0 aA.zero) j0) d i.toNat; simp only [List.length_append,List.length_cons,List.length_nil]; omega,by have:=aI (fun j0:Nat=>g (xs.getD j0 aA.zero) j0) d i.toNat; simp only [List.length_append,List.length_cons,List.length_nil]; omega⟩))))
          refine hdn (tk 15 rfl (Ev.nilCheck (.t rfl)) ?_)
          refine tk 16 rfl (fA 0 (.t rfl)) ?_
          refine al1 17 rfl ((stv bY av.l_l (.t rfl) (.t rfl) ?_))
          refine hdn (ovr (bN (pN (region (co (Ev.a8 (.t rfl) (.c (v:=I 1) rfl) (fun _=>zo)) ?_)))))
          refine mv rfl (nP (nx (X:=Int × OV) (i + 1,_) ?_ ?_ (hL:=(by rw [hst]; (try rw [← List.append_assoc]); repeat first | exact sR | exact sN | apply sC | apply sS | apply sA))))
          · try dsimp only
            omega
          · try dsimp only
            omega
        · refine (buildSlice (E:=aY) Tryz.underlying112 cj dK (.cons (.t rfl) .nil) rfl rfl (fun v6=>?_))
          refine hdn (al1 4 rfl ((opv (Ev.ldv bY (.t rfl) av.l_l) ?_)))
          refine hdn (al1 14 rfl ((app (E:=aY) Tryz.underlying112 cj ed eb (.t rfl) (.t rfl) (fun v7=>?_) (hby:=⟨by (show _ ≤ 9223372036854775807); have:=aI (fun j0:Nat=>g (xs.getD j0 aA.zero) j0) d i.toNat; simp only [List.length_append,List.length_cons,List.length_nil]; omega,by have:=aI (fun j0:Nat=>g (xs.getD j0 aA.zero) j0) d i.toNat; simp only [List.length_append,List.length_cons,List.length_nil]; omega⟩))))
          refine hdn (tk 15 rfl (Ev.nilCheck (.t rfl)) ?_)
          refine tk 16 rfl (fA 0 (.t rfl)) ?_
          refine al1 17 rfl ((stv bY av.l_l (.t rfl) (.t rfl) ?_))
          refine hdn (ovr (bN (pN (region (co (Ev.a8 (.t rfl) (.c (v:=I 1) rfl) (fun _=>zo)) ?_)))))
          refine mv rfl (nP (nx (X:=Int × OV) (i + 1,_) ?_ ?_ (hL:=(by rw [hst]; (try rw [← List.append_assoc]); repeat first | exact sR | exact sN | apply sC | apply sS | apply sA))))
          · try dsimp only
            omega
          · try dsimp only
            omega
    · try simp only [Gx.nb] at h1
      have ei:((i.toNat:Nat):Int) = i:=by omega
      have hst:=ik (e:=(fun j0:Nat=>g (xs.getD j0 aA.zero) j0)) (d:=d) hi.1 (by (try dsimp only); rw [ei]; exact h1)
      refine skip (bN (pN (region (co (Ev.a8 (.t rfl) (.c (v:=I 1) rfl) (fun _=>zo)) ?_))))
      refine mv rfl (nP (nx (X:=Int × OV) (i + 1,_) ?_ ?_ (hL:=(by rw [hst]; (try rw [← List.append_assoc]); repeat first | exact sR | exact sN | apply sC | apply sS | apply sA))))
      · try dsimp only
        omega
      · try dsimp only
        omega
  · try simp only [Gx.nb] at h0
    refine exit (pX (pX (bX (pN (cut (X:=OV) (fun x:OV=>True) (fun x:OV=>[dz,(0,true,.pointer (some ⟨b,0,none⟩)),(1,true,u)]) (fun x:OV=>[Var b bD ⟨x,d⟩ 161,aP x.v aY (fs ++ bJ (fun j0:Nat=>g (xs.getD j0 aA.zero) j0) d xs.length most) 173]) ?_ (fun x hx=>?_))))))
    · refine sg ?_
      have him:i.toNat = m:=by omega
      rw [him]
      refine mv rfl (co (Ev.len Tryz.underlying23 (.t rfl) (fun w I=>hxs w I.keeps)) ?_)
      refine mv rfl (co (Ev.eJ (.t rfl) (.t rfl)) ?_)
      refine nP ?_
      first | refine aL rfl (fun h2=>?_) (fun h2=>?_) | refine cond rfl (fun h2=>?_) (fun h2=>?_)
      · try simp only [Gx.nb] at h2
        refine draw [] zk ?_
        refine tk 0 rfl (Ev.move (.t rfl)) ?_
        refine tk 1 rfl (Ev.move (.t rfl)) ?_
        refine tk 2 rfl (Ev.nilCheck (.t rfl)) ?_
        refine tk 3 rfl (fA 0 (.t rfl)) ?_
        refine tk 5 rfl (Ev.move (.t rfl)) ?_
        refine tk 6 rfl (Ev.nilCheck (.t rfl)) ?_
        refine tk 7 rfl (fA 1 (.t rfl)) ?_
        refine tk 9 rfl (Ev.move (.t rfl)) ?_
        refine all [4,8] zk (by decide) (.cons rfl ?_ (.cons rfl ?_ .nil))
        · refine (opv (Ev.ldv bY (.t rfl) av.l_l) ?_)
          refine hdn (al1 8 rfl ((opv (Ev.ldv ty3 (.t rfl) av.cA) ?_)))
          refine hdn (tk 10 rfl (Ev.a8 (.t rfl) (.t rfl) (fun _=>by simp; omega)) ?_)
          refine tk 11 rfl (Ev.aQ (fs:=_) (places:=[(0,1),(1,1)]) dK rfl Tryz.underlying173 zk (.cons (.c (v:=I 4) rfl) (.cons (.t rfl) .nil)) (aj.cons br.ez rfl (aj.cons br.cA rfl aj.nil))) ?_
          refine al1 12 rfl ((buildSlice (E:=aY) Tryz.underlying112 cj dK (.cons (.t rfl) .nil) rfl rfl (fun v8=>?_)))
          refine hdn (al1 13 rfl ((app (E:=aY) Tryz.underlying112 cj ed eb (.t rfl) (.t rfl) (fun v9=>?_) (hby:=⟨by (show _ ≤ 9223372036854775807); have:=aI (fun j0:Nat=>g (xs.getD j0 aA.zero) j0) d m; simp only [List.length_append,List.length_cons,List.length_nil]; omega,by have:=aI (fun j0:Nat=>g (xs.getD j0 aA.zero) j0) d m; simp only [List.length_append,List.length_cons,List.length_nil]; omega⟩))))
          refine hdn (tk 14 rfl (Ev.nilCheck (.t rfl)) ?_)
          refine tk 15 rfl (fA 0 (.t rfl)) ?_
          refine al1 16 rfl ((stv bY av.l_l (.t rfl) (.t rfl) ?_))
          refine hdn (ovr (pN (mt (X:=OV) (_) trivial (hL:=(by unfold bJ; rw [← hm2]; (first | rw [if_pos (by omega),← List.append_assoc] | rw [if_neg (by omega),List.append_nil]); repeat first | exact sR | exact sN | apply sC | apply sS | apply sA)))))
        · refine (opv (Ev.ldv ty3 (.t rfl) av.cA) ?_)
          refine hdn (tk 10 rfl (Ev.a8 (.t rfl) (.t rfl) (fun _=>by simp; omega)) ?_)
          refine tk 11 rfl (Ev.aQ (fs:=_) (places:=[(0,1),(1,1)]) dK rfl Tryz.underlying173 zk (.cons (.c (v:=I 4) rfl) (.cons (.t rfl) .nil)) (aj.cons br.ez rfl (aj.cons br.cA rfl aj.nil))) ?_
          refine all [4,12] zk (by decide) (.cons rfl ?_ (.cons rfl ?_ .nil))
          · refine (opv (Ev.ldv bY (.t rfl) av.l_l) ?_)
            refine hdn (al1 12 rfl ((buildSlice (E:=aY) Tryz.underlying112 cj dK (.cons (.t rfl) .nil) rfl rfl (fun v10=>?_))))
            refine hdn (al1 13 rfl ((app (E:=aY) Tryz.underlying112 cj ed eb (.t rfl) (.t rfl) (fun v11=>?_) (hby:=⟨by (show _ ≤ 9223372036854775807); have:=aI (fun j0:Nat=>g (xs.getD j0 aA.zero) j0) d m; simp only [List.length_append,List.length_cons,List.length_nil]; omega,by have:=aI (fun j0:Nat=>g (xs.getD j0 aA.zero) j0) d m; simp only [List.length_append,List.length_cons,List.length_nil]; omega⟩))))
            refine hdn (tk 14 rfl (Ev.nilCheck (.t rfl)) ?_)
            refine tk 15 rfl (fA 0 (.t rfl)) ?_
            refine al1 16 rfl ((stv bY av.l_l (.t rfl) (.t rfl) ?_))
            refine hdn (ovr (pN (mt (X:=OV) (_) trivial (hL:=(by unfold bJ; rw [← hm2]; (first | rw [if_pos (by omega),← List.append_assoc] | rw [if_neg (by omega),List.append_nil]); repeat first | exact sR | exact sN | apply sC | apply sS | apply sA)))))
          · refine (buildSlice (E:=aY) Tryz.underlying112 cj dK (.cons (.t rfl) .nil) rfl rfl (fun v12=>?_))
            refine hdn (al1 4 rfl ((opv (Ev.ldv bY (.t rfl) av.l_l) ?_)))
            refine hdn (al1 13 rfl ((app (E:=aY) Tryz.underlying112 cj ed eb (.t rfl) (.t rfl) (fun v13=>?_) (hby:=⟨by (show _ ≤ 9223372036854775807); have:=aI (fun j0:Nat=>g (xs.getD j0 aA.zero) j0) d m; simp only [List.length_append,List.length_cons,List.length_nil]; omega,by have:=aI (fun j0:Nat=>g (xs.getD j0 aA.zero) j0) d m; simp only [List.length_append,List.length_cons,List.length_nil]; omega⟩))))
            refine hdn (tk 14 rfl (Ev.nilCheck (.t rfl)) ?_)
            refine tk 15 rfl (fA 0 (.t rfl)) ?_
            refine al1 16 rfl ((stv bY av.l_l (.t rfl) (.t rfl) ?_))
            refine hdn (ovr (pN (mt (X:=OV) (_) trivial (hL:=(by unfold bJ; rw [← hm2]; (first | rw [if_pos (by omega),← List.append_assoc] | rw [if_neg (by omega),List.append_nil]); repeat first | exact sR | exact sN | apply sC | apply sS | apply sA)))))
      · try simp only [Gx.nb] at h2
        refine skip (pN (mt (X:=OV) (_) trivial (hL:=(by unfold bJ; rw [← hm2]; (first | rw [if_pos (by omega),← List.append_assoc] | rw [if_neg (by omega),List.append_nil]); repeat first | exact sR | exact sN | apply sC | apply sS | apply sA))))
    obtain ⟨q2,rfl⟩:∃ y,y = x:=⟨x,rfl⟩
    show Sat _ _ [dz,(0,true,.pointer (some ⟨b,0,none⟩)),(1,true,u)] [Var b bD ⟨q2,d⟩ 161,aP q2.v aY (fs ++ bJ (fun j0:Nat=>g (xs.getD j0 aA.zero) j0) d xs.length most) 173]
    refine region (mv rfl (co (Ev.nilCheck (.t rfl)) ?_))
    refine co (fA 1 (.t rfl)) ?_
    refine co (Ev.ldv ty3 (.t rfl) av.cA) ?_
    refine mv rfl (co (Ev.len Tryz.underlying23 (.t rfl) (fun w I=>hxs w I.keeps)) ?_)
    refine co (Ev.a8 (.t rfl) (.t rfl) (fun _=>by simp; omega)) ?_
    refine co (Ev.nilCheck (.t rfl)) ?_
    refine co (fA 1 (.t rfl)) ?_
    refine cons (stv ty3 av.cA (.t rfl) (.t rfl) ?_)
    refine nil (mR rfl .nil (fun w I=>?_))
    exact retR (r':=fun o2=>FR b o2 (fs ++ bJ (fun j0:Nat=>g (xs.getD j0 aA.zero) j0) d xs.length most) (d + xs.length)) _ trivial rfl (List.mem_singleton_self _) w (bh.lz (I.sub zs))
set_option maxRecDepth 8000 in
theorem list_88 (f:Nat) (fst cap:List Value) (g:aO→Int→Int) (D:aO→Int→Prop) (b:Nat) (o:OV) (fs:List br) (d:Int) (u:Value) (xs:List aO) (most:Nat) (w:World) (hen:Gx.aC Tryz.prog f) (h:At (FR b o fs d) w) (hxs:∀ w1,aX (FR b o fs d).cI w w1→bH aG w1 u xs) (hk:FnB2 Tryz.prog f fst cap (FR b o fs d).cI w aG iE iE D g) (hD:∀ i:Nat,i < xs.length→D (xs.getD i aG.zero) i) (hd:0 ≤ d ∧ d + xs.length ≤ 4611686018427387904) (hf:fs.length + most ≤ 100000):Gx.Calls Tryz.prog 66 #[.pointer (some ⟨b,0,none⟩),u,I most,(bnd f fst cap).v] w (iZ w (FR b o fs d) (fun _:OV=>True) (fun _=>.tuple #[]) (fun o2=>FR b o2 (fs ++ bJ (fun j0:Nat=>g (xs.getD j0 aG.zero) j0) d xs.length most) (d + xs.length))):=by
  obtain ⟨m,hm⟩:∃ m:Nat,(min (xs.length:Int) (most:Int)) = (m:Int):=⟨min xs.length most,by omega⟩
  have hm2:m = min xs.length most:=by omega
  have hle:=(hxs w (aX.refl _ _)).le
  have htl:(xs.take m).length = m:=by simp; omega
  refine enter 76 [FR b o fs d] Tryz.func66 rfl rfl (Nat.le_of_ble_eq_true rfl) (iR h) (fun _ _=>?_)
  refine ju Rem.head ?_
  refine seq (sg (mv rfl (mv rfl (co (Ev.len Tryz.underlying24 (.t rfl) (fun w I=>hxs w I.keeps)) ?_))))
  refine mv rfl (co (Ev.to (v':=I ((m:Nat):Int)) (Ev.oV (.t rfl) (.t rfl)) (by rw [hm])) ?_)
  refine co (Ev.lR Tryz.underlying24 gp (.t rfl) (.t rfl) (fun w I=>hxs w I.keeps) (fun _=>zo)) ?_
  refine co (Ev.len Tryz.underlying24 (.t rfl) (fun w I=>by have:=(hxs w I.keeps).sub (l:=0) (k:=m) (by omega) (by omega); simpa using this)) ?_
  refine co (Ev.move (.c (v:=I 0) rfl)) ?_
  refine nP (block (lp (X:=Int × OV) (fun x:Int × OV=>(0 ≤ x.1 ∧ x.1 ≤ m)) (fun x:Int × OV=>[dz,(0,true,.pointer (some ⟨b,0,none⟩)),(1,true,u),(2,true,I most),(3,true,(bnd f fst cap).v),(16,true,iu aG.size u 0 m),(17,true,I (xs.take m).length),(18,true,I x.1)]) (fun x:Int × OV=>[Var b bD ⟨x.2,d⟩ 161,aP x.2.v aY (fs ++ cJ (fun j0:Nat=>g (xs.getD j0 aG.zero) j0) d x.1.toNat) 173]) (fun x:Int × OV=>((m:Int) - x.1).toNat) (0,o) ?_ (fun x hx=>?_) (hL:=(by simp only [show (0:Int).toNat = 0 from rfl,cJ,List.append_nil]; repeat first | exact sR | exact sN | apply sC | apply sS | apply sA))))
  · omega
  obtain ⟨i,q⟩:=x
  have hi:0 ≤ i ∧ i ≤ m:=hx
  clear hx
  show Sat _ _ [dz,(0,true,.pointer (some ⟨b,0,none⟩)),(1,true,u),(2,true,I most),(3,true,(bnd f fst cap).v),(16,true,iu aG.size u 0 m),(17,true,I (xs.take m).length),(18,true,I i)] [Var b bD ⟨q,d⟩ 161,aP q.v aY (fs ++ cJ (fun j0:Nat=>g (xs.getD j0 aG.zero) j0) d i.toNat) 173]
  refine sg (co (Ev.dx (.t rfl) (.t rfl)) ?_)
  refine nP (seq ?_)
  first | refine aL rfl (fun h0=>?_) (fun h0=>?_) | refine cond rfl (fun h0=>?_) (fun h0=>?_)
  · try simp only [Gx.nb] at h0
    refine skip (pN (seq (block (sg (mv rfl (co (Ev.indexAddr Tryz.underlying24 gp (.t rfl) (.t rfl) (fun w I=>by have:=(hxs w I.keeps).sub (l:=0) (k:=m) (by omega) (by omega); simpa using this) (fun _=>by omega)) ?_))))))
    refine co (Ev.to (v':=aG.val (xs.getD i.toNat aG.zero)) (Ev.dp gp (.t rfl) (fun w I=>by have:=(hxs w I.keeps).sub (l:=0) (k:=m) (by omega) (by omega); simpa using this) (fun _=>by omega)) (congrArg aG.val (ig xs m i.toNat _ (by omega)))) ?_
    refine cons (alloc z88 (fun b1=>?_))
    refine asn rfl (cons (stv gp (ak.id _) (.t rfl) (.t rfl) ?_))
    refine nP (sg (mv rfl (co (Ev.ldv gp (.t rfl) (ak.id _)) ?_)))
    refine mv rfl (cons (pE (.t rfl) hen (.cons (.t rfl) (.cons (.t rfl) .nil)) (fun w I=>hk (xs.getD i.toNat aG.zero) i w (by have:=hD i.toNat (by omega); rwa [show ((i.toNat:Nat):Int) = i by omega] at this) I.keeps) ?_))
    refine asn rfl (nP (sg (mv rfl (co (Ev.eX (.t rfl) (.c (v:=I 0) rfl)) ?_))))
    refine nP ?_
    first | refine aL rfl (fun h1=>?_) (fun h1=>?_) | refine cond rfl (fun h1=>?_) (fun h1=>?_)
    · try simp only [Gx.nb] at h1
      have ei:((i.toNat:Nat):Int) = i:=by omega
      have hst:=gM (e:=(fun j0:Nat=>g (xs.getD j0 aG.zero) j0)) (d:=d) hi.1 (by (try dsimp only); rw [ei]; exact h1)
      (try dsimp only at hst)
      rw [ei] at hst
      refine draw [] zk ?_
      refine tk 0 rfl (Ev.move (.t rfl)) ?_
      refine tk 1 rfl (Ev.move (.t rfl)) ?_
      refine tk 2 rfl (Ev.nilCheck (.t rfl)) ?_
      refine tk 3 rfl (fA 0 (.t rfl)) ?_
      refine tk 5 rfl (Ev.move (.t rfl)) ?_
      refine tk 6 rfl (Ev.move (.t rfl)) ?_
      refine tk 7 rfl (Ev.nilCheck (.t rfl)) ?_
      refine tk 8 rfl (fA 1 (.t rfl)) ?_
      refine tk 10 rfl (Ev.move (.t rfl)) ?_
      refine all [4,9] zk (by decide) (.cons rfl ?_ (.cons rfl ?_ .nil))
      · refine (opv (Ev.ldv bY (.t rfl) av.l_l) ?_)
        refine hdn (al1 9 rfl ((opv (Ev.ldv ty3 (.t rfl) av.cA) ?_)))
        refine hdn (tk 11 rfl (Ev.a8 (.t rfl) (.t rfl) (fun _=>by simp; omega)) ?_)
        refine tk 12 rfl (Ev.aQ (fs:=_) (places:=[(0,1),(1,1)]) dK rfl Tryz.underlying173 zk (.cons (.t rfl) (.cons (.t rfl) .nil)) (aj.cons br.ez rfl (aj.cons br.cA rfl aj.nil))) ?_
        refine al1 13 rfl ((buildSlice (E:=aY) Tryz.underlying112 cj dK (.cons (.t rfl) .nil) rfl rfl (fun v2=>?_)))
        refine hdn (al1 14 rfl ((app (E:=aY) Tryz.underlying112 cj ed eb (.t rfl) (.t rfl) (fun v3=>?_) (hby:=⟨by (show _ ≤ 9223372036854775807); have:=aI (fun j0:Nat=>g (xs.getD j0 aG.zero) j0) d i.toNat; simp only [List.length_append,List.length_cons,List.length_nil]; omega,by have:=aI (fun j0:Nat=>g (xs.getD j0 aG.zero) j0) d i.toNat; simp only [List.length_append,List.length_cons,List.length_nil]; omega⟩))))
        refine hdn (tk 15 rfl (Ev.nilCheck (.t rfl)) ?_)
        refine tk 16 rfl (fA 0 (.t rfl)) ?_
        refine al1 17 rfl ((stv bY av.l_l (.t rfl) (.t rfl) ?_))
        refine hdn (ovr (bN (pN (region (co (Ev.a8 (.t rfl) (.c (v:=I 1) rfl) (fun _=>zo)) ?_)))))
        refine mv rfl (nP (nx (X:=Int × OV) (i + 1,_) ?_ ?_ (hL:=(by rw [hst]; (try rw [← List.append_assoc]); repeat first | exact sR | exact sN | apply sC | apply sS | apply sA))))
        · try dsimp only
          omega
        · try dsimp only
          omega
      · refine (opv (Ev.ldv ty3 (.t rfl) av.cA) ?_)
        refine hdn (tk 11 rfl (Ev.a8 (.t rfl) (.t rfl) (fun _=>by simp; omega)) ?_)
        refine tk 12 rfl (Ev.aQ (fs:=_) (places:=[(0,1),(1,1)]) dK rfl Tryz.underlying173 zk (.cons (.t rfl) (.cons (.t rfl) .nil)) (aj.cons br.ez rfl (aj.cons br.cA rfl aj.nil))) ?_
        refine all [4,13] zk (by decide) (.cons rfl ?_ (.cons rfl ?_ .nil))
        · refine (opv (Ev.ldv bY (.t rfl) av.l_l) ?_)
          refine hdn (al1 13 rfl ((buildSlice (E:=aY) Tryz.underlying112 cj dK (.cons (.t rfl) .nil) rfl rfl (fun v4=>?_))))
          refine hdn (al1 14 rfl ((app (E:=aY) Tryz.underlying112 cj ed eb (.t rfl) (.t rfl) (fun v5=>?_) (hby:=⟨by (show _ ≤ 9223372036854775807); have:=aI (fun j0:Nat=>g (xs.getD j0 aG.zero) j0) d i.toNat; simp only [List.length_append,List.length_cons,List.length_nil]; omega,by have:=aI (fun j0:Nat=>g (xs.getD j0 aG.zero) j0) d i.toNat; simp only [List.length_append,List.length_cons,List.length_nil]; omega⟩))))
          refine hdn (tk 15 rfl (Ev.nilCheck (.t rfl)) ?_)
          refine tk 16 rfl (fA 0 (.t rfl)) ?_
          refine al1 17 rfl ((stv bY av.l_l (.t rfl) (.t rfl) ?_))
          refine hdn (ovr (bN (pN (region (co (Ev.a8 (.t rfl) (.c (v:=I 1) rfl) (fun _=>zo)) ?_)))))
          refine mv rfl (nP (nx (X:=Int × OV) (i + 1,_) ?_ ?_ (hL:=(by rw [hst]; (try rw [← List.append_assoc]); repeat first | exact sR | exact sN | apply sC | apply sS | apply sA))))
          · try dsimp only
            omega
          · try dsimp only
            omega
        · refine (buildSlice (E:=aY) Tryz.underlying112 cj dK (.cons (.t rfl) .nil) rfl rfl (fun v6=>?_))
          refine hdn (al1 4 rfl ((opv (Ev.ldv bY (.t rfl) av.l_l) ?_)))
          refine hdn (al1 14 rfl ((app (E:=aY) Tryz.underlying112 cj ed eb (.t rfl) (.t rfl) (fun v7=>?_) (hby:=⟨by (show _ ≤ 9223372036854775807); have:=aI (fun j0:Nat=>g (xs.getD j0 aG.zero) j0) d i.toNat; simp only [List.length_append,List.length_cons,List.length_nil]; omega,by have:=aI (fun j0:Nat=>g (xs.getD j0 aG.zero) j0) d i.toNat; simp only [List.length_append,List.length_cons,List.length_nil]; omega⟩))))
          refine hdn (tk 15 rfl (Ev.nilCheck (.t rfl)) ?_)
          refine tk 16 rfl (fA 0 (.t rfl)) ?_
          refine al1 17 rfl ((stv bY av.l_l (.t rfl) (.t rfl) ?_))
          refine hdn (ovr (bN (pN (region (co (Ev.a8 (.t rfl) (.c (v:=I 1) rfl) (fun _=>zo)) ?_)))))
          refine mv rfl (nP (nx (X:=Int × OV) (i + 1,_) ?_ ?_ (hL:=(by rw [hst]; (try rw [← List.append_assoc]); repeat first | exact sR | exact sN | apply sC | apply sS | apply sA))))
          · try dsimp only
            omega
          · try dsimp only
            omega
    · try simp only [Gx.nb] at h1
      have ei:((i.toNat:Nat):Int) = i:=by omega
      have hst:=ik (e:=(fun j0:Nat=>g (xs.getD j0 aG.zero) j0)) (d:=d) hi.1 (by (try dsimp only); rw [ei]; exact h1)
      refine skip (bN (pN (region (co (Ev.a8 (.t rfl) (.c (v:=I 1) rfl) (fun _=>zo)) ?_))))
      refine mv rfl (nP (nx (X:=Int × OV) (i + 1,_) ?_ ?_ (hL:=(by rw [hst]; (try rw [← List.append_assoc]); repeat first | exact sR | exact sN | apply sC | apply sS | apply sA))))
      · try dsimp only
        omega
      · try dsimp only
        omega
  · try simp only [Gx.nb] at h0
    refine exit (pX (pX (bX (pN (cut (X:=OV) (fun x:OV=>True) (fun x:OV=>[dz,(0,true,.pointer (some ⟨b,0,none⟩)),(1,true,u)]) (fun x:OV=>[Var b bD ⟨x,d⟩ 161,aP x.v aY (fs ++ bJ (fun j0:Nat=>g (xs.getD j0 aG.zero) j0) d xs.length most) 173]) ?_ (fun x hx=>?_))))))
    · refine sg ?_
      have him:i.toNat = m:=by omega
      rw [him]
      refine mv rfl (co (Ev.len Tryz.underlying24 (.t rfl) (fun w I=>hxs w I.keeps)) ?_)
      refine mv rfl (co (Ev.eJ (.t rfl) (.t rfl)) ?_)
      refine nP ?_
      first | refine aL rfl (fun h2=>?_) (fun h2=>?_) | refine cond rfl (fun h2=>?_) (fun h2=>?_)
      · try simp only [Gx.nb] at h2
        refine draw [] zk ?_
        refine tk 0 rfl (Ev.move (.t rfl)) ?_
        refine tk 1 rfl (Ev.move (.t rfl)) ?_
        refine tk 2 rfl (Ev.nilCheck (.t rfl)) ?_
        refine tk 3 rfl (fA 0 (.t rfl)) ?_
        refine tk 5 rfl (Ev.move (.t rfl)) ?_
        refine tk 6 rfl (Ev.nilCheck (.t rfl)) ?_
        refine tk 7 rfl (fA 1 (.t rfl)) ?_
        refine tk 9 rfl (Ev.move (.t rfl)) ?_
        refine all [4,8] zk (by decide) (.cons rfl ?_ (.cons rfl ?_ .nil))
        · refine (opv (Ev.ldv bY (.t rfl) av.l_l) ?_)
          refine hdn (al1 8 rfl ((opv (Ev.ldv ty3 (.t rfl) av.cA) ?_)))
          refine hdn (tk 10 rfl (Ev.a8 (.t rfl) (.t rfl) (fun _=>by simp; omega)) ?_)
          refine tk 11 rfl (Ev.aQ (fs:=_) (places:=[(0,1),(1,1)]) dK rfl Tryz.underlying173 zk (.cons (.c (v:=I 4) rfl) (.cons (.t rfl) .nil)) (aj.cons br.ez rfl (aj.cons br.cA rfl aj.nil))) ?_
          refine al1 12 rfl ((buildSlice (E:=aY) Tryz.underlying112 cj dK (.cons (.t rfl) .nil) rfl rfl (fun v8=>?_)))
          refine hdn (al1 13 rfl ((app (E:=aY) Tryz.underlying112 cj ed eb (.t rfl) (.t rfl) (fun v9=>?_) (hby:=⟨by (show _ ≤ 9223372036854775807); have:=aI (fun j0:Nat=>g (xs.getD j0 aG.zero) j0) d m; simp only [List.length_append,List.length_cons,List.length_nil]; omega,by have:=aI (fun j0:Nat=>g (xs.getD j0 aG.zero) j0) d m; simp only [List.length_append,List.length_cons,List.length_nil]; omega⟩))))
          refine hdn (tk 14 rfl (Ev.nilCheck (.t rfl)) ?_)
          refine tk 15 rfl (fA 0 (.t rfl)) ?_
          refine al1 16 rfl ((stv bY av.l_l (.t rfl) (.t rfl) ?_))
          refine hdn (ovr (pN (mt (X:=OV) (_) trivial (hL:=(by unfold bJ; rw [← hm2]; (first | rw [if_pos (by omega),← List.append_assoc] | rw [if_neg (by omega),List.append_nil]); repeat first | exact sR | exact sN | apply sC | apply sS | apply sA)))))
        · refine (opv (Ev.ldv ty3 (.t rfl) av.cA) ?_)
          refine hdn (tk 10 rfl (Ev.a8 (.t rfl) (.t rfl) (fun _=>by simp; omega)) ?_)
          refine tk 11 rfl (Ev.aQ (fs:=_) (places:=[(0,1),(1,1)]) dK rfl Tryz.underlying173 zk (.cons (.c (v:=I 4) rfl) (.cons (.t rfl) .nil)) (aj.cons br.ez rfl (aj.cons br.cA rfl aj.nil))) ?_
          refine all [4,12] zk (by decide) (.cons rfl ?_ (.cons rfl ?_ .nil))
          · refine (opv (Ev.ldv bY (.t rfl) av.l_l) ?_)
            refine hdn (al1 12 rfl ((buildSlice (E:=aY) Tryz.underlying112 cj dK (.cons (.t rfl) .nil) rfl rfl (fun v10=>?_))))
            refine hdn (al1 13 rfl ((app (E:=aY) Tryz.underlying112 cj ed eb (.t rfl) (.t rfl) (fun v11=>?_) (hby:=⟨by (show _ ≤ 9223372036854775807); have:=aI (fun j0:Nat=>g (xs.getD j0 aG.zero) j0) d m; simp only [List.length_append,List.length_cons,List.length_nil]; omega,by have:=aI (fun j0:Nat=>g (xs.getD j0 aG.zero) j0) d m; simp only [List.length_append,List.length_cons,List.length_nil]; omega⟩))))
            refine hdn (tk 14 rfl (Ev.nilCheck (.t rfl)) ?_)
            refine tk 15 rfl (fA 0 (.t rfl)) ?_
            refine al1 16 rfl ((stv bY av.l_l (.t rfl) (.t rfl) ?_))
            refine hdn (ovr (pN (mt (X:=OV) (_) trivial (hL:=(by unfold bJ; rw [← hm2]; (first | rw [if_pos (by omega),← List.append_assoc] | rw [if_neg (by omega),List.append_nil]); repeat first | exact sR | exact sN | apply sC | apply sS | apply sA)))))
          · refine (buildSlice (E:=aY) Tryz.underlying112 cj dK (.cons (.t rfl) .nil) rfl rfl (fun v12=>?_))
            refine hdn (al1 4 rfl ((opv (Ev.ldv bY (.t rfl) av.l_l) ?_)))
            refine hdn (al1 13 rfl ((app (E:=aY) Tryz.underlying112 cj ed eb (.t rfl) (.t rfl) (fun v13=>?_) (hby:=⟨by (show _ ≤ 9223372036854775807); have:=aI (fun j0:Nat=>g (xs.getD j0 aG.zero) j0) d m; simp only [List.length_append,List.length_cons,List.length_nil]; omega,by have:=aI (fun j0:Nat=>g (xs.getD j0 aG.zero) j0) d m; simp only [List.length_append,List.length_cons,List.length_nil]; omega⟩))))
            refine hdn (tk 14 rfl (Ev.nilCheck (.t rfl)) ?_)
            refine tk 15 rfl (fA 0 (.t rfl)) ?_
            refine al1 16 rfl ((stv bY av.l_l (.t rfl) (.t rfl) ?_))
            refine hdn (ovr (pN (mt (X:=OV) (_) trivial (hL:=(by unfold bJ; rw [← hm2]; (first | rw [if_pos (by omega),← List.append_assoc] | rw [if_neg (by omega),List.append_nil]); repeat first | exact sR | exact sN | apply sC | apply sS | apply sA)))))
      · try simp only [Gx.nb] at h2
        refine skip (pN (mt (X:=OV) (_) trivial (hL:=(by unfold bJ; rw [← hm2]; (first | rw [if_pos (by omega),← List.append_assoc] | rw [if_neg (by omega),List.append_nil]); repeat first | exact sR | exact sN | apply sC | apply sS | apply sA))))
    obtain ⟨q2,rfl⟩:∃ y,y = x:=⟨x,rfl⟩
    show Sat _ _ [dz,(0,true,.pointer (some ⟨b,0,none⟩)),(1,true,u)] [Var b bD ⟨q2,d⟩ 161,aP q2.v aY (fs ++ bJ (fun j0:Nat=>g (xs.getD j0 aG.zero) j0) d xs.length most) 173]
    refine region (mv rfl (co (Ev.nilCheck (.t rfl)) ?_))
    refine co (fA 1 (.t rfl)) ?_
    refine co (Ev.ldv ty3 (.t rfl) av.cA) ?_
    refine mv rfl (co (Ev.len Tryz.underlying24 (.t rfl) (fun w I=>hxs w I.keeps)) ?_)
    refine co (Ev.a8 (.t rfl) (.t rfl) (fun _=>by simp; omega)) ?_
    refine co (Ev.nilCheck (.t rfl)) ?_
    refine co (fA 1 (.t rfl)) ?_
    refine cons (stv ty3 av.cA (.t rfl) (.t rfl) ?_)
    refine nil (mR rfl .nil (fun w I=>?_))
    exact retR (r':=fun o2=>FR b o2 (fs ++ bJ (fun j0:Nat=>g (xs.getD j0 aG.zero) j0) d xs.length most) (d + xs.length)) _ trivial rfl (List.mem_singleton_self _) w (bh.lz (I.sub zs))
set_option maxRecDepth 8000 in
theorem list_75 (f:Nat) (fst cap:List Value) (g:aJ→Int→Int) (D:aJ→Int→Prop) (b:Nat) (o:OV) (fs:List br) (d:Int) (u:Value) (xs:List aJ) (most:Nat) (w:World) (hen:Gx.aC Tryz.prog f) (h:At (FR b o fs d) w) (hxs:∀ w1,aX (FR b o fs d).cI w w1→bH ai w1 u xs) (hk:FnB2 Tryz.prog f fst cap (FR b o fs d).cI w ai iE iE D g) (hD:∀ i:Nat,i < xs.length→D (xs.getD i ai.zero) i) (hd:0 ≤ d ∧ d + xs.length ≤ 4611686018427387904) (hf:fs.length + most ≤ 100000):Gx.Calls Tryz.prog 68 #[.pointer (some ⟨b,0,none⟩),u,I most,(bnd f fst cap).v] w (iZ w (FR b o fs d) (fun _:OV=>True) (fun _=>.tuple #[]) (fun o2=>FR b o2 (fs ++ bJ (fun j0:Nat=>g (xs.getD j0 ai.zero) j0) d xs.length most) (d + xs.length))):=by
  obtain ⟨m,hm⟩:∃ m:Nat,(min (xs.length:Int) (most:Int)) = (m:Int):=⟨min xs.length most,by omega⟩
  have hm2:m = min xs.length most:=by omega
  have hle:=(hxs w (aX.refl _ _)).le
  have htl:(xs.take m).length = m:=by simp; omega
  refine enter 76 [FR b o fs d] Tryz.func68 rfl rfl (Nat.le_of_ble_eq_true rfl) (iR h) (fun _ _=>?_)
  refine ju Rem.head ?_
  refine seq (sg (mv rfl (mv rfl (co (Ev.len Tryz.underlying25 (.t rfl) (fun w I=>hxs w I.keeps)) ?_))))
  refine mv rfl (co (Ev.to (v':=I ((m:Nat):Int)) (Ev.oV (.t rfl) (.t rfl)) (by rw [hm])) ?_)
  refine co (Ev.lR Tryz.underlying25 eH (.t rfl) (.t rfl) (fun w I=>hxs w I.keeps) (fun _=>zo)) ?_
  refine co (Ev.len Tryz.underlying25 (.t rfl) (fun w I=>by have:=(hxs w I.keeps).sub (l:=0) (k:=m) (by omega) (by omega); simpa using this)) ?_
  refine co (Ev.move (.c (v:=I 0) rfl)) ?_
  refine nP (block (lp (X:=Int × OV) (fun x:Int × OV=>(0 ≤ x.1 ∧ x.1 ≤ m)) (fun x:Int × OV=>[dz,(0,true,.pointer (some ⟨b,0,none⟩)),(1,true,u),(2,true,I most),(3,true,(bnd f fst cap).v),(16,true,iu ai.size u 0 m),(17,true,I (xs.take m).length),(18,true,I x.1)]) (fun x:Int × OV=>[Var b bD ⟨x.2,d⟩ 161,aP x.2.v aY (fs ++ cJ (fun j0:Nat=>g (xs.getD j0 ai.zero) j0) d x.1.toNat) 173]) (fun x:Int × OV=>((m:Int) - x.1).toNat) (0,o) ?_ (fun x hx=>?_) (hL:=(by simp only [show (0:Int).toNat = 0 from rfl,cJ,List.append_nil]; repeat first | exact sR | exact sN | apply sC | apply sS | apply sA))))
  · omega
  obtain ⟨i,q⟩:=x
  have hi:0 ≤ i ∧ i ≤ m:=hx
  clear hx
  show Sat _ _ [dz,(0,true,.pointer (some ⟨b,0,none⟩)),(1,true,u),(2,true,I most),(3,true,(bnd f fst cap).v),(16,true,iu ai.size u 0 m),(17,true,I (xs.take m).length),(18,true,I i)] [Var b bD ⟨q,d⟩ 161,aP q.v aY (fs ++ cJ (fun j0:Nat=>g (xs.getD j0 ai.zero) j0) d i.toNat) 173]
  refine sg (co (Ev.dx (.t rfl) (.t rfl)) ?_)
  refine nP (seq ?_)
  first | refine aL rfl (fun h0=>?_) (fun h0=>?_) | refine cond rfl (fun h0=>?_) (fun h0=>?_)
  · try simp only [Gx.nb] at h0
    refine skip (pN (seq (block (sg (mv rfl (co (Ev.indexAddr Tryz.underlying25 eH (.t rfl) (.t rfl) (fun w I=>by have:=(hxs w I.keeps).sub (l:=0) (k:=m) (by omega) (by omega); simpa using this) (fun _=>by omega)) ?_))))))
    refine co (Ev.to (v':=ai.val (xs.getD i.toNat ai.zero)) (Ev.dp eH (.t rfl) (fun w I=>by have:=(hxs w I.keeps).sub (l:=0) (k:=m) (by omega) (by omega); simpa using this) (fun _=>by omega)) (congrArg ai.val (ig xs m i.toNat _ (by omega)))) ?_
    refine cons (alloc z75 (fun b1=>?_))
    refine asn rfl (cons (stv eH (ak.id _) (.t rfl) (.t rfl) ?_))
    refine nP (sg (mv rfl (co (Ev.ldv eH (.t rfl) (ak.id _)) ?_)))
    refine mv rfl (cons (pE (.t rfl) hen (.cons (.t rfl) (.cons (.t rfl) .nil)) (fun w I=>hk (xs.getD i.toNat ai.zero) i w (by have:=hD i.toNat (by omega); rwa [show ((i.toNat:Nat):Int) = i by omega] at this) I.keeps) ?_))
    refine asn rfl (nP (sg (mv rfl (co (Ev.eX (.t rfl) (.c (v:=I 0) rfl)) ?_))))
    refine nP ?_
    first | refine aL rfl (fun h1=>?_) (fun h1=>?_) | refine cond rfl (fun h1=>?_) (fun h1=>?_)
    · try simp only [Gx.nb] at h1
      have ei:((i.toNat:Nat):Int) = i:=by omega
      have hst:=gM (e:=(fun j0:Nat=>g (xs.getD j0 ai.zero) j0)) (d:=d) hi.1 (by (try dsimp only); rw [ei]; exact h1)
      (try dsimp only at hst)
      rw [ei] at hst
      refine draw [] zk ?_
      refine tk 0 rfl (Ev.move (.t rfl)) ?_
      refine tk 1 rfl (Ev.move (.t rfl)) ?_
      refine tk 2 rfl (Ev.nilCheck (.t rfl)) ?_
      refine tk 3 rfl (fA 0 (.t rfl)) ?_
      refine tk 5 rfl (Ev.move (.t rfl)) ?_
      refine tk 6 rfl (Ev.move (.t rfl)) ?_
      refine tk 7 rfl (Ev.nilCheck (.t rfl)) ?_
      refine tk 8 rfl (fA 1 (.t rfl)) ?_
      refine tk 10 rfl (Ev.move (.t rfl)) ?_
      refine all [4,9] zk (by decide) (.cons rfl ?_ (.cons rfl ?_ .nil))
      · refine (opv (Ev.ldv bY (.t rfl) av.l_l) ?_)
        refine hdn (al1 9 rfl ((opv (Ev.ldv ty3 (.t rfl) av.cA) ?_)))
        refine hdn (tk 11 rfl (Ev.a8 (.t rfl) (.t rfl) (fun _=>by simp; omega)) ?_)
        refine tk 12 rfl (Ev.aQ (fs:=_) (places:=[(0,1),(1,1)]) dK rfl Tryz.underlying173 zk (.cons (.t rfl) (.cons (.t rfl) .nil)) (aj.cons br.ez rfl (aj.cons br.cA rfl aj.nil))) ?_
        refine al1 13 rfl ((buildSlice (E:=aY) Tryz.underlying112 cj dK (.cons (.t rfl) .nil) rfl rfl (fun v2=>?_)))
        refine hdn (al1 14 rfl ((app (E:=aY) Tryz.underlying112 cj ed eb (.t rfl) (.t rfl) (fun v3=>?_) (hby:=⟨by (show _ ≤ 9223372036854775807); have:=aI (fun j0:Nat=>g (xs.getD j0 ai.zero) j0) d i.toNat; simp only [List.length_append,List.length_cons,List.length_nil]; omega,by have:=aI (fun j0:Nat=>g (xs.getD j0 ai.zero) j0) d i.toNat; simp only [List.length_append,List.length_cons,List.length_nil]; omega⟩))))
        refine hdn (tk 15 rfl (Ev.nilCheck (.t rfl)) ?_)
        refine tk 16 rfl (fA 0 (.t rfl)) ?_
        refine al1 17 rfl ((stv bY av.l_l (.t rfl) (.t rfl) ?_))
        refine hdn (ovr (bN (pN (region (co (Ev.a8 (.t rfl) (.c (v:=I 1) rfl) (fun _=>zo)) ?_)))))
        refine mv rfl (nP (nx (X:=Int × OV) (i + 1,_) ?_ ?_ (hL:=(by rw [hst]; (try rw [← List.append_assoc]); repeat first | exact sR | exact sN | apply sC | apply sS | apply sA))))
        · try dsimp only
          omega
        · try dsimp only
          omega
      · refine (opv (Ev.ldv ty3 (.t rfl) av.cA) ?_)
        refine hdn (tk 11 rfl (Ev.a8 (.t rfl) (.t rfl) (fun _=>by simp; omega)) ?_)
        refine tk 12 rfl (Ev.aQ (fs:=_) (places:=[(0,1),(1,1)]) dK rfl Tryz.underlying173 zk (.cons (.t rfl) (.cons (.t rfl) .nil)) (aj.cons br.ez rfl (aj.cons br.cA rfl aj.nil))) ?_
        refine all [4,13] zk (by decide) (.cons rfl ?_ (.cons rfl ?_ .nil))
        · refine (opv (Ev.ldv bY (.t rfl) av.l_l) ?_)
          refine hdn (al1 13 rfl ((buildSlice (E:=aY) Tryz.underlying112 cj dK (.cons (.t rfl) .nil) rfl rfl (fun v4=>?_))))
          refine hdn (al1 14 rfl ((app (E:=aY) Tryz.underlying112 cj ed eb (.t rfl) (.t rfl) (fun v5=>?_) (hby:=⟨by (show _ ≤ 9223372036854775807); have:=aI (fun j0:Nat=>g (xs.getD j0 ai.zero) j0) d i.toNat; simp only [List.length_append,List.length_cons,List.length_nil]; omega,by have:=aI (fun j0:Nat=>g (xs.getD j0 ai.zero) j0) d i.toNat; simp only [List.length_append,List.length_cons,List.length_nil]; omega⟩))))
          refine hdn (tk 15 rfl (Ev.nilCheck (.t rfl)) ?_)
          refine tk 16 rfl (fA 0 (.t rfl)) ?_
          refine al1 17 rfl ((stv bY av.l_l (.t rfl) (.t rfl) ?_))
          refine hdn (ovr (bN (pN (region (co (Ev.a8 (.t rfl) (.c (v:=I 1) rfl) (fun _=>zo)) ?_)))))
          refine mv rfl (nP (nx (X:=Int × OV) (i + 1,_) ?_ ?_ (hL:=(by rw [hst]; (try rw [← List.append_assoc]); repeat first | exact sR | exact sN | apply sC | apply sS | apply sA))))
          · try dsimp only
            omega
          · try dsimp only
            omega
        · refine (buildSlice (E:=aY) Tryz.underlying112 cj dK (.cons (.t rfl) .nil) rfl rfl (fun v6=>?_))
          refine hdn (al1 4 rfl ((opv (Ev.ldv bY (.t rfl) av.l_l) ?_)))
          refine hdn (al1 14 rfl ((app (E:=aY) Tryz.underlying112 cj ed eb (.t rfl) (.t rfl) (fun v7=>?_) (hby:=⟨by (show _ ≤ 9223372036854775807); have:=aI (fun j0:Nat=>g (xs.getD j0 ai.zero) j0) d i.toNat; simp only [List.length_append,List.length_cons,List.length_nil]; omega,by have:=aI (fun j0:Nat=>g (xs.getD j0 ai.zero) j0) d i.toNat; simp only [List.length_append,List.length_cons,List.length_nil]; omega⟩))))
          refine hdn (tk 15 rfl (Ev.nilCheck (.t rfl)) ?_)
          refine tk 16 rfl (fA 0 (.t rfl)) ?_
          refine al1 17 rfl ((stv bY av.l_l (.t rfl) (.t rfl) ?_))
          refine hdn (ovr (bN (pN (region (co (Ev.a8 (.t rfl) (.c (v:=I 1) rfl) (fun _=>zo)) ?_)))))
          refine mv rfl (nP (nx (X:=Int × OV) (i + 1,_) ?_ ?_ (hL:=(by rw [hst]; (try rw [← List.append_assoc]); repeat first | exact sR | exact sN | apply sC | apply sS | apply sA))))
          · try dsimp only
            omega
          · try dsimp only
            omega
    · try simp only [Gx.nb] at h1
      have ei:((i.toNat:Nat):Int) = i:=by omega
      have hst:=ik (e:=(fun j0:Nat=>g (xs.getD j0 ai.zero) j0)) (d:=d) hi.1 (by (try dsimp only); rw [ei]; exact h1)
      refine skip (bN (pN (region (co (Ev.a8 (.t rfl) (.c (v:=I 1) rfl) (fun _=>zo)) ?_))))
      refine mv rfl (nP (nx (X:=Int × OV) (i + 1,_) ?_ ?_ (hL:=(by rw [hst]; (try rw [← List.append_assoc]); repeat first | exact sR | exact sN | apply sC | apply sS | apply sA))))
      · try dsimp only
        omega
      · try dsimp only
        omega
  · try simp only [Gx.nb] at h0
    refine exit (pX (pX (bX (pN (cut (X:=OV) (fun x:OV=>True) (fun x:OV=>[dz,(0,true,.pointer (some ⟨b,0,none⟩)),(1,true,u)]) (fun x:OV=>[Var b bD ⟨x,d⟩ 161,aP x.v aY (fs ++ bJ (fun j0:Nat=>g (xs.getD j0 ai.zero) j0) d xs.length most) 173]) ?_ (fun x hx=>?_))))))
    · refine sg ?_
      have him:i.toNat = m:=by omega
      rw [him]
      refine mv rfl (co (Ev.len Tryz.underlying25 (.t rfl) (fun w I=>hxs w I.keeps)) ?_)
      refine mv rfl (co (Ev.eJ (.t rfl) (.t rfl)) ?_)
      refine nP ?_
      first | refine aL rfl (fun h2=>?_) (fun h2=>?_) | refine cond rfl (fun h2=>?_) (fun h2=>?_)
      · try simp only [Gx.nb] at h2
        refine draw [] zk ?_
        refine tk 0 rfl (Ev.move (.t rfl)) ?_
        refine tk 1 rfl (Ev.move (.t rfl)) ?_
        refine tk 2 rfl (Ev.nilCheck (.t rfl)) ?_
        refine tk 3 rfl (fA 0 (.t rfl)) ?_
        refine tk 5 rfl (Ev.move (.t rfl)) ?_
        refine tk 6 rfl (Ev.nilCheck (.t rfl)) ?_
        refine tk 7 rfl (fA 1 (.t rfl)) ?_
        refine tk 9 rfl (Ev.move (.t rfl)) ?_
        refine all [4,8] zk (by decide) (.cons rfl ?_ (.cons rfl ?_ .nil))
        · refine (opv (Ev.ldv bY (.t rfl) av.l_l) ?_)
          refine hdn (al1 8 rfl ((opv (Ev.ldv ty3 (.t rfl) av.cA) ?_)))
          refine hdn (tk 10 rfl (Ev.a8 (.t rfl) (.t rfl) (fun _=>by simp; omega)) ?_)
          refine tk 11 rfl (Ev.aQ (fs:=_) (places:=[(0,1),(1,1)]) dK rfl Tryz.underlying173 zk (.cons (.c (v:=I 4) rfl) (.cons (.t rfl) .nil)) (aj.cons br.ez rfl (aj.cons br.cA rfl aj.nil))) ?_
          refine al1 12 rfl ((buildSlice (E:=aY) Tryz.underlying112 cj dK (.cons (.t rfl) .nil) rfl rfl (fun v8=>?_)))
          refine hdn (al1 13 rfl ((app (E:=aY) Tryz.underlying112 cj ed eb (.t rfl) (.t rfl) (fun v9=>?_) (hby:=⟨by (show _ ≤ 9223372036854775807); have:=aI (fun j0:Nat=>g (xs.getD j0 ai.zero) j0) d m; simp only [List.length_append,List.length_cons,List.length_nil]; omega,by have:=aI (fun j0:Nat=>g (xs.getD j0 ai.zero) j0) d m; simp only [List.length_append,List.length_cons,List.length_nil]; omega⟩))))
          refine hdn (tk 14 rfl (Ev.nilCheck (.t rfl)) ?_)
          refine tk 15 rfl (fA 0 (.t rfl)) ?_
          refine al1 16 rfl ((stv bY av.l_l (.t rfl) (.t rfl) ?_))
          refine hdn (ovr (pN (mt (X:=OV) (_) trivial (hL:=(by unfold bJ; rw [← hm2]; (first | rw [if_pos (by omega),← List.append_assoc] | rw [if_neg (by omega),List.append_nil]); repeat first | exact sR | exact sN | apply sC | apply sS | apply sA)))))
        · refine (opv (Ev.ldv ty3 (.t rfl) av.cA) ?_)
          refine hdn (tk 10 rfl (Ev.a8 (.t rfl) (.t rfl) (fun _=>by simp; omega)) ?_)
          refine tk 11 rfl (Ev.aQ (fs:=_) (places:=[(0,1),(1,1)]) dK rfl Tryz.underlying173 zk (.cons (.c (v:=I 4) rfl) (.cons (.t rfl) .nil)) (aj.cons br.ez rfl (aj.cons br.cA rfl aj.nil))) ?_
          refine all [4,12] zk (by decide) (.cons rfl ?_ (.cons rfl ?_ .nil))
          · refine (opv (Ev.ldv bY (.t rfl) av.l_l) ?_)
            refine hdn (al1 12 rfl ((buildSlice (E:=aY) Tryz.underlying112 cj dK (.cons (.t rfl) .nil) rfl rfl (fun v10=>?_))))
            refine hdn (al1 13 rfl ((app (E:=aY) Tryz.underlying112 cj ed eb (.t rfl) (.t rfl) (fun v11=>?_) (hby:=⟨by (show _ ≤ 9223372036854775807); have:=aI (fun j0:Nat=>g (xs.getD j0 ai.zero) j0) d m; simp only [List.length_append,List.length_cons,List.length_nil]; omega,by have:=aI (fun j0:Nat=>g (xs.getD j0 ai.zero) j0) d m; simp only [List.length_append,List.length_cons,List.length_nil]; omega⟩))))
            refine hdn (tk 14 rfl (Ev.nilCheck (.t rfl)) ?_)
            refine tk 15 rfl (fA 0 (.t rfl)) ?_
            refine al1 16 rfl ((stv bY av.l_l (.t rfl) (.t rfl) ?_))
            refine hdn (ovr (pN (mt (X:=OV) (_) trivial (hL:=(by unfold bJ; rw [← hm2]; (first | rw [if_pos (by omega),← List.append_assoc] | rw [if_neg (by omega),List.append_nil]); repeat first | exact sR | exact sN | apply sC | apply sS | apply sA)))))
          · refine (buildSlice (E:=aY) Tryz.underlying112 cj dK (.cons (.t rfl) .nil) rfl rfl (fun v12=>?_))
            refine hdn (al1 4 rfl ((opv (Ev.ldv bY (.t rfl) av.l_l) ?_)))
            refine hdn (al1 13 rfl ((app (E:=aY) Tryz.underlying112 cj ed eb (.t rfl) (.t rfl) (fun v13=>?_) (hby:=⟨by (show _ ≤ 9223372036854775807); have:=aI (fun j0:Nat=>g (xs.getD j0 ai.zero) j0) d m; simp only [List.length_append,List.length_cons,List.length_nil]; omega,by have:=aI (fun j0:Nat=>g (xs.getD j0 ai.zero) j0) d m; simp only [List.length_append,List.length_cons,List.length_nil]; omega⟩))))
            refine hdn (tk 14 rfl (Ev.nilCheck (.t rfl)) ?_)
            refine tk 15 rfl (fA 0 (.t rfl)) ?_
            refine al1 16 rfl ((stv bY av.l_l (.t rfl) (.t rfl) ?_))
            refine hdn (ovr (pN (mt (X:=OV) (_) trivial (hL:=(by unfold bJ; rw [← hm2]; (first | rw [if_pos (by omega),← List.append_assoc] | rw [if_neg (by omega),List.append_nil]); repeat first | exact sR | exact sN | apply sC | apply sS | apply sA)))))
      · try simp only [Gx.nb] at h2
        refine skip (pN (mt (X:=OV) (_) trivial (hL:=(by unfold bJ; rw [← hm2]; (first | rw [if_pos (by omega),← List.append_assoc] | rw [if_neg (by omega),List.append_nil]); repeat first | exact sR | exact sN | apply sC | apply sS | apply sA))))
    obtain ⟨q2,rfl⟩:∃ y,y = x:=⟨x,rfl⟩
    show Sat _ _ [dz,(0,true,.pointer (some ⟨b,0,none⟩)),(1,true,u)] [Var b bD ⟨q2,d⟩ 161,aP q2.v aY (fs ++ bJ (fun j0:Nat=>g (xs.getD j0 ai.zero) j0) d xs.length most) 173]
    refine region (mv rfl (co (Ev.nilCheck (.t rfl)) ?_))
    refine co (fA 1 (.t rfl)) ?_
    refine co (Ev.ldv ty3 (.t rfl) av.cA) ?_
    refine mv rfl (co (Ev.len Tryz.underlying25 (.t rfl) (fun w I=>hxs w I.keeps)) ?_)
    refine co (Ev.a8 (.t rfl) (.t rfl) (fun _=>by simp; omega)) ?_
    refine co (Ev.nilCheck (.t rfl)) ?_
    refine co (fA 1 (.t rfl)) ?_
    refine cons (stv ty3 av.cA (.t rfl) (.t rfl) ?_)
    refine nil (mR rfl .nil (fun w I=>?_))
    exact retR (r':=fun o2=>FR b o2 (fs ++ bJ (fun j0:Nat=>g (xs.getD j0 ai.zero) j0) d xs.length most) (d + xs.length)) _ trivial rfl (List.mem_singleton_self _) w (bh.lz (I.sub zs))
set_option maxRecDepth 8000 in
theorem list_77 (f:Nat) (fst cap:List Value) (g:aD→Int→Int) (D:aD→Int→Prop) (b:Nat) (o:OV) (fs:List br) (d:Int) (u:Value) (xs:List aD) (most:Nat) (w:World) (hen:Gx.aC Tryz.prog f) (h:At (FR b o fs d) w) (hxs:∀ w1,aX (FR b o fs d).cI w w1→bH ae w1 u xs) (hk:FnB2 Tryz.prog f fst cap (FR b o fs d).cI w ae iE iE D g) (hD:∀ i:Nat,i < xs.length→D (xs.getD i ae.zero) i) (hd:0 ≤ d ∧ d + xs.length ≤ 4611686018427387904) (hf:fs.length + most ≤ 100000):Gx.Calls Tryz.prog 70 #[.pointer (some ⟨b,0,none⟩),u,I most,(bnd f fst cap).v] w (iZ w (FR b o fs d) (fun _:OV=>True) (fun _=>.tuple #[]) (fun o2=>FR b o2 (fs ++ bJ (fun j0:Nat=>g (xs.getD j0 ae.zero) j0) d xs.length most) (d + xs.length))):=by
  obtain ⟨m,hm⟩:∃ m:Nat,(min (xs.length:Int) (most:Int)) = (m:Int):=⟨min xs.length most,by omega⟩
  have hm2:m = min xs.length most:=by omega
  have hle:=(hxs w (aX.refl _ _)).le
  have htl:(xs.take m).length = m:=by simp; omega
  refine enter 76 [FR b o fs d] Tryz.func70 rfl rfl (Nat.le_of_ble_eq_true rfl) (iR h) (fun _ _=>?_)
  refine ju Rem.head ?_
  refine seq (sg (mv rfl (mv rfl (co (Ev.len Tryz.underlying26 (.t rfl) (fun w I=>hxs w I.keeps)) ?_))))
  refine mv rfl (co (Ev.to (v':=I ((m:Nat):Int)) (Ev.oV (.t rfl) (.t rfl)) (by rw [hm])) ?_)
  refine co (Ev.lR Tryz.underlying26 eG (.t rfl) (.t rfl) (fun w I=>hxs w I.keeps) (fun _=>zo)) ?_
  refine co (Ev.len Tryz.underlying26 (.t rfl) (fun w I=>by have:=(hxs w I.keeps).sub (l:=0) (k:=m) (by omega) (by omega); simpa using this)) ?_
  refine co (Ev.move (.c (v:=I 0) rfl)) ?_
  refine nP (block (lp (X:=Int × OV) (fun x:Int × OV=>(0 ≤ x.1 ∧ x.1 ≤ m)) (fun x:Int × OV=>[dz,(0,true,.pointer (some ⟨b,0,none⟩)),(1,true,u),(2,true,I most),(3,true,(bnd f fst cap).v),(16,true,iu ae.size u 0 m),(17,true,I (xs.take m).length),(18,true,I x.1)]) (fun x:Int × OV=>[Var b bD ⟨x.2,d⟩ 161,aP x.2.v aY (fs ++ cJ (fun j0:Nat=>g (xs.getD j0 ae.zero) j0) d x.1.toNat) 173]) (fun x:Int × OV=>((m:Int) - x.1).toNat) (0,o) ?_ (fun x hx=>?_) (hL:=(by simp only [show (0:Int).toNat = 0 from rfl,cJ,List.append_nil]; repeat first | exact sR | exact sN | apply sC | apply sS | apply sA))))
  · omega
  obtain ⟨i,q⟩:=x
  have hi:0 ≤ i ∧ i ≤ m:=hx
  clear hx
  show Sat _ _ [dz,(0,true,.pointer (some ⟨b,0,none⟩)),(1,true,u),(2,true,I most),(3,true,(bnd f fst cap).v),(16,true,iu ae.size u 0 m),(17,true,I (xs.take m).length),(18,true,I i)] [Var b bD ⟨q,d⟩ 161,aP q.v aY (fs ++ cJ (fun j0:Nat=>g (xs.getD j0 ae.zero) j0) d i.toNat) 173]
  refine sg (co (Ev.dx (.t rfl) (.t rfl)) ?_)
  refine nP (seq ?_)
  first | refine aL rfl (fun h0=>?_) (fun h0=>?_) | refine cond rfl (fun h0=>?_) (fun h0=>?_)
  · try simp only [Gx.nb] at h0
    refine skip (pN (seq (block (sg (mv rfl (co (Ev.indexAddr Tryz.underlying26 eG (.t rfl) (.t rfl) (fun w I=>by have:=(hxs w I.keeps).sub (l:=0) (k:=m) (by omega) (by omega); simpa using this) (fun _=>by omega)) ?_))))))
    refine co (Ev.to (v':=ae.val (xs.getD i.toNat ae.zero)) (Ev.dp eG (.t rfl) (fun w I=>by have:=(hxs w I.keeps).sub (l:=0) (k:=m) (by omega) (by omega); simpa using this) (fun _=>by omega)) (congrArg ae.val (ig xs m i.toNat _ (by omega)))) ?_
    refine cons (alloc z77 (fun b1=>?_))
    refine asn rfl (cons (stv eG (ak.id _) (.t rfl) (.t rfl) ?_))
    refine nP (sg (mv rfl (co (Ev.ldv eG (.t rfl) (ak.id _)) ?_)))
    refine mv rfl (cons (pE (.t rfl) hen (.cons (.t rfl) (.cons (.t rfl) .nil)) (fun w I=>hk (xs.getD i.toNat ae.zero) i w (by have:=hD i.toNat (by omega); rwa [show ((i.toNat:Nat):Int) = i by omega] at this) I.keeps) ?_))
    refine asn rfl (nP (sg (mv rfl (co (Ev.eX (.t rfl) (.c (v:=I 0) rfl)) ?_))))
    refine nP ?_
    first | refine aL rfl (fun h1=>?_) (fun h1=>?_) | refine cond rfl (fun h1=>?_) (fun h1=>?_)
    · try simp only [Gx.nb] at h1
      have ei:((i.toNat:Nat):Int) = i:=by omega
      have hst:=gM (e:=(fun j0:Nat=>g (xs.getD j0 ae.zero) j0)) (d:=d) hi.1 (by (try dsimp only); rw [ei]; exact h1)
      (try dsimp only at hst)
      rw [ei] at hst
      refine draw [] zk ?_
      refine tk 0 rfl (Ev.move (.t rfl)) ?_
      refine tk 1 rfl (Ev.move (.t rfl)) ?_
      refine tk 2 rfl (Ev.nilCheck (.t rfl)) ?_
      refine tk 3 rfl (fA 0 (.t rfl)) ?_
      refine tk 5 rfl (Ev.move (.t rfl)) ?_
      refine tk 6 rfl (Ev.move (.t rfl)) ?_
      refine tk 7 rfl (Ev.nilCheck (.t rfl)) ?_
      refine tk 8 rfl (fA 1 (.t rfl)) ?_
      refine tk 10 rfl (Ev.move (.t rfl)) ?_
      refine all [4,9] zk (by decide) (.cons rfl ?_ (.cons rfl ?_ .nil))
      · refine (opv (Ev.ldv bY (.t rfl) av.l_l) ?_)
        refine hdn (al1 9 rfl ((opv (Ev.ldv ty3 (.t rfl) av.cA) ?_)))
        refine hdn (tk 11 rfl (Ev.a8 (.t rfl) (.t rfl) (fun _=>by simp; omega)) ?_)
        refine tk 12 rfl (Ev.aQ (fs:=_) (places:=[(0,1),(1,1)]) dK rfl Tryz.underlying173 zk (.cons (.t rfl) (.cons (.t rfl) .nil)) (aj.cons br.ez rfl (aj.cons br.cA rfl aj.nil))) ?_
        refine al1 13 rfl ((buildSlice (E:=aY) Tryz.underlying112 cj dK (.cons (.t rfl) .nil) rfl rfl (fun v2=>?_)))
        refine hdn (al1 14 rfl ((app (E:=aY) Tryz.underlying112 cj ed eb (.t rfl) (.t rfl) (fun v3=>?_) (hby:=⟨by (show _ ≤ 9223372036854775807); have:=aI (fun j0:Nat=>g (xs.getD j0 ae.zero) j0) d i.toNat; simp only [List.length_append,List.length_cons,List.length_nil]; omega,by have:=aI (fun j0:Nat=>g (xs.getD j0 ae.zero) j0) d i.toNat; simp only [List.length_append,List.length_cons,List.length_nil]; omega⟩))))
        refine hdn (tk 15 rfl (Ev.nilCheck (.t rfl)) ?_)
        refine tk 16 rfl (fA 0 (.t rfl)) ?_
        refine al1 17 rfl ((stv bY av.l_l (.t rfl) (.t rfl) ?_))
        refine hdn (ovr (bN (pN (region (co (Ev.a8 (.t rfl) (.c (v:=I 1) rfl) (fun _=>zo)) ?_)))))
        refine mv rfl (nP (nx (X:=Int × OV) (i + 1,_) ?_ ?_ (hL:=(by rw [hst]; (try rw [← List.append_assoc]); repeat first | exact sR | exact sN | apply sC | apply sS | apply sA))))
        · try dsimp only
          omega
        · try dsimp only
          omega
      · refine (opv (Ev.ldv ty3 (.t rfl) av.cA) ?_)
        refine hdn (tk 11 rfl (Ev.a8 (.t rfl) (.t rfl) (fun _=>by simp; omega)) ?_)
        refine tk 12 rfl (Ev.aQ (fs:=_) (places:=[(0,1),(1,1)]) dK rfl Tryz.underlying173 zk (.cons (.t rfl) (.cons (.t rfl) .nil)) (aj.cons br.ez rfl (aj.cons br.cA rfl aj.nil))) ?_
        refine all [4,13] zk (by decide) (.cons rfl ?_ (.cons rfl ?_ .nil))
        · refine (opv (Ev.ldv bY (.t rfl) av.l_l) ?_)
          refine hdn (al1 13 rfl ((buildSlice (E:=aY) Tryz.underlying112 cj dK (.cons (.t rfl) .nil) rfl rfl (fun v4=>?_))))
          refine hdn (al1 14 rfl ((app (E:=aY) Tryz.underlying112 cj ed eb (.t rfl) (.t rfl) (fun v5=>?_) (hby:=⟨by (show _ ≤ 9223372036854775807); have:=aI (fun j0:Nat=>g (xs.getD j0 ae.zero) j0) d i.toNat; simp only [List.length_append,List.length_cons,List.length_nil]; omega,by have:=aI (fun j0:Nat=>g (xs.getD j0 ae.zero) j0) d i.toNat; simp only [List.length_append,List.length_cons,List.length_nil]; omega⟩))))
          refine hdn (tk 15 rfl (Ev.nilCheck (.t rfl)) ?_)
          refine tk 16 rfl (fA 0 (.t rfl)) ?_
          refine al1 17 rfl ((stv bY av.l_l (.t rfl) (.t rfl) ?_))
          refine hdn (ovr (bN (pN (region (co (Ev.a8 (.t rfl) (.c (v:=I 1) rfl) (fun _=>zo)) ?_)))))
          refine mv rfl (nP (nx (X:=Int × OV) (i + 1,_) ?_ ?_ (hL:=(by rw [hst]; (try rw [← List.append_assoc]); repeat first | exact sR | exact sN | apply sC | apply sS | apply sA))))
          · try dsimp only
            omega
          · try dsimp only
            omega
        · refine (buildSlice (E:=aY) Tryz.underlying112 cj dK (.cons (.t rfl) .nil) rfl rfl (fun v6=>?_))
          refine hdn (al1 4 rfl ((opv (Ev.ldv bY (.t rfl) av.l_l) ?_)))
          refine hdn (al1 14 rfl ((app (E:=aY) Tryz.underlying112 cj ed eb (.t rfl) (.t rfl) (fun v7=>?_) (hby:=⟨by (show _ ≤ 9223372036854775807); have:=aI (fun j0:Nat=>g (xs.getD j0 ae.zero) j0) d i.toNat; simp only [List.length_append,List.length_cons,List.length_nil]; omega,by have:=aI (fun j0:Nat=>g (xs.getD j0 ae.zero) j0) d i.toNat; simp only [List.length_append,List.length_cons,List.length_nil]; omega⟩))))
          refine hdn (tk 15 rfl (Ev.nilCheck (.t rfl)) ?_)
          refine tk 16 rfl (fA 0 (.t rfl)) ?_
          refine al1 17 rfl ((stv bY av.l_l (.t rfl) (.t rfl) ?_))
          refine hdn (ovr (bN (pN (region (co (Ev.a8 (.t rfl) (.c (v:=I 1) rfl) (fun _=>zo)) ?_)))))
          refine mv rfl (nP (nx (X:=Int × OV) (i + 1,_) ?_ ?_ (hL:=(by rw [hst]; (try rw [← List.append_assoc]); repeat first | exact sR | exact sN | apply sC | apply sS | apply sA))))
          · try dsimp only
            omega
          · try dsimp only
            omega
    · try simp only [Gx.nb] at h1
      have ei:((i.toNat:Nat):Int) = i:=by omega
      have hst:=ik (e:=(fun j0:Nat=>g (xs.getD j0 ae.zero) j0)) (d:=d) hi.1 (by (try dsimp only); rw [ei]; exact h1)
      refine skip (bN (pN (region (co (Ev.a8 (.t rfl) (.c (v:=I 1) rfl) (fun _=>zo)) ?_))))
      refine mv rfl (nP (nx (X:=Int × OV) (i + 1,_) ?_ ?_ (hL:=(by rw [hst]; (try rw [← List.append_assoc]); repeat first | exact sR | exact sN | apply sC | apply sS | apply sA))))
      · try dsimp only
        omega
      · try dsimp only
        omega
  · try simp only [Gx.nb] at h0
    refine exit (pX (pX (bX (pN (cut (X:=OV) (fun x:OV=>True) (fun x:OV=>[dz,(0,true,.pointer (some ⟨b,0,none⟩)),(1,true,u)]) (fun x:OV=>[Var b bD ⟨x,d⟩ 161,aP x.v aY (fs ++ bJ (fun j0:Nat=>g (xs.getD j0 ae.zero) j0) d xs.length most) 173]) ?_ (fun x hx=>?_))))))
    · refine sg ?_
      have him:i.toNat = m:=by omega
      rw [him]
      refine mv rfl (co (Ev.len Tryz.underlying26 (.t rfl) (fun w I=>hxs w I.keeps)) ?_)
      refine mv rfl (co (Ev.eJ (.t rfl) (.t rfl)) ?_)
      refine nP ?_
      first | refine aL rfl (fun h2=>?_) (fun h2=>?_) | refine cond rfl (fun h2=>?_) (fun h2=>?_)
      · try simp only [Gx.nb] at h2
        refine draw [] zk ?_
        refine tk 0 rfl (Ev.move (.t rfl)) ?_
        refine tk 1 rfl (Ev.move (.t rfl)) ?_
        refine tk 2 rfl (Ev.nilCheck (.t rfl)) ?_
        refine tk 3 rfl (fA 0 (.t rfl)) ?_
        refine tk 5 rfl (Ev.move (.t rfl)) ?_
        refine tk 6 rfl (Ev.nilCheck (.t rfl)) ?_
        refine tk 7 rfl (fA 1 (.t rfl)) ?_
        refine tk 9 rfl (Ev.move (.t rfl)) ?_
        refine all [4,8] zk (by decide) (.cons rfl ?_ (.cons rfl ?_ .nil))
        · refine (opv (Ev.ldv bY (.t rfl) av.l_l) ?_)
          refine hdn (al1 8 rfl ((opv (Ev.ldv ty3 (.t rfl) av.cA) ?_)))
          refine hdn (tk 10 rfl (Ev.a8 (.t rfl) (.t rfl) (fun _=>by simp; omega)) ?_)
          refine tk 11 rfl (Ev.aQ (fs:=_) (places:=[(0,1),(1,1)]) dK rfl Tryz.underlying173 zk (.cons (.c (v:=I 4) rfl) (.cons (.t rfl) .nil)) (aj.cons br.ez rfl (aj.cons br.cA rfl aj.nil))) ?_
          refine al1 12 rfl ((buildSlice (E:=aY) Tryz.underlying112 cj dK (.cons (.t rfl) .nil) rfl rfl (fun v8=>?_)))
          refine hdn (al1 13 rfl ((app (E:=aY) Tryz.underlying112 cj ed eb (.t rfl) (.t rfl) (fun v9=>?_) (hby:=⟨by (show _ ≤ 9223372036854775807); have:=aI (fun j0:Nat=>g (xs.getD j0 ae.zero) j0) d m; simp only [List.length_append,List.length_cons,List.length_nil]; omega,by have:=aI (fun j0:Nat=>g (xs.getD j0 ae.zero) j0) d m; simp only [List.length_append,List.length_cons,List.length_nil]; omega⟩))))
          refine hdn (tk 14 rfl (Ev.nilCheck (.t rfl)) ?_)
          refine tk 15 rfl (fA 0 (.t rfl)) ?_
          refine al1 16 rfl ((stv bY av.l_l (.t rfl) (.t rfl) ?_))
          refine hdn (ovr (pN (mt (X:=OV) (_) trivial (hL:=(by unfold bJ; rw [← hm2]; (first | rw [if_pos (by omega),← List.append_assoc] | rw [if_neg (by omega),List.append_nil]); repeat first | exact sR | exact sN | apply sC | apply sS | apply sA)))))
        · refine (opv (Ev.ldv ty3 (.t rfl) av.cA) ?_)
          refine hdn (tk 10 rfl (Ev.a8 (.t rfl) (.t rfl) (fun _=>by simp; omega)) ?_)
          refine tk 11 rfl (Ev.aQ (fs:=_) (places:=[(0,1),(1,1)]) dK rfl Tryz.underlying173 zk (.cons (.c (v:=I 4) rfl) (.cons (.t rfl) .nil)) (aj.cons br.ez rfl (aj.cons br.cA rfl aj.nil))) ?_
          refine all [4,12] zk (by decide) (.cons rfl ?_ (.cons rfl ?_ .nil))
          · refine (opv (Ev.ldv bY (.t rfl) av.l_l) ?_)
            refine hdn (al1 12 rfl ((buildSlice (E:=aY) Tryz.underlying112 cj dK (.cons (.t rfl) .nil) rfl rfl (fun v10=>?_))))
            refine hdn (al1 13 rfl ((app (E:=aY) Tryz.underlying112 cj ed eb (.t rfl) (.t rfl) (fun v11=>?_) (hby:=⟨by (show _ ≤ 9223372036854775807); have:=aI (fun j0:Nat=>g (xs.getD j0 ae.zero) j0) d m; simp only [List.length_append,List.length_cons,List.length_nil]; omega,by have:=aI (fun j0:Nat=>g (xs.getD j0 ae.zero) j0) d m; simp only [List.length_append,List.length_cons,List.length_nil]; omega⟩))))
            refine hdn (tk 14 rfl (Ev.nilCheck (.t rfl)) ?_)
            refine tk 15 rfl (fA 0 (.t rfl)) ?_
            refine al1 16 rfl ((stv bY av.l_l (.t rfl) (.t rfl) ?_))
            refine hdn (ovr (pN (mt (X:=OV) (_) trivial (hL:=(by unfold bJ; rw [← hm2]; (first | rw [if_pos (by omega),← List.append_assoc] | rw [if_neg (by omega),List.append_nil]); repeat first | exact sR | exact sN | apply sC | apply sS | apply sA)))))
          · refine (buildSlice (E:=aY) Tryz.underlying112 cj dK (.cons (.t rfl) .nil) rfl rfl (fun v12=>?_))
            refine hdn (al1 4 rfl ((opv (Ev.ldv bY (.t rfl) av.l_l) ?_)))
            refine hdn (al1 13 rfl ((app (E:=aY) Tryz.underlying112 cj ed eb (.t rfl) (.t rfl) (fun v13=>?_) (hby:=⟨by (show _ ≤ 9223372036854775807); have:=aI (fun j0:Nat=>g (xs.getD j0 ae.zero) j0) d m; simp only [List.length_append,List.length_cons,List.length_nil]; omega,by have:=aI (fun j0:Nat=>g (xs.getD j0 ae.zero) j0) d m; simp only [List.length_append,List.length_cons,List.length_nil]; omega⟩))))
            refine hdn (tk 14 rfl (Ev.nilCheck (.t rfl)) ?_)
            refine tk 15 rfl (fA 0 (.t rfl)) ?_
            refine al1 16 rfl ((stv bY av.l_l (.t rfl) (.t rfl) ?_))
            refine hdn (ovr (pN (mt (X:=OV) (_) trivial (hL:=(by unfold bJ; rw [← hm2]; (first | rw [if_pos (by omega),← List.append_assoc] | rw [if_neg (by omega),List.append_nil]); repeat first | exact sR | exact sN | apply sC | apply sS | apply sA)))))
      · try simp only [Gx.nb] at h2
        refine skip (pN (mt (X:=OV) (_) trivial (hL:=(by unfold bJ; rw [← hm2]; (first | rw [if_pos (by omega),← List.append_assoc] | rw [if_neg (by omega),List.append_nil]); repeat first | exact sR | exact sN | apply sC | apply sS | apply sA))))
    obtain ⟨q2,rfl⟩:∃ y,y = x:=⟨x,rfl⟩
    show Sat _ _ [dz,(0,true,.pointer (some ⟨b,0,none⟩)),(1,true,u)] [Var b bD ⟨q2,d⟩ 161,aP q2.v aY (fs ++ bJ (fun j0:Nat=>g (xs.getD j0 ae.zero) j0) d xs.length most) 173]
    refine region (mv rfl (co (Ev.nilCheck (.t rfl)) ?_))
    refine co (fA 1 (.t rfl)) ?_
    refine co (Ev.ldv ty3 (.t rfl) av.cA) ?_
    refine mv rfl (co (Ev.len Tryz.underlying26 (.t rfl) (fun w I=>hxs w I.keeps)) ?_)
    refine co (Ev.a8 (.t rfl) (.t rfl) (fun _=>by simp; omega)) ?_
    refine co (Ev.nilCheck (.t rfl)) ?_
    refine co (fA 1 (.t rfl)) ?_
    refine cons (stv ty3 av.cA (.t rfl) (.t rfl) ?_)
    refine nil (mR rfl .nil (fun w I=>?_))
    exact retR (r':=fun o2=>FR b o2 (fs ++ bJ (fun j0:Nat=>g (xs.getD j0 ae.zero) j0) d xs.length most) (d + xs.length)) _ trivial rfl (List.mem_singleton_self _) w (bh.lz (I.sub zs))
def kL (d:Int):Bool:=!(decide (d = 1) || decide (d = 2) || decide (d = 4))
theorem defBad_eq (d:Int):kL d = (decide (¬ d = 1) && decide (¬ d = 2) && decide (¬ d = 4)):=by
  unfold kL
  by_cases a:d = 1 <;> by_cases b:d = 2 <;> by_cases c:d = 4 <;> simp [a,b,c]
def gG (l:CL):List br:=((((([] ++ bJ (fun j0:Nat=>fw l.ps (l.ps.getD j0 iE.zero) j0) 0 l.ps.length 256) ++ bJ (fun j0:Nat=>eu l (l.rs.getD j0 aA.zero) j0) (0 + (l.ps.length:Int)) l.rs.length 1024) ++ bJ (fun j0:Nat=>ft l (l.us.getD j0 aG.zero) j0) ((0 + (l.ps.length:Int)) + (l.rs.length:Int)) l.us.length 256) ++ bJ (fun j0:Nat=>fH l (l.ms.getD j0 ai.zero) j0) (((0 + (l.ps.length:Int)) + (l.rs.length:Int)) + (l.us.length:Int)) l.ms.length 64) ++ bJ (fun j0:Nat=>fN l (l.xs.getD j0 ae.zero) j0) ((((0 + (l.ps.length:Int)) + (l.rs.length:Int)) + (l.us.length:Int)) + (l.ms.length:Int)) l.xs.length 16)
def jw (l:CL) (d:Int):List br:=gG l ++ (if kL d = true then [⟨2,(((((0 + (l.ps.length:Int)) + (l.rs.length:Int)) + (l.us.length:Int)) + (l.ms.length:Int)) + (l.xs.length:Int))⟩] else [])
theorem dM (e:Nat→Int) (d:Int) (n most:Nat):(bJ e d n most).length ≤ most + 1:=by
  have:=aI e d (min n most)
  unfold bJ
  rw [List.length_append]
  split <;> simp <;> omega
theorem gy (l:CL):(gG l).length ≤ 1700:=by
  unfold gG
  simp only [List.length_append,List.length_nil]
  have h0:=dM (fun j0:Nat=>fw l.ps (l.ps.getD j0 iE.zero) j0) 0 l.ps.length 256
  have h1:=dM (fun j0:Nat=>eu l (l.rs.getD j0 aA.zero) j0) (0 + (l.ps.length:Int)) l.rs.length 1024
  have h2:=dM (fun j0:Nat=>ft l (l.us.getD j0 aG.zero) j0) ((0 + (l.ps.length:Int)) + (l.rs.length:Int)) l.us.length 256
  have h3:=dM (fun j0:Nat=>fH l (l.ms.getD j0 ai.zero) j0) (((0 + (l.ps.length:Int)) + (l.rs.length:Int)) + (l.us.length:Int)) l.ms.length 64
  have h4:=dM (fun j0:Nat=>fN l (l.xs.getD j0 ae.zero) j0) ((((0 + (l.ps.length:Int)) + (l.rs.length:Int)) + (l.us.length:Int)) + (l.ms.length:Int)) l.xs.length 16
  omega
structure CL.Names (l:CL):Prop where
  us:∀ x ∈ l.us,x.name.size ≤ 9223372036854775807
  ms:∀ x ∈ l.ms,x.name.size ≤ 9223372036854775807
  xs:∀ x ∈ l.xs,x.name.size ≤ 9223372036854775807
def CL.n (l:CL):Nat:=l.ps.length + l.rs.length + l.us.length + l.ms.length + l.xs.length
theorem oh {α:Type} (l:List α) (i:Nat) (d:α) (h:i < l.length):l.getD i d ∈ l:=by simp [List.getD,h]
theorem en63:Gx.aC Tryz.prog 63:=Gx.aC.mk' zk
theorem en65:Gx.aC Tryz.prog 65:=Gx.aC.mk' zk
theorem en67:Gx.aC Tryz.prog 67:=Gx.aC.mk' zk
theorem en69:Gx.aC Tryz.prog 69:=Gx.aC.mk' zk
theorem en71:Gx.aC Tryz.prog 71:=Gx.aC.mk' zk
theorem en61:Gx.aC Tryz.prog 61:=Gx.aC.mk' zk
theorem z161:(Tryz.prog.info? 161).bind (·.zero) = some (bD.val bD.zero):=by kernel_rfl
theorem en62:Gx.aC Tryz.prog 62:=Gx.aC.mk' zk
theorem en64:Gx.aC Tryz.prog 64:=Gx.aC.mk' zk
theorem en66:Gx.aC Tryz.prog 66:=Gx.aC.mk' zk
theorem en68:Gx.aC Tryz.prog 68:=Gx.aC.mk' zk
theorem en70:Gx.aC Tryz.prog 70:=Gx.aC.mk' zk
set_option maxRecDepth 8000 in
theorem conf_check (c:aV) (l:CL) (w:World) (hc:gw w c l) (hn:l.Names) (hz:l.n ≤ 4611686018427387904):Gx.Calls Tryz.prog 26 #[aK.val c] w (RetO w aY (jw l c.default) 173):=by
  unfold CL.n at hz
  refine en0 69 Tryz.func26 (fun _ _=>?_)
  refine sg (cons (box (E:=aK) (.t rfl) (fun b1=>?_)))
  refine co (Ev.assign (.c (v:=(Go.Value.slice none 0 0)) rfl)) ?_
  refine nP (sg (co (Ev.ldv ty28 (.t rfl) (ak.id _)) ?_))
  refine cons (fQ (X:=KB) (fun _=>True) (fun x=>bW.val x.k) (fun x=>x.R l) en61 (.cons (.t rfl) .nil) (fun w I=>of_ok _ l w (hc.aT I.keeps)) (fun kb _=>?_))
  refine cons (alloc z157 (fun b2=>?_))
  refine cons (stv lr (ak.id _) (.t rfl) (.t rfl) ?_)
  refine nP (sg (co (Ev.aQ (fs:=_) (places:=[(0,1),(1,1)]) z161 rfl Tryz.underlying161 zk .nil aj.nil) ?_))
  refine cons (box (E:=bD) (.t rfl) (fun b3=>?_))
  refine asn rfl (nP (sg (fB aY 173 ?_)))
  refine lz (r:=Var b3 bD ⟨aw,0⟩ 161) (s:=aP aw.v aY [] 173) (Rem.tail Rem.head) Rem.head ?_
  refine mv rfl (co (fA 0 (.t rfl)) ?_)
  refine co (Ev.ldv ty22 (.t rfl) aV.dc) ?_
  refine co (Ev.makeFunc (f:=63) (.cons (.t rfl) .nil)) ?_
  refine cons (callr (X:=OV) (r:=FR b3 aw [] 0) (r':=fun o2=>FR b3 o2 (([] ++ bJ (fun j0:Nat=>fw l.ps (l.ps.getD j0 iE.zero) j0) 0 l.ps.length 256)) (0 + (l.ps.length:Int))) (fun _=>True) (fun _=>.tuple #[]) (fun _=>Upd.head) List.mem_cons_self en62 (.cons (.t rfl) (.cons (.t rfl) (.cons (.c (v:=I 256) rfl) (.cons (.t rfl) .nil)))) (fun w I=>list_3 63 [] [.pointer (some ⟨b1,0,none⟩)] (fw l.ps) (fun _ i=>0 ≤ i ∧ i < l.ps.length) b3 aw [] 0 _ l.ps 256 w en63 (at_mem List.mem_cons_self w I) (fun w1 k1=>hc.ps.aT (I.but Rem.head k1).keeps) (fun p i w1 h1 k1=>port1_ok c l.ps b1 p i w1 (by have I1:=I.but Rem.head k1; exact cT (by repeat first | exact mH | apply mT | apply mA) (ak.id _) w1 I1) (hc.ps.aT (I.but Rem.head k1).keeps) h1) (fun i hi=>by constructor <;> omega) (by constructor <;> omega) (by simp only [List.length_append,List.length_nil]; omega)) (fun o1 _=>?_))
  refine nP (sg (mv rfl (co (fA 1 (.t rfl)) ?_)))
  refine co (Ev.ldv ty23 (.t rfl) aV.cH) ?_
  refine co (Ev.ldv lr (.t rfl) (ak.id _)) ?_
  refine co (Ev.kY (f:=65) (.cons (.t rfl) .nil) .nil) ?_
  refine cons (callr (X:=OV) (r:=FR b3 o1 ([] ++ bJ (fun j0:Nat=>fw l.ps (l.ps.getD j0 iE.zero) j0) 0 l.ps.length 256) (0 + (l.ps.length:Int))) (r':=fun o2=>FR b3 o2 ((([] ++ bJ (fun j0:Nat=>fw l.ps (l.ps.getD j0 iE.zero) j0) 0 l.ps.length 256) ++ bJ (fun j0:Nat=>eu l (l.rs.getD j0 aA.zero) j0) (0 + (l.ps.length:Int)) l.rs.length 1024)) ((0 + (l.ps.length:Int)) + (l.rs.length:Int))) (fun _=>True) (fun _=>.tuple #[]) (fun _=>Upd.head) List.mem_cons_self en64 (.cons (.t rfl) (.cons (.t rfl) (.cons (.c (v:=I 1024) rfl) (.cons (.t rfl) .nil)))) (fun w I=>list_111 65 [bW.val kb.k] [] (eu l) (fun _ _=>True) b3 o1 ([] ++ bJ (fun j0:Nat=>fw l.ps (l.ps.getD j0 iE.zero) j0) 0 l.ps.length 256) (0 + (l.ps.length:Int)) _ l.rs 1024 w en65 (at_mem List.mem_cons_self w I) (fun w1 k1=>hc.rs.aT (I.but Rem.head k1).keeps) (fun x i w1 h1 k1=>route_ok kb l x i w1 (jj (fun r hr=>by repeat first | exact List.mem_append_left _ hr | apply List.Mem.tail) w1 (I.but Rem.head k1))) (fun i hi=>trivial) (by constructor <;> omega) (by have:=dM (fun j0:Nat=>fw l.ps (l.ps.getD j0 iE.zero) j0) 0 l.ps.length 256; simp only [List.length_append,List.length_nil]; omega)) (fun o2 _=>?_))
  refine nP (sg (mv rfl (co (fA 2 (.t rfl)) ?_)))
  refine co (Ev.ldv ty24 (.t rfl) aV.dG) ?_
  refine co (Ev.ldv lr (.t rfl) (ak.id _)) ?_
  refine co (Ev.kY (f:=67) (.cons (.t rfl) .nil) .nil) ?_
  refine cons (callr (X:=OV) (r:=FR b3 o2 (([] ++ bJ (fun j0:Nat=>fw l.ps (l.ps.getD j0 iE.zero) j0) 0 l.ps.length 256) ++ bJ (fun j0:Nat=>eu l (l.rs.getD j0 aA.zero) j0) (0 + (l.ps.length:Int)) l.rs.length 1024) ((0 + (l.ps.length:Int)) + (l.rs.length:Int))) (r':=fun o2=>FR b3 o2 (((([] ++ bJ (fun j0:Nat=>fw l.ps (l.ps.getD j0 iE.zero) j0) 0 l.ps.length 256) ++ bJ (fun j0:Nat=>eu l (l.rs.getD j0 aA.zero) j0) (0 + (l.ps.length:Int)) l.rs.length 1024) ++ bJ (fun j0:Nat=>ft l (l.us.getD j0 aG.zero) j0) ((0 + (l.ps.length:Int)) + (l.rs.length:Int)) l.us.length 256)) (((0 + (l.ps.length:Int)) + (l.rs.length:Int)) + (l.us.length:Int))) (fun _=>True) (fun _=>.tuple #[]) (fun _=>Upd.head) List.mem_cons_self en66 (.cons (.t rfl) (.cons (.t rfl) (.cons (.c (v:=I 256) rfl) (.cons (.t rfl) .nil)))) (fun w I=>list_88 67 [bW.val kb.k] [] (ft l) (fun x _=>x ∈ l.us) b3 o2 (([] ++ bJ (fun j0:Nat=>fw l.ps (l.ps.getD j0 iE.zero) j0) 0 l.ps.length 256) ++ bJ (fun j0:Nat=>eu l (l.rs.getD j0 aA.zero) j0) (0 + (l.ps.length:Int)) l.rs.length 1024) ((0 + (l.ps.length:Int)) + (l.rs.length:Int)) _ l.us 256 w en67 (at_mem List.mem_cons_self w I) (fun w1 k1=>hc.us.aT (I.but Rem.head k1).keeps) (fun x i w1 h1 k1=>rule_ok kb l x i w1 (jj (fun r hr=>by repeat first | exact List.mem_append_left _ hr | apply List.Mem.tail) w1 (I.but Rem.head k1)) (hn.us x h1)) (fun i hi=>oh _ _ _ hi) (by constructor <;> omega) (by have:=dM (fun j0:Nat=>fw l.ps (l.ps.getD j0 iE.zero) j0) 0 l.ps.length 256; have:=dM (fun j0:Nat=>eu l (l.rs.getD j0 aA.zero) j0) (0 + (l.ps.length:Int)) l.rs.length 1024; simp only [List.length_append,List.length_nil]; omega)) (fun o3 _=>?_))
  refine nP (sg (mv rfl (co (fA 3 (.t rfl)) ?_)))
  refine co (Ev.ldv ty25 (.t rfl) aV.dJ) ?_
  refine co (Ev.ldv lr (.t rfl) (ak.id _)) ?_
  refine co (Ev.kY (f:=69) (.cons (.t rfl) .nil) .nil) ?_
  refine cons (callr (X:=OV) (r:=FR b3 o3 ((([] ++ bJ (fun j0:Nat=>fw l.ps (l.ps.getD j0 iE.zero) j0) 0 l.ps.length 256) ++ bJ (fun j0:Nat=>eu l (l.rs.getD j0 aA.zero) j0) (0 + (l.ps.length:Int)) l.rs.length 1024) ++ bJ (fun j0:Nat=>ft l (l.us.getD j0 aG.zero) j0) ((0 + (l.ps.length:Int)) + (l.rs.length:Int)) l.us.length 256) (((0 + (l.ps.length:Int)) + (l.rs.length:Int)) + (l.us.length:Int))) (r':=fun o2=>FR b3 o2 ((((([] ++ bJ (fun j0:Nat=>fw l.ps (l.ps.getD j0 iE.zero) j0) 0 l.ps.length 256) ++ bJ (fun j0:Nat=>eu l (l.rs.getD j0 aA.zero) j0) (0 + (l.ps.length:Int)) l.rs.length 1024) ++ bJ (fun j0:Nat=>ft l (l.us.getD j0 aG.zero) j0) ((0 + (l.ps.length:Int)) + (l.rs.length:Int)) l.us.length 256) ++ bJ (fun j0:Nat=>fH l (l.ms.getD j0 ai.zero) j0) (((0 + (l.ps.length:Int)) + (l.rs.length:Int)) + (l.us.length:Int)) l.ms.length 64)) ((((0 + (l.ps.length:Int)) + (l.rs.length:Int)) + (l.us.length:Int)) + (l.ms.length:Int))) (fun _=>True) (fun _=>.tuple #[]) (fun _=>Upd.head) List.mem_cons_self en68 (.cons (.t rfl) (.cons (.t rfl) (.cons (.c (v:=I 64) rfl) (.cons (.t rfl) .nil)))) (fun w I=>list_75 69 [bW.val kb.k] [] (fH l) (fun x _=>x ∈ l.ms) b3 o3 ((([] ++ bJ (fun j0:Nat=>fw l.ps (l.ps.getD j0 iE.zero) j0) 0 l.ps.length 256) ++ bJ (fun j0:Nat=>eu l (l.rs.getD j0 aA.zero) j0) (0 + (l.ps.length:Int)) l.rs.length 1024) ++ bJ (fun j0:Nat=>ft l (l.us.getD j0 aG.zero) j0) ((0 + (l.ps.length:Int)) + (l.rs.length:Int)) l.us.length 256) (((0 + (l.ps.length:Int)) + (l.rs.length:Int)) + (l.us.length:Int)) _ l.ms 64 w en69 (at_mem List.mem_cons_self w I) (fun w1 k1=>hc.ms.aT (I.but Rem.head k1).keeps) (fun x i w1 h1 k1=>meter_ok kb l x i w1 (jj (fun r hr=>by repeat first | exact List.mem_append_left _ hr | apply List.Mem.tail) w1 (I.but Rem.head k1)) (hn.ms x h1)) (fun i hi=>oh _ _ _ hi) (by constructor <;> omega) (by have:=dM (fun j0:Nat=>fw l.ps (l.ps.getD j0 iE.zero) j0) 0 l.ps.length 256; have:=dM (fun j0:Nat=>eu l (l.rs.getD j0 aA.zero) j0) (0 + (l.ps.length:Int)) l.rs.length 1024; have:=dM (fun j0:Nat=>ft l (l.us.getD j0 aG.zero) j0) ((0 + (l.ps.length:Int)) + (l.rs.length:Int)) l.us.length 256; simp only [List.length_append,List.length_nil]; omega)) (fun o4 _=>?_))
  refine nP (sg (mv rfl (co (fA 4 (.t rfl)) ?_)))
  refine co (Ev.ldv ty26 (.t rfl) aV.db) ?_
  refine co (Ev.ldv lr (.t rfl) (ak.id _)) ?_
  refine co (Ev.kY (f:=71) (.cons (.t rfl) .nil) .nil) ?_
  refine cons (callr (X:=OV) (r:=FR b3 o4 (((([] ++ bJ (fun j0:Nat=>fw l.ps (l.ps.getD j0 iE.zero) j0) 0 l.ps.length 256) ++ bJ (fun j0:Nat=>eu l (l.rs.getD j0 aA.zero) j0) (0 + (l.ps.length:Int)) l.rs.length 1024) ++ bJ (fun j0:Nat=>ft l (l.us.getD j0 aG.zero) j0) ((0 + (l.ps.length:Int)) + (l.rs.length:Int)) l.us.length 256) ++ bJ (fun j0:Nat=>fH l (l.ms.getD j0 ai.zero) j0) (((0 + (l.ps.length:Int)) + (l.rs.length:Int)) + (l.us.length:Int)) l.ms.length 64) ((((0 + (l.ps.length:Int)) + (l.rs.length:Int)) + (l.us.length:Int)) + (l.ms.length:Int))) (r':=fun o2=>FR b3 o2 (((((([] ++ bJ (fun j0:Nat=>fw l.ps (l.ps.getD j0 iE.zero) j0) 0 l.ps.length 256) ++ bJ (fun j0:Nat=>eu l (l.rs.getD j0 aA.zero) j0) (0 + (l.ps.length:Int)) l.rs.length 1024) ++ bJ (fun j0:Nat=>ft l (l.us.getD j0 aG.zero) j0) ((0 + (l.ps.length:Int)) + (l.rs.length:Int)) l.us.length 256) ++ bJ (fun j0:Nat=>fH l (l.ms.getD j0 ai.zero) j0) (((0 + (l.ps.length:Int)) + (l.rs.length:Int)) + (l.us.length:Int)) l.ms.length 64) ++ bJ (fun j0:Nat=>fN l (l.xs.getD j0 ae.zero) j0) ((((0 + (l.ps.length:Int)) + (l.rs.length:Int)) + (l.us.length:Int)) + (l.ms.length:Int)) l.xs.length 16)) (((((0 + (l.ps.length:Int)) + (l.rs.length:Int)) + (l.us.length:Int)) + (l.ms.length:Int)) + (l.xs.length:Int))) (fun _=>True) (fun _=>.tuple #[]) (fun _=>Upd.head) List.mem_cons_self en70 (.cons (.t rfl) (.cons (.t rfl) (.cons (.c (v:=I 16) rfl) (.cons (.t rfl) .nil)))) (fun w I=>list_77 71 [bW.val kb.k] [] (fN l) (fun x _=>x ∈ l.xs) b3 o4 (((([] ++ bJ (fun j0:Nat=>fw l.ps (l.ps.getD j0 iE.zero) j0) 0 l.ps.length 256) ++ bJ (fun j0:Nat=>eu l (l.rs.getD j0 aA.zero) j0) (0 + (l.ps.length:Int)) l.rs.length 1024) ++ bJ (fun j0:Nat=>ft l (l.us.getD j0 aG.zero) j0) ((0 + (l.ps.length:Int)) + (l.rs.length:Int)) l.us.length 256) ++ bJ (fun j0:Nat=>fH l (l.ms.getD j0 ai.zero) j0) (((0 + (l.ps.length:Int)) + (l.rs.length:Int)) + (l.us.length:Int)) l.ms.length 64) ((((0 + (l.ps.length:Int)) + (l.rs.length:Int)) + (l.us.length:Int)) + (l.ms.length:Int)) _ l.xs 16 w en71 (at_mem List.mem_cons_self w I) (fun w1 k1=>hc.xs.aT (I.but Rem.head k1).keeps) (fun x i w1 h1 k1=>mirror_ok kb l x i w1 (jj (fun r hr=>by repeat first | exact List.mem_append_left _ hr | apply List.Mem.tail) w1 (I.but Rem.head k1)) (hn.xs x h1)) (fun i hi=>oh _ _ _ hi) (by constructor <;> omega) (by have:=dM (fun j0:Nat=>fw l.ps (l.ps.getD j0 iE.zero) j0) 0 l.ps.length 256; have:=dM (fun j0:Nat=>eu l (l.rs.getD j0 aA.zero) j0) (0 + (l.ps.length:Int)) l.rs.length 1024; have:=dM (fun j0:Nat=>ft l (l.us.getD j0 aG.zero) j0) ((0 + (l.ps.length:Int)) + (l.rs.length:Int)) l.us.length 256; have:=dM (fun j0:Nat=>fH l (l.ms.getD j0 ai.zero) j0) (((0 + (l.ps.length:Int)) + (l.rs.length:Int)) + (l.us.length:Int)) l.ms.length 64; simp only [List.length_append,List.length_nil]; omega)) (fun o5 _=>?_))
  refine nP (cut (X:=OV) (fun x:OV=>True) (fun x:OV=>[dz,(4,true,.pointer (some ⟨b3,0,none⟩))]) (fun x:OV=>[Var b3 bD ⟨x,(((((0 + (l.ps.length:Int)) + (l.rs.length:Int)) + (l.us.length:Int)) + (l.ms.length:Int)) + (l.xs.length:Int))⟩ 161,aP x.v aY (jw l c.default) 173]) ?_ (fun x hx=>?_))
  · refine sg (ju Rem.head ?_)
    refine co (fA 5 (.t rfl)) ?_
    refine co (Ev.ldv ty3 (.t rfl) aV.eF) ?_
    refine co (Ev.eX (.t rfl) (.c (v:=I 1) rfl)) ?_
    refine mv rfl (cg rfl rfl (fA 5 (.t rfl)) ?_)
    refine cg rfl rfl (Ev.ldv ty3 (.g rfl id) aV.eF) ?_
    refine cg rfl rfl (Ev.eX (.g rfl id) (.c (v:=I 2) rfl)) ?_
    refine co (Ev.pkA (.t rfl) rfl) ?_
    refine mv rfl (cg rfl rfl (fA 5 (.t rfl)) ?_)
    refine cg rfl rfl (Ev.ldv ty3 (.g rfl id) aV.eF) ?_
    refine cg rfl rfl (Ev.eX (.g rfl id) (.c (v:=I 4) rfl)) ?_
    refine co (Ev.pkA (.t rfl) rfl) ?_
    refine nP ?_
    first | refine aL rfl (fun h0=>?_) (fun h0=>?_) | refine cond rfl (fun h0=>?_) (fun h0=>?_)
    · have hdb:kL c.default = true:=(defBad_eq _).trans h0
      refine draw [] zk ?_
      refine tk 0 rfl (Ev.move (.t rfl)) ?_
      refine tk 1 rfl (Ev.move (.t rfl)) ?_
      refine tk 2 rfl (Ev.nilCheck (.t rfl)) ?_
      refine tk 3 rfl (fA 0 (.t rfl)) ?_
      refine tk 5 rfl (Ev.move (.t rfl)) ?_
      refine tk 6 rfl (Ev.nilCheck (.t rfl)) ?_
      refine tk 7 rfl (fA 1 (.t rfl)) ?_
      refine all [4,8] zk (by decide) (.cons rfl ?_ (.cons rfl ?_ .nil))
      · refine (opv (Ev.ldv bY (.t rfl) av.l_l) ?_)
        refine hdn (al1 8 rfl ((opv (Ev.ldv ty3 (.t rfl) av.cA) ?_)))
        refine hdn (tk 9 rfl (Ev.aQ (fs:=_) (places:=[(0,1),(1,1)]) dK rfl Tryz.underlying173 zk (.cons (.c (v:=I 2) rfl) (.cons (.t rfl) .nil)) (aj.cons br.ez rfl (aj.cons br.cA rfl aj.nil))) ?_)
        refine al1 10 rfl ((buildSlice (E:=aY) Tryz.underlying112 cj dK (.cons (.t rfl) .nil) rfl rfl (fun v4=>?_)))
        refine hdn (al1 11 rfl ((app (E:=aY) Tryz.underlying112 cj ed eb (.t rfl) (.t rfl) (fun v5=>?_) (hby:=⟨by (show _ ≤ 9223372036854775807); have:=gy l; simp only [List.length_cons,List.length_nil]; unfold gG at this; omega,by have:=gy l; simp only [List.length_cons,List.length_nil]; unfold gG at this; omega⟩))))
        refine hdn (tk 12 rfl (Ev.nilCheck (.t rfl)) ?_)
        refine tk 13 rfl (fA 0 (.t rfl)) ?_
        refine al1 14 rfl ((stv bY av.l_l (.t rfl) (.t rfl) ?_))
        refine hdn (ovr (pN (mt (X:=OV) (_) trivial (hL:=(by unfold jw; (first | rw [if_pos hdb] | rw [if_neg hdb,List.append_nil]); repeat first | exact sR | exact sN | apply sC | apply sS | apply sA)))))
      · refine (opv (Ev.ldv ty3 (.t rfl) av.cA) ?_)
        refine hdn (tk 9 rfl (Ev.aQ (fs:=_) (places:=[(0,1),(1,1)]) dK rfl Tryz.underlying173 zk (.cons (.c (v:=I 2) rfl) (.cons (.t rfl) .nil)) (aj.cons br.ez rfl (aj.cons br.cA rfl aj.nil))) ?_)
        refine all [4,10] zk (by decide) (.cons rfl ?_ (.cons rfl ?_ .nil))
        · refine (opv (Ev.ldv bY (.t rfl) av.l_l) ?_)
          refine hdn (al1 10 rfl ((buildSlice (E:=aY) Tryz.underlying112 cj dK (.cons (.t rfl) .nil) rfl rfl (fun v6=>?_))))
          refine hdn (al1 11 rfl ((app (E:=aY) Tryz.underlying112 cj ed eb (.t rfl) (.t rfl) (fun v7=>?_) (hby:=⟨by (show _ ≤ 9223372036854775807); have:=gy l; simp only [List.length_cons,List.length_nil]; unfold gG at this; omega,by have:=gy l; simp only [List.length_cons,List.length_nil]; unfold gG at this; omega⟩))))
          refine hdn (tk 12 rfl (Ev.nilCheck (.t rfl)) ?_)
          refine tk 13 rfl (fA 0 (.t rfl)) ?_
          refine al1 14 rfl ((stv bY av.l_l (.t rfl) (.t rfl) ?_))
          refine hdn (ovr (pN (mt (X:=OV) (_) trivial (hL:=(by unfold jw; (first | rw [if_pos hdb] | rw [if_neg hdb,List.append_nil]); repeat first | exact sR | exact sN | apply sC | apply sS | apply sA)))))
        · refine (buildSlice (E:=aY) Tryz.underlying112 cj dK (.cons (.t rfl) .nil) rfl rfl (fun v8=>?_))
          refine hdn (al1 4 rfl ((opv (Ev.ldv bY (.t rfl) av.l_l) ?_)))
          refine hdn (al1 11 rfl ((app (E:=aY) Tryz.underlying112 cj ed eb (.t rfl) (.t rfl) (fun v9=>?_) (hby:=⟨by (show _ ≤ 9223372036854775807); have:=gy l; simp only [List.length_cons,List.length_nil]; unfold gG at this; omega,by have:=gy l; simp only [List.length_cons,List.length_nil]; unfold gG at this; omega⟩))))
          refine hdn (tk 12 rfl (Ev.nilCheck (.t rfl)) ?_)
          refine tk 13 rfl (fA 0 (.t rfl)) ?_
          refine al1 14 rfl ((stv bY av.l_l (.t rfl) (.t rfl) ?_))
          refine hdn (ovr (pN (mt (X:=OV) (_) trivial (hL:=(by unfold jw; (first | rw [if_pos hdb] | rw [if_neg hdb,List.append_nil]); repeat first | exact sR | exact sN | apply sC | apply sS | apply sA)))))
    · have hdb:¬ kL c.default = true:=by rw [show kL c.default = false from (defBad_eq _).trans h0]; exact Bool.false_ne_true
      refine skip (pN (mt (X:=OV) (_) trivial (hL:=(by unfold jw; (first | rw [if_pos hdb] | rw [if_neg hdb,List.append_nil]); repeat first | exact sR | exact sN | apply sC | apply sS | apply sA))))
  obtain ⟨q,rfl⟩:∃ y,y = x:=⟨x,rfl⟩
  show Sat _ _ [dz,(4,true,.pointer (some ⟨b3,0,none⟩))] [Var b3 bD ⟨q,(((((0 + (l.ps.length:Int)) + (l.rs.length:Int)) + (l.us.length:Int)) + (l.ms.length:Int)) + (l.xs.length:Int))⟩ 161,aP q.v aY (jw l c.default) 173]
  refine sg (mv rfl (co (Ev.nilCheck (.t rfl)) ?_))
  refine co (fA 0 (.t rfl)) ?_
  refine co (Ev.ldv bY (.t rfl) av.l_l) ?_
  refine asn rfl (nP (ret (done rfl (.tmp rfl .nil) (kv zm ?_))))
  rfl
def kE (l:CL) (d:Int):Bool:=decide (jw l d = [])
theorem en26:Gx.aC Tryz.prog 26:=Gx.aC.mk' zk
theorem may_ok (c:aV) (l:CL) (w:World) (hc:gw w c l) (hn:l.Names) (hz:l.n ≤ 4611686018427387904):Gx.Calls Tryz.prog 11 #[aK.val c] w (cD w (.bool (kE l c.default))):=by
  refine en0 7 Tryz.func11 (fun _ _=>?_)
  refine sg (cons (box (E:=aK) (.t rfl) (fun b1=>?_)))
  refine co (Ev.assign (.c (v:=.bool false) rfl)) ?_
  refine nP (sg (co (Ev.ldx c ty28 (.t rfl) (ak.id _)) ?_))
  refine cons (callo en26 (.cons (.t rfl) .nil) (fun w I=>conf_check c l w (hc.aT I.keeps) hn hz) (fun v2=>?_))
  refine co (Ev.len Tryz.underlying112 (.t rfl) zf) ?_
  refine co (Ev.fD (.t rfl) (.c (v:=I 0) rfl)) ?_
  refine asn rfl (nP (ret (done rfl (.tmp rfl .nil) (bc ?_))))
  unfold kE
  refine congrArg Value.bool ?_
  rw [Bool.eq_iff_iff,decide_eq_true_iff,decide_eq_true_iff,← List.length_eq_zero_iff]
  omega
theorem iN {e:Nat→Int} {d:Int} {n most:Nat} (h:bJ e d n most = []):n ≤ most:=by
  unfold bJ at h
  have h2:=(List.append_eq_nil_iff.1 h).2
  by_cases hm:most < n
  · rw [if_pos hm] at h2; cases h2
  · omega
theorem oW {l:CL} {d:Int} (h:kE l d = true):l.ps.length ≤ 256 ∧ l.rs.length ≤ 1024 ∧ l.us.length ≤ 256 ∧ l.ms.length ≤ 64 ∧ l.xs.length ≤ 16:=by
  unfold kE jw gG at h
  have h:=(List.append_eq_nil_iff.1 (of_decide_eq_true h)).1
  have e5:=List.append_eq_nil_iff.1 h
  have e4:=List.append_eq_nil_iff.1 e5.1
  have e3:=List.append_eq_nil_iff.1 e4.1
  have e2:=List.append_eq_nil_iff.1 e3.1
  have e1:=List.append_eq_nil_iff.1 e2.1
  exact ⟨iN e1.2,iN e2.2,iN e3.2,iN e4.2,iN e5.2⟩
theorem mP {e:Nat→Int} {d:Int}:∀ {n:Nat},cJ e d n = []→∀ i,i < n→e i = 0
  | 0,_,i,hi=>absurd hi (Nat.not_lt_zero _)
  | n + 1,h,i,hi=>by
    unfold cJ at h
    obtain ⟨h1,h2⟩:=List.append_eq_nil_iff.1 h
    by_cases hin:i < n
    · exact mP h1 i hin
    · obtain rfl:i = n:=by omega
      by_cases he:e i = 0
      · exact he
      · rw [if_neg he] at h2
        cases h2
theorem kG {e:Nat→Int} {d:Int} {n most:Nat} (h:bJ e d n most = []):∀ i,i < n→e i = 0:=by
  have hm:=iN h
  unfold bJ at h
  rw [Nat.min_eq_left hm] at h
  exact mP (List.append_eq_nil_iff.1 h).1
structure CL.Good (l:CL) (d:Int):Prop where
  ps:∀ i,i < l.ps.length→fw l.ps (l.ps.getD i iE.zero) i = 0
  rs:∀ i,i < l.rs.length→eu l (l.rs.getD i aA.zero) i = 0
  us:∀ i,i < l.us.length→ft l (l.us.getD i aG.zero) i = 0
  ms:∀ i,i < l.ms.length→fH l (l.ms.getD i ai.zero) i = 0
  xs:∀ i,i < l.xs.length→fN l (l.xs.getD i ae.zero) i = 0
  d:kL d = false
theorem kD {l:CL} {d:Int} (h:kE l d = true):l.Good d:=by
  unfold kE jw gG at h
  have h0:=List.append_eq_nil_iff.1 (of_decide_eq_true h)
  have e5:=List.append_eq_nil_iff.1 h0.1
  have e4:=List.append_eq_nil_iff.1 e5.1
  have e3:=List.append_eq_nil_iff.1 e4.1
  have e2:=List.append_eq_nil_iff.1 e3.1
  have e1:=List.append_eq_nil_iff.1 e2.1
  refine ⟨kG e1.2,kG e2.2,kG e3.2,kG e4.2,kG e5.2,?_⟩
  cases hd:kL d with
  | false=>rfl
  | true=>rw [hd,if_pos rfl] at h0; exact absurd h0.2 (by simp)
theorem mb {α κ:Type} {q:κ→κ→Bool} (hi:∀ x y,q x y = true ↔ x = y) (f:α→κ) (l:List α) (k:κ):∀ n,n ≤ l.length→cM q k (ca q f l n) = ((l.take n).findIdx? (fun x=>q (f x) k)).map (fun i:Nat=>(i:Int))
  | 0,_=>by simp [ca,cM,fy]
  | n + 1,h=>by
    have hlt:n < l.length:=by omega
    have ih:=mb hi f l k n (by omega)
    have ihx:=mb hi f l (f l[n]) n (by omega)
    have e:l[n]? = some l[n]:=List.getElem?_eq_getElem hlt
    have hlen:(l.take n).length = n:=by simp; omega
    rw [ca,e,List.take_succ_eq_append_getElem hlt,List.findIdx?_append]
    simp only
    cases hs:(cM q (f l[n]) (ca q f l n)).isSome with
    | true =>
      rw [if_pos rfl,ih]
      cases hk:(l.take n).findIdx? (fun x=>q (f x) k) with
      | some i=>simp
      | none =>
        have hq:q (f l[n]) k = false:=by
          rw [Bool.eq_false_iff]
          intro hq
          have e2:=(hi _ _).1 hq
          subst e2
          rw [ihx,hk] at hs
          cases hs
        simp [List.findIdx?_cons,hq]
    | false =>
      rw [if_neg Bool.false_ne_true,jJ hi]
      have hn:(l.take n).findIdx? (fun x=>q (f x) (f l[n])) = none:=by
        rw [ihx] at hs
        cases h2:(l.take n).findIdx? (fun x=>q (f x) (f l[n])) with
        | none=>rfl
        | some i=>rw [h2] at hs; cases hs
      by_cases hq:q k (f l[n]) = true
      · have e2:=(hi _ _).1 hq
        subst e2
        rw [if_pos hq,hn]
        simp [List.findIdx?_cons,hq,hlen]
      · rw [if_neg hq,ih]
        have hq2:q (f l[n]) k = false:=by
          rw [Bool.eq_false_iff]
          intro h2
          exact hq ((hi _ _).2 ((hi _ _).1 h2).symm)
        cases hk:(l.take n).findIdx? (fun x=>q (f x) k) <;> simp [List.findIdx?_cons,hq2]
theorem find_all {α κ:Type} {q:κ→κ→Bool} (hi:∀ x y,q x y = true ↔ x = y) (f:α→κ) (l:List α) (k:κ):cM q k (ca q f l l.length) = (l.findIdx? (fun x=>q (f x) k)).map (fun i:Nat=>(i:Int)):=by
  rw [mb hi f l k _ (Nat.le_refl _),List.take_length]
theorem find_at {α κ:Type} {q:κ→κ→Bool} (hi:∀ x y,q x y = true ↔ x = y) (f:α→κ) (l:List α) (z:α) (i:Nat) (h:i < l.length):(cM q (f (l.getD i z)) (ca q f l l.length)).getD 0 = idxF (fun x=>q (f x) (f (l.getD i z))) l:=by
  rw [find_all hi]
  unfold idxF
  cases hk:l.findIdx? (fun x=>q (f x) (f (l.getD i z))) with
  | some j=>rfl
  | none =>
    have:=List.findIdx?_eq_none_iff.1 hk (l.getD i z) (oh _ _ _ h)
    rw [(hi _ _).2 rfl] at this
    cases this
abbrev KeyE {κ:Type} (e:κ→κ→Bool):Prop:=∀ a b,e a b = true ↔ a = b
theorem idxF_le {α:Type} {p:α→Bool} {l:List α} {i:Nat} (h:i < l.length) (hp:p l[i] = true):0 ≤ idxF p l ∧ idxF p l ≤ i:=by
  unfold idxF
  cases e:l.findIdx? p with
  | none =>
    have:=List.findIdx?_eq_none_iff.1 e l[i] (List.getElem_mem h)
    rw [hp] at this
    cases this
  | some m =>
    obtain ⟨h1,h2,h3⟩:=List.findIdx?_eq_some_iff_getElem.1 e
    simp only
    rcases Nat.lt_or_ge i m with h4 | h4
    · exact absurd hp (h3 i h4)
    · omega
theorem kA {α κ:Type} {q:κ→κ→Bool} (hi:KeyE q) {f:α→κ} {l:List α} (z:α) (h:∀ i,i < l.length→¬ (cM q (f (l.getD i z)) (ca q f l l.length)).getD 0 < (i:Int)):(l.map f).Nodup:=by
  refine List.pairwise_iff_getElem.2 fun i j h1 h2 hij e=>?_
  have h1':i < l.length:=by simpa using h1
  have h2':j < l.length:=by simpa using h2
  have hj:=h j h2'
  rw [find_at hi f l z j h2'] at hj
  have e2:l.getD j z = l[j]:=by simp [List.getD,h2']
  rw [e2] at hj
  have:=(idxF_le (p:=fun x=>q (f x) (f l[j])) h1' ((hi _ _).2 (by simpa using e))).2
  omega
theorem routeE_z {l:CL} {r:aU} {i:Int}:eu l r i = 0 ↔ cO r.to_ = 0 ∧ portB l r.out = true ∧ ¬ (cM aq.eqb r.to_ (oa l)).getD 0 < i:=by
  unfold eu
  split
  · rename_i h; simp [h]
  · split
    · rename_i h; simp [h]
    · split
      · rename_i h; simp [h]
      · rename_i h1 h2 h3
        simp only [ne_eq,Decidable.not_not] at h1
        simp [h1,h3]
        simpa using h2
theorem meterE_z {l:CL} {r:aJ} {i:Int}:fH l r i = 0 ↔ fZ r.name = true ∧ ckB r.bucket = 0 ∧ ¬ (cM eqs r.name (iD l)).getD 0 < i:=by
  unfold fH
  split
  · rename_i h; simp [h]
  · split
    · rename_i h1 h2
      constructor
      · intro h
        cases h
      · intro hh
        rcases h2 with h | h
        · exact absurd h hh.2.2
        · exact absurd hh.2.1 h
    · rename_i h1 h2
      simp only [not_or,ne_eq,Decidable.not_not] at h2
      exact ⟨fun _=>⟨by simpa using h1,h2.2,h2.1⟩,fun _=>rfl⟩
theorem mirrorE_z {l:CL} {r:aD} {i:Int}:fN l r i = 0 ↔ fZ r.name = true ∧ portB l r.out = true ∧ roomB r.room = true ∧ ¬ (cM eqs r.name (gL l)).getD 0 < i:=by
  unfold fN
  split
  · rename_i h; simp [h]
  · split
    · rename_i h; simp [h]
    · split
      · rename_i h; simp [h]
      · split
        · rename_i h; simp [h]
        · rename_i h1 h2 h3 h4
          exact ⟨fun _=>⟨by simpa using h1,by simpa using h3,by simpa using h4,h2⟩,fun _=>rfl⟩
theorem good_rs {l:CL} {d:Int} (h:l.Good d):(l.rs.map (·.to_)).Nodup:=kA aq.bQ aA.zero fun i hi=>(routeE_z.1 (h.rs i hi)).2.2
theorem good_ms {l:CL} {d:Int} (h:l.Good d):(l.ms.map (·.name)).Nodup:=kA gN ai.zero fun i hi=>(meterE_z.1 (h.ms i hi)).2.2
theorem good_xs {l:CL} {d:Int} (h:l.Good d):(l.xs.map (·.name)).Nodup:=kA gN ae.zero fun i hi=>(mirrorE_z.1 (h.xs i hi)).2.2.2
def qM (k:Nat) (m:aB) (n:Int) (h:au):Bool:=match k with
  | 0=>nW m.in_ n
  | 1=>decide (h.bj = m.bj)
  | 2=>jI m.src h.src
  | 3=>jI m.dst h.dst
  | 4=>nW m.bx h.bx.toNat
  | _=>nW m.bm h.bm.toNat
def fM (k:Nat):Nat:=([78,80,81,83,84,85]:List Nat).getD k 0
def ksA (c:Bool) (k:Nat) (l:List Nat):List Nat:=bif c then l ++ [k] else l
def ks (m:aB):List Nat:=ksA (cq m 32) 5 (ksA (cq m 16) 4 (ksA (cq m 4) 3 (ksA (cq m 2) 2 (ksA (cq m 8) 1 (ksA (cq m 1) 0 [])))))
def dB (p:Nat) (l:List Nat):List OV:=l.map fun k=>clo (fM k) [.pointer (some ⟨p,0,none⟩)]
def im (m:aB) (p:Nat):List OV:=dB p (ks m)
theorem kZ {c:Bool} {k j:Nat} {l:List Nat} (h:j ∈ ksA c k l):j = k ∨ j ∈ l:=by
  unfold ksA at h
  cases c
  · exact .inr h
  · rcases List.mem_append.1 h with h | h
    · exact .inr h
    · exact .inl (List.mem_singleton.1 h)
theorem ks_lt {m:aB} {k:Nat} (h:k ∈ ks m):k < 6:=by
  unfold ks at h
  rcases kZ h with rfl | h <;> (try omega)
  rcases kZ h with rfl | h <;> (try omega)
  rcases kZ h with rfl | h <;> (try omega)
  rcases kZ h with rfl | h <;> (try omega)
  rcases kZ h with rfl | h <;> (try omega)
  rcases kZ h with rfl | h <;> (try omega)
  cases h
def nT (m:aB) (n:Int) (h:au):Bool:=(ks m).all fun k=>qM k m n h
def meetsB (m:aB) (n:Int) (h:au):Bool:=okM m && nT m n h
theorem en79:Gx.aC Tryz.prog 79:=Gx.aC.mk' zk
theorem cl0_ok (m:aB) (n:Int) (h:au) (p hp:Nat) (w:World) (hm:cE ay w p 0 m) (hh:cE bS w hp 0 h):Gx.Calls Tryz.prog 78 #[I n,.pointer (some ⟨hp,0,none⟩),.pointer (some ⟨p,0,none⟩)] w (cD w (.bool (qM 0 m n h))):=by
  refine en0 10 Tryz.func78 (fun _ _=>?_)
  refine sg (co (Ev.assign (.c (v:=.bool false) rfl)) ?_)
  refine nP (sg (co (fA 1 (.t rfl)) ?_))
  refine co (Ev.load ty82 (.t rfl) (cU (fun w I=>hm.cB I.keeps) aB.jF)) ?_
  refine mv rfl (cons (aZ en79 (.cons (.t rfl) (.cons (.t rfl) .nil)) (fun w I=>mZ _ _ w) ?_))
  refine asn rfl (nP (ret (done rfl (.tmp rfl .nil) (bc ?_))))
  rfl
theorem cl1_ok (m:aB) (n:Int) (h:au) (p hp:Nat) (w:World) (hm:cE ay w p 0 m) (hh:cE bS w hp 0 h):Gx.Calls Tryz.prog 80 #[I n,.pointer (some ⟨hp,0,none⟩),.pointer (some ⟨p,0,none⟩)] w (cD w (.bool (qM 1 m n h))):=by
  refine en0 13 Tryz.func80 (fun _ _=>?_)
  refine sg (co (Ev.assign (.c (v:=.bool false) rfl)) ?_)
  refine nP (seq (df zk ?_))
  refine tk 0 rfl (Ev.move (.t rfl)) ?_
  refine tk 1 rfl (Ev.nilCheck (.t rfl)) ?_
  refine tk 2 rfl (fA 34 (.t rfl)) ?_
  refine tk 3 rfl (Ev.load ty5 (.t rfl) (cU (fun w I=>hh.cB I.keeps) au.dH)) ?_
  refine tk 4 rfl (fA 39 (.t rfl)) ?_
  refine tk 5 rfl (Ev.load ty5 (.t rfl) (cU (fun w I=>hm.cB I.keeps) aB.dH)) ?_
  refine tk 6 rfl (Ev.eql_u8 (.t rfl) (.t rfl)) ?_
  refine tk 7 rfl (Ev.assign (.t rfl)) ?_
  refine ovr (pN (ret (done rfl (.tmp rfl .nil) (bc ?_))))
  rfl
theorem cl2_ok (m:aB) (n:Int) (h:au) (p hp:Nat) (w:World) (hm:cE ay w p 0 m) (hh:cE bS w hp 0 h):Gx.Calls Tryz.prog 81 #[I n,.pointer (some ⟨hp,0,none⟩),.pointer (some ⟨p,0,none⟩)] w (cD w (.bool (qM 2 m n h))):=by
  refine en0 13 Tryz.func81 (fun _ _=>?_)
  refine sg (co (Ev.assign (.c (v:=.bool false) rfl)) ?_)
  refine nP (seq (df zk ?_))
  refine tk 0 rfl (fA 3 (.t rfl)) ?_
  refine tk 1 rfl (Ev.load cW (.t rfl) (cU (fun w I=>hm.cB I.keeps) aB.ee)) ?_
  refine tk 2 rfl (Ev.move (.t rfl)) ?_
  refine tk 3 rfl (Ev.nilCheck (.t rfl)) ?_
  refine tk 4 rfl (fA 0 (.t rfl)) ?_
  refine tk 5 rfl (Ev.load fF (.t rfl) (cU (fun w I=>hh.cB I.keeps) au.ee)) ?_
  refine al1 6 rfl ((aZ en82 (.cons (.t rfl) (.cons (.t rfl) .nil)) (fun w I=>hasP_ok _ _ w) ?_))
  refine hdn (tk 7 rfl (Ev.assign (.t rfl)) ?_)
  refine ovr (pN (ret (done rfl (.tmp rfl .nil) (bc ?_))))
  rfl
theorem cl3_ok (m:aB) (n:Int) (h:au) (p hp:Nat) (w:World) (hm:cE ay w p 0 m) (hh:cE bS w hp 0 h):Gx.Calls Tryz.prog 83 #[I n,.pointer (some ⟨hp,0,none⟩),.pointer (some ⟨p,0,none⟩)] w (cD w (.bool (qM 3 m n h))):=by
  refine en0 13 Tryz.func83 (fun _ _=>?_)
  refine sg (co (Ev.assign (.c (v:=.bool false) rfl)) ?_)
  refine nP (seq (df zk ?_))
  refine tk 0 rfl (fA 21 (.t rfl)) ?_
  refine tk 1 rfl (Ev.load cW (.t rfl) (cU (fun w I=>hm.cB I.keeps) aB.iA)) ?_
  refine tk 2 rfl (Ev.move (.t rfl)) ?_
  refine tk 3 rfl (Ev.nilCheck (.t rfl)) ?_
  refine tk 4 rfl (fA 17 (.t rfl)) ?_
  refine tk 5 rfl (Ev.load fF (.t rfl) (cU (fun w I=>hh.cB I.keeps) au.iA)) ?_
  refine al1 6 rfl ((aZ en82 (.cons (.t rfl) (.cons (.t rfl) .nil)) (fun w I=>hasP_ok _ _ w) ?_))
  refine hdn (tk 7 rfl (Ev.assign (.t rfl)) ?_)
  refine ovr (pN (ret (done rfl (.tmp rfl .nil) (bc ?_))))
  rfl
theorem cl4_ok (m:aB) (n:Int) (h:au) (p hp:Nat) (w:World) (hm:cE ay w p 0 m) (hh:cE bS w hp 0 h):Gx.Calls Tryz.prog 84 #[I n,.pointer (some ⟨hp,0,none⟩),.pointer (some ⟨p,0,none⟩)] w (cD w (.bool (qM 4 m n h))):=by
  refine en0 14 Tryz.func84 (fun _ _=>?_)
  refine sg (co (Ev.assign (.c (v:=.bool false) rfl)) ?_)
  refine nP (seq (df zk ?_))
  refine tk 0 rfl (fA 40 (.t rfl)) ?_
  refine tk 1 rfl (Ev.load ty82 (.t rfl) (cU (fun w I=>hm.cB I.keeps) aB.da)) ?_
  refine tk 2 rfl (Ev.move (.t rfl)) ?_
  refine tk 3 rfl (Ev.nilCheck (.t rfl)) ?_
  refine tk 4 rfl (fA 35 (.t rfl)) ?_
  refine tk 5 rfl (Ev.load gE (.t rfl) (cU (fun w I=>hh.cB I.keeps) au.da)) ?_
  refine tk 6 rfl (Ev.jX Tryz.underlying3 Tryz.underlying43 (.t rfl)) ?_
  refine al1 7 rfl ((aZ en79 (.cons (.t rfl) (.cons (.t rfl) .nil)) (fun w I=>mZ _ _ w) ?_))
  refine hdn (tk 8 rfl (Ev.assign (.t rfl)) ?_)
  refine ovr (pN (ret (done rfl (.tmp rfl .nil) (bc ?_))))
  rfl
theorem cl5_ok (m:aB) (n:Int) (h:au) (p hp:Nat) (w:World) (hm:cE ay w p 0 m) (hh:cE bS w hp 0 h):Gx.Calls Tryz.prog 85 #[I n,.pointer (some ⟨hp,0,none⟩),.pointer (some ⟨p,0,none⟩)] w (cD w (.bool (qM 5 m n h))):=by
  refine en0 14 Tryz.func85 (fun _ _=>?_)
  refine sg (co (Ev.assign (.c (v:=.bool false) rfl)) ?_)
  refine nP (seq (df zk ?_))
  refine tk 0 rfl (fA 42 (.t rfl)) ?_
  refine tk 1 rfl (Ev.load ty82 (.t rfl) (cU (fun w I=>hm.cB I.keeps) aB.cS)) ?_
  refine tk 2 rfl (Ev.move (.t rfl)) ?_
  refine tk 3 rfl (Ev.nilCheck (.t rfl)) ?_
  refine tk 4 rfl (fA 36 (.t rfl)) ?_
  refine tk 5 rfl (Ev.load gE (.t rfl) (cU (fun w I=>hh.cB I.keeps) au.cS)) ?_
  refine tk 6 rfl (Ev.jX Tryz.underlying3 Tryz.underlying43 (.t rfl)) ?_
  refine al1 7 rfl ((aZ en79 (.cons (.t rfl) (.cons (.t rfl) .nil)) (fun w I=>mZ _ _ w) ?_))
  refine hdn (tk 8 rfl (Ev.assign (.t rfl)) ?_)
  refine ovr (pN (ret (done rfl (.tmp rfl .nil) (bc ?_))))
  rfl
theorem en78:Gx.aC Tryz.prog 78:=Gx.aC.mk' zk
theorem en80:Gx.aC Tryz.prog 80:=Gx.aC.mk' zk
theorem en81:Gx.aC Tryz.prog 81:=Gx.aC.mk' zk
theorem en83:Gx.aC Tryz.prog 83:=Gx.aC.mk' zk
theorem en84:Gx.aC Tryz.prog 84:=Gx.aC.mk' zk
theorem en85:Gx.aC Tryz.prog 85:=Gx.aC.mk' zk
theorem cl_en:∀ k,k < 6→Gx.aC Tryz.prog (fM k)
  | 0,_=>en78
  | 1,_=>en80
  | 2,_=>en81
  | 3,_=>en83
  | 4,_=>en84
  | 5,_=>en85
  | k + 6,h=>absurd h (by omega)
theorem cl_ok:∀ k,k < 6→∀ (m:aB) (n:Int) (h:au) (p hp:Nat) (w:World) (hm:cE ay w p 0 m) (hh:cE bS w hp 0 h),Gx.Calls Tryz.prog (fM k) #[I n,.pointer (some ⟨hp,0,none⟩),.pointer (some ⟨p,0,none⟩)] w (cD w (.bool (qM k m n h)))
  | 0,_=>cl0_ok
  | 1,_=>cl1_ok
  | 2,_=>cl2_ok
  | 3,_=>cl3_ok
  | 4,_=>cl4_ok
  | 5,_=>cl5_ok
  | k + 6,h=>absurd h (by omega)
theorem je:bF Tryz.prog 186 (ovE bU):=bF.mk' zk zk
theorem z186:(Tryz.prog.info? 186).bind (·.zero) = some ((ovE bU).val (ovE bU).zero):=by kernel_rfl
theorem zb186:(Tryz.prog.info? 186).map (fun i=>(i.zero,i.bytes)) = some (some ((ovE bU).val (ovE bU).zero),8):=by kernel_rfl
theorem zs186:((ovE bU).val (ovE bU).zero).cells.size = (ovE bU).size:=by rw [Enc.cK,List.size_toArray,Enc.len]
theorem jo (m:aB) (w:World):Gx.Calls Tryz.prog 36 #[ay.val m] w (ja w (fun _:OV × Nat=>True) (fun x=>x.1.v) (fun x=>[aP x.1.v (ovE bU) (im m x.2) 186,Var x.2 ay m 86])):=by
  refine en0 41 Tryz.func36 (fun _ _=>?_)
  refine sg (cons (box (E:=ay) (.t rfl) (fun b1=>?_)))
  refine co (Ev.assign (.c (v:=(Go.Value.slice none 0 0)) rfl)) ?_
  refine nP (sg (co (Ev.assign (.c (v:=(Go.Value.slice none 0 0)) rfl)) ?_))
  refine fB (ovE bU) 186 ?_
  refine nP (cut (X:=OV × (List Nat)) (fun x:OV × (List Nat)=>(x.2 = ksA (cq m 1) 0 []) ∧ (x.2.length ≤ 1)) (fun x:OV × (List Nat)=>[dz,(1,true,.pointer (some ⟨b1,0,none⟩)),(3,true,x.1.v)]) (fun x:OV × (List Nat)=>[aP x.1.v (ovE bU) (dB b1 x.2) 186,Var b1 ay m 86]) ?_ (fun x hx=>?_))
  · refine sg (co (Ev.ldx m gU (.t rfl) (ak.id _)) ?_)
    refine cons (aZ pA (.cons (.t rfl) (.cons (.c (v:=U8 1) rfl) .nil)) (fun w I=>gQ _ _ w) ?_)
    refine nP ?_
    first | refine aL rfl (fun h0=>?_) (fun h0=>?_) | refine cond rfl (fun h0=>?_) (fun h0=>?_)
    · refine region (mv rfl (co (Ev.makeFunc (f:=78) (.cons (.t rfl) .nil)) ?_))
      refine cons (buildSlice (E:=(ovE bU)) Tryz.underlying130 je z186 (.cons (.t rfl) .nil) rfl rfl (fun v2=>?_))
      refine cons (app (E:=(ovE bU)) Tryz.underlying130 je zb186 zs186 (.t rfl) (.t rfl) (fun v3=>?_) (hby:=⟨by first | ((show _ ≤ 9223372036854775807); simp; done) | ((show _ ≤ 9223372036854775807); simp [dB]; omega),by first | (simp; done) | (simp [dB]; omega)⟩))
      refine asn rfl (nP (mt (X:=OV × (List Nat)) (_,[] ++ [0]) ⟨?_,?_⟩ (hL:=(by first | exact List.Sublist.refl _ | (simp only [dB,List.map_append,List.map_cons,List.map_nil]; repeat first | exact List.Sublist.refl _ | apply List.Sublist.cons_cons | apply List.Sublist.cons)))))
      · try dsimp only
        unfold ksA; simp_all [cq]
      · try dsimp only
        first | omega | (simp; omega) | simp
    · refine skip (pN (mt (X:=OV × (List Nat)) (aw,[]) ⟨?_,?_⟩ (hL:=(by first | exact List.Sublist.refl _ | (simp only [dB,List.map_append,List.map_cons,List.map_nil]; repeat first | exact List.Sublist.refl _ | apply List.Sublist.cons_cons | apply List.Sublist.cons)))))
      · try dsimp only
        unfold ksA; simp_all [cq]
      · try dsimp only
        first | omega | (simp; omega) | simp
  obtain ⟨o1,l1⟩:=x
  obtain ⟨hl1,hn1⟩:(l1 = ksA (cq m 1) 0 []) ∧ (l1.length ≤ 1):=hx
  show Sat _ _ [dz,(1,true,.pointer (some ⟨b1,0,none⟩)),(3,true,o1.v)] [aP o1.v (ovE bU) (dB b1 l1) 186,Var b1 ay m 86]
  refine cut (X:=OV × (List Nat)) (fun x:OV × (List Nat)=>(x.2 = ksA (cq m 8) 1 l1) ∧ (x.2.length ≤ 2)) (fun x:OV × (List Nat)=>[dz,(1,true,.pointer (some ⟨b1,0,none⟩)),(3,true,x.1.v)]) (fun x:OV × (List Nat)=>[aP x.1.v (ovE bU) (dB b1 x.2) 186,Var b1 ay m 86]) ?_ (fun x hx=>?_)
  · refine sg (co (Ev.ldx m gU (.t rfl) (ak.id _)) ?_)
    refine cons (aZ pA (.cons (.t rfl) (.cons (.c (v:=U8 8) rfl) .nil)) (fun w I=>gQ _ _ w) ?_)
    refine nP ?_
    first | refine aL rfl (fun h1=>?_) (fun h1=>?_) | refine cond rfl (fun h1=>?_) (fun h1=>?_)
    · refine region (mv rfl (co (Ev.makeFunc (f:=80) (.cons (.t rfl) .nil)) ?_))
      refine cons (buildSlice (E:=(ovE bU)) Tryz.underlying130 je z186 (.cons (.t rfl) .nil) rfl rfl (fun v4=>?_))
      refine cons (app (E:=(ovE bU)) Tryz.underlying130 je zb186 zs186 (.t rfl) (.t rfl) (fun v5=>?_) (hby:=⟨by first | ((show _ ≤ 9223372036854775807); simp; done) | ((show _ ≤ 9223372036854775807); simp [dB]; omega),by first | (simp; done) | (simp [dB]; omega)⟩))
      refine asn rfl (nP (mt (X:=OV × (List Nat)) (_,l1 ++ [1]) ⟨?_,?_⟩ (hL:=(by first | exact List.Sublist.refl _ | (simp only [dB,List.map_append,List.map_cons,List.map_nil]; repeat first | exact List.Sublist.refl _ | apply List.Sublist.cons_cons | apply List.Sublist.cons)))))
      · try dsimp only
        unfold ksA; simp_all [cq]
      · try dsimp only
        first | omega | (simp; omega) | simp
    · refine skip (pN (mt (X:=OV × (List Nat)) (o1,l1) ⟨?_,?_⟩ (hL:=(by first | exact List.Sublist.refl _ | (simp only [dB,List.map_append,List.map_cons,List.map_nil]; repeat first | exact List.Sublist.refl _ | apply List.Sublist.cons_cons | apply List.Sublist.cons)))))
      · try dsimp only
        unfold ksA; simp_all [cq]
      · try dsimp only
        first | omega | (simp; omega) | simp
  obtain ⟨o2,l2⟩:=x
  obtain ⟨hl2,hn2⟩:(l2 = ksA (cq m 8) 1 l1) ∧ (l2.length ≤ 2):=hx
  show Sat _ _ [dz,(1,true,.pointer (some ⟨b1,0,none⟩)),(3,true,o2.v)] [aP o2.v (ovE bU) (dB b1 l2) 186,Var b1 ay m 86]
  refine cut (X:=OV × (List Nat)) (fun x:OV × (List Nat)=>(x.2 = ksA (cq m 2) 2 l2) ∧ (x.2.length ≤ 3)) (fun x:OV × (List Nat)=>[dz,(1,true,.pointer (some ⟨b1,0,none⟩)),(3,true,x.1.v)]) (fun x:OV × (List Nat)=>[aP x.1.v (ovE bU) (dB b1 x.2) 186,Var b1 ay m 86]) ?_ (fun x hx=>?_)
  · refine sg (co (Ev.ldx m gU (.t rfl) (ak.id _)) ?_)
    refine cons (aZ pA (.cons (.t rfl) (.cons (.c (v:=U8 2) rfl) .nil)) (fun w I=>gQ _ _ w) ?_)
    refine nP ?_
    first | refine aL rfl (fun h2=>?_) (fun h2=>?_) | refine cond rfl (fun h2=>?_) (fun h2=>?_)
    · refine region (mv rfl (co (Ev.makeFunc (f:=81) (.cons (.t rfl) .nil)) ?_))
      refine cons (buildSlice (E:=(ovE bU)) Tryz.underlying130 je z186 (.cons (.t rfl) .nil) rfl rfl (fun v6=>?_))
      refine cons (app (E:=(ovE bU)) Tryz.underlying130 je zb186 zs186 (.t rfl) (.t rfl) (fun v7=>?_) (hby:=⟨by first | ((show _ ≤ 9223372036854775807); simp; done) | ((show _ ≤ 9223372036854775807); simp [dB]; omega),by first | (simp; done) | (simp [dB]; omega)⟩))
      refine asn rfl (nP (mt (X:=OV × (List Nat)) (_,l2 ++ [2]) ⟨?_,?_⟩ (hL:=(by first | exact List.Sublist.refl _ | (simp only [dB,List.map_append,List.map_cons,List.map_nil]; repeat first | exact List.Sublist.refl _ | apply List.Sublist.cons_cons | apply List.Sublist.cons)))))
      · try dsimp only
        unfold ksA; simp_all [cq]
      · try dsimp only
        first | omega | (simp; omega) | simp
    · refine skip (pN (mt (X:=OV × (List Nat)) (o2,l2) ⟨?_,?_⟩ (hL:=(by first | exact List.Sublist.refl _ | (simp only [dB,List.map_append,List.map_cons,List.map_nil]; repeat first | exact List.Sublist.refl _ | apply List.Sublist.cons_cons | apply List.Sublist.cons)))))
      · try dsimp only
        unfold ksA; simp_all [cq]
      · try dsimp only
        first | omega | (simp; omega) | simp
  obtain ⟨o3,l3⟩:=x
  obtain ⟨hl3,hn3⟩:(l3 = ksA (cq m 2) 2 l2) ∧ (l3.length ≤ 3):=hx
  show Sat _ _ [dz,(1,true,.pointer (some ⟨b1,0,none⟩)),(3,true,o3.v)] [aP o3.v (ovE bU) (dB b1 l3) 186,Var b1 ay m 86]
  refine cut (X:=OV × (List Nat)) (fun x:OV × (List Nat)=>(x.2 = ksA (cq m 4) 3 l3) ∧ (x.2.length ≤ 4)) (fun x:OV × (List Nat)=>[dz,(1,true,.pointer (some ⟨b1,0,none⟩)),(3,true,x.1.v)]) (fun x:OV × (List Nat)=>[aP x.1.v (ovE bU) (dB b1 x.2) 186,Var b1 ay m 86]) ?_ (fun x hx=>?_)
  · refine sg (co (Ev.ldx m gU (.t rfl) (ak.id _)) ?_)
    refine cons (aZ pA (.cons (.t rfl) (.cons (.c (v:=U8 4) rfl) .nil)) (fun w I=>gQ _ _ w) ?_)
    refine nP ?_
    first | refine aL rfl (fun h3=>?_) (fun h3=>?_) | refine cond rfl (fun h3=>?_) (fun h3=>?_)
    · refine region (mv rfl (co (Ev.makeFunc (f:=83) (.cons (.t rfl) .nil)) ?_))
      refine cons (buildSlice (E:=(ovE bU)) Tryz.underlying130 je z186 (.cons (.t rfl) .nil) rfl rfl (fun v8=>?_))
      refine cons (app (E:=(ovE bU)) Tryz.underlying130 je zb186 zs186 (.t rfl) (.t rfl) (fun v9=>?_) (hby:=⟨by first | ((show _ ≤ 9223372036854775807); simp; done) | ((show _ ≤ 9223372036854775807); simp [dB]; omega),by first | (simp; done) | (simp [dB]; omega)⟩))
      refine asn rfl (nP (mt (X:=OV × (List Nat)) (_,l3 ++ [3]) ⟨?_,?_⟩ (hL:=(by first | exact List.Sublist.refl _ | (simp only [dB,List.map_append,List.map_cons,List.map_nil]; repeat first | exact List.Sublist.refl _ | apply List.Sublist.cons_cons | apply List.Sublist.cons)))))
      · try dsimp only
        unfold ksA; simp_all [cq]
      · try dsimp only
        first | omega | (simp; omega) | simp
    · refine skip (pN (mt (X:=OV × (List Nat)) (o3,l3) ⟨?_,?_⟩ (hL:=(by first | exact List.Sublist.refl _ | (simp only [dB,List.map_append,List.map_cons,List.map_nil]; repeat first | exact List.Sublist.refl _ | apply List.Sublist.cons_cons | apply List.Sublist.cons)))))
      · try dsimp only
        unfold ksA; simp_all [cq]
      · try dsimp only
        first | omega | (simp; omega) | simp
  obtain ⟨o4,l4⟩:=x
  obtain ⟨hl4,hn4⟩:(l4 = ksA (cq m 4) 3 l3) ∧ (l4.length ≤ 4):=hx
  show Sat _ _ [dz,(1,true,.pointer (some ⟨b1,0,none⟩)),(3,true,o4.v)] [aP o4.v (ovE bU) (dB b1 l4) 186,Var b1 ay m 86]
  refine cut (X:=OV × (List Nat)) (fun x:OV × (List Nat)=>(x.2 = ksA (cq m 16) 4 l4) ∧ (x.2.length ≤ 5)) (fun x:OV × (List Nat)=>[dz,(1,true,.pointer (some ⟨b1,0,none⟩)),(3,true,x.1.v)]) (fun x:OV × (List Nat)=>[aP x.1.v (ovE bU) (dB b1 x.2) 186,Var b1 ay m 86]) ?_ (fun x hx=>?_)
  · refine sg (co (Ev.ldx m gU (.t rfl) (ak.id _)) ?_)
    refine cons (aZ pA (.cons (.t rfl) (.cons (.c (v:=U8 16) rfl) .nil)) (fun w I=>gQ _ _ w) ?_)
    refine nP ?_
    first | refine aL rfl (fun h4=>?_) (fun h4=>?_) | refine cond rfl (fun h4=>?_) (fun h4=>?_)
    · refine region (mv rfl (co (Ev.makeFunc (f:=84) (.cons (.t rfl) .nil)) ?_))
      refine cons (buildSlice (E:=(ovE bU)) Tryz.underlying130 je z186 (.cons (.t rfl) .nil) rfl rfl (fun v10=>?_))
      refine cons (app (E:=(ovE bU)) Tryz.underlying130 je zb186 zs186 (.t rfl) (.t rfl) (fun v11=>?_) (hby:=⟨by first | ((show _ ≤ 9223372036854775807); simp; done) | ((show _ ≤ 9223372036854775807); simp [dB]; omega),by first | (simp; done) | (simp [dB]; omega)⟩))
      refine asn rfl (nP (mt (X:=OV × (List Nat)) (_,l4 ++ [4]) ⟨?_,?_⟩ (hL:=(by first | exact List.Sublist.refl _ | (simp only [dB,List.map_append,List.map_cons,List.map_nil]; repeat first | exact List.Sublist.refl _ | apply List.Sublist.cons_cons | apply List.Sublist.cons)))))
      · try dsimp only
        unfold ksA; simp_all [cq]
      · try dsimp only
        first | omega | (simp; omega) | simp
    · refine skip (pN (mt (X:=OV × (List Nat)) (o4,l4) ⟨?_,?_⟩ (hL:=(by first | exact List.Sublist.refl _ | (simp only [dB,List.map_append,List.map_cons,List.map_nil]; repeat first | exact List.Sublist.refl _ | apply List.Sublist.cons_cons | apply List.Sublist.cons)))))
      · try dsimp only
        unfold ksA; simp_all [cq]
      · try dsimp only
        first | omega | (simp; omega) | simp
  obtain ⟨o5,l5⟩:=x
  obtain ⟨hl5,hn5⟩:(l5 = ksA (cq m 16) 4 l4) ∧ (l5.length ≤ 5):=hx
  show Sat _ _ [dz,(1,true,.pointer (some ⟨b1,0,none⟩)),(3,true,o5.v)] [aP o5.v (ovE bU) (dB b1 l5) 186,Var b1 ay m 86]
  refine cut (X:=OV × (List Nat)) (fun x:OV × (List Nat)=>(x.2 = ksA (cq m 32) 5 l5) ∧ (x.2.length ≤ 6)) (fun x:OV × (List Nat)=>[dz,(1,true,.pointer (some ⟨b1,0,none⟩)),(3,true,x.1.v)]) (fun x:OV × (List Nat)=>[aP x.1.v (ovE bU) (dB b1 x.2) 186,Var b1 ay m 86]) ?_ (fun x hx=>?_)
  · refine sg (co (Ev.ldx m gU (.t rfl) (ak.id _)) ?_)
    refine cons (aZ pA (.cons (.t rfl) (.cons (.c (v:=U8 32) rfl) .nil)) (fun w I=>gQ _ _ w) ?_)
    refine nP ?_
    first | refine aL rfl (fun h5=>?_) (fun h5=>?_) | refine cond rfl (fun h5=>?_) (fun h5=>?_)
    · refine region (mv rfl (co (Ev.makeFunc (f:=85) (.cons (.t rfl) .nil)) ?_))
      refine cons (buildSlice (E:=(ovE bU)) Tryz.underlying130 je z186 (.cons (.t rfl) .nil) rfl rfl (fun v12=>?_))
      refine cons (app (E:=(ovE bU)) Tryz.underlying130 je zb186 zs186 (.t rfl) (.t rfl) (fun v13=>?_) (hby:=⟨by first | ((show _ ≤ 9223372036854775807); simp; done) | ((show _ ≤ 9223372036854775807); simp [dB]; omega),by first | (simp; done) | (simp [dB]; omega)⟩))
      refine asn rfl (nP (mt (X:=OV × (List Nat)) (_,l5 ++ [5]) ⟨?_,?_⟩ (hL:=(by first | exact List.Sublist.refl _ | (simp only [dB,List.map_append,List.map_cons,List.map_nil]; repeat first | exact List.Sublist.refl _ | apply List.Sublist.cons_cons | apply List.Sublist.cons)))))
      · try dsimp only
        unfold ksA; simp_all [cq]
      · try dsimp only
        first | omega | (simp; omega) | simp
    · refine skip (pN (mt (X:=OV × (List Nat)) (o5,l5) ⟨?_,?_⟩ (hL:=(by first | exact List.Sublist.refl _ | (simp only [dB,List.map_append,List.map_cons,List.map_nil]; repeat first | exact List.Sublist.refl _ | apply List.Sublist.cons_cons | apply List.Sublist.cons)))))
      · try dsimp only
        unfold ksA; simp_all [cq]
      · try dsimp only
        first | omega | (simp; omega) | simp
  obtain ⟨o6,l6⟩:=x
  obtain ⟨hl6,hn6⟩:(l6 = ksA (cq m 32) 5 l5) ∧ (l6.length ≤ 6):=hx
  show Sat _ _ [dz,(1,true,.pointer (some ⟨b1,0,none⟩)),(3,true,o6.v)] [aP o6.v (ovE bU) (dB b1 l6) 186,Var b1 ay m 86]
  refine sg (mv rfl (asn rfl (nP (ret (done rfl (.tmp rfl .nil) (fun w I=>?_))))))
  exact nQ (o6,b1) trivial rfl (by unfold im ks; rw [← hl1,← hl2,← hl3,← hl4,← hl5,← hl6]; exact List.Sublist.refl _) w I
theorem clos_len (m:aB) (p:Nat):(im m p).length = (ks m).length:=by simp [im,dB]
theorem clos_get (m:aB) (p:Nat) (i:Nat) (h:i < (ks m).length):(im m p).getD i bU = clo (fM ((ks m).getD i 0)) [.pointer (some ⟨p,0,none⟩)]:=by
  simp [im,dB,List.getD,h]
theorem o8 {α:Type} (l:List α) (i:Nat) (d:α) (h:i < l.length):l.getD i d ∈ l:=by simp [List.getD,h]
theorem meetsL_ok (u:Value) (m:aB) (n:Int) (h:au) (p hp:Nat) (w:World) (hs:bH (ovE bU) w u (im m p)) (hm:cE ay w p 0 m) (hh:cE bS w hp 0 h):Gx.Calls Tryz.prog 40 #[u,I n,.pointer (some ⟨hp,0,none⟩)] w (cD w (.bool (nT m n h))):=by
  have hle:=hs.le
  have hcl:=clos_len m p
  refine en0 21 Tryz.func40 (fun _ _=>?_)
  refine sg (co (Ev.assign (.c (v:=.bool false) rfl)) ?_)
  refine nP (seq (sg (mv rfl (co (Ev.len Tryz.underlying130 (.t rfl) zf) ?_))))
  refine co (Ev.move (.c (v:=I 0) rfl)) ?_
  refine nP (block (lp (X:=Int) (fun x:Int=>(0 ≤ x ∧ x ≤ (im m p).length) ∧ (((ks m).take x.toNat).all (fun k=>qM k m n h) = true)) (fun x:Int=>[dz,(1,true,I n),(2,true,.pointer (some ⟨hp,0,none⟩)),(9,true,u),(10,true,I (im m p).length),(11,true,I x)]) (fun x:Int=>[]) (fun x:Int=>((im m p).length - x).toNat) (0) ⟨?_,?_⟩ (fun x hx=>?_)))
  · omega
  · rfl
  obtain ⟨i,rfl⟩:∃ y,y = x:=⟨x,rfl⟩
  obtain ⟨hi,hq⟩:(0 ≤ i ∧ i ≤ (im m p).length) ∧ (((ks m).take i.toNat).all (fun k=>qM k m n h) = true):=hx
  show Sat _ _ [dz,(1,true,I n),(2,true,.pointer (some ⟨hp,0,none⟩)),(9,true,u),(10,true,I (im m p).length),(11,true,I i)] []
  refine sg (co (Ev.dx (.t rfl) (.t rfl)) ?_)
  refine nP (seq ?_)
  first | refine aL rfl (fun hlt=>?_) (fun hge=>?_) | refine cond rfl (fun hlt=>?_) (fun hge=>?_)
  · try simp only [Gx.nb] at hlt
    refine skip (pN (seq (block (sg (co (Ev.indexAddr Tryz.underlying130 je (.t rfl) (.t rfl) zf (fun _=>zo)) ?_)))))
    refine co (Ev.dp je (.t rfl) zf (fun _=>zo)) ?_
    refine asn rfl (nP (sg ?_))
    have hil:i.toNat < (ks m).length:=by omega
    have hk6:=ks_lt (o8 (ks m) i.toNat 0 hil)
    refine co (Ev.to (v':=(clo (fM ((ks m).getD i.toNat 0)) [.pointer (some ⟨p,0,none⟩)]).v) (Ev.move (.t rfl)) (by show ((im m p).getD i.toNat bU).v = _; rw [clos_get m p _ hil])) ?_
    refine mv rfl (mv rfl (cons (fL (.t rfl) (cl_en _ hk6) (.cons (.t rfl) (.cons (.t rfl) .nil)) (fun w I=>cl_ok _ hk6 m n h p hp w (hm.cB I.keeps) (hh.cB I.keeps)) ?_)))
    refine co (Ev.not (.t rfl)) ?_
    refine nP ?_
    first | refine aL rfl (fun h1=>?_) (fun h1=>?_) | refine cond rfl (fun h1=>?_) (fun h1=>?_)
    · refine sg (co (Ev.assign (.c (v:=.bool false) rfl)) ?_)
      refine nP (ret (bR (pR (pR (bR (pR (done rfl (.tmp rfl .nil) (bc ?_))))))))
      refine bX2 ?_
      symm
      rw [Bool.eq_false_iff]
      intro hall
      have h2:=List.all_eq_true.1 hall _ (o8 (ks m) i.toNat 0 hil)
      rw [h2] at h1
      simp at h1
    · refine skip (bN (pN (region (co (Ev.a8 (.t rfl) (.c (v:=I 1) rfl) (fun _=>zo)) ?_))))
      refine mv rfl (nP (nx (X:=Int) (i + 1) ⟨?_,?_⟩ ?_))
      · try dsimp only
        omega
      · try dsimp only
        rw [eQ (ks m) i hi.1 (by omega) 0,List.all_append,hq]
        simpa using h1
      · try dsimp only
        omega
  · try simp only [Gx.nb] at hge
    refine exit (pX (pX (bX (pN (sg (co (Ev.assign (.c (v:=.bool true) rfl)) ?_))))))
    refine nP (ret (done rfl (.tmp rfl .nil) (bc ?_)))
    refine bX2 ?_
    rw [List.take_of_length_le (by omega)] at hq
    unfold nT
    rw [hq]
structure ba where
  oX:OV
  asked:OV
def ba.to:(OV × OV)→ba:=fun x=>⟨x.1,x.2⟩
def ba.of:ba→(OV × OV):=fun x=>(x.oX,x.asked)
def fp:Enc ba:=iH (aa (ovE aw) (ovE aw)) ba.to ba.of
def ba.gX:ak fp (ovE aw) 0:=cP _ ba.to ba.of (fun _=>rfl) (dF (ovE aw) (ovE aw))
@[simp] theorem ba.get_matches_ (x:ba):ba.gX.get x = x.oX:=rfl
@[simp] theorem ba.set_matches_ (x:ba) (y:OV):ba.gX.set x y = { x with oX:=y }:=rfl
def ba.fj:ak fp (ovE aw) 1:=cP _ ba.to ba.of (fun _=>rfl) (ak.comp (bg (ovE aw) (ovE aw)) (ak.id (ovE aw)))
@[simp] theorem ba.get_asked (x:ba):ba.fj.get x = x.asked:=rfl
@[simp] theorem ba.set_asked (x:ba) (y:OV):ba.fj.set x y = { x with asked:=y }:=rfl
def lf (w:World) (b:Nat) (l:List aB):Prop:=∃ (mo ao:OV) (os:List OV) (bs:Nat→Nat),cE fp w b 0 ⟨mo,ao⟩ ∧ bH ay w mo.v l ∧ bH (ovE aw) w ao.v os ∧ os.length = l.length ∧ ∀ k,k < l.length→bH (ovE bU) w (os.getD k aw).v (im (l.getD k ay.zero) (bs k)) ∧ cE ay w (bs k) 0 (l.getD k ay.zero)
theorem lf.cB {w w':World} {b:Nat} {l:List aB} (h:lf w b l) (k:aX bO w w'):lf w' b l:=by
  obtain ⟨mo,ao,os,bs,h1,h2,h3,h4,h5⟩:=h
  exact ⟨mo,ao,os,bs,h1.cB k,h2.aT k,h3.aT k,h4,fun j hj=>⟨(h5 j hj).1.aT k,(h5 j hj).2.cB k⟩⟩
def j3 (l:List aB):Int:=bif decide (256 < l.length) then 4 else bif l.all okM then 0 else 190
def ptrO (l:List aB) (b:Nat):Option Addr:=bif decide (j3 l = 0) then some ⟨b,0,none⟩ else none
def ptrC (l:List aB) (b:Nat):Value:=.pointer (ptrO l b)
theorem ptrO_ok {l:List aB} (b:Nat) (h:j3 l = 0):ptrO l b = some ⟨b,0,none⟩:=by
  unfold ptrO
  simp [h]
def CompJ (l:List aB) (x:Nat × List Res):Prop:=j3 l = 0→∀ w,(∀ r ∈ x.2,r.A w)→lf w x.1 l
def compV (l:List aB) (x:Nat × List Res):Value:=.tuple #[ptrC l x.1,I (j3 l)]
theorem jM (l:List aB) (i:Int) (h0:0 ≤ i) (h1:i < l.length) (ha:(l.take i.toNat).all okM = true) (hi:okM (l.getD i.toNat ay.zero) = true):(l.take (i + 1).toNat).all okM = true:=by
  rw [eQ l i h0 h1 ay.zero,List.all_append,ha]
  simpa using hi
theorem not_all (l:List aB) (i:Nat) (h1:i < l.length) (hi:okM (l.getD i ay.zero) = false):l.all okM = false:=by
  rw [Bool.eq_false_iff]
  intro h
  have:=List.all_eq_true.1 h _ (o8 l i ay.zero h1)
  rw [hi] at this
  cases this
theorem z128:(Tryz.prog.info? 128).bind (·.zero) = some (fp.val fp.zero):=by kernel_rfl
theorem z86:(Tryz.prog.info? 86).bind (·.zero) = some (ay.val ay.zero):=by kernel_rfl
theorem ty80:bF Tryz.prog 80 (ovE aw):=bF.mk' zk zk
theorem zb86:(Tryz.prog.info? 86).map (fun i=>(i.zero,i.bytes)) = some (some (ay.val ay.zero),88):=by kernel_rfl
theorem zs86:(ay.val ay.zero).cells.size = ay.size:=by rw [Enc.cK,List.size_toArray,Enc.len]
theorem jA:bF Tryz.prog 126 (ovE aw):=bF.mk' zk zk
theorem en36:Gx.aC Tryz.prog 36:=Gx.aC.mk' zk
theorem jf:bF Tryz.prog 130 (ovE aw):=bF.mk' zk zk
theorem z130:(Tryz.prog.info? 130).bind (·.zero) = some ((ovE aw).val (ovE aw).zero):=by kernel_rfl
theorem zb130:(Tryz.prog.info? 130).map (fun i=>(i.zero,i.bytes)) = some (some ((ovE aw).val (ovE aw).zero),24):=by kernel_rfl
theorem zs130:((ovE aw).val (ovE aw).zero).cells.size = (ovE aw).size:=by rw [Enc.cK,List.size_toArray,Enc.len]
theorem compile_ok (u:Value) (l:List aB) (w:World) (hl:bH ay w u l):Gx.Calls Tryz.prog 16 #[u] w (ja w (CompJ l) (compV l) (fun x=>x.2)):=by
  have hle:=hl.le
  refine en0 47 Tryz.func16 (fun _ _=>?_)
  refine sg (co (Ev.assign (.c (v:=(Go.Value.pointer none)) rfl)) ?_)
  refine co (Ev.assign (.c (v:=I 0) rfl)) ?_
  refine nP (seq (sg (mv rfl (co (Ev.len Tryz.underlying80 (.t rfl) zf) ?_))))
  refine co (Ev.eJ (.t rfl) (.c (v:=I 256) rfl)) ?_
  refine nP ?_
  first | refine aL rfl (fun hbig=>?_) (fun hsmall=>?_) | refine cond rfl (fun hbig=>?_) (fun hsmall=>?_)
  · try simp only [Gx.nb] at hbig
    refine sg (co (Ev.assign (.c (v:=(Go.Value.pointer none)) rfl)) ?_)
    refine co (Ev.assign (.c (v:=I 4) rfl)) ?_
    refine nP (ret (pR (done rfl (.tmp rfl (.tmp rfl .nil)) (fun w I=>?_))))
    have hc:j3 l = 4:=by unfold j3; rw [decide_eq_true (by omega)]; rfl
    exact nQ (0,[]) (fun h=>by rw [hc] at h; cases h) (by unfold compV ptrC ptrO; rw [hc]; rfl) (List.nil_sublist _) w I
  · try simp only [Gx.nb] at hsmall
    refine skip (pN (sg (co (Ev.aQ (fs:=_) (places:=[(0,1),(1,1)]) z128 rfl Tryz.underlying128 zk .nil aj.nil) ?_)))
    refine cons (box (E:=fp) (.t rfl) (fun b1=>?_))
    refine asn rfl (nP (seq (sg (mv rfl (co (Ev.len Tryz.underlying80 (.t rfl) zf) ?_)))))
    refine co (Ev.move (.c (v:=I 0) rfl)) ?_
    refine nP (block (fB (ovE aw) 130 ?_))
    refine fB ay 86 ?_
    refine lp (X:=Int × OV × OV × (List OV) × (List Res) × (Nat→Nat)) (fun x:Int × OV × OV × (List OV) × (List Res) × (Nat→Nat)=>(0 ≤ x.1 ∧ x.1 ≤ l.length) ∧ ((x.2.2.2.1.length:Int) = x.1) ∧ ((l.take x.1.toNat).all okM = true) ∧ (∀ w1:World,(∀ r ∈ x.2.2.2.2.1,r.A w1)→∀ q:Nat,(q:Int) < x.1→bH (ovE bU) w1 (x.2.2.2.1.getD q aw).v (im (l.getD q ay.zero) (x.2.2.2.2.2 q)) ∧ cE ay w1 (x.2.2.2.2.2 q) 0 (l.getD q ay.zero))) (fun x:Int × OV × OV × (List OV) × (List Res) × (Nat→Nat)=>[dz,(4,true,.pointer (some ⟨b1,0,none⟩)),(13,true,u),(14,true,I l.length),(15,true,I x.1)]) (fun x:Int × OV × OV × (List OV) × (List Res) × (Nat→Nat)=>(x.2.2.2.2.1 ++ [aP x.2.1.v ay (l.take x.1.toNat) 86,aP x.2.2.1.v (ovE aw) x.2.2.2.1 130,Var b1 fp ⟨x.2.1,x.2.2.1⟩ 128])) (fun x:Int × OV × OV × (List OV) × (List Res) × (Nat→Nat)=>(l.length - x.1).toNat) (0,aw,aw,[],[],fun _=>0) ⟨?_,?_,?_,?_⟩ (fun x hx=>?_)
    · omega
    · rfl
    · rfl
    · intro w1 _ q hq; exact absurd hq (by show ¬ (q:Int) < 0; omega)
    obtain ⟨i,mo,ao,os,Rs,bs⟩:=x
    obtain ⟨hi,hos,hok,hR⟩:(0 ≤ i ∧ i ≤ l.length) ∧ ((os.length:Int) = i) ∧ ((l.take i.toNat).all okM = true) ∧ (∀ w1:World,(∀ r ∈ Rs,r.A w1)→∀ q:Nat,(q:Int) < i→bH (ovE bU) w1 (os.getD q aw).v (im (l.getD q ay.zero) (bs q)) ∧ cE ay w1 (bs q) 0 (l.getD q ay.zero)):=hx
    show Sat _ _ [dz,(4,true,.pointer (some ⟨b1,0,none⟩)),(13,true,u),(14,true,I l.length),(15,true,I i)] (Rs ++ [aP mo.v ay (l.take i.toNat) 86,aP ao.v (ovE aw) os 130,Var b1 fp ⟨mo,ao⟩ 128])
    refine sg (co (Ev.dx (.t rfl) (.t rfl)) ?_)
    refine nP (seq ?_)
    first | refine aL rfl (fun hlt=>?_) (fun hge=>?_) | refine cond rfl (fun hlt=>?_) (fun hge=>?_)
    · try simp only [Gx.nb] at hlt
      refine skip (pN (seq (block (sg (co (Ev.indexAddr Tryz.underlying80 gU (.t rfl) (.t rfl) zf (fun _=>zo)) ?_)))))
      refine co (Ev.dp gU (.t rfl) zf (fun _=>zo)) ?_
      refine cons (alloc z86 (fun b2=>?_))
      refine cons (stv gU (ak.id _) (.t rfl) (.t rfl) ?_)
      refine nP (seq (sg (co (Ev.ldv gU (.t rfl) (ak.id _)) ?_)))
      refine cons (aZ en35 (.cons (.t rfl) .nil) (fun w I=>check_ok _ w) ?_)
      refine asn rfl (nP (sg (mv rfl (co (Ev.eX (.t rfl) (.c (v:=I 0) rfl)) ?_))))
      refine nP ?_
      first | refine aL rfl (fun h2=>?_) (fun h2=>?_) | refine cond rfl (fun h2=>?_) (fun h2=>?_)
      · have hbad:okM (l.getD i.toNat ay.zero) = false:=by
          have h3:decide (ckM (l.getD i.toNat ay.zero) = 0) = false:=by simpa using h2
          rwa [gP] at h3
        refine sg (mv rfl (co (Ev.assign (.c (v:=(Go.Value.pointer none)) rfl)) ?_))
        refine asn rfl (nP (ret (pR (bR (pR (pR (bR (pR (done rfl (.tmp rfl (.tmp rfl .nil)) (fun w I=>?_))))))))))
        have hc:j3 l = 190:=by unfold j3; rw [decide_eq_false (by omega),not_all l i.toNat (by omega) hbad]; rfl
        exact nQ (0,[]) (fun h=>by rw [hc] at h; cases h) (by unfold compV ptrC ptrO; rw [hc]; show js [.pointer none,Go.Gx.I (ckM (l.getD i.toNat ay.zero))] = _; unfold ckM; rw [hbad]; rfl) (List.nil_sublist _) w I
      · have hokm:okM (l.getD i.toNat ay.zero) = true:=by
          have h3:decide (ckM (l.getD i.toNat ay.zero) = 0) = true:=by simpa using h2
          rwa [gP] at h3
        refine skip (pN (seq (draw [Var b2 ay (l.getD i.toNat ay.zero) 86] zk ?_)))
        refine tk 0 rfl (Ev.move (.t rfl)) ?_
        refine tk 1 rfl (Ev.move (.t rfl)) ?_
        refine tk 2 rfl (Ev.nilCheck (.t rfl)) ?_
        refine tk 3 rfl (fA 0 (.t rfl)) ?_
        refine tk 5 rfl (Ev.ldv gU (.t rfl) (ak.id _)) ?_
        refine all [4,6] zk (by decide) (.cons rfl ?_ (.cons rfl ?_ .nil))
        · refine (opv (Ev.ldv ty80 (.t rfl) ba.gX) ?_)
          refine hdn (al1 6 rfl ((buildSlice (E:=ay) Tryz.underlying80 gU z86 (.cons (.t rfl) .nil) rfl rfl (fun v3=>?_))))
          refine hdn (al1 7 rfl ((app (E:=ay) Tryz.underlying80 gU zb86 zs86 (.t rfl) (.t rfl) (fun v4=>?_) (hby:=⟨by (show _ ≤ 9223372036854775807); first | omega | (simp; done) | (simp; omega),by first | omega | (simp; done) | (simp; omega)⟩))))
          refine hdn (tk 8 rfl (Ev.nilCheck (.t rfl)) ?_)
          refine tk 9 rfl (fA 0 (.t rfl)) ?_
          refine al1 10 rfl ((stv ty80 ba.gX (.t rfl) (.t rfl) ?_))
          refine hdn (ovr (pN (draw [Var b2 ay (l.getD i.toNat ay.zero) 86] zk ?_)))
          refine tk 0 rfl (Ev.move (.t rfl)) ?_
          refine tk 1 rfl (Ev.move (.t rfl)) ?_
          refine tk 2 rfl (Ev.nilCheck (.t rfl)) ?_
          refine tk 3 rfl (fA 1 (.t rfl)) ?_
          refine tk 5 rfl (Ev.ldv gU (.t rfl) (ak.id _)) ?_
          refine all [4,6] zk (by decide) (.cons rfl ?_ (.cons rfl ?_ .nil))
          · refine (opv (Ev.ldv jA (.t rfl) ba.fj) ?_)
            refine hdn (al1 6 rfl ((fQ (X:=OV × Nat) (fun _=>True) (fun x=>x.1.v) (fun x=>[aP x.1.v (ovE bU) (im (l.getD i.toNat ay.zero) x.2) 186,Var x.2 ay (l.getD i.toNat ay.zero) 86]) en36 (.cons (.t rfl) .nil) (fun w I=>jo _ w) (fun x1 _=>?_))))
            refine hdn (al1 7 rfl ((buildSlice (E:=(ovE aw)) Tryz.underlying126 jf z130 (.cons (.t rfl) .nil) rfl rfl (fun v5=>?_))))
            refine hdn (al1 8 rfl ((app (E:=(ovE aw)) Tryz.underlying126 jf zb130 zs130 (.t rfl) (.t rfl) (fun v6=>?_) (hby:=⟨by (show _ ≤ 9223372036854775807); first | omega | (simp; done) | (simp; omega),by first | omega | (simp; done) | (simp; omega)⟩))))
            refine hdn (tk 9 rfl (Ev.nilCheck (.t rfl)) ?_)
            refine tk 10 rfl (fA 1 (.t rfl)) ?_
            refine al1 11 rfl ((stv jA ba.fj (.t rfl) (.t rfl) ?_))
            refine hdn (ovr (bN (pN (region (co (Ev.a8 (.t rfl) (.c (v:=I 1) rfl) (fun _=>zo)) ?_)))))
            refine mv rfl (nP (nx (X:=Int × OV × OV × (List OV) × (List Res) × (Nat→Nat)) (i + 1,_,_,os ++ [x1.1],aP x1.1.v (ovE bU) (im (l.getD i.toNat ay.zero) x1.2) 186 :: Var x1.2 ay (l.getD i.toNat ay.zero) 86 :: Rs,fun q=>if q = i.toNat then x1.2 else bs q) ⟨?_,?_,?_,?_⟩ ?_ (hL:=(by dsimp only; rw [eQ l i hi.1 (by omega) ay.zero]; repeat first | exact List.Sublist.refl _ | apply List.Sublist.cons_cons | apply List.Sublist.cons))))
            · try dsimp only
              omega
            · try dsimp only
              simp; omega
            · try dsimp only
              exact jM l i hi.1 (by omega) hok hokm
            · try dsimp only
              intro w1 hw q hq
              by_cases e:q = i.toNat
              · subst e
                have e1:(os ++ [x1.1]).getD i.toNat aw = x1.1:=by
                  have:os.length = i.toNat:=by omega
                  simp [List.getD,← this]
                rw [if_pos rfl]
                show bH _ _ ((os ++ [x1.1]).getD i.toNat aw).v _ ∧ _
                rw [e1]
                exact ⟨bH.fT (hw _ List.mem_cons_self),dw (hw _ (List.mem_cons_of_mem _ List.mem_cons_self))⟩
              · have e1:(os ++ [x1.1]).getD q aw = os.getD q aw:=by
                  have:q < os.length:=by omega
                  simp [List.getD,List.getElem?_append,this]
                rw [if_neg e]
                show bH _ _ ((os ++ [x1.1]).getD q aw).v _ ∧ _
                rw [e1]
                exact hR w1 (fun r hr=>hw r (List.mem_cons_of_mem _ (List.mem_cons_of_mem _ hr))) q (by omega)
            · try dsimp only
              omega
          · refine (fQ (X:=OV × Nat) (fun _=>True) (fun x=>x.1.v) (fun x=>[aP x.1.v (ovE bU) (im (l.getD i.toNat ay.zero) x.2) 186,Var x.2 ay (l.getD i.toNat ay.zero) 86]) en36 (.cons (.t rfl) .nil) (fun w I=>jo _ w) (fun x1 _=>?_))
            refine hdn (all [4,7] zk (by decide) (.cons rfl ?_ (.cons rfl ?_ .nil)))
            · refine (opv (Ev.ldv jA (.t rfl) ba.fj) ?_)
              refine hdn (al1 7 rfl ((buildSlice (E:=(ovE aw)) Tryz.underlying126 jf z130 (.cons (.t rfl) .nil) rfl rfl (fun v7=>?_))))
              refine hdn (al1 8 rfl ((app (E:=(ovE aw)) Tryz.underlying126 jf zb130 zs130 (.t rfl) (.t rfl) (fun v8=>?_) (hby:=⟨by (show _ ≤ 9223372036854775807); first | omega | (simp; done) | (simp; omega),by first | omega | (simp; done) | (simp; omega)⟩))))
              refine hdn (tk 9 rfl (Ev.nilCheck (.t rfl)) ?_)
              refine tk 10 rfl (fA 1 (.t rfl)) ?_
              refine al1 11 rfl ((stv jA ba.fj (.t rfl) (.t rfl) ?_))
              refine hdn (ovr (bN (pN (region (co (Ev.a8 (.t rfl) (.c (v:=I 1) rfl) (fun _=>zo)) ?_)))))
              refine mv rfl (nP (nx (X:=Int × OV × OV × (List OV) × (List Res) × (Nat→Nat)) (i + 1,_,_,os ++ [x1.1],aP x1.1.v (ovE bU) (im (l.getD i.toNat ay.zero) x1.2) 186 :: Var x1.2 ay (l.getD i.toNat ay.zero) 86 :: Rs,fun q=>if q = i.toNat then x1.2 else bs q) ⟨?_,?_,?_,?_⟩ ?_ (hL:=(by dsimp only; rw [eQ l i hi.1 (by omega) ay.zero]; repeat first | exact List.Sublist.refl _ | apply List.Sublist.cons_cons | apply List.Sublist.cons))))
              · try dsimp only
                omega
              · try dsimp only
                simp; omega
              · try dsimp only
                exact jM l i hi.1 (by omega) hok hokm
              · try dsimp only
                intro w1 hw q hq
                by_cases e:q = i.toNat
                · subst e
                  have e1:(os ++ [x1.1]).getD i.toNat aw = x1.1:=by
                    have:os.length = i.toNat:=by omega
                    simp [List.getD,← this]
                  rw [if_pos rfl]
                  show bH _ _ ((os ++ [x1.1]).getD i.toNat aw).v _ ∧ _
                  rw [e1]
                  exact ⟨bH.fT (hw _ List.mem_cons_self),dw (hw _ (List.mem_cons_of_mem _ List.mem_cons_self))⟩
                · have e1:(os ++ [x1.1]).getD q aw = os.getD q aw:=by
                    have:q < os.length:=by omega
                    simp [List.getD,List.getElem?_append,this]
                  rw [if_neg e]
                  show bH _ _ ((os ++ [x1.1]).getD q aw).v _ ∧ _
                  rw [e1]
                  exact hR w1 (fun r hr=>hw r (List.mem_cons_of_mem _ (List.mem_cons_of_mem _ hr))) q (by omega)
              · try dsimp only
                omega
            · refine (buildSlice (E:=(ovE aw)) Tryz.underlying126 jf z130 (.cons (.t rfl) .nil) rfl rfl (fun v9=>?_))
              refine hdn (al1 4 rfl ((opv (Ev.ldv jA (.t rfl) ba.fj) ?_)))
              refine hdn (al1 8 rfl ((app (E:=(ovE aw)) Tryz.underlying126 jf zb130 zs130 (.t rfl) (.t rfl) (fun v10=>?_) (hby:=⟨by (show _ ≤ 9223372036854775807); first | omega | (simp; done) | (simp; omega),by first | omega | (simp; done) | (simp; omega)⟩))))
              refine hdn (tk 9 rfl (Ev.nilCheck (.t rfl)) ?_)
              refine tk 10 rfl (fA 1 (.t rfl)) ?_
              refine al1 11 rfl ((stv jA ba.fj (.t rfl) (.t rfl) ?_))
              refine hdn (ovr (bN (pN (region (co (Ev.a8 (.t rfl) (.c (v:=I 1) rfl) (fun _=>zo)) ?_)))))
              refine mv rfl (nP (nx (X:=Int × OV × OV × (List OV) × (List Res) × (Nat→Nat)) (i + 1,_,_,os ++ [x1.1],aP x1.1.v (ovE bU) (im (l.getD i.toNat ay.zero) x1.2) 186 :: Var x1.2 ay (l.getD i.toNat ay.zero) 86 :: Rs,fun q=>if q = i.toNat then x1.2 else bs q) ⟨?_,?_,?_,?_⟩ ?_ (hL:=(by dsimp only; rw [eQ l i hi.1 (by omega) ay.zero]; repeat first | exact List.Sublist.refl _ | apply List.Sublist.cons_cons | apply List.Sublist.cons))))
              · try dsimp only
                omega
              · try dsimp only
                simp; omega
              · try dsimp only
                exact jM l i hi.1 (by omega) hok hokm
              · try dsimp only
                intro w1 hw q hq
                by_cases e:q = i.toNat
                · subst e
                  have e1:(os ++ [x1.1]).getD i.toNat aw = x1.1:=by
                    have:os.length = i.toNat:=by omega
                    simp [List.getD,← this]
                  rw [if_pos rfl]
                  show bH _ _ ((os ++ [x1.1]).getD i.toNat aw).v _ ∧ _
                  rw [e1]
                  exact ⟨bH.fT (hw _ List.mem_cons_self),dw (hw _ (List.mem_cons_of_mem _ List.mem_cons_self))⟩
                · have e1:(os ++ [x1.1]).getD q aw = os.getD q aw:=by
                    have:q < os.length:=by omega
                    simp [List.getD,List.getElem?_append,this]
                  rw [if_neg e]
                  show bH _ _ ((os ++ [x1.1]).getD q aw).v _ ∧ _
                  rw [e1]
                  exact hR w1 (fun r hr=>hw r (List.mem_cons_of_mem _ (List.mem_cons_of_mem _ hr))) q (by omega)
              · try dsimp only
                omega
        · refine (buildSlice (E:=ay) Tryz.underlying80 gU z86 (.cons (.t rfl) .nil) rfl rfl (fun v11=>?_))
          refine hdn (al1 4 rfl ((opv (Ev.ldv ty80 (.t rfl) ba.gX) ?_)))
          refine hdn (al1 7 rfl ((app (E:=ay) Tryz.underlying80 gU zb86 zs86 (.t rfl) (.t rfl) (fun v12=>?_) (hby:=⟨by (show _ ≤ 9223372036854775807); first | omega | (simp; done) | (simp; omega),by first | omega | (simp; done) | (simp; omega)⟩))))
          refine hdn (tk 8 rfl (Ev.nilCheck (.t rfl)) ?_)
          refine tk 9 rfl (fA 0 (.t rfl)) ?_
          refine al1 10 rfl ((stv ty80 ba.gX (.t rfl) (.t rfl) ?_))
          refine hdn (ovr (pN (draw [Var b2 ay (l.getD i.toNat ay.zero) 86] zk ?_)))
          refine tk 0 rfl (Ev.move (.t rfl)) ?_
          refine tk 1 rfl (Ev.move (.t rfl)) ?_
          refine tk 2 rfl (Ev.nilCheck (.t rfl)) ?_
          refine tk 3 rfl (fA 1 (.t rfl)) ?_
          refine tk 5 rfl (Ev.ldv gU (.t rfl) (ak.id _)) ?_
          refine all [4,6] zk (by decide) (.cons rfl ?_ (.cons rfl ?_ .nil))
          · refine (opv (Ev.ldv jA (.t rfl) ba.fj) ?_)
            refine hdn (al1 6 rfl ((fQ (X:=OV × Nat) (fun _=>True) (fun x=>x.1.v) (fun x=>[aP x.1.v (ovE bU) (im (l.getD i.toNat ay.zero) x.2) 186,Var x.2 ay (l.getD i.toNat ay.zero) 86]) en36 (.cons (.t rfl) .nil) (fun w I=>jo _ w) (fun x1 _=>?_))))
            refine hdn (al1 7 rfl ((buildSlice (E:=(ovE aw)) Tryz.underlying126 jf z130 (.cons (.t rfl) .nil) rfl rfl (fun v13=>?_))))
            refine hdn (al1 8 rfl ((app (E:=(ovE aw)) Tryz.underlying126 jf zb130 zs130 (.t rfl) (.t rfl) (fun v14=>?_) (hby:=⟨by (show _ ≤ 9223372036854775807); first | omega | (simp; done) | (simp; omega),by first | omega | (simp; done) | (simp; omega)⟩))))
            refine hdn (tk 9 rfl (Ev.nilCheck (.t rfl)) ?_)
            refine tk 10 rfl (fA 1 (.t rfl)) ?_
            refine al1 11 rfl ((stv jA ba.fj (.t rfl) (.t rfl) ?_))
            refine hdn (ovr (bN (pN (region (co (Ev.a8 (.t rfl) (.c (v:=I 1) rfl) (fun _=>zo)) ?_)))))
            refine mv rfl (nP (nx (X:=Int × OV × OV × (List OV) × (List Res) × (Nat→Nat)) (i + 1,_,_,os ++ [x1.1],aP x1.1.v (ovE bU) (im (l.getD i.toNat ay.zero) x1.2) 186 :: Var x1.2 ay (l.getD i.toNat ay.zero) 86 :: Rs,fun q=>if q = i.toNat then x1.2 else bs q) ⟨?_,?_,?_,?_⟩ ?_ (hL:=(by dsimp only; rw [eQ l i hi.1 (by omega) ay.zero]; repeat first | exact List.Sublist.refl _ | apply List.Sublist.cons_cons | apply List.Sublist.cons))))
            · try dsimp only
              omega
            · try dsimp only
              simp; omega
            · try dsimp only
              exact jM l i hi.1 (by omega) hok hokm
            · try dsimp only
              intro w1 hw q hq
              by_cases e:q = i.toNat
              · subst e
                have e1:(os ++ [x1.1]).getD i.toNat aw = x1.1:=by
                  have:os.length = i.toNat:=by omega
                  simp [List.getD,← this]
                rw [if_pos rfl]
                show bH _ _ ((os ++ [x1.1]).getD i.toNat aw).v _ ∧ _
                rw [e1]
                exact ⟨bH.fT (hw _ List.mem_cons_self),dw (hw _ (List.mem_cons_of_mem _ List.mem_cons_self))⟩
              · have e1:(os ++ [x1.1]).getD q aw = os.getD q aw:=by
                  have:q < os.length:=by omega
                  simp [List.getD,List.getElem?_append,this]
                rw [if_neg e]
                show bH _ _ ((os ++ [x1.1]).getD q aw).v _ ∧ _
                rw [e1]
                exact hR w1 (fun r hr=>hw r (List.mem_cons_of_mem _ (List.mem_cons_of_mem _ hr))) q (by omega)
            · try dsimp only
              omega
          · refine (fQ (X:=OV × Nat) (fun _=>True) (fun x=>x.1.v) (fun x=>[aP x.1.v (ovE bU) (im (l.getD i.toNat ay.zero) x.2) 186,Var x.2 ay (l.getD i.toNat ay.zero) 86]) en36 (.cons (.t rfl) .nil) (fun w I=>jo _ w) (fun x1 _=>?_))
            refine hdn (all [4,7] zk (by decide) (.cons rfl ?_ (.cons rfl ?_ .nil)))
            · refine (opv (Ev.ldv jA (.t rfl) ba.fj) ?_)
              refine hdn (al1 7 rfl ((buildSlice (E:=(ovE aw)) Tryz.underlying126 jf z130 (.cons (.t rfl) .nil) rfl rfl (fun v15=>?_))))
              refine hdn (al1 8 rfl ((app (E:=(ovE aw)) Tryz.underlying126 jf zb130 zs130 (.t rfl) (.t rfl) (fun v16=>?_) (hby:=⟨by (show _ ≤ 9223372036854775807); first | omega | (simp; done) | (simp; omega),by first | omega | (simp; done) | (simp; omega)⟩))))
              refine hdn (tk 9 rfl (Ev.nilCheck (.t rfl)) ?_)
              refine tk 10 rfl (fA 1 (.t rfl)) ?_
              refine al1 11 rfl ((stv jA ba.fj (.t rfl) (.t rfl) ?_))
              refine hdn (ovr (bN (pN (region (co (Ev.a8 (.t rfl) (.c (v:=I 1) rfl) (fun _=>zo)) ?_)))))
              refine mv rfl (nP (nx (X:=Int × OV × OV × (List OV) × (List Res) × (Nat→Nat)) (i + 1,_,_,os ++ [x1.1],aP x1.1.v (ovE bU) (im (l.getD i.toNat ay.zero) x1.2) 186 :: Var x1.2 ay (l.getD i.toNat ay.zero) 86 :: Rs,fun q=>if q = i.toNat then x1.2 else bs q) ⟨?_,?_,?_,?_⟩ ?_ (hL:=(by dsimp only; rw [eQ l i hi.1 (by omega) ay.zero]; repeat first | exact List.Sublist.refl _ | apply List.Sublist.cons_cons | apply List.Sublist.cons))))
              · try dsimp only
                omega
              · try dsimp only
                simp; omega
              · try dsimp only
                exact jM l i hi.1 (by omega) hok hokm
              · try dsimp only
                intro w1 hw q hq
                by_cases e:q = i.toNat
                · subst e
                  have e1:(os ++ [x1.1]).getD i.toNat aw = x1.1:=by
                    have:os.length = i.toNat:=by omega
                    simp [List.getD,← this]
                  rw [if_pos rfl]
                  show bH _ _ ((os ++ [x1.1]).getD i.toNat aw).v _ ∧ _
                  rw [e1]
                  exact ⟨bH.fT (hw _ List.mem_cons_self),dw (hw _ (List.mem_cons_of_mem _ List.mem_cons_self))⟩
                · have e1:(os ++ [x1.1]).getD q aw = os.getD q aw:=by
                    have:q < os.length:=by omega
                    simp [List.getD,List.getElem?_append,this]
                  rw [if_neg e]
                  show bH _ _ ((os ++ [x1.1]).getD q aw).v _ ∧ _
                  rw [e1]
                  exact hR w1 (fun r hr=>hw r (List.mem_cons_of_mem _ (List.mem_cons_of_mem _ hr))) q (by omega)
              · try dsimp only
                omega
            · refine (buildSlice (E:=(ovE aw)) Tryz.underlying126 jf z130 (.cons (.t rfl) .nil) rfl rfl (fun v17=>?_))
              refine hdn (al1 4 rfl ((opv (Ev.ldv jA (.t rfl) ba.fj) ?_)))
              refine hdn (al1 8 rfl ((app (E:=(ovE aw)) Tryz.underlying126 jf zb130 zs130 (.t rfl) (.t rfl) (fun v18=>?_) (hby:=⟨by (show _ ≤ 9223372036854775807); first | omega | (simp; done) | (simp; omega),by first | omega | (simp; done) | (simp; omega)⟩))))
              refine hdn (tk 9 rfl (Ev.nilCheck (.t rfl)) ?_)
              refine tk 10 rfl (fA 1 (.t rfl)) ?_
              refine al1 11 rfl ((stv jA ba.fj (.t rfl) (.t rfl) ?_))
              refine hdn (ovr (bN (pN (region (co (Ev.a8 (.t rfl) (.c (v:=I 1) rfl) (fun _=>zo)) ?_)))))
              refine mv rfl (nP (nx (X:=Int × OV × OV × (List OV) × (List Res) × (Nat→Nat)) (i + 1,_,_,os ++ [x1.1],aP x1.1.v (ovE bU) (im (l.getD i.toNat ay.zero) x1.2) 186 :: Var x1.2 ay (l.getD i.toNat ay.zero) 86 :: Rs,fun q=>if q = i.toNat then x1.2 else bs q) ⟨?_,?_,?_,?_⟩ ?_ (hL:=(by dsimp only; rw [eQ l i hi.1 (by omega) ay.zero]; repeat first | exact List.Sublist.refl _ | apply List.Sublist.cons_cons | apply List.Sublist.cons))))
              · try dsimp only
                omega
              · try dsimp only
                simp; omega
              · try dsimp only
                exact jM l i hi.1 (by omega) hok hokm
              · try dsimp only
                intro w1 hw q hq
                by_cases e:q = i.toNat
                · subst e
                  have e1:(os ++ [x1.1]).getD i.toNat aw = x1.1:=by
                    have:os.length = i.toNat:=by omega
                    simp [List.getD,← this]
                  rw [if_pos rfl]
                  show bH _ _ ((os ++ [x1.1]).getD i.toNat aw).v _ ∧ _
                  rw [e1]
                  exact ⟨bH.fT (hw _ List.mem_cons_self),dw (hw _ (List.mem_cons_of_mem _ List.mem_cons_self))⟩
                · have e1:(os ++ [x1.1]).getD q aw = os.getD q aw:=by
                    have:q < os.length:=by omega
                    simp [List.getD,List.getElem?_append,this]
                  rw [if_neg e]
                  show bH _ _ ((os ++ [x1.1]).getD q aw).v _ ∧ _
                  rw [e1]
                  exact hR w1 (fun r hr=>hw r (List.mem_cons_of_mem _ (List.mem_cons_of_mem _ hr))) q (by omega)
              · try dsimp only
                omega
    · try simp only [Gx.nb] at hge
      refine exit (pX (pX (bX (pN (sg (mv rfl (asn rfl (co (Ev.assign (.c (v:=I 0) rfl)) ?_))))))))
      refine nP (ret (done rfl (.tmp rfl (.tmp rfl .nil)) (fun w I=>?_)))
      have et:l.take i.toNat = l:=List.take_of_length_le (by omega)
      rw [et] at hok I
      have hc:j3 l = 0:=by unfold j3; rw [decide_eq_false (by omega),hok]; rfl
      refine nQ (b1,Rs ++ [aP mo.v ay l 86,aP ao.v (ovE aw) os 130,Var b1 fp ⟨mo,ao⟩ 128]) (fun _ w1 hw=>?_) (by unfold compV ptrC ptrO; rw [hc]; rfl) (List.Sublist.refl _) w I
      refine ⟨mo,ao,os,bs,dw (hw _ (List.mem_append_right _ (List.mem_cons_of_mem _ (List.mem_cons_of_mem _ List.mem_cons_self)))),bH.fT (hw _ (List.mem_append_right _ List.mem_cons_self)),bH.fT (hw _ (List.mem_append_right _ (List.mem_cons_of_mem _ List.mem_cons_self))),by omega,fun q hq=>hR w1 (fun r hr=>hw r (List.mem_append_left _ hr)) q (by omega)⟩
def fV (q:aB→Bool):List aB→Int→Int
  | [],_=>-1
  | m :: l,k=>bif q m then k else fV q l (k + 1)
theorem nJ (q:aB→Bool) (l:List aB) (i:Nat) (k:Int) (h:i < l.length):fV q (l.drop i) k = bif q (l.getD i ay.zero) then k else fV q (l.drop (i + 1)) (k + 1):=by
  rw [List.drop_eq_getElem_cons h]
  simp [fV,List.getD,h]
theorem en40:Gx.aC Tryz.prog 40:=Gx.aC.mk' zk
theorem first_ok (b:Nat) (l:List aB) (n:Int) (h:au) (w:World) (hR:lf w b l):Gx.Calls Tryz.prog 19 #[.pointer (some ⟨b,0,none⟩),I n,bS.val h] w (cD w (I (fV (fun m=>nT m n h) l 0))):=by
  obtain ⟨mo,ao,os,bs,hr,hmo,hao,hol,hcl⟩:=hR
  have hml:=hmo.le
  have hal:=hao.le
  refine en0 26 Tryz.func19 (fun _ _=>?_)
  refine sg (cons (box (E:=bS) (.t rfl) (fun b1=>?_)))
  refine co (Ev.assign (.c (v:=I 0) rfl)) ?_
  refine nP (seq (sg (mv rfl (co (Ev.eql_p Tryz.underlying64 (.t rfl) (.c rfl)) ?_))))
  refine nP (il rfl (rfl) ?_)
  refine skip (pN (seq (sg (mv rfl (co (Ev.nilCheck (.t rfl)) ?_)))))
  refine co (fA 1 (.t rfl)) ?_
  refine co (Ev.load jA (.t rfl) (cU (fun w I=>hr.cB I.keeps) ba.fj)) ?_
  refine co (Ev.len Tryz.underlying126 (.t rfl) (fun w I=>hao.aT I.keeps)) ?_
  refine co (Ev.move (.c (v:=I 0) rfl)) ?_
  refine nP (block (lp (X:=Int) (fun x:Int=>(0 ≤ x ∧ x ≤ l.length) ∧ (fV (fun m=>nT m n h) (l.drop x.toNat) x = fV (fun m=>nT m n h) l 0)) (fun x:Int=>[dz,(1,true,I n),(5,true,.pointer (some ⟨b1,0,none⟩)),(14,true,ao.v),(15,true,I os.length),(16,true,I x)]) (fun x:Int=>[Var b1 bS h 47]) (fun x:Int=>(l.length - x).toNat) (0) ⟨?_,?_⟩ (fun x hx=>?_)))
  · omega
  · rfl
  obtain ⟨i,rfl⟩:∃ y,y = x:=⟨x,rfl⟩
  obtain ⟨hi,hf⟩:(0 ≤ i ∧ i ≤ l.length) ∧ (fV (fun m=>nT m n h) (l.drop i.toNat) i = fV (fun m=>nT m n h) l 0):=hx
  show Sat _ _ [dz,(1,true,I n),(5,true,.pointer (some ⟨b1,0,none⟩)),(14,true,ao.v),(15,true,I os.length),(16,true,I i)] [Var b1 bS h 47]
  refine sg (co (Ev.dx (.t rfl) (.t rfl)) ?_)
  refine nP (seq ?_)
  first | refine aL rfl (fun hlt=>?_) (fun hge=>?_) | refine cond rfl (fun hlt=>?_) (fun hge=>?_)
  · try simp only [Gx.nb] at hlt
    refine skip (pN (seq (block (sg (mv rfl (co (Ev.indexAddr Tryz.underlying126 jf (.t rfl) (.t rfl) (fun w I=>hao.aT I.keeps) (fun _=>zo)) ?_))))))
    refine co (Ev.dp jf (.t rfl) (fun w I=>hao.aT I.keeps) (fun _=>zo)) ?_
    refine asn rfl (asn rfl (nP (sg ?_)))
    have hck:=hcl i.toNat (by omega)
    refine mv rfl (mv rfl (cons (aZ en40 (.cons (.t rfl) (.cons (.t rfl) (.cons (.t rfl) .nil))) (fun w I=>meetsL_ok _ _ n h _ _ w (hck.1.aT I.keeps) (hck.2.cB I.keeps) (cT zm (ak.id _) w I)) ?_)))
    refine nP ?_
    first | refine aL rfl (fun h2=>?_) (fun h2=>?_) | refine cond rfl (fun h2=>?_) (fun h2=>?_)
    · refine sg (mv rfl (asn rfl (nP (ret (bR (pR (pR (bR (pR (done rfl (.tmp rfl .nil) (bc ?_)))))))))))
      rw [← hf,nJ _ l i.toNat i (by omega)]
      have h3:nT (l.getD i.toNat ay.zero) n h = true:=by simpa using h2
      rw [h3]; rfl
    · refine skip (bN (pN (region (co (Ev.a8 (.t rfl) (.c (v:=I 1) rfl) (fun _=>zo)) ?_))))
      refine mv rfl (nP (nx (X:=Int) (i + 1) ⟨?_,?_⟩ ?_))
      · try dsimp only
        omega
      · try dsimp only
        rw [← hf,nJ _ l i.toNat i (by omega)]
        have e:(i + 1).toNat = i.toNat + 1:=by omega
        rw [e]
        have h3:nT (l.getD i.toNat ay.zero) n h = false:=by simpa using h2
        rw [h3]; rfl
      · try dsimp only
        omega
  · try simp only [Gx.nb] at hge
    refine exit (pX (pX (bX (pN (sg (co (Ev.assign (.c (v:=I (-1)) rfl)) ?_))))))
    refine nP (ret (done rfl (.tmp rfl .nil) (bc ?_)))
    rw [List.drop_eq_nil_of_le (by omega)] at hf
    rw [← hf]; rfl
end Go.Proofs.YtjanhajdmhalaaaGreat
namespace Go.Proofs.YtjanhajdmhalaaaGreat.Tri
open Go Go.Gx
def lcp:List Bool→List Bool→List Bool
  | a :: x,b :: y=>if a = b then a :: lcp x y else []
  | _,_=>[]
theorem kH:∀ x y,lcp x y <+: x
  | [],_=>by simp [lcp]
  | a :: x,[]=>by simp [lcp]
  | a :: x,b :: y=>by
    unfold lcp
    split
    · rw [List.cons_prefix_cons]; exact ⟨rfl,kH x y⟩
    · exact List.nil_prefix
theorem lcp_comm:∀ x y,lcp x y = lcp y x
  | [],[]=>rfl
  | [],_ :: _=>rfl
  | _ :: _,[]=>rfl
  | a :: x,b :: y=>by
    unfold lcp
    by_cases h:a = b
    · rw [if_pos h,if_pos h.symm,lcp_comm x y,h]
    · rw [if_neg h,if_neg (fun e=>h e.symm)]
theorem nm (x y:List Bool):lcp x y <+: y:=by rw [lcp_comm]; exact kH y x
theorem lcp_max:∀ c x y:List Bool,c <+: x→c <+: y→c <+: lcp x y
  | [],_,_,_,_=>List.nil_prefix
  | c :: cs,[],_,h,_=>by simp at h
  | c :: cs,_ :: _,[],_,h=>by simp at h
  | c :: cs,a :: x,b :: y,h1,h2=>by
    rw [List.cons_prefix_cons] at h1 h2
    unfold lcp
    rw [if_pos (h1.1.symm.trans h2.1),List.cons_prefix_cons]
    exact ⟨h1.1,lcp_max cs x y h1.2 h2.2⟩
theorem lcp_split:∀ x y:List Bool,lcp x y ≠ x→lcp x y ≠ y→∃ b,lcp x y ++ [b] <+: x ∧ lcp x y ++ [!b] <+: y
  | [],y,h,_=>absurd (by simp [lcp]) h
  | a :: x,[],_,h=>absurd (by simp [lcp]) h
  | a :: x,b :: y,h1,h2=>by
    unfold lcp at h1 h2 ⊢
    by_cases h:a = b
    · rw [if_pos h] at h1 h2 ⊢
      subst h
      obtain ⟨c,k1,k2⟩:=lcp_split x y (fun e=>h1 (by rw [e])) (fun e=>h2 (by rw [e]))
      exact ⟨c,by simpa [List.cons_prefix_cons] using k1,by simpa [List.cons_prefix_cons] using k2⟩
    · rw [if_neg h]
      refine ⟨a,by simp,?_⟩
      have:(!a) = b:=by cases a <;> cases b <;> simp_all
      rw [this]
      simp
def nb (x y:List Bool):Bool:=y.getD x.length false
theorem mB {x y:List Bool} (h:x <+: y) (hne:x ≠ y):x ++ [nb x y] <+: y:=by
  obtain ⟨z,rfl⟩:=h
  cases z with
  | nil=>simp at hne
  | cons b z =>
    have:nb x (x ++ b :: z) = b:=by simp [nb,List.getD]
    rw [this]
    exact ⟨z,by simp⟩
theorem lF {x y:List Bool} {b:Bool} (h:x ++ [b] <+: y):nb x y = b:=by
  obtain ⟨z,rfl⟩:=h
  simp [nb,List.getD]
theorem jT {x y:List Bool} (h:x <+: y) (hl:y.length ≤ x.length):x = y:=List.IsPrefix.eq_of_length_le h hl
theorem dQ {x y:List Bool} {b:Bool} (h:x ++ [b] <+: y):x <+: y:=(List.prefix_append x [b]).trans h
theorem pre_two {x y z:List Bool} (hx:x <+: z) (hy:y <+: z):x <+: y ∨ y <+: x:=by
  rcases Nat.le_total x.length y.length with h | h
  · exact .inl (List.prefix_of_prefix_length_le hx hy h)
  · exact .inr (List.prefix_of_prefix_length_le hy hx h)
theorem jD {x y z:List Bool} {b:Bool} (h1:x ++ [b] <+: y) (h2:x ++ [!b] <+: z) (h:y <+: z):False:=by
  have e1:=lF (h1.trans h)
  have e2:=lF h2
  rw [e1] at e2
  cases b <;> simp at e2
def ltB:List Bool→List Bool→Bool
  | [],[]=>false
  | [],_ :: _=>true
  | _ :: _,[]=>false
  | a :: x,b :: y=>(!a && b) || (a == b && ltB x y)
theorem ltB_irr:∀ x,ltB x x = false
  | []=>rfl
  | a :: x=>by simp [ltB,ltB_irr x]
theorem ltB_pre:∀ x y:List Bool,x <+: y→x ≠ y→ltB x y = true
  | [],[],_,h=>absurd rfl h
  | [],_ :: _,_,_=>rfl
  | _ :: _,[],h,_=>by simp at h
  | a :: x,b :: y,h,hne=>by
    rw [List.cons_prefix_cons] at h
    obtain ⟨rfl,h⟩:=h
    have:=ltB_pre x y h (fun e=>hne (by rw [e]))
    simp [ltB,this]
theorem ltB_split:∀ c x y:List Bool,c ++ [false] <+: x→c ++ [true] <+: y→ltB x y = true
  | [],x,y,h1,h2=>by
    obtain ⟨u,rfl⟩:=h1
    obtain ⟨v,rfl⟩:=h2
    simp [ltB]
  | c :: cs,x,y,h1,h2=>by
    cases x with
    | nil=>simp at h1
    | cons a x =>
      cases y with
      | nil=>simp at h2
      | cons b y =>
        rw [List.cons_append,List.cons_prefix_cons] at h1 h2
        have:=ltB_split cs x y h1.2 h2.2
        simp [ltB,← h1.1,← h2.1,this]
inductive Tr (κ:Type) where
  | nil:Tr κ
  | node:κ→Int→Bool→Tr κ→Tr κ→Tr κ
def Tr.isNil {κ:Type}:Tr κ→Bool
  | .nil=>true
  | _=>false
def Tr.bL {κ:Type}:Tr κ→List (κ × Int)
  | .nil=>[]
  | .node p v h l r=>(if h = true then [(p,v)] else []) ++ (l.bL ++ r.bL)
def Tr.shp {κ:Type}:Tr κ→List κ
  | .nil=>[]
  | .node p _ _ l r=>p :: (l.shp ++ r.shp)
def Tr.WF {κ:Type} (ok:κ→Prop) (bs:κ→List Bool):List Bool→Tr κ→Prop
  | _,.nil=>True
  | c,.node p v h l r=>ok p ∧ c <+: bs p ∧ l.WF ok bs (bs p ++ [false]) ∧ r.WF ok bs (bs p ++ [true]) ∧ (h = false→v = 0 ∧ l ≠ .nil ∧ r ≠ .nil)
section
variable {κ:Type} {ok:κ→Prop} {bs:κ→List Bool}
theorem Tr.WF.mono {c d:List Bool} (h:d <+: c):∀ {t:Tr κ},t.WF ok bs c→t.WF ok bs d
  | .nil,_=>trivial
  | .node _ _ _ _ _,⟨h1,h2,h3⟩=>⟨h1,h.trans h2,h3⟩
theorem Tr.WF.lT:∀ {t:Tr κ} {c:List Bool},t.WF ok bs c→∀ q ∈ t.shp,ok q ∧ c <+: bs q
  | .nil,_,_,q,hq=>by simp [shp] at hq
  | .node p v h l r,c,⟨h1,h2,h3,h4,_⟩,q,hq=>by
    simp only [shp,List.mem_cons,List.mem_append] at hq
    rcases hq with rfl | hq | hq
    · exact ⟨h1,h2⟩
    · have:=h3.lT q hq
      exact ⟨this.1,h2.trans (dQ this.2)⟩
    · have:=h4.lT q hq
      exact ⟨this.1,h2.trans (dQ this.2)⟩
theorem Tr.px:∀ (t:Tr κ) (x:κ × Int),x ∈ t.bL→x.1 ∈ t.shp
  | .nil,x,h=>by simp [bL] at h
  | .node p v h l r,x,hx=>by
    simp only [bL,List.mem_append] at hx
    simp only [shp,List.mem_cons,List.mem_append]
    rcases hx with hx | hx | hx
    · split at hx
      · simp at hx; exact .inl (by rw [hx])
      · simp at hx
    · exact .inr (.inl (px l x hx))
    · exact .inr (.inr (px r x hx))
theorem Tr.WF.fl {t:Tr κ} {c:List Bool} (h:t.WF ok bs c) (x:κ × Int) (hx:x ∈ t.bL):ok x.1 ∧ c <+: bs x.1:=h.lT _ (t.px x hx)
theorem Tr.WF.ne_nil:∀ {t:Tr κ} {c:List Bool},t.WF ok bs c→t ≠ .nil→t.bL ≠ []
  | .nil,_,_,h=>absurd rfl h
  | .node p v h l r,c,⟨_,_,h3,h4,h5⟩,_=>by
    cases h with
    | true=>simp [bL]
    | false =>
      obtain ⟨_,h6,_⟩:=h5 rfl
      have:=h3.ne_nil h6
      simp [bL,this]
theorem Tr.WF.lS:∀ {t:Tr κ} {c:List Bool},t.WF ok bs c→t.shp.Pairwise (fun a b=>ltB (bs a) (bs b) = true)
  | .nil,_,_=>List.Pairwise.nil
  | .node p v h l r,c,⟨_,h2,h3,h4,_⟩=>by
    simp only [shp]
    have low:∀ (b:Bool) (q:κ),bs p ++ [b] <+: bs q→ltB (bs p) (bs q) = true:=fun b q hq=>ltB_pre _ _ (dQ hq) (fun e=>by
      have:=hq.length_le
      rw [← e] at this
      simp at this
      omega)
    refine List.pairwise_cons.2 ⟨fun q hq=>?_,List.pairwise_append.2 ⟨h3.lS,h4.lS,fun a ha b hb=>ltB_split _ _ _ (h3.lT a ha).2 (h4.lT b hb).2⟩⟩
    rcases List.mem_append.1 hq with hq | hq
    · exact low _ q (h3.lT q hq).2
    · exact low _ q (h4.lT q hq).2
theorem Tr.pw:∀ (t:Tr κ),(t.bL.map (·.1)).Sublist t.shp
  | .nil=>List.Sublist.refl _
  | .node p v h l r=>by
    simp only [bL,shp,List.map_append]
    have:=(pw l).append (pw r)
    cases h with
    | true=>simpa using this.cons_cons p
    | false=>simpa using this.cons p
theorem Tr.WF.ents_sorted {t:Tr κ} {c:List Bool} (h:t.WF ok bs c):t.bL.Pairwise (fun a b=>ltB (bs a.1) (bs b.1) = true) :=
  List.pairwise_map.1 (h.lS.sublist t.pw)
structure KeyLaw (ok:κ→Prop) (bs:κ→List Bool) (both:κ→κ→κ) (bit:κ→κ→Bool):Prop where
  inj:∀ p q,ok p→ok q→bs p = bs q→p = q
  both:∀ p q,ok p→ok q→ok (both p q) ∧ bs (both p q) = lcp (bs p) (bs q)
  bit:∀ p q,ok p→ok q→bs p <+: bs q→bs p ≠ bs q→bit p q = nb (bs p) (bs q)
variable [DecidableEq κ]
def Tr.put (both:κ→κ→κ) (bit:κ→κ→Bool) (p:κ) (v:Int):Tr κ→Tr κ × Bool
  | .nil=>(.node p v true .nil .nil,true)
  | .node q u h l r =>
    if q = p then (.node p v true l r,!h)
    else if both q p = q then
      if bit q p = true then (.node q u h l (r.put both bit p v).1,(r.put both bit p v).2) else (.node q u h (l.put both bit p v).1 r,(l.put both bit p v).2)
    else if both q p = p then
      (if bit p q = true then .node p v true .nil (.node q u h l r) else .node p v true (.node q u h l r) .nil,true)
    else (if bit (both q p) p = true then .node (both q p) 0 false (.node q u h l r) (.node p v true .nil .nil) else .node (both q p) 0 false (.node p v true .nil .nil) (.node q u h l r),true)
def Tr.bare:Tr κ→Tr κ
  | .nil=>.nil
  | .node p v h l r=>if h = true ∨ (l.isNil = false ∧ r.isNil = false) then .node p v h l r else if l.isNil = false then l else r
def Tr.cut (bit:κ→κ→Bool) (p:κ):Tr κ→Tr κ
  | .nil=>.nil
  | .node q u h l r=>if q = p then (Tr.node q 0 false l r).bare else if bit q p = true then (Tr.node q u h l (r.cut bit p)).bare else (Tr.node q u h (l.cut bit p) r).bare
variable {both:κ→κ→κ} {bit:κ→κ→Bool}
theorem KeyLaw.ways (K:KeyLaw ok bs both bit) {q p:κ} (hq:ok q) (hp:ok p) (hne:q ≠ p) :
    (both q p = q ∧ bs q ++ [bit q p] <+: bs p) ∨ (both q p ≠ q ∧ both q p = p ∧ bs p ++ [bit p q] <+: bs q) ∨
    (both q p ≠ q ∧ both q p ≠ p ∧ ok (both q p) ∧ bs (both q p) = lcp (bs q) (bs p) ∧ bit (both q p) q = !(bit (both q p) p) ∧ bs (both q p) ++ [!(bit (both q p) p)] <+: bs q ∧ bs (both q p) ++ [bit (both q p) p] <+: bs p):=by
  obtain ⟨h1,h2⟩:=K.both q p hq hp
  have hbne:bs q ≠ bs p:=fun e=>hne (K.inj _ _ hq hp e)
  by_cases e1:both q p = q
  · refine .inl ⟨e1,?_⟩
    have hpre:bs q <+: bs p:=by
      rw [e1] at h2
      rw [h2]
      exact nm _ _
    rw [K.bit q p hq hp hpre hbne]
    exact mB hpre hbne
  · by_cases e2:both q p = p
    · refine .inr (.inl ⟨e1,e2,?_⟩)
      have hpre:bs p <+: bs q:=by
        rw [e2] at h2
        rw [h2]
        exact kH _ _
      rw [K.bit p q hp hq hpre hbne.symm]
      exact mB hpre hbne.symm
    · have n1:lcp (bs q) (bs p) ≠ bs q:=fun e=>e1 (K.inj _ _ h1 hq (h2.trans e))
      have n2:lcp (bs q) (bs p) ≠ bs p:=fun e=>e2 (K.inj _ _ h1 hp (h2.trans e))
      obtain ⟨b,g1,g2⟩:=lcp_split _ _ n1 n2
      rw [← h2] at g1 g2 n1 n2
      have b1:=K.bit _ q h1 hq (dQ g1) n1
      have b2:=K.bit _ p h1 hp (dQ g2) n2
      rw [lF g1] at b1
      rw [lF g2] at b2
      refine .inr (.inr ⟨e1,e2,h1,h2,?_,?_,?_⟩)
      · rw [b1,b2,Bool.not_not]
      · rw [b2,Bool.not_not]; exact g1
      · rw [b2]; exact g2
theorem mq {x y:List Bool} {b:Bool} (h:x ++ [b] <+: y):x ≠ y:=fun e=>by
  have:=h.length_le
  rw [← e] at this
  simp at this
  omega
theorem KeyLaw.oL (K:KeyLaw ok bs both bit) {p:κ} (hp:ok p) (v:Int):∀ (t:Tr κ) (c:List Bool),t.WF ok bs c→c <+: bs p →
    (t.put both bit p v).1.WF ok bs c ∧ (t.put both bit p v).1 ≠ .nil ∧ (∀ x,x ∈ (t.put both bit p v).1.bL ↔ (x = (p,v) ∨ (x ∈ t.bL ∧ x.1 ≠ p))) ∧ ((t.put both bit p v).2 = true ↔ ∀ x ∈ t.bL,x.1 ≠ p)
  | .nil,c,_,hc=>by
    refine ⟨⟨hp,hc,trivial,trivial,(fun h=>by cases h)⟩,(fun h=>by cases h),fun x=>?_,?_⟩
    · simp [Tr.put,Tr.bL]
    · simp [Tr.put,Tr.bL]
  | .node q u h l r,c,hw,hc=>by
    have hw':=hw
    obtain ⟨hq,h2,h3,h4,h5⟩:=hw
    have inl:∀ x ∈ l.bL,bs q ++ [false] <+: bs x.1:=fun x hx=>(h3.fl x hx).2
    have inr:∀ x ∈ r.bL,bs q ++ [true] <+: bs x.1:=fun x hx=>(h4.fl x hx).2
    by_cases e:q = p
    · subst e
      have nl:∀ x ∈ l.bL,x.1 ≠ q:=fun x hx e=>mq (inl x hx) (by rw [e])
      have nr:∀ x ∈ r.bL,x.1 ≠ q:=fun x hx e=>mq (inr x hx) (by rw [e])
      have hput:Tr.put both bit q v (.node q u h l r) = (.node q v true l r,!h):=by rw [Tr.put,if_pos rfl]
      rw [hput]
      refine ⟨⟨hq,h2,h3,h4,(fun h=>by cases h)⟩,(fun h=>by cases h),fun x=>?_,?_⟩
      · simp only [Tr.bL,if_true,List.mem_append,List.mem_singleton]
        constructor
        · rintro (h | h | h)
          · exact .inl h
          · exact .inr ⟨.inr (.inl h),nl x h⟩
          · exact .inr ⟨.inr (.inr h),nr x h⟩
        · rintro (h | ⟨h | h | h,hn⟩)
          · exact .inl h
          · split at h
            · simp only [List.mem_singleton] at h
              rw [h] at hn
              exact absurd rfl hn
            · simp at h
          · exact .inr (.inl h)
          · exact .inr (.inr h)
      · simp only [Tr.bL,List.mem_append]
        constructor
        · intro hh x hx
          have hf:h = false:=by simpa using hh
          subst hf
          rcases hx with hx | hx | hx
          · simp at hx
          · exact nl x hx
          · exact nr x hx
        · intro hh
          cases h with
          | false=>rfl
          | true=>exact absurd rfl (hh (q,u) (.inl (by simp)))
    · have epq:∀ x:κ × Int,x ∈ (if h = true then [(q,u)] else [])→x.1 ≠ p:=fun x hx=>by
        split at hx
        · simp only [List.mem_singleton] at hx; rw [hx]; exact e
        · simp at hx
      rcases K.ways hq hp e with ⟨e1,e2⟩ | ⟨e0,e1,e2⟩ | ⟨e0,e1,e2,e3,e4,e5,e6⟩
      · cases hb:bit q p with
        | true =>
          rw [hb] at e2
          have hput:Tr.put both bit p v (.node q u h l r) = (.node q u h l (r.put both bit p v).1,(r.put both bit p v).2):=by rw [Tr.put,if_neg e,if_pos e1,if_pos hb]
          rw [hput]
          obtain ⟨g1,g2,g3,g4⟩:=K.oL hp v r _ h4 e2
          refine ⟨⟨hq,h2,h3,g1,fun hh=>⟨(h5 hh).1,(h5 hh).2.1,g2⟩⟩,(fun h=>by cases h),fun x=>?_,?_⟩
          · have nl:x ∈ l.bL→x.1 ≠ p:=fun hx e=>jD (b:=false) (inl x hx) e2 (by rw [e]; exact List.prefix_refl _)
            simp only [Tr.bL,List.mem_append,g3]
            constructor
            · rintro (h | h | h | h)
              · exact .inr ⟨.inl h,epq x h⟩
              · exact .inr ⟨.inr (.inl h),nl h⟩
              · exact .inl h
              · exact .inr ⟨.inr (.inr h.1),h.2⟩
            · rintro (h | ⟨h | h | h,hn⟩)
              · exact .inr (.inr (.inl h))
              · exact .inl h
              · exact .inr (.inl h)
              · exact .inr (.inr (.inr ⟨h,hn⟩))
          · rw [g4]
            simp only [Tr.bL,List.mem_append]
            constructor
            · rintro hh x (hx | hx | hx)
              · exact epq x hx
              · exact fun e=>jD (b:=false) (inl x hx) e2 (by rw [e]; exact List.prefix_refl _)
              · exact hh x hx
            · exact fun hh x hx=>hh x (.inr (.inr hx))
        | false =>
          rw [hb] at e2
          have hput:Tr.put both bit p v (.node q u h l r) = (.node q u h (l.put both bit p v).1 r,(l.put both bit p v).2):=by rw [Tr.put,if_neg e,if_pos e1,if_neg (by rw [hb]; exact Bool.false_ne_true)]
          rw [hput]
          obtain ⟨g1,g2,g3,g4⟩:=K.oL hp v l _ h3 e2
          refine ⟨⟨hq,h2,g1,h4,fun hh=>⟨(h5 hh).1,g2,(h5 hh).2.2⟩⟩,(fun h=>by cases h),fun x=>?_,?_⟩
          · have nr:x ∈ r.bL→x.1 ≠ p:=fun hx e=>jD (b:=true) (inr x hx) e2 (by rw [e]; exact List.prefix_refl _)
            simp only [Tr.bL,List.mem_append,g3]
            constructor
            · rintro (h | (h | h) | h)
              · exact .inr ⟨.inl h,epq x h⟩
              · exact .inl h
              · exact .inr ⟨.inr (.inl h.1),h.2⟩
              · exact .inr ⟨.inr (.inr h),nr h⟩
            · rintro (h | ⟨h | h | h,hn⟩)
              · exact .inr (.inl (.inl h))
              · exact .inl h
              · exact .inr (.inl (.inr ⟨h,hn⟩))
              · exact .inr (.inr h)
          · rw [g4]
            simp only [Tr.bL,List.mem_append]
            constructor
            · rintro hh x (hx | hx | hx)
              · exact epq x hx
              · exact hh x hx
              · exact fun e=>jD (b:=true) (inr x hx) e2 (by rw [e]; exact List.prefix_refl _)
            · exact fun hh x hx=>hh x (.inr (.inl hx))
      · have hall:∀ x ∈ (Tr.node q u h l r).bL,x.1 ≠ p:=fun x hx e'=>by
          have:=(hw'.mono (List.nil_prefix (l:=c))).fl x hx
          have h9:bs q <+: bs x.1:=by
            simp only [Tr.bL,List.mem_append] at hx
            rcases hx with hx | hx | hx
            · split at hx
              · simp only [List.mem_singleton] at hx; rw [hx]; exact List.prefix_refl _
              · simp at hx
            · exact dQ (inl x hx)
            · exact dQ (inr x hx)
          rw [e'] at h9
          exact mq e2 (jT (dQ e2) h9.length_le)
        have hwq:∀ d,d <+: bs q→(Tr.node q u h l r).WF ok bs d:=fun d hd=>⟨hq,hd,h3,h4,h5⟩
        cases hb:bit p q with
        | true =>
          rw [hb] at e2
          have hput:Tr.put both bit p v (.node q u h l r) = (.node p v true .nil (.node q u h l r),true):=by rw [Tr.put,if_neg e,if_neg e0,if_pos e1,if_pos hb]
          rw [hput]
          refine ⟨⟨hp,hc,trivial,hwq _ e2,(fun h=>by cases h)⟩,(fun h=>by cases h),fun x=>?_,⟨fun _=>hall,fun _=>rfl⟩⟩
          rw [show (Tr.node p v true .nil (.node q u h l r)).bL = (p,v) :: (Tr.node q u h l r).bL by simp [Tr.bL],List.mem_cons]
          exact ⟨fun h=>h.imp id fun h=>⟨h,hall x h⟩,fun h=>h.imp id fun h=>h.1⟩
        | false =>
          rw [hb] at e2
          have hput:Tr.put both bit p v (.node q u h l r) = (.node p v true (.node q u h l r) .nil,true):=by rw [Tr.put,if_neg e,if_neg e0,if_pos e1,if_neg (by rw [hb]; exact Bool.false_ne_true)]
          rw [hput]
          refine ⟨⟨hp,hc,hwq _ e2,trivial,(fun h=>by cases h)⟩,(fun h=>by cases h),fun x=>?_,⟨fun _=>hall,fun _=>rfl⟩⟩
          rw [show (Tr.node p v true (.node q u h l r) .nil).bL = (p,v) :: (Tr.node q u h l r).bL by simp [Tr.bL],List.mem_cons]
          exact ⟨fun h=>h.imp id fun h=>⟨h,hall x h⟩,fun h=>h.imp id fun h=>h.1⟩
      · have hall:∀ x ∈ (Tr.node q u h l r).bL,x.1 ≠ p:=fun x hx e'=>by
          have h9:bs q <+: bs x.1:=by
            simp only [Tr.bL,List.mem_append] at hx
            rcases hx with hx | hx | hx
            · split at hx
              · simp only [List.mem_singleton] at hx; rw [hx]; exact List.prefix_refl _
              · simp at hx
            · exact dQ (inl x hx)
            · exact dQ (inr x hx)
          rw [e'] at h9
          have e7:=e5.trans h9
          have n1:=lF e6
          have n2:=lF e7
          rw [n1] at n2
          cases hbb:bit (both q p) p <;> rw [hbb] at n2 <;> cases n2
        have hwq:∀ d,d <+: bs q→(Tr.node q u h l r).WF ok bs d:=fun d hd=>⟨hq,hd,h3,h4,h5⟩
        have hcc:c <+: bs (both q p):=by rw [e3]; exact lcp_max _ _ _ h2 hc
        cases hb:bit (both q p) p with
        | true =>
          rw [hb] at e5 e6
          have hput:Tr.put both bit p v (.node q u h l r) = (.node (both q p) 0 false (.node q u h l r) (.node p v true .nil .nil),true):=by rw [Tr.put,if_neg e,if_neg e0,if_neg e1,if_pos hb]
          rw [hput]
          refine ⟨⟨e2,hcc,hwq _ e5,⟨hp,e6,trivial,trivial,(fun h=>by cases h)⟩,fun _=>⟨rfl,(fun h=>by cases h),(fun h=>by cases h)⟩⟩,(fun h=>by cases h),fun x=>?_,⟨fun _=>hall,fun _=>rfl⟩⟩
          rw [show (Tr.node (both q p) 0 false (.node q u h l r) (.node p v true .nil .nil)).bL = (Tr.node q u h l r).bL ++ [(p,v)] by simp [Tr.bL],List.mem_append,List.mem_singleton]
          exact ⟨fun h=>h.symm.imp id fun h=>⟨h,hall x h⟩,fun h=>(h.imp id fun h=>h.1).symm⟩
        | false =>
          rw [hb] at e5 e6
          have hput:Tr.put both bit p v (.node q u h l r) = (.node (both q p) 0 false (.node p v true .nil .nil) (.node q u h l r),true):=by rw [Tr.put,if_neg e,if_neg e0,if_neg e1,if_neg (by rw [hb]; exact Bool.false_ne_true)]
          rw [hput]
          refine ⟨⟨e2,hcc,⟨hp,e6,trivial,trivial,(fun h=>by cases h)⟩,hwq _ e5,fun _=>⟨rfl,(fun h=>by cases h),(fun h=>by cases h)⟩⟩,(fun h=>by cases h),fun x=>?_,⟨fun _=>hall,fun _=>rfl⟩⟩
          rw [show (Tr.node (both q p) 0 false (.node p v true .nil .nil) (.node q u h l r)).bL = (p,v) :: (Tr.node q u h l r).bL by simp [Tr.bL],List.mem_cons]
          exact ⟨fun h=>h.imp id fun h=>⟨h,hall x h⟩,fun h=>h.imp id fun h=>h.1⟩
def Tr.path (cov lt:κ→κ→Bool) (bit:κ→κ→Bool) (p:κ):Tr κ→List (κ × Int × Bool)
  | .nil=>[]
  | .node q u h l r=>if cov q p = true then (q,u,h) :: (if lt q p = true then (if bit q p = true then r.path cov lt bit p else l.path cov lt bit p) else []) else []
variable {cov lt:κ→κ→Bool}
structure CovLaw (ok:κ→Prop) (bs:κ→List Bool) (cov lt:κ→κ→Bool):Prop where
  cov:∀ q p,ok q→ok p→(cov q p = true ↔ bs q <+: bs p)
  lt:∀ q p,ok q→ok p→(lt q p = true ↔ (bs q).length < (bs p).length)
theorem KeyLaw.kW (K:KeyLaw ok bs both bit) (C:CovLaw ok bs cov lt) {p:κ} (hp:ok p):∀ (t:Tr κ) (c:List Bool),t.WF ok bs c →
    (∀ x:κ × Int,(x.1,x.2,true) ∈ t.path cov lt bit p ↔ (x ∈ t.bL ∧ bs x.1 <+: bs p)) ∧ (∀ y ∈ t.path cov lt bit p,c <+: bs y.1 ∧ bs y.1 <+: bs p ∧ ok y.1) ∧ (t.path cov lt bit p).Pairwise (fun a b=>(bs a.1).length < (bs b.1).length)
  | .nil,c,_=>⟨fun x=>by simp [Tr.path,Tr.bL],fun y hy=>by simp [Tr.path] at hy,List.Pairwise.nil⟩
  | .node q u h l r,c,hw=>by
    obtain ⟨hq,h2,h3,h4,h5⟩:=hw
    have inl:∀ x ∈ l.bL,bs q ++ [false] <+: bs x.1:=fun x hx=>(h3.fl x hx).2
    have inr:∀ x ∈ r.bL,bs q ++ [true] <+: bs x.1:=fun x hx=>(h4.fl x hx).2
    have hqe:∀ x:κ × Int,x ∈ (if h = true then [(q,u)] else []) ↔ (x.1,x.2,true) = (q,u,h):=fun x=>by
      cases h <;> simp [Prod.ext_iff]
    by_cases e1:cov q p = true
    · have hpre:=(C.cov q p hq hp).1 e1
      by_cases e2:lt q p = true
      · have hlt:=(C.lt q p hq hp).1 e2
        have hne:bs q ≠ bs p:=fun e=>by rw [e] at hlt; omega
        have hstep:=mB hpre hne
        rw [← K.bit q p hq hp hpre hne] at hstep
        cases hb:bit q p with
        | true =>
          rw [hb] at hstep
          have hpath:Tr.path cov lt bit p (.node q u h l r) = (q,u,h) :: r.path cov lt bit p:=by rw [Tr.path,if_pos e1,if_pos e2,if_pos hb]
          rw [hpath]
          obtain ⟨g1,g2,g3⟩:=K.kW C hp r _ h4
          refine ⟨fun x=>?_,fun y hy=>?_,List.pairwise_cons.2 ⟨fun y hy=>?_,g3⟩⟩
          · simp only [Tr.bL,List.mem_append,List.mem_cons,hqe,g1]
            constructor
            · rintro (hx | hx)
              · exact ⟨.inl hx,by have:=(Prod.ext_iff.1 hx).1; simp only at this; rw [this]; exact hpre⟩
              · exact ⟨.inr (.inr hx.1),hx.2⟩
            · rintro ⟨hx | hx | hx,hn⟩
              · exact .inl hx
              · exact (jD (b:=false) (inl x hx) hstep hn).elim
              · exact .inr ⟨hx,hn⟩
          · rcases List.mem_cons.1 hy with rfl | hy
            · exact ⟨h2,hpre,hq⟩
            · have:=g2 y hy
              exact ⟨h2.trans (dQ this.1),this.2⟩
          · have:=(g2 y hy).1.length_le
            simp at this
            show (bs q).length < (bs y.1).length
            omega
        | false =>
          rw [hb] at hstep
          have hpath:Tr.path cov lt bit p (.node q u h l r) = (q,u,h) :: l.path cov lt bit p:=by rw [Tr.path,if_pos e1,if_pos e2,if_neg (by rw [hb]; exact Bool.false_ne_true)]
          rw [hpath]
          obtain ⟨g1,g2,g3⟩:=K.kW C hp l _ h3
          refine ⟨fun x=>?_,fun y hy=>?_,List.pairwise_cons.2 ⟨fun y hy=>?_,g3⟩⟩
          · simp only [Tr.bL,List.mem_append,List.mem_cons,hqe,g1]
            constructor
            · rintro (hx | hx)
              · exact ⟨.inl hx,by have:=(Prod.ext_iff.1 hx).1; simp only at this; rw [this]; exact hpre⟩
              · exact ⟨.inr (.inl hx.1),hx.2⟩
            · rintro ⟨hx | hx | hx,hn⟩
              · exact .inl hx
              · exact .inr ⟨hx,hn⟩
              · exact (jD (b:=true) (inr x hx) hstep hn).elim
          · rcases List.mem_cons.1 hy with rfl | hy
            · exact ⟨h2,hpre,hq⟩
            · have:=g2 y hy
              exact ⟨h2.trans (dQ this.1),this.2⟩
          · have:=(g2 y hy).1.length_le
            simp at this
            show (bs q).length < (bs y.1).length
            omega
      · have hge:¬ (bs q).length < (bs p).length:=fun h=>e2 ((C.lt q p hq hp).2 h)
        have heq:=jT hpre (by omega)
        have hpath:Tr.path cov lt bit p (.node q u h l r) = [(q,u,h)]:=by rw [Tr.path,if_pos e1,if_neg e2]
        rw [hpath]
        refine ⟨fun x=>?_,fun y hy=>?_,List.pairwise_singleton _ _⟩
        · simp only [Tr.bL,List.mem_append,List.mem_singleton,hqe]
          constructor
          · intro hx
            exact ⟨.inl hx,by have:=(Prod.ext_iff.1 hx).1; simp only at this; rw [this]; exact hpre⟩
          · rintro ⟨hx | hx | hx,hn⟩
            · exact hx
            · exact absurd (jT (dQ (inl x hx)) (by rw [heq]; exact hn.length_le)) (mq (inl x hx))
            · exact absurd (jT (dQ (inr x hx)) (by rw [heq]; exact hn.length_le)) (mq (inr x hx))
        · rw [List.mem_singleton] at hy
          subst hy
          exact ⟨h2,hpre,hq⟩
    · have hpath:Tr.path cov lt bit p (.node q u h l r) = []:=by rw [Tr.path,if_neg e1]
      rw [hpath]
      refine ⟨fun x=>?_,fun y hy=>by simp at hy,List.Pairwise.nil⟩
      simp only [Tr.bL,List.mem_append]
      constructor
      · intro hx; simp at hx
      · rintro ⟨hx,hn⟩
        have h9:bs q <+: bs x.1:=by
          rcases hx with hx | hx | hx
          · rw [hqe] at hx
            have:=(Prod.ext_iff.1 hx).1
            simp only at this
            rw [this]
            exact List.prefix_refl _
          · exact dQ (inl x hx)
          · exact dQ (inr x hx)
        exact absurd ((C.cov q p hq hp).2 (h9.trans hn)) e1
def Tr.best (cov lt:κ→κ→Bool) (bit:κ→κ→Bool) (p:κ) (t:Tr κ):Option (κ × Int):=(((t.path cov lt bit p).filter (·.2.2)).getLast?).map (fun n=>(n.1,n.2.1))
def Tr.get (cov lt:κ→κ→Bool) (bit:κ→κ→Bool) (p:κ) (t:Tr κ):Option Int:=((t.path cov lt bit p).find? (fun n=>decide (n.1 = p) && n.2.2)).map (·.2.1)
theorem KeyLaw.best_some (K:KeyLaw ok bs both bit) (C:CovLaw ok bs cov lt) {p:κ} (hp:ok p) {t:Tr κ} {c:List Bool} (hw:t.WF ok bs c) {x:κ × Int} (h:t.best cov lt bit p = some x) :
    x ∈ t.bL ∧ bs x.1 <+: bs p ∧ ∀ y ∈ t.bL,bs y.1 <+: bs p→bs y.1 <+: bs x.1:=by
  obtain ⟨g1,g2,g3⟩:=K.kW C hp t c hw
  unfold Tr.best at h
  rw [Option.map_eq_some_iff] at h
  obtain ⟨n,h1,rfl⟩:=h
  obtain ⟨A,hA⟩:=List.getLast?_eq_some_iff.1 h1
  have hn:n ∈ (t.path cov lt bit p).filter (·.2.2):=by rw [hA]; simp
  obtain ⟨m1,m2⟩:=List.mem_filter.1 hn
  have hx:(n.1,n.2.1,true) ∈ t.path cov lt bit p:=by
    have:n = (n.1,n.2.1,true):=by rw [← m2]
    rw [← this]; exact m1
  obtain ⟨k1,k2⟩:=(g1 (n.1,n.2.1)).1 hx
  refine ⟨k1,k2,fun y hy hyp=>?_⟩
  have hy2:=(g1 y).2 ⟨hy,hyp⟩
  have hy3:(y.1,y.2,true) ∈ (t.path cov lt bit p).filter (·.2.2):=List.mem_filter.2 ⟨hy2,rfl⟩
  have hs:=g3.filter (·.2.2)
  rw [hA] at hs hy3
  have hle:(bs y.1).length ≤ (bs n.1).length:=by
    rcases List.mem_append.1 hy3 with h | h
    · have:=(List.pairwise_append.1 hs).2.2 _ h n (by simp)
      simp only at this
      omega
    · rw [List.mem_singleton] at h
      rw [← h]
      exact Nat.le_refl _
  exact List.prefix_of_prefix_length_le hyp k2 hle
theorem KeyLaw.best_none (K:KeyLaw ok bs both bit) (C:CovLaw ok bs cov lt) {p:κ} (hp:ok p) {t:Tr κ} {c:List Bool} (hw:t.WF ok bs c) (h:t.best cov lt bit p = none) :
    ∀ y ∈ t.bL,¬ bs y.1 <+: bs p:=by
  obtain ⟨g1,g2,g3⟩:=K.kW C hp t c hw
  unfold Tr.best at h
  rw [Option.map_eq_none_iff,List.getLast?_eq_none_iff] at h
  intro y hy hyp
  have hy2:=(g1 y).2 ⟨hy,hyp⟩
  have:(y.1,y.2,true) ∈ (t.path cov lt bit p).filter (·.2.2):=List.mem_filter.2 ⟨hy2,rfl⟩
  rw [h] at this
  simp at this
theorem Tr.WF.root (K:KeyLaw ok bs both bit) {p q:κ} {u v:Int} {h k:Bool} {l r l' r':Tr κ} {c d:List Bool} (h1:(Tr.node p u h l r).WF ok bs c) (h2:(Tr.node q v k l' r').WF ok bs d) (hm:∀ x,x ∈ (Tr.node p u h l r).bL→x ∈ (Tr.node q v k l' r').bL):bs q <+: bs p:=by
  obtain ⟨a1,a2,a3,a4,a5⟩:=h1
  have inq:∀ x ∈ (Tr.node p u h l r).bL,bs q <+: bs x.1:=fun x hx=>(Tr.WF.fl (c:=bs q) (t:=Tr.node q v k l' r') ⟨h2.1,List.prefix_refl _,h2.2.2⟩ x (hm x hx)).2
  cases h with
  | true=>exact inq (p,u) (by simp [Tr.bL])
  | false =>
    obtain ⟨_,nl,nr⟩:=a5 rfl
    obtain ⟨x,hx⟩:=List.exists_mem_of_ne_nil _ (a3.ne_nil nl)
    obtain ⟨y,hy⟩:=List.exists_mem_of_ne_nil _ (a4.ne_nil nr)
    have b1:=inq x (by simp [Tr.bL,hx])
    have b2:=inq y (by simp [Tr.bL,hy])
    have c1:=(a3.fl x hx).2
    have c2:=(a4.fl y hy).2
    rcases pre_two b1 (dQ c1) with h | h
    · exact h
    · by_cases e:bs p = bs q
      · rw [e]; exact List.prefix_refl _
      · have d1:=mB h e
        have e1:=lF c1
        have e2:=lF c2
        have e3:=lF (d1.trans b1)
        have e4:=lF (d1.trans b2)
        rw [e1] at e3
        rw [e2,← e3] at e4
        cases e4
theorem Tr.WF.small:∀ {t:Tr κ} {c:List Bool},t.WF ok bs c→t ≠ .nil→t.shp.length + 1 ≤ 2 * t.bL.length
  | .nil,_,_,h=>absurd rfl h
  | .node p v h l r,c,⟨_,_,h3,h4,h5⟩,_=>by
    have hl:l = .nil ∨ l.shp.length + 1 ≤ 2 * l.bL.length:=by
      by_cases e:l = .nil
      · exact .inl e
      · exact .inr (h3.small e)
    have hr:r = .nil ∨ r.shp.length + 1 ≤ 2 * r.bL.length:=by
      by_cases e:r = .nil
      · exact .inl e
      · exact .inr (h4.small e)
    simp only [shp,bL,List.length_cons,List.length_append]
    cases h with
    | true =>
      simp only [if_true,List.length_cons,List.length_nil]
      rcases hl with rfl | hl <;> rcases hr with rfl | hr <;> simp [shp,bL] at * <;> omega
    | false =>
      obtain ⟨_,n1,n2⟩:=h5 rfl
      have hl:=hl.resolve_left n1
      have hr:=hr.resolve_left n2
      simp
      omega
end
theorem bitU_01 (b:List UInt8) (i:Int):dk b i = 0 ∨ dk b i = 1:=by
  have h:(dk b i).toNat < 2:=by rw [g8]; exact Nat.mod_lt _ (by decide)
  rcases (show (dk b i).toNat = 0 ∨ (dk b i).toNat = 1 by omega) with h | h
  · exact .inl (UInt8.toNat_inj.1 h)
  · exact .inr (UInt8.toNat_inj.1 h)
theorem byte_ext (x y:UInt8) (h:∀ j,j < 8→iX x j = iX y j):x = y:=by
  have hz:x ^^^ y = 0:=by
    have h1:=(mk1_iff (x ^^^ y) 0).2 (fun j hj _=>by
      have e:=h j hj
      apply UInt8.toNat_inj.1
      rw [fg,UInt8.toNat_xor,bn_xor,← fg,← fg,e]
      have:(iX y j).toNat < 2:=by rw [fg]; exact Nat.mod_lt _ (by decide)
      show ((iX y j).toNat + (iX y j).toNat) % 2 = 0
      omega)
    rw [← h1]
    rfl
  have e2:=congrArg UInt8.toNat hz
  rw [UInt8.toNat_xor] at e2
  exact UInt8.toNat_inj.1 (xor_zero e2)
theorem bits_ext (a b:Vector UInt8 16) (h:∀ i:Int,0 ≤ i→i < 128→dk a.toList i = dk b.toList i):a = b:=by
  apply Vector.ext
  intro k hk
  refine byte_ext _ _ (fun j hj=>?_)
  have:=h (8 * (k:Int) + j) (by omega) (by omega)
  rw [k9 _ _ _ hj,k9 _ _ _ hj,iQ _ k hk,iQ _ k hk] at this
  exact this
set_option maxRecDepth 100000 in
theorem mk1_bit_dec:∀ n:Fin 256,∀ l:Fin 9,∀ j:Fin 8,bn (mk1 (l.val:Int) (UInt8.ofNat n.val)).toNat (7 - j.val) = if j.val < l.val then bn n.val (7 - j.val) else 0:=by decide +kernel
theorem mk1_bit (x:UInt8) (left:Int) (j:Nat) (hj:j < 8):iX (mk1 left x) j = if (j:Int) < left then iX x j else 0:=by
  have key:∀ l:Nat,l < 9→iX (mk1 (l:Int) x) j = if j < l then iX x j else 0:=fun l hl=>by
    have h:=mk1_bit_dec ⟨x.toNat,x.toNat_lt⟩ ⟨l,hl⟩ ⟨j,hj⟩
    simp only [UInt8.ofNat_toNat] at h
    apply UInt8.toNat_inj.1
    rw [fg,h]
    split
    · rw [fg]
    · rfl
  by_cases h0:left ≤ 0
  · have e:mk1 left x = mk1 ((0:Nat):Int) x:=by
      unfold mk1
      rw [if_pos h0,if_pos (by omega)]
    rw [e,key 0 (by omega),if_neg (by omega),if_neg (by omega)]
  · by_cases h8:left < 8
    · have e:left = (left.toNat:Int):=by omega
      rw [e,key left.toNat (by omega)]
      by_cases hl:j < left.toNat
      · rw [if_pos hl,if_pos (by omega)]
      · rw [if_neg hl,if_neg (by omega)]
    · have e:mk1 left x = x:=by
        unfold mk1
        rw [if_neg h0,if_neg h8]
      rw [e,if_pos (by omega)]
theorem mask_bit (n:Int) (b:Vector UInt8 16) (i:Int) (h0:0 ≤ i) (h1:i < 128):dk (fP n b).toList i = if i < n then dk b.toList i else 0:=by
  have e:i = 8 * ((i / 8).toNat:Int) + ((i % 8).toNat:Int):=by omega
  have hk:(i / 8).toNat < 16:=by omega
  rw [e,k9 _ _ _ (by omega),k9 _ _ _ (by omega),iQ _ _ hk,iQ _ _ hk]
  have em:(fP n b)[(i / 8).toNat] = mk1 (n - 8 * ((i / 8).toNat:Int)) b[(i / 8).toNat]:=by simp [fP]
  rw [em,mk1_bit _ _ _ (by omega)]
  by_cases h:i < n
  · rw [if_pos (by omega),if_pos (by omega)]
  · rw [if_neg (by omega),if_neg (by omega)]
def pb (p:aq):List Bool:=(List.range p.bits.toNat).map fun i:Nat=>decide (dk p.addr.b.toList i = 1)
@[simp] theorem ng (p:aq):(pb p).length = p.bits.toNat:=by simp [pb]
theorem lZ (p:aq) (i:Nat) (h:i < p.bits.toNat):(pb p)[i]? = some (decide (dk p.addr.b.toList i = 1)):=by simp [pb,h]
theorem pre_iff (x y:List Bool):x <+: y ↔ x.length ≤ y.length ∧ ∀ i,i < x.length→x[i]? = y[i]?:=by
  constructor
  · rintro ⟨z,rfl⟩
    exact ⟨by simp,fun i hi=>by rw [List.getElem?_append_left hi]⟩
  · rintro ⟨h1,h2⟩
    refine ⟨y.drop x.length,?_⟩
    have:x = y.take x.length:=by
      apply List.ext_getElem?
      intro i
      by_cases hi:i < x.length
      · rw [h2 i hi,List.getElem?_take_of_lt hi]
      · rw [List.getElem?_eq_none (by omega),List.getElem?_eq_none (by simp; omega)]
    rw [this]
    simp
    rw [Nat.min_eq_left h1,List.take_append_drop]
theorem mS {a b:List UInt8} {i j:Int}:decide (dk a i = 1) = decide (dk b j = 1) ↔ dk a i = dk b j:=by
  rcases bitU_01 a i with h | h <;> rcases bitU_01 b j with k | k <;> simp [h,k]
theorem lY (p q:aq) (hp:0 ≤ p.bits) (hq:0 ≤ q.bits):pb p <+: pb q ↔ p.bits ≤ q.bits ∧ ∀ i:Int,0 ≤ i→i < p.bits→dk p.addr.b.toList i = dk q.addr.b.toList i:=by
  rw [pre_iff,ng,ng]
  constructor
  · rintro ⟨h1,h2⟩
    refine ⟨by omega,fun i h3 h4=>?_⟩
    have:=h2 i.toNat (by omega)
    rw [lZ p _ (by omega),lZ q _ (by omega)] at this
    have e:((i.toNat:Nat):Int) = i:=by omega
    rw [e] at this
    exact mS.1 (Option.some.inj this)
  · rintro ⟨h1,h2⟩
    refine ⟨by omega,fun i hi=>?_⟩
    rw [lZ p _ (by omega),lZ q _ (by omega)]
    exact congrArg some (mS.2 (h2 i (by omega) (by omega)))
def okP (k:Bool) (p:aq):Prop:=cO p = 0 ∧ p.addr.v6 = k
theorem okP.nn {k:Bool} {p:aq} (h:okP k p):0 ≤ p.bits ∧ p.bits ≤ wd p.addr ∧ p.bits ≤ 128:=by
  have:=(eD p).1 h.1
  have:=lq p.addr
  omega
def ix (p q:aq):Int:=min (min p.bits q.bits) (gO p.addr.b.toList q.addr.b.toList)
def gi (p q:aq):aq:=⟨⟨p.addr.v6,fP (ix p q) p.addr.b⟩,ix p q⟩
def j8 (p q:aq):Bool:=decide (dk q.addr.b.toList p.bits = 1)
theorem nq {k:Bool} {p q:aq} (hp:okP k p) (hq:okP k q):0 ≤ ix p q ∧ ix p q ≤ p.bits ∧ ix p q ≤ q.bits ∧ (∀ i:Int,0 ≤ i→i < ix p q→dk p.addr.b.toList i = dk q.addr.b.toList i) ∧
    (ix p q < p.bits→ix p q < q.bits→dk p.addr.b.toList (ix p q) ≠ dk q.addr.b.toList (ix p q)):=by
  have h:=pD p.addr.b.toList q.addr.b.toList
  have h1:=hp.nn
  have h2:=hq.nn
  have h3:=h.p
  unfold ix
  refine ⟨by omega,by omega,by omega,fun i i0 i1=>h.eq i i0 (by omega),fun l1 l2=>?_⟩
  have e:min (min p.bits q.bits) (gO p.addr.b.toList q.addr.b.toList) = gO p.addr.b.toList q.addr.b.toList:=by omega
  rw [e]
  refine h.ne ?_ ?_ <;> simp <;> omega
theorem comN_of {k:Bool} {p q:aq} (hp:okP k p) (hq:okP k q) {n:Int} (h0:0 ≤ n) (h1:n ≤ p.bits) (h2:n ≤ q.bits) (h3:∀ i:Int,0 ≤ i→i < n→dk p.addr.b.toList i = dk q.addr.b.toList i)
    (h4:n < p.bits→n < q.bits→dk p.addr.b.toList n ≠ dk q.addr.b.toList n):n = ix p q:=by
  obtain ⟨g0,g1,g2,g3,g4⟩:=nq hp hq
  rcases Int.lt_trichotomy n (ix p q) with h | h | h
  · exact absurd (g3 n h0 h) (h4 (by omega) (by omega))
  · exact h
  · exact absurd (h3 _ g0 h) (g4 (by omega) (by omega))
theorem both_ok {k:Bool} {p q:aq} (hp:okP k p) (hq:okP k q):okP k (gi p q):=by
  obtain ⟨g0,g1,g2,g3,g4⟩:=nq hp hq
  have h1:=hp.nn
  refine ⟨(eD _).2 ⟨g0,?_,fun i h3 h4=>?_⟩,hp.2⟩
  · show ix p q ≤ wd (gi p q).addr
    have:wd (gi p q).addr = wd p.addr:=rfl
    omega
  · have hi:ix p q ≤ i:=h3
    show dk (fP (ix p q) p.addr.b).toList i = 0
    rw [mask_bit _ _ _ (by omega) h4,if_neg (by omega)]
theorem pb_inj {k:Bool} {p q:aq} (hp:okP k p) (hq:okP k q) (h:pb p = pb q):p = q:=by
  have h1:=hp.nn
  have h2:=hq.nn
  have hb:p.bits = q.bits:=by
    have:=congrArg List.length h
    simp at this
    omega
  have hpre:=(lY p q h1.1 h2.1).1 (by rw [h]; exact List.prefix_refl _)
  have hv:p.addr.b = q.addr.b:=bits_ext _ _ (fun i i0 i1=>by
    rcases Int.lt_or_le i p.bits with hi | hi
    · exact hpre.2 i i0 hi
    · rw [((eD p).1 hp.1).2.2 i hi i1,((eD q).1 hq.1).2.2 i (by omega) i1])
  have hk:p.addr.v6 = q.addr.v6:=hp.2.trans hq.2.symm
  obtain ⟨⟨v1,b1⟩,n1⟩:=p
  obtain ⟨⟨v2,b2⟩,n2⟩:=q
  simp only at hb hv hk
  subst hb hv hk
  rfl
theorem keyLaw (k:Bool):KeyLaw (okP k) pb gi j8 where
  inj:=fun p q hp hq h=>pb_inj hp hq h
  both:=fun p q hp hq=>by
    have hb:=both_ok hp hq
    refine ⟨hb,?_⟩
    obtain ⟨g0,g1,g2,g3,g4⟩:=nq hp hq
    have h1:=hp.nn
    have h2:=hq.nn
    have hbit:∀ i:Int,0 ≤ i→i < ix p q→dk (gi p q).addr.b.toList i = dk p.addr.b.toList i:=fun i i0 i1=>by
      show dk (fP (ix p q) p.addr.b).toList i = _
      rw [mask_bit _ _ _ i0 (by omega),if_pos i1]
    have c1:pb (gi p q) <+: pb p:=(lY _ _ g0 h1.1).2 ⟨g1,hbit⟩
    have c2:pb (gi p q) <+: pb q:=(lY _ _ g0 h2.1).2 ⟨g2,fun i i0 i1=>(hbit i i0 i1).trans (g3 i i0 i1)⟩
    refine jT (lcp_max _ _ _ c1 c2) ?_
    have l1:=(kH (pb p) (pb q)).length_le
    have l2:=(nm (pb p) (pb q)).length_le
    rw [ng] at l1 l2 ⊢
    show _ ≤ (ix p q).toNat
    rcases Nat.lt_or_ge (ix p q).toNat (lcp (pb p) (pb q)).length with hl | hl
    · exfalso
      have e1:=((pre_iff _ _).1 (kH (pb p) (pb q))).2 _ hl
      have e2:=((pre_iff _ _).1 (nm (pb p) (pb q))).2 _ hl
      rw [e1,lZ p _ (by omega),lZ q _ (by omega)] at e2
      have e:(((ix p q).toNat:Nat):Int) = ix p q:=by omega
      rw [e] at e2
      exact g4 (by omega) (by omega) (mS.1 (Option.some.inj e2))
    · exact hl
  bit:=fun p q hp hq hpre hne=>by
    have h1:=hp.nn
    have h2:=hq.nn
    have hlt:p.bits < q.bits:=by
      have:=((lY p q h1.1 h2.1).1 hpre).1
      rcases Int.lt_or_le p.bits q.bits with h | h
      · exact h
      · exact absurd (jT hpre (by simp; omega)) hne
    unfold j8 nb
    rw [ng,List.getD_eq_getElem?_getD,lZ q _ (by omega)]
    have e:((p.bits.toNat:Nat):Int) = p.bits:=by omega
    rw [e]
    rfl
theorem mf {k:Bool} {q p:aq} (hq:okP k q) (hp:okP k p):e8 q p = true ↔ pb q <+: pb p:=by
  have h1:=hq.nn
  have h2:=hp.nn
  unfold e8
  rw [lY q p h1.1 h2.1,Bool.and_eq_true,Bool.and_eq_true,decide_eq_true_iff,decide_eq_true_iff,jH]
  constructor
  · rintro ⟨⟨_,a⟩,_,_,_,b⟩
    exact ⟨a,fun i i0 i1=>(b i i0 i1).symm⟩
  · rintro ⟨a,b⟩
    exact ⟨⟨hp.1,a⟩,hq.1,nL p hp.1,hp.2.trans hq.2.symm,fun i i0 i1=>(b i i0 i1).symm⟩
def ltP (q p:aq):Bool:=decide (q.bits < p.bits)
theorem covLaw (k:Bool):CovLaw (okP k) pb e8 ltP where
  cov:=fun q p hq hp=>mf hq hp
  lt:=fun q p hq hp=>by
    have h1:=hq.nn
    have h2:=hp.nn
    unfold ltP
    rw [decide_eq_true_iff,ng,ng]
    omega
def full (a:a7):aq:=⟨a,wd a⟩
theorem oo {a:a7} (h:aM a = 0):okP a.v6 (full a):=⟨(eD _).2 ⟨by have:=lq a; show 0 ≤ wd a; omega,Int.le_refl _,(nM a).1 h⟩,rfl⟩
theorem kJ {p:aq} {a:a7} (h:aM a = 0):jI p a = true ↔ (okP a.v6 p ∧ pb p <+: pb (full a)):=by
  constructor
  · intro hh
    obtain ⟨h1,h2,h3,h4⟩:=(jH p a).1 hh
    have ho:okP a.v6 p:=⟨h1,h3.symm⟩
    have h5:=ho.nn
    have h6:=(oo h).nn
    refine ⟨ho,(lY _ _ h5.1 h6.1).2 ⟨?_,fun i i0 i1=>(h4 i i0 i1).symm⟩⟩
    show p.bits ≤ wd a
    have:wd a = wd p.addr:=by unfold wd; rw [h3]
    omega
  · rintro ⟨ho,hpre⟩
    have h5:=ho.nn
    have h6:=(oo h).nn
    exact (jH p a).2 ⟨ho.1,h,ho.2.symm,fun i i0 i1=>(((lY _ _ h5.1 h6.1).1 hpre).2 i i0 i1).symm⟩
end Go.Proofs.YtjanhajdmhalaaaGreat.Tri
namespace Go.Proofs.YtjanhajdmhalaaaGreat.Tri
open Go Go.Gx
structure az where
  p:aq
  v:Int
  has:Bool
  kids:(Vector OV 2)
def az.to:(aq × (Int × (Bool × (Vector OV 2))))→az:=fun x=>⟨x.1,x.2.1,x.2.2.1,x.2.2.2⟩
def az.of:az→(aq × (Int × (Bool × (Vector OV 2)))):=fun x=>(x.p,x.v,x.has,x.kids)
def bu:Enc az:=iH (aa aH (aa iE (aa bE (dS 2 (ovE aR))))) az.to az.of
def az.l_p:ak bu aH 0:=cP _ az.to az.of (fun _=>rfl) (dF aH (aa iE (aa bE (dS 2 (ovE aR)))))
@[simp] theorem az.get_p (x:az):az.l_p.get x = x.p:=rfl
@[simp] theorem az.set_p (x:az) (y:aq):az.l_p.set x y = { x with p:=y }:=rfl
def az.l_v:ak bu iE 18:=cP _ az.to az.of (fun _=>rfl) (ak.comp (bg aH (aa iE (aa bE (dS 2 (ovE aR))))) (dF iE (aa bE (dS 2 (ovE aR)))))
@[simp] theorem az.get_v (x:az):az.l_v.get x = x.v:=rfl
@[simp] theorem az.set_v (x:az) (y:Int):az.l_v.set x y = { x with v:=y }:=rfl
def az.lI:ak bu bE 19:=cP _ az.to az.of (fun _=>rfl) (ak.comp (bg aH (aa iE (aa bE (dS 2 (ovE aR))))) (ak.comp (bg iE (aa bE (dS 2 (ovE aR)))) (dF bE (dS 2 (ovE aR)))))
@[simp] theorem az.get_has (x:az):az.lI.get x = x.has:=rfl
@[simp] theorem az.set_has (x:az) (y:Bool):az.lI.set x y = { x with has:=y }:=rfl
def az.fI:ak bu (dS 2 (ovE aR)) 20:=cP _ az.to az.of (fun _=>rfl) (ak.comp (bg aH (aa iE (aa bE (dS 2 (ovE aR))))) (ak.comp (bg iE (aa bE (dS 2 (ovE aR)))) (ak.comp (bg bE (dS 2 (ovE aR))) (ak.id (dS 2 (ovE aR))))))
@[simp] theorem az.get_kids (x:az):az.fI.get x = x.kids:=rfl
@[simp] theorem az.set_kids (x:az) (y:(Vector OV 2)):az.fI.set x y = { x with kids:=y }:=rfl
structure bz where
  made:Bool
  n:Int
  roots:(Vector OV 2)
def bz.to:(Bool × (Int × (Vector OV 2)))→bz:=fun x=>⟨x.1,x.2.1,x.2.2⟩
def bz.of:bz→(Bool × (Int × (Vector OV 2))):=fun x=>(x.made,x.n,x.roots)
def dN:Enc bz:=iH (aa bE (aa iE (dS 2 (ovE aR)))) bz.to bz.of
def bz.l_made:ak dN bE 0:=cP _ bz.to bz.of (fun _=>rfl) (dF bE (aa iE (dS 2 (ovE aR))))
@[simp] theorem bz.get_made (x:bz):bz.l_made.get x = x.made:=rfl
@[simp] theorem bz.set_made (x:bz) (y:Bool):bz.l_made.set x y = { x with made:=y }:=rfl
def bz.l_n:ak dN iE 1:=cP _ bz.to bz.of (fun _=>rfl) (ak.comp (bg bE (aa iE (dS 2 (ovE aR)))) (dF iE (dS 2 (ovE aR))))
@[simp] theorem bz.get_n (x:bz):bz.l_n.get x = x.n:=rfl
@[simp] theorem bz.set_n (x:bz) (y:Int):bz.l_n.set x y = { x with n:=y }:=rfl
def bz.mG:ak dN (dS 2 (ovE aR)) 2:=cP _ bz.to bz.of (fun _=>rfl) (ak.comp (bg bE (aa iE (dS 2 (ovE aR)))) (ak.comp (bg iE (dS 2 (ovE aR))) (ak.id (dS 2 (ovE aR)))))
@[simp] theorem bz.get_roots (x:bz):bz.mG.get x = x.roots:=rfl
@[simp] theorem bz.set_roots (x:bz) (y:(Vector OV 2)):bz.mG.set x y = { x with roots:=y }:=rfl
inductive PT where
  | nil:PT
  | node:Nat→aq→Int→Bool→PT→PT→PT
def PT.adr:PT→Option Addr
  | .nil=>none
  | .node b _ _ _ _ _=>some ⟨b,0,none⟩
def PT.ptr (t:PT):OV:=⟨.pointer t.adr,rfl⟩
def PT.tr:PT→Tr aq
  | .nil=>.nil
  | .node _ p v h l r=>.node p v h l.tr r.tr
def kids (l r:PT):Vector OV 2:=#v[l.ptr,r.ptr]
def PT.kid (b:Bool) (l r:PT):PT:=bif b then r else l
def PT.At (w:World):PT→Prop
  | .nil=>True
  | .node b p v h l r=>cE bu w b 0 (⟨p,v,h,kids l r⟩:az) ∧ l.At w ∧ r.At w
theorem PT.At.cB {w w':World}:∀ {t:PT},t.At w→aX bO w w'→t.At w'
  | .nil,_,_=>trivial
  | .node _ _ _ _ _ _,⟨h1,h2,h3⟩,k=>⟨h1.cB k,h2.cB k,h3.cB k⟩
def bI (b:Bool):Int:=bif b then 1 else 0
theorem kO (b:Bool):0 ≤ bI b ∧ bI b < 2:=by cases b <;> decide
theorem mK (l r:PT) (b:Bool) (h:(bI b).toNat < 2):(kids l r)[(bI b).toNat] = (PT.kid b l r).ptr:=by cases b <;> rfl
theorem PT.At.kid {w:World} {l r:PT} (hl:l.At w) (hr:r.At w) (b:Bool):(PT.kid b l r).At w:=by cases b <;> assumption
def PT.bare:PT→PT
  | .nil=>.nil
  | .node b p v h l r=>if h = true ∨ (l.adr.isNone = false ∧ r.adr.isNone = false) then .node b p v h l r else if l.adr.isNone = false then l else r
theorem PT.At.bare {w:World} {t:PT} (h:t.At w):t.bare.At w:=by
  cases t with
  | nil=>trivial
  | node b p v g l r =>
    simp only [PT.bare]
    split
    · exact h
    · split
      · exact h.2.1
      · exact h.2.2
def nodeV (p:aq) (v:Int) (h:Bool) (l r:PT):az:=⟨p,v,h,kids l r⟩
theorem bit_01 (b:List UInt8) (i:Int):((dk b i).toNat:Int) = bI (decide (dk b i = 1)):=by
  rcases bitU_01 b i with h | h <;> rw [h] <;> rfl
theorem bit_ok (a:a7) (i:Int) (w:World) (hi:0 ≤ i ∧ i < 128):Gx.Calls Tryz.prog 106 #[bP.val a,I i] w (cD w (I (bI (decide (dk a.b.toList i = 1))))):=by
  refine en0 16 Tryz.func106 (fun _ _=>?_)
  refine sg (cons (box (E:=bP) (.t rfl) (fun b1=>?_)))
  refine co (Ev.assign (.c (v:=I 0) rfl)) ?_
  refine nP (seq ?_)
  have h16:(i / 8).toNat < 16:=by omega
  have hq:0 ≤ (a.b[(i / 8).toNat].toNat:Int) / 2 ^ (7 - i % 8).toNat ∧ (a.b[(i / 8).toNat].toNat:Int) / 2 ^ (7 - i % 8).toNat ≤ 9223372036854775807:=by
    have hx:=a.b[(i / 8).toNat].toNat_lt
    have e:((a.b[(i / 8).toNat].toNat:Int) / 2 ^ (7 - i % 8).toNat) = ((a.b[(i / 8).toNat].toNat / 2 ^ (7 - i % 8).toNat:Nat):Int):=by simp
    rw [e]
    have h1:=Nat.div_le_self a.b[(i / 8).toNat].toNat (2 ^ (7 - i % 8).toNat)
    have h2:∀ y:Nat,y ≤ 255→0 ≤ (y:Int) ∧ (y:Int) ≤ 9223372036854775807:=fun y hy=>by omega
    exact h2 _ (by omega)
  refine region (mv rfl (co (Ev.quo_n (.t rfl) (.c (v:=I 8) rfl) (fun _=>zo) (fun _=>zo) (fun _=>zo)) ?_))
  refine co (fA 1 (.t rfl)) ?_
  refine co (Ev.cC Tryz.underlying40 ty5 (.t rfl) (.t rfl) (fun _=>zo)) ?_
  refine co (Ev.ldv ty5 (.t rfl) (ak.comp a7.l_b (dR (n:=16) u8E _ (by omega)))) ?_
  refine co (Ev.conv_u8_i Tryz.underlying3 Tryz.underlying5 (.t rfl)) ?_
  refine mv rfl (co (Ev.rem_n (.t rfl) (.c (v:=I 8) rfl) (fun _=>zo) (fun _=>zo)) ?_)
  refine co (Ev.lx (.c (v:=I 7) rfl) (.t rfl) (fun _=>zo)) ?_
  refine co (Ev.shr_i (.t rfl) (.t rfl) (fun _=>zo)) ?_
  refine co (Ev.and_n (.t rfl) (.c (v:=I 1) rfl) (fun _=>hq) (fun _=>by decide)) ?_
  refine asn rfl (nP (ret (done rfl (.tmp rfl .nil) (bc ?_))))
  refine congrArg I ?_
  rw [← bit_01]
  have e:((a.b[(i / 8).toNat].toNat:Int) / 2 ^ (7 - i % 8).toNat) = ((a.b[(i / 8).toNat].toNat / 2 ^ (7 - i % 8).toNat:Nat):Int):=by simp
  have e3:(1:Int).toNat = 1:=rfl
  rw [g8,iQ _ _ h16,e3,Nat.and_one_is_mod]
  unfold bn
  show (((((a.b[(i / 8).toNat].toNat:Int) / 2 ^ (7 - i % 8).toNat)).toNat % 2:Nat):Int) = _
  rw [e,Int.toNat_natCast]
theorem kind_ok (a:a7) (w:World):Gx.Calls Tryz.prog 75 #[bP.val a] w (cD w (I (bI a.v6))):=by
  refine en0 5 Tryz.func75 (fun _ _=>?_)
  refine sg (cons (box (E:=bP) (.t rfl) (fun b1=>?_)))
  refine co (Ev.assign (.c (v:=I 0) rfl)) ?_
  refine nP (seq (sg (co (fA 0 (.t rfl)) ?_)))
  refine co (Ev.ldx a.v6 ty4 (.t rfl) a7.kI) ?_
  refine nP ?_
  first | refine aL rfl (fun h0=>?_) (fun h0=>?_) | refine cond rfl (fun h0=>?_) (fun h0=>?_)
  · try simp only [nb] at h0
    refine sg (co (Ev.assign (.c (v:=I 1) rfl)) ?_)
    refine nP (ret (pR (done rfl (.tmp rfl .nil) (bc ?_))))
    rw [h0]; rfl
  · try simp only [nb] at h0
    refine skip (pN (sg (co (Ev.assign (.c (v:=I 0) rfl)) ?_)))
    refine nP (ret (done rfl (.tmp rfl .nil) (bc ?_)))
    rw [h0]; rfl
def ofE (a:a7) (n:Int):Int:=if aM a ≠ 0 then aM a else if n < 0 ∨ wd a < n then 151 else 0
def ofV (a:a7) (n:Int):aq:=if ofE a n = 0 then ⟨⟨a.v6,fP n a.b⟩,n⟩ else aH.zero
theorem masked_g (a:a7) (n:Int) (w:World) (hn:0 ≤ n ∧ n ≤ 128) (z:Vector UInt8 16) (hz:fP n a.b = z):Gx.Calls Tryz.prog 73 #[bP.val a,I n] w (cD w (bP.val { a with b:=z })):=by
  subst hz
  exact ni a n w hn
theorem of_ok (a:a7) (n:Int) (w:World):Gx.Calls Tryz.prog 108 #[bP.val a,I n] w (cD w (.tuple #[aH.val (ofV a n),I (ofE a n)])):=by
  refine en0 27 Tryz.func108 (fun _ _=>?_)
  refine sg (cons (box (E:=bP) (.t rfl) (fun b1=>?_)))
  refine cons (alloc z84 (fun b2=>?_))
  refine co (Ev.assign (.c (v:=I 0) rfl)) ?_
  refine nP (seq (sg (co (Ev.ldx a fF (.t rfl) (ak.id _)) ?_)))
  refine cons (aZ en38 (.cons (.t rfl) .nil) (fun w I=>iP _ w) ?_)
  refine asn rfl (nP (sg (mv rfl (co (Ev.eX (.t rfl) (.c (v:=I 0) rfl)) ?_))))
  refine nP ?_
  first | refine aL rfl (fun h0=>?_) (fun h0=>?_) | refine cond rfl (fun h0=>?_) (fun h0=>?_)
  · try simp only [nb] at h0
    refine sg (co (Ev.aQ (fs:=_) (places:=[(0,17),(17,1)]) z84 rfl Tryz.underlying84 zk .nil aj.nil) ?_)
    refine mv rfl (cons (stv cW (ak.id _) (.t rfl) (.t rfl) ?_))
    refine asn rfl (nP (ret (pR (done rfl (.cellP rfl cW (cT zm (ak.id _)) (.tmp rfl .nil)) (bc ?_)))))
    have hc:aM a ≠ 0:=h0
    have e1:ofE a n = aM a:=by unfold ofE; rw [if_pos hc]
    have e2:ofV a n = aH.zero:=by unfold ofV; rw [e1,if_neg hc]
    rw [e1,e2]; rfl
  · try simp only [nb] at h0
    refine skip (pN (seq (sg (mv rfl (co (Ev.dx (.t rfl) (.c (v:=I 0) rfl)) ?_)))))
    refine mv rfl (cg rfl rfl (Ev.move (.t rfl)) ?_)
    refine cg rfl rfl (Ev.ldx a fF (.t rfl) (ak.id _)) ?_
    refine cons (jq rfl rfl en72 (.cons (.g rfl id) .nil) (fun hg w I=>oy _ w) ?_)
    refine cg rfl rfl (Ev.eJ (.g rfl id) (.g rfl id)) ?_
    refine co (Ev.pkO (.t rfl) rfl) ?_
    refine nP ?_
    first | refine aL rfl (fun h1=>?_) (fun h1=>?_) | refine cond rfl (fun h1=>?_) (fun h1=>?_)
    · refine sg (co (Ev.aQ (fs:=_) (places:=[(0,17),(17,1)]) z84 rfl Tryz.underlying84 zk .nil aj.nil) ?_)
      refine cons (stv cW (ak.id _) (.t rfl) (.t rfl) ?_)
      refine co (Ev.assign (.c (v:=I 151) rfl)) ?_
      refine nP (ret (pR (done rfl (.cellP rfl cW (cT zm (ak.id _)) (.tmp rfl .nil)) (bc ?_))))
      have hc:aM a = 0:=Decidable.not_not.1 h0
      have hb:n < 0 ∨ wd a < n:=by simpa using h1
      have e1:ofE a n = 151:=by unfold ofE; rw [if_neg (by rw [hc]; decide),if_pos hb]
      have e2:ofV a n = aH.zero:=by unfold ofV; rw [e1,if_neg (by decide)]
      rw [e1,e2]; rfl
    · refine skip (pN (seq ?_))
      obtain ⟨z,hz⟩:∃ z,fP n a.b = z:=⟨_,rfl⟩
      refine region (co (Ev.ldx a fF (.t rfl) (ak.id _)) ?_)
      refine mv rfl (cons (aZ en73 (.cons (.t rfl) (.cons (.t rfl) .nil)) (fun w I=>masked_g _ _ w (by have:=lq a; simp at h1; omega) z hz) ?_))
      refine mv rfl (co (Ev.aQ (fs:=_) (places:=[(0,17),(17,1)]) z84 rfl Tryz.underlying84 zk (.cons (.t rfl) (.cons (.t rfl) .nil)) (aj.cons aq.dE rfl (aj.cons aq.ea rfl aj.nil))) ?_)
      refine cons (stv cW (ak.id _) (.t rfl) (.t rfl) ?_)
      refine co (Ev.assign (.c (v:=I 0) rfl)) ?_
      refine nP (ret (done rfl (.cellP rfl cW (cT zm (ak.id _)) (.tmp rfl .nil)) (bc ?_)))
      have hc:aM a = 0:=Decidable.not_not.1 h0
      have hb:¬ (n < 0 ∨ wd a < n):=by simpa using h1
      have e1:ofE a n = 0:=by unfold ofE; rw [if_neg (by rw [hc]; decide),if_neg hb]
      have e2:ofV a n = ⟨⟨a.v6,fP n a.b⟩,n⟩:=by unfold ofV; rw [e1,if_pos rfl]
      rw [e1,e2,hz]; rfl
theorem of_g (a:a7) (n:Int) (w:World) (x:aq) (e:Int) (hx:ofV a n = x) (he:ofE a n = e):Gx.Calls Tryz.prog 108 #[bP.val a,I n] w (cD w (.tuple #[aH.val x,I e])):=by
  subst hx he
  exact of_ok a n w
theorem jL:Gx.aC Tryz.prog 106:=Gx.aC.mk' zk
theorem en108:Gx.aC Tryz.prog 108:=Gx.aC.mk' zk
theorem bI_inj {a b:Bool} (h:bI a = bI b):a = b:=by cases a <;> cases b <;> first | rfl | cases h
theorem both_ok_c (k:Bool) (p q:aq) (w:World) (hp:okP k p) (hq:okP k q):Gx.Calls Tryz.prog 105 #[aH.val p,aH.val q] w (cD w (aH.val (gi p q))):=by
  have h1:=hp.nn
  have h2:=hq.nn
  refine en0 39 Tryz.func105 (fun _ _=>?_)
  refine sg (cons (box (E:=aH) (.t rfl) (fun b1=>?_)))
  refine cons (box (E:=aH) (.t rfl) (fun b2=>?_))
  refine cons (alloc z84 (fun b3=>?_))
  refine nP (sg (co (Ev.assign (.c (v:=I 0) rfl)) ?_))
  refine nP (seq (block (lp (X:=Int) (fun x:Int=>(0 ≤ x ∧ x ≤ p.bits ∧ x ≤ q.bits) ∧ (∀ i:Int,0 ≤ i→i < x→dk p.addr.b.toList i = dk q.addr.b.toList i)) (fun x:Int=>[dz,(2,true,.pointer (some ⟨b1,0,none⟩)),(3,true,.pointer (some ⟨b2,0,none⟩)),(4,true,.pointer (some ⟨b3,0,none⟩)),(5,true,I x)]) (fun x:Int=>[Var b3 aH aH.zero 84,Var b2 aH q 84,Var b1 aH p 84]) (fun x:Int=>(p.bits - x).toNat) (0) ⟨?_,?_⟩ (fun x hx=>?_))))
  · omega
  · intro i h1 h2; omega
  obtain ⟨n,rfl⟩:∃ y,y = x:=⟨x,rfl⟩
  obtain ⟨hn,hs⟩:(0 ≤ n ∧ n ≤ p.bits ∧ n ≤ q.bits) ∧ (∀ i:Int,0 ≤ i→i < n→dk p.addr.b.toList i = dk q.addr.b.toList i):=hx
  show Sat _ _ [dz,(2,true,.pointer (some ⟨b1,0,none⟩)),(3,true,.pointer (some ⟨b2,0,none⟩)),(4,true,.pointer (some ⟨b3,0,none⟩)),(5,true,I n)] [Var b3 aH aH.zero 84,Var b2 aH q 84,Var b1 aH p 84]
  refine seq (seq (df zk ?_))
  refine tk 0 rfl (Ev.move (.t rfl)) ?_
  refine tk 1 rfl (fA 17 (.t rfl)) ?_
  refine tk 2 rfl (Ev.ldx p.bits ty3 (.t rfl) aq.ea) ?_
  refine tk 3 rfl (Ev.dx (.t rfl) (.t rfl)) ?_
  refine tk 4 rfl (Ev.move (.t rfl)) ?_
  refine tkg 5 rfl rfl rfl (Ev.move (.t rfl)) ?_
  refine tkg 6 rfl rfl rfl (fA 17 (.t rfl)) ?_
  refine tkg 7 rfl rfl rfl (Ev.ldx q.bits ty3 (.g rfl id) aq.ea) ?_
  refine tkg 8 rfl rfl rfl (Ev.dx (.g rfl id) (.g rfl id)) ?_
  refine tk 9 rfl (Ev.pkA (.t rfl) rfl) ?_
  refine tk 10 rfl (Ev.move (.t rfl)) ?_
  refine tkg 11 rfl rfl rfl (fA 0 (.t rfl)) ?_
  refine tkg 12 rfl rfl rfl (Ev.ldx p.addr fF (.g rfl id) aq.dE) ?_
  refine tkg 13 rfl rfl rfl (Ev.move (.t rfl)) ?_
  refine tkg 15 rfl rfl rfl (fA 0 (.t rfl)) ?_
  refine tkg 16 rfl rfl rfl (Ev.ldx q.addr fF (.g rfl id) aq.dE) ?_
  refine tkg 17 rfl rfl rfl (Ev.move (.t rfl)) ?_
  refine al1 14 rfl ((jq rfl rfl jL (.cons (.g rfl id) (.cons (.g rfl id) .nil)) (fun hg w I=>bit_ok _ _ w (by simp at hg; omega)) ?_))
  refine hdn (al1 18 rfl ((jq rfl rfl jL (.cons (.g rfl id) (.cons (.g rfl id) .nil)) (fun hg w I=>bit_ok _ _ w (by simp at hg; omega)) ?_)))
  refine hdn (tkg 19 rfl rfl rfl (Ev.fD (.g rfl id) (.g rfl id)) ?_)
  refine tk 20 rfl (Ev.pkA (.t rfl) rfl) ?_
  refine ovr (pN ?_)
  first | refine aL rfl (fun h0=>?_) (fun h0=>?_) | refine cond rfl (fun h0=>?_) (fun h0=>?_)
  · have hc:n < p.bits ∧ n < q.bits ∧ bI (decide (dk p.addr.b.toList n = 1)) = bI (decide (dk q.addr.b.toList n = 1)):=by simpa [and_assoc] using h0
    have hbit:dk p.addr.b.toList n = dk q.addr.b.toList n:=mS.1 (bI_inj hc.2.2)
    refine skip (pN (block (region (mv rfl (co (Ev.a8 (.t rfl) (.c (v:=I 1) rfl) (fun _=>zo)) ?_)))))
    refine asn rfl (nil (bN (pN (nx (X:=Int) (n + 1) ⟨?_,?_⟩ ?_))))
    · try dsimp only
      omega
    · try dsimp only
      intro i i0 i1
      by_cases e:i < n
      · exact hs i i0 e
      · obtain rfl:i = n:=by omega
        exact hbit
    · try dsimp only
      omega
  · have hc:n < p.bits→n < q.bits→¬ bI (decide (dk p.addr.b.toList n = 1)) = bI (decide (dk q.addr.b.toList n = 1)):=by simpa using h0
    obtain rfl:n = ix p q:=comN_of hp hq hn.1 hn.2.1 hn.2.2 hs (fun l1 l2 e=>hc l1 l2 (by rw [mS.2 e]))
    have eE:ofE p.addr (ix p q) = 0:=by unfold ofE; rw [if_neg (by rw [nL p hp.1]; decide),if_neg (by omega)]
    have eV:ofV p.addr (ix p q) = gi p q:=by unfold ofV; rw [eE,if_pos rfl]; rfl
    obtain ⟨z,hz⟩:∃ z,gi p q = z:=⟨_,rfl⟩
    refine exit (pX (pX (bX (pN (sg (co (fA 0 (.t rfl)) ?_))))))
    refine co (Ev.ldx p.addr fF (.t rfl) aq.dE) ?_
    refine mv rfl (cons (aZ en108 (.cons (.t rfl) (.cons (.t rfl) .nil)) (fun w I=>of_g _ _ w z 0 (eV.trans hz) eE) ?_))
    refine mv rfl (co (Ev.extract (.t rfl) rfl) (co (Ev.extract (.t rfl) rfl) (cons (alloc z84 (fun b4=>?_)))))
    refine cons (stv cW (ak.id _) (.t rfl) (.t rfl) ?_)
    refine asn rfl (nP (sg (co (Ev.ldv cW (.t rfl) (ak.id _)) ?_)))
    refine cons (stv cW (ak.id _) (.t rfl) (.t rfl) ?_)
    refine nP (ret (done rfl (.cellP rfl cW (cT zm (ak.id _)) .nil) (bc ?_)))
    rw [hz]; first | rfl | (simp; done)
end Go.Proofs.YtjanhajdmhalaaaGreat.Tri
