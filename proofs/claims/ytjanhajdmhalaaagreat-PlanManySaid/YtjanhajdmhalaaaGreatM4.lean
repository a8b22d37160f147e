/- Part. -/
import Derived.Test.YtjanhajdmhalaaaGreatM3
set_option linter.unusedVariables false
set_option linter.unusedSimpArgs false
set_option linter.unusedSectionVars false
namespace Go.Proofs.YtjanhajdmhalaaaGreat
open Go Go.Gx Go.Proofs.YtjanhajdmhalaaaGreat.Tri
theorem oN {α κ:Type} (q:κ→κ→Bool) (f:α→κ) (l:List α) (z:α) {i:Int} (h:0 ≤ i ∧ i < l.length):fG q f (fun k:Nat=>(k:Int)) l (i + 1).toNat = jB q (f (l.getD i.toNat z)) i (fG q f (fun k:Nat=>(k:Int)) l i.toNat):=by
  rw [oM q f _ l z h]
  have e:((i.toNat:Nat):Int) = i:=by omega
  simp only [e]
theorem nY (l:CL) {i:Int} (h:0 ≤ i):(List.range (i + 1).toNat).map (vdV l) = (List.range i.toNat).map (vdV l) ++ [vdV l i.toNat]:=by
  have e:(i + 1).toNat = i.toNat + 1:=by omega
  rw [e,List.range_succ,List.map_append]
  rfl
theorem jW (b:Nat) (x:aE) (r:OV) (a o:Int) (w:World) (hb:cE bV w b 0 x) (hr:x.fa = r):Gx.Calls Tryz.prog 15 #[.pointer (some ⟨b,0,none⟩),I a,I o] w (cD w (j7 r a o).v):=by
  subst hr
  exact decider_ok b x a o w hb
def noPl:Pl:=⟨0,⟨aw,aw,aw,aw,aw⟩,0,⟨0,true,0,.nil,.nil⟩,0,aw,aw⟩
theorem en14:Gx.aC Tryz.prog 14:=Gx.aC.mk' zk
theorem en11:Gx.aC Tryz.prog 11:=Gx.aC.mk' zk
theorem en12:Gx.aC Tryz.prog 12:=Gx.aC.mk' zk
theorem z67:(Tryz.prog.info? 67).bind (·.zero) = some (bV.val bV.zero):=by kernel_rfl
theorem en13:Gx.aC Tryz.prog 13:=Gx.aC.mk' zk
theorem m7:bF Tryz.prog 65 (ovE aw):=bF.mk' zk zk
theorem en15:Gx.aC Tryz.prog 15:=Gx.aC.mk' zk
theorem mj:bF Tryz.prog 90 (ovE eT):=bF.mk' zk zk
theorem z90:(Tryz.prog.info? 90).bind (·.zero) = some ((ovE eT).val (ovE eT).zero):=by kernel_rfl
theorem zb90:(Tryz.prog.info? 90).map (fun i=>(i.zero,i.bytes)) = some (some ((ovE eT).val (ovE eT).zero),16):=by kernel_rfl
theorem zs90:((ovE eT).val (ovE eT).zero).cells.size = (ovE eT).size:=by rw [Enc.cK,List.size_toArray,Enc.len]
theorem j5:bF Tryz.prog 35 (ovE aw):=bF.mk' zk zk
theorem z37:(Tryz.prog.info? 37).bind (·.zero) = some (aW.val aW.zero):=by kernel_rfl
theorem eY:bF Tryz.prog 37 aW:=bF.mk' zk zk
theorem zb37:(Tryz.prog.info? 37).map (fun i=>(i.zero,i.bytes)) = some (some (aW.val aW.zero),40):=by kernel_rfl
theorem zs37:(aW.val aW.zero).cells.size = aW.size:=by rw [Enc.cK,List.size_toArray,Enc.len]
theorem en16:Gx.aC Tryz.prog 16:=Gx.aC.mk' zk
theorem ty64:bF Tryz.prog 64 (ovE aR):=bF.mk' zk zk
set_option maxRecDepth 8000 in
theorem mU (c:aV) (l:CL) (w:World) (hc:gw w c l) (hn:l.Names) (hz:l.n ≤ 4611686018427387904):Gx.Calls Tryz.prog 5 #[aK.val c] w (ja w (CompileJ l c.default) (fun x:Pl × List Res=>.tuple #[.pointer (plO l c.default x.1.b),I (plE l c.default)]) (fun x=>x.2)):=by
  have hlp:=hc.ps.le
  have hlr:=hc.rs.le
  have hlu:=hc.us.le
  have hlm:=hc.ms.le
  have hlx:=hc.xs.le
  refine en0 162 Tryz.func5 (fun _ _=>?_)
  refine sg (cons (box (E:=aK) (.t rfl) (fun b1=>?_)))
  refine co (Ev.assign (.c (v:=(Go.Value.pointer none)) rfl)) ?_
  refine co (Ev.assign (.c (v:=I 0) rfl)) ?_
  refine nP (seq (sg (co (Ev.ldv ty28 (.t rfl) (ak.id _)) ?_)))
  refine cons (aZ en11 (.cons (.t rfl) .nil) (fun w I=>may_ok c l w (hc.aT I.keeps) hn hz) ?_)
  refine co (Ev.not (.t rfl)) ?_
  refine nP ?_
  first | refine aL rfl (fun h0=>?_) (fun h0=>?_) | refine cond rfl (fun h0=>?_) (fun h0=>?_)
  · have hmay:kE l c.default = false:=by simpa using h0
    refine sg (co (Ev.assign (.c (v:=(Go.Value.pointer none)) rfl)) ?_)
    refine co (Ev.assign (.c (v:=I 210) rfl)) ?_
    refine nP (ret (pR (done rfl (.tmp rfl (.tmp rfl .nil)) (fun w I=>?_))))
    refine eW (noPl,[]) (fun h=>by rw [hmay] at h; cases h) ?_ ah.nil w I
    show _ = Value.tuple #[.pointer (plO l c.default _),Gx.I (plE l c.default)]
    unfold plO plE
    rw [hmay]
    rfl
  · have hmay:kE l c.default = true:=by simpa using h0
    have hlens:=oW hmay
    have hcomp:=may_comp hmay
    have hof:=may_ofR hmay
    have hgm:=good_ms (kD hmay)
    have hgx:=good_xs (kD hmay)
    have hsm:l.Small:=⟨by omega,by omega,by omega,by omega,by omega⟩
    refine emp0 ?_
    refine skip (pN (sg (co (Ev.ldv ty28 (.t rfl) (ak.id _)) ?_)))
    refine cons (fQ (X:=CB) (fun _=>True) (fun x=>aK.val (x.c c.default)) (fun x=>x.R l) en12 (.cons (.t rfl) .nil) (fun w I=>copy_ok c l w (hc.aT I.keeps) hsm) (fun x0 _=>?_))
    refine mn (r:=Emp) zr ?_
    refine cons (makeMap (E:=iE) (V:=bE) (fun b2=>?_))
    refine co (Ev.aQ (fs:=_) (places:=[(0,6),(6,1),(7,1),(8,1),(9,1),(10,1)]) z67 rfl Tryz.underlying67 zk (.cons (.t rfl) (.cons (.t (v:=(ie b2).v) rfl) .nil)) (aj.cons aE.l_conf rfl (aj.cons aE.dc rfl aj.nil))) ?_
    refine cons (box (E:=bV) (.t rfl) (fun b3=>?_))
    refine asn rfl (nP (seq (sg (co (fA 0 (.t rfl)) ?_))))
    refine co (Ev.ldv ty22 (.t rfl) aV.dc) ?_
    refine co (Ev.len Tryz.underlying22 (.t rfl) (fun w I=>(hc.aT I.keeps).ps)) ?_
    refine co (Ev.move (.c (v:=I 0) rfl)) ?_
    refine nP (block (lp (X:=Int) (fun x:Int=>(0 ≤ x ∧ x ≤ l.ps.length)) (fun x:Int=>[dz,(1,true,.pointer (some ⟨b1,0,none⟩)),(4,true,.pointer (some ⟨b3,0,none⟩)),(27,true,c.gV.v),(28,true,I l.ps.length),(29,true,I x)]) (fun x:Int=>[Var b3 bV (⟨x0.c c.default,ie b2,aR,aR,aw,aw⟩:aE) 67,dn b2 iE bE (fG eqd (fun x=>x) (fun _=>true) l.ps x.toNat),eK Emp (x0.R l),Var b1 aK c 28]) (fun x:Int=>((l.ps.length:Int) - x).toNat) (0) ?_ (fun x hx=>?_)))
    · omega
    obtain ⟨i0,rfl⟩:∃ y,y = x:=⟨x,rfl⟩
    have hi0:0 ≤ i0 ∧ i0 ≤ l.ps.length:=hx
    clear hx
    show Sat _ _ [dz,(1,true,.pointer (some ⟨b1,0,none⟩)),(4,true,.pointer (some ⟨b3,0,none⟩)),(27,true,c.gV.v),(28,true,I l.ps.length),(29,true,I i0)] [Var b3 bV (⟨x0.c c.default,ie b2,aR,aR,aw,aw⟩:aE) 67,dn b2 iE bE (fG eqd (fun x=>x) (fun _=>true) l.ps i0.toNat),eK Emp (x0.R l),Var b1 aK c 28]
    refine sg (co (Ev.dx (.t rfl) (.t rfl)) ?_)
    refine nP (seq ?_)
    first | refine aL rfl (fun h1=>?_) (fun h1=>?_) | refine cond rfl (fun h1=>?_) (fun h1=>?_)
    · try simp only [Gx.nb] at h1
      refine skip (pN (seq (block (sg (co (Ev.indexAddr Tryz.underlying22 ty3 (.t rfl) (.t rfl) (fun w I=>(hc.aT I.keeps).ps) (fun _=>zo)) ?_)))))
      refine co (Ev.dp ty3 (.t rfl) (fun w I=>(hc.aT I.keeps).ps) (fun _=>zo)) ?_
      refine asn rfl (nP (region (mv rfl (co (Ev.nilCheck (.t rfl)) ?_))))
      refine co (fA 6 (.t rfl)) ?_
      refine co (Ev.to (v':=.map (some b2)) (Ev.ldv ty62 (.t rfl) aE.dc) (rfl)) ?_
      refine mv rfl (cons (mapUpdate (V:=bE) (v:=true) Tryz.underlying62 Tryz.underlying3 key3 (.t rfl) (.t rfl) (.c rfl) zu ?_))
      refine nil (bN (pN (region (co (Ev.a8 (.t rfl) (.c (v:=I 1) rfl) (fun _=>zo)) ?_))))
      refine mv rfl (nP (nx (X:=Int) (i0 + 1) ?_ ?_ (hL:=(by rw [oM _ _ _ _ iE.zero (by omega)]; exact zs))))
      · try dsimp only
        omega
      · try dsimp only
        omega
    · try simp only [Gx.nb] at h1
      refine exit (pX (pX (bX (pN (seq ?_)))))
      have e0:i0.toNat = l.ps.length:=by omega
      rw [e0]
      refine region (co (Ev.assign (.c (v:=I 0) rfl)) ?_)
      refine nP (seq (sg (mv rfl (co (fA 1 (.t rfl)) ?_))))
      refine co (Ev.ldv ty23 (.t rfl) aV.cH) ?_
      refine cons (fQ (X:=Tt × List Res) (Tri.TofJ l.rs) (fun x=>.tuple #[.pointer (Tri.pO (Tri.ofR l.rs) x.1.b),I (Tri.ofR l.rs)]) (fun x=>x.2) en13 (.cons (.t rfl) .nil) (fun w I=>Tri.tof_ok _ l.rs w (hc.aT I.keeps).rs (by omega)) (fun xt hxt=>?_))
      refine mv rfl (co (Ev.to (v':=xt.1.ptr.v) (Ev.extract (.t rfl) rfl) (congrArg Value.pointer (if_pos hof))) ?_)
      refine co (Ev.to (v':=I 0) (Ev.extract (.t rfl) rfl) (congrArg Gx.I hof)) ?_
      refine co (Ev.nilCheck (.t rfl)) ?_
      refine co (fA 7 (.t rfl)) ?_
      refine cons (stv ty63 aE.cH (.t rfl) (.t rfl) ?_)
      refine asn rfl (nP (seq (mn (r:=eK Emp (x0.R l)) zr ?_)))
      obtain ⟨hok,hen,_,htr⟩:=hxt hof
      refine region (mv rfl (co (Ev.eX (.t rfl) (.c (v:=I 0) rfl)) ?_))
      refine nP (il rfl (rfl) ?_)
      refine skip (pN (sg (cons (makeMap (E:=sE) (V:=iE) (fun b4=>?_)))))
      refine cons (makeMap (E:=sE) (V:=iE) (fun b5=>?_))
      refine asn rfl (asn rfl (nP (seq (sg (co (fA 3 (.t rfl)) ?_)))))
      refine co (Ev.ldv ty25 (.t rfl) aV.dJ) ?_
      refine co (Ev.len Tryz.underlying25 (.t rfl) (fun w I=>(hc.aT I.keeps).ms)) ?_
      refine co (Ev.move (.c (v:=I 0) rfl)) ?_
      refine nP (block (lp (X:=Int) (fun x:Int=>(0 ≤ x ∧ x ≤ l.ms.length)) (fun x:Int=>[dz,(1,true,.pointer (some ⟨b1,0,none⟩)),(4,true,.pointer (some ⟨b3,0,none⟩)),(8,true,.map (some b4)),(9,true,.map (some b5)),(53,true,c.iw.v),(54,true,I l.ms.length),(55,true,I x)]) (fun x:Int=>[dn b5 sE iE ([]:List (ByteArray × Int)),dn b4 sE iE (fG eqs (fun r:aJ=>r.name) (fun k:Nat=>(k:Int)) l.ms x.toNat),eK (eK Emp (x0.R l)) xt.2,Var b3 bV (⟨x0.c c.default,ie b2,xt.1.ptr,aR,aw,aw⟩:aE) 67,dn b2 iE bE (fS l),Var b1 aK c 28]) (fun x:Int=>((l.ms.length:Int) - x).toNat) (0) ?_ (fun x hx=>?_)))
      · omega
      obtain ⟨i1,rfl⟩:∃ y,y = x:=⟨x,rfl⟩
      have hi1:0 ≤ i1 ∧ i1 ≤ l.ms.length:=hx
      clear hx
      show Sat _ _ [dz,(1,true,.pointer (some ⟨b1,0,none⟩)),(4,true,.pointer (some ⟨b3,0,none⟩)),(8,true,.map (some b4)),(9,true,.map (some b5)),(53,true,c.iw.v),(54,true,I l.ms.length),(55,true,I i1)] [dn b5 sE iE ([]:List (ByteArray × Int)),dn b4 sE iE (fG eqs (fun r:aJ=>r.name) (fun k:Nat=>(k:Int)) l.ms i1.toNat),eK (eK Emp (x0.R l)) xt.2,Var b3 bV (⟨x0.c c.default,ie b2,xt.1.ptr,aR,aw,aw⟩:aE) 67,dn b2 iE bE (fS l),Var b1 aK c 28]
      refine sg (co (Ev.dx (.t rfl) (.t rfl)) ?_)
      refine nP (seq ?_)
      first | refine aL rfl (fun h3=>?_) (fun h3=>?_) | refine cond rfl (fun h3=>?_) (fun h3=>?_)
      · try simp only [Gx.nb] at h3
        refine skip (pN (seq (block (sg (mv rfl (co (Ev.indexAddr Tryz.underlying25 eH (.t rfl) (.t rfl) (fun w I=>(hc.aT I.keeps).ms) (fun _=>zo)) ?_))))))
        refine co (Ev.dp eH (.t rfl) (fun w I=>(hc.aT I.keeps).ms) (fun _=>zo)) ?_
        refine cons (alloc z75 (fun b6=>?_))
        refine asn rfl (cons (stv eH (ak.id _) (.t rfl) (.t rfl) ?_))
        refine nP (region (mv rfl (co (fA 0 (.t rfl)) ?_)))
        refine co (Ev.ldv ty9 (.t rfl) aJ.cN) ?_
        refine mv rfl (cons (mapUpdate Tryz.underlying70 Tryz.underlying9 mL (.t rfl) (.t rfl) (.t rfl) zu ?_))
        refine nil (bN (pN (region (co (Ev.a8 (.t rfl) (.c (v:=I 1) rfl) (fun _=>zo)) ?_))))
        refine mv rfl (nP (nx (X:=Int) (i1 + 1) ?_ ?_ (hL:=(by rw [oN _ _ _ ai.zero (by omega)]; exact zs))))
        · try dsimp only
          omega
        · try dsimp only
          omega
      · try simp only [Gx.nb] at h3
        refine exit (pX (pX (bX (pN (seq (seq ?_))))))
        have e1:i1.toNat = l.ms.length:=by omega
        rw [e1]
        refine region (co (fA 4 (.t rfl)) ?_)
        refine co (Ev.ldv ty26 (.t rfl) aV.db) ?_
        refine co (Ev.len Tryz.underlying26 (.t rfl) (fun w I=>(hc.aT I.keeps).xs)) ?_
        refine co (Ev.move (.c (v:=I 0) rfl)) ?_
        refine nP (block (lp (X:=Int) (fun x:Int=>(0 ≤ x ∧ x ≤ l.xs.length)) (fun x:Int=>[dz,(1,true,.pointer (some ⟨b1,0,none⟩)),(4,true,.pointer (some ⟨b3,0,none⟩)),(8,true,.map (some b4)),(9,true,.map (some b5)),(66,true,c.gk.v),(67,true,I l.xs.length),(68,true,I x)]) (fun x:Int=>[dn b5 sE iE (fG eqs (fun r:aD=>r.name) (fun k:Nat=>(k:Int)) l.xs x.toNat),dn b4 sE iE (fG eqs (fun r:aJ=>r.name) (fun k:Nat=>(k:Int)) l.ms l.ms.length),eK (eK Emp (x0.R l)) xt.2,Var b3 bV (⟨x0.c c.default,ie b2,xt.1.ptr,aR,aw,aw⟩:aE) 67,dn b2 iE bE (fS l),Var b1 aK c 28]) (fun x:Int=>((l.xs.length:Int) - x).toNat) (0) ?_ (fun x hx=>?_)))
        · omega
        obtain ⟨i2,rfl⟩:∃ y,y = x:=⟨x,rfl⟩
        have hi2:0 ≤ i2 ∧ i2 ≤ l.xs.length:=hx
        clear hx
        show Sat _ _ [dz,(1,true,.pointer (some ⟨b1,0,none⟩)),(4,true,.pointer (some ⟨b3,0,none⟩)),(8,true,.map (some b4)),(9,true,.map (some b5)),(66,true,c.gk.v),(67,true,I l.xs.length),(68,true,I i2)] [dn b5 sE iE (fG eqs (fun r:aD=>r.name) (fun k:Nat=>(k:Int)) l.xs i2.toNat),dn b4 sE iE (fG eqs (fun r:aJ=>r.name) (fun k:Nat=>(k:Int)) l.ms l.ms.length),eK (eK Emp (x0.R l)) xt.2,Var b3 bV (⟨x0.c c.default,ie b2,xt.1.ptr,aR,aw,aw⟩:aE) 67,dn b2 iE bE (fS l),Var b1 aK c 28]
        refine sg (co (Ev.dx (.t rfl) (.t rfl)) ?_)
        refine nP (seq ?_)
        first | refine aL rfl (fun h4=>?_) (fun h4=>?_) | refine cond rfl (fun h4=>?_) (fun h4=>?_)
        · try simp only [Gx.nb] at h4
          refine skip (pN (seq (block (sg (mv rfl (co (Ev.indexAddr Tryz.underlying26 eG (.t rfl) (.t rfl) (fun w I=>(hc.aT I.keeps).xs) (fun _=>zo)) ?_))))))
          refine co (Ev.dp eG (.t rfl) (fun w I=>(hc.aT I.keeps).xs) (fun _=>zo)) ?_
          refine cons (alloc z77 (fun b7=>?_))
          refine asn rfl (cons (stv eG (ak.id _) (.t rfl) (.t rfl) ?_))
          refine nP (region (mv rfl (co (fA 0 (.t rfl)) ?_)))
          refine co (Ev.ldv ty9 (.t rfl) aD.cN) ?_
          refine mv rfl (cons (mapUpdate Tryz.underlying70 Tryz.underlying9 mL (.t rfl) (.t rfl) (.t rfl) zu ?_))
          refine nil (bN (pN (region (co (Ev.a8 (.t rfl) (.c (v:=I 1) rfl) (fun _=>zo)) ?_))))
          refine mv rfl (nP (nx (X:=Int) (i2 + 1) ?_ ?_ (hL:=(by rw [oN _ _ _ ae.zero (by omega)]; exact zs))))
          · try dsimp only
            omega
          · try dsimp only
            omega
        · try simp only [Gx.nb] at h4
          refine exit (pX (pX (bX (pN (seq ?_)))))
          have e2:i2.toNat = l.xs.length:=by omega
          rw [e2]
          refine region (co (Ev.assign .f) ?_)
          refine nP (sg (co (Ev.assign (.c (v:=(Go.Value.slice none 0 0)) rfl)) ?_))
          refine fB ay 86 ?_
          refine nP (seq (sg (co (fA 2 (.t rfl)) ?_)))
          refine co (Ev.ldv ty24 (.t rfl) aV.dG) ?_
          refine co (Ev.len Tryz.underlying24 (.t rfl) (fun w I=>(hc.aT I.keeps).us)) ?_
          refine co (Ev.move (.c (v:=I 0) rfl)) ?_
          refine nP (block (fB (ovE eT) 90 ?_))
          refine fB aW 37 ?_
          refine lp (X:=Int × OV × OV × OV) (fun x:Int × OV × OV × OV=>(0 ≤ x.1 ∧ x.1 ≤ l.us.length)) (fun x:Int × OV × OV × OV=>[dz,(1,true,.pointer (some ⟨b1,0,none⟩)),(4,true,.pointer (some ⟨b3,0,none⟩)),(8,true,.map (some b4)),(9,true,.map (some b5)),(14,true,(clo 14 []).v),(15,true,x.2.1.v),(79,true,c.rules.v),(80,true,I l.us.length),(81,true,I x.1)]) (fun x:Int × OV × OV × OV=>[aP x.2.2.2.v aW ((List.range x.1.toNat).map (vdV l)) 37,aP x.2.2.1.v (ovE eT) ((l.us.take x.1.toNat).map (fun u=>j7 xt.1.ptr u.action u.out)) 90,aP x.2.1.v ay ((l.us.take x.1.toNat).map (fun r=>r.cX)) 86,dn b5 sE iE (fG eqs (fun r:aD=>r.name) (fun k:Nat=>(k:Int)) l.xs l.xs.length),dn b4 sE iE (fG eqs (fun r:aJ=>r.name) (fun k:Nat=>(k:Int)) l.ms l.ms.length),eK (eK Emp (x0.R l)) xt.2,Var b3 bV (⟨x0.c c.default,ie b2,xt.1.ptr,aR,x.2.2.1,x.2.2.2⟩:aE) 67,dn b2 iE bE (fS l),Var b1 aK c 28]) (fun x:Int × OV × OV × OV=>((l.us.length:Int) - x.1).toNat) (0,aw,aw,aw) ?_ (fun x hx=>?_)
          · omega
          obtain ⟨i3,q,dv,vv⟩:=x
          have hi3:0 ≤ i3 ∧ i3 ≤ l.us.length:=hx
          clear hx
          show Sat _ _ [dz,(1,true,.pointer (some ⟨b1,0,none⟩)),(4,true,.pointer (some ⟨b3,0,none⟩)),(8,true,.map (some b4)),(9,true,.map (some b5)),(14,true,(clo 14 []).v),(15,true,q.v),(79,true,c.rules.v),(80,true,I l.us.length),(81,true,I i3)] [aP vv.v aW ((List.range i3.toNat).map (vdV l)) 37,aP dv.v (ovE eT) ((l.us.take i3.toNat).map (fun u=>j7 xt.1.ptr u.action u.out)) 90,aP q.v ay ((l.us.take i3.toNat).map (fun r=>r.cX)) 86,dn b5 sE iE (fG eqs (fun r:aD=>r.name) (fun k:Nat=>(k:Int)) l.xs l.xs.length),dn b4 sE iE (fG eqs (fun r:aJ=>r.name) (fun k:Nat=>(k:Int)) l.ms l.ms.length),eK (eK Emp (x0.R l)) xt.2,Var b3 bV (⟨x0.c c.default,ie b2,xt.1.ptr,aR,dv,vv⟩:aE) 67,dn b2 iE bE (fS l),Var b1 aK c 28]
          have hq1:((l.us.take i3.toNat).map (fun r=>r.cX)).length ≤ 256:=by simp; omega
          have hq2:((l.us.take i3.toNat).map (fun u=>j7 xt.1.ptr u.action u.out)).length ≤ 256:=by simp; omega
          have hq3:((List.range i3.toNat).map (vdV l)).length ≤ 256:=by simp; omega
          refine sg (co (Ev.dx (.t rfl) (.t rfl)) ?_)
          refine nP (seq ?_)
          first | refine aL rfl (fun h5=>?_) (fun h5=>?_) | refine cond rfl (fun h5=>?_) (fun h5=>?_)
          · try simp only [Gx.nb] at h5
            refine skip (pN (seq (block (sg (mv rfl (co (Ev.indexAddr Tryz.underlying24 gp (.t rfl) (.t rfl) (fun w I=>(hc.aT I.keeps).us) (fun _=>zo)) ?_))))))
            refine co (Ev.dp gp (.t rfl) (fun w I=>(hc.aT I.keeps).us) (fun _=>zo)) ?_
            refine cons (alloc z88 (fun b8=>?_))
            refine asn rfl (cons (stv gp (ak.id _) (.t rfl) (.t rfl) ?_))
            refine nP (sg (mv rfl (co (fA 1 (.t rfl)) ?_)))
            refine co (Ev.ldv gU (.t rfl) aO.cV) ?_
            refine cons (buildSlice (E:=ay) Tryz.underlying80 gU z86 (.cons (.t rfl) .nil) rfl rfl (fun v9=>?_))
            refine cons (app (E:=ay) Tryz.underlying80 gU zb86 zs86 (.t rfl) (.t rfl) (fun v10=>?_) (hby:=⟨by (show _ ≤ 9223372036854775807); first | omega | (simp; done) | (simp; omega),by first | omega | (simp; done) | (simp; omega)⟩))
            refine asn rfl (nP (cut (X:=OV × OV) (fun x:OV × OV=>True) (fun x:OV × OV=>[dz,(1,true,.pointer (some ⟨b1,0,none⟩)),(4,true,.pointer (some ⟨b3,0,none⟩)),(8,true,.map (some b4)),(9,true,.map (some b5)),(14,true,(clo 14 []).v),(15,true,x.1.v),(16,true,I i3),(17,true,.pointer (some ⟨b8,0,none⟩)),(79,true,c.rules.v),(80,true,I l.us.length),(81,true,I i3)]) (fun x:OV × OV=>[Var b8 aG (l.us.getD i3.toNat aG.zero) 88,aP vv.v aW ((List.range i3.toNat).map (vdV l)) 37,aP x.2.v (ovE eT) (((l.us.take i3.toNat).map (fun u=>j7 xt.1.ptr u.action u.out)) ++ [j7 xt.1.ptr (l.us.getD i3.toNat aG.zero).action (l.us.getD i3.toNat aG.zero).out]) 90,aP x.1.v ay (((l.us.take i3.toNat).map (fun r=>r.cX)) ++ [(l.us.getD i3.toNat aG.zero).cX]) 86,dn b5 sE iE (fG eqs (fun r:aD=>r.name) (fun k:Nat=>(k:Int)) l.xs l.xs.length),dn b4 sE iE (fG eqs (fun r:aJ=>r.name) (fun k:Nat=>(k:Int)) l.ms l.ms.length),eK (eK Emp (x0.R l)) xt.2,Var b3 bV (⟨x0.c c.default,ie b2,xt.1.ptr,aR,x.2,vv⟩:aE) 67,dn b2 iE bE (fS l),Var b1 aK c 28]) ?_ (fun x hx=>?_)))
            · refine draw [Var b8 aG (l.us.getD i3.toNat aG.zero) 88] zk ?_
              refine tk 0 rfl (Ev.move (.t rfl)) ?_
              refine tk 1 rfl (Ev.move (.t rfl)) ?_
              refine tk 2 rfl (Ev.nilCheck (.t rfl)) ?_
              refine tk 3 rfl (fA 9 (.t rfl)) ?_
              refine tk 5 rfl (Ev.move (.t rfl)) ?_
              refine tk 6 rfl (fA 45 (.t rfl)) ?_
              refine tk 7 rfl (Ev.ldv ty3 (.t rfl) aO.bZ) ?_
              refine tk 8 rfl (fA 46 (.t rfl)) ?_
              refine tk 9 rfl (Ev.ldv ty3 (.t rfl) aO.dj) ?_
              refine all [4,10] zk (by decide) (.cons rfl ?_ (.cons rfl ?_ .nil))
              · refine (opv (Ev.to (v':=dv.v) (Ev.ldv m7 (.t rfl) aE.dh) (rfl)) ?_)
                refine hdn (al1 10 rfl ((aZ en15 (.cons (.t rfl) (.cons (.t rfl) (.cons (.t rfl) .nil))) (fun w I=>jW b3 _ xt.1.ptr _ _ w (cT (E':=bV) zm (ak.id _) w I) rfl) ?_)))
                refine hdn (al1 11 rfl ((buildSlice (E:=(ovE eT)) Tryz.underlying65 mj z90 (.cons (.t rfl) .nil) rfl rfl (fun v11=>?_))))
                refine hdn (al1 12 rfl ((app (E:=(ovE eT)) Tryz.underlying65 mj zb90 zs90 (.t rfl) (.t rfl) (fun v12=>?_) (hby:=⟨by (show _ ≤ 9223372036854775807); first | omega | (simp; done) | (simp; omega),by first | omega | (simp; done) | (simp; omega)⟩))))
                refine hdn (tk 13 rfl (Ev.nilCheck (.t rfl)) ?_)
                refine tk 14 rfl (fA 9 (.t rfl)) ?_
                refine al1 15 rfl ((stv m7 aE.dh (.t rfl) (.t rfl) ?_))
                refine hdn (ovr (pN (mtP (X:=OV × OV) (_,_) trivial)))
              · refine (aZ en15 (.cons (.t rfl) (.cons (.t rfl) (.cons (.t rfl) .nil))) (fun w I=>jW b3 _ xt.1.ptr _ _ w (cT (E':=bV) zm (ak.id _) w I) rfl) ?_)
                refine hdn (all [4,11] zk (by decide) (.cons rfl ?_ (.cons rfl ?_ .nil)))
                · refine (opv (Ev.to (v':=dv.v) (Ev.ldv m7 (.t rfl) aE.dh) (rfl)) ?_)
                  refine hdn (al1 11 rfl ((buildSlice (E:=(ovE eT)) Tryz.underlying65 mj z90 (.cons (.t rfl) .nil) rfl rfl (fun v13=>?_))))
                  refine hdn (al1 12 rfl ((app (E:=(ovE eT)) Tryz.underlying65 mj zb90 zs90 (.t rfl) (.t rfl) (fun v14=>?_) (hby:=⟨by (show _ ≤ 9223372036854775807); first | omega | (simp; done) | (simp; omega),by first | omega | (simp; done) | (simp; omega)⟩))))
                  refine hdn (tk 13 rfl (Ev.nilCheck (.t rfl)) ?_)
                  refine tk 14 rfl (fA 9 (.t rfl)) ?_
                  refine al1 15 rfl ((stv m7 aE.dh (.t rfl) (.t rfl) ?_))
                  refine hdn (ovr (pN (mtP (X:=OV × OV) (_,_) trivial)))
                · refine (buildSlice (E:=(ovE eT)) Tryz.underlying65 mj z90 (.cons (.t rfl) .nil) rfl rfl (fun v15=>?_))
                  refine hdn (al1 4 rfl ((opv (Ev.to (v':=dv.v) (Ev.ldv m7 (.t rfl) aE.dh) (rfl)) ?_)))
                  refine hdn (al1 12 rfl ((app (E:=(ovE eT)) Tryz.underlying65 mj zb90 zs90 (.t rfl) (.t rfl) (fun v16=>?_) (hby:=⟨by (show _ ≤ 9223372036854775807); first | omega | (simp; done) | (simp; omega),by first | omega | (simp; done) | (simp; omega)⟩))))
                  refine hdn (tk 13 rfl (Ev.nilCheck (.t rfl)) ?_)
                  refine tk 14 rfl (fA 9 (.t rfl)) ?_
                  refine al1 15 rfl ((stv m7 aE.dh (.t rfl) (.t rfl) ?_))
                  refine hdn (ovr (pN (mtP (X:=OV × OV) (_,_) trivial)))
            obtain ⟨q1,dv1⟩:=x
            show Sat _ _ [dz,(1,true,.pointer (some ⟨b1,0,none⟩)),(4,true,.pointer (some ⟨b3,0,none⟩)),(8,true,.map (some b4)),(9,true,.map (some b5)),(14,true,(clo 14 []).v),(15,true,q1.v),(16,true,I i3),(17,true,.pointer (some ⟨b8,0,none⟩)),(79,true,c.rules.v),(80,true,I l.us.length),(81,true,I i3)] [Var b8 aG (l.us.getD i3.toNat aG.zero) 88,aP vv.v aW ((List.range i3.toNat).map (vdV l)) 37,aP dv1.v (ovE eT) (((l.us.take i3.toNat).map (fun u=>j7 xt.1.ptr u.action u.out)) ++ [j7 xt.1.ptr (l.us.getD i3.toNat aG.zero).action (l.us.getD i3.toNat aG.zero).out]) 90,aP q1.v ay (((l.us.take i3.toNat).map (fun r=>r.cX)) ++ [(l.us.getD i3.toNat aG.zero).cX]) 86,dn b5 sE iE (fG eqs (fun r:aD=>r.name) (fun k:Nat=>(k:Int)) l.xs l.xs.length),dn b4 sE iE (fG eqs (fun r:aJ=>r.name) (fun k:Nat=>(k:Int)) l.ms l.ms.length),eK (eK Emp (x0.R l)) xt.2,Var b3 bV (⟨x0.c c.default,ie b2,xt.1.ptr,aR,dv1,vv⟩:aE) 67,dn b2 iE bE (fS l),Var b1 aK c 28]
            refine draw [Var b8 aG (l.us.getD i3.toNat aG.zero) 88] zk ?_
            refine tk 0 rfl (Ev.move (.t rfl)) ?_
            refine tk 1 rfl (Ev.move (.t rfl)) ?_
            refine tk 2 rfl (Ev.nilCheck (.t rfl)) ?_
            refine tk 3 rfl (fA 10 (.t rfl)) ?_
            refine tk 5 rfl (Ev.to (v':=I ((i3.toNat:Nat):Int)) (Ev.move (.t rfl)) (congrArg Gx.I (by omega))) ?_
            refine tk 6 rfl (Ev.move (.t rfl)) ?_
            refine tk 7 rfl (Ev.move (.t rfl)) ?_
            refine tk 8 rfl (fA 47 (.t rfl)) ?_
            refine tk 9 rfl (Ev.ldv ty9 (.t rfl) aO.eL) ?_
            refine tk 11 rfl (Ev.move (.t rfl)) ?_
            refine tk 12 rfl (Ev.move (.t rfl)) ?_
            refine tk 13 rfl (fA 48 (.t rfl)) ?_
            refine tk 14 rfl (Ev.ldv ty9 (.t rfl) aO.dI) ?_
            refine all [4,10] zk (by decide) (.cons rfl ?_ (.cons rfl ?_ .nil))
            · refine (opv (Ev.to (v':=vv.v) (Ev.ldv j5 (.t rfl) aE.dy) (rfl)) ?_)
              refine hdn (al1 10 rfl ((fL (.t rfl) en14 (.cons (.t rfl) (.cons (.t rfl) .nil)) (fun w I=>jC b4 _ _ _ w (dL zm w I) (kB hgm _)) ?_)))
              refine hdn (al1 15 rfl ((fL (.t rfl) en14 (.cons (.t rfl) (.cons (.t rfl) .nil)) (fun w I=>jC b5 _ _ _ w (dL zm w I) (kB hgx _)) ?_)))
              refine hdn (tk 16 rfl (Ev.aQ (fs:=_) (places:=[(0,1),(1,1),(2,1),(3,1),(4,1)]) z37 rfl Tryz.underlying37 zk (.cons (.t rfl) (.cons (.t rfl) (.cons (.t rfl) .nil))) (aj.cons aF.iU rfl (aj.cons aF.eL rfl (aj.cons aF.dI rfl aj.nil)))) ?_)
              refine al1 17 rfl ((buildSlice (E:=aW) Tryz.underlying35 eY z37 (.cons (.t rfl) .nil) rfl rfl (fun v17=>?_)))
              refine hdn (al1 18 rfl ((app (E:=aW) Tryz.underlying35 eY zb37 zs37 (.t rfl) (.t rfl) (fun v18=>?_) (hby:=⟨by (show _ ≤ 9223372036854775807); first | omega | (simp; done) | (simp; omega),by first | omega | (simp; done) | (simp; omega)⟩))))
              refine hdn (tk 19 rfl (Ev.nilCheck (.t rfl)) ?_)
              refine tk 20 rfl (fA 10 (.t rfl)) ?_
              refine al1 21 rfl ((stv j5 aE.dy (.t rfl) (.t rfl) ?_))
              refine hdn (ovr (bN (pN (region (co (Ev.a8 (.t rfl) (.c (v:=I 1) rfl) (fun _=>zo)) ?_)))))
              refine mv rfl (nP (nxP (X:=Int × OV × OV × OV) (i3 + 1,_,_,_) ?_ ?_ (hL:=(by rw [eQ l.us i3 hi3.1 (by omega) aG.zero,List.map_append,List.map_append,nY l hi3.1]; repeat first | exact ah.nil | refine ah.cons zr ?_))))
              · try dsimp only
                omega
              · try dsimp only
                omega
            · refine (fL (.t rfl) en14 (.cons (.t rfl) (.cons (.t rfl) .nil)) (fun w I=>jC b4 _ _ _ w (dL zm w I) (kB hgm _)) ?_)
              refine hdn (all [4,15] zk (by decide) (.cons rfl ?_ (.cons rfl ?_ .nil)))
              · refine (opv (Ev.to (v':=vv.v) (Ev.ldv j5 (.t rfl) aE.dy) (rfl)) ?_)
                refine hdn (al1 15 rfl ((fL (.t rfl) en14 (.cons (.t rfl) (.cons (.t rfl) .nil)) (fun w I=>jC b5 _ _ _ w (dL zm w I) (kB hgx _)) ?_)))
                refine hdn (tk 16 rfl (Ev.aQ (fs:=_) (places:=[(0,1),(1,1),(2,1),(3,1),(4,1)]) z37 rfl Tryz.underlying37 zk (.cons (.t rfl) (.cons (.t rfl) (.cons (.t rfl) .nil))) (aj.cons aF.iU rfl (aj.cons aF.eL rfl (aj.cons aF.dI rfl aj.nil)))) ?_)
                refine al1 17 rfl ((buildSlice (E:=aW) Tryz.underlying35 eY z37 (.cons (.t rfl) .nil) rfl rfl (fun v19=>?_)))
                refine hdn (al1 18 rfl ((app (E:=aW) Tryz.underlying35 eY zb37 zs37 (.t rfl) (.t rfl) (fun v20=>?_) (hby:=⟨by (show _ ≤ 9223372036854775807); first | omega | (simp; done) | (simp; omega),by first | omega | (simp; done) | (simp; omega)⟩))))
                refine hdn (tk 19 rfl (Ev.nilCheck (.t rfl)) ?_)
                refine tk 20 rfl (fA 10 (.t rfl)) ?_
                refine al1 21 rfl ((stv j5 aE.dy (.t rfl) (.t rfl) ?_))
                refine hdn (ovr (bN (pN (region (co (Ev.a8 (.t rfl) (.c (v:=I 1) rfl) (fun _=>zo)) ?_)))))
                refine mv rfl (nP (nxP (X:=Int × OV × OV × OV) (i3 + 1,_,_,_) ?_ ?_ (hL:=(by rw [eQ l.us i3 hi3.1 (by omega) aG.zero,List.map_append,List.map_append,nY l hi3.1]; repeat first | exact ah.nil | refine ah.cons zr ?_))))
                · try dsimp only
                  omega
                · try dsimp only
                  omega
              · refine (fL (.t rfl) en14 (.cons (.t rfl) (.cons (.t rfl) .nil)) (fun w I=>jC b5 _ _ _ w (dL zm w I) (kB hgx _)) ?_)
                refine hdn (tk 16 rfl (Ev.aQ (fs:=_) (places:=[(0,1),(1,1),(2,1),(3,1),(4,1)]) z37 rfl Tryz.underlying37 zk (.cons (.t rfl) (.cons (.t rfl) (.cons (.t rfl) .nil))) (aj.cons aF.iU rfl (aj.cons aF.eL rfl (aj.cons aF.dI rfl aj.nil)))) ?_)
                refine all [4,17] zk (by decide) (.cons rfl ?_ (.cons rfl ?_ .nil))
                · refine (opv (Ev.to (v':=vv.v) (Ev.ldv j5 (.t rfl) aE.dy) (rfl)) ?_)
                  refine hdn (al1 17 rfl ((buildSlice (E:=aW) Tryz.underlying35 eY z37 (.cons (.t rfl) .nil) rfl rfl (fun v21=>?_))))
                  refine hdn (al1 18 rfl ((app (E:=aW) Tryz.underlying35 eY zb37 zs37 (.t rfl) (.t rfl) (fun v22=>?_) (hby:=⟨by (show _ ≤ 9223372036854775807); first | omega | (simp; done) | (simp; omega),by first | omega | (simp; done) | (simp; omega)⟩))))
                  refine hdn (tk 19 rfl (Ev.nilCheck (.t rfl)) ?_)
                  refine tk 20 rfl (fA 10 (.t rfl)) ?_
                  refine al1 21 rfl ((stv j5 aE.dy (.t rfl) (.t rfl) ?_))
                  refine hdn (ovr (bN (pN (region (co (Ev.a8 (.t rfl) (.c (v:=I 1) rfl) (fun _=>zo)) ?_)))))
                  refine mv rfl (nP (nxP (X:=Int × OV × OV × OV) (i3 + 1,_,_,_) ?_ ?_ (hL:=(by rw [eQ l.us i3 hi3.1 (by omega) aG.zero,List.map_append,List.map_append,nY l hi3.1]; repeat first | exact ah.nil | refine ah.cons zr ?_))))
                  · try dsimp only
                    omega
                  · try dsimp only
                    omega
                · refine (buildSlice (E:=aW) Tryz.underlying35 eY z37 (.cons (.t rfl) .nil) rfl rfl (fun v23=>?_))
                  refine hdn (al1 4 rfl ((opv (Ev.to (v':=vv.v) (Ev.ldv j5 (.t rfl) aE.dy) (rfl)) ?_)))
                  refine hdn (al1 18 rfl ((app (E:=aW) Tryz.underlying35 eY zb37 zs37 (.t rfl) (.t rfl) (fun v24=>?_) (hby:=⟨by (show _ ≤ 9223372036854775807); first | omega | (simp; done) | (simp; omega),by first | omega | (simp; done) | (simp; omega)⟩))))
                  refine hdn (tk 19 rfl (Ev.nilCheck (.t rfl)) ?_)
                  refine tk 20 rfl (fA 10 (.t rfl)) ?_
                  refine al1 21 rfl ((stv j5 aE.dy (.t rfl) (.t rfl) ?_))
                  refine hdn (ovr (bN (pN (region (co (Ev.a8 (.t rfl) (.c (v:=I 1) rfl) (fun _=>zo)) ?_)))))
                  refine mv rfl (nP (nxP (X:=Int × OV × OV × OV) (i3 + 1,_,_,_) ?_ ?_ (hL:=(by rw [eQ l.us i3 hi3.1 (by omega) aG.zero,List.map_append,List.map_append,nY l hi3.1]; repeat first | exact ah.nil | refine ah.cons zr ?_))))
                  · try dsimp only
                    omega
                  · try dsimp only
                    omega
          · try simp only [Gx.nb] at h5
            refine exit (pX (pX (bX (pN (cut (X:=OV) (fun x:OV=>True) (fun x:OV=>[dz,(1,true,.pointer (some ⟨b1,0,none⟩)),(4,true,.pointer (some ⟨b3,0,none⟩)),(15,true,q.v)]) (fun x:OV=>[aP x.v (ovE eT) (decL xt.1.ptr l c.default) 90,aP vv.v aW ((List.range l.us.length).map (vdV l)) 37,aP q.v ay (mtL l) 86,dn b5 sE iE (fG eqs (fun r:aD=>r.name) (fun k:Nat=>(k:Int)) l.xs l.xs.length),dn b4 sE iE (fG eqs (fun r:aJ=>r.name) (fun k:Nat=>(k:Int)) l.ms l.ms.length),eK (eK Emp (x0.R l)) xt.2,Var b3 bV (⟨x0.c c.default,ie b2,xt.1.ptr,aR,x,vv⟩:aE) 67,dn b2 iE bE (fS l),Var b1 aK c 28]) ?_ (fun x hx=>?_))))))
            · have e3:i3.toNat = l.us.length:=by omega
              rw [e3,List.take_length]
              refine draw [Var b1 aK c 28] zk ?_
              refine tk 0 rfl (Ev.move (.t rfl)) ?_
              refine tk 1 rfl (Ev.move (.t rfl)) ?_
              refine tk 2 rfl (Ev.nilCheck (.t rfl)) ?_
              refine tk 3 rfl (fA 9 (.t rfl)) ?_
              refine tk 5 rfl (Ev.move (.t rfl)) ?_
              refine tk 6 rfl (fA 5 (.t rfl)) ?_
              refine tk 7 rfl (Ev.ldv ty3 (.t rfl) aV.eF) ?_
              refine all [4,8] zk (by decide) (.cons rfl ?_ (.cons rfl ?_ .nil))
              · refine (opv (Ev.to (v':=dv.v) (Ev.ldv m7 (.t rfl) aE.dh) (rfl)) ?_)
                refine hdn (al1 8 rfl ((aZ en15 (.cons (.t rfl) (.cons (.t rfl) (.cons (.c (v:=I 0) rfl) .nil))) (fun w I=>jW b3 _ xt.1.ptr _ _ w (cT (E':=bV) zm (ak.id _) w I) rfl) ?_)))
                refine hdn (al1 9 rfl ((buildSlice (E:=(ovE eT)) Tryz.underlying65 mj z90 (.cons (.t rfl) .nil) rfl rfl (fun v25=>?_))))
                refine hdn (al1 10 rfl ((app (E:=(ovE eT)) Tryz.underlying65 mj zb90 zs90 (.t rfl) (.t rfl) (fun v26=>?_) (hby:=⟨by (show _ ≤ 9223372036854775807); first | omega | (simp; done) | (simp; omega),by first | omega | (simp; done) | (simp; omega)⟩))))
                refine hdn (tk 11 rfl (Ev.nilCheck (.t rfl)) ?_)
                refine tk 12 rfl (fA 9 (.t rfl)) ?_
                refine al1 13 rfl ((stv m7 aE.dh (.t rfl) (.t rfl) ?_))
                refine hdn (ovr (pN (mtP (X:=OV) (_) trivial)))
              · refine (aZ en15 (.cons (.t rfl) (.cons (.t rfl) (.cons (.c (v:=I 0) rfl) .nil))) (fun w I=>jW b3 _ xt.1.ptr _ _ w (cT (E':=bV) zm (ak.id _) w I) rfl) ?_)
                refine hdn (all [4,9] zk (by decide) (.cons rfl ?_ (.cons rfl ?_ .nil)))
                · refine (opv (Ev.to (v':=dv.v) (Ev.ldv m7 (.t rfl) aE.dh) (rfl)) ?_)
                  refine hdn (al1 9 rfl ((buildSlice (E:=(ovE eT)) Tryz.underlying65 mj z90 (.cons (.t rfl) .nil) rfl rfl (fun v27=>?_))))
                  refine hdn (al1 10 rfl ((app (E:=(ovE eT)) Tryz.underlying65 mj zb90 zs90 (.t rfl) (.t rfl) (fun v28=>?_) (hby:=⟨by (show _ ≤ 9223372036854775807); first | omega | (simp; done) | (simp; omega),by first | omega | (simp; done) | (simp; omega)⟩))))
                  refine hdn (tk 11 rfl (Ev.nilCheck (.t rfl)) ?_)
                  refine tk 12 rfl (fA 9 (.t rfl)) ?_
                  refine al1 13 rfl ((stv m7 aE.dh (.t rfl) (.t rfl) ?_))
                  refine hdn (ovr (pN (mtP (X:=OV) (_) trivial)))
                · refine (buildSlice (E:=(ovE eT)) Tryz.underlying65 mj z90 (.cons (.t rfl) .nil) rfl rfl (fun v29=>?_))
                  refine hdn (al1 4 rfl ((opv (Ev.to (v':=dv.v) (Ev.ldv m7 (.t rfl) aE.dh) (rfl)) ?_)))
                  refine hdn (al1 10 rfl ((app (E:=(ovE eT)) Tryz.underlying65 mj zb90 zs90 (.t rfl) (.t rfl) (fun v30=>?_) (hby:=⟨by (show _ ≤ 9223372036854775807); first | omega | (simp; done) | (simp; omega),by first | omega | (simp; done) | (simp; omega)⟩))))
                  refine hdn (tk 11 rfl (Ev.nilCheck (.t rfl)) ?_)
                  refine tk 12 rfl (fA 9 (.t rfl)) ?_
                  refine al1 13 rfl ((stv m7 aE.dh (.t rfl) (.t rfl) ?_))
                  refine hdn (ovr (pN (mtP (X:=OV) (_) trivial)))
            obtain ⟨dfin,rfl⟩:∃ y,y = x:=⟨x,rfl⟩
            show Sat _ _ [dz,(1,true,.pointer (some ⟨b1,0,none⟩)),(4,true,.pointer (some ⟨b3,0,none⟩)),(15,true,q.v)] [aP dfin.v (ovE eT) (decL xt.1.ptr l c.default) 90,aP vv.v aW ((List.range l.us.length).map (vdV l)) 37,aP q.v ay (mtL l) 86,dn b5 sE iE (fG eqs (fun r:aD=>r.name) (fun k:Nat=>(k:Int)) l.xs l.xs.length),dn b4 sE iE (fG eqs (fun r:aJ=>r.name) (fun k:Nat=>(k:Int)) l.ms l.ms.length),eK (eK Emp (x0.R l)) xt.2,Var b3 bV (⟨x0.c c.default,ie b2,xt.1.ptr,aR,dfin,vv⟩:aE) 67,dn b2 iE bE (fS l),Var b1 aK c 28]
            refine sg (mv rfl (mv rfl (co (Ev.nilCheck (.t rfl)) ?_)))
            refine co (fA 10 (.t rfl)) ?_
            refine co (Ev.to (v':=vv.v) (Ev.ldv j5 (.t rfl) aE.dy) (rfl)) ?_
            refine co (Ev.aQ (fs:=_) (places:=[(0,1),(1,1),(2,1),(3,1),(4,1)]) z37 rfl Tryz.underlying37 zk (.cons (.c (v:=I (-1)) rfl) (.cons (.c (v:=I (-1)) rfl) (.cons (.c (v:=I (-1)) rfl) .nil))) (aj.cons aF.iU rfl (aj.cons aF.eL rfl (aj.cons aF.dI rfl aj.nil)))) ?_
            refine cons (buildSlice (E:=aW) Tryz.underlying35 eY z37 (.cons (.t rfl) .nil) rfl rfl (fun v31=>?_))
            refine cons (app (E:=aW) Tryz.underlying35 eY zb37 zs37 (.t rfl) (.t rfl) (fun v32=>?_) (hby:=⟨by (show _ ≤ 9223372036854775807); first | omega | (simp; done) | (simp; omega),by first | omega | (simp; done) | (simp; omega)⟩))
            refine co (Ev.nilCheck (.t rfl)) ?_
            refine co (fA 10 (.t rfl)) ?_
            refine cons (stv j5 aE.dy (.t rfl) (.t rfl) ?_)
            refine nP (seq (sg (mv rfl (mv rfl (cons (fQ (X:=Nat × List Res) (CompJ (mtL l)) (compV (mtL l)) (fun x=>x.2) en16 (.cons (.t rfl) .nil) (fun w I=>compile_ok _ (mtL l) w (io w I)) (fun xr hxr=>?_)))))))
            refine mv rfl (co (Ev.to (v':=(ptrV xr.1).v) (Ev.extract (.t rfl) rfl) (congrArg Value.pointer (ptrO_ok xr.1 hcomp))) ?_)
            refine co (Ev.to (v':=I 0) (Ev.extract (.t rfl) rfl) (congrArg Gx.I hcomp)) ?_
            refine co (Ev.nilCheck (.t rfl)) ?_
            refine co (fA 8 (.t rfl)) ?_
            refine cons (stv ty64 aE.dG (.t rfl) (.t rfl) ?_)
            refine asn rfl (nP (seq (mn (r:=eK (eK Emp (x0.R l)) xt.2) zr ?_)))
            refine region (mv rfl (co (Ev.eX (.t rfl) (.c (v:=I 0) rfl)) ?_))
            refine nP (il rfl (rfl) ?_)
            refine skip (pN (sg (mv rfl (asn rfl (co (Ev.assign (.c (v:=I 0) rfl)) ?_)))))
            refine nP (ret (done rfl (.tmp rfl (.tmp rfl .nil)) (fun w I=>?_)))
            refine eW (⟨b3,x0,b2,xt.1,xr.1,dfin,v32⟩,[eK (eK (eK Emp (x0.R l)) xt.2) xr.2,Var b3 bV (⟨x0.c c.default,ie b2,xt.1.ptr,ptrV xr.1,dfin,v32⟩:aE) 67,dn b2 iE bE (fS l),aP dfin.v (ovE eT) (decL xt.1.ptr l c.default) 90,aP v32.v aW (vdL l) 37]) (fun _=>⟨⟨hmay,hok,hen⟩,fun w1 hw1=>?_⟩) ?_ (by repeat first | exact ah.nil | refine ah.cons zr ?_) w I
            · show _ = Value.tuple #[.pointer (plO l c.default _),Gx.I (plE l c.default)]
              unfold plO plE
              rw [hmay]
              rfl
            · obtain ⟨a1,a2⟩:=eK.A _ _ (hw1 _ List.mem_cons_self)
              obtain ⟨a3,a4⟩:=eK.A _ _ a1
              obtain ⟨_,a5⟩:=eK.A _ _ a3
              exact ⟨dw (hw1 _ (List.mem_cons_of_mem _ List.mem_cons_self)),⟨bH.fT (a5 (aP x0.o1.v iE l.ps 3) (by simp [CB.R])),bH.fT (a5 (aP x0.o2.v aA l.rs 111) (by simp [CB.R])),bH.fT (a5 (aP x0.o3.v aG l.us 88) (by simp [CB.R])),bH.fT (a5 (aP x0.o4.v ai l.ms 75) (by simp [CB.R])),bH.fT (a5 (aP x0.o5.v ae l.xs 77) (by simp [CB.R]))⟩,hw1 _ (List.mem_cons_of_mem _ (List.mem_cons_of_mem _ List.mem_cons_self)),htr w1 a4,hxr hcomp w1 a2,bH.fT (hw1 _ (List.mem_cons_of_mem _ (List.mem_cons_of_mem _ (List.mem_cons_of_mem _ List.mem_cons_self)))),bH.fT (hw1 _ (List.mem_cons_of_mem _ (List.mem_cons_of_mem _ (List.mem_cons_of_mem _ (List.mem_cons_of_mem _ List.mem_cons_self)))))⟩
end Go.Proofs.YtjanhajdmhalaaaGreat
namespace Go.Proofs.YtjanhajdmhalaaaGreat
open Go Go.Gx Go.Proofs.YtjanhajdmhalaaaGreat.Tri
def deE (h:au) (c:Int):Int:=if bM h c = 2 then 2 else 0
def dvV (l:CL) (d n:Int) (h:au) (c:Int):aF:=if bM h c = 2 then aW.zero else decV l d n h
theorem nZ (l:CL):(vdL l).length = l.us.length + 1:=by simp [vdL]
theorem decL_len (r:OV) (l:CL) (d:Int):(decL r l d).length = l.us.length + 1:=by simp [decL]
theorem ruleI_lt {l:CL} {n:Int} {h:au} (hm:metI l n h < 0):gI l n h = l.us.length:=by
  unfold gI
  rw [if_pos hm]
theorem ruleI_ge {l:CL} {n:Int} {h:au} (hm:¬ metI l n h < 0):((gI l n h:Nat):Int) = metI l n h:=by
  unfold gI
  rw [if_neg hm]
  omega
theorem decL_at (r:OV) (l:CL) (d:Int) {k:Nat} (hk:k ≤ l.us.length) (z:OV):(decL r l d).getD k z = j7 r (nA l d k).1 (nA l d k).2:=by
  unfold decL nA
  by_cases e:k < l.us.length
  · rw [if_pos e]
    simp [List.getD,List.getElem?_append,e]
  · obtain rfl:k = l.us.length:=by omega
    rw [if_neg e]
    simp [List.getD,List.getElem?_append]
theorem decV_yes {l:CL} {d n:Int} {h:au} (hp:l.ps.any (fun x=>decide (n = x)) = true):decV l d n h = { (vdL l).getD (gI l n h) aW.zero with action:=(actO l.rs (nA l d (gI l n h)).1 (nA l d (gI l n h)).2 h.dst).1,out:=(actO l.rs (nA l d (gI l n h)).1 (nA l d (gI l n h)).2 h.dst).2 }:=by
  unfold decV
  rw [if_pos hp]
theorem decV_no {l:CL} {d n:Int} {h:au} (hp:l.ps.any (fun x=>decide (n = x)) = false):decV l d n h = dropV:=by
  unfold decV
  rw [if_neg (by rw [hp]; exact Bool.false_ne_true)]
theorem en17:Gx.aC Tryz.prog 17:=Gx.aC.mk' zk
theorem en18:Gx.aC Tryz.prog 18:=Gx.aC.mk' zk
theorem z4:(Tryz.prog.info? 4).bind (·.zero) = some (bE.val bE.zero):=by kernel_rfl
theorem en19:Gx.aC Tryz.prog 19:=Gx.aC.mk' zk
set_option maxRecDepth 8000 in
theorem k8 (p:Pl) (l:CL) (d n:Int) (h:au) (dt:List UInt8) (w:World) (hp:jZ w p l d) (ho:nB p l d) (hd:bH u8E w h.data.v dt) (hl:dt.length ≤ 1152921504606846975):Gx.Calls Tryz.prog 6 #[.pointer (some ⟨p.b,0,none⟩),I n,bS.val h] w (cD w (.tuple #[aW.val (dvV l d n h dt.length),I (deE h dt.length)])):=by
  have hlens:=oW ho.may
  refine en0 62 Tryz.func6 (fun _ _=>?_)
  refine sg (cons (box (E:=bS) (.t rfl) (fun b1=>?_)))
  refine cons (alloc z37 (fun b2=>?_))
  refine co (Ev.assign (.c (v:=I 0) rfl)) ?_
  refine nP (seq (sg (mv rfl (cons (aZ en17 (.cons (.t rfl) .nil) (fun w I=>pthere_ok p.b (p.val d) p.pm w (hp.pt.cB I.keeps) rfl) ?_)))))
  refine co (Ev.not (.t rfl)) ?_
  refine nP (il rfl (rfl) ?_)
  refine skip (pN (seq (sg (co (Ev.ldx h iC (.t rfl) (ak.id _)) ?_))))
  refine cons (aZ en18 (.cons (.t rfl) .nil) (fun w I=>pcheck_ok h dt w (hd.aT I.keeps) hl) ?_)
  refine co (Ev.fD (.t rfl) (.c (v:=I 2) rfl)) ?_
  refine nP ?_
  first | refine aL rfl (fun h1=>?_) (fun h1=>?_) | refine cond rfl (fun h1=>?_) (fun h1=>?_)
  · refine sg (co (Ev.aQ (fs:=_) (places:=[(0,1),(1,1),(2,1),(3,1),(4,1)]) z37 rfl Tryz.underlying37 zk .nil aj.nil) ?_)
    refine cons (stv eY (ak.id _) (.t rfl) (.t rfl) ?_)
    refine co (Ev.assign (.c (v:=I 2) rfl)) ?_
    refine nP (ret (pR (done rfl (.cellP rfl eY (cT zm (ak.id _)) (.tmp rfl .nil)) (bc ?_))))
    have e1:deE h dt.length = 2:=by unfold deE; rw [if_pos h1]
    have e2:dvV l d n h dt.length = aW.zero:=by unfold dvV; rw [if_pos h1]
    rw [e1,e2]; rfl
  · refine skip (pN (seq (sg (mv rfl (co (Ev.nilCheck (.t rfl)) ?_)))))
    refine co (fA 6 (.t rfl)) ?_
    refine co (Ev.to (v':=.map (some p.pm)) (Ev.load ty62 (.t rfl) (cU (fun w I=>(hp).pt.cB I.keeps) aE.dc)) (rfl)) ?_
    refine mv rfl (co (Ev.lookupFV (V:=bE) Tryz.underlying62 Tryz.underlying3 key3 z4 (.t rfl) (.t rfl) (fun _=>(fun w I=>hp.pm.aT I.keeps))) ?_)
    refine co (Ev.not (.t rfl)) ?_
    refine nP ?_
    first | refine aL rfl (fun h2=>?_) (fun h2=>?_) | refine cond rfl (fun h2=>?_) (fun h2=>?_)
    · have hps:l.ps.any (fun x=>decide (n = x)) = false:=by
        rw [← oO]
        have h9:(!(Gx.cM eqd n (fS l)).getD false) = true:=h2
        simpa using h9
      refine sg (co (Ev.aQ (fs:=_) (places:=[(0,1),(1,1),(2,1),(3,1),(4,1)]) z37 rfl Tryz.underlying37 zk (.cons (.c (v:=I 2) rfl) (.cons (.c (v:=I (-1)) rfl) (.cons (.c (v:=I (-1)) rfl) (.cons (.c (v:=I (-1)) rfl) (.cons (.c (v:=I (-1)) rfl) .nil))))) (aj.cons aF.bZ rfl (aj.cons aF.dj rfl (aj.cons aF.iU rfl (aj.cons aF.eL rfl (aj.cons aF.dI rfl aj.nil)))))) ?_)
      refine cons (stv eY (ak.id _) (.t rfl) (.t rfl) ?_)
      refine co (Ev.assign (.c (v:=I 0) rfl)) ?_
      refine nP (ret (pR (done rfl (.cellP rfl eY (cT zm (ak.id _)) (.tmp rfl .nil)) (bc ?_))))
      have e1:deE h dt.length = 0:=by unfold deE; rw [if_neg h1]
      have e2:dvV l d n h dt.length = decV l d n h:=by unfold dvV; rw [if_neg h1]
      rw [e1,e2,decV_no hps]; rfl
    · have hps:l.ps.any (fun x=>decide (n = x)) = true:=by
        rw [← oO]
        have h9:(!(Gx.cM eqd n (fS l)).getD false) = false:=h2
        simpa using h9
      refine skip (pN (seq (df zk ?_)))
      refine tk 0 rfl (Ev.move (.t rfl)) ?_
      refine tk 1 rfl (Ev.nilCheck (.t rfl)) ?_
      refine tk 2 rfl (fA 8 (.t rfl)) ?_
      refine tk 3 rfl (Ev.to (v':=.pointer (some ⟨p.rb,0,none⟩)) (Ev.load ty64 (.t rfl) (cU (fun w I=>(hp).pt.cB I.keeps) aE.dG)) (rfl)) ?_
      refine tk 4 rfl (Ev.move (.t rfl)) ?_
      refine tk 5 rfl (Ev.ldx h iC (.t rfl) (ak.id _)) ?_
      refine al1 6 rfl ((aZ en19 (.cons (.t rfl) (.cons (.t rfl) (.cons (.t rfl) .nil))) (fun w I=>first_ok p.rb (mtL l) n h w (hp.ru.cB I.keeps)) ?_))
      refine hdn (tk 7 rfl (Ev.to (v':=I (metI l n h)) (Ev.assign (.t rfl)) (rfl)) ?_)
      refine ovr (pN (cut (X:=Int) (fun x:Int=>(x = ((gI l n h:Nat):Int))) (fun x:Int=>[dz,(0,true,.pointer (some ⟨p.b,0,none⟩)),(5,true,.pointer (some ⟨b1,0,none⟩)),(6,true,.pointer (some ⟨b2,0,none⟩)),(7,true,I 0),(8,true,I x)]) (fun x:Int=>[Var b2 aW aW.zero 37,Var b1 bS h 47]) ?_ (fun x hx=>?_)))
      · refine sg (mv rfl (co (Ev.dx (.t rfl) (.c (v:=I 0) rfl)) ?_))
        refine nP ?_
        first | refine aL rfl (fun h3=>?_) (fun h3=>?_) | refine cond rfl (fun h3=>?_) (fun h3=>?_)
        · try simp only [Gx.nb] at h3
          refine region (mv rfl (co (Ev.nilCheck (.t rfl)) ?_))
          refine co (fA 10 (.t rfl)) ?_
          refine co (Ev.to (v':=p.vv.v) (Ev.load j5 (.t rfl) (cU (fun w I=>(hp).pt.cB I.keeps) aE.dy)) (rfl)) ?_
          refine co (Ev.len Tryz.underlying35 (.t rfl) (fun w I=>hp.vs.aT I.keeps)) ?_
          refine co (Ev.lx (.t rfl) (.c (v:=I 1) rfl) (fun _=>by rw [nZ]; omega)) ?_
          refine asn rfl (nP (mt (X:=Int) (_) ?_))
          · try dsimp only
            first | (rw [ruleI_lt h3,nZ]; omega) | exact (ruleI_ge h3).symm
        · try simp only [Gx.nb] at h3
          refine skip (pN (mt (X:=Int) (_) ?_))
          · try dsimp only
            first | (rw [ruleI_lt h3,nZ]; omega) | exact (ruleI_ge h3).symm
      obtain ⟨k,rfl⟩:∃ y,y = x:=⟨x,rfl⟩
      have hk:k = ((gI l n h:Nat):Int):=hx
      clear hx
      show Sat _ _ [dz,(0,true,.pointer (some ⟨p.b,0,none⟩)),(5,true,.pointer (some ⟨b1,0,none⟩)),(6,true,.pointer (some ⟨b2,0,none⟩)),(7,true,I 0),(8,true,I k)] [Var b2 aW aW.zero 37,Var b1 bS h 47]
      obtain ⟨r,hr⟩:∃ r,gI l n h = r:=⟨_,rfl⟩
      have hrl:r ≤ l.us.length:=by rw [← hr]; exact ruleI_le l n h
      have er:((r:Nat):Int).toNat = r:=by omega
      have hvl:=nZ l
      have hdl:=decL_len p.tr.ptr l d
      rw [hr] at hk
      subst hk
      refine sg (mv rfl (co (Ev.nilCheck (.t rfl)) ?_))
      refine co (fA 10 (.t rfl)) ?_
      refine co (Ev.to (v':=p.vv.v) (Ev.load j5 (.t rfl) (cU (fun w I=>(hp).pt.cB I.keeps) aE.dy)) (rfl)) ?_
      refine mv rfl (co (Ev.indexAddr Tryz.underlying35 eY (.t rfl) (.t rfl) (fun w I=>hp.vs.aT I.keeps) (fun _=>zo)) ?_)
      refine co (Ev.to (v':=aW.val ((vdL l).getD r aW.zero)) (Ev.dp eY (.t rfl) (fun w I=>hp.vs.aT I.keeps) (fun _=>by omega)) (by rw [er])) ?_
      refine cons (alloc z37 (fun b3=>?_))
      refine cons (stv eY (ak.id _) (.t rfl) (.t rfl) ?_)
      refine nP (sg (mv rfl (co (Ev.nilCheck (.t rfl)) ?_)))
      refine co (fA 9 (.t rfl)) ?_
      refine co (Ev.to (v':=p.dv.v) (Ev.load m7 (.t rfl) (cU (fun w I=>(hp).pt.cB I.keeps) aE.dh)) (rfl)) ?_
      refine mv rfl (co (Ev.indexAddr Tryz.underlying65 mj (.t rfl) (.t rfl) (fun w I=>hp.ds.aT I.keeps) (fun _=>zo)) ?_)
      refine co (Ev.to (v':=(j7 p.tr.ptr (nA l d r).1 (nA l d r).2).v) (Ev.dp mj (.t rfl) (fun w I=>hp.ds.aT I.keeps) (fun _=>by omega)) (congrArg OV.v (by rw [er]; exact decL_at p.tr.ptr l d hrl _))) ?_
      refine cons (callIf (.t rfl) (.cons (.t rfl) .nil) (fun w I=>decide_if p.tr l _ _ b1 h w (cT (E':=bS) zm (ak.id _) w I) (hp.tr.cB I.keeps) ho.ok (ho.route h.dst)) ?_)
      refine mv rfl (co (Ev.extract (.t rfl) rfl) (co (Ev.extract (.t rfl) rfl) (co (fA 0 (.t rfl)) ?_)))
      refine cons (stv ty3 aF.bZ (.t rfl) (.t rfl) ?_)
      refine co (fA 1 (.t rfl)) ?_
      refine cons (stv ty3 aF.dj (.t rfl) (.t rfl) ?_)
      refine nP (sg (co (Ev.ldv eY (.t rfl) (ak.id _)) ?_))
      refine cons (stv eY (ak.id _) (.t rfl) (.t rfl) ?_)
      refine co (Ev.assign (.c (v:=I 0) rfl)) ?_
      refine nP (ret (done rfl (.cellP rfl eY (cT zm (ak.id _)) (.tmp rfl .nil)) (bc ?_)))
      have e1:deE h dt.length = 0:=by unfold deE; rw [if_neg h1]
      have e2:dvV l d n h dt.length = decV l d n h:=by unfold dvV; rw [if_neg h1]
      rw [e1,e2,decV_yes hps,hr]; rfl
end Go.Proofs.YtjanhajdmhalaaaGreat
namespace Go.Proofs.YtjanhajdmhalaaaGreat
open Go Go.Gx Go.Proofs.YtjanhajdmhalaaaGreat.Tri
theorem dag {K:Ctx} {F:Fr} {L Lq:List Res} {Q:Exit→Act→World→Prop} {P:Program} {ops:Array Oper} {fuel:Nat} {listed:Array Bool} (h:∀ H:Nat→Array Bool→Act→World→Prop,H = (fun fu li=>fe P K ops Q Lq fu li)→Sat K (H fuel listed) F L):Sat K (fe P K ops Q Lq fuel listed) F L:=h _ rfl
theorem unH {K:Ctx} {F:Fr} {L Lq:List Res} {Q:Exit→Act→World→Prop} {P:Program} {ops:Array Oper} {fuel:Nat} {listed:Array Bool} {H:Nat→Array Bool→Act→World→Prop} (hH:H = (fun fu li=>fe P K ops Q Lq fu li)) (h:Sat K (fe P K ops Q Lq fuel listed) F L):Sat K (H fuel listed) F L:=by
  subst hH
  exact h
theorem goD {K:Ctx} {F F':Fr} {L L' Lq:List Res} {Q:Exit→Act→World→Prop} {P:Program} {ops:Array Oper} {fuel:Nat} {listed listed':Array Bool} {H:Nat→Array Bool→Act→World→Prop} (hH:H = (fun fu li=>fe P K ops Q Lq fu li)) (e:listed = listed') (hF:Sub F F') (hL:ah L' L) (h:Sat K (H fuel listed') F' L'):Sat K (fe P K ops Q Lq fuel listed) F L:=by
  subst e
  subst hH
  exact arr hL (Sat.sub hF (List.Sublist.refl _) h)
theorem goE {K:Ctx} {F F':Fr} {L L' Lq:List Res} {Q:Exit→Act→World→Prop} {P:Program} {ops:Array Oper} {fuel:Nat} {listed listed':Array Bool} {H:Nat→Array Bool→Act→World→Prop} (hH:H = (fun fu li=>fe P K ops Q Lq fu li)) (hL:ah L' L) (h:Sat K (H fuel listed') F' L') (e:listed = listed':=by kernel_rfl) (hF:Sub F F':=by repeat first | exact Sub.nil | refine Sub.cons rfl ?_):Sat K (fe P K ops Q Lq fuel listed) F L:=goD hH e hF hL h
def fourP (a b:UInt8) (n:Int):aq:=⟨⟨false,((Vector.replicate 16 (0:UInt8)).set 0 a).set 1 b⟩,n⟩
def cc:aB:={ ay.zero with asks:=40,bj:=6,bm:=⟨80,80⟩ }
def dD:aU:=⟨fourP 10 0 8,2⟩
def eh:aU:=⟨fourP 10 1 16,3⟩
def exN2:aB:={ ay.zero with asks:=2,src:=fourP 10 9 16 }
def exN3:aB:={ ay.zero with asks:=1,in_:=⟨2,2⟩ }
def c7:aO:={ aG.zero with name:=⟨#[119,101,98]⟩,cX:=cc,action:=3,out:=3,fx:=⟨#[115,108,111,119]⟩ }
def fO:aO:={ aG.zero with name:=⟨#[110,111]⟩,cX:=exN2,action:=4 }
def cZ:aO:={ aG.zero with name:=⟨#[108,111,111,107]⟩,cX:=exN3,action:=1,dZ:=⟨#[116,97,112]⟩ }
def c8:aJ:=⟨⟨#[115,108,111,119]⟩,⟨1,1,1⟩⟩
def cY:aD:=⟨⟨#[116,97,112]⟩,1,2⟩
def exL:CL:=⟨[1,2,3],[dD,eh],[c7,fO,cZ],[c8],[cY]⟩
def pktH (pr src:UInt8) (to:Vector UInt8 4) (port:UInt16):au:={ bS.zero with bj:=pr,bm:=port,src:=⟨false,((((Vector.replicate 16 (0:UInt8)).set 0 10).set 1 src).set 2 1).set 3 1⟩,dst:=⟨false,((((Vector.replicate 16 (0:UInt8)).set 0 to[0]).set 1 to[1]).set 2 to[2]).set 3 to[3]⟩ }
theorem exL_may:kE exL 1 = true:=by decide +kernel
theorem names_of {l:CL} (h:l.us.all (fun x=>decide (x.name.size ≤ 16)) && l.ms.all (fun x=>decide (x.name.size ≤ 16)) && l.xs.all (fun x=>decide (x.name.size ≤ 16)) = true):l.Names:=by
  simp only [Bool.and_eq_true,List.all_eq_true,decide_eq_true_iff] at h
  exact ⟨fun x hx=>by have:=h.1.1 x hx; omega,fun x hx=>by have:=h.1.2 x hx; omega,fun x hx=>by have:=h.2 x hx; omega⟩
theorem exL_names:exL.Names:=names_of (by decide +kernel)
theorem exL_n:exL.n ≤ 4611686018427387904:=by decide +kernel
theorem z40:(Tryz.prog.info? 40).bind (·.zero) = some ((dS 16 u8E).val (dS 16 u8E).zero):=by kernel_rfl
theorem cL (a b:UInt8) (n:Int) (w:World):Gx.Calls Tryz.prog 25 #[U8 a,U8 b,I n] w (cD w (aH.val (fourP a b n))):=by
  refine en0 13 Tryz.func25 (fun _ _=>?_)
  refine sg (cons (alloc z84 (fun b1=>?_)))
  refine nP (sg (mv rfl (mv rfl (co (Ev.nw z40 Tryz.underlying40 ty5 (.cons (.t rfl) (.cons (.t rfl) .nil)) (aj.cons (dR u8E 0 (by decide)) rfl (aj.cons (dR u8E 1 (by decide)) rfl aj.nil))) ?_))))
  refine co (Ev.aQ (fs:=_) (places:=[(0,1),(1,16)]) z42 rfl Tryz.underlying42 zk (.cons (.t rfl) .nil) (aj.cons a7.l_b rfl aj.nil)) ?_
  refine mv rfl (co (Ev.aQ (fs:=_) (places:=[(0,17),(17,1)]) z84 rfl Tryz.underlying84 zk (.cons (.t rfl) (.cons (.t rfl) .nil)) (aj.cons aq.dE rfl (aj.cons aq.ea rfl aj.nil))) ?_)
  refine cons (stv cW (ak.id _) (.t rfl) (.t rfl) ?_)
  refine nP (ret (done rfl (.cellP rfl cW (cT zm (ak.id _)) .nil) (bc ?_)))
  rfl
theorem z47:(Tryz.prog.info? 47).bind (·.zero) = some (bS.val bS.zero):=by kernel_rfl
theorem nh (pr src:UInt8) (to:Vector UInt8 4) (port:UInt16) (w:World):Gx.Calls Tryz.prog 10 #[U8 pr,U8 src,(dS 4 u8E).val to,U16 port] w (cD w (bS.val (pktH pr src to port))):=by
  refine en0 29 Tryz.func10 (fun _ _=>?_)
  refine sg (cons (box (E:=(dS 4 u8E)) (.t rfl) (fun b1=>?_)))
  refine cons (alloc z47 (fun b2=>?_))
  refine nP (sg (mv rfl (mv rfl (co (Ev.aQ (fs:=_) (places:=[(0,17),(17,17),(34,1),(35,1),(36,1),(37,1),(38,1),(39,1),(40,1),(41,1),(42,1)]) z47 rfl Tryz.underlying47 zk (.cons (.t rfl) (.cons (.t rfl) .nil)) (aj.cons au.dH rfl (aj.cons au.cS rfl aj.nil))) ?_))))
  refine cons (alloc z47 (fun b3=>?_))
  refine cons (stv iC (ak.id _) (.t rfl) (.t rfl) ?_)
  refine nP (sg (mv rfl (co (Ev.nw z40 Tryz.underlying40 ty5 (.cons (.c (v:=U8 10) rfl) (.cons (.t rfl) (.cons (.c (v:=U8 1) rfl) (.cons (.c (v:=U8 1) rfl) .nil)))) (aj.cons (dR u8E 0 (by decide)) rfl (aj.cons (dR u8E 1 (by decide)) rfl (aj.cons (dR u8E 2 (by decide)) rfl (aj.cons (dR u8E 3 (by decide)) rfl aj.nil))))) ?_)))
  refine co (fA 0 (.t rfl)) ?_
  refine co (fA 1 (.t rfl)) ?_
  refine cons (stv ty40 (ak.comp au.ee a7.l_b) (.t rfl) (.t rfl) ?_)
  refine nP (sg (co (Ev.jk Tryz.underlying59 ty5 (.t rfl) (.c (v:=I 0) rfl) (fun _=>zo)) ?_))
  refine co (Ev.ldv ty5 (.t rfl) (dR (n:=4) u8E _ (by omega))) ?_
  refine co (Ev.jk Tryz.underlying59 ty5 (.t rfl) (.c (v:=I 1) rfl) (fun _=>zo)) ?_
  refine co (Ev.ldv ty5 (.t rfl) (dR (n:=4) u8E _ (by omega))) ?_
  refine co (Ev.jk Tryz.underlying59 ty5 (.t rfl) (.c (v:=I 2) rfl) (fun _=>zo)) ?_
  refine co (Ev.ldv ty5 (.t rfl) (dR (n:=4) u8E _ (by omega))) ?_
  refine co (Ev.jk Tryz.underlying59 ty5 (.t rfl) (.c (v:=I 3) rfl) (fun _=>zo)) ?_
  refine co (Ev.ldv ty5 (.t rfl) (dR (n:=4) u8E _ (by omega))) ?_
  refine co (Ev.nw z40 Tryz.underlying40 ty5 (.cons (.t rfl) (.cons (.t rfl) (.cons (.t rfl) (.cons (.t rfl) .nil)))) (aj.cons (dR u8E 0 (by decide)) rfl (aj.cons (dR u8E 1 (by decide)) rfl (aj.cons (dR u8E 2 (by decide)) rfl (aj.cons (dR u8E 3 (by decide)) rfl aj.nil))))) ?_
  refine co (fA 17 (.t rfl)) ?_
  refine co (fA 1 (.t rfl)) ?_
  refine cons (stv ty40 (ak.comp au.iA a7.l_b) (.t rfl) (.t rfl) ?_)
  refine nP (sg (co (Ev.ldv iC (.t rfl) (ak.id _)) ?_))
  refine cons (stv iC (ak.id _) (.t rfl) (.t rfl) ?_)
  refine nP (ret (done rfl (.cellP rfl iC (cT zm (ak.id _)) .nil) (bc ?_)))
  rfl
theorem gg:Gx.aC Tryz.prog 25:=Gx.aC.mk' zk
theorem z73:(Tryz.prog.info? 73).bind (·.zero) = some (fE.val fE.zero):=by kernel_rfl
set_option maxHeartbeats 4000000 in
theorem example_ok (w:World):Gx.Calls Tryz.prog 9 #[] w (ja w (fun _:CB=>True) (fun x=>aK.val (x.c 1)) (fun x=>x.R exL)):=by
  refine en0 25 Tryz.func9 (fun X fr=>?_)
  refine sg (cons (alloc z28 (fun b1=>?_)))
  refine nP (sg (co (Ev.aQ (fs:=_) (places:=[(0,1),(1,1)]) z82 rfl Tryz.underlying82 zk (.cons (.c (v:=U16 80) rfl) (.cons (.c (v:=U16 80) rfl) .nil)) (aj.cons bK.iG rfl (aj.cons bK.dW rfl aj.nil))) ?_))
  refine co (Ev.aQ (fs:=_) (places:=[(0,1),(1,2),(3,18),(21,18),(39,1),(40,2),(42,2)]) z86 rfl Tryz.underlying86 zk (.cons (.c (v:=U8 40) rfl) (.cons (.c (v:=U8 6) rfl) (.cons (.t rfl) .nil))) (aj.cons aB.eI rfl (aj.cons aB.dH rfl (aj.cons aB.cS rfl aj.nil)))) ?_
  refine cons (alloc z86 (fun b2=>?_))
  refine cons (stv gU (ak.id _) (.t rfl) (.t rfl) ?_)
  refine nP (seq (draw [Var b2 ay cc 86] zk ?_))
  refine dag (fun H hH=>?_)
  have st2_0:∀ (o0:OV) (o5:OV) (o14:OV) (o17:OV) (o19:OV),Sat (⟨25,w,bO,⟨X,fr,none⟩⟩:Ctx) (H 0 #[true,true,true,true,true,true,true,true,true,true,true,true,true,true,true,true,true,true,true,true,true,true]) [dz,(0,true,.pointer (some ⟨b1,0,none⟩)),(1,true,.pointer (some ⟨b2,0,none⟩))] [aP o0.v iE [1,2,3] 3,aP o5.v aA [dD,eh] 111,aP o14.v aG [c7,fO,cZ] 88,aP o17.v ai [c8] 75,aP o19.v ae [cY] 77,Var b2 ay cc 86,Var b1 aK (⟨o0,o5,o14,o17,o19,1⟩:aV) 28]:=by
    intro o0 o5 o14 o17 o19
    refine unH hH ?_
    refine ovr (pN (ret (done rfl (.cellP rfl ty28 (cT zm (ak.id _)) .nil) (fun w I=>?_))))
    exact eW (⟨o0,o5,o14,o17,o19⟩:CB) trivial rfl (by repeat first | exact ah.nil | refine ah.cons zr ?_) w I
  have st2_1:∀ (o0:OV) (o5:OV) (o14:OV) (o17:OV) (o19:OV),Sat (⟨25,w,bO,⟨X,fr,none⟩⟩:Ctx) (H 1 #[true,true,true,true,true,true,true,true,true,true,true,true,true,true,true,true,true,true,true,true,true,false]) [dz,(0,true,.pointer (some ⟨b1,0,none⟩)),(1,true,.pointer (some ⟨b2,0,none⟩)),(24,true,aK.val ⟨o0,o5,o14,o17,o19,1⟩)] [aP o0.v iE [1,2,3] 3,aP o5.v aA [dD,eh] 111,aP o14.v aG [c7,fO,cZ] 88,aP o17.v ai [c8] 75,aP o19.v ae [cY] 77,Var b2 ay cc 86,Var b1 aK aK.zero 28]:=by
    intro o0 o5 o14 o17 o19
    refine unH hH ?_
    refine al1 21 rfl ((stv ty28 (ak.id _) (.t rfl) (.t rfl) ?_))
    refine hdn ?_
    exact goE hH (by repeat first | exact ah.nil | refine ah.cons zr ?_) (st2_0 o0 o5 o14 o17 o19)
  have st2_2:∀ (o0:OV) (o5:OV) (o14:OV) (o17:OV),Sat (⟨25,w,bO,⟨X,fr,none⟩⟩:Ctx) (H 3 #[true,true,true,true,true,true,true,true,true,true,true,true,true,true,true,true,true,true,true,false,false,false]) [dz,(0,true,.pointer (some ⟨b1,0,none⟩)),(1,true,.pointer (some ⟨b2,0,none⟩)),(4,true,o0.v),(9,true,o5.v),(18,true,o14.v),(21,true,o17.v),(22,true,ae.val cY)] [aP o0.v iE [1,2,3] 3,aP o5.v aA [dD,eh] 111,aP o14.v aG [c7,fO,cZ] 88,aP o17.v ai [c8] 75,Var b2 ay cc 86,Var b1 aK aK.zero 28]:=by
    intro o0 o5 o14 o17
    refine unH hH ?_
    refine al1 19 rfl ((buildSlice (E:=ae) Tryz.underlying26 eG z77 (.cons (.t rfl) .nil) rfl rfl (fun v3=>?_)))
    refine hdn (tk 20 rfl (Ev.aQ (fs:=_) (places:=[(0,1),(1,1),(2,1),(3,1),(4,1),(5,1)]) z28 rfl Tryz.underlying28 zk (.cons (.t rfl) (.cons (.t rfl) (.cons (.t rfl) (.cons (.t rfl) (.cons (.t rfl) (.cons (.c (v:=I 1) rfl) .nil)))))) (aj.cons aV.dc rfl (aj.cons aV.cH rfl (aj.cons aV.dG rfl (aj.cons aV.dJ rfl (aj.cons aV.db rfl (aj.cons aV.eF rfl aj.nil))))))) ?_)
    exact goE hH (ah.cons (Rem.tail Rem.head) (ah.cons (Rem.tail Rem.head) (ah.cons (Rem.tail Rem.head) (ah.cons (Rem.tail Rem.head) (ah.cons Rem.head (ah.of sR)))))) (st2_1 o0 o5 o14 o17 v3)
  have st2_3:∀ (o0:OV) (o5:OV) (o14:OV) (o19:OV),Sat (⟨25,w,bO,⟨X,fr,none⟩⟩:Ctx) (H 3 #[true,true,true,true,true,true,true,true,true,true,true,true,true,true,true,true,true,false,true,true,false,false]) [dz,(0,true,.pointer (some ⟨b1,0,none⟩)),(1,true,.pointer (some ⟨b2,0,none⟩)),(4,true,o0.v),(9,true,o5.v),(18,true,o14.v),(20,true,ai.val c8),(23,true,o19.v)] [aP o0.v iE [1,2,3] 3,aP o5.v aA [dD,eh] 111,aP o14.v aG [c7,fO,cZ] 88,aP o19.v ae [cY] 77,Var b2 ay cc 86,Var b1 aK aK.zero 28]:=by
    intro o0 o5 o14 o19
    refine unH hH ?_
    refine al1 17 rfl ((buildSlice (E:=ai) Tryz.underlying25 eH z75 (.cons (.t rfl) .nil) rfl rfl (fun v4=>?_)))
    refine hdn (tk 20 rfl (Ev.aQ (fs:=_) (places:=[(0,1),(1,1),(2,1),(3,1),(4,1),(5,1)]) z28 rfl Tryz.underlying28 zk (.cons (.t rfl) (.cons (.t rfl) (.cons (.t rfl) (.cons (.t rfl) (.cons (.t rfl) (.cons (.c (v:=I 1) rfl) .nil)))))) (aj.cons aV.dc rfl (aj.cons aV.cH rfl (aj.cons aV.dG rfl (aj.cons aV.dJ rfl (aj.cons aV.db rfl (aj.cons aV.eF rfl aj.nil))))))) ?_)
    exact goE hH (ah.cons (Rem.tail Rem.head) (ah.cons (Rem.tail Rem.head) (ah.cons (Rem.tail Rem.head) (ah.cons Rem.head (ah.cons Rem.head (ah.of sR)))))) (st2_1 o0 o5 o14 v4 o19)
  have st2_4:∀ (o0:OV) (o5:OV) (o17:OV) (o19:OV),Sat (⟨25,w,bO,⟨X,fr,none⟩⟩:Ctx) (H 3 #[true,true,true,true,true,true,true,true,true,true,true,true,true,true,false,true,true,true,true,true,false,false]) [dz,(0,true,.pointer (some ⟨b1,0,none⟩)),(1,true,.pointer (some ⟨b2,0,none⟩)),(4,true,o0.v),(9,true,o5.v),(11,true,aG.val c7),(14,true,aG.val fO),(17,true,aG.val cZ),(21,true,o17.v),(23,true,o19.v)] [aP o0.v iE [1,2,3] 3,aP o5.v aA [dD,eh] 111,aP o17.v ai [c8] 75,aP o19.v ae [cY] 77,Var b2 ay cc 86,Var b1 aK aK.zero 28]:=by
    intro o0 o5 o17 o19
    refine unH hH ?_
    refine al1 14 rfl ((buildSlice (E:=aG) Tryz.underlying24 gp z88 (.cons (.t rfl) (.cons (.t rfl) (.cons (.t rfl) .nil))) rfl rfl (fun v5=>?_)))
    refine hdn (tk 20 rfl (Ev.aQ (fs:=_) (places:=[(0,1),(1,1),(2,1),(3,1),(4,1),(5,1)]) z28 rfl Tryz.underlying28 zk (.cons (.t rfl) (.cons (.t rfl) (.cons (.t rfl) (.cons (.t rfl) (.cons (.t rfl) (.cons (.c (v:=I 1) rfl) .nil)))))) (aj.cons aV.dc rfl (aj.cons aV.cH rfl (aj.cons aV.dG rfl (aj.cons aV.dJ rfl (aj.cons aV.db rfl (aj.cons aV.eF rfl aj.nil))))))) ?_)
    exact goE hH (ah.cons (Rem.tail Rem.head) (ah.cons (Rem.tail Rem.head) (ah.cons Rem.head (ah.cons Rem.head (ah.cons Rem.head (ah.of sR)))))) (st2_1 o0 o5 v5 o17 o19)
  have st2_5:∀ (o0:OV) (o14:OV) (o17:OV) (o19:OV),Sat (⟨25,w,bO,⟨X,fr,none⟩⟩:Ctx) (H 3 #[true,true,true,true,true,false,true,true,true,true,true,true,true,true,true,true,true,true,true,true,false,false]) [dz,(0,true,.pointer (some ⟨b1,0,none⟩)),(1,true,.pointer (some ⟨b2,0,none⟩)),(4,true,o0.v),(6,true,aA.val dD),(8,true,aA.val eh),(18,true,o14.v),(21,true,o17.v),(23,true,o19.v)] [aP o0.v iE [1,2,3] 3,aP o14.v aG [c7,fO,cZ] 88,aP o17.v ai [c8] 75,aP o19.v ae [cY] 77,Var b2 ay cc 86,Var b1 aK aK.zero 28]:=by
    intro o0 o14 o17 o19
    refine unH hH ?_
    refine al1 5 rfl ((buildSlice (E:=aA) Tryz.underlying23 de eO (.cons (.t rfl) (.cons (.t rfl) .nil)) rfl rfl (fun v6=>?_)))
    refine hdn (tk 20 rfl (Ev.aQ (fs:=_) (places:=[(0,1),(1,1),(2,1),(3,1),(4,1),(5,1)]) z28 rfl Tryz.underlying28 zk (.cons (.t rfl) (.cons (.t rfl) (.cons (.t rfl) (.cons (.t rfl) (.cons (.t rfl) (.cons (.c (v:=I 1) rfl) .nil)))))) (aj.cons aV.dc rfl (aj.cons aV.cH rfl (aj.cons aV.dG rfl (aj.cons aV.dJ rfl (aj.cons aV.db rfl (aj.cons aV.eF rfl aj.nil))))))) ?_)
    exact goE hH (ah.cons (Rem.tail Rem.head) (ah.cons Rem.head (ah.cons Rem.head (ah.cons Rem.head (ah.cons Rem.head (ah.of sR)))))) (st2_1 o0 v6 o14 o17 o19)
  have st2_6:∀ (o5:OV) (o14:OV) (o17:OV) (o19:OV),Sat (⟨25,w,bO,⟨X,fr,none⟩⟩:Ctx) (H 3 #[false,true,true,true,true,true,true,true,true,true,true,true,true,true,true,true,true,true,true,true,false,false]) [dz,(0,true,.pointer (some ⟨b1,0,none⟩)),(1,true,.pointer (some ⟨b2,0,none⟩)),(9,true,o5.v),(18,true,o14.v),(21,true,o17.v),(23,true,o19.v)] [aP o5.v aA [dD,eh] 111,aP o14.v aG [c7,fO,cZ] 88,aP o17.v ai [c8] 75,aP o19.v ae [cY] 77,Var b2 ay cc 86,Var b1 aK aK.zero 28]:=by
    intro o5 o14 o17 o19
    refine unH hH ?_
    refine al1 0 rfl ((buildSlice (E:=iE) Tryz.underlying22 ty3 z3 (.cons (.c (v:=I 1) rfl) (.cons (.c (v:=I 2) rfl) (.cons (.c (v:=I 3) rfl) .nil))) rfl rfl (fun v7=>?_)))
    refine hdn (tk 20 rfl (Ev.aQ (fs:=_) (places:=[(0,1),(1,1),(2,1),(3,1),(4,1),(5,1)]) z28 rfl Tryz.underlying28 zk (.cons (.t rfl) (.cons (.t rfl) (.cons (.t rfl) (.cons (.t rfl) (.cons (.t rfl) (.cons (.c (v:=I 1) rfl) .nil)))))) (aj.cons aV.dc rfl (aj.cons aV.cH rfl (aj.cons aV.dG rfl (aj.cons aV.dJ rfl (aj.cons aV.db rfl (aj.cons aV.eF rfl aj.nil))))))) ?_)
    exact goE hH (ah.cons Rem.head (ah.cons Rem.head (ah.cons Rem.head (ah.cons Rem.head (ah.cons Rem.head (ah.of sR)))))) (st2_1 v7 o5 o14 o17 o19)
  have st2_7:∀ (o0:OV) (o5:OV) (o14:OV),Sat (⟨25,w,bO,⟨X,fr,none⟩⟩:Ctx) (H 4 #[true,true,true,true,true,true,true,true,true,true,true,true,true,true,true,true,true,false,true,false,false,false]) [dz,(0,true,.pointer (some ⟨b1,0,none⟩)),(1,true,.pointer (some ⟨b2,0,none⟩)),(4,true,o0.v),(9,true,o5.v),(18,true,o14.v),(20,true,ai.val c8),(22,true,ae.val cY)] [aP o0.v iE [1,2,3] 3,aP o5.v aA [dD,eh] 111,aP o14.v aG [c7,fO,cZ] 88,Var b2 ay cc 86,Var b1 aK aK.zero 28]:=by
    intro o0 o5 o14
    refine unH hH ?_
    refine all [17,19] zk (by decide) (.cons rfl ?_ (.cons rfl ?_ .nil))
    · refine (buildSlice (E:=ai) Tryz.underlying25 eH z75 (.cons (.t rfl) .nil) rfl rfl (fun v8=>?_))
      refine hdn ?_
      exact goE hH (ah.cons (Rem.tail Rem.head) (ah.cons (Rem.tail Rem.head) (ah.cons (Rem.tail Rem.head) (ah.cons Rem.head (ah.of sR))))) (st2_2 o0 o5 o14 v8)
    · refine (buildSlice (E:=ae) Tryz.underlying26 eG z77 (.cons (.t rfl) .nil) rfl rfl (fun v9=>?_))
      refine hdn ?_
      exact goE hH (ah.cons (Rem.tail Rem.head) (ah.cons (Rem.tail Rem.head) (ah.cons (Rem.tail Rem.head) (ah.cons Rem.head (ah.of sR))))) (st2_3 o0 o5 o14 v9)
  have st2_8:∀ (o0:OV) (o5:OV) (o17:OV),Sat (⟨25,w,bO,⟨X,fr,none⟩⟩:Ctx) (H 4 #[true,true,true,true,true,true,true,true,true,true,true,true,true,true,false,true,true,true,true,false,false,false]) [dz,(0,true,.pointer (some ⟨b1,0,none⟩)),(1,true,.pointer (some ⟨b2,0,none⟩)),(4,true,o0.v),(9,true,o5.v),(11,true,aG.val c7),(14,true,aG.val fO),(17,true,aG.val cZ),(21,true,o17.v),(22,true,ae.val cY)] [aP o0.v iE [1,2,3] 3,aP o5.v aA [dD,eh] 111,aP o17.v ai [c8] 75,Var b2 ay cc 86,Var b1 aK aK.zero 28]:=by
    intro o0 o5 o17
    refine unH hH ?_
    refine all [14,19] zk (by decide) (.cons rfl ?_ (.cons rfl ?_ .nil))
    · refine (buildSlice (E:=aG) Tryz.underlying24 gp z88 (.cons (.t rfl) (.cons (.t rfl) (.cons (.t rfl) .nil))) rfl rfl (fun v10=>?_))
      refine hdn ?_
      exact goE hH (ah.cons (Rem.tail Rem.head) (ah.cons (Rem.tail Rem.head) (ah.cons Rem.head (ah.cons Rem.head (ah.of sR))))) (st2_2 o0 o5 v10 o17)
    · refine (buildSlice (E:=ae) Tryz.underlying26 eG z77 (.cons (.t rfl) .nil) rfl rfl (fun v11=>?_))
      refine hdn ?_
      exact goE hH (ah.cons (Rem.tail Rem.head) (ah.cons (Rem.tail Rem.head) (ah.cons (Rem.tail Rem.head) (ah.cons Rem.head (ah.of sR))))) (st2_4 o0 o5 o17 v11)
  have st2_9:∀ (o0:OV) (o5:OV) (o19:OV),Sat (⟨25,w,bO,⟨X,fr,none⟩⟩:Ctx) (H 4 #[true,true,true,true,true,true,true,true,true,true,true,true,true,true,false,true,true,false,true,true,false,false]) [dz,(0,true,.pointer (some ⟨b1,0,none⟩)),(1,true,.pointer (some ⟨b2,0,none⟩)),(4,true,o0.v),(9,true,o5.v),(11,true,aG.val c7),(14,true,aG.val fO),(17,true,aG.val cZ),(20,true,ai.val c8),(23,true,o19.v)] [aP o0.v iE [1,2,3] 3,aP o5.v aA [dD,eh] 111,aP o19.v ae [cY] 77,Var b2 ay cc 86,Var b1 aK aK.zero 28]:=by
    intro o0 o5 o19
    refine unH hH ?_
    refine all [14,17] zk (by decide) (.cons rfl ?_ (.cons rfl ?_ .nil))
    · refine (buildSlice (E:=aG) Tryz.underlying24 gp z88 (.cons (.t rfl) (.cons (.t rfl) (.cons (.t rfl) .nil))) rfl rfl (fun v12=>?_))
      refine hdn ?_
      exact goE hH (ah.cons (Rem.tail Rem.head) (ah.cons (Rem.tail Rem.head) (ah.cons Rem.head (ah.cons Rem.head (ah.of sR))))) (st2_3 o0 o5 v12 o19)
    · refine (buildSlice (E:=ai) Tryz.underlying25 eH z75 (.cons (.t rfl) .nil) rfl rfl (fun v13=>?_))
      refine hdn ?_
      exact goE hH (ah.cons (Rem.tail Rem.head) (ah.cons (Rem.tail Rem.head) (ah.cons Rem.head (ah.cons Rem.head (ah.of sR))))) (st2_4 o0 o5 v13 o19)
  have st2_10:∀ (o0:OV) (o14:OV) (o17:OV),Sat (⟨25,w,bO,⟨X,fr,none⟩⟩:Ctx) (H 4 #[true,true,true,true,true,false,true,true,true,true,true,true,true,true,true,true,true,true,true,false,false,false]) [dz,(0,true,.pointer (some ⟨b1,0,none⟩)),(1,true,.pointer (some ⟨b2,0,none⟩)),(4,true,o0.v),(6,true,aA.val dD),(8,true,aA.val eh),(18,true,o14.v),(21,true,o17.v),(22,true,ae.val cY)] [aP o0.v iE [1,2,3] 3,aP o14.v aG [c7,fO,cZ] 88,aP o17.v ai [c8] 75,Var b2 ay cc 86,Var b1 aK aK.zero 28]:=by
    intro o0 o14 o17
    refine unH hH ?_
    refine all [5,19] zk (by decide) (.cons rfl ?_ (.cons rfl ?_ .nil))
    · refine (buildSlice (E:=aA) Tryz.underlying23 de eO (.cons (.t rfl) (.cons (.t rfl) .nil)) rfl rfl (fun v14=>?_))
      refine hdn ?_
      exact goE hH (ah.cons (Rem.tail Rem.head) (ah.cons Rem.head (ah.cons Rem.head (ah.cons Rem.head (ah.of sR))))) (st2_2 o0 v14 o14 o17)
    · refine (buildSlice (E:=ae) Tryz.underlying26 eG z77 (.cons (.t rfl) .nil) rfl rfl (fun v15=>?_))
      refine hdn ?_
      exact goE hH (ah.cons (Rem.tail Rem.head) (ah.cons (Rem.tail Rem.head) (ah.cons (Rem.tail Rem.head) (ah.cons Rem.head (ah.of sR))))) (st2_5 o0 o14 o17 v15)
  have st2_11:∀ (o0:OV) (o14:OV) (o19:OV),Sat (⟨25,w,bO,⟨X,fr,none⟩⟩:Ctx) (H 4 #[true,true,true,true,true,false,true,true,true,true,true,true,true,true,true,true,true,false,true,true,false,false]) [dz,(0,true,.pointer (some ⟨b1,0,none⟩)),(1,true,.pointer (some ⟨b2,0,none⟩)),(4,true,o0.v),(6,true,aA.val dD),(8,true,aA.val eh),(18,true,o14.v),(20,true,ai.val c8),(23,true,o19.v)] [aP o0.v iE [1,2,3] 3,aP o14.v aG [c7,fO,cZ] 88,aP o19.v ae [cY] 77,Var b2 ay cc 86,Var b1 aK aK.zero 28]:=by
    intro o0 o14 o19
    refine unH hH ?_
    refine all [5,17] zk (by decide) (.cons rfl ?_ (.cons rfl ?_ .nil))
    · refine (buildSlice (E:=aA) Tryz.underlying23 de eO (.cons (.t rfl) (.cons (.t rfl) .nil)) rfl rfl (fun v16=>?_))
      refine hdn ?_
      exact goE hH (ah.cons (Rem.tail Rem.head) (ah.cons Rem.head (ah.cons Rem.head (ah.cons Rem.head (ah.of sR))))) (st2_3 o0 v16 o14 o19)
    · refine (buildSlice (E:=ai) Tryz.underlying25 eH z75 (.cons (.t rfl) .nil) rfl rfl (fun v17=>?_))
      refine hdn ?_
      exact goE hH (ah.cons (Rem.tail Rem.head) (ah.cons (Rem.tail Rem.head) (ah.cons Rem.head (ah.cons Rem.head (ah.of sR))))) (st2_5 o0 o14 v17 o19)
  have st2_12:∀ (o0:OV) (o17:OV) (o19:OV),Sat (⟨25,w,bO,⟨X,fr,none⟩⟩:Ctx) (H 4 #[true,true,true,true,true,false,true,true,true,true,true,true,true,true,false,true,true,true,true,true,false,false]) [dz,(0,true,.pointer (some ⟨b1,0,none⟩)),(1,true,.pointer (some ⟨b2,0,none⟩)),(4,true,o0.v),(6,true,aA.val dD),(8,true,aA.val eh),(11,true,aG.val c7),(14,true,aG.val fO),(17,true,aG.val cZ),(21,true,o17.v),(23,true,o19.v)] [aP o0.v iE [1,2,3] 3,aP o17.v ai [c8] 75,aP o19.v ae [cY] 77,Var b2 ay cc 86,Var b1 aK aK.zero 28]:=by
    intro o0 o17 o19
    refine unH hH ?_
    refine all [5,14] zk (by decide) (.cons rfl ?_ (.cons rfl ?_ .nil))
    · refine (buildSlice (E:=aA) Tryz.underlying23 de eO (.cons (.t rfl) (.cons (.t rfl) .nil)) rfl rfl (fun v18=>?_))
      refine hdn ?_
      exact goE hH (ah.cons (Rem.tail Rem.head) (ah.cons Rem.head (ah.cons Rem.head (ah.cons Rem.head (ah.of sR))))) (st2_4 o0 v18 o17 o19)
    · refine (buildSlice (E:=aG) Tryz.underlying24 gp z88 (.cons (.t rfl) (.cons (.t rfl) (.cons (.t rfl) .nil))) rfl rfl (fun v19=>?_))
      refine hdn ?_
      exact goE hH (ah.cons (Rem.tail Rem.head) (ah.cons Rem.head (ah.cons Rem.head (ah.cons Rem.head (ah.of sR))))) (st2_5 o0 v19 o17 o19)
  have st2_13:∀ (o5:OV) (o14:OV) (o17:OV),Sat (⟨25,w,bO,⟨X,fr,none⟩⟩:Ctx) (H 4 #[false,true,true,true,true,true,true,true,true,true,true,true,true,true,true,true,true,true,true,false,false,false]) [dz,(0,true,.pointer (some ⟨b1,0,none⟩)),(1,true,.pointer (some ⟨b2,0,none⟩)),(9,true,o5.v),(18,true,o14.v),(21,true,o17.v),(22,true,ae.val cY)] [aP o5.v aA [dD,eh] 111,aP o14.v aG [c7,fO,cZ] 88,aP o17.v ai [c8] 75,Var b2 ay cc 86,Var b1 aK aK.zero 28]:=by
    intro o5 o14 o17
    refine unH hH ?_
    refine all [0,19] zk (by decide) (.cons rfl ?_ (.cons rfl ?_ .nil))
    · refine (buildSlice (E:=iE) Tryz.underlying22 ty3 z3 (.cons (.c (v:=I 1) rfl) (.cons (.c (v:=I 2) rfl) (.cons (.c (v:=I 3) rfl) .nil))) rfl rfl (fun v20=>?_))
      refine hdn ?_
      exact goE hH (ah.cons Rem.head (ah.cons Rem.head (ah.cons Rem.head (ah.cons Rem.head (ah.of sR))))) (st2_2 v20 o5 o14 o17)
    · refine (buildSlice (E:=ae) Tryz.underlying26 eG z77 (.cons (.t rfl) .nil) rfl rfl (fun v21=>?_))
      refine hdn ?_
      exact goE hH (ah.cons (Rem.tail Rem.head) (ah.cons (Rem.tail Rem.head) (ah.cons (Rem.tail Rem.head) (ah.cons Rem.head (ah.of sR))))) (st2_6 o5 o14 o17 v21)
  have st2_14:∀ (o5:OV) (o14:OV) (o19:OV),Sat (⟨25,w,bO,⟨X,fr,none⟩⟩:Ctx) (H 4 #[false,true,true,true,true,true,true,true,true,true,true,true,true,true,true,true,true,false,true,true,false,false]) [dz,(0,true,.pointer (some ⟨b1,0,none⟩)),(1,true,.pointer (some ⟨b2,0,none⟩)),(9,true,o5.v),(18,true,o14.v),(20,true,ai.val c8),(23,true,o19.v)] [aP o5.v aA [dD,eh] 111,aP o14.v aG [c7,fO,cZ] 88,aP o19.v ae [cY] 77,Var b2 ay cc 86,Var b1 aK aK.zero 28]:=by
    intro o5 o14 o19
    refine unH hH ?_
    refine all [0,17] zk (by decide) (.cons rfl ?_ (.cons rfl ?_ .nil))
    · refine (buildSlice (E:=iE) Tryz.underlying22 ty3 z3 (.cons (.c (v:=I 1) rfl) (.cons (.c (v:=I 2) rfl) (.cons (.c (v:=I 3) rfl) .nil))) rfl rfl (fun v22=>?_))
      refine hdn ?_
      exact goE hH (ah.cons Rem.head (ah.cons Rem.head (ah.cons Rem.head (ah.cons Rem.head (ah.of sR))))) (st2_3 v22 o5 o14 o19)
    · refine (buildSlice (E:=ai) Tryz.underlying25 eH z75 (.cons (.t rfl) .nil) rfl rfl (fun v23=>?_))
      refine hdn ?_
      exact goE hH (ah.cons (Rem.tail Rem.head) (ah.cons (Rem.tail Rem.head) (ah.cons Rem.head (ah.cons Rem.head (ah.of sR))))) (st2_6 o5 o14 v23 o19)
  have st2_15:∀ (o5:OV) (o17:OV) (o19:OV),Sat (⟨25,w,bO,⟨X,fr,none⟩⟩:Ctx) (H 4 #[false,true,true,true,true,true,true,true,true,true,true,true,true,true,false,true,true,true,true,true,false,false]) [dz,(0,true,.pointer (some ⟨b1,0,none⟩)),(1,true,.pointer (some ⟨b2,0,none⟩)),(9,true,o5.v),(11,true,aG.val c7),(14,true,aG.val fO),(17,true,aG.val cZ),(21,true,o17.v),(23,true,o19.v)] [aP o5.v aA [dD,eh] 111,aP o17.v ai [c8] 75,aP o19.v ae [cY] 77,Var b2 ay cc 86,Var b1 aK aK.zero 28]:=by
    intro o5 o17 o19
    refine unH hH ?_
    refine all [0,14] zk (by decide) (.cons rfl ?_ (.cons rfl ?_ .nil))
    · refine (buildSlice (E:=iE) Tryz.underlying22 ty3 z3 (.cons (.c (v:=I 1) rfl) (.cons (.c (v:=I 2) rfl) (.cons (.c (v:=I 3) rfl) .nil))) rfl rfl (fun v24=>?_))
      refine hdn ?_
      exact goE hH (ah.cons Rem.head (ah.cons Rem.head (ah.cons Rem.head (ah.cons Rem.head (ah.of sR))))) (st2_4 v24 o5 o17 o19)
    · refine (buildSlice (E:=aG) Tryz.underlying24 gp z88 (.cons (.t rfl) (.cons (.t rfl) (.cons (.t rfl) .nil))) rfl rfl (fun v25=>?_))
      refine hdn ?_
      exact goE hH (ah.cons (Rem.tail Rem.head) (ah.cons Rem.head (ah.cons Rem.head (ah.cons Rem.head (ah.of sR))))) (st2_6 o5 v25 o17 o19)
  have st2_16:∀ (o14:OV) (o17:OV) (o19:OV),Sat (⟨25,w,bO,⟨X,fr,none⟩⟩:Ctx) (H 4 #[false,true,true,true,true,false,true,true,true,true,true,true,true,true,true,true,true,true,true,true,false,false]) [dz,(0,true,.pointer (some ⟨b1,0,none⟩)),(1,true,.pointer (some ⟨b2,0,none⟩)),(6,true,aA.val dD),(8,true,aA.val eh),(18,true,o14.v),(21,true,o17.v),(23,true,o19.v)] [aP o14.v aG [c7,fO,cZ] 88,aP o17.v ai [c8] 75,aP o19.v ae [cY] 77,Var b2 ay cc 86,Var b1 aK aK.zero 28]:=by
    intro o14 o17 o19
    refine unH hH ?_
    refine all [0,5] zk (by decide) (.cons rfl ?_ (.cons rfl ?_ .nil))
    · refine (buildSlice (E:=iE) Tryz.underlying22 ty3 z3 (.cons (.c (v:=I 1) rfl) (.cons (.c (v:=I 2) rfl) (.cons (.c (v:=I 3) rfl) .nil))) rfl rfl (fun v26=>?_))
      refine hdn ?_
      exact goE hH (ah.cons Rem.head (ah.cons Rem.head (ah.cons Rem.head (ah.cons Rem.head (ah.of sR))))) (st2_5 v26 o14 o17 o19)
    · refine (buildSlice (E:=aA) Tryz.underlying23 de eO (.cons (.t rfl) (.cons (.t rfl) .nil)) rfl rfl (fun v27=>?_))
      refine hdn ?_
      exact goE hH (ah.cons Rem.head (ah.cons Rem.head (ah.cons Rem.head (ah.cons Rem.head (ah.of sR))))) (st2_6 v27 o14 o17 o19)
  have st2_17:∀ (o0:OV) (o5:OV),Sat (⟨25,w,bO,⟨X,fr,none⟩⟩:Ctx) (H 5 #[true,true,true,true,true,true,true,true,true,true,true,true,true,true,false,true,true,false,true,false,false,false]) [dz,(0,true,.pointer (some ⟨b1,0,none⟩)),(1,true,.pointer (some ⟨b2,0,none⟩)),(4,true,o0.v),(9,true,o5.v),(11,true,aG.val c7),(14,true,aG.val fO),(17,true,aG.val cZ),(20,true,ai.val c8),(22,true,ae.val cY)] [aP o0.v iE [1,2,3] 3,aP o5.v aA [dD,eh] 111,Var b2 ay cc 86,Var b1 aK aK.zero 28]:=by
    intro o0 o5
    refine unH hH ?_
    refine all [14,17,19] zk (by decide) (.cons rfl ?_ (.cons rfl ?_ (.cons rfl ?_ .nil)))
    · refine (buildSlice (E:=aG) Tryz.underlying24 gp z88 (.cons (.t rfl) (.cons (.t rfl) (.cons (.t rfl) .nil))) rfl rfl (fun v28=>?_))
      refine hdn ?_
      exact goE hH (ah.cons (Rem.tail Rem.head) (ah.cons (Rem.tail Rem.head) (ah.cons Rem.head (ah.of sR)))) (st2_7 o0 o5 v28)
    · refine (buildSlice (E:=ai) Tryz.underlying25 eH z75 (.cons (.t rfl) .nil) rfl rfl (fun v29=>?_))
      refine hdn ?_
      exact goE hH (ah.cons (Rem.tail Rem.head) (ah.cons (Rem.tail Rem.head) (ah.cons Rem.head (ah.of sR)))) (st2_8 o0 o5 v29)
    · refine (buildSlice (E:=ae) Tryz.underlying26 eG z77 (.cons (.t rfl) .nil) rfl rfl (fun v30=>?_))
      refine hdn ?_
      exact goE hH (ah.cons (Rem.tail Rem.head) (ah.cons (Rem.tail Rem.head) (ah.cons Rem.head (ah.of sR)))) (st2_9 o0 o5 v30)
  have st2_18:∀ (o0:OV) (o14:OV),Sat (⟨25,w,bO,⟨X,fr,none⟩⟩:Ctx) (H 5 #[true,true,true,true,true,false,true,true,true,true,true,true,true,true,true,true,true,false,true,false,false,false]) [dz,(0,true,.pointer (some ⟨b1,0,none⟩)),(1,true,.pointer (some ⟨b2,0,none⟩)),(4,true,o0.v),(6,true,aA.val dD),(8,true,aA.val eh),(18,true,o14.v),(20,true,ai.val c8),(22,true,ae.val cY)] [aP o0.v iE [1,2,3] 3,aP o14.v aG [c7,fO,cZ] 88,Var b2 ay cc 86,Var b1 aK aK.zero 28]:=by
    intro o0 o14
    refine unH hH ?_
    refine all [5,17,19] zk (by decide) (.cons rfl ?_ (.cons rfl ?_ (.cons rfl ?_ .nil)))
    · refine (buildSlice (E:=aA) Tryz.underlying23 de eO (.cons (.t rfl) (.cons (.t rfl) .nil)) rfl rfl (fun v31=>?_))
      refine hdn ?_
      exact goE hH (ah.cons (Rem.tail Rem.head) (ah.cons Rem.head (ah.cons Rem.head (ah.of sR)))) (st2_7 o0 v31 o14)
    · refine (buildSlice (E:=ai) Tryz.underlying25 eH z75 (.cons (.t rfl) .nil) rfl rfl (fun v32=>?_))
      refine hdn ?_
      exact goE hH (ah.cons (Rem.tail Rem.head) (ah.cons (Rem.tail Rem.head) (ah.cons Rem.head (ah.of sR)))) (st2_10 o0 o14 v32)
    · refine (buildSlice (E:=ae) Tryz.underlying26 eG z77 (.cons (.t rfl) .nil) rfl rfl (fun v33=>?_))
      refine hdn ?_
      exact goE hH (ah.cons (Rem.tail Rem.head) (ah.cons (Rem.tail Rem.head) (ah.cons Rem.head (ah.of sR)))) (st2_11 o0 o14 v33)
  have st2_19:∀ (o0:OV) (o17:OV),Sat (⟨25,w,bO,⟨X,fr,none⟩⟩:Ctx) (H 5 #[true,true,true,true,true,false,true,true,true,true,true,true,true,true,false,true,true,true,true,false,false,false]) [dz,(0,true,.pointer (some ⟨b1,0,none⟩)),(1,true,.pointer (some ⟨b2,0,none⟩)),(4,true,o0.v),(6,true,aA.val dD),(8,true,aA.val eh),(11,true,aG.val c7),(14,true,aG.val fO),(17,true,aG.val cZ),(21,true,o17.v),(22,true,ae.val cY)] [aP o0.v iE [1,2,3] 3,aP o17.v ai [c8] 75,Var b2 ay cc 86,Var b1 aK aK.zero 28]:=by
    intro o0 o17
    refine unH hH ?_
    refine all [5,14,19] zk (by decide) (.cons rfl ?_ (.cons rfl ?_ (.cons rfl ?_ .nil)))
    · refine (buildSlice (E:=aA) Tryz.underlying23 de eO (.cons (.t rfl) (.cons (.t rfl) .nil)) rfl rfl (fun v34=>?_))
      refine hdn ?_
      exact goE hH (ah.cons (Rem.tail Rem.head) (ah.cons Rem.head (ah.cons Rem.head (ah.of sR)))) (st2_8 o0 v34 o17)
    · refine (buildSlice (E:=aG) Tryz.underlying24 gp z88 (.cons (.t rfl) (.cons (.t rfl) (.cons (.t rfl) .nil))) rfl rfl (fun v35=>?_))
      refine hdn ?_
      exact goE hH (ah.cons (Rem.tail Rem.head) (ah.cons Rem.head (ah.cons Rem.head (ah.of sR)))) (st2_10 o0 v35 o17)
    · refine (buildSlice (E:=ae) Tryz.underlying26 eG z77 (.cons (.t rfl) .nil) rfl rfl (fun v36=>?_))
      refine hdn ?_
      exact goE hH (ah.cons (Rem.tail Rem.head) (ah.cons (Rem.tail Rem.head) (ah.cons Rem.head (ah.of sR)))) (st2_12 o0 o17 v36)
  have st2_20:∀ (o0:OV) (o19:OV),Sat (⟨25,w,bO,⟨X,fr,none⟩⟩:Ctx) (H 5 #[true,true,true,true,true,false,true,true,true,true,true,true,true,true,false,true,true,false,true,true,false,false]) [dz,(0,true,.pointer (some ⟨b1,0,none⟩)),(1,true,.pointer (some ⟨b2,0,none⟩)),(4,true,o0.v),(6,true,aA.val dD),(8,true,aA.val eh),(11,true,aG.val c7),(14,true,aG.val fO),(17,true,aG.val cZ),(20,true,ai.val c8),(23,true,o19.v)] [aP o0.v iE [1,2,3] 3,aP o19.v ae [cY] 77,Var b2 ay cc 86,Var b1 aK aK.zero 28]:=by
    intro o0 o19
    refine unH hH ?_
    refine all [5,14,17] zk (by decide) (.cons rfl ?_ (.cons rfl ?_ (.cons rfl ?_ .nil)))
    · refine (buildSlice (E:=aA) Tryz.underlying23 de eO (.cons (.t rfl) (.cons (.t rfl) .nil)) rfl rfl (fun v37=>?_))
      refine hdn ?_
      exact goE hH (ah.cons (Rem.tail Rem.head) (ah.cons Rem.head (ah.cons Rem.head (ah.of sR)))) (st2_9 o0 v37 o19)
    · refine (buildSlice (E:=aG) Tryz.underlying24 gp z88 (.cons (.t rfl) (.cons (.t rfl) (.cons (.t rfl) .nil))) rfl rfl (fun v38=>?_))
      refine hdn ?_
      exact goE hH (ah.cons (Rem.tail Rem.head) (ah.cons Rem.head (ah.cons Rem.head (ah.of sR)))) (st2_11 o0 v38 o19)
    · refine (buildSlice (E:=ai) Tryz.underlying25 eH z75 (.cons (.t rfl) .nil) rfl rfl (fun v39=>?_))
      refine hdn ?_
      exact goE hH (ah.cons (Rem.tail Rem.head) (ah.cons Rem.head (ah.cons Rem.head (ah.of sR)))) (st2_12 o0 v39 o19)
  have st2_21:∀ (o5:OV) (o14:OV),Sat (⟨25,w,bO,⟨X,fr,none⟩⟩:Ctx) (H 5 #[false,true,true,true,true,true,true,true,true,true,true,true,true,true,true,true,true,false,true,false,false,false]) [dz,(0,true,.pointer (some ⟨b1,0,none⟩)),(1,true,.pointer (some ⟨b2,0,none⟩)),(9,true,o5.v),(18,true,o14.v),(20,true,ai.val c8),(22,true,ae.val cY)] [aP o5.v aA [dD,eh] 111,aP o14.v aG [c7,fO,cZ] 88,Var b2 ay cc 86,Var b1 aK aK.zero 28]:=by
    intro o5 o14
    refine unH hH ?_
    refine all [0,17,19] zk (by decide) (.cons rfl ?_ (.cons rfl ?_ (.cons rfl ?_ .nil)))
    · refine (buildSlice (E:=iE) Tryz.underlying22 ty3 z3 (.cons (.c (v:=I 1) rfl) (.cons (.c (v:=I 2) rfl) (.cons (.c (v:=I 3) rfl) .nil))) rfl rfl (fun v40=>?_))
      refine hdn ?_
      exact goE hH (ah.cons Rem.head (ah.cons Rem.head (ah.cons Rem.head (ah.of sR)))) (st2_7 v40 o5 o14)
    · refine (buildSlice (E:=ai) Tryz.underlying25 eH z75 (.cons (.t rfl) .nil) rfl rfl (fun v41=>?_))
      refine hdn ?_
      exact goE hH (ah.cons (Rem.tail Rem.head) (ah.cons (Rem.tail Rem.head) (ah.cons Rem.head (ah.of sR)))) (st2_13 o5 o14 v41)
    · refine (buildSlice (E:=ae) Tryz.underlying26 eG z77 (.cons (.t rfl) .nil) rfl rfl (fun v42=>?_))
      refine hdn ?_
      exact goE hH (ah.cons (Rem.tail Rem.head) (ah.cons (Rem.tail Rem.head) (ah.cons Rem.head (ah.of sR)))) (st2_14 o5 o14 v42)
  have st2_22:∀ (o5:OV) (o17:OV),Sat (⟨25,w,bO,⟨X,fr,none⟩⟩:Ctx) (H 5 #[false,true,true,true,true,true,true,true,true,true,true,true,true,true,false,true,true,true,true,false,false,false]) [dz,(0,true,.pointer (some ⟨b1,0,none⟩)),(1,true,.pointer (some ⟨b2,0,none⟩)),(9,true,o5.v),(11,true,aG.val c7),(14,true,aG.val fO),(17,true,aG.val cZ),(21,true,o17.v),(22,true,ae.val cY)] [aP o5.v aA [dD,eh] 111,aP o17.v ai [c8] 75,Var b2 ay cc 86,Var b1 aK aK.zero 28]:=by
    intro o5 o17
    refine unH hH ?_
    refine all [0,14,19] zk (by decide) (.cons rfl ?_ (.cons rfl ?_ (.cons rfl ?_ .nil)))
    · refine (buildSlice (E:=iE) Tryz.underlying22 ty3 z3 (.cons (.c (v:=I 1) rfl) (.cons (.c (v:=I 2) rfl) (.cons (.c (v:=I 3) rfl) .nil))) rfl rfl (fun v43=>?_))
      refine hdn ?_
      exact goE hH (ah.cons Rem.head (ah.cons Rem.head (ah.cons Rem.head (ah.of sR)))) (st2_8 v43 o5 o17)
    · refine (buildSlice (E:=aG) Tryz.underlying24 gp z88 (.cons (.t rfl) (.cons (.t rfl) (.cons (.t rfl) .nil))) rfl rfl (fun v44=>?_))
      refine hdn ?_
      exact goE hH (ah.cons (Rem.tail Rem.head) (ah.cons Rem.head (ah.cons Rem.head (ah.of sR)))) (st2_13 o5 v44 o17)
    · refine (buildSlice (E:=ae) Tryz.underlying26 eG z77 (.cons (.t rfl) .nil) rfl rfl (fun v45=>?_))
      refine hdn ?_
      exact goE hH (ah.cons (Rem.tail Rem.head) (ah.cons (Rem.tail Rem.head) (ah.cons Rem.head (ah.of sR)))) (st2_15 o5 o17 v45)
  have st2_23:∀ (o5:OV) (o19:OV),Sat (⟨25,w,bO,⟨X,fr,none⟩⟩:Ctx) (H 5 #[false,true,true,true,true,true,true,true,true,true,true,true,true,true,false,true,true,false,true,true,false,false]) [dz,(0,true,.pointer (some ⟨b1,0,none⟩)),(1,true,.pointer (some ⟨b2,0,none⟩)),(9,true,o5.v),(11,true,aG.val c7),(14,true,aG.val fO),(17,true,aG.val cZ),(20,true,ai.val c8),(23,true,o19.v)] [aP o5.v aA [dD,eh] 111,aP o19.v ae [cY] 77,Var b2 ay cc 86,Var b1 aK aK.zero 28]:=by
    intro o5 o19
    refine unH hH ?_
    refine all [0,14,17] zk (by decide) (.cons rfl ?_ (.cons rfl ?_ (.cons rfl ?_ .nil)))
    · refine (buildSlice (E:=iE) Tryz.underlying22 ty3 z3 (.cons (.c (v:=I 1) rfl) (.cons (.c (v:=I 2) rfl) (.cons (.c (v:=I 3) rfl) .nil))) rfl rfl (fun v46=>?_))
      refine hdn ?_
      exact goE hH (ah.cons Rem.head (ah.cons Rem.head (ah.cons Rem.head (ah.of sR)))) (st2_9 v46 o5 o19)
    · refine (buildSlice (E:=aG) Tryz.underlying24 gp z88 (.cons (.t rfl) (.cons (.t rfl) (.cons (.t rfl) .nil))) rfl rfl (fun v47=>?_))
      refine hdn ?_
      exact goE hH (ah.cons (Rem.tail Rem.head) (ah.cons Rem.head (ah.cons Rem.head (ah.of sR)))) (st2_14 o5 v47 o19)
    · refine (buildSlice (E:=ai) Tryz.underlying25 eH z75 (.cons (.t rfl) .nil) rfl rfl (fun v48=>?_))
      refine hdn ?_
      exact goE hH (ah.cons (Rem.tail Rem.head) (ah.cons Rem.head (ah.cons Rem.head (ah.of sR)))) (st2_15 o5 v48 o19)
  have st2_24:∀ (o14:OV) (o17:OV),Sat (⟨25,w,bO,⟨X,fr,none⟩⟩:Ctx) (H 5 #[false,true,true,true,true,false,true,true,true,true,true,true,true,true,true,true,true,true,true,false,false,false]) [dz,(0,true,.pointer (some ⟨b1,0,none⟩)),(1,true,.pointer (some ⟨b2,0,none⟩)),(6,true,aA.val dD),(8,true,aA.val eh),(18,true,o14.v),(21,true,o17.v),(22,true,ae.val cY)] [aP o14.v aG [c7,fO,cZ] 88,aP o17.v ai [c8] 75,Var b2 ay cc 86,Var b1 aK aK.zero 28]:=by
    intro o14 o17
    refine unH hH ?_
    refine all [0,5,19] zk (by decide) (.cons rfl ?_ (.cons rfl ?_ (.cons rfl ?_ .nil)))
    · refine (buildSlice (E:=iE) Tryz.underlying22 ty3 z3 (.cons (.c (v:=I 1) rfl) (.cons (.c (v:=I 2) rfl) (.cons (.c (v:=I 3) rfl) .nil))) rfl rfl (fun v49=>?_))
      refine hdn ?_
      exact goE hH (ah.cons Rem.head (ah.cons Rem.head (ah.cons Rem.head (ah.of sR)))) (st2_10 v49 o14 o17)
    · refine (buildSlice (E:=aA) Tryz.underlying23 de eO (.cons (.t rfl) (.cons (.t rfl) .nil)) rfl rfl (fun v50=>?_))
      refine hdn ?_
      exact goE hH (ah.cons Rem.head (ah.cons Rem.head (ah.cons Rem.head (ah.of sR)))) (st2_13 v50 o14 o17)
    · refine (buildSlice (E:=ae) Tryz.underlying26 eG z77 (.cons (.t rfl) .nil) rfl rfl (fun v51=>?_))
      refine hdn ?_
      exact goE hH (ah.cons (Rem.tail Rem.head) (ah.cons (Rem.tail Rem.head) (ah.cons Rem.head (ah.of sR)))) (st2_16 o14 o17 v51)
  have st2_25:∀ (o14:OV) (o19:OV),Sat (⟨25,w,bO,⟨X,fr,none⟩⟩:Ctx) (H 5 #[false,true,true,true,true,false,true,true,true,true,true,true,true,true,true,true,true,false,true,true,false,false]) [dz,(0,true,.pointer (some ⟨b1,0,none⟩)),(1,true,.pointer (some ⟨b2,0,none⟩)),(6,true,aA.val dD),(8,true,aA.val eh),(18,true,o14.v),(20,true,ai.val c8),(23,true,o19.v)] [aP o14.v aG [c7,fO,cZ] 88,aP o19.v ae [cY] 77,Var b2 ay cc 86,Var b1 aK aK.zero 28]:=by
    intro o14 o19
    refine unH hH ?_
    refine all [0,5,17] zk (by decide) (.cons rfl ?_ (.cons rfl ?_ (.cons rfl ?_ .nil)))
    · refine (buildSlice (E:=iE) Tryz.underlying22 ty3 z3 (.cons (.c (v:=I 1) rfl) (.cons (.c (v:=I 2) rfl) (.cons (.c (v:=I 3) rfl) .nil))) rfl rfl (fun v52=>?_))
      refine hdn ?_
      exact goE hH (ah.cons Rem.head (ah.cons Rem.head (ah.cons Rem.head (ah.of sR)))) (st2_11 v52 o14 o19)
    · refine (buildSlice (E:=aA) Tryz.underlying23 de eO (.cons (.t rfl) (.cons (.t rfl) .nil)) rfl rfl (fun v53=>?_))
      refine hdn ?_
      exact goE hH (ah.cons Rem.head (ah.cons Rem.head (ah.cons Rem.head (ah.of sR)))) (st2_14 v53 o14 o19)
    · refine (buildSlice (E:=ai) Tryz.underlying25 eH z75 (.cons (.t rfl) .nil) rfl rfl (fun v54=>?_))
      refine hdn ?_
      exact goE hH (ah.cons (Rem.tail Rem.head) (ah.cons Rem.head (ah.cons Rem.head (ah.of sR)))) (st2_16 o14 v54 o19)
  have st2_26:∀ (o17:OV) (o19:OV),Sat (⟨25,w,bO,⟨X,fr,none⟩⟩:Ctx) (H 5 #[false,true,true,true,true,false,true,true,true,true,true,true,true,true,false,true,true,true,true,true,false,false]) [dz,(0,true,.pointer (some ⟨b1,0,none⟩)),(1,true,.pointer (some ⟨b2,0,none⟩)),(6,true,aA.val dD),(8,true,aA.val eh),(11,true,aG.val c7),(14,true,aG.val fO),(17,true,aG.val cZ),(21,true,o17.v),(23,true,o19.v)] [aP o17.v ai [c8] 75,aP o19.v ae [cY] 77,Var b2 ay cc 86,Var b1 aK aK.zero 28]:=by
    intro o17 o19
    refine unH hH ?_
    refine all [0,5,14] zk (by decide) (.cons rfl ?_ (.cons rfl ?_ (.cons rfl ?_ .nil)))
    · refine (buildSlice (E:=iE) Tryz.underlying22 ty3 z3 (.cons (.c (v:=I 1) rfl) (.cons (.c (v:=I 2) rfl) (.cons (.c (v:=I 3) rfl) .nil))) rfl rfl (fun v55=>?_))
      refine hdn ?_
      exact goE hH (ah.cons Rem.head (ah.cons Rem.head (ah.cons Rem.head (ah.of sR)))) (st2_12 v55 o17 o19)
    · refine (buildSlice (E:=aA) Tryz.underlying23 de eO (.cons (.t rfl) (.cons (.t rfl) .nil)) rfl rfl (fun v56=>?_))
      refine hdn ?_
      exact goE hH (ah.cons Rem.head (ah.cons Rem.head (ah.cons Rem.head (ah.of sR)))) (st2_15 v56 o17 o19)
    · refine (buildSlice (E:=aG) Tryz.underlying24 gp z88 (.cons (.t rfl) (.cons (.t rfl) (.cons (.t rfl) .nil))) rfl rfl (fun v57=>?_))
      refine hdn ?_
      exact goE hH (ah.cons Rem.head (ah.cons Rem.head (ah.cons Rem.head (ah.of sR)))) (st2_16 v57 o17 o19)
  have st2_27:∀ (o0:OV) (o5:OV) (o17:OV) (o19:OV),Sat (⟨25,w,bO,⟨X,fr,none⟩⟩:Ctx) (H 6 #[true,true,true,true,true,true,true,true,false,false,false,true,true,true,false,true,true,true,true,true,false,false]) [dz,(0,true,.pointer (some ⟨b1,0,none⟩)),(1,true,.pointer (some ⟨b2,0,none⟩)),(4,true,o0.v),(9,true,o5.v),(11,true,aG.val c7),(17,true,aG.val cZ),(21,true,o17.v),(23,true,o19.v)] [aP o0.v iE [1,2,3] 3,aP o5.v aA [dD,eh] 111,aP o17.v ai [c8] 75,aP o19.v ae [cY] 77,Var b2 ay cc 86,Var b1 aK aK.zero 28]:=by
    intro o0 o5 o17 o19
    refine unH hH ?_
    refine al1 8 rfl ((aZ gg (.cons (.c (v:=U8 10) rfl) (.cons (.c (v:=U8 9) rfl) (.cons (.c (v:=I 16) rfl) .nil))) (fun w I=>cL _ _ _ w) ?_))
    refine hdn (tk 9 rfl (Ev.aQ (fs:=_) (places:=[(0,1),(1,2),(3,18),(21,18),(39,1),(40,2),(42,2)]) z86 rfl Tryz.underlying86 zk (.cons (.c (v:=U8 2) rfl) (.cons (.t rfl) .nil)) (aj.cons aB.eI rfl (aj.cons aB.ee rfl aj.nil))) ?_)
    refine tk 10 rfl (Ev.aQ (fs:=_) (places:=[(0,1),(1,44),(45,1),(46,1),(47,1),(48,1)]) z88 rfl Tryz.underlying88 zk (.cons (.c (v:=(Go.Value.string (ByteArray.mk #[110,111]))) rfl) (.cons (.t rfl) (.cons (.c (v:=I 4) rfl) .nil))) (aj.cons aO.cN rfl (aj.cons aO.cV rfl (aj.cons aO.bZ rfl aj.nil)))) ?_
    exact goE hH (ah.cons Rem.head (ah.cons Rem.head (ah.cons Rem.head (ah.cons Rem.head (ah.of sR))))) (st2_4 o0 o5 o17 o19)
  have st2_28:∀ (o0:OV),Sat (⟨25,w,bO,⟨X,fr,none⟩⟩:Ctx) (H 6 #[true,true,true,true,true,false,true,true,true,true,true,true,true,true,false,true,true,false,true,false,false,false]) [dz,(0,true,.pointer (some ⟨b1,0,none⟩)),(1,true,.pointer (some ⟨b2,0,none⟩)),(4,true,o0.v),(6,true,aA.val dD),(8,true,aA.val eh),(11,true,aG.val c7),(14,true,aG.val fO),(17,true,aG.val cZ),(20,true,ai.val c8),(22,true,ae.val cY)] [aP o0.v iE [1,2,3] 3,Var b2 ay cc 86,Var b1 aK aK.zero 28]:=by
    intro o0
    refine unH hH ?_
    refine all [5,14,17,19] zk (by decide) (.cons rfl ?_ (.cons rfl ?_ (.cons rfl ?_ (.cons rfl ?_ .nil))))
    · refine (buildSlice (E:=aA) Tryz.underlying23 de eO (.cons (.t rfl) (.cons (.t rfl) .nil)) rfl rfl (fun v58=>?_))
      refine hdn ?_
      exact goE hH (ah.cons (Rem.tail Rem.head) (ah.cons Rem.head (ah.of sR))) (st2_17 o0 v58)
    · refine (buildSlice (E:=aG) Tryz.underlying24 gp z88 (.cons (.t rfl) (.cons (.t rfl) (.cons (.t rfl) .nil))) rfl rfl (fun v59=>?_))
      refine hdn ?_
      exact goE hH (ah.cons (Rem.tail Rem.head) (ah.cons Rem.head (ah.of sR))) (st2_18 o0 v59)
    · refine (buildSlice (E:=ai) Tryz.underlying25 eH z75 (.cons (.t rfl) .nil) rfl rfl (fun v60=>?_))
      refine hdn ?_
      exact goE hH (ah.cons (Rem.tail Rem.head) (ah.cons Rem.head (ah.of sR))) (st2_19 o0 v60)
    · refine (buildSlice (E:=ae) Tryz.underlying26 eG z77 (.cons (.t rfl) .nil) rfl rfl (fun v61=>?_))
      refine hdn ?_
      exact goE hH (ah.cons (Rem.tail Rem.head) (ah.cons Rem.head (ah.of sR))) (st2_20 o0 v61)
  have st2_29:∀ (o5:OV),Sat (⟨25,w,bO,⟨X,fr,none⟩⟩:Ctx) (H 6 #[false,true,true,true,true,true,true,true,true,true,true,true,true,true,false,true,true,false,true,false,false,false]) [dz,(0,true,.pointer (some ⟨b1,0,none⟩)),(1,true,.pointer (some ⟨b2,0,none⟩)),(9,true,o5.v),(11,true,aG.val c7),(14,true,aG.val fO),(17,true,aG.val cZ),(20,true,ai.val c8),(22,true,ae.val cY)] [aP o5.v aA [dD,eh] 111,Var b2 ay cc 86,Var b1 aK aK.zero 28]:=by
    intro o5
    refine unH hH ?_
    refine all [0,14,17,19] zk (by decide) (.cons rfl ?_ (.cons rfl ?_ (.cons rfl ?_ (.cons rfl ?_ .nil))))
    · refine (buildSlice (E:=iE) Tryz.underlying22 ty3 z3 (.cons (.c (v:=I 1) rfl) (.cons (.c (v:=I 2) rfl) (.cons (.c (v:=I 3) rfl) .nil))) rfl rfl (fun v62=>?_))
      refine hdn ?_
      exact goE hH (ah.cons Rem.head (ah.cons Rem.head (ah.of sR))) (st2_17 v62 o5)
    · refine (buildSlice (E:=aG) Tryz.underlying24 gp z88 (.cons (.t rfl) (.cons (.t rfl) (.cons (.t rfl) .nil))) rfl rfl (fun v63=>?_))
      refine hdn ?_
      exact goE hH (ah.cons (Rem.tail Rem.head) (ah.cons Rem.head (ah.of sR))) (st2_21 o5 v63)
    · refine (buildSlice (E:=ai) Tryz.underlying25 eH z75 (.cons (.t rfl) .nil) rfl rfl (fun v64=>?_))
      refine hdn ?_
      exact goE hH (ah.cons (Rem.tail Rem.head) (ah.cons Rem.head (ah.of sR))) (st2_22 o5 v64)
    · refine (buildSlice (E:=ae) Tryz.underlying26 eG z77 (.cons (.t rfl) .nil) rfl rfl (fun v65=>?_))
      refine hdn ?_
      exact goE hH (ah.cons (Rem.tail Rem.head) (ah.cons Rem.head (ah.of sR))) (st2_23 o5 v65)
  have st2_30:∀ (o14:OV),Sat (⟨25,w,bO,⟨X,fr,none⟩⟩:Ctx) (H 6 #[false,true,true,true,true,false,true,true,true,true,true,true,true,true,true,true,true,false,true,false,false,false]) [dz,(0,true,.pointer (some ⟨b1,0,none⟩)),(1,true,.pointer (some ⟨b2,0,none⟩)),(6,true,aA.val dD),(8,true,aA.val eh),(18,true,o14.v),(20,true,ai.val c8),(22,true,ae.val cY)] [aP o14.v aG [c7,fO,cZ] 88,Var b2 ay cc 86,Var b1 aK aK.zero 28]:=by
    intro o14
    refine unH hH ?_
    refine all [0,5,17,19] zk (by decide) (.cons rfl ?_ (.cons rfl ?_ (.cons rfl ?_ (.cons rfl ?_ .nil))))
    · refine (buildSlice (E:=iE) Tryz.underlying22 ty3 z3 (.cons (.c (v:=I 1) rfl) (.cons (.c (v:=I 2) rfl) (.cons (.c (v:=I 3) rfl) .nil))) rfl rfl (fun v66=>?_))
      refine hdn ?_
      exact goE hH (ah.cons Rem.head (ah.cons Rem.head (ah.of sR))) (st2_18 v66 o14)
    · refine (buildSlice (E:=aA) Tryz.underlying23 de eO (.cons (.t rfl) (.cons (.t rfl) .nil)) rfl rfl (fun v67=>?_))
      refine hdn ?_
      exact goE hH (ah.cons Rem.head (ah.cons Rem.head (ah.of sR))) (st2_21 v67 o14)
    · refine (buildSlice (E:=ai) Tryz.underlying25 eH z75 (.cons (.t rfl) .nil) rfl rfl (fun v68=>?_))
      refine hdn ?_
      exact goE hH (ah.cons (Rem.tail Rem.head) (ah.cons Rem.head (ah.of sR))) (st2_24 o14 v68)
    · refine (buildSlice (E:=ae) Tryz.underlying26 eG z77 (.cons (.t rfl) .nil) rfl rfl (fun v69=>?_))
      refine hdn ?_
      exact goE hH (ah.cons (Rem.tail Rem.head) (ah.cons Rem.head (ah.of sR))) (st2_25 o14 v69)
  have st2_31:∀ (o17:OV),Sat (⟨25,w,bO,⟨X,fr,none⟩⟩:Ctx) (H 6 #[false,true,true,true,true,false,true,true,true,true,true,true,true,true,false,true,true,true,true,false,false,false]) [dz,(0,true,.pointer (some ⟨b1,0,none⟩)),(1,true,.pointer (some ⟨b2,0,none⟩)),(6,true,aA.val dD),(8,true,aA.val eh),(11,true,aG.val c7),(14,true,aG.val fO),(17,true,aG.val cZ),(21,true,o17.v),(22,true,ae.val cY)] [aP o17.v ai [c8] 75,Var b2 ay cc 86,Var b1 aK aK.zero 28]:=by
    intro o17
    refine unH hH ?_
    refine all [0,5,14,19] zk (by decide) (.cons rfl ?_ (.cons rfl ?_ (.cons rfl ?_ (.cons rfl ?_ .nil))))
    · refine (buildSlice (E:=iE) Tryz.underlying22 ty3 z3 (.cons (.c (v:=I 1) rfl) (.cons (.c (v:=I 2) rfl) (.cons (.c (v:=I 3) rfl) .nil))) rfl rfl (fun v70=>?_))
      refine hdn ?_
      exact goE hH (ah.cons Rem.head (ah.cons Rem.head (ah.of sR))) (st2_19 v70 o17)
    · refine (buildSlice (E:=aA) Tryz.underlying23 de eO (.cons (.t rfl) (.cons (.t rfl) .nil)) rfl rfl (fun v71=>?_))
      refine hdn ?_
      exact goE hH (ah.cons Rem.head (ah.cons Rem.head (ah.of sR))) (st2_22 v71 o17)
    · refine (buildSlice (E:=aG) Tryz.underlying24 gp z88 (.cons (.t rfl) (.cons (.t rfl) (.cons (.t rfl) .nil))) rfl rfl (fun v72=>?_))
      refine hdn ?_
      exact goE hH (ah.cons Rem.head (ah.cons Rem.head (ah.of sR))) (st2_24 v72 o17)
    · refine (buildSlice (E:=ae) Tryz.underlying26 eG z77 (.cons (.t rfl) .nil) rfl rfl (fun v73=>?_))
      refine hdn ?_
      exact goE hH (ah.cons (Rem.tail Rem.head) (ah.cons Rem.head (ah.of sR))) (st2_26 o17 v73)
  have st2_32:∀ (o19:OV),Sat (⟨25,w,bO,⟨X,fr,none⟩⟩:Ctx) (H 6 #[false,true,true,true,true,false,true,true,true,true,true,true,true,true,false,true,true,false,true,true,false,false]) [dz,(0,true,.pointer (some ⟨b1,0,none⟩)),(1,true,.pointer (some ⟨b2,0,none⟩)),(6,true,aA.val dD),(8,true,aA.val eh),(11,true,aG.val c7),(14,true,aG.val fO),(17,true,aG.val cZ),(20,true,ai.val c8),(23,true,o19.v)] [aP o19.v ae [cY] 77,Var b2 ay cc 86,Var b1 aK aK.zero 28]:=by
    intro o19
    refine unH hH ?_
    refine all [0,5,14,17] zk (by decide) (.cons rfl ?_ (.cons rfl ?_ (.cons rfl ?_ (.cons rfl ?_ .nil))))
    · refine (buildSlice (E:=iE) Tryz.underlying22 ty3 z3 (.cons (.c (v:=I 1) rfl) (.cons (.c (v:=I 2) rfl) (.cons (.c (v:=I 3) rfl) .nil))) rfl rfl (fun v74=>?_))
      refine hdn ?_
      exact goE hH (ah.cons Rem.head (ah.cons Rem.head (ah.of sR))) (st2_20 v74 o19)
    · refine (buildSlice (E:=aA) Tryz.underlying23 de eO (.cons (.t rfl) (.cons (.t rfl) .nil)) rfl rfl (fun v75=>?_))
      refine hdn ?_
      exact goE hH (ah.cons Rem.head (ah.cons Rem.head (ah.of sR))) (st2_23 v75 o19)
    · refine (buildSlice (E:=aG) Tryz.underlying24 gp z88 (.cons (.t rfl) (.cons (.t rfl) (.cons (.t rfl) .nil))) rfl rfl (fun v76=>?_))
      refine hdn ?_
      exact goE hH (ah.cons Rem.head (ah.cons Rem.head (ah.of sR))) (st2_25 v76 o19)
    · refine (buildSlice (E:=ai) Tryz.underlying25 eH z75 (.cons (.t rfl) .nil) rfl rfl (fun v77=>?_))
      refine hdn ?_
      exact goE hH (ah.cons Rem.head (ah.cons Rem.head (ah.of sR))) (st2_26 v77 o19)
  have st2_33:∀ (o0:OV) (o5:OV) (o17:OV),Sat (⟨25,w,bO,⟨X,fr,none⟩⟩:Ctx) (H 7 #[true,true,true,true,true,true,true,true,false,false,false,true,true,true,false,true,true,true,true,false,false,false]) [dz,(0,true,.pointer (some ⟨b1,0,none⟩)),(1,true,.pointer (some ⟨b2,0,none⟩)),(4,true,o0.v),(9,true,o5.v),(11,true,aG.val c7),(17,true,aG.val cZ),(21,true,o17.v),(22,true,ae.val cY)] [aP o0.v iE [1,2,3] 3,aP o5.v aA [dD,eh] 111,aP o17.v ai [c8] 75,Var b2 ay cc 86,Var b1 aK aK.zero 28]:=by
    intro o0 o5 o17
    refine unH hH ?_
    refine all [8,19] zk (by decide) (.cons rfl ?_ (.cons rfl ?_ .nil))
    · refine (aZ gg (.cons (.c (v:=U8 10) rfl) (.cons (.c (v:=U8 9) rfl) (.cons (.c (v:=I 16) rfl) .nil))) (fun w I=>cL _ _ _ w) ?_)
      refine hdn (tk 9 rfl (Ev.aQ (fs:=_) (places:=[(0,1),(1,2),(3,18),(21,18),(39,1),(40,2),(42,2)]) z86 rfl Tryz.underlying86 zk (.cons (.c (v:=U8 2) rfl) (.cons (.t rfl) .nil)) (aj.cons aB.eI rfl (aj.cons aB.ee rfl aj.nil))) ?_)
      refine tk 10 rfl (Ev.aQ (fs:=_) (places:=[(0,1),(1,44),(45,1),(46,1),(47,1),(48,1)]) z88 rfl Tryz.underlying88 zk (.cons (.c (v:=(Go.Value.string (ByteArray.mk #[110,111]))) rfl) (.cons (.t rfl) (.cons (.c (v:=I 4) rfl) .nil))) (aj.cons aO.cN rfl (aj.cons aO.cV rfl (aj.cons aO.bZ rfl aj.nil)))) ?_
      exact goE hH (ah.cons Rem.head (ah.cons Rem.head (ah.cons Rem.head (ah.of sR)))) (st2_8 o0 o5 o17)
    · refine (buildSlice (E:=ae) Tryz.underlying26 eG z77 (.cons (.t rfl) .nil) rfl rfl (fun v78=>?_))
      refine hdn ?_
      exact goE hH (ah.cons (Rem.tail Rem.head) (ah.cons (Rem.tail Rem.head) (ah.cons (Rem.tail Rem.head) (ah.cons Rem.head (ah.of sR))))) (st2_27 o0 o5 o17 v78)
  have st2_34:∀ (o0:OV) (o5:OV) (o19:OV),Sat (⟨25,w,bO,⟨X,fr,none⟩⟩:Ctx) (H 7 #[true,true,true,true,true,true,true,true,false,false,false,true,true,true,false,true,true,false,true,true,false,false]) [dz,(0,true,.pointer (some ⟨b1,0,none⟩)),(1,true,.pointer (some ⟨b2,0,none⟩)),(4,true,o0.v),(9,true,o5.v),(11,true,aG.val c7),(17,true,aG.val cZ),(20,true,ai.val c8),(23,true,o19.v)] [aP o0.v iE [1,2,3] 3,aP o5.v aA [dD,eh] 111,aP o19.v ae [cY] 77,Var b2 ay cc 86,Var b1 aK aK.zero 28]:=by
    intro o0 o5 o19
    refine unH hH ?_
    refine all [8,17] zk (by decide) (.cons rfl ?_ (.cons rfl ?_ .nil))
    · refine (aZ gg (.cons (.c (v:=U8 10) rfl) (.cons (.c (v:=U8 9) rfl) (.cons (.c (v:=I 16) rfl) .nil))) (fun w I=>cL _ _ _ w) ?_)
      refine hdn (tk 9 rfl (Ev.aQ (fs:=_) (places:=[(0,1),(1,2),(3,18),(21,18),(39,1),(40,2),(42,2)]) z86 rfl Tryz.underlying86 zk (.cons (.c (v:=U8 2) rfl) (.cons (.t rfl) .nil)) (aj.cons aB.eI rfl (aj.cons aB.ee rfl aj.nil))) ?_)
      refine tk 10 rfl (Ev.aQ (fs:=_) (places:=[(0,1),(1,44),(45,1),(46,1),(47,1),(48,1)]) z88 rfl Tryz.underlying88 zk (.cons (.c (v:=(Go.Value.string (ByteArray.mk #[110,111]))) rfl) (.cons (.t rfl) (.cons (.c (v:=I 4) rfl) .nil))) (aj.cons aO.cN rfl (aj.cons aO.cV rfl (aj.cons aO.bZ rfl aj.nil)))) ?_
      exact goE hH (ah.cons Rem.head (ah.cons Rem.head (ah.cons Rem.head (ah.of sR)))) (st2_9 o0 o5 o19)
    · refine (buildSlice (E:=ai) Tryz.underlying25 eH z75 (.cons (.t rfl) .nil) rfl rfl (fun v79=>?_))
      refine hdn ?_
      exact goE hH (ah.cons (Rem.tail Rem.head) (ah.cons (Rem.tail Rem.head) (ah.cons Rem.head (ah.cons Rem.head (ah.of sR))))) (st2_27 o0 o5 v79 o19)
  have st2_35:∀ (o0:OV) (o17:OV) (o19:OV),Sat (⟨25,w,bO,⟨X,fr,none⟩⟩:Ctx) (H 7 #[true,true,true,true,true,false,true,true,false,false,false,true,true,true,false,true,true,true,true,true,false,false]) [dz,(0,true,.pointer (some ⟨b1,0,none⟩)),(1,true,.pointer (some ⟨b2,0,none⟩)),(4,true,o0.v),(6,true,aA.val dD),(8,true,aA.val eh),(11,true,aG.val c7),(17,true,aG.val cZ),(21,true,o17.v),(23,true,o19.v)] [aP o0.v iE [1,2,3] 3,aP o17.v ai [c8] 75,aP o19.v ae [cY] 77,Var b2 ay cc 86,Var b1 aK aK.zero 28]:=by
    intro o0 o17 o19
    refine unH hH ?_
    refine all [5,8] zk (by decide) (.cons rfl ?_ (.cons rfl ?_ .nil))
    · refine (buildSlice (E:=aA) Tryz.underlying23 de eO (.cons (.t rfl) (.cons (.t rfl) .nil)) rfl rfl (fun v80=>?_))
      refine hdn ?_
      exact goE hH (ah.cons (Rem.tail Rem.head) (ah.cons Rem.head (ah.cons Rem.head (ah.cons Rem.head (ah.of sR))))) (st2_27 o0 v80 o17 o19)
    · refine (aZ gg (.cons (.c (v:=U8 10) rfl) (.cons (.c (v:=U8 9) rfl) (.cons (.c (v:=I 16) rfl) .nil))) (fun w I=>cL _ _ _ w) ?_)
      refine hdn (tk 9 rfl (Ev.aQ (fs:=_) (places:=[(0,1),(1,2),(3,18),(21,18),(39,1),(40,2),(42,2)]) z86 rfl Tryz.underlying86 zk (.cons (.c (v:=U8 2) rfl) (.cons (.t rfl) .nil)) (aj.cons aB.eI rfl (aj.cons aB.ee rfl aj.nil))) ?_)
      refine tk 10 rfl (Ev.aQ (fs:=_) (places:=[(0,1),(1,44),(45,1),(46,1),(47,1),(48,1)]) z88 rfl Tryz.underlying88 zk (.cons (.c (v:=(Go.Value.string (ByteArray.mk #[110,111]))) rfl) (.cons (.t rfl) (.cons (.c (v:=I 4) rfl) .nil))) (aj.cons aO.cN rfl (aj.cons aO.cV rfl (aj.cons aO.bZ rfl aj.nil)))) ?_
      exact goE hH (ah.cons Rem.head (ah.cons Rem.head (ah.cons Rem.head (ah.of sR)))) (st2_12 o0 o17 o19)
  have st2_36:∀ (o5:OV) (o17:OV) (o19:OV),Sat (⟨25,w,bO,⟨X,fr,none⟩⟩:Ctx) (H 7 #[false,true,true,true,true,true,true,true,false,false,false,true,true,true,false,true,true,true,true,true,false,false]) [dz,(0,true,.pointer (some ⟨b1,0,none⟩)),(1,true,.pointer (some ⟨b2,0,none⟩)),(9,true,o5.v),(11,true,aG.val c7),(17,true,aG.val cZ),(21,true,o17.v),(23,true,o19.v)] [aP o5.v aA [dD,eh] 111,aP o17.v ai [c8] 75,aP o19.v ae [cY] 77,Var b2 ay cc 86,Var b1 aK aK.zero 28]:=by
    intro o5 o17 o19
    refine unH hH ?_
    refine all [0,8] zk (by decide) (.cons rfl ?_ (.cons rfl ?_ .nil))
    · refine (buildSlice (E:=iE) Tryz.underlying22 ty3 z3 (.cons (.c (v:=I 1) rfl) (.cons (.c (v:=I 2) rfl) (.cons (.c (v:=I 3) rfl) .nil))) rfl rfl (fun v81=>?_))
      refine hdn ?_
      exact goE hH (ah.cons Rem.head (ah.cons Rem.head (ah.cons Rem.head (ah.cons Rem.head (ah.of sR))))) (st2_27 v81 o5 o17 o19)
    · refine (aZ gg (.cons (.c (v:=U8 10) rfl) (.cons (.c (v:=U8 9) rfl) (.cons (.c (v:=I 16) rfl) .nil))) (fun w I=>cL _ _ _ w) ?_)
      refine hdn (tk 9 rfl (Ev.aQ (fs:=_) (places:=[(0,1),(1,2),(3,18),(21,18),(39,1),(40,2),(42,2)]) z86 rfl Tryz.underlying86 zk (.cons (.c (v:=U8 2) rfl) (.cons (.t rfl) .nil)) (aj.cons aB.eI rfl (aj.cons aB.ee rfl aj.nil))) ?_)
      refine tk 10 rfl (Ev.aQ (fs:=_) (places:=[(0,1),(1,44),(45,1),(46,1),(47,1),(48,1)]) z88 rfl Tryz.underlying88 zk (.cons (.c (v:=(Go.Value.string (ByteArray.mk #[110,111]))) rfl) (.cons (.t rfl) (.cons (.c (v:=I 4) rfl) .nil))) (aj.cons aO.cN rfl (aj.cons aO.cV rfl (aj.cons aO.bZ rfl aj.nil)))) ?_
      exact goE hH (ah.cons Rem.head (ah.cons Rem.head (ah.cons Rem.head (ah.of sR)))) (st2_15 o5 o17 o19)
  have st2_37:Sat (⟨25,w,bO,⟨X,fr,none⟩⟩:Ctx) (H 7 #[false,true,true,true,true,false,true,true,true,true,true,true,true,true,false,true,true,false,true,false,false,false]) [dz,(0,true,.pointer (some ⟨b1,0,none⟩)),(1,true,.pointer (some ⟨b2,0,none⟩)),(6,true,aA.val dD),(8,true,aA.val eh),(11,true,aG.val c7),(14,true,aG.val fO),(17,true,aG.val cZ),(20,true,ai.val c8),(22,true,ae.val cY)] [Var b2 ay cc 86,Var b1 aK aK.zero 28]:=by
    refine unH hH ?_
    refine all [0,5,14,17,19] zk (by decide) (.cons rfl ?_ (.cons rfl ?_ (.cons rfl ?_ (.cons rfl ?_ (.cons rfl ?_ .nil)))))
    · refine (buildSlice (E:=iE) Tryz.underlying22 ty3 z3 (.cons (.c (v:=I 1) rfl) (.cons (.c (v:=I 2) rfl) (.cons (.c (v:=I 3) rfl) .nil))) rfl rfl (fun v82=>?_))
      refine hdn ?_
      exact goE hH (ah.cons Rem.head (ah.of sR)) (st2_28 v82)
    · refine (buildSlice (E:=aA) Tryz.underlying23 de eO (.cons (.t rfl) (.cons (.t rfl) .nil)) rfl rfl (fun v83=>?_))
      refine hdn ?_
      exact goE hH (ah.cons Rem.head (ah.of sR)) (st2_29 v83)
    · refine (buildSlice (E:=aG) Tryz.underlying24 gp z88 (.cons (.t rfl) (.cons (.t rfl) (.cons (.t rfl) .nil))) rfl rfl (fun v84=>?_))
      refine hdn ?_
      exact goE hH (ah.cons Rem.head (ah.of sR)) (st2_30 v84)
    · refine (buildSlice (E:=ai) Tryz.underlying25 eH z75 (.cons (.t rfl) .nil) rfl rfl (fun v85=>?_))
      refine hdn ?_
      exact goE hH (ah.cons Rem.head (ah.of sR)) (st2_31 v85)
    · refine (buildSlice (E:=ae) Tryz.underlying26 eG z77 (.cons (.t rfl) .nil) rfl rfl (fun v86=>?_))
      refine hdn ?_
      exact goE hH (ah.cons Rem.head (ah.of sR)) (st2_32 v86)
  have st2_38:∀ (o0:OV) (o5:OV),Sat (⟨25,w,bO,⟨X,fr,none⟩⟩:Ctx) (H 8 #[true,true,true,true,true,true,true,true,false,false,false,true,true,true,false,true,true,false,true,false,false,false]) [dz,(0,true,.pointer (some ⟨b1,0,none⟩)),(1,true,.pointer (some ⟨b2,0,none⟩)),(4,true,o0.v),(9,true,o5.v),(11,true,aG.val c7),(17,true,aG.val cZ),(20,true,ai.val c8),(22,true,ae.val cY)] [aP o0.v iE [1,2,3] 3,aP o5.v aA [dD,eh] 111,Var b2 ay cc 86,Var b1 aK aK.zero 28]:=by
    intro o0 o5
    refine unH hH ?_
    refine all [8,17,19] zk (by decide) (.cons rfl ?_ (.cons rfl ?_ (.cons rfl ?_ .nil)))
    · refine (aZ gg (.cons (.c (v:=U8 10) rfl) (.cons (.c (v:=U8 9) rfl) (.cons (.c (v:=I 16) rfl) .nil))) (fun w I=>cL _ _ _ w) ?_)
      refine hdn (tk 9 rfl (Ev.aQ (fs:=_) (places:=[(0,1),(1,2),(3,18),(21,18),(39,1),(40,2),(42,2)]) z86 rfl Tryz.underlying86 zk (.cons (.c (v:=U8 2) rfl) (.cons (.t rfl) .nil)) (aj.cons aB.eI rfl (aj.cons aB.ee rfl aj.nil))) ?_)
      refine tk 10 rfl (Ev.aQ (fs:=_) (places:=[(0,1),(1,44),(45,1),(46,1),(47,1),(48,1)]) z88 rfl Tryz.underlying88 zk (.cons (.c (v:=(Go.Value.string (ByteArray.mk #[110,111]))) rfl) (.cons (.t rfl) (.cons (.c (v:=I 4) rfl) .nil))) (aj.cons aO.cN rfl (aj.cons aO.cV rfl (aj.cons aO.bZ rfl aj.nil)))) ?_
      exact goE hH (ah.cons Rem.head (ah.cons Rem.head (ah.of sR))) (st2_17 o0 o5)
    · refine (buildSlice (E:=ai) Tryz.underlying25 eH z75 (.cons (.t rfl) .nil) rfl rfl (fun v87=>?_))
      refine hdn ?_
      exact goE hH (ah.cons (Rem.tail Rem.head) (ah.cons (Rem.tail Rem.head) (ah.cons Rem.head (ah.of sR)))) (st2_33 o0 o5 v87)
    · refine (buildSlice (E:=ae) Tryz.underlying26 eG z77 (.cons (.t rfl) .nil) rfl rfl (fun v88=>?_))
      refine hdn ?_
      exact goE hH (ah.cons (Rem.tail Rem.head) (ah.cons (Rem.tail Rem.head) (ah.cons Rem.head (ah.of sR)))) (st2_34 o0 o5 v88)
  have st2_39:∀ (o0:OV) (o17:OV),Sat (⟨25,w,bO,⟨X,fr,none⟩⟩:Ctx) (H 8 #[true,true,true,true,true,false,true,true,false,false,false,true,true,true,false,true,true,true,true,false,false,false]) [dz,(0,true,.pointer (some ⟨b1,0,none⟩)),(1,true,.pointer (some ⟨b2,0,none⟩)),(4,true,o0.v),(6,true,aA.val dD),(8,true,aA.val eh),(11,true,aG.val c7),(17,true,aG.val cZ),(21,true,o17.v),(22,true,ae.val cY)] [aP o0.v iE [1,2,3] 3,aP o17.v ai [c8] 75,Var b2 ay cc 86,Var b1 aK aK.zero 28]:=by
    intro o0 o17
    refine unH hH ?_
    refine all [5,8,19] zk (by decide) (.cons rfl ?_ (.cons rfl ?_ (.cons rfl ?_ .nil)))
    · refine (buildSlice (E:=aA) Tryz.underlying23 de eO (.cons (.t rfl) (.cons (.t rfl) .nil)) rfl rfl (fun v89=>?_))
      refine hdn ?_
      exact goE hH (ah.cons (Rem.tail Rem.head) (ah.cons Rem.head (ah.cons Rem.head (ah.of sR)))) (st2_33 o0 v89 o17)
    · refine (aZ gg (.cons (.c (v:=U8 10) rfl) (.cons (.c (v:=U8 9) rfl) (.cons (.c (v:=I 16) rfl) .nil))) (fun w I=>cL _ _ _ w) ?_)
      refine hdn (tk 9 rfl (Ev.aQ (fs:=_) (places:=[(0,1),(1,2),(3,18),(21,18),(39,1),(40,2),(42,2)]) z86 rfl Tryz.underlying86 zk (.cons (.c (v:=U8 2) rfl) (.cons (.t rfl) .nil)) (aj.cons aB.eI rfl (aj.cons aB.ee rfl aj.nil))) ?_)
      refine tk 10 rfl (Ev.aQ (fs:=_) (places:=[(0,1),(1,44),(45,1),(46,1),(47,1),(48,1)]) z88 rfl Tryz.underlying88 zk (.cons (.c (v:=(Go.Value.string (ByteArray.mk #[110,111]))) rfl) (.cons (.t rfl) (.cons (.c (v:=I 4) rfl) .nil))) (aj.cons aO.cN rfl (aj.cons aO.cV rfl (aj.cons aO.bZ rfl aj.nil)))) ?_
      exact goE hH (ah.cons Rem.head (ah.cons Rem.head (ah.of sR))) (st2_19 o0 o17)
    · refine (buildSlice (E:=ae) Tryz.underlying26 eG z77 (.cons (.t rfl) .nil) rfl rfl (fun v90=>?_))
      refine hdn ?_
      exact goE hH (ah.cons (Rem.tail Rem.head) (ah.cons (Rem.tail Rem.head) (ah.cons Rem.head (ah.of sR)))) (st2_35 o0 o17 v90)
  have st2_40:∀ (o0:OV) (o19:OV),Sat (⟨25,w,bO,⟨X,fr,none⟩⟩:Ctx) (H 8 #[true,true,true,true,true,false,true,true,false,false,false,true,true,true,false,true,true,false,true,true,false,false]) [dz,(0,true,.pointer (some ⟨b1,0,none⟩)),(1,true,.pointer (some ⟨b2,0,none⟩)),(4,true,o0.v),(6,true,aA.val dD),(8,true,aA.val eh),(11,true,aG.val c7),(17,true,aG.val cZ),(20,true,ai.val c8),(23,true,o19.v)] [aP o0.v iE [1,2,3] 3,aP o19.v ae [cY] 77,Var b2 ay cc 86,Var b1 aK aK.zero 28]:=by
    intro o0 o19
    refine unH hH ?_
    refine all [5,8,17] zk (by decide) (.cons rfl ?_ (.cons rfl ?_ (.cons rfl ?_ .nil)))
    · refine (buildSlice (E:=aA) Tryz.underlying23 de eO (.cons (.t rfl) (.cons (.t rfl) .nil)) rfl rfl (fun v91=>?_))
      refine hdn ?_
      exact goE hH (ah.cons (Rem.tail Rem.head) (ah.cons Rem.head (ah.cons Rem.head (ah.of sR)))) (st2_34 o0 v91 o19)
    · refine (aZ gg (.cons (.c (v:=U8 10) rfl) (.cons (.c (v:=U8 9) rfl) (.cons (.c (v:=I 16) rfl) .nil))) (fun w I=>cL _ _ _ w) ?_)
      refine hdn (tk 9 rfl (Ev.aQ (fs:=_) (places:=[(0,1),(1,2),(3,18),(21,18),(39,1),(40,2),(42,2)]) z86 rfl Tryz.underlying86 zk (.cons (.c (v:=U8 2) rfl) (.cons (.t rfl) .nil)) (aj.cons aB.eI rfl (aj.cons aB.ee rfl aj.nil))) ?_)
      refine tk 10 rfl (Ev.aQ (fs:=_) (places:=[(0,1),(1,44),(45,1),(46,1),(47,1),(48,1)]) z88 rfl Tryz.underlying88 zk (.cons (.c (v:=(Go.Value.string (ByteArray.mk #[110,111]))) rfl) (.cons (.t rfl) (.cons (.c (v:=I 4) rfl) .nil))) (aj.cons aO.cN rfl (aj.cons aO.cV rfl (aj.cons aO.bZ rfl aj.nil)))) ?_
      exact goE hH (ah.cons Rem.head (ah.cons Rem.head (ah.of sR))) (st2_20 o0 o19)
    · refine (buildSlice (E:=ai) Tryz.underlying25 eH z75 (.cons (.t rfl) .nil) rfl rfl (fun v92=>?_))
      refine hdn ?_
      exact goE hH (ah.cons (Rem.tail Rem.head) (ah.cons Rem.head (ah.cons Rem.head (ah.of sR)))) (st2_35 o0 v92 o19)
  have st2_41:∀ (o5:OV) (o17:OV),Sat (⟨25,w,bO,⟨X,fr,none⟩⟩:Ctx) (H 8 #[false,true,true,true,true,true,true,true,false,false,false,true,true,true,false,true,true,true,true,false,false,false]) [dz,(0,true,.pointer (some ⟨b1,0,none⟩)),(1,true,.pointer (some ⟨b2,0,none⟩)),(9,true,o5.v),(11,true,aG.val c7),(17,true,aG.val cZ),(21,true,o17.v),(22,true,ae.val cY)] [aP o5.v aA [dD,eh] 111,aP o17.v ai [c8] 75,Var b2 ay cc 86,Var b1 aK aK.zero 28]:=by
    intro o5 o17
    refine unH hH ?_
    refine all [0,8,19] zk (by decide) (.cons rfl ?_ (.cons rfl ?_ (.cons rfl ?_ .nil)))
    · refine (buildSlice (E:=iE) Tryz.underlying22 ty3 z3 (.cons (.c (v:=I 1) rfl) (.cons (.c (v:=I 2) rfl) (.cons (.c (v:=I 3) rfl) .nil))) rfl rfl (fun v93=>?_))
      refine hdn ?_
      exact goE hH (ah.cons Rem.head (ah.cons Rem.head (ah.cons Rem.head (ah.of sR)))) (st2_33 v93 o5 o17)
    · refine (aZ gg (.cons (.c (v:=U8 10) rfl) (.cons (.c (v:=U8 9) rfl) (.cons (.c (v:=I 16) rfl) .nil))) (fun w I=>cL _ _ _ w) ?_)
      refine hdn (tk 9 rfl (Ev.aQ (fs:=_) (places:=[(0,1),(1,2),(3,18),(21,18),(39,1),(40,2),(42,2)]) z86 rfl Tryz.underlying86 zk (.cons (.c (v:=U8 2) rfl) (.cons (.t rfl) .nil)) (aj.cons aB.eI rfl (aj.cons aB.ee rfl aj.nil))) ?_)
      refine tk 10 rfl (Ev.aQ (fs:=_) (places:=[(0,1),(1,44),(45,1),(46,1),(47,1),(48,1)]) z88 rfl Tryz.underlying88 zk (.cons (.c (v:=(Go.Value.string (ByteArray.mk #[110,111]))) rfl) (.cons (.t rfl) (.cons (.c (v:=I 4) rfl) .nil))) (aj.cons aO.cN rfl (aj.cons aO.cV rfl (aj.cons aO.bZ rfl aj.nil)))) ?_
      exact goE hH (ah.cons Rem.head (ah.cons Rem.head (ah.of sR))) (st2_22 o5 o17)
    · refine (buildSlice (E:=ae) Tryz.underlying26 eG z77 (.cons (.t rfl) .nil) rfl rfl (fun v94=>?_))
      refine hdn ?_
      exact goE hH (ah.cons (Rem.tail Rem.head) (ah.cons (Rem.tail Rem.head) (ah.cons Rem.head (ah.of sR)))) (st2_36 o5 o17 v94)
  have st2_42:∀ (o5:OV) (o19:OV),Sat (⟨25,w,bO,⟨X,fr,none⟩⟩:Ctx) (H 8 #[false,true,true,true,true,true,true,true,false,false,false,true,true,true,false,true,true,false,true,true,false,false]) [dz,(0,true,.pointer (some ⟨b1,0,none⟩)),(1,true,.pointer (some ⟨b2,0,none⟩)),(9,true,o5.v),(11,true,aG.val c7),(17,true,aG.val cZ),(20,true,ai.val c8),(23,true,o19.v)] [aP o5.v aA [dD,eh] 111,aP o19.v ae [cY] 77,Var b2 ay cc 86,Var b1 aK aK.zero 28]:=by
    intro o5 o19
    refine unH hH ?_
    refine all [0,8,17] zk (by decide) (.cons rfl ?_ (.cons rfl ?_ (.cons rfl ?_ .nil)))
    · refine (buildSlice (E:=iE) Tryz.underlying22 ty3 z3 (.cons (.c (v:=I 1) rfl) (.cons (.c (v:=I 2) rfl) (.cons (.c (v:=I 3) rfl) .nil))) rfl rfl (fun v95=>?_))
      refine hdn ?_
      exact goE hH (ah.cons Rem.head (ah.cons Rem.head (ah.cons Rem.head (ah.of sR)))) (st2_34 v95 o5 o19)
    · refine (aZ gg (.cons (.c (v:=U8 10) rfl) (.cons (.c (v:=U8 9) rfl) (.cons (.c (v:=I 16) rfl) .nil))) (fun w I=>cL _ _ _ w) ?_)
      refine hdn (tk 9 rfl (Ev.aQ (fs:=_) (places:=[(0,1),(1,2),(3,18),(21,18),(39,1),(40,2),(42,2)]) z86 rfl Tryz.underlying86 zk (.cons (.c (v:=U8 2) rfl) (.cons (.t rfl) .nil)) (aj.cons aB.eI rfl (aj.cons aB.ee rfl aj.nil))) ?_)
      refine tk 10 rfl (Ev.aQ (fs:=_) (places:=[(0,1),(1,44),(45,1),(46,1),(47,1),(48,1)]) z88 rfl Tryz.underlying88 zk (.cons (.c (v:=(Go.Value.string (ByteArray.mk #[110,111]))) rfl) (.cons (.t rfl) (.cons (.c (v:=I 4) rfl) .nil))) (aj.cons aO.cN rfl (aj.cons aO.cV rfl (aj.cons aO.bZ rfl aj.nil)))) ?_
      exact goE hH (ah.cons Rem.head (ah.cons Rem.head (ah.of sR))) (st2_23 o5 o19)
    · refine (buildSlice (E:=ai) Tryz.underlying25 eH z75 (.cons (.t rfl) .nil) rfl rfl (fun v96=>?_))
      refine hdn ?_
      exact goE hH (ah.cons (Rem.tail Rem.head) (ah.cons Rem.head (ah.cons Rem.head (ah.of sR)))) (st2_36 o5 v96 o19)
  have st2_43:∀ (o17:OV) (o19:OV),Sat (⟨25,w,bO,⟨X,fr,none⟩⟩:Ctx) (H 8 #[false,true,true,true,true,false,true,true,false,false,false,true,true,true,false,true,true,true,true,true,false,false]) [dz,(0,true,.pointer (some ⟨b1,0,none⟩)),(1,true,.pointer (some ⟨b2,0,none⟩)),(6,true,aA.val dD),(8,true,aA.val eh),(11,true,aG.val c7),(17,true,aG.val cZ),(21,true,o17.v),(23,true,o19.v)] [aP o17.v ai [c8] 75,aP o19.v ae [cY] 77,Var b2 ay cc 86,Var b1 aK aK.zero 28]:=by
    intro o17 o19
    refine unH hH ?_
    refine all [0,5,8] zk (by decide) (.cons rfl ?_ (.cons rfl ?_ (.cons rfl ?_ .nil)))
    · refine (buildSlice (E:=iE) Tryz.underlying22 ty3 z3 (.cons (.c (v:=I 1) rfl) (.cons (.c (v:=I 2) rfl) (.cons (.c (v:=I 3) rfl) .nil))) rfl rfl (fun v97=>?_))
      refine hdn ?_
      exact goE hH (ah.cons Rem.head (ah.cons Rem.head (ah.cons Rem.head (ah.of sR)))) (st2_35 v97 o17 o19)
    · refine (buildSlice (E:=aA) Tryz.underlying23 de eO (.cons (.t rfl) (.cons (.t rfl) .nil)) rfl rfl (fun v98=>?_))
      refine hdn ?_
      exact goE hH (ah.cons Rem.head (ah.cons Rem.head (ah.cons Rem.head (ah.of sR)))) (st2_36 v98 o17 o19)
    · refine (aZ gg (.cons (.c (v:=U8 10) rfl) (.cons (.c (v:=U8 9) rfl) (.cons (.c (v:=I 16) rfl) .nil))) (fun w I=>cL _ _ _ w) ?_)
      refine hdn (tk 9 rfl (Ev.aQ (fs:=_) (places:=[(0,1),(1,2),(3,18),(21,18),(39,1),(40,2),(42,2)]) z86 rfl Tryz.underlying86 zk (.cons (.c (v:=U8 2) rfl) (.cons (.t rfl) .nil)) (aj.cons aB.eI rfl (aj.cons aB.ee rfl aj.nil))) ?_)
      refine tk 10 rfl (Ev.aQ (fs:=_) (places:=[(0,1),(1,44),(45,1),(46,1),(47,1),(48,1)]) z88 rfl Tryz.underlying88 zk (.cons (.c (v:=(Go.Value.string (ByteArray.mk #[110,111]))) rfl) (.cons (.t rfl) (.cons (.c (v:=I 4) rfl) .nil))) (aj.cons aO.cN rfl (aj.cons aO.cV rfl (aj.cons aO.bZ rfl aj.nil)))) ?_
      exact goE hH (ah.cons Rem.head (ah.cons Rem.head (ah.of sR))) (st2_26 o17 o19)
  have st2_44:∀ (o0:OV),Sat (⟨25,w,bO,⟨X,fr,none⟩⟩:Ctx) (H 9 #[true,true,true,true,true,false,true,true,false,false,false,true,true,true,false,true,true,false,true,false,false,false]) [dz,(0,true,.pointer (some ⟨b1,0,none⟩)),(1,true,.pointer (some ⟨b2,0,none⟩)),(4,true,o0.v),(6,true,aA.val dD),(8,true,aA.val eh),(11,true,aG.val c7),(17,true,aG.val cZ),(20,true,ai.val c8),(22,true,ae.val cY)] [aP o0.v iE [1,2,3] 3,Var b2 ay cc 86,Var b1 aK aK.zero 28]:=by
    intro o0
    refine unH hH ?_
    refine all [5,8,17,19] zk (by decide) (.cons rfl ?_ (.cons rfl ?_ (.cons rfl ?_ (.cons rfl ?_ .nil))))
    · refine (buildSlice (E:=aA) Tryz.underlying23 de eO (.cons (.t rfl) (.cons (.t rfl) .nil)) rfl rfl (fun v99=>?_))
      refine hdn ?_
      exact goE hH (ah.cons (Rem.tail Rem.head) (ah.cons Rem.head (ah.of sR))) (st2_38 o0 v99)
    · refine (aZ gg (.cons (.c (v:=U8 10) rfl) (.cons (.c (v:=U8 9) rfl) (.cons (.c (v:=I 16) rfl) .nil))) (fun w I=>cL _ _ _ w) ?_)
      refine hdn (tk 9 rfl (Ev.aQ (fs:=_) (places:=[(0,1),(1,2),(3,18),(21,18),(39,1),(40,2),(42,2)]) z86 rfl Tryz.underlying86 zk (.cons (.c (v:=U8 2) rfl) (.cons (.t rfl) .nil)) (aj.cons aB.eI rfl (aj.cons aB.ee rfl aj.nil))) ?_)
      refine tk 10 rfl (Ev.aQ (fs:=_) (places:=[(0,1),(1,44),(45,1),(46,1),(47,1),(48,1)]) z88 rfl Tryz.underlying88 zk (.cons (.c (v:=(Go.Value.string (ByteArray.mk #[110,111]))) rfl) (.cons (.t rfl) (.cons (.c (v:=I 4) rfl) .nil))) (aj.cons aO.cN rfl (aj.cons aO.cV rfl (aj.cons aO.bZ rfl aj.nil)))) ?_
      exact goE hH (ah.cons Rem.head (ah.of sR)) (st2_28 o0)
    · refine (buildSlice (E:=ai) Tryz.underlying25 eH z75 (.cons (.t rfl) .nil) rfl rfl (fun v100=>?_))
      refine hdn ?_
      exact goE hH (ah.cons (Rem.tail Rem.head) (ah.cons Rem.head (ah.of sR))) (st2_39 o0 v100)
    · refine (buildSlice (E:=ae) Tryz.underlying26 eG z77 (.cons (.t rfl) .nil) rfl rfl (fun v101=>?_))
      refine hdn ?_
      exact goE hH (ah.cons (Rem.tail Rem.head) (ah.cons Rem.head (ah.of sR))) (st2_40 o0 v101)
  have st2_45:∀ (o0:OV) (o17:OV) (o19:OV),Sat (⟨25,w,bO,⟨X,fr,none⟩⟩:Ctx) (H 9 #[true,true,true,false,false,false,true,true,false,false,false,true,true,true,false,true,true,true,true,true,false,false]) [dz,(0,true,.pointer (some ⟨b1,0,none⟩)),(1,true,.pointer (some ⟨b2,0,none⟩)),(4,true,o0.v),(6,true,aA.val dD),(11,true,aG.val c7),(17,true,aG.val cZ),(21,true,o17.v),(23,true,o19.v)] [aP o0.v iE [1,2,3] 3,aP o17.v ai [c8] 75,aP o19.v ae [cY] 77,Var b2 ay cc 86,Var b1 aK aK.zero 28]:=by
    intro o0 o17 o19
    refine unH hH ?_
    refine al1 3 rfl ((aZ gg (.cons (.c (v:=U8 10) rfl) (.cons (.c (v:=U8 1) rfl) (.cons (.c (v:=I 16) rfl) .nil))) (fun w I=>cL _ _ _ w) ?_))
    refine hdn (tk 4 rfl (Ev.aQ (fs:=_) (places:=[(0,18),(18,1)]) eO rfl Tryz.underlying111 zk (.cons (.t rfl) (.cons (.c (v:=I 3) rfl) .nil)) (aj.cons aU.dW rfl (aj.cons aU.dj rfl aj.nil))) ?_)
    exact goE hH (ah.cons Rem.head (ah.cons Rem.head (ah.cons Rem.head (ah.of sR)))) (st2_35 o0 o17 o19)
  have st2_46:∀ (o5:OV),Sat (⟨25,w,bO,⟨X,fr,none⟩⟩:Ctx) (H 9 #[false,true,true,true,true,true,true,true,false,false,false,true,true,true,false,true,true,false,true,false,false,false]) [dz,(0,true,.pointer (some ⟨b1,0,none⟩)),(1,true,.pointer (some ⟨b2,0,none⟩)),(9,true,o5.v),(11,true,aG.val c7),(17,true,aG.val cZ),(20,true,ai.val c8),(22,true,ae.val cY)] [aP o5.v aA [dD,eh] 111,Var b2 ay cc 86,Var b1 aK aK.zero 28]:=by
    intro o5
    refine unH hH ?_
    refine all [0,8,17,19] zk (by decide) (.cons rfl ?_ (.cons rfl ?_ (.cons rfl ?_ (.cons rfl ?_ .nil))))
    · refine (buildSlice (E:=iE) Tryz.underlying22 ty3 z3 (.cons (.c (v:=I 1) rfl) (.cons (.c (v:=I 2) rfl) (.cons (.c (v:=I 3) rfl) .nil))) rfl rfl (fun v102=>?_))
      refine hdn ?_
      exact goE hH (ah.cons Rem.head (ah.cons Rem.head (ah.of sR))) (st2_38 v102 o5)
    · refine (aZ gg (.cons (.c (v:=U8 10) rfl) (.cons (.c (v:=U8 9) rfl) (.cons (.c (v:=I 16) rfl) .nil))) (fun w I=>cL _ _ _ w) ?_)
      refine hdn (tk 9 rfl (Ev.aQ (fs:=_) (places:=[(0,1),(1,2),(3,18),(21,18),(39,1),(40,2),(42,2)]) z86 rfl Tryz.underlying86 zk (.cons (.c (v:=U8 2) rfl) (.cons (.t rfl) .nil)) (aj.cons aB.eI rfl (aj.cons aB.ee rfl aj.nil))) ?_)
      refine tk 10 rfl (Ev.aQ (fs:=_) (places:=[(0,1),(1,44),(45,1),(46,1),(47,1),(48,1)]) z88 rfl Tryz.underlying88 zk (.cons (.c (v:=(Go.Value.string (ByteArray.mk #[110,111]))) rfl) (.cons (.t rfl) (.cons (.c (v:=I 4) rfl) .nil))) (aj.cons aO.cN rfl (aj.cons aO.cV rfl (aj.cons aO.bZ rfl aj.nil)))) ?_
      exact goE hH (ah.cons Rem.head (ah.of sR)) (st2_29 o5)
    · refine (buildSlice (E:=ai) Tryz.underlying25 eH z75 (.cons (.t rfl) .nil) rfl rfl (fun v103=>?_))
      refine hdn ?_
      exact goE hH (ah.cons (Rem.tail Rem.head) (ah.cons Rem.head (ah.of sR))) (st2_41 o5 v103)
    · refine (buildSlice (E:=ae) Tryz.underlying26 eG z77 (.cons (.t rfl) .nil) rfl rfl (fun v104=>?_))
      refine hdn ?_
      exact goE hH (ah.cons (Rem.tail Rem.head) (ah.cons Rem.head (ah.of sR))) (st2_42 o5 v104)
  have st2_47:∀ (o17:OV),Sat (⟨25,w,bO,⟨X,fr,none⟩⟩:Ctx) (H 9 #[false,true,true,true,true,false,true,true,false,false,false,true,true,true,false,true,true,true,true,false,false,false]) [dz,(0,true,.pointer (some ⟨b1,0,none⟩)),(1,true,.pointer (some ⟨b2,0,none⟩)),(6,true,aA.val dD),(8,true,aA.val eh),(11,true,aG.val c7),(17,true,aG.val cZ),(21,true,o17.v),(22,true,ae.val cY)] [aP o17.v ai [c8] 75,Var b2 ay cc 86,Var b1 aK aK.zero 28]:=by
    intro o17
    refine unH hH ?_
    refine all [0,5,8,19] zk (by decide) (.cons rfl ?_ (.cons rfl ?_ (.cons rfl ?_ (.cons rfl ?_ .nil))))
    · refine (buildSlice (E:=iE) Tryz.underlying22 ty3 z3 (.cons (.c (v:=I 1) rfl) (.cons (.c (v:=I 2) rfl) (.cons (.c (v:=I 3) rfl) .nil))) rfl rfl (fun v105=>?_))
      refine hdn ?_
      exact goE hH (ah.cons Rem.head (ah.cons Rem.head (ah.of sR))) (st2_39 v105 o17)
    · refine (buildSlice (E:=aA) Tryz.underlying23 de eO (.cons (.t rfl) (.cons (.t rfl) .nil)) rfl rfl (fun v106=>?_))
      refine hdn ?_
      exact goE hH (ah.cons Rem.head (ah.cons Rem.head (ah.of sR))) (st2_41 v106 o17)
    · refine (aZ gg (.cons (.c (v:=U8 10) rfl) (.cons (.c (v:=U8 9) rfl) (.cons (.c (v:=I 16) rfl) .nil))) (fun w I=>cL _ _ _ w) ?_)
      refine hdn (tk 9 rfl (Ev.aQ (fs:=_) (places:=[(0,1),(1,2),(3,18),(21,18),(39,1),(40,2),(42,2)]) z86 rfl Tryz.underlying86 zk (.cons (.c (v:=U8 2) rfl) (.cons (.t rfl) .nil)) (aj.cons aB.eI rfl (aj.cons aB.ee rfl aj.nil))) ?_)
      refine tk 10 rfl (Ev.aQ (fs:=_) (places:=[(0,1),(1,44),(45,1),(46,1),(47,1),(48,1)]) z88 rfl Tryz.underlying88 zk (.cons (.c (v:=(Go.Value.string (ByteArray.mk #[110,111]))) rfl) (.cons (.t rfl) (.cons (.c (v:=I 4) rfl) .nil))) (aj.cons aO.cN rfl (aj.cons aO.cV rfl (aj.cons aO.bZ rfl aj.nil)))) ?_
      exact goE hH (ah.cons Rem.head (ah.of sR)) (st2_31 o17)
    · refine (buildSlice (E:=ae) Tryz.underlying26 eG z77 (.cons (.t rfl) .nil) rfl rfl (fun v107=>?_))
      refine hdn ?_
      exact goE hH (ah.cons (Rem.tail Rem.head) (ah.cons Rem.head (ah.of sR))) (st2_43 o17 v107)
  have st2_48:∀ (o19:OV),Sat (⟨25,w,bO,⟨X,fr,none⟩⟩:Ctx) (H 9 #[false,true,true,true,true,false,true,true,false,false,false,true,true,true,false,true,true,false,true,true,false,false]) [dz,(0,true,.pointer (some ⟨b1,0,none⟩)),(1,true,.pointer (some ⟨b2,0,none⟩)),(6,true,aA.val dD),(8,true,aA.val eh),(11,true,aG.val c7),(17,true,aG.val cZ),(20,true,ai.val c8),(23,true,o19.v)] [aP o19.v ae [cY] 77,Var b2 ay cc 86,Var b1 aK aK.zero 28]:=by
    intro o19
    refine unH hH ?_
    refine all [0,5,8,17] zk (by decide) (.cons rfl ?_ (.cons rfl ?_ (.cons rfl ?_ (.cons rfl ?_ .nil))))
    · refine (buildSlice (E:=iE) Tryz.underlying22 ty3 z3 (.cons (.c (v:=I 1) rfl) (.cons (.c (v:=I 2) rfl) (.cons (.c (v:=I 3) rfl) .nil))) rfl rfl (fun v108=>?_))
      refine hdn ?_
      exact goE hH (ah.cons Rem.head (ah.cons Rem.head (ah.of sR))) (st2_40 v108 o19)
    · refine (buildSlice (E:=aA) Tryz.underlying23 de eO (.cons (.t rfl) (.cons (.t rfl) .nil)) rfl rfl (fun v109=>?_))
      refine hdn ?_
      exact goE hH (ah.cons Rem.head (ah.cons Rem.head (ah.of sR))) (st2_42 v109 o19)
    · refine (aZ gg (.cons (.c (v:=U8 10) rfl) (.cons (.c (v:=U8 9) rfl) (.cons (.c (v:=I 16) rfl) .nil))) (fun w I=>cL _ _ _ w) ?_)
      refine hdn (tk 9 rfl (Ev.aQ (fs:=_) (places:=[(0,1),(1,2),(3,18),(21,18),(39,1),(40,2),(42,2)]) z86 rfl Tryz.underlying86 zk (.cons (.c (v:=U8 2) rfl) (.cons (.t rfl) .nil)) (aj.cons aB.eI rfl (aj.cons aB.ee rfl aj.nil))) ?_)
      refine tk 10 rfl (Ev.aQ (fs:=_) (places:=[(0,1),(1,44),(45,1),(46,1),(47,1),(48,1)]) z88 rfl Tryz.underlying88 zk (.cons (.c (v:=(Go.Value.string (ByteArray.mk #[110,111]))) rfl) (.cons (.t rfl) (.cons (.c (v:=I 4) rfl) .nil))) (aj.cons aO.cN rfl (aj.cons aO.cV rfl (aj.cons aO.bZ rfl aj.nil)))) ?_
      exact goE hH (ah.cons Rem.head (ah.of sR)) (st2_32 o19)
    · refine (buildSlice (E:=ai) Tryz.underlying25 eH z75 (.cons (.t rfl) .nil) rfl rfl (fun v110=>?_))
      refine hdn ?_
      exact goE hH (ah.cons Rem.head (ah.cons Rem.head (ah.of sR))) (st2_43 v110 o19)
  have st2_49:∀ (o0:OV) (o17:OV),Sat (⟨25,w,bO,⟨X,fr,none⟩⟩:Ctx) (H 10 #[true,true,true,false,false,false,true,true,false,false,false,true,true,true,false,true,true,true,true,false,false,false]) [dz,(0,true,.pointer (some ⟨b1,0,none⟩)),(1,true,.pointer (some ⟨b2,0,none⟩)),(4,true,o0.v),(6,true,aA.val dD),(11,true,aG.val c7),(17,true,aG.val cZ),(21,true,o17.v),(22,true,ae.val cY)] [aP o0.v iE [1,2,3] 3,aP o17.v ai [c8] 75,Var b2 ay cc 86,Var b1 aK aK.zero 28]:=by
    intro o0 o17
    refine unH hH ?_
    refine all [3,19] zk (by decide) (.cons rfl ?_ (.cons rfl ?_ .nil))
    · refine (aZ gg (.cons (.c (v:=U8 10) rfl) (.cons (.c (v:=U8 1) rfl) (.cons (.c (v:=I 16) rfl) .nil))) (fun w I=>cL _ _ _ w) ?_)
      refine hdn (tk 4 rfl (Ev.aQ (fs:=_) (places:=[(0,18),(18,1)]) eO rfl Tryz.underlying111 zk (.cons (.t rfl) (.cons (.c (v:=I 3) rfl) .nil)) (aj.cons aU.dW rfl (aj.cons aU.dj rfl aj.nil))) ?_)
      exact goE hH (ah.cons Rem.head (ah.cons Rem.head (ah.of sR))) (st2_39 o0 o17)
    · refine (buildSlice (E:=ae) Tryz.underlying26 eG z77 (.cons (.t rfl) .nil) rfl rfl (fun v111=>?_))
      refine hdn ?_
      exact goE hH (ah.cons (Rem.tail Rem.head) (ah.cons (Rem.tail Rem.head) (ah.cons Rem.head (ah.of sR)))) (st2_45 o0 o17 v111)
  have st2_50:∀ (o0:OV) (o19:OV),Sat (⟨25,w,bO,⟨X,fr,none⟩⟩:Ctx) (H 10 #[true,true,true,false,false,false,true,true,false,false,false,true,true,true,false,true,true,false,true,true,false,false]) [dz,(0,true,.pointer (some ⟨b1,0,none⟩)),(1,true,.pointer (some ⟨b2,0,none⟩)),(4,true,o0.v),(6,true,aA.val dD),(11,true,aG.val c7),(17,true,aG.val cZ),(20,true,ai.val c8),(23,true,o19.v)] [aP o0.v iE [1,2,3] 3,aP o19.v ae [cY] 77,Var b2 ay cc 86,Var b1 aK aK.zero 28]:=by
    intro o0 o19
    refine unH hH ?_
    refine all [3,17] zk (by decide) (.cons rfl ?_ (.cons rfl ?_ .nil))
    · refine (aZ gg (.cons (.c (v:=U8 10) rfl) (.cons (.c (v:=U8 1) rfl) (.cons (.c (v:=I 16) rfl) .nil))) (fun w I=>cL _ _ _ w) ?_)
      refine hdn (tk 4 rfl (Ev.aQ (fs:=_) (places:=[(0,18),(18,1)]) eO rfl Tryz.underlying111 zk (.cons (.t rfl) (.cons (.c (v:=I 3) rfl) .nil)) (aj.cons aU.dW rfl (aj.cons aU.dj rfl aj.nil))) ?_)
      exact goE hH (ah.cons Rem.head (ah.cons Rem.head (ah.of sR))) (st2_40 o0 o19)
    · refine (buildSlice (E:=ai) Tryz.underlying25 eH z75 (.cons (.t rfl) .nil) rfl rfl (fun v112=>?_))
      refine hdn ?_
      exact goE hH (ah.cons (Rem.tail Rem.head) (ah.cons Rem.head (ah.cons Rem.head (ah.of sR)))) (st2_45 o0 v112 o19)
  have st2_51:Sat (⟨25,w,bO,⟨X,fr,none⟩⟩:Ctx) (H 10 #[false,true,true,true,true,false,true,true,false,false,false,true,true,true,false,true,true,false,true,false,false,false]) [dz,(0,true,.pointer (some ⟨b1,0,none⟩)),(1,true,.pointer (some ⟨b2,0,none⟩)),(6,true,aA.val dD),(8,true,aA.val eh),(11,true,aG.val c7),(17,true,aG.val cZ),(20,true,ai.val c8),(22,true,ae.val cY)] [Var b2 ay cc 86,Var b1 aK aK.zero 28]:=by
    refine unH hH ?_
    refine all [0,5,8,17,19] zk (by decide) (.cons rfl ?_ (.cons rfl ?_ (.cons rfl ?_ (.cons rfl ?_ (.cons rfl ?_ .nil)))))
    · refine (buildSlice (E:=iE) Tryz.underlying22 ty3 z3 (.cons (.c (v:=I 1) rfl) (.cons (.c (v:=I 2) rfl) (.cons (.c (v:=I 3) rfl) .nil))) rfl rfl (fun v113=>?_))
      refine hdn ?_
      exact goE hH (ah.cons Rem.head (ah.of sR)) (st2_44 v113)
    · refine (buildSlice (E:=aA) Tryz.underlying23 de eO (.cons (.t rfl) (.cons (.t rfl) .nil)) rfl rfl (fun v114=>?_))
      refine hdn ?_
      exact goE hH (ah.cons Rem.head (ah.of sR)) (st2_46 v114)
    · refine (aZ gg (.cons (.c (v:=U8 10) rfl) (.cons (.c (v:=U8 9) rfl) (.cons (.c (v:=I 16) rfl) .nil))) (fun w I=>cL _ _ _ w) ?_)
      refine hdn (tk 9 rfl (Ev.aQ (fs:=_) (places:=[(0,1),(1,2),(3,18),(21,18),(39,1),(40,2),(42,2)]) z86 rfl Tryz.underlying86 zk (.cons (.c (v:=U8 2) rfl) (.cons (.t rfl) .nil)) (aj.cons aB.eI rfl (aj.cons aB.ee rfl aj.nil))) ?_)
      refine tk 10 rfl (Ev.aQ (fs:=_) (places:=[(0,1),(1,44),(45,1),(46,1),(47,1),(48,1)]) z88 rfl Tryz.underlying88 zk (.cons (.c (v:=(Go.Value.string (ByteArray.mk #[110,111]))) rfl) (.cons (.t rfl) (.cons (.c (v:=I 4) rfl) .nil))) (aj.cons aO.cN rfl (aj.cons aO.cV rfl (aj.cons aO.bZ rfl aj.nil)))) ?_
      exact goE hH (ah.of sR) (st2_37)
    · refine (buildSlice (E:=ai) Tryz.underlying25 eH z75 (.cons (.t rfl) .nil) rfl rfl (fun v115=>?_))
      refine hdn ?_
      exact goE hH (ah.cons Rem.head (ah.of sR)) (st2_47 v115)
    · refine (buildSlice (E:=ae) Tryz.underlying26 eG z77 (.cons (.t rfl) .nil) rfl rfl (fun v116=>?_))
      refine hdn ?_
      exact goE hH (ah.cons Rem.head (ah.of sR)) (st2_48 v116)
  have st2_52:∀ (o17:OV) (o19:OV),Sat (⟨25,w,bO,⟨X,fr,none⟩⟩:Ctx) (H 10 #[false,true,true,false,false,false,true,true,false,false,false,true,true,true,false,true,true,true,true,true,false,false]) [dz,(0,true,.pointer (some ⟨b1,0,none⟩)),(1,true,.pointer (some ⟨b2,0,none⟩)),(6,true,aA.val dD),(11,true,aG.val c7),(17,true,aG.val cZ),(21,true,o17.v),(23,true,o19.v)] [aP o17.v ai [c8] 75,aP o19.v ae [cY] 77,Var b2 ay cc 86,Var b1 aK aK.zero 28]:=by
    intro o17 o19
    refine unH hH ?_
    refine all [0,3] zk (by decide) (.cons rfl ?_ (.cons rfl ?_ .nil))
    · refine (buildSlice (E:=iE) Tryz.underlying22 ty3 z3 (.cons (.c (v:=I 1) rfl) (.cons (.c (v:=I 2) rfl) (.cons (.c (v:=I 3) rfl) .nil))) rfl rfl (fun v117=>?_))
      refine hdn ?_
      exact goE hH (ah.cons Rem.head (ah.cons Rem.head (ah.cons Rem.head (ah.of sR)))) (st2_45 v117 o17 o19)
    · refine (aZ gg (.cons (.c (v:=U8 10) rfl) (.cons (.c (v:=U8 1) rfl) (.cons (.c (v:=I 16) rfl) .nil))) (fun w I=>cL _ _ _ w) ?_)
      refine hdn (tk 4 rfl (Ev.aQ (fs:=_) (places:=[(0,18),(18,1)]) eO rfl Tryz.underlying111 zk (.cons (.t rfl) (.cons (.c (v:=I 3) rfl) .nil)) (aj.cons aU.dW rfl (aj.cons aU.dj rfl aj.nil))) ?_)
      exact goE hH (ah.cons Rem.head (ah.cons Rem.head (ah.of sR))) (st2_43 o17 o19)
  have st2_53:∀ (o0:OV),Sat (⟨25,w,bO,⟨X,fr,none⟩⟩:Ctx) (H 11 #[true,true,true,false,false,false,true,true,false,false,false,true,true,true,false,true,true,false,true,false,false,false]) [dz,(0,true,.pointer (some ⟨b1,0,none⟩)),(1,true,.pointer (some ⟨b2,0,none⟩)),(4,true,o0.v),(6,true,aA.val dD),(11,true,aG.val c7),(17,true,aG.val cZ),(20,true,ai.val c8),(22,true,ae.val cY)] [aP o0.v iE [1,2,3] 3,Var b2 ay cc 86,Var b1 aK aK.zero 28]:=by
    intro o0
    refine unH hH ?_
    refine all [3,17,19] zk (by decide) (.cons rfl ?_ (.cons rfl ?_ (.cons rfl ?_ .nil)))
    · refine (aZ gg (.cons (.c (v:=U8 10) rfl) (.cons (.c (v:=U8 1) rfl) (.cons (.c (v:=I 16) rfl) .nil))) (fun w I=>cL _ _ _ w) ?_)
      refine hdn (tk 4 rfl (Ev.aQ (fs:=_) (places:=[(0,18),(18,1)]) eO rfl Tryz.underlying111 zk (.cons (.t rfl) (.cons (.c (v:=I 3) rfl) .nil)) (aj.cons aU.dW rfl (aj.cons aU.dj rfl aj.nil))) ?_)
      exact goE hH (ah.cons Rem.head (ah.of sR)) (st2_44 o0)
    · refine (buildSlice (E:=ai) Tryz.underlying25 eH z75 (.cons (.t rfl) .nil) rfl rfl (fun v118=>?_))
      refine hdn ?_
      exact goE hH (ah.cons (Rem.tail Rem.head) (ah.cons Rem.head (ah.of sR))) (st2_49 o0 v118)
    · refine (buildSlice (E:=ae) Tryz.underlying26 eG z77 (.cons (.t rfl) .nil) rfl rfl (fun v119=>?_))
      refine hdn ?_
      exact goE hH (ah.cons (Rem.tail Rem.head) (ah.cons Rem.head (ah.of sR))) (st2_50 o0 v119)
  have st2_54:∀ (o0:OV) (o17:OV) (o19:OV),Sat (⟨25,w,bO,⟨X,fr,none⟩⟩:Ctx) (H 11 #[true,false,false,false,false,false,true,true,false,false,false,true,true,true,false,true,true,true,true,true,false,false]) [dz,(0,true,.pointer (some ⟨b1,0,none⟩)),(1,true,.pointer (some ⟨b2,0,none⟩)),(4,true,o0.v),(11,true,aG.val c7),(17,true,aG.val cZ),(21,true,o17.v),(23,true,o19.v)] [aP o0.v iE [1,2,3] 3,aP o17.v ai [c8] 75,aP o19.v ae [cY] 77,Var b2 ay cc 86,Var b1 aK aK.zero 28]:=by
    intro o0 o17 o19
    refine unH hH ?_
    refine al1 1 rfl ((aZ gg (.cons (.c (v:=U8 10) rfl) (.cons (.c (v:=U8 0) rfl) (.cons (.c (v:=I 8) rfl) .nil))) (fun w I=>cL _ _ _ w) ?_))
    refine hdn (tk 2 rfl (Ev.aQ (fs:=_) (places:=[(0,18),(18,1)]) eO rfl Tryz.underlying111 zk (.cons (.t rfl) (.cons (.c (v:=I 2) rfl) .nil)) (aj.cons aU.dW rfl (aj.cons aU.dj rfl aj.nil))) ?_)
    exact goE hH (ah.cons Rem.head (ah.cons Rem.head (ah.cons Rem.head (ah.of sR)))) (st2_45 o0 o17 o19)
  have st2_55:∀ (o17:OV),Sat (⟨25,w,bO,⟨X,fr,none⟩⟩:Ctx) (H 11 #[false,true,true,false,false,false,true,true,false,false,false,true,true,true,false,true,true,true,true,false,false,false]) [dz,(0,true,.pointer (some ⟨b1,0,none⟩)),(1,true,.pointer (some ⟨b2,0,none⟩)),(6,true,aA.val dD),(11,true,aG.val c7),(17,true,aG.val cZ),(21,true,o17.v),(22,true,ae.val cY)] [aP o17.v ai [c8] 75,Var b2 ay cc 86,Var b1 aK aK.zero 28]:=by
    intro o17
    refine unH hH ?_
    refine all [0,3,19] zk (by decide) (.cons rfl ?_ (.cons rfl ?_ (.cons rfl ?_ .nil)))
    · refine (buildSlice (E:=iE) Tryz.underlying22 ty3 z3 (.cons (.c (v:=I 1) rfl) (.cons (.c (v:=I 2) rfl) (.cons (.c (v:=I 3) rfl) .nil))) rfl rfl (fun v120=>?_))
      refine hdn ?_
      exact goE hH (ah.cons Rem.head (ah.cons Rem.head (ah.of sR))) (st2_49 v120 o17)
    · refine (aZ gg (.cons (.c (v:=U8 10) rfl) (.cons (.c (v:=U8 1) rfl) (.cons (.c (v:=I 16) rfl) .nil))) (fun w I=>cL _ _ _ w) ?_)
      refine hdn (tk 4 rfl (Ev.aQ (fs:=_) (places:=[(0,18),(18,1)]) eO rfl Tryz.underlying111 zk (.cons (.t rfl) (.cons (.c (v:=I 3) rfl) .nil)) (aj.cons aU.dW rfl (aj.cons aU.dj rfl aj.nil))) ?_)
      exact goE hH (ah.cons Rem.head (ah.of sR)) (st2_47 o17)
    · refine (buildSlice (E:=ae) Tryz.underlying26 eG z77 (.cons (.t rfl) .nil) rfl rfl (fun v121=>?_))
      refine hdn ?_
      exact goE hH (ah.cons (Rem.tail Rem.head) (ah.cons Rem.head (ah.of sR))) (st2_52 o17 v121)
  have st2_56:∀ (o19:OV),Sat (⟨25,w,bO,⟨X,fr,none⟩⟩:Ctx) (H 11 #[false,true,true,false,false,false,true,true,false,false,false,true,true,true,false,true,true,false,true,true,false,false]) [dz,(0,true,.pointer (some ⟨b1,0,none⟩)),(1,true,.pointer (some ⟨b2,0,none⟩)),(6,true,aA.val dD),(11,true,aG.val c7),(17,true,aG.val cZ),(20,true,ai.val c8),(23,true,o19.v)] [aP o19.v ae [cY] 77,Var b2 ay cc 86,Var b1 aK aK.zero 28]:=by
    intro o19
    refine unH hH ?_
    refine all [0,3,17] zk (by decide) (.cons rfl ?_ (.cons rfl ?_ (.cons rfl ?_ .nil)))
    · refine (buildSlice (E:=iE) Tryz.underlying22 ty3 z3 (.cons (.c (v:=I 1) rfl) (.cons (.c (v:=I 2) rfl) (.cons (.c (v:=I 3) rfl) .nil))) rfl rfl (fun v122=>?_))
      refine hdn ?_
      exact goE hH (ah.cons Rem.head (ah.cons Rem.head (ah.of sR))) (st2_50 v122 o19)
    · refine (aZ gg (.cons (.c (v:=U8 10) rfl) (.cons (.c (v:=U8 1) rfl) (.cons (.c (v:=I 16) rfl) .nil))) (fun w I=>cL _ _ _ w) ?_)
      refine hdn (tk 4 rfl (Ev.aQ (fs:=_) (places:=[(0,18),(18,1)]) eO rfl Tryz.underlying111 zk (.cons (.t rfl) (.cons (.c (v:=I 3) rfl) .nil)) (aj.cons aU.dW rfl (aj.cons aU.dj rfl aj.nil))) ?_)
      exact goE hH (ah.cons Rem.head (ah.of sR)) (st2_48 o19)
    · refine (buildSlice (E:=ai) Tryz.underlying25 eH z75 (.cons (.t rfl) .nil) rfl rfl (fun v123=>?_))
      refine hdn ?_
      exact goE hH (ah.cons Rem.head (ah.cons Rem.head (ah.of sR))) (st2_52 v123 o19)
  have st2_57:∀ (o0:OV) (o17:OV),Sat (⟨25,w,bO,⟨X,fr,none⟩⟩:Ctx) (H 12 #[true,false,false,false,false,false,true,true,false,false,false,true,true,true,false,true,true,true,true,false,false,false]) [dz,(0,true,.pointer (some ⟨b1,0,none⟩)),(1,true,.pointer (some ⟨b2,0,none⟩)),(4,true,o0.v),(11,true,aG.val c7),(17,true,aG.val cZ),(21,true,o17.v),(22,true,ae.val cY)] [aP o0.v iE [1,2,3] 3,aP o17.v ai [c8] 75,Var b2 ay cc 86,Var b1 aK aK.zero 28]:=by
    intro o0 o17
    refine unH hH ?_
    refine all [1,19] zk (by decide) (.cons rfl ?_ (.cons rfl ?_ .nil))
    · refine (aZ gg (.cons (.c (v:=U8 10) rfl) (.cons (.c (v:=U8 0) rfl) (.cons (.c (v:=I 8) rfl) .nil))) (fun w I=>cL _ _ _ w) ?_)
      refine hdn (tk 2 rfl (Ev.aQ (fs:=_) (places:=[(0,18),(18,1)]) eO rfl Tryz.underlying111 zk (.cons (.t rfl) (.cons (.c (v:=I 2) rfl) .nil)) (aj.cons aU.dW rfl (aj.cons aU.dj rfl aj.nil))) ?_)
      exact goE hH (ah.cons Rem.head (ah.cons Rem.head (ah.of sR))) (st2_49 o0 o17)
    · refine (buildSlice (E:=ae) Tryz.underlying26 eG z77 (.cons (.t rfl) .nil) rfl rfl (fun v124=>?_))
      refine hdn ?_
      exact goE hH (ah.cons (Rem.tail Rem.head) (ah.cons (Rem.tail Rem.head) (ah.cons Rem.head (ah.of sR)))) (st2_54 o0 o17 v124)
  have st2_58:∀ (o0:OV) (o19:OV),Sat (⟨25,w,bO,⟨X,fr,none⟩⟩:Ctx) (H 12 #[true,false,false,false,false,false,true,true,false,false,false,true,true,true,false,true,true,false,true,true,false,false]) [dz,(0,true,.pointer (some ⟨b1,0,none⟩)),(1,true,.pointer (some ⟨b2,0,none⟩)),(4,true,o0.v),(11,true,aG.val c7),(17,true,aG.val cZ),(20,true,ai.val c8),(23,true,o19.v)] [aP o0.v iE [1,2,3] 3,aP o19.v ae [cY] 77,Var b2 ay cc 86,Var b1 aK aK.zero 28]:=by
    intro o0 o19
    refine unH hH ?_
    refine all [1,17] zk (by decide) (.cons rfl ?_ (.cons rfl ?_ .nil))
    · refine (aZ gg (.cons (.c (v:=U8 10) rfl) (.cons (.c (v:=U8 0) rfl) (.cons (.c (v:=I 8) rfl) .nil))) (fun w I=>cL _ _ _ w) ?_)
      refine hdn (tk 2 rfl (Ev.aQ (fs:=_) (places:=[(0,18),(18,1)]) eO rfl Tryz.underlying111 zk (.cons (.t rfl) (.cons (.c (v:=I 2) rfl) .nil)) (aj.cons aU.dW rfl (aj.cons aU.dj rfl aj.nil))) ?_)
      exact goE hH (ah.cons Rem.head (ah.cons Rem.head (ah.of sR))) (st2_50 o0 o19)
    · refine (buildSlice (E:=ai) Tryz.underlying25 eH z75 (.cons (.t rfl) .nil) rfl rfl (fun v125=>?_))
      refine hdn ?_
      exact goE hH (ah.cons (Rem.tail Rem.head) (ah.cons Rem.head (ah.cons Rem.head (ah.of sR)))) (st2_54 o0 v125 o19)
  have st2_59:Sat (⟨25,w,bO,⟨X,fr,none⟩⟩:Ctx) (H 12 #[false,true,true,false,false,false,true,true,false,false,false,true,true,true,false,true,true,false,true,false,false,false]) [dz,(0,true,.pointer (some ⟨b1,0,none⟩)),(1,true,.pointer (some ⟨b2,0,none⟩)),(6,true,aA.val dD),(11,true,aG.val c7),(17,true,aG.val cZ),(20,true,ai.val c8),(22,true,ae.val cY)] [Var b2 ay cc 86,Var b1 aK aK.zero 28]:=by
    refine unH hH ?_
    refine all [0,3,17,19] zk (by decide) (.cons rfl ?_ (.cons rfl ?_ (.cons rfl ?_ (.cons rfl ?_ .nil))))
    · refine (buildSlice (E:=iE) Tryz.underlying22 ty3 z3 (.cons (.c (v:=I 1) rfl) (.cons (.c (v:=I 2) rfl) (.cons (.c (v:=I 3) rfl) .nil))) rfl rfl (fun v126=>?_))
      refine hdn ?_
      exact goE hH (ah.cons Rem.head (ah.of sR)) (st2_53 v126)
    · refine (aZ gg (.cons (.c (v:=U8 10) rfl) (.cons (.c (v:=U8 1) rfl) (.cons (.c (v:=I 16) rfl) .nil))) (fun w I=>cL _ _ _ w) ?_)
      refine hdn (tk 4 rfl (Ev.aQ (fs:=_) (places:=[(0,18),(18,1)]) eO rfl Tryz.underlying111 zk (.cons (.t rfl) (.cons (.c (v:=I 3) rfl) .nil)) (aj.cons aU.dW rfl (aj.cons aU.dj rfl aj.nil))) ?_)
      exact goE hH (ah.of sR) (st2_51)
    · refine (buildSlice (E:=ai) Tryz.underlying25 eH z75 (.cons (.t rfl) .nil) rfl rfl (fun v127=>?_))
      refine hdn ?_
      exact goE hH (ah.cons Rem.head (ah.of sR)) (st2_55 v127)
    · refine (buildSlice (E:=ae) Tryz.underlying26 eG z77 (.cons (.t rfl) .nil) rfl rfl (fun v128=>?_))
      refine hdn ?_
      exact goE hH (ah.cons Rem.head (ah.of sR)) (st2_56 v128)
  have st2_60:∀ (o17:OV) (o19:OV),Sat (⟨25,w,bO,⟨X,fr,none⟩⟩:Ctx) (H 12 #[false,false,false,false,false,false,true,true,false,false,false,true,true,true,false,true,true,true,true,true,false,false]) [dz,(0,true,.pointer (some ⟨b1,0,none⟩)),(1,true,.pointer (some ⟨b2,0,none⟩)),(11,true,aG.val c7),(17,true,aG.val cZ),(21,true,o17.v),(23,true,o19.v)] [aP o17.v ai [c8] 75,aP o19.v ae [cY] 77,Var b2 ay cc 86,Var b1 aK aK.zero 28]:=by
    intro o17 o19
    refine unH hH ?_
    refine all [0,1] zk (by decide) (.cons rfl ?_ (.cons rfl ?_ .nil))
    · refine (buildSlice (E:=iE) Tryz.underlying22 ty3 z3 (.cons (.c (v:=I 1) rfl) (.cons (.c (v:=I 2) rfl) (.cons (.c (v:=I 3) rfl) .nil))) rfl rfl (fun v129=>?_))
      refine hdn ?_
      exact goE hH (ah.cons Rem.head (ah.cons Rem.head (ah.cons Rem.head (ah.of sR)))) (st2_54 v129 o17 o19)
    · refine (aZ gg (.cons (.c (v:=U8 10) rfl) (.cons (.c (v:=U8 0) rfl) (.cons (.c (v:=I 8) rfl) .nil))) (fun w I=>cL _ _ _ w) ?_)
      refine hdn (tk 2 rfl (Ev.aQ (fs:=_) (places:=[(0,18),(18,1)]) eO rfl Tryz.underlying111 zk (.cons (.t rfl) (.cons (.c (v:=I 2) rfl) .nil)) (aj.cons aU.dW rfl (aj.cons aU.dj rfl aj.nil))) ?_)
      exact goE hH (ah.cons Rem.head (ah.cons Rem.head (ah.of sR))) (st2_52 o17 o19)
  have st2_61:∀ (o0:OV),Sat (⟨25,w,bO,⟨X,fr,none⟩⟩:Ctx) (H 13 #[true,false,false,false,false,false,true,true,false,false,false,true,true,true,false,true,true,false,true,false,false,false]) [dz,(0,true,.pointer (some ⟨b1,0,none⟩)),(1,true,.pointer (some ⟨b2,0,none⟩)),(4,true,o0.v),(11,true,aG.val c7),(17,true,aG.val cZ),(20,true,ai.val c8),(22,true,ae.val cY)] [aP o0.v iE [1,2,3] 3,Var b2 ay cc 86,Var b1 aK aK.zero 28]:=by
    intro o0
    refine unH hH ?_
    refine all [1,17,19] zk (by decide) (.cons rfl ?_ (.cons rfl ?_ (.cons rfl ?_ .nil)))
    · refine (aZ gg (.cons (.c (v:=U8 10) rfl) (.cons (.c (v:=U8 0) rfl) (.cons (.c (v:=I 8) rfl) .nil))) (fun w I=>cL _ _ _ w) ?_)
      refine hdn (tk 2 rfl (Ev.aQ (fs:=_) (places:=[(0,18),(18,1)]) eO rfl Tryz.underlying111 zk (.cons (.t rfl) (.cons (.c (v:=I 2) rfl) .nil)) (aj.cons aU.dW rfl (aj.cons aU.dj rfl aj.nil))) ?_)
      exact goE hH (ah.cons Rem.head (ah.of sR)) (st2_53 o0)
    · refine (buildSlice (E:=ai) Tryz.underlying25 eH z75 (.cons (.t rfl) .nil) rfl rfl (fun v130=>?_))
      refine hdn ?_
      exact goE hH (ah.cons (Rem.tail Rem.head) (ah.cons Rem.head (ah.of sR))) (st2_57 o0 v130)
    · refine (buildSlice (E:=ae) Tryz.underlying26 eG z77 (.cons (.t rfl) .nil) rfl rfl (fun v131=>?_))
      refine hdn ?_
      exact goE hH (ah.cons (Rem.tail Rem.head) (ah.cons Rem.head (ah.of sR))) (st2_58 o0 v131)
  have st2_62:∀ (o17:OV),Sat (⟨25,w,bO,⟨X,fr,none⟩⟩:Ctx) (H 13 #[false,false,false,false,false,false,true,true,false,false,false,true,true,true,false,true,true,true,true,false,false,false]) [dz,(0,true,.pointer (some ⟨b1,0,none⟩)),(1,true,.pointer (some ⟨b2,0,none⟩)),(11,true,aG.val c7),(17,true,aG.val cZ),(21,true,o17.v),(22,true,ae.val cY)] [aP o17.v ai [c8] 75,Var b2 ay cc 86,Var b1 aK aK.zero 28]:=by
    intro o17
    refine unH hH ?_
    refine all [0,1,19] zk (by decide) (.cons rfl ?_ (.cons rfl ?_ (.cons rfl ?_ .nil)))
    · refine (buildSlice (E:=iE) Tryz.underlying22 ty3 z3 (.cons (.c (v:=I 1) rfl) (.cons (.c (v:=I 2) rfl) (.cons (.c (v:=I 3) rfl) .nil))) rfl rfl (fun v132=>?_))
      refine hdn ?_
      exact goE hH (ah.cons Rem.head (ah.cons Rem.head (ah.of sR))) (st2_57 v132 o17)
    · refine (aZ gg (.cons (.c (v:=U8 10) rfl) (.cons (.c (v:=U8 0) rfl) (.cons (.c (v:=I 8) rfl) .nil))) (fun w I=>cL _ _ _ w) ?_)
      refine hdn (tk 2 rfl (Ev.aQ (fs:=_) (places:=[(0,18),(18,1)]) eO rfl Tryz.underlying111 zk (.cons (.t rfl) (.cons (.c (v:=I 2) rfl) .nil)) (aj.cons aU.dW rfl (aj.cons aU.dj rfl aj.nil))) ?_)
      exact goE hH (ah.cons Rem.head (ah.of sR)) (st2_55 o17)
    · refine (buildSlice (E:=ae) Tryz.underlying26 eG z77 (.cons (.t rfl) .nil) rfl rfl (fun v133=>?_))
      refine hdn ?_
      exact goE hH (ah.cons (Rem.tail Rem.head) (ah.cons Rem.head (ah.of sR))) (st2_60 o17 v133)
  have st2_63:∀ (o19:OV),Sat (⟨25,w,bO,⟨X,fr,none⟩⟩:Ctx) (H 13 #[false,false,false,false,false,false,true,true,false,false,false,true,true,true,false,true,true,false,true,true,false,false]) [dz,(0,true,.pointer (some ⟨b1,0,none⟩)),(1,true,.pointer (some ⟨b2,0,none⟩)),(11,true,aG.val c7),(17,true,aG.val cZ),(20,true,ai.val c8),(23,true,o19.v)] [aP o19.v ae [cY] 77,Var b2 ay cc 86,Var b1 aK aK.zero 28]:=by
    intro o19
    refine unH hH ?_
    refine all [0,1,17] zk (by decide) (.cons rfl ?_ (.cons rfl ?_ (.cons rfl ?_ .nil)))
    · refine (buildSlice (E:=iE) Tryz.underlying22 ty3 z3 (.cons (.c (v:=I 1) rfl) (.cons (.c (v:=I 2) rfl) (.cons (.c (v:=I 3) rfl) .nil))) rfl rfl (fun v134=>?_))
      refine hdn ?_
      exact goE hH (ah.cons Rem.head (ah.cons Rem.head (ah.of sR))) (st2_58 v134 o19)
    · refine (aZ gg (.cons (.c (v:=U8 10) rfl) (.cons (.c (v:=U8 0) rfl) (.cons (.c (v:=I 8) rfl) .nil))) (fun w I=>cL _ _ _ w) ?_)
      refine hdn (tk 2 rfl (Ev.aQ (fs:=_) (places:=[(0,18),(18,1)]) eO rfl Tryz.underlying111 zk (.cons (.t rfl) (.cons (.c (v:=I 2) rfl) .nil)) (aj.cons aU.dW rfl (aj.cons aU.dj rfl aj.nil))) ?_)
      exact goE hH (ah.cons Rem.head (ah.of sR)) (st2_56 o19)
    · refine (buildSlice (E:=ai) Tryz.underlying25 eH z75 (.cons (.t rfl) .nil) rfl rfl (fun v135=>?_))
      refine hdn ?_
      exact goE hH (ah.cons Rem.head (ah.cons Rem.head (ah.of sR))) (st2_60 v135 o19)
  have st2_64:Sat (⟨25,w,bO,⟨X,fr,none⟩⟩:Ctx) (H 14 #[false,false,false,false,false,false,true,true,false,false,false,true,true,true,false,true,true,false,true,false,false,false]) [dz,(0,true,.pointer (some ⟨b1,0,none⟩)),(1,true,.pointer (some ⟨b2,0,none⟩)),(11,true,aG.val c7),(17,true,aG.val cZ),(20,true,ai.val c8),(22,true,ae.val cY)] [Var b2 ay cc 86,Var b1 aK aK.zero 28]:=by
    refine unH hH ?_
    refine all [0,1,17,19] zk (by decide) (.cons rfl ?_ (.cons rfl ?_ (.cons rfl ?_ (.cons rfl ?_ .nil))))
    · refine (buildSlice (E:=iE) Tryz.underlying22 ty3 z3 (.cons (.c (v:=I 1) rfl) (.cons (.c (v:=I 2) rfl) (.cons (.c (v:=I 3) rfl) .nil))) rfl rfl (fun v136=>?_))
      refine hdn ?_
      exact goE hH (ah.cons Rem.head (ah.of sR)) (st2_61 v136)
    · refine (aZ gg (.cons (.c (v:=U8 10) rfl) (.cons (.c (v:=U8 0) rfl) (.cons (.c (v:=I 8) rfl) .nil))) (fun w I=>cL _ _ _ w) ?_)
      refine hdn (tk 2 rfl (Ev.aQ (fs:=_) (places:=[(0,18),(18,1)]) eO rfl Tryz.underlying111 zk (.cons (.t rfl) (.cons (.c (v:=I 2) rfl) .nil)) (aj.cons aU.dW rfl (aj.cons aU.dj rfl aj.nil))) ?_)
      exact goE hH (ah.of sR) (st2_59)
    · refine (buildSlice (E:=ai) Tryz.underlying25 eH z75 (.cons (.t rfl) .nil) rfl rfl (fun v137=>?_))
      refine hdn ?_
      exact goE hH (ah.cons Rem.head (ah.of sR)) (st2_62 v137)
    · refine (buildSlice (E:=ae) Tryz.underlying26 eG z77 (.cons (.t rfl) .nil) rfl rfl (fun v138=>?_))
      refine hdn ?_
      exact goE hH (ah.cons Rem.head (ah.of sR)) (st2_63 v138)
  refine unH hH ?_
  refine tk 6 rfl (Ev.ldv gU (.t rfl) (ak.id _)) ?_
  refine tk 7 rfl (Ev.aQ (fs:=_) (places:=[(0,1),(1,44),(45,1),(46,1),(47,1),(48,1)]) z88 rfl Tryz.underlying88 zk (.cons (.c (v:=(Go.Value.string (ByteArray.mk #[119,101,98]))) rfl) (.cons (.t rfl) (.cons (.c (v:=I 3) rfl) (.cons (.c (v:=I 3) rfl) (.cons (.c (v:=(Go.Value.string (ByteArray.mk #[115,108,111,119]))) rfl) .nil))))) (aj.cons aO.cN rfl (aj.cons aO.cV rfl (aj.cons aO.bZ rfl (aj.cons aO.dj rfl (aj.cons aO.eL rfl aj.nil)))))) ?_
  refine tk 11 rfl (Ev.aQ (fs:=_) (places:=[(0,1),(1,1)]) z82 rfl Tryz.underlying82 zk (.cons (.c (v:=U16 2) rfl) (.cons (.c (v:=U16 2) rfl) .nil)) (aj.cons bK.iG rfl (aj.cons bK.dW rfl aj.nil))) ?_
  refine tk 12 rfl (Ev.aQ (fs:=_) (places:=[(0,1),(1,2),(3,18),(21,18),(39,1),(40,2),(42,2)]) z86 rfl Tryz.underlying86 zk (.cons (.c (v:=U8 1) rfl) (.cons (.t rfl) .nil)) (aj.cons aB.eI rfl (aj.cons aB.jF rfl aj.nil))) ?_
  refine tk 13 rfl (Ev.aQ (fs:=_) (places:=[(0,1),(1,44),(45,1),(46,1),(47,1),(48,1)]) z88 rfl Tryz.underlying88 zk (.cons (.c (v:=(Go.Value.string (ByteArray.mk #[108,111,111,107]))) rfl) (.cons (.t rfl) (.cons (.c (v:=I 1) rfl) (.cons (.c (v:=(Go.Value.string (ByteArray.mk #[116,97,112]))) rfl) .nil)))) (aj.cons aO.cN rfl (aj.cons aO.cV rfl (aj.cons aO.bZ rfl (aj.cons aO.dI rfl aj.nil))))) ?_
  refine tk 15 rfl (Ev.aQ (fs:=_) (places:=[(0,1),(1,1),(2,1)]) z73 rfl Tryz.underlying73 zk (.cons (.c (v:=U64 1) rfl) (.cons (.c (v:=U64 1) rfl) (.cons (.c (v:=U64 1) rfl) .nil))) (aj.cons a9.l_num rfl (aj.cons a9.l_den rfl (aj.cons a9.mI rfl aj.nil)))) ?_
  refine tk 16 rfl (Ev.aQ (fs:=_) (places:=[(0,1),(1,3)]) z75 rfl Tryz.underlying75 zk (.cons (.c (v:=(Go.Value.string (ByteArray.mk #[115,108,111,119]))) rfl) (.cons (.t rfl) .nil)) (aj.cons aJ.cN rfl (aj.cons aJ.mJ rfl aj.nil))) ?_
  refine tk 18 rfl (Ev.aQ (fs:=_) (places:=[(0,1),(1,1),(2,1)]) z77 rfl Tryz.underlying77 zk (.cons (.c (v:=(Go.Value.string (ByteArray.mk #[116,97,112]))) rfl) (.cons (.c (v:=I 1) rfl) (.cons (.c (v:=I 2) rfl) .nil))) (aj.cons aD.cN rfl (aj.cons aD.dj rfl (aj.cons aD.l8 rfl aj.nil)))) ?_
  exact goE hH (by repeat first | exact ah.nil | refine ah.cons zr ?_) (st2_64)
end Go.Proofs.YtjanhajdmhalaaaGreat
namespace Go.Proofs.YtjanhajdmhalaaaGreat
open Go Go.Gx Go.Proofs.YtjanhajdmhalaaaGreat.Tri
theorem co5 {K:Ctx} {L:List Res} {x:CB} {l:CL} {d:Int} (w:World) (I:bh K L w) (h0:aP x.o1.v iE l.ps 3 ∈ L:=by repeat first | exact mH | apply mT | apply mA) (h1:aP x.o2.v aA l.rs 111 ∈ L:=by repeat first | exact mH | apply mT | apply mA) (h2:aP x.o3.v aG l.us 88 ∈ L:=by repeat first | exact mH | apply mT | apply mA) (h3:aP x.o4.v ai l.ms 75 ∈ L:=by repeat first | exact mH | apply mT | apply mA) (h4:aP x.o5.v ae l.xs 77 ∈ L:=by repeat first | exact mH | apply mT | apply mA):gw w (x.c d) l:=⟨gf h0 w I,gf h1 w I,gf h2 w I,gf h3 w I,gf h4 w I⟩
theorem pl_at {K:Ctx} {L:List Res} {r:Res} {x:Pl × List Res} {l:CL} {d:Int} (h:∀ w,(∀ q ∈ x.2,q.A w)→jZ w x.1 l d) (hm:eK r x.2 ∈ L) (w:World) (I:bh K L w):jZ w x.1 l d:=h w (eK.A _ _ (at_mem hm w I).1).2
theorem wV1:dvV exL 1 1 (pktH 6 0 #v[10,1,2,3] 80) 0 = ⟨3,3,0,0,-1⟩:=by decide +kernel
theorem wV2:dvV exL 1 3 (pktH 17 0 #v[10,2,2,3] 9) 0 = ⟨3,2,-1,-1,-1⟩:=by decide +kernel
theorem wV3:dvV exL 1 1 (pktH 17 9 #v[10,1,2,3] 9) 0 = ⟨4,-1,1,-1,-1⟩:=by decide +kernel
theorem wE1:deE (pktH 6 0 #v[10,1,2,3] 80) 0 = 0:=by decide +kernel
theorem wE2:deE (pktH 17 0 #v[10,2,2,3] 9) 0 = 0:=by decide +kernel
theorem wE3:deE (pktH 17 9 #v[10,1,2,3] 9) 0 = 0:=by decide +kernel
theorem en9:Gx.aC Tryz.prog 9:=Gx.aC.mk' zk
theorem en5:Gx.aC Tryz.prog 5:=Gx.aC.mk' zk
theorem z59:(Tryz.prog.info? 59).bind (·.zero) = some ((dS 4 u8E).val (dS 4 u8E).zero):=by kernel_rfl
theorem en10:Gx.aC Tryz.prog 10:=Gx.aC.mk' zk
theorem en6:Gx.aC Tryz.prog 6:=Gx.aC.mk' zk
set_option maxRecDepth 8000 in
theorem works_ok (w:World):Gx.Calls Tryz.prog 4 #[] w (cD w (.bool true)):=by
  refine en0 61 Tryz.func4 (fun _ _=>?_)
  refine sg (co (Ev.assign (.c (v:=.bool false) rfl)) ?_)
  refine nP (sg (cons (fQ (X:=CB) (fun _=>True) (fun x=>aK.val (x.c 1)) (fun x=>x.R exL) en9 .nil (fun w I=>example_ok w) (fun s0 _=>?_))))
  refine cons (fQ (X:=Pl × List Res) (CompileJ exL 1) (fun x:Pl × List Res=>.tuple #[.pointer (plO exL 1 x.1.b),I (plE exL 1)]) (fun x=>x.2) en5 (.cons (.t rfl) .nil) (fun w I=>mU (s0.c 1) exL w (co5 (x:=s0) (l:=exL) w I) exL_names exL_n) (fun x1 hx1=>?_))
  refine mv rfl (co (Ev.to (v':=.pointer (some ⟨x1.1.b,0,none⟩)) (Ev.extract (.t rfl) rfl) (congrArg Value.pointer (if_pos exL_may))) ?_)
  refine co (Ev.to (v':=I 0) (Ev.extract (.t rfl) rfl) (congrArg Gx.I (if_pos exL_may))) ?_
  refine asn rfl (asn rfl (nP (seq (seq ?_))))
  obtain ⟨hpk,hpa⟩:=hx1 exL_may
  refine region (mv rfl (co (Ev.eX (.t rfl) (.c (v:=I 0) rfl)) ?_))
  refine nP (il rfl (rfl) ?_)
  refine skip (pN (sg (mv rfl (co (Ev.to (v':=(dS 4 u8E).val #v[10,1,2,3]) (Ev.nw z59 Tryz.underlying59 ty5 (.cons (.c (v:=U8 10) rfl) (.cons (.c (v:=U8 1) rfl) (.cons (.c (v:=U8 2) rfl) (.cons (.c (v:=U8 3) rfl) .nil)))) (aj.cons (dR u8E 0 (by decide)) rfl (aj.cons (dR u8E 1 (by decide)) rfl (aj.cons (dR u8E 2 (by decide)) rfl (aj.cons (dR u8E 3 (by decide)) rfl aj.nil))))) (rfl)) ?_))))
  refine cons (aZ en10 (.cons (.c (v:=U8 6) rfl) (.cons (.c (v:=U8 0) rfl) (.cons (.t rfl) (.cons (.c (v:=U16 80) rfl) .nil)))) (fun w I=>nh _ _ _ _ w) ?_)
  refine cons (aZ en6 (.cons (.t rfl) (.cons (.c (v:=I 1) rfl) (.cons (.t rfl) .nil))) (fun w I=>k8 x1.1 exL 1 1 (pktH 6 0 #v[10,1,2,3] 80) [] w (hpa w (fun r hr=>(I.own r (by repeat first | exact hr | exact List.mem_append_left _ hr | apply List.Mem.tail | apply List.mem_append_right)).1)) hpk (bH.nil _ w) (by simp)) ?_)
  refine mv rfl (co (Ev.to (v':=aW.val (⟨3,3,0,0,-1⟩:aF)) (Ev.extract (.t rfl) rfl) (congrArg aW.val wV1)) ?_)
  refine co (Ev.to (v':=I 0) (Ev.extract (.t rfl) rfl) (congrArg Gx.I wE1)) ?_
  refine cons (alloc z37 (fun b1=>?_))
  refine cons (stv eY (ak.id _) (.t rfl) (.t rfl) ?_)
  refine asn rfl (nP (sg (mv rfl (co (Ev.to (v':=(dS 4 u8E).val #v[10,2,2,3]) (Ev.nw z59 Tryz.underlying59 ty5 (.cons (.c (v:=U8 10) rfl) (.cons (.c (v:=U8 2) rfl) (.cons (.c (v:=U8 2) rfl) (.cons (.c (v:=U8 3) rfl) .nil)))) (aj.cons (dR u8E 0 (by decide)) rfl (aj.cons (dR u8E 1 (by decide)) rfl (aj.cons (dR u8E 2 (by decide)) rfl (aj.cons (dR u8E 3 (by decide)) rfl aj.nil))))) (rfl)) ?_))))
  refine cons (aZ en10 (.cons (.c (v:=U8 17) rfl) (.cons (.c (v:=U8 0) rfl) (.cons (.t rfl) (.cons (.c (v:=U16 9) rfl) .nil)))) (fun w I=>nh _ _ _ _ w) ?_)
  refine cons (aZ en6 (.cons (.t rfl) (.cons (.c (v:=I 3) rfl) (.cons (.t rfl) .nil))) (fun w I=>k8 x1.1 exL 1 3 (pktH 17 0 #v[10,2,2,3] 9) [] w (hpa w (fun r hr=>(I.own r (by repeat first | exact hr | exact List.mem_append_left _ hr | apply List.Mem.tail | apply List.mem_append_right)).1)) hpk (bH.nil _ w) (by simp)) ?_)
  refine mv rfl (co (Ev.to (v':=aW.val (⟨3,2,-1,-1,-1⟩:aF)) (Ev.extract (.t rfl) rfl) (congrArg aW.val wV2)) ?_)
  refine co (Ev.to (v':=I 0) (Ev.extract (.t rfl) rfl) (congrArg Gx.I wE2)) ?_
  refine cons (alloc z37 (fun b2=>?_))
  refine cons (stv eY (ak.id _) (.t rfl) (.t rfl) ?_)
  refine asn rfl (nP (sg (mv rfl (co (Ev.to (v':=(dS 4 u8E).val #v[10,1,2,3]) (Ev.nw z59 Tryz.underlying59 ty5 (.cons (.c (v:=U8 10) rfl) (.cons (.c (v:=U8 1) rfl) (.cons (.c (v:=U8 2) rfl) (.cons (.c (v:=U8 3) rfl) .nil)))) (aj.cons (dR u8E 0 (by decide)) rfl (aj.cons (dR u8E 1 (by decide)) rfl (aj.cons (dR u8E 2 (by decide)) rfl (aj.cons (dR u8E 3 (by decide)) rfl aj.nil))))) (rfl)) ?_))))
  refine cons (aZ en10 (.cons (.c (v:=U8 17) rfl) (.cons (.c (v:=U8 9) rfl) (.cons (.t rfl) (.cons (.c (v:=U16 9) rfl) .nil)))) (fun w I=>nh _ _ _ _ w) ?_)
  refine cons (aZ en6 (.cons (.t rfl) (.cons (.c (v:=I 1) rfl) (.cons (.t rfl) .nil))) (fun w I=>k8 x1.1 exL 1 1 (pktH 17 9 #v[10,1,2,3] 9) [] w (hpa w (fun r hr=>(I.own r (by repeat first | exact hr | exact List.mem_append_left _ hr | apply List.Mem.tail | apply List.mem_append_right)).1)) hpk (bH.nil _ w) (by simp)) ?_)
  refine mv rfl (co (Ev.to (v':=aW.val (⟨4,-1,1,-1,-1⟩:aF)) (Ev.extract (.t rfl) rfl) (congrArg aW.val wV3)) ?_)
  refine co (Ev.to (v':=I 0) (Ev.extract (.t rfl) rfl) (congrArg Gx.I wE3)) ?_
  refine cons (alloc z37 (fun b3=>?_))
  refine cons (stv eY (ak.id _) (.t rfl) (.t rfl) ?_)
  refine asn rfl (nP (sg (mv rfl (co (Ev.fD (.t rfl) (.c (v:=I 0) rfl)) ?_))))
  refine mv rfl (cg rfl rfl (Ev.move (.t rfl)) ?_)
  refine cg rfl rfl (Ev.fD (.g rfl id) (.c (v:=I 0) rfl)) ?_
  refine co (Ev.pkA (.t rfl) rfl) ?_
  refine mv rfl (cg rfl rfl (Ev.move (.t rfl)) ?_)
  refine cg rfl rfl (Ev.fD (.g rfl id) (.c (v:=I 0) rfl)) ?_
  refine co (Ev.pkA (.t rfl) rfl) ?_
  refine mv rfl (cg rfl rfl (Ev.ldv eY (.t rfl) (ak.id _)) ?_)
  refine cg rfl rfl (Ev.aQ (fs:=_) (places:=[(0,1),(1,1),(2,1),(3,1),(4,1)]) z37 rfl Tryz.underlying37 zk (.cons (.c (v:=I 3) rfl) (.cons (.c (v:=I 3) rfl) (.cons (.c (v:=I 0) rfl) (.cons (.c (v:=I 0) rfl) (.cons (.c (v:=I (-1)) rfl) .nil))))) (aj.cons aF.bZ rfl (aj.cons aF.dj rfl (aj.cons aF.iU rfl (aj.cons aF.eL rfl (aj.cons aF.dI rfl aj.nil)))))) ?_
  refine cg rfl rfl (Ev.to (v':=.bool true) (Ev.eqlS rfl pn rfl zk (.g rfl id) (.g rfl id)) (rfl)) ?_
  refine co (Ev.pkA (.t rfl) rfl) ?_
  refine mv rfl (cg rfl rfl (Ev.ldv eY (.t rfl) (ak.id _)) ?_)
  refine cg rfl rfl (Ev.aQ (fs:=_) (places:=[(0,1),(1,1),(2,1),(3,1),(4,1)]) z37 rfl Tryz.underlying37 zk (.cons (.c (v:=I 3) rfl) (.cons (.c (v:=I 2) rfl) (.cons (.c (v:=I (-1)) rfl) (.cons (.c (v:=I (-1)) rfl) (.cons (.c (v:=I (-1)) rfl) .nil))))) (aj.cons aF.bZ rfl (aj.cons aF.dj rfl (aj.cons aF.iU rfl (aj.cons aF.eL rfl (aj.cons aF.dI rfl aj.nil)))))) ?_
  refine cg rfl rfl (Ev.to (v':=.bool true) (Ev.eqlS rfl pn rfl zk (.g rfl id) (.g rfl id)) (rfl)) ?_
  refine co (Ev.pkA (.t rfl) rfl) ?_
  refine mv rfl (cg rfl rfl (Ev.ldv eY (.t rfl) (ak.id _)) ?_)
  refine cg rfl rfl (Ev.aQ (fs:=_) (places:=[(0,1),(1,1),(2,1),(3,1),(4,1)]) z37 rfl Tryz.underlying37 zk (.cons (.c (v:=I 4) rfl) (.cons (.c (v:=I (-1)) rfl) (.cons (.c (v:=I 1) rfl) (.cons (.c (v:=I (-1)) rfl) (.cons (.c (v:=I (-1)) rfl) .nil))))) (aj.cons aF.bZ rfl (aj.cons aF.dj rfl (aj.cons aF.iU rfl (aj.cons aF.eL rfl (aj.cons aF.dI rfl aj.nil)))))) ?_
  refine cg rfl rfl (Ev.to (v':=.bool true) (Ev.eqlS rfl pn rfl zk (.g rfl id) (.g rfl id)) (rfl)) ?_
  refine co (Ev.pkA (.t rfl) rfl) ?_
  refine asn rfl (nP (ret (done rfl (.tmp rfl .nil) (bc ?_))))
  rfl
end Go.Proofs.YtjanhajdmhalaaaGreat
