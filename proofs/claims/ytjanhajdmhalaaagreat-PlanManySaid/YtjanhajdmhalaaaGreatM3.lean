/- Part. -/
import Derived.Test.YtjanhajdmhalaaaGreatM2
set_option linter.unusedVariables false
set_option linter.unusedSimpArgs false
set_option linter.unusedSectionVars false
namespace Go.Proofs.YtjanhajdmhalaaaGreat.Tri
open Go Go.Gx
theorem cR {α:Type} {E:Enc α} {w:World} {b:Nat} {x:α} {T:TypeId} {Rs:List Res} (h:∀ r ∈ Rs,r.A w) (hm:Var b E x T ∈ Rs):cE E w b 0 x:=dw (h _ hm)
theorem Rem.app {r:Res} {L M:List Res} (k:List Res) (h:Rem L r M):Rem (k ++ L) r (k ++ M):=by
  obtain ⟨A,C,rfl,rfl⟩:=h
  exact ⟨k ++ A,C,by simp,by simp⟩
theorem kN (a:a7) (i:Int) (w:World) (hi:0 ≤ i ∧ i < 128) (z:Bool) (hz:decide (dk a.b.toList i = 1) = z):Gx.Calls Tryz.prog 106 #[bP.val a,I i] w (cD w (I (bI z))):=by
  subst hz
  exact bit_ok a i w hi
theorem both_g (k:Bool) (p q:aq) (w:World) (hp:okP k p) (hq:okP k q) (z:aq) (hz:gi p q = z):Gx.Calls Tryz.prog 105 #[aH.val p,aH.val q] w (cD w (aH.val z)):=by
  subst hz
  exact both_ok_c k p q w hp hq
def PutJ (t:PT) (R:Tr aq) (x:PT × List Res):Prop:=x.1.tr = R ∧ ∀ w1,t.At w1→(∀ r ∈ x.2,r.A w1)→x.1.At w1
theorem pq {q p:aq} (h:aq.eqb q p = false):q ≠ p:=fun e=>by
  rw [(aq.bQ q p).2 e] at h
  cases h
theorem kT {x y:aq} {b:Bool} {k:Bool} (hx:okP k x) (hy:okP k y) (h:pb x ++ [b] <+: pb y):0 ≤ x.bits ∧ x.bits < 128:=by
  have h1:=h.length_le
  have h2:=hx.nn
  have h3:=hy.nn
  simp at h1
  omega
abbrev ff (p:aq) (v:Int) (t:Tr aq):Tr aq × Bool:=t.put gi j8 p v
theorem kid_wf {k:Bool} {q:aq} {l r:PT} (hl:l.tr.WF (okP k) pb (pb q ++ [false])) (hr:r.tr.WF (okP k) pb (pb q ++ [true])) (b:Bool):(PT.kid b l r).tr.WF (okP k) pb (pb q ++ [b]):=by cases b <;> assumption
theorem z208:(Tryz.prog.info? 208).bind (·.zero) = some (bu.val bu.zero):=by kernel_rfl
set_option maxRecDepth 8000 in
theorem put_nil (p:aq) (v:Int) (w:World):Gx.Calls Tryz.prog 76 #[.pointer none,aH.val p,I v] w (ja w (PutJ .nil (ff p v .nil).1) (fun x=>.tuple #[x.1.ptr.v,.bool (ff p v .nil).2]) (fun x=>x.2)):=by
  refine en0 132 Tryz.func76 (fun _ _=>?_)
  refine sg (cons (box (E:=aH) (.t rfl) (fun b1=>?_)))
  refine co (Ev.assign (.c (v:=(Go.Value.pointer none)) rfl)) ?_
  refine co (Ev.assign (.c (v:=.bool false) rfl)) ?_
  refine nP (seq (sg (mv rfl (co (Ev.eql_p Tryz.underlying176 (.t rfl) (.c rfl)) ?_))))
  refine nP (condT rfl (rfl) ?_)
  refine sg (co (Ev.ldv cW (.t rfl) (ak.id _)) ?_)
  refine mv rfl (co (Ev.aQ (fs:=_) (places:=[(0,18),(18,1),(19,1),(20,2)]) z208 rfl Tryz.underlying208 zk (.cons (.t rfl) (.cons (.t rfl) (.cons (.c (v:=.bool true) rfl) .nil))) (aj.cons az.l_p rfl (aj.cons az.l_v rfl (aj.cons az.lI rfl aj.nil)))) ?_)
  refine cons (box (E:=bu) (.t rfl) (fun b2=>?_))
  refine asn rfl (co (Ev.assign (.c (v:=.bool true) rfl)) ?_)
  refine nP (ret (pR (done rfl (.tmp rfl (.tmp rfl .nil)) (fun w I=>?_))))
  exact eW (PT.node b2 p v true .nil .nil,[Var b2 bu (⟨p,v,true,kids .nil .nil⟩:az) 208]) ⟨rfl,fun w1 _ h=>⟨cR (T:=208) h (by simp),trivial,trivial⟩⟩ rfl (by repeat first | exact ah.nil | refine ah.cons zr ?_) w I
theorem ty177:bF Tryz.prog 177 (dS 2 (ovE aR)):=bF.mk' zk zk
theorem en105:Gx.aC Tryz.prog 105:=Gx.aC.mk' zk
theorem ty208:bF Tryz.prog 208 bu:=bF.mk' zk zk
theorem dO:bF Tryz.prog 176 (ovE aR):=bF.mk' zk zk
theorem en76:Gx.aC Tryz.prog 76:=Gx.aC.mk' zk
set_option maxRecDepth 8000 in
theorem put_node (k:Bool) (p:aq) (v:Int) (hp:okP k p) (b:Nat) (q:aq) (u:Int) (h:Bool) (l r:PT) (c:List Bool) (w:World) (hat:(PT.node b q u h l r).At w) (hw:(PT.node b q u h l r).tr.WF (okP k) pb c) (hc:c <+: pb p) (ih:∀ bb c' w',(PT.kid bb l r).At w'→(PT.kid bb l r).tr.WF (okP k) pb c'→c' <+: pb p→Gx.Calls Tryz.prog 76 #[(PT.kid bb l r).ptr.v,aH.val p,I v] w' (ja w' (PutJ (PT.kid bb l r) (ff p v (PT.kid bb l r).tr).1) (fun x=>.tuple #[x.1.ptr.v,.bool (ff p v (PT.kid bb l r).tr).2]) (fun x=>x.2))):Gx.Calls Tryz.prog 76 #[.pointer (some ⟨b,0,none⟩),aH.val p,I v] w (ja w (PutJ (PT.node b q u h l r) (ff p v (.node q u h l.tr r.tr)).1) (fun x=>.tuple #[x.1.ptr.v,.bool (ff p v (.node q u h l.tr r.tr)).2]) (fun x=>x.2)):=by
  have hq:okP k q:=hw.1
  refine en0 132 Tryz.func76 (fun _ _=>?_)
  refine sg (cons (box (E:=aH) (.t rfl) (fun b1=>?_)))
  refine co (Ev.assign (.c (v:=(Go.Value.pointer none)) rfl)) ?_
  refine co (Ev.assign (.c (v:=.bool false) rfl)) ?_
  refine nP (seq (sg (mv rfl (co (Ev.eql_p Tryz.underlying176 (.t rfl) (.c rfl)) ?_))))
  refine nP (il rfl (rfl) ?_)
  refine skip (pN (seq (seq (df zk ?_))))
  refine tk 0 rfl (Ev.move (.t rfl)) ?_
  refine tk 1 rfl (Ev.nilCheck (.t rfl)) ?_
  refine tk 2 rfl (fA 0 (.t rfl)) ?_
  refine tk 3 rfl (Ev.load cW (.t rfl) (cU (fun w I=>(hat.1).cB I.keeps) az.l_p)) ?_
  refine tk 4 rfl (Ev.ldv cW (.t rfl) (ak.id _)) ?_
  refine tk 5 rfl (Ev.eqlS rfl kK rfl zk (.t rfl) (.t rfl)) ?_
  refine ovr (pN ?_)
  first | refine aL rfl (fun h1=>?_) (fun h1=>?_) | refine cond rfl (fun h1=>?_) (fun h1=>?_)
  · have hqp:q = p:=(aq.bQ _ _).1 h1
    refine seq (df zk ?_)
    refine tk 0 rfl (Ev.ldv cW (.t rfl) (ak.id _)) ?_
    refine tk 1 rfl (Ev.move (.t rfl)) ?_
    refine tk 2 rfl (Ev.move (.t rfl)) ?_
    refine tk 3 rfl (Ev.nilCheck (.t rfl)) ?_
    refine tk 4 rfl (fA 20 (.t rfl)) ?_
    refine tk 5 rfl (Ev.load ty177 (.t rfl) (cU (fun w I=>(hat.1).cB I.keeps) az.fI)) ?_
    refine tk 6 rfl (Ev.aQ (fs:=_) (places:=[(0,18),(18,1),(19,1),(20,2)]) z208 rfl Tryz.underlying208 zk (.cons (.t rfl) (.cons (.t rfl) (.cons (.c (v:=.bool true) rfl) (.cons (.t rfl) .nil)))) (aj.cons az.l_p rfl (aj.cons az.l_v rfl (aj.cons az.lI rfl (aj.cons az.fI rfl aj.nil))))) ?_
    refine tk 8 rfl (Ev.move (.t rfl)) ?_
    refine tk 9 rfl (Ev.nilCheck (.t rfl)) ?_
    refine tk 10 rfl (fA 19 (.t rfl)) ?_
    refine tk 11 rfl (Ev.load ty4 (.t rfl) (cU (fun w I=>(hat.1).cB I.keeps) az.lI)) ?_
    refine tk 12 rfl (Ev.not (.t rfl)) ?_
    refine al1 7 rfl ((box (E:=bu) (.t rfl) (fun b2=>?_)))
    refine hdn (tk 13 rfl (Ev.assign (.t rfl)) ?_)
    refine tk 14 rfl (Ev.assign (.t rfl)) ?_
    refine ovr (pN (ret (pR (done rfl (.tmp rfl (.tmp rfl .nil)) (fun w I=>?_)))))
    have ep:ff p v (.node q u h l.tr r.tr) = (.node p v true l.tr r.tr,!h):=by show Tr.put _ _ _ _ _ = _; rw [Tr.put,if_pos hqp]
    exact eW (PT.node b2 p v true l r,[Var b2 bu (⟨p,v,true,kids l r⟩:az) 208]) ⟨by rw [ep]; rfl,fun w1 ho hh=>⟨cR (T:=208) hh (by simp),ho.2.1,ho.2.2⟩⟩ (by rw [ep]; rfl) (by repeat first | exact ah.nil | refine ah.cons zr ?_) w I
  · have hqp:q ≠ p:=pq h1
    obtain ⟨c0,hc0⟩:∃ z,gi q p = z:=⟨_,rfl⟩
    have hway:=(keyLaw k).ways hq hp hqp
    refine skip (pN (seq (df zk ?_)))
    refine tk 0 rfl (Ev.move (.t rfl)) ?_
    refine tk 1 rfl (Ev.nilCheck (.t rfl)) ?_
    refine tk 2 rfl (fA 0 (.t rfl)) ?_
    refine tk 3 rfl (Ev.load cW (.t rfl) (cU (fun w I=>(hat.1).cB I.keeps) az.l_p)) ?_
    refine tk 4 rfl (Ev.ldv cW (.t rfl) (ak.id _)) ?_
    refine all [5,6] zk (by decide) (.cons rfl ?_ (.cons rfl ?_ .nil))
    · refine (aZ en105 (.cons (.t rfl) (.cons (.t rfl) .nil)) (fun w I=>both_g k q p w hq hp c0 hc0) ?_)
      refine hdn (al1 6 rfl ((alloc z84 (fun b3=>?_))))
      refine hdn (al1 7 rfl ((stv cW (ak.id _) (.t rfl) (.t rfl) ?_)))
      refine hdn (ovr (pN (seq (sg (co (Ev.ldv cW (.t rfl) (ak.id _)) ?_)))))
      refine nP (block (sg (mv rfl (co (Ev.nilCheck (.t rfl)) ?_))))
      refine co (fA 0 (.t rfl)) ?_
      refine co (Ev.load cW (.t rfl) (cU (fun w I=>(hat.1).cB I.keeps) az.l_p)) ?_
      refine co (Ev.eqlS rfl kK rfl zk (.t rfl) (.t rfl)) ?_
      refine asn rfl (nP ?_)
      first | refine aL rfl (fun h2=>?_) (fun h2=>?_) | refine cond rfl (fun h2=>?_) (fun h2=>?_)
      · have e1:gi q p = q:=hc0.trans ((aq.bQ _ _).1 h2)
        obtain ⟨bb,hbb⟩:∃ z,j8 q p = z:=⟨_,rfl⟩
        have e2:pb q ++ [bb] <+: pb p:=by
          rcases hway with ⟨_,g⟩ | ⟨g,_⟩ | ⟨g,_⟩
          · rw [← hbb]; exact g
          · exact absurd e1 g
          · exact absurd e1 g
        have hlt:=kT hq hp e2
        have hbn:=kO bb
        have hbt:(bI bb).toNat < 2:=by omega
        refine sg (mv rfl (co (Ev.nilCheck (.t rfl)) ?_))
        refine co (Ev.load ty208 (.t rfl) (cU (fun w I=>(hat.1).cB I.keeps) (ak.id _))) ?_
        refine cons (alloc z208 (fun b4=>?_))
        refine cons (stv ty208 (ak.id _) (.t rfl) (.t rfl) ?_)
        refine nP (seq (df zk ?_))
        refine tk 0 rfl (fA 0 (.t rfl)) ?_
        refine tk 1 rfl (Ev.ldv fF (.t rfl) aq.dE) ?_
        refine tk 2 rfl (Ev.move (.t rfl)) ?_
        refine tk 3 rfl (Ev.nilCheck (.t rfl)) ?_
        refine tk 4 rfl (fA 0 (.t rfl)) ?_
        refine tk 5 rfl (fA 17 (.t rfl)) ?_
        refine tk 6 rfl (Ev.load ty3 (.t rfl) (cU (fun w I=>(hat.1).cB I.keeps) (ak.comp az.l_p aq.ea))) ?_
        refine al1 7 rfl ((aZ jL (.cons (.t rfl) (.cons (.t rfl) .nil)) (fun w I=>kN _ _ w hlt bb hbb) ?_))
        refine hdn (tk 8 rfl (Ev.assign (.t rfl)) ?_)
        refine ovr (pN (seq (df zk ?_)))
        refine tk 0 rfl (Ev.move (.t rfl)) ?_
        refine tk 1 rfl (Ev.move (.t rfl)) ?_
        refine tk 2 rfl (Ev.nilCheck (.t rfl)) ?_
        refine tk 3 rfl (fA 20 (.t rfl)) ?_
        refine tk 4 rfl (Ev.cC Tryz.underlying177 dO (.t rfl) (.t rfl) (fun _=>zo)) ?_
        refine tk 5 rfl (Ev.to (v':=(PT.kid bb l r).ptr.v) (Ev.load dO (.t rfl) (cU (fun w I=>(hat.1).cB I.keeps) (ak.comp az.fI (dR (n:=2) (ovE aR) _ (by omega))))) (congrArg OV.v (mK l r bb hbt))) ?_
        refine tk 6 rfl (Ev.ldv cW (.t rfl) (ak.id _)) ?_
        refine tk 7 rfl (Ev.move (.t rfl)) ?_
        refine al1 8 rfl ((fQ (X:=PT × List Res) (PutJ (PT.kid bb l r) (ff p v (PT.kid bb l r).tr).1) (fun x=>.tuple #[x.1.ptr.v,.bool (ff p v (PT.kid bb l r).tr).2]) (fun x=>x.2) en76 (.cons (.t rfl) (.cons (.t rfl) (.cons (.t rfl) .nil))) (fun w I=>ih bb _ w (PT.At.kid (hat.2.1.cB I.keeps) (hat.2.2.cB I.keeps) bb) (kid_wf hw.2.2.1 hw.2.2.2.1 bb) e2) (fun x1 hx1=>?_)))
        refine hdn (tk 9 rfl (Ev.move (.t rfl)) ?_)
        refine tk 10 rfl (Ev.extract (.t rfl) rfl) ?_
        refine tk 11 rfl (Ev.extract (.t rfl) rfl) ?_
        refine tk 12 rfl (Ev.assign (.t rfl)) ?_
        refine tk 13 rfl (Ev.assign (.t rfl)) ?_
        refine ovr (pN (sg (mv rfl (mv rfl (co (fA 20 (.t rfl)) ?_)))))
        refine co (Ev.cC Tryz.underlying177 dO (.t rfl) (.t rfl) (fun _=>zo)) ?_
        refine cons (stv dO (ak.comp az.fI (dR (n:=2) (ovE aR) _ (by omega))) (.t rfl) (.t rfl) ?_)
        refine nP (sg (mv rfl (asn rfl (asn rfl (nP (ret (bR (pR (done rfl (.tmp rfl (.tmp rfl .nil)) (fun w I=>?_))))))))))
        cases bb with
        | true =>
          have ep:ff p v (.node q u h l.tr r.tr) = (.node q u h l.tr (ff p v r.tr).1,(ff p v r.tr).2):=by show Tr.put _ _ _ _ _ = _; rw [Tr.put,if_neg hqp,if_pos e1,if_pos hbb]
          exact eW (PT.node b4 q u h l x1.1,Var b4 bu (⟨q,u,h,kids l x1.1⟩:az) 208 :: x1.2) ⟨by rw [ep]; exact congrArg (Tr.node q u h l.tr) hx1.1,fun w1 ho hh=>⟨cR (T:=208) hh List.mem_cons_self,ho.2.1,hx1.2 w1 ho.2.2 (fun q hq=>hh q (List.mem_cons_of_mem _ hq))⟩⟩ (by rw [ep]; rfl) (by repeat first | refine ah.cons (by repeat first | exact Rem.head | apply Rem.tail | apply Rem.app) ?_ | exact ah.of (by repeat first | exact sR | apply sS | exact List.sublist_append_left _ _)) w I
        | false =>
          have ep:ff p v (.node q u h l.tr r.tr) = (.node q u h (ff p v l.tr).1 r.tr,(ff p v l.tr).2):=by show Tr.put _ _ _ _ _ = _; rw [Tr.put,if_neg hqp,if_pos e1,if_neg (by rw [hbb]; exact Bool.false_ne_true)]
          exact eW (PT.node b4 q u h x1.1 r,Var b4 bu (⟨q,u,h,kids x1.1 r⟩:az) 208 :: x1.2) ⟨by rw [ep]; exact congrArg (fun z=>Tr.node q u h z r.tr) hx1.1,fun w1 ho hh=>⟨cR (T:=208) hh List.mem_cons_self,hx1.2 w1 ho.2.1 (fun q hq=>hh q (List.mem_cons_of_mem _ hq)),ho.2.2⟩⟩ (by rw [ep]; rfl) (by repeat first | refine ah.cons (by repeat first | exact Rem.head | apply Rem.tail | apply Rem.app) ?_ | exact ah.of (by repeat first | exact sR | apply sS | exact List.sublist_append_left _ _)) w I
      · have e0:gi q p ≠ q:=by rw [hc0]; exact pq h2
        refine sg (co (Ev.ldv cW (.t rfl) (ak.id _)) ?_)
        refine co (Ev.eqlS rfl kK rfl zk (.t rfl) (.t rfl)) ?_
        refine asn rfl (nP ?_)
        first | refine aL rfl (fun h3=>?_) (fun h3=>?_) | refine cond rfl (fun h3=>?_) (fun h3=>?_)
        · have e1:gi q p = p:=hc0.trans ((aq.bQ _ _).1 h3)
          obtain ⟨bb,hbb⟩:∃ z,j8 p q = z:=⟨_,rfl⟩
          have e2:pb p ++ [bb] <+: pb q:=by
            rcases hway with ⟨g,_⟩ | ⟨_,_,g⟩ | ⟨_,g,_⟩
            · exact absurd g e0
            · rw [← hbb]; exact g
            · exact absurd e1 g
          have hlt:=kT hp hq e2
          have hbn:=kO bb
          have hbt:(bI bb).toNat < 2:=by omega
          refine sg (co (Ev.ldv cW (.t rfl) (ak.id _)) ?_)
          refine mv rfl (co (Ev.aQ (fs:=_) (places:=[(0,18),(18,1),(19,1),(20,2)]) z208 rfl Tryz.underlying208 zk (.cons (.t rfl) (.cons (.t rfl) (.cons (.c (v:=.bool true) rfl) .nil))) (aj.cons az.l_p rfl (aj.cons az.l_v rfl (aj.cons az.lI rfl aj.nil)))) ?_)
          refine cons (box (E:=bu) (.t rfl) (fun b5=>?_))
          refine asn rfl (nP (seq (lK 87 rfl zr zk ?_)))
          refine tk 0 rfl (Ev.move (.t rfl)) ?_
          refine tk 1 rfl (Ev.move (.t rfl)) ?_
          refine tk 2 rfl (Ev.nilCheck (.t rfl)) ?_
          refine tk 3 rfl (fA 0 (.t rfl)) ?_
          refine tk 4 rfl (fA 0 (.t rfl)) ?_
          refine tk 5 rfl (Ev.load fF (.t rfl) (cU (fun w I=>(hat.1).cB I.keeps) (ak.comp az.l_p aq.dE))) ?_
          refine tk 6 rfl (fA 17 (.t rfl)) ?_
          refine tk 7 rfl (Ev.ldv ty3 (.t rfl) aq.ea) ?_
          refine tk 9 rfl (Ev.to (v':=(PT.node b q u h l r).ptr.v) (Ev.move (.t rfl)) (rfl)) ?_
          refine tk 10 rfl (Ev.nilCheck (.t rfl)) ?_
          refine tk 11 rfl (fA 20 (.t rfl)) ?_
          refine al1 8 rfl ((aZ jL (.cons (.t rfl) (.cons (.t rfl) .nil)) (fun w I=>kN _ _ w hlt bb hbb) ?_))
          refine hdn (tk 12 rfl (Ev.cC Tryz.underlying177 dO (.t rfl) (.t rfl) (fun _=>zo)) ?_)
          refine al1 13 rfl ((stv dO (ak.comp az.fI (dR (n:=2) (ovE aR) _ (by omega))) (.t rfl) (.t rfl) ?_))
          refine hdn (ovr (pN (sg (mv rfl (asn rfl (co (Ev.assign (.c (v:=.bool true) rfl)) ?_))))))
          refine nP (ret (bR (pR (done rfl (.tmp rfl (.tmp rfl .nil)) (fun w I=>?_)))))
          cases bb with
          | true =>
            have ep:ff p v (.node q u h l.tr r.tr) = (.node p v true .nil (.node q u h l.tr r.tr),true):=by show Tr.put _ _ _ _ _ = _; rw [Tr.put,if_neg hqp,if_neg e0,if_pos e1,if_pos hbb]
            exact eW (PT.node b5 p v true .nil (PT.node b q u h l r),[Var b5 bu (⟨p,v,true,kids .nil (PT.node b q u h l r)⟩:az) 208]) ⟨by rw [ep]; rfl,fun w1 ho hh=>⟨cR (T:=208) hh (by simp),trivial,ho⟩⟩ (by rw [ep]; rfl) (by repeat first | exact ah.nil | refine ah.cons zr ?_) w I
          | false =>
            have ep:ff p v (.node q u h l.tr r.tr) = (.node p v true (.node q u h l.tr r.tr) .nil,true):=by show Tr.put _ _ _ _ _ = _; rw [Tr.put,if_neg hqp,if_neg e0,if_pos e1,if_neg (by rw [hbb]; exact Bool.false_ne_true)]
            exact eW (PT.node b5 p v true (PT.node b q u h l r) .nil,[Var b5 bu (⟨p,v,true,kids (PT.node b q u h l r) .nil⟩:az) 208]) ⟨by rw [ep]; rfl,fun w1 ho hh=>⟨cR (T:=208) hh (by simp),ho,trivial⟩⟩ (by rw [ep]; rfl) (by repeat first | exact ah.nil | refine ah.cons zr ?_) w I
        · have e1:gi q p ≠ p:=by rw [hc0]; exact pq h3
          obtain ⟨bp,hbp⟩:∃ z,j8 c0 p = z:=⟨_,rfl⟩
          obtain ⟨bq,hbq⟩:∃ z,j8 c0 q = z:=⟨_,rfl⟩
          obtain ⟨g2,g5,g6⟩:okP k c0 ∧ bq = (!bp) ∧ pb c0 ++ [bp] <+: pb p:=by
            rcases hway with ⟨g,_⟩ | ⟨_,g,_⟩ | ⟨_,_,a2,_,a4,_,a6⟩
            · exact absurd g e0
            · exact absurd g e1
            · rw [hc0] at a2 a4 a6
              rw [hbp] at a4 a6
              exact ⟨a2,hbq.symm.trans a4,a6⟩
          have hbqp:=g5
          have hlt:=kT g2 hp g6
          have hbn:=kO bp
          have hbt:(bI bp).toNat < 2:=by omega
          have hbn2:=kO bq
          have hbt2:(bI bq).toNat < 2:=by omega
          refine skip (bN (pN (sg (co (Ev.ldv cW (.t rfl) (ak.id _)) ?_))))
          refine co (Ev.aQ (fs:=_) (places:=[(0,18),(18,1),(19,1),(20,2)]) z208 rfl Tryz.underlying208 zk (.cons (.t rfl) .nil) (aj.cons az.l_p rfl aj.nil)) ?_
          refine cons (box (E:=bu) (.t rfl) (fun b6=>?_))
          refine asn rfl (nP (seq (lK 104 rfl zr zk ?_)))
          refine tk 0 rfl (Ev.move (.t rfl)) ?_
          refine tk 1 rfl (Ev.move (.t rfl)) ?_
          refine tk 2 rfl (Ev.nilCheck (.t rfl)) ?_
          refine tk 3 rfl (fA 0 (.t rfl)) ?_
          refine tk 4 rfl (fA 0 (.t rfl)) ?_
          refine tk 5 rfl (Ev.load fF (.t rfl) (cU (fun w I=>(hat.1).cB I.keeps) (ak.comp az.l_p aq.dE))) ?_
          refine tk 6 rfl (fA 17 (.t rfl)) ?_
          refine tk 7 rfl (Ev.ldv ty3 (.t rfl) aq.ea) ?_
          refine tk 9 rfl (Ev.to (v':=(PT.node b q u h l r).ptr.v) (Ev.move (.t rfl)) (rfl)) ?_
          refine tk 10 rfl (Ev.nilCheck (.t rfl)) ?_
          refine tk 11 rfl (fA 20 (.t rfl)) ?_
          refine al1 8 rfl ((aZ jL (.cons (.t rfl) (.cons (.t rfl) .nil)) (fun w I=>kN _ _ w hlt bq hbq) ?_))
          refine hdn (tk 12 rfl (Ev.cC Tryz.underlying177 dO (.t rfl) (.t rfl) (fun _=>zo)) ?_)
          refine al1 13 rfl ((stv dO (ak.comp az.fI (dR (n:=2) (ovE aR) _ (by omega))) (.t rfl) (.t rfl) ?_))
          refine hdn (ovr (pN (seq (lK 104 rfl zr zk ?_))))
          refine tk 0 rfl (Ev.move (.t rfl)) ?_
          refine tk 1 rfl (fA 0 (.t rfl)) ?_
          refine tk 2 rfl (Ev.ldv fF (.t rfl) aq.dE) ?_
          refine tk 3 rfl (fA 17 (.t rfl)) ?_
          refine tk 4 rfl (Ev.ldv ty3 (.t rfl) aq.ea) ?_
          refine tk 6 rfl (Ev.ldv cW (.t rfl) (ak.id _)) ?_
          refine tk 7 rfl (Ev.move (.t rfl)) ?_
          refine tk 8 rfl (Ev.aQ (fs:=_) (places:=[(0,18),(18,1),(19,1),(20,2)]) z208 rfl Tryz.underlying208 zk (.cons (.t rfl) (.cons (.t rfl) (.cons (.c (v:=.bool true) rfl) .nil))) (aj.cons az.l_p rfl (aj.cons az.l_v rfl (aj.cons az.lI rfl aj.nil)))) ?_
          refine tk 10 rfl (Ev.nilCheck (.t rfl)) ?_
          refine tk 11 rfl (fA 20 (.t rfl)) ?_
          refine all [5,9] zk (by decide) (.cons rfl ?_ (.cons rfl ?_ .nil))
          · refine (aZ jL (.cons (.t rfl) (.cons (.t rfl) .nil)) (fun w I=>kN _ _ w hlt bp hbp) ?_)
            refine hdn (al1 9 rfl ((box (E:=bu) (.t rfl) (fun b7=>?_))))
            refine hdn (tk 12 rfl (Ev.cC Tryz.underlying177 dO (.t rfl) (.t rfl) (fun _=>zo)) ?_)
            refine al1 13 rfl ((stv dO (ak.comp az.fI (dR (n:=2) (ovE aR) _ (by omega))) (.t rfl) (.t (v:=(PT.node b7 p v true .nil .nil).ptr.v) rfl) ?_))
            refine hdn (ovr (pN (sg (mv rfl (asn rfl (co (Ev.assign (.c (v:=.bool true) rfl)) ?_))))))
            refine nP (ret (done rfl (.tmp rfl (.tmp rfl .nil)) (fun w I=>?_)))
            cases bp with
            | true =>
              obtain rfl:bq = false:=hbqp
              have ep:ff p v (.node q u h l.tr r.tr) = (.node c0 0 false (.node q u h l.tr r.tr) (.node p v true .nil .nil),true):=by show Tr.put _ _ _ _ _ = _; rw [Tr.put,if_neg hqp,if_neg e0,if_neg e1,hc0,if_pos hbp]
              exact eW (PT.node b6 c0 0 false (PT.node b q u h l r) (PT.node b7 p v true .nil .nil),[Var b7 bu (⟨p,v,true,kids .nil .nil⟩:az) 208,Var b6 bu (⟨c0,0,false,kids (PT.node b q u h l r) (PT.node b7 p v true .nil .nil)⟩:az) 208]) ⟨by rw [ep]; rfl,fun w1 ho hh=>⟨cR (T:=208) hh (by simp),ho,cR (T:=208) hh (by simp),trivial,trivial⟩⟩ (by rw [ep]; rfl) (by repeat first | exact ah.nil | refine ah.cons zr ?_) w I
            | false =>
              obtain rfl:bq = true:=hbqp
              have ep:ff p v (.node q u h l.tr r.tr) = (.node c0 0 false (.node p v true .nil .nil) (.node q u h l.tr r.tr),true):=by show Tr.put _ _ _ _ _ = _; rw [Tr.put,if_neg hqp,if_neg e0,if_neg e1,hc0,if_neg (by rw [hbp]; exact Bool.false_ne_true)]
              exact eW (PT.node b6 c0 0 false (PT.node b7 p v true .nil .nil) (PT.node b q u h l r),[Var b7 bu (⟨p,v,true,kids .nil .nil⟩:az) 208,Var b6 bu (⟨c0,0,false,kids (PT.node b7 p v true .nil .nil) (PT.node b q u h l r)⟩:az) 208]) ⟨by rw [ep]; rfl,fun w1 ho hh=>⟨cR (T:=208) hh (by simp),⟨cR (T:=208) hh (by simp),trivial,trivial⟩,ho⟩⟩ (by rw [ep]; rfl) (by repeat first | exact ah.nil | refine ah.cons zr ?_) w I
          · refine (box (E:=bu) (.t rfl) (fun b8=>?_))
            refine hdn (al1 5 rfl ((aZ jL (.cons (.t rfl) (.cons (.t rfl) .nil)) (fun w I=>kN _ _ w hlt bp hbp) ?_)))
            refine hdn (tk 12 rfl (Ev.cC Tryz.underlying177 dO (.t rfl) (.t rfl) (fun _=>zo)) ?_)
            refine al1 13 rfl ((stv dO (ak.comp az.fI (dR (n:=2) (ovE aR) _ (by omega))) (.t rfl) (.t (v:=(PT.node b8 p v true .nil .nil).ptr.v) rfl) ?_))
            refine hdn (ovr (pN (sg (mv rfl (asn rfl (co (Ev.assign (.c (v:=.bool true) rfl)) ?_))))))
            refine nP (ret (done rfl (.tmp rfl (.tmp rfl .nil)) (fun w I=>?_)))
            cases bp with
            | true =>
              obtain rfl:bq = false:=hbqp
              have ep:ff p v (.node q u h l.tr r.tr) = (.node c0 0 false (.node q u h l.tr r.tr) (.node p v true .nil .nil),true):=by show Tr.put _ _ _ _ _ = _; rw [Tr.put,if_neg hqp,if_neg e0,if_neg e1,hc0,if_pos hbp]
              exact eW (PT.node b6 c0 0 false (PT.node b q u h l r) (PT.node b8 p v true .nil .nil),[Var b8 bu (⟨p,v,true,kids .nil .nil⟩:az) 208,Var b6 bu (⟨c0,0,false,kids (PT.node b q u h l r) (PT.node b8 p v true .nil .nil)⟩:az) 208]) ⟨by rw [ep]; rfl,fun w1 ho hh=>⟨cR (T:=208) hh (by simp),ho,cR (T:=208) hh (by simp),trivial,trivial⟩⟩ (by rw [ep]; rfl) (by repeat first | exact ah.nil | refine ah.cons zr ?_) w I
            | false =>
              obtain rfl:bq = true:=hbqp
              have ep:ff p v (.node q u h l.tr r.tr) = (.node c0 0 false (.node p v true .nil .nil) (.node q u h l.tr r.tr),true):=by show Tr.put _ _ _ _ _ = _; rw [Tr.put,if_neg hqp,if_neg e0,if_neg e1,hc0,if_neg (by rw [hbp]; exact Bool.false_ne_true)]
              exact eW (PT.node b6 c0 0 false (PT.node b8 p v true .nil .nil) (PT.node b q u h l r),[Var b8 bu (⟨p,v,true,kids .nil .nil⟩:az) 208,Var b6 bu (⟨c0,0,false,kids (PT.node b8 p v true .nil .nil) (PT.node b q u h l r)⟩:az) 208]) ⟨by rw [ep]; rfl,fun w1 ho hh=>⟨cR (T:=208) hh (by simp),⟨cR (T:=208) hh (by simp),trivial,trivial⟩,ho⟩⟩ (by rw [ep]; rfl) (by repeat first | exact ah.nil | refine ah.cons zr ?_) w I
    · refine (alloc z84 (fun b9=>?_))
      refine hdn (al1 5 rfl ((aZ en105 (.cons (.t rfl) (.cons (.t rfl) .nil)) (fun w I=>both_g k q p w hq hp c0 hc0) ?_)))
      refine hdn (al1 7 rfl ((stv cW (ak.id _) (.t rfl) (.t rfl) ?_)))
      refine hdn (ovr (pN (seq (sg (co (Ev.ldv cW (.t rfl) (ak.id _)) ?_)))))
      refine nP (block (sg (mv rfl (co (Ev.nilCheck (.t rfl)) ?_))))
      refine co (fA 0 (.t rfl)) ?_
      refine co (Ev.load cW (.t rfl) (cU (fun w I=>(hat.1).cB I.keeps) az.l_p)) ?_
      refine co (Ev.eqlS rfl kK rfl zk (.t rfl) (.t rfl)) ?_
      refine asn rfl (nP ?_)
      first | refine aL rfl (fun h2=>?_) (fun h2=>?_) | refine cond rfl (fun h2=>?_) (fun h2=>?_)
      · have e1:gi q p = q:=hc0.trans ((aq.bQ _ _).1 h2)
        obtain ⟨bb,hbb⟩:∃ z,j8 q p = z:=⟨_,rfl⟩
        have e2:pb q ++ [bb] <+: pb p:=by
          rcases hway with ⟨_,g⟩ | ⟨g,_⟩ | ⟨g,_⟩
          · rw [← hbb]; exact g
          · exact absurd e1 g
          · exact absurd e1 g
        have hlt:=kT hq hp e2
        have hbn:=kO bb
        have hbt:(bI bb).toNat < 2:=by omega
        refine sg (mv rfl (co (Ev.nilCheck (.t rfl)) ?_))
        refine co (Ev.load ty208 (.t rfl) (cU (fun w I=>(hat.1).cB I.keeps) (ak.id _))) ?_
        refine cons (alloc z208 (fun b10=>?_))
        refine cons (stv ty208 (ak.id _) (.t rfl) (.t rfl) ?_)
        refine nP (seq (df zk ?_))
        refine tk 0 rfl (fA 0 (.t rfl)) ?_
        refine tk 1 rfl (Ev.ldv fF (.t rfl) aq.dE) ?_
        refine tk 2 rfl (Ev.move (.t rfl)) ?_
        refine tk 3 rfl (Ev.nilCheck (.t rfl)) ?_
        refine tk 4 rfl (fA 0 (.t rfl)) ?_
        refine tk 5 rfl (fA 17 (.t rfl)) ?_
        refine tk 6 rfl (Ev.load ty3 (.t rfl) (cU (fun w I=>(hat.1).cB I.keeps) (ak.comp az.l_p aq.ea))) ?_
        refine al1 7 rfl ((aZ jL (.cons (.t rfl) (.cons (.t rfl) .nil)) (fun w I=>kN _ _ w hlt bb hbb) ?_))
        refine hdn (tk 8 rfl (Ev.assign (.t rfl)) ?_)
        refine ovr (pN (seq (df zk ?_)))
        refine tk 0 rfl (Ev.move (.t rfl)) ?_
        refine tk 1 rfl (Ev.move (.t rfl)) ?_
        refine tk 2 rfl (Ev.nilCheck (.t rfl)) ?_
        refine tk 3 rfl (fA 20 (.t rfl)) ?_
        refine tk 4 rfl (Ev.cC Tryz.underlying177 dO (.t rfl) (.t rfl) (fun _=>zo)) ?_
        refine tk 5 rfl (Ev.to (v':=(PT.kid bb l r).ptr.v) (Ev.load dO (.t rfl) (cU (fun w I=>(hat.1).cB I.keeps) (ak.comp az.fI (dR (n:=2) (ovE aR) _ (by omega))))) (congrArg OV.v (mK l r bb hbt))) ?_
        refine tk 6 rfl (Ev.ldv cW (.t rfl) (ak.id _)) ?_
        refine tk 7 rfl (Ev.move (.t rfl)) ?_
        refine al1 8 rfl ((fQ (X:=PT × List Res) (PutJ (PT.kid bb l r) (ff p v (PT.kid bb l r).tr).1) (fun x=>.tuple #[x.1.ptr.v,.bool (ff p v (PT.kid bb l r).tr).2]) (fun x=>x.2) en76 (.cons (.t rfl) (.cons (.t rfl) (.cons (.t rfl) .nil))) (fun w I=>ih bb _ w (PT.At.kid (hat.2.1.cB I.keeps) (hat.2.2.cB I.keeps) bb) (kid_wf hw.2.2.1 hw.2.2.2.1 bb) e2) (fun x1 hx1=>?_)))
        refine hdn (tk 9 rfl (Ev.move (.t rfl)) ?_)
        refine tk 10 rfl (Ev.extract (.t rfl) rfl) ?_
        refine tk 11 rfl (Ev.extract (.t rfl) rfl) ?_
        refine tk 12 rfl (Ev.assign (.t rfl)) ?_
        refine tk 13 rfl (Ev.assign (.t rfl)) ?_
        refine ovr (pN (sg (mv rfl (mv rfl (co (fA 20 (.t rfl)) ?_)))))
        refine co (Ev.cC Tryz.underlying177 dO (.t rfl) (.t rfl) (fun _=>zo)) ?_
        refine cons (stv dO (ak.comp az.fI (dR (n:=2) (ovE aR) _ (by omega))) (.t rfl) (.t rfl) ?_)
        refine nP (sg (mv rfl (asn rfl (asn rfl (nP (ret (bR (pR (done rfl (.tmp rfl (.tmp rfl .nil)) (fun w I=>?_))))))))))
        cases bb with
        | true =>
          have ep:ff p v (.node q u h l.tr r.tr) = (.node q u h l.tr (ff p v r.tr).1,(ff p v r.tr).2):=by show Tr.put _ _ _ _ _ = _; rw [Tr.put,if_neg hqp,if_pos e1,if_pos hbb]
          exact eW (PT.node b10 q u h l x1.1,Var b10 bu (⟨q,u,h,kids l x1.1⟩:az) 208 :: x1.2) ⟨by rw [ep]; exact congrArg (Tr.node q u h l.tr) hx1.1,fun w1 ho hh=>⟨cR (T:=208) hh List.mem_cons_self,ho.2.1,hx1.2 w1 ho.2.2 (fun q hq=>hh q (List.mem_cons_of_mem _ hq))⟩⟩ (by rw [ep]; rfl) (by repeat first | refine ah.cons (by repeat first | exact Rem.head | apply Rem.tail | apply Rem.app) ?_ | exact ah.of (by repeat first | exact sR | apply sS | exact List.sublist_append_left _ _)) w I
        | false =>
          have ep:ff p v (.node q u h l.tr r.tr) = (.node q u h (ff p v l.tr).1 r.tr,(ff p v l.tr).2):=by show Tr.put _ _ _ _ _ = _; rw [Tr.put,if_neg hqp,if_pos e1,if_neg (by rw [hbb]; exact Bool.false_ne_true)]
          exact eW (PT.node b10 q u h x1.1 r,Var b10 bu (⟨q,u,h,kids x1.1 r⟩:az) 208 :: x1.2) ⟨by rw [ep]; exact congrArg (fun z=>Tr.node q u h z r.tr) hx1.1,fun w1 ho hh=>⟨cR (T:=208) hh List.mem_cons_self,hx1.2 w1 ho.2.1 (fun q hq=>hh q (List.mem_cons_of_mem _ hq)),ho.2.2⟩⟩ (by rw [ep]; rfl) (by repeat first | refine ah.cons (by repeat first | exact Rem.head | apply Rem.tail | apply Rem.app) ?_ | exact ah.of (by repeat first | exact sR | apply sS | exact List.sublist_append_left _ _)) w I
      · have e0:gi q p ≠ q:=by rw [hc0]; exact pq h2
        refine sg (co (Ev.ldv cW (.t rfl) (ak.id _)) ?_)
        refine co (Ev.eqlS rfl kK rfl zk (.t rfl) (.t rfl)) ?_
        refine asn rfl (nP ?_)
        first | refine aL rfl (fun h3=>?_) (fun h3=>?_) | refine cond rfl (fun h3=>?_) (fun h3=>?_)
        · have e1:gi q p = p:=hc0.trans ((aq.bQ _ _).1 h3)
          obtain ⟨bb,hbb⟩:∃ z,j8 p q = z:=⟨_,rfl⟩
          have e2:pb p ++ [bb] <+: pb q:=by
            rcases hway with ⟨g,_⟩ | ⟨_,_,g⟩ | ⟨_,g,_⟩
            · exact absurd g e0
            · rw [← hbb]; exact g
            · exact absurd e1 g
          have hlt:=kT hp hq e2
          have hbn:=kO bb
          have hbt:(bI bb).toNat < 2:=by omega
          refine sg (co (Ev.ldv cW (.t rfl) (ak.id _)) ?_)
          refine mv rfl (co (Ev.aQ (fs:=_) (places:=[(0,18),(18,1),(19,1),(20,2)]) z208 rfl Tryz.underlying208 zk (.cons (.t rfl) (.cons (.t rfl) (.cons (.c (v:=.bool true) rfl) .nil))) (aj.cons az.l_p rfl (aj.cons az.l_v rfl (aj.cons az.lI rfl aj.nil)))) ?_)
          refine cons (box (E:=bu) (.t rfl) (fun b11=>?_))
          refine asn rfl (nP (seq (lK 87 rfl zr zk ?_)))
          refine tk 0 rfl (Ev.move (.t rfl)) ?_
          refine tk 1 rfl (Ev.move (.t rfl)) ?_
          refine tk 2 rfl (Ev.nilCheck (.t rfl)) ?_
          refine tk 3 rfl (fA 0 (.t rfl)) ?_
          refine tk 4 rfl (fA 0 (.t rfl)) ?_
          refine tk 5 rfl (Ev.load fF (.t rfl) (cU (fun w I=>(hat.1).cB I.keeps) (ak.comp az.l_p aq.dE))) ?_
          refine tk 6 rfl (fA 17 (.t rfl)) ?_
          refine tk 7 rfl (Ev.ldv ty3 (.t rfl) aq.ea) ?_
          refine tk 9 rfl (Ev.to (v':=(PT.node b q u h l r).ptr.v) (Ev.move (.t rfl)) (rfl)) ?_
          refine tk 10 rfl (Ev.nilCheck (.t rfl)) ?_
          refine tk 11 rfl (fA 20 (.t rfl)) ?_
          refine al1 8 rfl ((aZ jL (.cons (.t rfl) (.cons (.t rfl) .nil)) (fun w I=>kN _ _ w hlt bb hbb) ?_))
          refine hdn (tk 12 rfl (Ev.cC Tryz.underlying177 dO (.t rfl) (.t rfl) (fun _=>zo)) ?_)
          refine al1 13 rfl ((stv dO (ak.comp az.fI (dR (n:=2) (ovE aR) _ (by omega))) (.t rfl) (.t rfl) ?_))
          refine hdn (ovr (pN (sg (mv rfl (asn rfl (co (Ev.assign (.c (v:=.bool true) rfl)) ?_))))))
          refine nP (ret (bR (pR (done rfl (.tmp rfl (.tmp rfl .nil)) (fun w I=>?_)))))
          cases bb with
          | true =>
            have ep:ff p v (.node q u h l.tr r.tr) = (.node p v true .nil (.node q u h l.tr r.tr),true):=by show Tr.put _ _ _ _ _ = _; rw [Tr.put,if_neg hqp,if_neg e0,if_pos e1,if_pos hbb]
            exact eW (PT.node b11 p v true .nil (PT.node b q u h l r),[Var b11 bu (⟨p,v,true,kids .nil (PT.node b q u h l r)⟩:az) 208]) ⟨by rw [ep]; rfl,fun w1 ho hh=>⟨cR (T:=208) hh (by simp),trivial,ho⟩⟩ (by rw [ep]; rfl) (by repeat first | exact ah.nil | refine ah.cons zr ?_) w I
          | false =>
            have ep:ff p v (.node q u h l.tr r.tr) = (.node p v true (.node q u h l.tr r.tr) .nil,true):=by show Tr.put _ _ _ _ _ = _; rw [Tr.put,if_neg hqp,if_neg e0,if_pos e1,if_neg (by rw [hbb]; exact Bool.false_ne_true)]
            exact eW (PT.node b11 p v true (PT.node b q u h l r) .nil,[Var b11 bu (⟨p,v,true,kids (PT.node b q u h l r) .nil⟩:az) 208]) ⟨by rw [ep]; rfl,fun w1 ho hh=>⟨cR (T:=208) hh (by simp),ho,trivial⟩⟩ (by rw [ep]; rfl) (by repeat first | exact ah.nil | refine ah.cons zr ?_) w I
        · have e1:gi q p ≠ p:=by rw [hc0]; exact pq h3
          obtain ⟨bp,hbp⟩:∃ z,j8 c0 p = z:=⟨_,rfl⟩
          obtain ⟨bq,hbq⟩:∃ z,j8 c0 q = z:=⟨_,rfl⟩
          obtain ⟨g2,g5,g6⟩:okP k c0 ∧ bq = (!bp) ∧ pb c0 ++ [bp] <+: pb p:=by
            rcases hway with ⟨g,_⟩ | ⟨_,g,_⟩ | ⟨_,_,a2,_,a4,_,a6⟩
            · exact absurd g e0
            · exact absurd g e1
            · rw [hc0] at a2 a4 a6
              rw [hbp] at a4 a6
              exact ⟨a2,hbq.symm.trans a4,a6⟩
          have hbqp:=g5
          have hlt:=kT g2 hp g6
          have hbn:=kO bp
          have hbt:(bI bp).toNat < 2:=by omega
          have hbn2:=kO bq
          have hbt2:(bI bq).toNat < 2:=by omega
          refine skip (bN (pN (sg (co (Ev.ldv cW (.t rfl) (ak.id _)) ?_))))
          refine co (Ev.aQ (fs:=_) (places:=[(0,18),(18,1),(19,1),(20,2)]) z208 rfl Tryz.underlying208 zk (.cons (.t rfl) .nil) (aj.cons az.l_p rfl aj.nil)) ?_
          refine cons (box (E:=bu) (.t rfl) (fun b12=>?_))
          refine asn rfl (nP (seq (lK 104 rfl zr zk ?_)))
          refine tk 0 rfl (Ev.move (.t rfl)) ?_
          refine tk 1 rfl (Ev.move (.t rfl)) ?_
          refine tk 2 rfl (Ev.nilCheck (.t rfl)) ?_
          refine tk 3 rfl (fA 0 (.t rfl)) ?_
          refine tk 4 rfl (fA 0 (.t rfl)) ?_
          refine tk 5 rfl (Ev.load fF (.t rfl) (cU (fun w I=>(hat.1).cB I.keeps) (ak.comp az.l_p aq.dE))) ?_
          refine tk 6 rfl (fA 17 (.t rfl)) ?_
          refine tk 7 rfl (Ev.ldv ty3 (.t rfl) aq.ea) ?_
          refine tk 9 rfl (Ev.to (v':=(PT.node b q u h l r).ptr.v) (Ev.move (.t rfl)) (rfl)) ?_
          refine tk 10 rfl (Ev.nilCheck (.t rfl)) ?_
          refine tk 11 rfl (fA 20 (.t rfl)) ?_
          refine al1 8 rfl ((aZ jL (.cons (.t rfl) (.cons (.t rfl) .nil)) (fun w I=>kN _ _ w hlt bq hbq) ?_))
          refine hdn (tk 12 rfl (Ev.cC Tryz.underlying177 dO (.t rfl) (.t rfl) (fun _=>zo)) ?_)
          refine al1 13 rfl ((stv dO (ak.comp az.fI (dR (n:=2) (ovE aR) _ (by omega))) (.t rfl) (.t rfl) ?_))
          refine hdn (ovr (pN (seq (lK 104 rfl zr zk ?_))))
          refine tk 0 rfl (Ev.move (.t rfl)) ?_
          refine tk 1 rfl (fA 0 (.t rfl)) ?_
          refine tk 2 rfl (Ev.ldv fF (.t rfl) aq.dE) ?_
          refine tk 3 rfl (fA 17 (.t rfl)) ?_
          refine tk 4 rfl (Ev.ldv ty3 (.t rfl) aq.ea) ?_
          refine tk 6 rfl (Ev.ldv cW (.t rfl) (ak.id _)) ?_
          refine tk 7 rfl (Ev.move (.t rfl)) ?_
          refine tk 8 rfl (Ev.aQ (fs:=_) (places:=[(0,18),(18,1),(19,1),(20,2)]) z208 rfl Tryz.underlying208 zk (.cons (.t rfl) (.cons (.t rfl) (.cons (.c (v:=.bool true) rfl) .nil))) (aj.cons az.l_p rfl (aj.cons az.l_v rfl (aj.cons az.lI rfl aj.nil)))) ?_
          refine tk 10 rfl (Ev.nilCheck (.t rfl)) ?_
          refine tk 11 rfl (fA 20 (.t rfl)) ?_
          refine all [5,9] zk (by decide) (.cons rfl ?_ (.cons rfl ?_ .nil))
          · refine (aZ jL (.cons (.t rfl) (.cons (.t rfl) .nil)) (fun w I=>kN _ _ w hlt bp hbp) ?_)
            refine hdn (al1 9 rfl ((box (E:=bu) (.t rfl) (fun b13=>?_))))
            refine hdn (tk 12 rfl (Ev.cC Tryz.underlying177 dO (.t rfl) (.t rfl) (fun _=>zo)) ?_)
            refine al1 13 rfl ((stv dO (ak.comp az.fI (dR (n:=2) (ovE aR) _ (by omega))) (.t rfl) (.t (v:=(PT.node b13 p v true .nil .nil).ptr.v) rfl) ?_))
            refine hdn (ovr (pN (sg (mv rfl (asn rfl (co (Ev.assign (.c (v:=.bool true) rfl)) ?_))))))
            refine nP (ret (done rfl (.tmp rfl (.tmp rfl .nil)) (fun w I=>?_)))
            cases bp with
            | true =>
              obtain rfl:bq = false:=hbqp
              have ep:ff p v (.node q u h l.tr r.tr) = (.node c0 0 false (.node q u h l.tr r.tr) (.node p v true .nil .nil),true):=by show Tr.put _ _ _ _ _ = _; rw [Tr.put,if_neg hqp,if_neg e0,if_neg e1,hc0,if_pos hbp]
              exact eW (PT.node b12 c0 0 false (PT.node b q u h l r) (PT.node b13 p v true .nil .nil),[Var b13 bu (⟨p,v,true,kids .nil .nil⟩:az) 208,Var b12 bu (⟨c0,0,false,kids (PT.node b q u h l r) (PT.node b13 p v true .nil .nil)⟩:az) 208]) ⟨by rw [ep]; rfl,fun w1 ho hh=>⟨cR (T:=208) hh (by simp),ho,cR (T:=208) hh (by simp),trivial,trivial⟩⟩ (by rw [ep]; rfl) (by repeat first | exact ah.nil | refine ah.cons zr ?_) w I
            | false =>
              obtain rfl:bq = true:=hbqp
              have ep:ff p v (.node q u h l.tr r.tr) = (.node c0 0 false (.node p v true .nil .nil) (.node q u h l.tr r.tr),true):=by show Tr.put _ _ _ _ _ = _; rw [Tr.put,if_neg hqp,if_neg e0,if_neg e1,hc0,if_neg (by rw [hbp]; exact Bool.false_ne_true)]
              exact eW (PT.node b12 c0 0 false (PT.node b13 p v true .nil .nil) (PT.node b q u h l r),[Var b13 bu (⟨p,v,true,kids .nil .nil⟩:az) 208,Var b12 bu (⟨c0,0,false,kids (PT.node b13 p v true .nil .nil) (PT.node b q u h l r)⟩:az) 208]) ⟨by rw [ep]; rfl,fun w1 ho hh=>⟨cR (T:=208) hh (by simp),⟨cR (T:=208) hh (by simp),trivial,trivial⟩,ho⟩⟩ (by rw [ep]; rfl) (by repeat first | exact ah.nil | refine ah.cons zr ?_) w I
          · refine (box (E:=bu) (.t rfl) (fun b14=>?_))
            refine hdn (al1 5 rfl ((aZ jL (.cons (.t rfl) (.cons (.t rfl) .nil)) (fun w I=>kN _ _ w hlt bp hbp) ?_)))
            refine hdn (tk 12 rfl (Ev.cC Tryz.underlying177 dO (.t rfl) (.t rfl) (fun _=>zo)) ?_)
            refine al1 13 rfl ((stv dO (ak.comp az.fI (dR (n:=2) (ovE aR) _ (by omega))) (.t rfl) (.t (v:=(PT.node b14 p v true .nil .nil).ptr.v) rfl) ?_))
            refine hdn (ovr (pN (sg (mv rfl (asn rfl (co (Ev.assign (.c (v:=.bool true) rfl)) ?_))))))
            refine nP (ret (done rfl (.tmp rfl (.tmp rfl .nil)) (fun w I=>?_)))
            cases bp with
            | true =>
              obtain rfl:bq = false:=hbqp
              have ep:ff p v (.node q u h l.tr r.tr) = (.node c0 0 false (.node q u h l.tr r.tr) (.node p v true .nil .nil),true):=by show Tr.put _ _ _ _ _ = _; rw [Tr.put,if_neg hqp,if_neg e0,if_neg e1,hc0,if_pos hbp]
              exact eW (PT.node b12 c0 0 false (PT.node b q u h l r) (PT.node b14 p v true .nil .nil),[Var b14 bu (⟨p,v,true,kids .nil .nil⟩:az) 208,Var b12 bu (⟨c0,0,false,kids (PT.node b q u h l r) (PT.node b14 p v true .nil .nil)⟩:az) 208]) ⟨by rw [ep]; rfl,fun w1 ho hh=>⟨cR (T:=208) hh (by simp),ho,cR (T:=208) hh (by simp),trivial,trivial⟩⟩ (by rw [ep]; rfl) (by repeat first | exact ah.nil | refine ah.cons zr ?_) w I
            | false =>
              obtain rfl:bq = true:=hbqp
              have ep:ff p v (.node q u h l.tr r.tr) = (.node c0 0 false (.node p v true .nil .nil) (.node q u h l.tr r.tr),true):=by show Tr.put _ _ _ _ _ = _; rw [Tr.put,if_neg hqp,if_neg e0,if_neg e1,hc0,if_neg (by rw [hbp]; exact Bool.false_ne_true)]
              exact eW (PT.node b12 c0 0 false (PT.node b14 p v true .nil .nil) (PT.node b q u h l r),[Var b14 bu (⟨p,v,true,kids .nil .nil⟩:az) 208,Var b12 bu (⟨c0,0,false,kids (PT.node b14 p v true .nil .nil) (PT.node b q u h l r)⟩:az) 208]) ⟨by rw [ep]; rfl,fun w1 ho hh=>⟨cR (T:=208) hh (by simp),⟨cR (T:=208) hh (by simp),trivial,trivial⟩,ho⟩⟩ (by rw [ep]; rfl) (by repeat first | exact ah.nil | refine ah.cons zr ?_) w I
theorem put_ok (k:Bool) (p:aq) (v:Int) (hp:okP k p):∀ (t:PT) (c:List Bool) (w:World),t.At w→t.tr.WF (okP k) pb c→c <+: pb p→Gx.Calls Tryz.prog 76 #[t.ptr.v,aH.val p,I v] w (ja w (PutJ t (ff p v t.tr).1) (fun x=>.tuple #[x.1.ptr.v,.bool (ff p v t.tr).2]) (fun x=>x.2))
  | .nil,_,w,_,_,_=>put_nil p v w
  | .node b q u h l r,c,w,hat,hw,hc=>put_node k p v hp b q u h l r c w hat hw hc (fun bb c' w' h1 h2 h3=>by
    cases bb with
    | true=>exact put_ok k p v hp r c' w' h1 h2 h3
    | false=>exact put_ok k p v hp l c' w' h1 h2 h3)
end Go.Proofs.YtjanhajdmhalaaaGreat.Tri
namespace Go.Proofs.YtjanhajdmhalaaaGreat.Tri
open Go Go.Gx
def KL (b:Bool) (l n:PT):PT:=bif b then l else n
def KR (b:Bool) (n r:PT):PT:=bif b then n else r
abbrev cutT (p:aq) (t:Tr aq):Tr aq:=t.cut j8 p
end Go.Proofs.YtjanhajdmhalaaaGreat.Tri
namespace Go.Proofs.YtjanhajdmhalaaaGreat.Tri
open Go Go.Gx
structure Tt where
  b:Nat
  made:Bool
  n:Int
  l:PT
  r:PT
def Tt.ptr (t:Tt):OV:=⟨.pointer (some ⟨t.b,0,none⟩),rfl⟩
def Tt.val (t:Tt):bz:=⟨t.made,t.n,kids t.l t.r⟩
def Tt.At (w:World) (t:Tt):Prop:=cE dN w t.b 0 t.val ∧ t.l.At w ∧ t.r.At w
theorem Tt.At.cB {w w':World} {t:Tt} (h:t.At w) (k:aX bO w w'):t.At w':=⟨h.1.cB k,h.2.1.cB k,h.2.2.cB k⟩
def Tt.bL (t:Tt):List (aq × Int):=t.l.tr.bL ++ t.r.tr.bL
structure Tt.OK (t:Tt):Prop where
  made:t.made = true
  n:t.n = t.bL.length
  l:t.l.tr.WF (okP false) pb []
  r:t.r.tr.WF (okP true) pb []
theorem Tt.OK.kid {t:Tt} (h:t.OK) (k:Bool):(PT.kid k t.l t.r).tr.WF (okP k) pb []:=by cases k; exact h.l; exact h.r
theorem Tt.At.kid {w:World} {t:Tt} (h:t.At w) (k:Bool):(PT.kid k t.l t.r).At w:=PT.At.kid h.2.1 h.2.2 k
theorem pb_keys {k:Bool} {t:Tr aq} {c:List Bool} (h:t.WF (okP k) pb c):(t.bL.map (·.1)).Nodup:=by
  have h1:=h.ents_sorted
  rw [List.nodup_iff_pairwise_ne,List.pairwise_map]
  exact h1.imp (fun {a b} hab e=>by rw [e,ltB_irr] at hab; cases hab)
theorem Tt.OK.nodup {t:Tt} (h:t.OK):(t.bL.map (·.1)).Nodup:=by
  unfold Tt.bL
  rw [List.map_append,List.nodup_append]
  refine ⟨pb_keys h.l,pb_keys h.r,fun a ha b hb e=>?_⟩
  obtain ⟨x,hx,rfl⟩:=List.mem_map.1 ha
  obtain ⟨y,hy,rfl⟩:=List.mem_map.1 hb
  have h1:=(h.l.fl x hx).1.2
  have h2:=(h.r.fl y hy).1.2
  rw [e,h2] at h1
  cases h1
theorem Tt.OK.mem {t:Tt} (h:t.OK) (x:aq × Int):x ∈ t.bL ↔ x ∈ (PT.kid x.1.addr.v6 t.l t.r).tr.bL:=by
  unfold Tt.bL
  rw [List.mem_append]
  constructor
  · rintro (hx | hx)
    · rw [(h.l.fl x hx).1.2]; exact hx
    · rw [(h.r.fl x hx).1.2]; exact hx
  · intro hx
    cases hv:x.1.addr.v6 with
    | false=>rw [hv] at hx; exact .inl hx
    | true=>rw [hv] at hx; exact .inr hx
theorem Tt.OK.mem_k {t:Tt} (h:t.OK) (k:Bool) (x:aq × Int):x ∈ (PT.kid k t.l t.r).tr.bL ↔ (x ∈ t.bL ∧ x.1.addr.v6 = k):=by
  constructor
  · intro hx
    have e:=((h.kid k).fl x hx).1.2
    exact ⟨(h.mem x).2 (by rw [e]; exact hx),e⟩
  · rintro ⟨hx,rfl⟩
    exact (h.mem x).1 hx
theorem lE {l:List (aq × Int)} (h:(l.map (·.1)).Nodup):l.Nodup:=by
  rw [List.nodup_iff_pairwise_ne,List.pairwise_map] at h
  rw [List.nodup_iff_pairwise_ne]
  exact h.imp (fun {a b} hab e=>hab (by rw [e]))
theorem len_new {l m:List (aq × Int)} (hl:(l.map (·.1)).Nodup) (hm:(m.map (·.1)).Nodup) {p:aq} {v:Int} (h:∀ x,x ∈ m ↔ (x = (p,v) ∨ (x ∈ l ∧ x.1 ≠ p))) :
    ((∀ x ∈ l,x.1 ≠ p)→m.length = l.length + 1) ∧ ((∃ x ∈ l,x.1 = p)→m.length = l.length):=by
  constructor
  · intro hn
    have hp:m.Perm ((p,v) :: l):=(List.perm_ext_iff_of_nodup (lE hm) (List.nodup_cons.2 ⟨fun hx=>hn _ hx rfl,lE hl⟩)).2 (fun x=>by
      rw [h,List.mem_cons]
      exact ⟨fun g=>g.imp id (·.1),fun g=>g.imp id (fun g=>⟨g,hn x g⟩)⟩)
    simpa using hp.length_eq
  · rintro ⟨y,hy,hyp⟩
    have hp:(m.map (·.1)).Perm (l.map (·.1)):=(List.perm_ext_iff_of_nodup hm hl).2 (fun q=>by
      simp only [List.mem_map]
      constructor
      · rintro ⟨x,hx,rfl⟩
        rcases (h x).1 hx with rfl | ⟨hx,_⟩
        · exact ⟨y,hy,hyp⟩
        · exact ⟨x,hx,rfl⟩
      · rintro ⟨x,hx,rfl⟩
        by_cases e:x.1 = p
        · exact ⟨(p,v),(h _).2 (.inl rfl),e.symm⟩
        · exact ⟨x,(h x).2 (.inr ⟨hx,e⟩),rfl⟩)
    simpa using hp.length_eq
def pO (e:Int) (b:Nat):Option Addr:=if e = 0 then some ⟨b,0,none⟩ else none
def TputJ (t:Tt) (p:aq) (v:Int) (x:Tt × List Res):Prop:=cO p = 0→(x.1.OK ∧ (∀ y,y ∈ x.1.bL ↔ (y = (p,v) ∨ (y ∈ t.bL ∧ y.1 ≠ p))) ∧ ∀ w1,t.At w1→(∀ r ∈ x.2,r.A w1)→x.1.At w1)
def Tt.swap (t:Tt) (b:Nat) (n:Int) (k:Bool) (x:PT):Tt:=⟨b,t.made,n,bif k then t.l else x,bif k then x else t.r⟩
theorem Tt.swap_kids (t:Tt) (b:Nat) (n:Int) (k:Bool) (x:PT) (h:(bI k).toNat < 2):(kids t.l t.r).set (bI k).toNat x.ptr h = kids (t.swap b n k x).l (t.swap b n k x).r:=by cases k <;> rfl
theorem Tt.swap_at {w:World} {t:Tt} {b:Nat} {n:Int} {k:Bool} {x:PT} (h:t.At w) (hx:x.At w) (hb:cE dN w b 0 (t.swap b n k x).val):(t.swap b n k x).At w:=⟨hb,by cases k; exact hx; exact h.2.1,by cases k; exact h.2.2; exact hx⟩
theorem Tt.swap_ok {t:Tt} (h:t.OK) {k:Bool} {x:PT} {b:Nat} {n:Int} (hx:x.tr.WF (okP k) pb []) (hn:n = (t.swap b n k x).bL.length):(t.swap b n k x).OK:=⟨h.made,hn,by cases k; exact hx; exact h.l,by cases k; exact h.r; exact hx⟩
theorem Tt.swap_mem {t:Tt} (h:t.OK) {k:Bool} {x:PT} {b:Nat} {n:Int} (hx:x.tr.WF (okP k) pb []) (y:aq × Int):y ∈ (t.swap b n k x).bL ↔ ((y.1.addr.v6 = k ∧ y ∈ x.tr.bL) ∨ (y.1.addr.v6 ≠ k ∧ y ∈ t.bL)):=by
  have hk:∀ {z:Tr aq} {j:Bool},z.WF (okP j) pb []→y ∈ z.bL→y.1.addr.v6 = j:=fun hz hy=>(hz.fl y hy).1.2
  cases k with
  | false =>
    show y ∈ x.tr.bL ++ t.r.tr.bL ↔ _
    unfold Tt.bL
    rw [List.mem_append,List.mem_append]
    constructor
    · rintro (hy | hy)
      · exact .inl ⟨hk hx hy,hy⟩
      · exact .inr ⟨by rw [hk h.r hy]; decide,.inr hy⟩
    · rintro (hy | ⟨hn,hy | hy⟩)
      · exact .inl hy.2
      · exact absurd (hk h.l hy) hn
      · exact .inr hy
  | true =>
    show y ∈ t.l.tr.bL ++ x.tr.bL ↔ _
    unfold Tt.bL
    rw [List.mem_append,List.mem_append]
    constructor
    · rintro (hy | hy)
      · exact .inr ⟨by rw [hk h.l hy]; decide,.inl hy⟩
      · exact .inl ⟨hk hx hy,hy⟩
    · rintro (hy | ⟨hn,hy | hy⟩)
      · exact .inr hy.2
      · exact .inl hy
      · exact absurd (hk h.r hy) hn
theorem Tt.put_mem {t:Tt} (h:t.OK) {p:aq} {v:Int} {x:PT} {b:Nat} {n:Int} (hx:x.tr.WF (okP p.addr.v6) pb []) (hm:∀ y,y ∈ x.tr.bL ↔ (y = (p,v) ∨ (y ∈ (PT.kid p.addr.v6 t.l t.r).tr.bL ∧ y.1 ≠ p))) (y:aq × Int) :
    y ∈ (t.swap b n p.addr.v6 x).bL ↔ (y = (p,v) ∨ (y ∈ t.bL ∧ y.1 ≠ p)):=by
  rw [Tt.swap_mem h hx,hm,h.mem_k]
  constructor
  · rintro (⟨h1,h2 | h2⟩ | ⟨h1,h2⟩)
    · exact .inl h2
    · exact .inr ⟨h2.1.1,h2.2⟩
    · exact .inr ⟨h2,fun e=>h1 (by rw [e])⟩
  · rintro (h2 | ⟨h2,h3⟩)
    · exact .inl ⟨by rw [h2],.inl h2⟩
    · by_cases e:y.1.addr.v6 = p.addr.v6
      · exact .inl ⟨e,.inr ⟨⟨h2,e⟩,h3⟩⟩
      · exact .inr ⟨e,h2⟩
theorem there_ok (t:Tt) (w:World) (ht:cE dN w t.b 0 t.val):Gx.Calls Tryz.prog 74 #[.pointer (some ⟨t.b,0,none⟩)] w (cD w (.bool t.made)):=by
  refine en0 11 Tryz.func74 (fun _ _=>?_)
  refine sg (co (Ev.assign (.c (v:=.bool false) rfl)) ?_)
  refine nP (sg (mv rfl (co (Ev.neq_p Tryz.underlying63 (.t rfl) (.c rfl)) ?_)))
  refine mv rfl (cg rfl rfl (Ev.move (.t rfl)) ?_)
  refine cg rfl rfl (Ev.nilCheck (.g rfl id)) ?_
  refine cg rfl rfl (fA 0 (.g rfl id)) ?_
  refine cg rfl rfl (Ev.load ty4 (.g rfl id) (cU (fun w I=>(ht).cB I.keeps) bz.l_made)) ?_
  refine co (Ev.pkA (.t rfl) rfl) ?_
  refine asn rfl (nP (ret (done rfl (.tmp rfl .nil) (bc ?_))))
  first | rfl | (simp [Tt.val]; done) | (simp [js,Tt.val])
theorem z179:(Tryz.prog.info? 179).bind (·.zero) = some (dN.val dN.zero):=by kernel_rfl
theorem new_ok (w:World):Gx.Calls Tryz.prog 33 #[] w (ja w (fun x:Tt=>x.OK ∧ x.bL = [] ∧ x.made = true ∧ x.n = 0 ∧ x.l = .nil ∧ x.r = .nil) (fun x=>x.ptr.v) (fun x=>[Var x.b dN x.val 179])):=by
  refine en0 3 Tryz.func33 (fun _ _=>?_)
  refine sg (co (Ev.assign (.c (v:=(Go.Value.pointer none)) rfl)) ?_)
  refine nP (sg (co (Ev.aQ (fs:=_) (places:=[(0,1),(1,1),(2,2)]) z179 rfl Tryz.underlying179 zk (.cons (.c (v:=.bool true) rfl) .nil) (aj.cons bz.l_made rfl aj.nil)) ?_))
  refine cons (box (E:=dN) (.t rfl) (fun b1=>?_))
  refine asn rfl (nP (ret (done rfl (.tmp rfl .nil) (fun w I=>?_))))
  exact eW (⟨b1,true,0,.nil,.nil⟩:Tt) ⟨⟨rfl,rfl,trivial,trivial⟩,rfl,rfl,rfl,rfl,rfl⟩ rfl (by repeat first | exact ah.nil | refine ah.cons zr ?_) w I
theorem Tt.oH {t:Tt} (h:t.OK) {k:Bool} {x:PT} {b:Nat} {n:Int} (hx:x.tr.WF (okP k) pb []):((t.swap b n k x).bL.map (·.1)).Nodup:=(Tt.swap_ok (b:=b) (n:=((t.swap b 0 k x).bL.length:Int)) h hx rfl).nodup
theorem en74:Gx.aC Tryz.prog 74:=Gx.aC.mk' zk
theorem ty179:bF Tryz.prog 179 dN:=bF.mk' zk zk
theorem en75:Gx.aC Tryz.prog 75:=Gx.aC.mk' zk
theorem tput_ok (t:Tt) (p:aq) (v:Int) (w:World) (ht:t.At w) (ho:t.OK) (hn:t.n ≤ 4611686018427387904):Gx.Calls Tryz.prog 34 #[.pointer (some ⟨t.b,0,none⟩),aH.val p,I v] w (ja w (TputJ t p v) (fun x=>.tuple #[.pointer (pO (cO p) x.1.b),I (cO p)]) (fun x=>x.2)):=by
  refine en0 48 Tryz.func34 (fun _ _=>?_)
  refine sg (cons (box (E:=aH) (.t rfl) (fun b1=>?_)))
  refine co (Ev.assign (.c (v:=(Go.Value.pointer none)) rfl)) ?_
  refine co (Ev.assign (.c (v:=I 0) rfl)) ?_
  refine nP (seq (sg (mv rfl (cons (aZ en74 (.cons (.t rfl) .nil) (fun w I=>there_ok t w (ht.1.cB I.keeps)) ?_)))))
  refine co (Ev.not (.t rfl)) ?_
  refine nP (il rfl (by rw [ho.made]; rfl) ?_)
  refine skip (pN (seq (sg (co (Ev.ldx p cW (.t rfl) (ak.id _)) ?_))))
  refine cons (aZ en32 (.cons (.t rfl) .nil) (fun w I=>g7 _ w) ?_)
  refine asn rfl (nP (sg (mv rfl (co (Ev.eX (.t rfl) (.c (v:=I 0) rfl)) ?_))))
  refine nP ?_
  first | refine aL rfl (fun h1=>?_) (fun h1=>?_) | refine cond rfl (fun h1=>?_) (fun h1=>?_)
  · try simp only [nb] at h1
    refine sg (mv rfl (co (Ev.assign (.c (v:=(Go.Value.pointer none)) rfl)) ?_))
    refine asn rfl (nP (ret (pR (done rfl (.tmp rfl (.tmp rfl .nil)) (fun w I=>?_)))))
    exact eW (t,[]) (fun h=>absurd h h1) (by show _ = Value.tuple #[.pointer (pO (cO p) t.b),Gx.I (cO p)]; unfold pO; rw [if_neg h1]; rfl) ah.nil w I
  · try simp only [nb] at h1
    have hck:cO p = 0:=Decidable.not_not.1 h1
    have hbn:=kO p.addr.v6
    have hbt:(bI p.addr.v6).toNat < 2:=by omega
    obtain ⟨sp1,sp2,sp3,sp4⟩:=(keyLaw p.addr.v6).oL (p:=p) ⟨hck,rfl⟩ v (PT.kid p.addr.v6 t.l t.r).tr [] (ho.kid _) List.nil_prefix
    refine skip (pN (sg (mv rfl (co (Ev.nilCheck (.t rfl)) ?_))))
    refine co (Ev.load ty179 (.t rfl) (cU (fun w I=>((ht).1).cB I.keeps) (ak.id _))) ?_
    refine cons (alloc z179 (fun b2=>?_))
    refine cons (stv ty179 (ak.id _) (.t rfl) (.t rfl) ?_)
    refine nP (sg (co (fA 0 (.t rfl)) ?_))
    refine co (Ev.ldx p.addr fF (.t rfl) aq.dE) ?_
    refine cons (aZ en75 (.cons (.t rfl) .nil) (fun w I=>kind_ok _ w) ?_)
    refine asn rfl (nP (seq (df zk ?_)))
    refine tk 0 rfl (Ev.move (.t rfl)) ?_
    refine tk 1 rfl (Ev.move (.t rfl)) ?_
    refine tk 2 rfl (Ev.nilCheck (.t rfl)) ?_
    refine tk 3 rfl (fA 2 (.t rfl)) ?_
    refine tk 4 rfl (Ev.cC Tryz.underlying177 dO (.t rfl) (.t rfl) (fun _=>zo)) ?_
    refine tk 5 rfl (Ev.to (v':=(PT.kid p.addr.v6 t.l t.r).ptr.v) (Ev.load dO (.t rfl) (cU (fun w I=>((ht).1).cB I.keeps) (ak.comp bz.mG (dR (n:=2) (ovE aR) _ (by omega))))) (congrArg OV.v (mK t.l t.r p.addr.v6 hbt))) ?_
    refine tk 6 rfl (Ev.ldx p cW (.t rfl) (ak.id _)) ?_
    refine tk 7 rfl (Ev.move (.t rfl)) ?_
    refine al1 8 rfl ((fQ (X:=PT × List Res) (PutJ (PT.kid p.addr.v6 t.l t.r) (ff p v (PT.kid p.addr.v6 t.l t.r).tr).1) (fun x=>.tuple #[x.1.ptr.v,.bool (ff p v (PT.kid p.addr.v6 t.l t.r).tr).2]) (fun x=>x.2) en76 (.cons (.t rfl) (.cons (.t rfl) (.cons (.t rfl) .nil))) (fun w I=>put_ok p.addr.v6 p v ⟨hck,rfl⟩ (PT.kid p.addr.v6 t.l t.r) [] w ((ht.cB I.keeps).kid _) (ho.kid _) List.nil_prefix) (fun x1 hx1=>?_)))
    refine hdn (tk 9 rfl (Ev.move (.t rfl)) ?_)
    refine tk 10 rfl (Ev.extract (.t rfl) rfl) ?_
    refine tk 11 rfl (Ev.extract (.t rfl) rfl) ?_
    refine tk 12 rfl (Ev.assign (.t rfl)) ?_
    refine tk 13 rfl (Ev.assign (.t rfl)) ?_
    refine ovr (pN (seq ?_))
    have hwx:x1.1.tr.WF (okP p.addr.v6) pb []:=by rw [hx1.1]; exact sp1
    have hmx:=sp3
    rw [← show x1.1.tr = _ from hx1.1] at hmx
    refine region (mv rfl (mv rfl (co (fA 2 (.t rfl)) ?_)))
    refine co (Ev.cC Tryz.underlying177 dO (.t rfl) (.t rfl) (fun _=>zo)) ?_
    refine cons (stv dO (ak.comp bz.mG (dR (n:=2) (ovE aR) _ (by omega))) (.t rfl) (.t rfl) ?_)
    refine nP (seq (sg (mv rfl (nP ?_))))
    first | refine aL rfl (fun h2=>?_) (fun h2=>?_) | refine cond rfl (fun h2=>?_) (fun h2=>?_)
    · have hfr:∀ y ∈ t.bL,y.1 ≠ p:=fun y hy e=>sp4.1 h2 y (by rw [← e]; exact (ho.mem y).1 hy) e
      refine region (co (fA 1 (.t rfl)) ?_)
      refine co (Ev.ldv ty3 (.t rfl) bz.l_n) ?_
      refine co (Ev.a8 (.t rfl) (.c (v:=I 1) rfl) (fun _=>by show Fit (t.n + 1); unfold Fit; have:=ho.n; omega)) ?_
      refine co (fA 1 (.t rfl)) ?_
      refine cons (stv ty3 bz.l_n (.t rfl) (.t rfl) ?_)
      refine nP (sg (asn rfl (co (Ev.assign (.c (v:=I 0) rfl)) ?_)))
      refine nP (ret (done rfl (.tmp rfl (.tmp rfl .nil)) (fun w I=>?_)))
      have hmem:=Tt.put_mem (b:=b2) (n:=(t.n + 1)) ho hwx hmx
      have hln:=len_new ho.nodup (Tt.oH (b:=b2) (n:=(t.n + 1)) ho hwx) hmem
      have hcnt:(t.n + 1) = (t.swap b2 (t.n + 1) p.addr.v6 x1.1).bL.length:=by
        have h8:=ho.n
        have h7:=hln.1 hfr
        omega
      refine eW ((t.swap b2 (t.n + 1) p.addr.v6 x1.1),Var b2 dN (t.swap b2 (t.n + 1) p.addr.v6 x1.1).val 179 :: x1.2) (fun _=>⟨Tt.swap_ok ho hwx hcnt,hmem,fun w1 hw1 hh=>Tt.swap_at hw1 (hx1.2 w1 (hw1.kid _) (fun q hq=>hh q (List.mem_cons_of_mem _ hq))) (cR (T:=179) hh List.mem_cons_self)⟩) (by show _ = Value.tuple #[.pointer (pO (cO p) (t.swap b2 (t.n + 1) p.addr.v6 x1.1).b),Gx.I (cO p)]; unfold pO; rw [if_pos hck,hck]; rfl) ?_ w I
      unfold Tt.val
      rw [← Tt.swap_kids t b2 (t.n + 1) p.addr.v6 x1.1 hbt]
      exact (by repeat first | refine ah.cons (by repeat first | exact Rem.head | apply Rem.tail | apply Rem.app) ?_ | exact ah.of (by repeat first | exact sR | apply sS | exact List.sublist_append_left _ _))
    · have hfr:∃ y ∈ t.bL,y.1 = p:=by
        rcases Classical.em (∃ y ∈ t.bL,y.1 = p) with g | g
        · exact g
        · exfalso
          have:=sp4.2 (fun y hy e=>g ⟨y,((ho.mem_k _ y).1 hy).1,e⟩)
          rw [show (ff p v (PT.kid p.addr.v6 t.l t.r).tr).2 = false from h2] at this
          cases this
      refine skip (pN (sg (asn rfl (co (Ev.assign (.c (v:=I 0) rfl)) ?_))))
      refine nP (ret (done rfl (.tmp rfl (.tmp rfl .nil)) (fun w I=>?_)))
      have hmem:=Tt.put_mem (b:=b2) (n:=t.n) ho hwx hmx
      have hln:=len_new ho.nodup (Tt.oH (b:=b2) (n:=t.n) ho hwx) hmem
      have hcnt:t.n = (t.swap b2 t.n p.addr.v6 x1.1).bL.length:=by
        have h8:=ho.n
        have h7:=hln.2 hfr
        omega
      refine eW ((t.swap b2 t.n p.addr.v6 x1.1),Var b2 dN (t.swap b2 t.n p.addr.v6 x1.1).val 179 :: x1.2) (fun _=>⟨Tt.swap_ok ho hwx hcnt,hmem,fun w1 hw1 hh=>Tt.swap_at hw1 (hx1.2 w1 (hw1.kid _) (fun q hq=>hh q (List.mem_cons_of_mem _ hq))) (cR (T:=179) hh List.mem_cons_self)⟩) (by show _ = Value.tuple #[.pointer (pO (cO p) (t.swap b2 t.n p.addr.v6 x1.1).b),Gx.I (cO p)]; unfold pO; rw [if_pos hck,hck]; rfl) ?_ w I
      unfold Tt.val
      rw [← Tt.swap_kids t b2 t.n p.addr.v6 x1.1 hbt]
      exact (by repeat first | refine ah.cons (by repeat first | exact Rem.head | apply Rem.tail | apply Rem.app) ?_ | exact ah.of (by repeat first | exact sR | apply sS | exact List.sublist_append_left _ _))
end Go.Proofs.YtjanhajdmhalaaaGreat.Tri
namespace Go.Proofs.YtjanhajdmhalaaaGreat.Tri
open Go Go.Gx
def PT.way (p:aq):PT→List PT
  | .nil=>[]
  | .node b q u h l r=>if e8 q p = true then .node b q u h l r :: (if ltP q p = true then (if j8 q p = true then r.way p else l.way p) else []) else []
def PT.key:PT→aq × Int × Bool
  | .nil=>(aH.zero,0,false)
  | .node _ q u h _ _=>(q,u,h)
def PT.size:PT→Nat
  | .nil=>0
  | .node _ _ _ _ l r=>l.size + r.size + 1
theorem PT.kid_size (bb:Bool) (b:Nat) (q:aq) (u:Int) (h:Bool) (l r:PT):(PT.kid bb l r).size < (PT.node b q u h l r).size:=by cases bb <;> simp only [kid,size,cond_true,cond_false] <;> omega
theorem PT.way_no {p:aq} {b:Nat} {q:aq} {u:Int} {h:Bool} {l r:PT} (hc:e8 q p = false):PT.way p (.node b q u h l r) = []:=by rw [PT.way,if_neg (by rw [hc]; exact Bool.false_ne_true)]
theorem PT.way_end {p:aq} {b:Nat} {q:aq} {u:Int} {h:Bool} {l r:PT} (hc:e8 q p = true) (hl:¬ q.bits < p.bits):PT.way p (.node b q u h l r) = [.node b q u h l r]:=by
  have e:¬ ltP q p = true:=fun e=>hl (of_decide_eq_true e)
  rw [PT.way,if_pos hc,if_neg e]
theorem PT.oB {p:aq} {b:Nat} {q:aq} {u:Int} {h:Bool} {l r:PT} {bb:Bool} (hc:e8 q p = true) (hl:q.bits < p.bits) (hb:j8 q p = bb):PT.way p (.node b q u h l r) = .node b q u h l r :: PT.way p (PT.kid bb l r):=by
  have e:ltP q p = true:=decide_eq_true hl
  subst hb
  rw [PT.way,if_pos hc,if_pos e]
  cases j8 q p <;> rfl
theorem PT.way_map (p:aq):∀ t:PT,(t.way p).map PT.key = t.tr.path e8 ltP j8 p
  | .nil=>rfl
  | .node b q u h l r=>by
    have h1:=PT.way_map p l
    have h2:=PT.way_map p r
    simp only [PT.way,PT.tr,Tr.path]
    split
    · split
      · split
        · rw [List.map_cons,h2]; rfl
        · rw [List.map_cons,h1]; rfl
      · rfl
    · rfl
theorem PT.ki {p:aq}:∀ {t:PT} {x:PT},x ∈ t.way p→∃ b q u h l r,x = .node b q u h l r
  | .nil,x,hx=>by simp [PT.way] at hx
  | .node b q u h l r,x,hx=>by
    simp only [PT.way] at hx
    split at hx
    · rcases List.mem_cons.1 hx with rfl | hx
      · exact ⟨b,q,u,h,l,r,rfl⟩
      · split at hx
        · split at hx
          · exact PT.ki hx
          · exact PT.ki hx
        · simp at hx
    · simp at hx
theorem PT.oC {p:aq} {w:World}:∀ {t:PT} {x:PT},t.At w→x ∈ t.way p→x.At w
  | .nil,x,_,hx=>by simp [PT.way] at hx
  | .node b q u h l r,x,hat,hx=>by
    simp only [PT.way] at hx
    split at hx
    · rcases List.mem_cons.1 hx with rfl | hx
      · exact hat
      · split at hx
        · split at hx
          · exact PT.oC hat.2.2 hx
          · exact PT.oC hat.2.1 hx
        · simp at hx
    · simp at hx
theorem PT.split (p:aq) (t:PT):t = .nil ∨ (∃ b q u h l r,t = .node b q u h l r ∧ e8 q p = false) ∨ (∃ b q u h l r,t = .node b q u h l r ∧ e8 q p = true):=by
  cases t with
  | nil=>exact .inl rfl
  | node b q u h l r =>
    cases hc:e8 q p with
    | false=>exact .inr (.inl ⟨b,q,u,h,l,r,rfl,hc⟩)
    | true=>exact .inr (.inr ⟨b,q,u,h,l,r,rfl,hc⟩)
def DownAt (t:Tt) (p:aq) (bt bp:Nat) (w:World):Prop:=t.At w ∧ cE (ovE aR) w bt 0 t.ptr ∧ cE aH w bp 0 p
abbrev encN:PT→List Value:=fun x=>[x.ptr.v]
theorem ty63:bF Tryz.prog 63 (ovE aR):=bF.mk' zk zk
theorem en134:Gx.aC Tryz.prog 134:=Gx.aC.mk' zk
theorem down_walk {X:Ext} {fr:Nat} {σ:Type} (S:σ→Res) (ok:PT→σ→Prop) (J:PT→σ→Bool × σ→Prop) (yv:Value) (w:World) (s:σ) (t:Tt) (p:aq) (bt bp:Nat) (hp:cO p = 0) (hf:∀ w',aX (S s).cI w w'→DownAt t p bt bp w') (hl:Okay ok J (PT.way p (PT.kid p.addr.v6 t.l t.r)) s) (hat:At (S s) w) (hfr:fr ≤ w.heap.size) (hfb:∀ b,(S s).cI b→fr ≤ b) (hY:ou X fr Tryz.prog yv encN w (S s).cI ok S J):gC X fr Tryz.prog 133 #[yv,.pointer (some ⟨bt,0,none⟩),.pointer (some ⟨bp,0,none⟩)] w (iZ w (S s) (mW J (PT.way p (PT.kid p.addr.v6 t.l t.r)) s) (fun _=>.tuple #[]) S):=by
  refine enterE 51 [S s] Tryz.func133 rfl rfl (Nat.le_of_ble_eq_true rfl) hfr hfb (iR hat _) ?_
  refine seq ?_
  have hbn:=kO p.addr.v6
  have hbt:(bI p.addr.v6).toNat < 2:=by omega
  refine df zk ?_
  refine tk 0 rfl (Ev.to (v':=.pointer (some ⟨t.b,0,none⟩)) (Ev.load ty63 (.t rfl) (cU (fun w I=>(hf w I.keeps).2.1) (ak.id _))) (rfl)) ?_
  refine tk 1 rfl (fA 0 (.t rfl)) ?_
  refine tk 2 rfl (Ev.load fF (.t rfl) (cU (fun w I=>(hf w I.keeps).2.2) aq.dE)) ?_
  refine tk 4 rfl (Ev.nilCheck (.t rfl)) ?_
  refine tk 5 rfl (fA 2 (.t rfl)) ?_
  refine al1 3 rfl ((aZ en75 (.cons (.t rfl) .nil) (fun w I=>kind_ok p.addr w) ?_))
  refine hdn (tk 6 rfl (Ev.cC Tryz.underlying177 dO (.t rfl) (.t rfl) (fun _=>zo)) ?_)
  refine tk 7 rfl (Ev.to (v':=(PT.kid p.addr.v6 t.l t.r).ptr.v) (Ev.load dO (.t rfl) (cU (fun w I=>(hf w I.keeps).1.1) (ak.comp bz.mG (dR (n:=2) (ovE aR) _ (by omega))))) (congrArg OV.v (mK t.l t.r p.addr.v6 hbt))) ?_
  refine tk 8 rfl (Ev.assign (.t rfl)) ?_
  refine ovr (pN (block (lp (X:=PT × σ) (fun x:PT × σ=>(∀ w',aX (S s).cI w w'→x.1.At w') ∧ (∀ z,mW J (PT.way p x.1) x.2 z→mW J (PT.way p (PT.kid p.addr.v6 t.l t.r)) s z) ∧ (Okay ok J (PT.way p x.1) x.2)) (fun x:PT × σ=>[dz,(0,true,yv),(1,true,.pointer (some ⟨bt,0,none⟩)),(2,true,.pointer (some ⟨bp,0,none⟩)),(4,true,x.1.ptr.v)]) (fun x:PT × σ=>[S x.2]) (fun x:PT × σ=>x.1.size) ((PT.kid p.addr.v6 t.l t.r),s) ⟨?_,?_,?_⟩ (fun x hx=>?_))))
  · exact fun w1 k=>(hf w1 k).1.kid _
  · exact fun z h=>h
  · exact hl
  obtain ⟨cur,s1⟩:=x
  obtain ⟨hc,hr,hlv⟩:(∀ w',aX (S s).cI w w'→cur.At w') ∧ (∀ z,mW J (PT.way p cur) s1 z→mW J (PT.way p (PT.kid p.addr.v6 t.l t.r)) s z) ∧ (Okay ok J (PT.way p cur) s1):=hx
  show Sat _ _ [dz,(0,true,yv),(1,true,.pointer (some ⟨bt,0,none⟩)),(2,true,.pointer (some ⟨bp,0,none⟩)),(4,true,cur.ptr.v)] [S s1]
  refine seq (seq ?_)
  rcases PT.split p cur with rfl | ⟨b,q,u,h,l,r,rfl,hcv⟩ | ⟨b,q,u,h,l,r,rfl,hcv⟩
  · refine draw ([]:List Res) zk ?_
    refine tk 0 rfl (Ev.move (.t rfl)) ?_
    refine tk 1 rfl (Ev.to (v':=.bool false) (Ev.neq_p Tryz.underlying176 (.t rfl) (.c rfl)) (rfl)) ?_
    refine tk 2 rfl (Ev.move (.t rfl)) ?_
    refine tkg 3 rfl rfl rfl (Ev.vac (v:=.bool false) rfl) ?_
    refine tkg 4 rfl rfl rfl (Ev.vac (v:=.bool false) rfl) ?_
    refine tkg 5 rfl rfl rfl (Ev.vac (v:=.bool false) rfl) ?_
    refine tkg 6 rfl rfl rfl (Ev.vac (v:=.bool false) rfl) ?_
    refine tkg 7 rfl rfl rfl (Ev.vac (v:=.bool false) rfl) ?_
    refine tkg 8 rfl rfl rfl (Ev.vac (v:=.bool false) rfl) ?_
    refine tk 9 rfl (Ev.to (v':=.bool false) (Ev.pkA (.t rfl) rfl) (rfl)) ?_
    refine tk 10 rfl (Ev.move (.t rfl)) ?_
    refine tkg 11 rfl rfl rfl (Ev.vac (v:=.bool false) rfl) ?_
    refine tkg 12 rfl rfl rfl (Ev.vac (v:=.bool false) rfl) ?_
    refine tkg 13 rfl rfl rfl (Ev.vac (v:=.bool false) rfl) ?_
    refine tk 14 rfl (Ev.to (v':=.bool false) (Ev.pkA (.t rfl) rfl) (rfl)) ?_
    refine tk 15 rfl (Ev.move (.t rfl)) ?_
    refine tkg 16 rfl rfl rfl (Ev.vac (v:=.bool false) rfl) ?_
    refine tkg 17 rfl rfl rfl (Ev.vac (v:=.bool false) rfl) ?_
    refine tkg 18 rfl rfl rfl (Ev.vac (v:=.bool false) rfl) ?_
    refine tkg 19 rfl rfl rfl (Ev.vac (v:=.bool false) rfl) ?_
    refine tkg 20 rfl rfl rfl (Ev.vac (v:=.bool false) rfl) ?_
    refine tkg 21 rfl rfl rfl (Ev.vac (v:=.bool false) rfl) ?_
    refine tkg 22 rfl rfl rfl (Ev.vac (v:=.bool false) rfl) ?_
    refine tkg 23 rfl rfl rfl (Ev.vac (v:=.bool false) rfl) ?_
    refine tk 24 rfl (Ev.to (v':=.bool false) (Ev.pkA (.t rfl) rfl) (rfl)) ?_
    refine ovr (pN (il rfl (rfl) ?_))
    refine exit (pX (pX (bX (mR rfl .nil (fun w I=>?_)))))
    exact retR (X:=σ) s1 (hr _ rfl) rfl zm w I
  · refine draw ([]:List Res) zk ?_
    refine tk 0 rfl (Ev.to (v':=.pointer (some ⟨b,0,none⟩)) (Ev.move (.t rfl)) (rfl)) ?_
    refine tk 1 rfl (Ev.to (v':=.bool true) (Ev.neq_p Tryz.underlying176 (.t rfl) (.c rfl)) (rfl)) ?_
    refine tk 2 rfl (Ev.move (.t rfl)) ?_
    refine tkg 3 rfl rfl rfl (Ev.to (v':=.pointer (some ⟨b,0,none⟩)) (Ev.move (.t rfl)) (rfl)) ?_
    refine tkg 4 rfl rfl rfl (Ev.nilCheck (.g rfl id)) ?_
    refine tkg 5 rfl rfl rfl (fA 0 (.g rfl id)) ?_
    refine tkg 6 rfl rfl rfl (Ev.load cW (.g rfl id) (cU (fun w I=>(hc w I.keeps).1) az.l_p)) ?_
    refine tkg 7 rfl rfl rfl (Ev.load cW (.t rfl) (cU (fun w I=>(hf w I.keeps).2.2) (ak.id _))) ?_
    refine al1 8 rfl (jq rfl rfl en134 (.cons (.g rfl id) (.cons (.g rfl id) .nil)) (fun hg w I=>pC _ _ w) ?_)
    refine hdn (tk 9 rfl (Ev.to (v':=.bool false) (Ev.pkA (.t rfl) rfl) (congrArg Value.bool hcv)) ?_)
    refine tk 10 rfl (Ev.move (.t rfl)) ?_
    refine tkg 11 rfl rfl rfl (Ev.vac (v:=.bool false) rfl) ?_
    refine tkg 12 rfl rfl rfl (Ev.vac (v:=.bool false) rfl) ?_
    refine tkg 13 rfl rfl rfl (Ev.vac (v:=.bool false) rfl) ?_
    refine tk 14 rfl (Ev.to (v':=.bool false) (Ev.pkA (.t rfl) rfl) (rfl)) ?_
    refine tk 15 rfl (Ev.move (.t rfl)) ?_
    refine tkg 16 rfl rfl rfl (Ev.vac (v:=.bool false) rfl) ?_
    refine tkg 17 rfl rfl rfl (Ev.vac (v:=.bool false) rfl) ?_
    refine tkg 18 rfl rfl rfl (Ev.vac (v:=.bool false) rfl) ?_
    refine tkg 19 rfl rfl rfl (Ev.vac (v:=.bool false) rfl) ?_
    refine tkg 20 rfl rfl rfl (Ev.vac (v:=.bool false) rfl) ?_
    refine tkg 21 rfl rfl rfl (Ev.vac (v:=.bool false) rfl) ?_
    refine tkg 22 rfl rfl rfl (Ev.vac (v:=.bool false) rfl) ?_
    refine tkg 23 rfl rfl rfl (Ev.vac (v:=.bool false) rfl) ?_
    refine tk 24 rfl (Ev.to (v':=.bool false) (Ev.pkA (.t rfl) rfl) (rfl)) ?_
    refine ovr (pN (il rfl (rfl) ?_))
    refine exit (pX (pX (bX (mR rfl .nil (fun w I=>?_)))))
    exact retR (X:=σ) s1 (hr _ (by rw [PT.way_no hcv]; rfl)) rfl (by repeat first | exact mH | apply mT | apply mA) w I
  · have hxin:ok (PT.node b q u h l r) s1:=by
      have h9:=hlv
      rw [PT.way,if_pos hcv] at h9
      exact h9.1
    refine draw ([]:List Res) zk ?_
    refine tk 0 rfl (Ev.to (v':=.pointer (some ⟨b,0,none⟩)) (Ev.move (.t rfl)) (rfl)) ?_
    refine tk 1 rfl (Ev.to (v':=.bool true) (Ev.neq_p Tryz.underlying176 (.t rfl) (.c rfl)) (rfl)) ?_
    refine tk 2 rfl (Ev.move (.t rfl)) ?_
    refine tkg 3 rfl rfl rfl (Ev.to (v':=.pointer (some ⟨b,0,none⟩)) (Ev.move (.t rfl)) (rfl)) ?_
    refine tkg 4 rfl rfl rfl (Ev.nilCheck (.g rfl id)) ?_
    refine tkg 5 rfl rfl rfl (fA 0 (.g rfl id)) ?_
    refine tkg 6 rfl rfl rfl (Ev.load cW (.g rfl id) (cU (fun w I=>(hc w I.keeps).1) az.l_p)) ?_
    refine tkg 7 rfl rfl rfl (Ev.load cW (.t rfl) (cU (fun w I=>(hf w I.keeps).2.2) (ak.id _))) ?_
    refine al1 8 rfl (jq rfl rfl en134 (.cons (.g rfl id) (.cons (.g rfl id) .nil)) (fun hg w I=>pC _ _ w) ?_)
    refine hdn (tk 9 rfl (Ev.to (v':=.bool true) (Ev.pkA (.t rfl) rfl) (congrArg Value.bool hcv)) ?_)
    refine tk 10 rfl (Ev.move (.t rfl)) ?_
    refine tkg 11 rfl rfl rfl (Ev.move (.t rfl)) ?_
    refine tkg 12 rfl rfl rfl (Ev.to (v':=.pointer (some ⟨b,0,none⟩)) (Ev.move (.t rfl)) (rfl)) ?_
    refine al1 13 rfl (opgTI rfl rfl rfl (callY (X:=Bool × σ) (r:=S s1) (r':=fun q=>S q.2) (L':=fun q=>[S q.2]) (vs:=encN (PT.node b q u h l r)) (J (PT.node b q u h l r) s1) (fun q=>.bool q.1) (fun q=>Upd.head) List.mem_cons_self (.t rfl) (.cons (.t rfl) .nil) (fun w I=>hY.call (x:=PT.node b q u h l r) hxin zm w I) (fun q1 hq1=>?_)))
    refine hdn (tk 14 rfl (Ev.to (v':=.bool q1.1) (Ev.pkA (.t rfl) rfl) (rfl)) ?_)
    refine tk 15 rfl (Ev.move (.t rfl)) ?_
    refine tkg 16 rfl rfl rfl (Ev.to (v':=.pointer (some ⟨b,0,none⟩)) (Ev.move (.t rfl)) (rfl)) ?_
    refine tkg 17 rfl rfl rfl (Ev.nilCheck (.g rfl id)) ?_
    refine tkg 18 rfl rfl rfl (fA 0 (.g rfl id)) ?_
    refine tkg 19 rfl rfl rfl (fA 17 (.g rfl id)) ?_
    refine tkg 20 rfl rfl rfl (Ev.load ty3 (.g rfl id) (cU (fun w I=>(hc w I.keeps).1) (ak.comp az.l_p aq.ea))) ?_
    refine tkg 21 rfl rfl rfl (fA 17 (.t rfl)) ?_
    refine tkg 22 rfl rfl rfl (Ev.load ty3 (.g rfl id) (cU (fun w I=>(hf w I.keeps).2.2) aq.ea)) ?_
    refine tkg 23 rfl rfl rfl (Ev.dx (.g rfl id) (.g rfl id)) ?_
    refine tk 24 rfl (Ev.pkA (.t rfl) rfl) ?_
    refine ovr (pN ?_)
    first | refine aL rfl (fun h0=>?_) (fun h0=>?_) | refine cond rfl (fun h0=>?_) (fun h0=>?_)
    · have hq:q1.1 = true ∧ q.bits < p.bits:=by
        have h9:=Bool.and_eq_true_iff.1 h0
        exact ⟨h9.1,of_decide_eq_true h9.2⟩
      obtain ⟨bb,hbb⟩:∃ z,j8 q p = z:=⟨_,rfl⟩
      have hbb1:=kO bb
      have hbb2:(bI bb).toNat < 2:=by omega
      have hq0:0 ≤ q.bits ∧ q.bits < 128:=by
        have hcv2:=hcv
        unfold e8 at hcv2
        simp only [Bool.and_eq_true] at hcv2
        have h1:=(eD q).1 ((jH _ _).1 hcv2.2).1
        have h2:=(eD p).1 hp
        have:=lq p.addr
        omega
      refine skip (pN (seq (block (skip (bN (pN (df zk ?_)))))))
      refine tk 0 rfl (Ev.to (v':=.pointer (some ⟨b,0,none⟩)) (Ev.move (.t rfl)) (rfl)) ?_
      refine tk 1 rfl (fA 0 (.t rfl)) ?_
      refine tk 2 rfl (Ev.load fF (.t rfl) (cU (fun w I=>(hf w I.keeps).2.2) aq.dE)) ?_
      refine tk 3 rfl (Ev.to (v':=.pointer (some ⟨b,0,none⟩)) (Ev.move (.t rfl)) (rfl)) ?_
      refine tk 4 rfl (Ev.nilCheck (.t rfl)) ?_
      refine tk 5 rfl (fA 0 (.t rfl)) ?_
      refine tk 6 rfl (fA 17 (.t rfl)) ?_
      refine tk 7 rfl (Ev.load ty3 (.t rfl) (cU (fun w I=>(hc w I.keeps).1) (ak.comp az.l_p aq.ea))) ?_
      refine tk 9 rfl (Ev.nilCheck (.t rfl)) ?_
      refine tk 10 rfl (fA 20 (.t rfl)) ?_
      refine al1 8 rfl ((aZ jL (.cons (.t rfl) (.cons (.t rfl) .nil)) (fun w I=>kN _ _ w hq0 bb hbb) ?_))
      refine hdn (tk 11 rfl (Ev.cC Tryz.underlying177 dO (.t rfl) (.t rfl) (fun _=>zo)) ?_)
      refine tk 12 rfl (Ev.to (v':=(PT.kid bb l r).ptr.v) (Ev.load dO (.t rfl) (cU (fun w I=>(hc w I.keeps).1) (ak.comp az.fI (dR (n:=2) (ovE aR) _ (by omega))))) (congrArg OV.v (mK l r bb hbb2))) ?_
      refine tk 13 rfl (Ev.assign (.t rfl)) ?_
      refine ovr (pN (nx (X:=PT × σ) ((PT.kid bb l r),q1.2) ⟨?_,?_,?_⟩ ?_))
      · try dsimp only
        exact fun w1 k=>PT.At.kid (hc w1 k).2.1 (hc w1 k).2.2 bb
      · try dsimp only
        exact fun z hz=>hr z (by rw [PT.oB hcv hq.2 hbb]; exact ⟨q1,hq1,by rw [if_pos hq.1]; exact hz⟩)
      · try dsimp only
        rw [PT.oB hcv hq.2 hbb] at hlv
        exact hlv.2 _ hq1 hq.1
      · try dsimp only
        exact PT.kid_size bb b q u h l r
    · have hq:¬ (q1.1 = true ∧ q.bits < p.bits):=fun e=>by
        have h9:(q1.1 && decide (q.bits < p.bits)) = false:=h0
        rw [e.1,decide_eq_true e.2] at h9
        cases h9
      refine exit (pX (pX (bX (mR rfl .nil (fun w I=>?_)))))
      refine retR (X:=σ) q1.2 (hr _ ?_) rfl zm w I
      by_cases hlt:q.bits < p.bits
      · rw [PT.oB hcv hlt rfl]
        exact ⟨q1,hq1,by rw [if_neg (fun e=>hq ⟨e,hlt⟩)]⟩
      · rw [PT.way_end hcv hlt]
        refine ⟨q1,hq1,?_⟩
        split
        · rfl
        · rfl
theorem down_iter {X:Ext} {fr:Nat} (t:Tt) (p:aq) (hp:cO p = 0) (bt bp:Nat) (w0:World) (M:Nat→Prop) (hf:∀ w',aX M w0 w'→DownAt t p bt bp w'):IterAt X fr Tryz.prog (bnd 133 [] [.pointer (some ⟨bt,0,none⟩),.pointer (some ⟨bp,0,none⟩)]).v encN w0 M (PT.way p (PT.kid p.addr.v6 t.l t.r)):=fun σ S ok J yv w s hl hk hfo hat hfr hfb hY =>
  j1.of (Gx.aC.mk' zk) (down_walk S ok J yv.v w s t p bt bp hp (fun w' k=>hf w' (hk.trans' k (fun i hi hm=>(hfo i hm).resolve_left (by omega)))) hl hat hfr hfb hY)
theorem down_ok (t:Tt) (p:aq) (w:World):Gx.Calls Tryz.prog 132 #[t.ptr.v,aH.val p] w (ja w (fun _:Nat × Nat=>True) (fun x=>(bnd 133 [] [.pointer (some ⟨x.1,0,none⟩),.pointer (some ⟨x.2,0,none⟩)]).v) (fun x=>[Var x.2 aH p 84,Var x.1 (ovE aR) t.ptr 63])):=by
  refine en0 6 Tryz.func132 (fun _ _=>?_)
  refine sg (cons (box (E:=(ovE aR)) (.t rfl) (fun b1=>?_)))
  refine cons (box (E:=aH) (.t rfl) (fun b2=>?_))
  refine co (Ev.assign (.c (v:=Go.Value.nilFunc) rfl)) ?_
  refine nP (sg (co (Ev.makeFunc (f:=133) (.cons (.t rfl) (.cons (.t rfl) .nil))) ?_))
  refine asn rfl (nP (ret (done rfl (.tmp rfl .nil) (fun w I=>?_))))
  exact eW (b1,b2) trivial rfl (by repeat first | exact ah.nil | refine ah.cons zr ?_) w I
end Go.Proofs.YtjanhajdmhalaaaGreat.Tri
namespace Go.Proofs.YtjanhajdmhalaaaGreat.Tri
open Go Go.Gx
theorem findN:∀ {xs:List PT} {s t:PT},ir (fun x s s'=>s' = if x.key.2.2 = true then x else s) xs s t→t = ((xs.filter (fun x=>x.key.2.2)).getLast?).getD s
  | [],s,t,h=>h
  | x :: xs,s,t,⟨q,h1,h⟩=>by
    have h2:=findN h
    rw [h2,List.filter_cons]
    by_cases hx:x.key.2.2 = true
    · rw [if_pos hx,List.getLast?_cons,h1,if_pos hx]
      rfl
    · rw [if_neg hx,h1,if_neg hx]
def Tt.find (t:Tt) (a:a7):Option (aq × Int):=(PT.kid a.v6 t.l t.r).tr.best e8 ltP j8 (full a)
def ij (t:Tt) (a:a7):aq × Int × Bool:=if aM a = 0 then (match t.find a with | some x=>(x.1,x.2,true) | none=>(aH.zero,0,false)) else (aH.zero,0,false)
theorem find_way (t:Tt) (a:a7):t.find a = (((PT.way (full a) (PT.kid a.v6 t.l t.r)).filter (fun x=>x.key.2.2)).getLast?).map (fun x=>(x.key.1,x.key.2.1)):=by
  unfold Tt.find Tr.best
  rw [← PT.way_map,List.filter_map,List.getLast?_map,Option.map_map]
  rfl
theorem ofE_wd (a:a7):ofE a (wd a) = aM a:=by
  have:=lq a
  unfold ofE
  split
  · rfl
  · rename_i h
    rw [if_neg (by omega)]
    exact (Decidable.not_not.1 h).symm
theorem ofV_wd {a:a7} (h:aM a = 0):ofV a (wd a) = full a:=by
  have h2:fP (wd a) a.b = a.b:=by
    unfold aM at h
    split at h
    · assumption
    · cases h
  unfold ofV
  rw [ofE_wd,if_pos h,h2]
  rfl
theorem find_none {t:Tt} {a:a7} {z s:PT} (hz:z = .nil) (h:s = (((PT.way (full a) (PT.kid a.v6 t.l t.r)).filter (fun x=>x.key.2.2)).getLast?).getD z):(s = .nil ∧ t.find a = none) ∨ (s ∈ PT.way (full a) (PT.kid a.v6 t.l t.r) ∧ t.find a = some (s.key.1,s.key.2.1)):=by
  rw [find_way]
  cases hl:((PT.way (full a) (PT.kid a.v6 t.l t.r)).filter (fun x=>x.key.2.2)).getLast? with
  | none=>rw [hl] at h; exact .inl ⟨h.trans hz,rfl⟩
  | some x =>
    rw [hl] at h
    have h:s = x:=h
    subst h
    refine .inr ⟨?_,rfl⟩
    obtain ⟨A,hA⟩:=List.getLast?_eq_some_iff.1 hl
    have:s ∈ (PT.way (full a) (PT.kid a.v6 t.l t.r)).filter (fun x=>x.key.2.2):=by rw [hA]; simp
    exact (List.mem_filter.1 this).1
theorem z176:(Tryz.prog.info? 176).bind (·.zero) = some ((ovE aR).val (ovE aR).zero):=by kernel_rfl
theorem en132:Gx.aC Tryz.prog 132:=Gx.aC.mk' zk
theorem find_ok (t:Tt) (a:a7) (w:World) (ht:t.At w) (ho:t.OK):Gx.Calls Tryz.prog 131 #[t.ptr.v,bP.val a] w (cD w (.tuple #[aH.val (ij t a).1,I (ij t a).2.1,.bool (ij t a).2.2])):=by
  refine enterM0 48 Tryz.func131 rfl rfl (Nat.le_of_ble_eq_true rfl) (fun _ _=>?_)
  refine sg (cons (box (E:=bP) (.t rfl) (fun b1=>?_)))
  refine cons (alloc z84 (fun b2=>?_))
  refine co (Ev.assign (.c (v:=I 0) rfl)) ?_
  refine co (Ev.assign (.c (v:=.bool false) rfl)) ?_
  refine nP (sg (co (Ev.assign (.c (v:=I 32) rfl)) ?_))
  refine nP (cut (X:=Int) (fun x:Int=>(x = wd a)) (fun x:Int=>[dz,(0,true,.pointer (some ⟨t.b,0,none⟩)),(3,true,.pointer (some ⟨b1,0,none⟩)),(4,true,.pointer (some ⟨b2,0,none⟩)),(5,true,I 0),(6,true,.bool false),(7,true,I x)]) (fun x:Int=>[Var b2 aH aH.zero 84,Var b1 bP a 42,Dm []]) ?_ (fun x hx=>?_))
  · refine sg (co (fA 0 (.t rfl)) ?_)
    refine co (Ev.ldx a.v6 ty4 (.t rfl) a7.kI) ?_
    refine nP ?_
    first | refine aL rfl (fun h0=>?_) (fun h0=>?_) | refine cond rfl (fun h0=>?_) (fun h0=>?_)
    · try simp only [nb] at h0
      refine region (co (Ev.assign (.c (v:=I 128) rfl)) ?_)
      refine nP (mt (X:=Int) (_) ?_)
      · try dsimp only
        unfold wd; rw [show a.v6 = _ from h0]; rfl
    · try simp only [nb] at h0
      refine skip (pN (mt (X:=Int) (_) ?_))
      · try dsimp only
        unfold wd; rw [show a.v6 = _ from h0]; rfl
  obtain ⟨n,rfl⟩:∃ y,y = x:=⟨x,rfl⟩
  have hn:n = wd a:=hx
  clear hx
  show Sat _ _ [dz,(0,true,.pointer (some ⟨t.b,0,none⟩)),(3,true,.pointer (some ⟨b1,0,none⟩)),(4,true,.pointer (some ⟨b2,0,none⟩)),(5,true,I 0),(6,true,.bool false),(7,true,I n)] [Var b2 aH aH.zero 84,Var b1 bP a 42,Dm []]
  refine seq ?_
  obtain ⟨z,hz⟩:∃ z,ofV a n = z:=⟨_,rfl⟩
  obtain ⟨e0,he⟩:∃ z,ofE a n = z:=⟨_,rfl⟩
  refine region (co (Ev.ldx a fF (.t rfl) (ak.id _)) ?_)
  refine mv rfl (cons (aZ en108 (.cons (.t rfl) (.cons (.t rfl) .nil)) (fun w I=>of_g _ _ w z e0 hz he) ?_))
  refine mv rfl (co (Ev.extract (.t rfl) rfl) (co (Ev.extract (.t rfl) rfl) (cons (alloc z84 (fun b3=>?_)))))
  refine cons (stv cW (ak.id _) (.t rfl) (.t rfl) ?_)
  refine asn rfl (nP (seq (sg (mv rfl (cons (aZ en74 (.cons (.t rfl) .nil) (fun w I=>there_ok t w (ht.1.cB I.keeps)) ?_))))))
  refine co (Ev.not (.t rfl)) ?_
  refine mv rfl (cg rfl rfl (Ev.move (.t rfl)) ?_)
  refine cg rfl rfl (Ev.eX (.g rfl id) (.c (v:=I 0) rfl)) ?_
  refine co (Ev.pkO (.t rfl) rfl) ?_
  refine nP ?_
  first | refine aL rfl (fun h1=>?_) (fun h1=>?_) | refine cond rfl (fun h1=>?_) (fun h1=>?_)
  · refine sg (co (Ev.aQ (fs:=_) (places:=[(0,17),(17,1)]) z84 rfl Tryz.underlying84 zk .nil aj.nil) ?_)
    refine cons (stv cW (ak.id _) (.t rfl) (.t rfl) ?_)
    refine co (Ev.assign (.c (v:=I 0) rfl)) ?_
    refine co (Ev.assign (.c (v:=.bool false) rfl)) ?_
    refine nP (ret (pR (doneM zr rfl rfl (.cellP rfl cW (cT zm (ak.id _)) (.tmp rfl (.tmp rfl .nil))) (bc ?_))))
    have hc:aM a ≠ 0:=by
      have h9:(!t.made) = true ∨ e0 ≠ 0:=by simpa using h1
      rw [ho.made] at h9
      rcases h9 with h9 | h9
      · cases h9
      · rw [← he,hn,ofE_wd] at h9; exact h9
    unfold ij; rw [if_neg hc]; rfl
  · have hca:aM a = 0:=by
      have h9:(!t.made) = false ∧ e0 = 0:=by simpa using h1
      rw [← ofE_wd,← hn,he]; exact h9.2
    have hzf:z = full a:=by rw [← hz,hn]; exact ofV_wd hca
    have hzc:cO z = 0:=by rw [hzf]; exact (oo hca).1
    refine skip (pN (sg (cons (alloc z176 (fun b4=>?_)))))
    refine nP (seq (sg (mv rfl (co (Ev.ldv cW (.t rfl) (ak.id _)) ?_))))
    refine cons (fQ (X:=Nat × Nat) (fun _=>True) (fun x=>(bnd 133 [] [.pointer (some ⟨x.1,0,none⟩),.pointer (some ⟨x.2,0,none⟩)]).v) (fun x=>[Var x.2 aH z 84,Var x.1 (ovE aR) t.ptr 63]) en132 (.cons (.t rfl) (.cons (.t rfl) .nil)) (fun w I=>down_ok t z w) (fun x1 _=>?_))
    refine nP (block (rangeF (ζ:=Unit) (m:=[]) (ps:=[31]) encN (fun s:PT=>Var b4 (ovE aR) s.ptr 176) PT.nil (PT.way z (PT.kid z.addr.v6 t.l t.r)) (fun x s s'=>s' = if x.key.2.2 = true then x else s) (fun _ _ _ _=>False) (fun x z=>[dz,(10,true,.pointer (some ⟨b4,0,none⟩)),(11,true,x.ptr.v)]) (fun x z=>([]:List Res)) (fun _=>True) trivial (fun _ _ _ _ _=>trivial) zr zr rfl (.t rfl) ⟨133,[],[.pointer (some ⟨x1.1,0,none⟩),.pointer (some ⟨x1.2,0,none⟩)],rfl⟩ (fun _=>rfl) rfl (fun w I hb=>down_iter t z hzc x1.1 x1.2 w _ (fun w1 k=>⟨ht.cB (hb w1 k).keeps,cT (E':=ovE aR) zm (ak.id _) w1 (hb w1 k),cT (E':=aH) zm (ak.id _) w1 (hb w1 k)⟩)) (fun l x w=>?_) (fun l x s zv n0 w hx hn0 hinv hft hb=>?_) (fun s D hr=>?_) (fun c s D hr=>?_)))
    · refine region (asn rfl (nil (gd () (by repeat first | exact Sub.nil | refine Sub.cons rfl ?_) zs)))
    · obtain ⟨b,q,u,h,l,r,rfl⟩:=PT.ki hx
      refine block (sg (co (Ev.to (v':=.pointer (some ⟨b,0,none⟩)) (Ev.move (.t rfl)) (rfl)) ?_))
      refine co (Ev.nilCheck (.t rfl)) ?_
      refine co (fA 19 (.t rfl)) ?_
      refine co (Ev.load ty4 (.t rfl) (cU (fun w I=>(PT.oC ((ht.cB (hb w I.keeps).keeps).kid z.addr.v6) hx).1) az.lI)) ?_
      refine nP ?_
      first | refine aL rfl (fun h2=>?_) (fun h2=>?_) | refine cond rfl (fun h2=>?_) (fun h2=>?_)
      · refine region (mv rfl (cons (stv dO (ak.id _) (.t rfl) (.t rfl) ?_)))
        refine nil (bN ?_)
        exact rdN hn0 (PT.node b q u h l r) (by rw [if_pos (show (PT.node b q u h l r).key.2.2 = true from h2)]) mH
      · refine skip (bN ?_)
        exact rdN hn0 s (by rw [if_neg (show ¬ (PT.node b q u h l r).key.2.2 = true from by rw [show (PT.node b q u h l r).key.2.2 = h from rfl,show h = false from h2]; exact Bool.false_ne_true)]) mH
    · have hfd:=findN hr
      rw [hzf] at hfd
      have hfn:=find_none (t:=t) (a:=a) rfl hfd
      refine bN (pN (seq (sg (co (Ev.to (v':=.pointer s.adr) (Ev.ldv dO (.t rfl) (ak.id _)) (rfl)) ?_))))
      refine co (Ev.eql_p Tryz.underlying176 (.t rfl) (.c rfl)) ?_
      refine nP ?_
      first | refine aL rfl (fun h3=>?_) (fun h3=>?_) | refine cond rfl (fun h3=>?_) (fun h3=>?_)
      · refine sg (co (Ev.aQ (fs:=_) (places:=[(0,17),(17,1)]) z84 rfl Tryz.underlying84 zk .nil aj.nil) ?_)
        refine cons (stv cW (ak.id _) (.t rfl) (.t rfl) ?_)
        refine co (Ev.assign (.c (v:=I 0) rfl)) ?_
        refine co (Ev.assign (.c (v:=.bool false) rfl)) ?_
        refine nP (ret (pR (doneM zr rfl rfl (.cellP rfl cW (cT zm (ak.id _)) (.tmp rfl (.tmp rfl .nil))) (bc ?_))))
        have hg:t.find a = none:=by
          rcases hfn with g | ⟨g,_⟩
          · exact g.2
          · obtain ⟨b,q,u,h,l,r,rfl⟩:=PT.ki g
            cases h3
        unfold ij; rw [if_pos hca,hg]; rfl
      · refine skip (pN (seq ?_))
        replace hfn:=hfn.resolve_left (fun g=>by rw [g.1] at h3; cases h3)
        obtain ⟨b,q,u,h,l,r,rfl⟩:=PT.ki hfn.1
        have hsx:PT.node b q u h l r ∈ PT.way z (PT.kid z.addr.v6 t.l t.r):=by rw [hzf]; exact hfn.1
        refine lK 4 rfl zr zk ?_
        refine tk 0 rfl (Ev.to (v':=.pointer (some ⟨b,0,none⟩)) (Ev.ldv dO (.t rfl) (ak.id _)) (rfl)) ?_
        refine tk 1 rfl (Ev.nilCheck (.t rfl)) ?_
        refine tk 2 rfl (fA 0 (.t rfl)) ?_
        refine tk 3 rfl (Ev.load cW (.t rfl) (cU (fun w I=>(PT.oC ((ht.cB I.keeps).kid z.addr.v6) hsx).1) az.l_p)) ?_
        refine tk 4 rfl (Ev.to (v':=.pointer (some ⟨b,0,none⟩)) (Ev.ldv dO (.t rfl) (ak.id _)) (rfl)) ?_
        refine tk 5 rfl (Ev.nilCheck (.t rfl)) ?_
        refine tk 6 rfl (fA 18 (.t rfl)) ?_
        refine tk 7 rfl (Ev.load ty3 (.t rfl) (cU (fun w I=>(PT.oC ((ht.cB I.keeps).kid z.addr.v6) hsx).1) az.l_v)) ?_
        refine al1 8 rfl ((stv cW (ak.id _) (.t rfl) (.t rfl) ?_))
        refine hdn (tk 9 rfl (Ev.assign (.t rfl)) ?_)
        refine tk 10 rfl (Ev.assign (.c (v:=.bool true) rfl)) ?_
        refine ovr (pN (ret (doneM zr rfl rfl (.cellP rfl cW (cT zm (ak.id _)) (.tmp rfl (.tmp rfl .nil))) (bc ?_))))
        unfold ij; rw [if_pos hca,hfn.2]; rfl
    · exfalso
      have:∀ (xs:List PT) (s0 s:PT),RunsX (fun x s s'=>s' = if x.key.2.2 = true then x else s) (fun _ _ _ _=>False) c xs s0 s→False:=by
        intro xs
        induction xs with
        | nil=>intro _ _ h; exact h
        | cons x xs ih=>rintro s0 s (h | ⟨q,_,h⟩)
                        · exact h
                        · exact ih _ _ h
      exact this _ _ _ hr
end Go.Proofs.YtjanhajdmhalaaaGreat.Tri
namespace Go.Proofs.YtjanhajdmhalaaaGreat.Tri
open Go Go.Gx
theorem put_n {t x:Tt} {p:aq} {v:Int} (ho:t.OK) (hx:x.OK) (h:∀ y,y ∈ x.bL ↔ (y = (p,v) ∨ (y ∈ t.bL ∧ y.1 ≠ p))):x.n ≤ t.n + 1:=by
  have h1:=len_new ho.nodup hx.nodup h
  rw [ho.n,hx.n]
  rcases Classical.em (∃ y ∈ t.bL,y.1 = p) with g | g
  · have:=h1.2 g
    omega
  · have:=h1.1 (fun y hy e=>g ⟨y,hy,e⟩)
    omega
def hN (l:List aU):aq × Int→Prop:=l.foldl (fun Q r y=>y = (r.to_,r.out) ∨ (Q y ∧ y.1 ≠ r.to_)) (fun _=>False)
theorem mz (l:List aU) (r:aU) (y:aq × Int):hN (l ++ [r]) y ↔ (y = (r.to_,r.out) ∨ (hN l y ∧ y.1 ≠ r.to_)):=by
  unfold hN
  rw [List.foldl_append]
  exact Iff.rfl
def ofR (l:List aU):Int:=if l.all (fun r=>decide (cO r.to_ = 0)) = true then 0 else 151
theorem checkP_01 (p:aq):cO p = 0 ∨ cO p = 151:=by
  unfold cO
  split
  · exact .inr rfl
  · exact .inl rfl
def TofJ (l:List aU) (x:Tt × List Res):Prop:=ofR l = 0→(x.1.OK ∧ (∀ y,y ∈ x.1.bL ↔ hN l y) ∧ x.1.n ≤ l.length ∧ ∀ w1,(∀ r ∈ x.2,r.A w1)→x.1.At w1)
theorem take_snoc' {α:Type} (l:List α) (i:Int) (h0:0 ≤ i) (h1:i < l.length) (z:α):l.take (i + 1).toNat = l.take i.toNat ++ [l.getD i.toNat z]:=by
  have e:(i + 1).toNat = i.toNat + 1:=by omega
  have hl:i.toNat < l.length:=by omega
  rw [e,List.take_add_one,List.getElem?_eq_getElem hl]
  simp [List.getD,hl]
theorem key_uniq {l:List (aq × Int)} (h:(l.map (·.1)).Nodup) {a b:aq × Int} (ha:a ∈ l) (hb:b ∈ l) (e:a.1 = b.1):a = b:=by
  induction l with
  | nil=>simp at ha
  | cons z l ih =>
    rw [List.map_cons,List.nodup_cons] at h
    rcases List.mem_cons.1 ha with ha | ha <;> rcases List.mem_cons.1 hb with hb | hb
    · rw [ha,hb]
    · exact absurd (List.mem_map.2 ⟨b,hb,by rw [← e,ha]⟩) h.1
    · exact absurd (List.mem_map.2 ⟨a,ha,by rw [e,hb]⟩) h.1
    · exact ih h.2 ha hb
theorem find_spec {t:Tt} (ho:t.OK) (a:a7):(∃ x ∈ t.bL,jI x.1 a = true ∧ ij t a = (x.1,x.2,true) ∧ ∀ y ∈ t.bL,jI y.1 a = true→e8 y.1 x.1 = true) ∨ (ij t a = (aH.zero,0,false) ∧ ∀ y ∈ t.bL,jI y.1 a = false):=by
  by_cases hc:aM a = 0
  · have hk:=keyLaw a.v6
    have cl:=covLaw a.v6
    have hfo:=oo hc
    cases hb:t.find a with
    | none =>
      refine .inr ⟨by unfold ij; rw [if_pos hc,hb],fun y hy=>?_⟩
      have hn:=hk.best_none cl hfo (ho.kid a.v6) hb
      cases hh:jI y.1 a with
      | false=>rfl
      | true =>
        have h2:=(kJ hc).1 hh
        exact absurd h2.2 (hn y ((ho.mem_k _ y).2 ⟨hy,h2.1.2⟩))
    | some x =>
      obtain ⟨h1,h2,h3⟩:=hk.best_some cl hfo (ho.kid a.v6) hb
      have hx:=(ho.mem_k _ x).1 h1
      have hox:okP a.v6 x.1:=((ho.kid a.v6).fl x h1).1
      refine .inl ⟨x,hx.1,(kJ hc).2 ⟨hox,h2⟩,by unfold ij; rw [if_pos hc,hb],fun y hy hh=>?_⟩
      have h4:=(kJ hc).1 hh
      exact (mf h4.1 hox).2 (h3 y ((ho.mem_k _ y).2 ⟨hy,h4.1.2⟩) h4.2)
  · refine .inr ⟨by unfold ij; rw [if_neg hc],fun y _=>?_⟩
    cases hh:jI y.1 a with
    | false=>rfl
    | true=>exact absurd ((jH _ _).1 hh).2.1 hc
theorem find_of {t:Tt} (ho:t.OK) {a:a7} {x:aq × Int} (hx:x ∈ t.bL) (hh:jI x.1 a = true) (hm:∀ y ∈ t.bL,jI y.1 a = true→y.1.bits ≤ x.1.bits):ij t a = (x.1,x.2,true):=by
  rcases find_spec ho a with ⟨z,h1,h2,h3,h4⟩ | ⟨h1,h2⟩
  · have hc:=((jH _ _).1 hh).2.1
    have oz:=((kJ hc).1 h2).1
    have ox:=((kJ hc).1 hh).1
    have e1:=(mf ox oz).1 (h4 x hx hh)
    have e2:=hm z h1 h2
    have n1:=ox.nn
    have n2:=oz.nn
    have e:x.1 = z.1:=pb_inj ox oz (jT e1 (by simp; omega))
    rw [key_uniq ho.nodup hx h1 e]
    exact h3
  · rw [h2 x hx] at hh
    cases hh
theorem getD_in' {α:Type} (l:List α) (i:Nat) (d:α) (h:i < l.length):l.getD i d ∈ l:=by simp [List.getD,h]
theorem en33:Gx.aC Tryz.prog 33:=Gx.aC.mk' zk
theorem en34:Gx.aC Tryz.prog 34:=Gx.aC.mk' zk
theorem tof_ok (u:Value) (rs:List aU) (w:World) (hs:bH aA w u rs) (hl:rs.length ≤ 4611686018427387):Gx.Calls Tryz.prog 13 #[u] w (ja w (TofJ rs) (fun x=>.tuple #[.pointer (pO (ofR rs) x.1.b),I (ofR rs)]) (fun x=>x.2)):=by
  have hle:=hs.le
  refine en0 41 Tryz.func13 (fun _ _=>?_)
  refine sg (co (Ev.assign (.c (v:=(Go.Value.pointer none)) rfl)) ?_)
  refine co (Ev.assign (.c (v:=I 0) rfl)) ?_
  refine nP (seq (sg (mv rfl (co (Ev.len Tryz.underlying23 (.t rfl) (fun w I=>hs.aT I.keeps)) ?_))))
  refine co (Ev.move (.c (v:=I 0) rfl)) ?_
  refine nP (block (lp (X:=Int) (fun x:Int=>(0 ≤ x ∧ x ≤ rs.length) ∧ (∀ j:Nat,j < x→cO (rs.getD j aA.zero).to_ = 0)) (fun x:Int=>[dz,(0,true,u),(2,true,.pointer none),(3,true,I 0),(10,true,u),(11,true,I rs.length),(12,true,I x)]) (fun x:Int=>[]) (fun x:Int=>((rs.length:Int) - x).toNat) (0) ⟨?_,?_⟩ (fun x hx=>?_)))
  · omega
  · intro j h; omega
  obtain ⟨i,rfl⟩:∃ y,y = x:=⟨x,rfl⟩
  obtain ⟨hi,hq⟩:(0 ≤ i ∧ i ≤ rs.length) ∧ (∀ j:Nat,j < i→cO (rs.getD j aA.zero).to_ = 0):=hx
  show Sat _ _ [dz,(0,true,u),(2,true,.pointer none),(3,true,I 0),(10,true,u),(11,true,I rs.length),(12,true,I i)] []
  refine sg (co (Ev.dx (.t rfl) (.t rfl)) ?_)
  refine nP (seq ?_)
  first | refine aL rfl (fun h0=>?_) (fun h0=>?_) | refine cond rfl (fun h0=>?_) (fun h0=>?_)
  · try simp only [nb] at h0
    refine skip (pN (seq (block (sg (co (Ev.indexAddr Tryz.underlying23 de (.t rfl) (.t rfl) (fun w I=>hs.aT I.keeps) (fun _=>zo)) ?_)))))
    refine co (Ev.dp de (.t rfl) (fun w I=>hs.aT I.keeps) (fun _=>zo)) ?_
    refine cons (alloc eO (fun b1=>?_))
    refine cons (stv de (ak.id _) (.t rfl) (.t rfl) ?_)
    refine nP (sg (co (fA 0 (.t rfl)) ?_))
    refine co (Ev.ldv cW (.t rfl) aU.dW) ?_
    refine cons (aZ en32 (.cons (.t rfl) .nil) (fun w I=>g7 _ w) ?_)
    refine asn rfl (nP (sg (mv rfl (co (Ev.eX (.t rfl) (.c (v:=I 0) rfl)) ?_))))
    refine nP ?_
    first | refine aL rfl (fun h1=>?_) (fun h1=>?_) | refine cond rfl (fun h1=>?_) (fun h1=>?_)
    · try simp only [nb] at h1
      refine sg (mv rfl (co (Ev.assign (.c (v:=(Go.Value.pointer none)) rfl)) ?_))
      refine asn rfl (nP (ret (bR (pR (pR (bR (pR (done rfl (.tmp rfl (.tmp rfl .nil)) (fun w I=>?_)))))))))
      have he:ofR rs = 151:=by
        unfold ofR
        rw [if_neg]
        intro h
        exact h1 (of_decide_eq_true (List.all_eq_true.1 h _ (getD_in' rs i.toNat aA.zero (by omega))))
      have hc:cO (rs.getD i.toNat aA.zero).to_ = 151:=(checkP_01 _).resolve_left h1
      exact eW ((⟨0,true,0,.nil,.nil⟩:Tt),[]) (fun h=>by rw [he] at h; cases h) (by show _ = Value.tuple #[.pointer (pO (ofR rs) 0),Gx.I (ofR rs)]; rw [he,← hc]; unfold pO; rw [if_neg (show ¬ cO (rs.getD i.toNat aA.zero).to_ = 0 from h1)]; rfl) ah.nil w I
    · try simp only [nb] at h1
      refine skip (bN (pN (region (co (Ev.a8 (.t rfl) (.c (v:=I 1) rfl) (fun _=>zo)) ?_))))
      refine mv rfl (nP (nx (X:=Int) (i + 1) ⟨?_,?_⟩ ?_))
      · try dsimp only
        omega
      · try dsimp only
        intro j hj
        by_cases e:(j:Int) < i
        · exact hq j e
        · obtain rfl:j = i.toNat:=by omega
          exact Decidable.not_not.1 h1
      · try dsimp only
        omega
  · try simp only [nb] at h0
    refine exit (pX (pX (bX (pN (seq ?_)))))
    have hgood:∀ r ∈ rs,cO r.to_ = 0:=fun r hr=>by
      obtain ⟨j,hj,rfl⟩:=List.mem_iff_getElem.1 hr
      have:=hq j (by omega)
      simpa [List.getD,hj] using this
    have he0:ofR rs = 0:=by
      unfold ofR
      rw [if_pos (List.all_eq_true.2 (fun r hr=>decide_eq_true (hgood r hr)))]
    refine region (cons (fQ (X:=Tt) (fun x:Tt=>x.OK ∧ x.bL = [] ∧ x.made = true ∧ x.n = 0 ∧ x.l = .nil ∧ x.r = .nil) (fun x=>x.ptr.v) (fun x=>[Var x.b dN x.val 179]) en33 .nil (fun w I=>new_ok w) (fun t0 ht0=>?_)))
    refine asn rfl (nP (seq (sg (mv rfl (co (Ev.len Tryz.underlying23 (.t rfl) (fun w I=>hs.aT I.keeps)) ?_)))))
    refine co (Ev.move (.c (v:=I 0) rfl)) ?_
    refine nP (block (lp (X:=Int × Tt × (List Res)) (fun x:Int × Tt × (List Res)=>(0 ≤ x.1 ∧ x.1 ≤ rs.length) ∧ (x.2.1.OK) ∧ (x.2.1.n ≤ x.1) ∧ (∀ y,y ∈ x.2.1.bL ↔ hN (rs.take x.1.toNat) y) ∧ (∀ w1:World,(∀ r ∈ x.2.2,r.A w1)→x.2.1.At w1)) (fun x:Int × Tt × (List Res)=>[dz,(7,true,x.2.1.ptr.v),(24,true,u),(25,true,I rs.length),(26,true,I x.1)]) (fun x:Int × Tt × (List Res)=>x.2.2) (fun x:Int × Tt × (List Res)=>((rs.length:Int) - x.1).toNat) (0,t0,[Var t0.b dN t0.val 179]) ⟨?_,?_,?_,?_,?_⟩ (fun x hx=>?_)))
    · omega
    · exact ht0.1
    · rw [ht0.2.2.2.1]; exact Int.le_refl _
    · exact fun y=>by rw [ht0.2.1]; exact ⟨fun h=>(by simp at h),fun h=>h.elim⟩
    · exact fun w1 h=>⟨cR (T:=179) h List.mem_cons_self,by rw [ht0.2.2.2.2.1]; trivial,by rw [ht0.2.2.2.2.2]; trivial⟩
    obtain ⟨i2,tt,Rs⟩:=x
    obtain ⟨hi2,hok,hn,hmm,hat⟩:(0 ≤ i2 ∧ i2 ≤ rs.length) ∧ (tt.OK) ∧ (tt.n ≤ i2) ∧ (∀ y,y ∈ tt.bL ↔ hN (rs.take i2.toNat) y) ∧ (∀ w1:World,(∀ r ∈ Rs,r.A w1)→tt.At w1):=hx
    show Sat _ _ [dz,(7,true,tt.ptr.v),(24,true,u),(25,true,I rs.length),(26,true,I i2)] Rs
    refine sg (co (Ev.dx (.t rfl) (.t rfl)) ?_)
    refine nP (seq ?_)
    first | refine aL rfl (fun h2=>?_) (fun h2=>?_) | refine cond rfl (fun h2=>?_) (fun h2=>?_)
    · try simp only [nb] at h2
      refine skip (pN (seq (block (sg (co (Ev.indexAddr Tryz.underlying23 de (.t rfl) (.t rfl) (fun w I=>hs.aT I.keeps) (fun _=>zo)) ?_)))))
      refine co (Ev.dp de (.t rfl) (fun w I=>hs.aT I.keeps) (fun _=>zo)) ?_
      refine cons (alloc eO (fun b2=>?_))
      refine cons (stv de (ak.id _) (.t rfl) (.t rfl) ?_)
      refine nP ?_
      have hck:cO (rs.getD i2.toNat aA.zero).to_ = 0:=hgood _ (getD_in' rs i2.toNat aA.zero (by omega))
      refine region (mv rfl (co (fA 0 (.t rfl)) ?_))
      refine co (Ev.ldv cW (.t rfl) aU.dW) ?_
      refine co (fA 18 (.t rfl)) ?_
      refine co (Ev.ldv ty3 (.t rfl) aU.dj) ?_
      refine cons (fQ (X:=Tt × List Res) (TputJ tt (rs.getD i2.toNat aA.zero).to_ (rs.getD i2.toNat aA.zero).out) (fun x=>.tuple #[.pointer (pO (cO (rs.getD i2.toNat aA.zero).to_) x.1.b),I (cO (rs.getD i2.toNat aA.zero).to_)]) (fun x=>x.2) en34 (.cons (.t rfl) (.cons (.t rfl) (.cons (.t rfl) .nil))) (fun w I=>tput_ok tt _ _ w (hat w (fun r hr=>(I.own r (by repeat first | exact hr | apply List.Mem.tail)).1)) hok (by omega)) (fun x1 hx1=>?_))
      refine mv rfl (co (Ev.to (v':=x1.1.ptr.v) (Ev.extract (.t rfl) rfl) (congrArg Value.pointer (if_pos hck))) ?_)
      refine co (Ev.extract (.t rfl) rfl) (asn rfl (nil (bN (pN ?_))))
      obtain ⟨hok1,hmm1,hat1⟩:=hx1 hck
      have hn1:=put_n hok hok1 hmm1
      refine region (co (Ev.a8 (.t rfl) (.c (v:=I 1) rfl) (fun _=>zo)) ?_)
      refine mv rfl (nP (nx (X:=Int × Tt × (List Res)) (i2 + 1,x1.1,x1.2 ++ Rs) ⟨?_,?_,?_,?_,?_⟩ ?_ (hL:=(by first | exact List.Sublist.refl _ | (apply List.Sublist.append_left; repeat first | exact List.Sublist.refl _ | apply List.Sublist.cons)))))
      · try dsimp only
        omega
      · try dsimp only
        exact hok1
      · try dsimp only
        omega
      · try dsimp only
        exact fun y=>by rw [take_snoc' rs i2 hi2.1 (by omega) aA.zero,mz,hmm1,hmm]
      · try dsimp only
        exact fun w1 h=>hat1 w1 (hat w1 (fun r hr=>h r (List.mem_append_right _ hr))) (fun r hr=>h r (List.mem_append_left _ hr))
      · try dsimp only
        omega
    · try simp only [nb] at h2
      refine exit (pX (pX (bX (pN (sg (mv rfl (asn rfl (co (Ev.assign (.c (v:=I 0) rfl)) ?_))))))))
      refine nP (ret (done rfl (.tmp rfl (.tmp rfl .nil)) (fun w I=>?_)))
      have hi9:i2.toNat = rs.length:=by omega
      rw [hi9,List.take_length] at hmm
      refine eW (tt,Rs) (fun _=>⟨hok,hmm,by show tt.n ≤ rs.length; omega,hat⟩) (by show _ = Value.tuple #[.pointer (pO (ofR rs) tt.b),Gx.I (ofR rs)]; rw [he0]; rfl) (ah.of (List.Sublist.refl _)) w I
end Go.Proofs.YtjanhajdmhalaaaGreat.Tri
namespace Go.Proofs.YtjanhajdmhalaaaGreat
open Go Go.Gx
def ma (h:au):Int:=bif h.src.v6 then 40 else 20
def fb (p:UInt8):Int:=if p = 6 then 20 else if p = 17 then 8 else 0
def atN (p:UInt8):Int:=if p = 6 then 16 else 6
def bM (h:au) (n:Int):Int :=
  if aM h.src ≠ 0 ∨ aM h.dst ≠ 0 ∨ h.src.v6 ≠ h.dst.v6 ∨ (bif h.src.v6 then 1048575 else 65535) < h.id then 2
  else if fb h.bj = 0 ∧ (h.bx ≠ 0 ∨ h.bm ≠ 0) ∨ h.bj ≠ 6 ∧ (h.flags ≠ 0 ∨ h.seq ≠ 0) then 2
  else if 2048 < ma h + fb h.bj + n then 4 else 0
def addrB (a:a7):List UInt8:=a.b.toList.take (bif a.v6 then 16 else 4)
theorem ef (h:au) (w:World):Gx.Calls Tryz.prog 39 #[bS.val h] w (cD w (I (ma h))):=by
  refine en0 6 Tryz.func39 (fun _ _=>?_)
  refine sg (cons (box (E:=bS) (.t rfl) (fun b1=>?_)))
  refine co (Ev.assign (.c (v:=I 0) rfl)) ?_
  refine nP (seq (sg (co (fA 0 (.t rfl)) ?_)))
  refine co (fA 0 (.t rfl)) ?_
  refine co (Ev.ldx h.src.v6 ty4 (.t rfl) (ak.comp au.ee a7.kI)) ?_
  refine nP ?_
  first | refine aL rfl (fun h0=>?_) (fun h0=>?_) | refine cond rfl (fun h0=>?_) (fun h0=>?_)
  · try simp only [Gx.nb] at h0
    refine sg (co (Ev.assign (.c (v:=I 40) rfl)) ?_)
    refine nP (ret (pR (done rfl (.tmp rfl .nil) (bc ?_))))
    first | rfl | simp [ma, *]
  · try simp only [Gx.nb] at h0
    refine skip (pN (sg (co (Ev.assign (.c (v:=I 20) rfl)) ?_)))
    refine nP (ret (done rfl (.tmp rfl .nil) (bc ?_)))
    first | rfl | simp [ma, *]
theorem middle_ok (p:UInt8) (w:World):Gx.Calls Tryz.prog 37 #[U8 p] w (cD w (I (fb p))):=by
  refine en0 8 Tryz.func37 (fun _ _=>?_)
  refine sg (co (Ev.assign (.c (v:=I 0) rfl)) ?_)
  refine nP (seq (sg (mv rfl (nP (block (sg (co (Ev.eql_u8 (.t rfl) (.c (v:=U8 6) rfl)) ?_)))))))
  refine asn rfl (nP ?_)
  first | refine aL rfl (fun h0=>?_) (fun h0=>?_) | refine cond rfl (fun h0=>?_) (fun h0=>?_)
  · try simp only [Gx.nb] at h0
    refine sg (co (Ev.assign (.c (v:=I 20) rfl)) ?_)
    refine nP (ret (bR (pR (done rfl (.tmp rfl .nil) (bc ?_)))))
    simp [fb, *]
  · try simp only [Gx.nb] at h0
    refine sg (co (Ev.eql_u8 (.t rfl) (.c (v:=U8 17) rfl)) ?_)
    refine asn rfl (nP ?_)
    first | refine aL rfl (fun h1=>?_) (fun h1=>?_) | refine cond rfl (fun h1=>?_) (fun h1=>?_)
    · try simp only [Gx.nb] at h1
      refine sg (co (Ev.assign (.c (v:=I 8) rfl)) ?_)
      refine nP (ret (bR (pR (done rfl (.tmp rfl .nil) (bc ?_)))))
      simp [fb, *]
    · try simp only [Gx.nb] at h1
      refine skip (bN (pN (sg (co (Ev.assign (.c (v:=I 0) rfl)) ?_))))
      refine nP (ret (done rfl (.tmp rfl .nil) (bc ?_)))
      simp [fb, *]
theorem en37:Gx.aC Tryz.prog 37:=Gx.aC.mk' zk
theorem iC:bF Tryz.prog 47 bS:=bF.mk' zk zk
theorem lg:bF Tryz.prog 45 (ovE aw):=bF.mk' zk zk
theorem lh:Gx.aC Tryz.prog 39:=Gx.aC.mk' zk
theorem ty44:bF Tryz.prog 44 bG:=bF.mk' zk zk
set_option maxRecDepth 8000 in
theorem pcheck_ok (h:au) (d:List UInt8) (w:World) (hd:bH u8E w h.data.v d) (hl:d.length ≤ 1152921504606846975):Gx.Calls Tryz.prog 18 #[bS.val h] w (cD w (I (bM h d.length))):=by
  have hfl:0 ≤ ma h ∧ ma h ≤ 40:=by unfold ma; cases h.src.v6 <;> decide
  have hml:0 ≤ fb h.bj ∧ fb h.bj ≤ 20:=by unfold fb; split <;> (try split) <;> decide
  refine en0 67 Tryz.func18 (fun _ _=>?_)
  refine sg (cons (box (E:=bS) (.t rfl) (fun b1=>?_)))
  refine co (Ev.assign (.c (v:=I 0) rfl)) ?_
  refine nP (sg (co (Ev.assign (.c (v:=U32 65535) rfl)) ?_))
  refine nP (seq (sg (co (fA 0 (.t rfl)) ?_)))
  refine co (fA 0 (.t rfl)) ?_
  refine co (Ev.ldx h.src.v6 ty4 (.t rfl) (ak.comp au.ee a7.kI)) ?_
  refine nP ?_
  first | refine aL rfl (fun h0=>?_) (fun h0=>?_) | refine cond rfl (fun h0=>?_) (fun h0=>?_)
  · try simp only [Gx.nb] at h0
    refine region (co (Ev.assign (.c (v:=U32 1048575) rfl)) ?_)
    refine nP (sg (co (fA 34 (.t rfl)) ?_))
    refine co (Ev.ldx h.bj ty5 (.t rfl) au.dH) ?_
    refine cons (aZ en37 (.cons (.t rfl) .nil) (fun w I=>middle_ok _ w) ?_)
    refine asn rfl (nP (seq (block (seq (sg (co (fA 0 (.t rfl)) ?_))))))
    refine co (Ev.ldx h.src fF (.t rfl) au.ee) ?_
    refine cons (aZ en38 (.cons (.t rfl) .nil) (fun w I=>iP _ w) ?_)
    refine co (Ev.eX (.t rfl) (.c (v:=I 0) rfl)) ?_
    refine asn rfl (nP ?_)
    first | refine aL rfl (fun h1=>?_) (fun h1=>?_) | refine cond rfl (fun h1=>?_) (fun h1=>?_)
    · try simp only [Gx.nb] at h1
      refine skip (pN ?_)
      first | refine aL rfl (fun h4=>?_) (fun h4=>?_) | refine cond rfl (fun h4=>?_) (fun h4=>?_)
      · try simp only [Gx.nb] at h4
        refine sg (co (Ev.assign (.c (v:=I 2) rfl)) ?_)
        refine nP (ret (bR (pR (done rfl (.tmp rfl .nil) (bc ?_)))))
        unfold bM
        first
          | (simp_all; done)
          | (have hA:¬ (aM h.src ≠ 0 ∨ aM h.dst ≠ 0 ∨ h.src.v6 ≠ h.dst.v6 ∨ (bif h.src.v6 then 1048575 else 65535) < h.id):=by simp_all
             rw [if_neg hA]
             simp_all; done)
      · try simp only [Gx.nb] at h4
        refine seq (sg (mv rfl (co (Ev.fD (.t rfl) (.c (v:=I 0) rfl)) ?_)))
        refine mv rfl (cg rfl rfl (fA 35 (.t rfl)) ?_)
        refine cg rfl rfl (Ev.ldx h.bx gE (.g rfl id) au.da) ?_
        refine cg rfl rfl (Ev.eZ (.g rfl id) (.c (v:=U16 0) rfl)) ?_
        refine cg rfl rfl (Ev.move (.g rfl id)) ?_
        refine cg rfl rfl (fA 36 (.t rfl)) ?_
        refine cg rfl rfl (Ev.ldx h.bm gE (.g rfl id) au.cS) ?_
        refine cg rfl rfl (Ev.eZ (.g rfl id) (.c (v:=U16 0) rfl)) ?_
        refine cg rfl rfl (Ev.pkO (.g rfl id) rfl) ?_
        refine co (Ev.pkA (.t rfl) rfl) ?_
        refine asn rfl (nP ?_)
        first | refine aL rfl (fun h5=>?_) (fun h5=>?_) | refine cond rfl (fun h5=>?_) (fun h5=>?_)
        · try simp only [Gx.nb] at h5
          refine skip (pN ?_)
          first | refine aL rfl (fun h6=>?_) (fun h6=>?_) | refine cond rfl (fun h6=>?_) (fun h6=>?_)
          · try simp only [Gx.nb] at h6
            refine sg (co (Ev.assign (.c (v:=I 2) rfl)) ?_)
            refine nP (ret (bR (pR (done rfl (.tmp rfl .nil) (bc ?_)))))
            unfold bM
            first
              | (simp_all; done)
              | (have hA:¬ (aM h.src ≠ 0 ∨ aM h.dst ≠ 0 ∨ h.src.v6 ≠ h.dst.v6 ∨ (bif h.src.v6 then 1048575 else 65535) < h.id):=by simp_all
                 rw [if_neg hA]
                 simp_all; done)
          · try simp only [Gx.nb] at h6
            refine seq (df zk ?_)
            refine tk 0 rfl (Ev.ldx h iC (.t rfl) (ak.id _)) ?_
            refine tk 2 rfl (Ev.move (.t rfl)) ?_
            refine tk 4 rfl (fA 42 (.t rfl)) ?_
            refine tk 5 rfl (Ev.ldx h.data lg (.t rfl) au.fz) ?_
            refine tk 6 rfl (Ev.len Tryz.underlying45 (.t rfl) (fun w I=>hd.aT I.keeps)) ?_
            refine al1 1 rfl ((aZ lh (.cons (.t rfl) .nil) (fun w I=>ef _ w) ?_))
            refine hdn (tk 3 rfl (Ev.a8 (.t rfl) (.t rfl) (fun _=>zo)) ?_)
            refine tk 7 rfl (Ev.a8 (.t rfl) (.t rfl) (fun _=>zo)) ?_
            refine tk 8 rfl (Ev.eJ (.t rfl) (.c (v:=I 2048) rfl)) ?_
            refine tk 9 rfl (Ev.assign (.t rfl)) ?_
            refine ovr (pN ?_)
            first | refine aL rfl (fun h7=>?_) (fun h7=>?_) | refine cond rfl (fun h7=>?_) (fun h7=>?_)
            · try simp only [Gx.nb] at h7
              refine sg (co (Ev.assign (.c (v:=I 4) rfl)) ?_)
              refine nP (ret (bR (pR (done rfl (.tmp rfl .nil) (bc ?_)))))
              first
                | (exfalso; simp_all; done)
                | (have hA:¬ (aM h.src ≠ 0 ∨ aM h.dst ≠ 0 ∨ h.src.v6 ≠ h.dst.v6 ∨ (bif h.src.v6 then 1048575 else 65535) < h.id):=by simp_all
                   have hB:¬ (fb h.bj = 0 ∧ (h.bx ≠ 0 ∨ h.bm ≠ 0) ∨ h.bj ≠ 6 ∧ (h.flags ≠ 0 ∨ h.seq ≠ 0)):=by
                     intro hc
                     rcases hc with hc | hc <;> simp_all
                   unfold bM
                   rw [if_neg hA,if_neg hB]
                   first
                     | (rw [if_pos (by omega)]; rfl)
                     | (rw [if_neg (by omega)]; rfl))
            · try simp only [Gx.nb] at h7
              refine skip (bN (pN (sg (co (Ev.assign (.c (v:=I 0) rfl)) ?_))))
              refine nP (ret (done rfl (.tmp rfl .nil) (bc ?_)))
              first
                | (exfalso; simp_all; done)
                | (have hA:¬ (aM h.src ≠ 0 ∨ aM h.dst ≠ 0 ∨ h.src.v6 ≠ h.dst.v6 ∨ (bif h.src.v6 then 1048575 else 65535) < h.id):=by simp_all
                   have hB:¬ (fb h.bj = 0 ∧ (h.bx ≠ 0 ∨ h.bm ≠ 0) ∨ h.bj ≠ 6 ∧ (h.flags ≠ 0 ∨ h.seq ≠ 0)):=by
                     intro hc
                     rcases hc with hc | hc <;> simp_all
                   unfold bM
                   rw [if_neg hA,if_neg hB]
                   first
                     | (rw [if_pos (by omega)]; rfl)
                     | (rw [if_neg (by omega)]; rfl))
        · try simp only [Gx.nb] at h5
          refine region (co (fA 34 (.t rfl)) ?_)
          refine co (Ev.ldx h.bj ty5 (.t rfl) au.dH) ?_
          refine co (Ev.eP (.t rfl) (.c (v:=U8 6) rfl)) ?_
          refine mv rfl (cg rfl rfl (fA 40 (.t rfl)) ?_)
          refine cg rfl rfl (Ev.ldx h.flags ty5 (.g rfl id) au.hZ) ?_
          refine cg rfl rfl (Ev.eP (.g rfl id) (.c (v:=U8 0) rfl)) ?_
          refine cg rfl rfl (Ev.move (.g rfl id)) ?_
          refine cg rfl rfl (fA 41 (.t rfl)) ?_
          refine cg rfl rfl (Ev.ldx h.seq ty44 (.g rfl id) au.lH) ?_
          refine cg rfl rfl (Ev.jg (.g rfl id) (.c (v:=U32 0) rfl)) ?_
          refine cg rfl rfl (Ev.pkO (.g rfl id) rfl) ?_
          refine co (Ev.pkA (.t rfl) rfl) ?_
          refine asn rfl (nP ?_)
          first | refine aL rfl (fun h6=>?_) (fun h6=>?_) | refine cond rfl (fun h6=>?_) (fun h6=>?_)
          · try simp only [Gx.nb] at h6
            refine sg (co (Ev.assign (.c (v:=I 2) rfl)) ?_)
            refine nP (ret (bR (pR (done rfl (.tmp rfl .nil) (bc ?_)))))
            unfold bM
            first
              | (simp_all; done)
              | (have hA:¬ (aM h.src ≠ 0 ∨ aM h.dst ≠ 0 ∨ h.src.v6 ≠ h.dst.v6 ∨ (bif h.src.v6 then 1048575 else 65535) < h.id):=by simp_all
                 rw [if_neg hA]
                 simp_all; done)
          · try simp only [Gx.nb] at h6
            refine seq (df zk ?_)
            refine tk 0 rfl (Ev.ldx h iC (.t rfl) (ak.id _)) ?_
            refine tk 2 rfl (Ev.move (.t rfl)) ?_
            refine tk 4 rfl (fA 42 (.t rfl)) ?_
            refine tk 5 rfl (Ev.ldx h.data lg (.t rfl) au.fz) ?_
            refine tk 6 rfl (Ev.len Tryz.underlying45 (.t rfl) (fun w I=>hd.aT I.keeps)) ?_
            refine al1 1 rfl ((aZ lh (.cons (.t rfl) .nil) (fun w I=>ef _ w) ?_))
            refine hdn (tk 3 rfl (Ev.a8 (.t rfl) (.t rfl) (fun _=>zo)) ?_)
            refine tk 7 rfl (Ev.a8 (.t rfl) (.t rfl) (fun _=>zo)) ?_
            refine tk 8 rfl (Ev.eJ (.t rfl) (.c (v:=I 2048) rfl)) ?_
            refine tk 9 rfl (Ev.assign (.t rfl)) ?_
            refine ovr (pN ?_)
            first | refine aL rfl (fun h7=>?_) (fun h7=>?_) | refine cond rfl (fun h7=>?_) (fun h7=>?_)
            · try simp only [Gx.nb] at h7
              refine sg (co (Ev.assign (.c (v:=I 4) rfl)) ?_)
              refine nP (ret (bR (pR (done rfl (.tmp rfl .nil) (bc ?_)))))
              first
                | (exfalso; simp_all; done)
                | (have hA:¬ (aM h.src ≠ 0 ∨ aM h.dst ≠ 0 ∨ h.src.v6 ≠ h.dst.v6 ∨ (bif h.src.v6 then 1048575 else 65535) < h.id):=by simp_all
                   have hB:¬ (fb h.bj = 0 ∧ (h.bx ≠ 0 ∨ h.bm ≠ 0) ∨ h.bj ≠ 6 ∧ (h.flags ≠ 0 ∨ h.seq ≠ 0)):=by
                     intro hc
                     rcases hc with hc | hc <;> simp_all
                   unfold bM
                   rw [if_neg hA,if_neg hB]
                   first
                     | (rw [if_pos (by omega)]; rfl)
                     | (rw [if_neg (by omega)]; rfl))
            · try simp only [Gx.nb] at h7
              refine skip (bN (pN (sg (co (Ev.assign (.c (v:=I 0) rfl)) ?_))))
              refine nP (ret (done rfl (.tmp rfl .nil) (bc ?_)))
              first
                | (exfalso; simp_all; done)
                | (have hA:¬ (aM h.src ≠ 0 ∨ aM h.dst ≠ 0 ∨ h.src.v6 ≠ h.dst.v6 ∨ (bif h.src.v6 then 1048575 else 65535) < h.id):=by simp_all
                   have hB:¬ (fb h.bj = 0 ∧ (h.bx ≠ 0 ∨ h.bm ≠ 0) ∨ h.bj ≠ 6 ∧ (h.flags ≠ 0 ∨ h.seq ≠ 0)):=by
                     intro hc
                     rcases hc with hc | hc <;> simp_all
                   unfold bM
                   rw [if_neg hA,if_neg hB]
                   first
                     | (rw [if_pos (by omega)]; rfl)
                     | (rw [if_neg (by omega)]; rfl))
    · try simp only [Gx.nb] at h1
      refine sg (co (fA 17 (.t rfl)) ?_)
      refine co (Ev.ldx h.dst fF (.t rfl) au.iA) ?_
      refine cons (aZ en38 (.cons (.t rfl) .nil) (fun w I=>iP _ w) ?_)
      refine co (Ev.eX (.t rfl) (.c (v:=I 0) rfl)) ?_
      refine asn rfl (nP ?_)
      first | refine aL rfl (fun h2=>?_) (fun h2=>?_) | refine cond rfl (fun h2=>?_) (fun h2=>?_)
      · try simp only [Gx.nb] at h2
        refine skip (pN ?_)
        first | refine aL rfl (fun h4=>?_) (fun h4=>?_) | refine cond rfl (fun h4=>?_) (fun h4=>?_)
        · try simp only [Gx.nb] at h4
          refine sg (co (Ev.assign (.c (v:=I 2) rfl)) ?_)
          refine nP (ret (bR (pR (done rfl (.tmp rfl .nil) (bc ?_)))))
          unfold bM
          first
            | (simp_all; done)
            | (have hA:¬ (aM h.src ≠ 0 ∨ aM h.dst ≠ 0 ∨ h.src.v6 ≠ h.dst.v6 ∨ (bif h.src.v6 then 1048575 else 65535) < h.id):=by simp_all
               rw [if_neg hA]
               simp_all; done)
        · try simp only [Gx.nb] at h4
          refine seq (sg (mv rfl (co (Ev.fD (.t rfl) (.c (v:=I 0) rfl)) ?_)))
          refine mv rfl (cg rfl rfl (fA 35 (.t rfl)) ?_)
          refine cg rfl rfl (Ev.ldx h.bx gE (.g rfl id) au.da) ?_
          refine cg rfl rfl (Ev.eZ (.g rfl id) (.c (v:=U16 0) rfl)) ?_
          refine cg rfl rfl (Ev.move (.g rfl id)) ?_
          refine cg rfl rfl (fA 36 (.t rfl)) ?_
          refine cg rfl rfl (Ev.ldx h.bm gE (.g rfl id) au.cS) ?_
          refine cg rfl rfl (Ev.eZ (.g rfl id) (.c (v:=U16 0) rfl)) ?_
          refine cg rfl rfl (Ev.pkO (.g rfl id) rfl) ?_
          refine co (Ev.pkA (.t rfl) rfl) ?_
          refine asn rfl (nP ?_)
          first | refine aL rfl (fun h5=>?_) (fun h5=>?_) | refine cond rfl (fun h5=>?_) (fun h5=>?_)
          · try simp only [Gx.nb] at h5
            refine skip (pN ?_)
            first | refine aL rfl (fun h6=>?_) (fun h6=>?_) | refine cond rfl (fun h6=>?_) (fun h6=>?_)
            · try simp only [Gx.nb] at h6
              refine sg (co (Ev.assign (.c (v:=I 2) rfl)) ?_)
              refine nP (ret (bR (pR (done rfl (.tmp rfl .nil) (bc ?_)))))
              unfold bM
              first
                | (simp_all; done)
                | (have hA:¬ (aM h.src ≠ 0 ∨ aM h.dst ≠ 0 ∨ h.src.v6 ≠ h.dst.v6 ∨ (bif h.src.v6 then 1048575 else 65535) < h.id):=by simp_all
                   rw [if_neg hA]
                   simp_all; done)
            · try simp only [Gx.nb] at h6
              refine seq (df zk ?_)
              refine tk 0 rfl (Ev.ldx h iC (.t rfl) (ak.id _)) ?_
              refine tk 2 rfl (Ev.move (.t rfl)) ?_
              refine tk 4 rfl (fA 42 (.t rfl)) ?_
              refine tk 5 rfl (Ev.ldx h.data lg (.t rfl) au.fz) ?_
              refine tk 6 rfl (Ev.len Tryz.underlying45 (.t rfl) (fun w I=>hd.aT I.keeps)) ?_
              refine al1 1 rfl ((aZ lh (.cons (.t rfl) .nil) (fun w I=>ef _ w) ?_))
              refine hdn (tk 3 rfl (Ev.a8 (.t rfl) (.t rfl) (fun _=>zo)) ?_)
              refine tk 7 rfl (Ev.a8 (.t rfl) (.t rfl) (fun _=>zo)) ?_
              refine tk 8 rfl (Ev.eJ (.t rfl) (.c (v:=I 2048) rfl)) ?_
              refine tk 9 rfl (Ev.assign (.t rfl)) ?_
              refine ovr (pN ?_)
              first | refine aL rfl (fun h7=>?_) (fun h7=>?_) | refine cond rfl (fun h7=>?_) (fun h7=>?_)
              · try simp only [Gx.nb] at h7
                refine sg (co (Ev.assign (.c (v:=I 4) rfl)) ?_)
                refine nP (ret (bR (pR (done rfl (.tmp rfl .nil) (bc ?_)))))
                first
                  | (exfalso; simp_all; done)
                  | (have hA:¬ (aM h.src ≠ 0 ∨ aM h.dst ≠ 0 ∨ h.src.v6 ≠ h.dst.v6 ∨ (bif h.src.v6 then 1048575 else 65535) < h.id):=by simp_all
                     have hB:¬ (fb h.bj = 0 ∧ (h.bx ≠ 0 ∨ h.bm ≠ 0) ∨ h.bj ≠ 6 ∧ (h.flags ≠ 0 ∨ h.seq ≠ 0)):=by
                       intro hc
                       rcases hc with hc | hc <;> simp_all
                     unfold bM
                     rw [if_neg hA,if_neg hB]
                     first
                       | (rw [if_pos (by omega)]; rfl)
                       | (rw [if_neg (by omega)]; rfl))
              · try simp only [Gx.nb] at h7
                refine skip (bN (pN (sg (co (Ev.assign (.c (v:=I 0) rfl)) ?_))))
                refine nP (ret (done rfl (.tmp rfl .nil) (bc ?_)))
                first
                  | (exfalso; simp_all; done)
                  | (have hA:¬ (aM h.src ≠ 0 ∨ aM h.dst ≠ 0 ∨ h.src.v6 ≠ h.dst.v6 ∨ (bif h.src.v6 then 1048575 else 65535) < h.id):=by simp_all
                     have hB:¬ (fb h.bj = 0 ∧ (h.bx ≠ 0 ∨ h.bm ≠ 0) ∨ h.bj ≠ 6 ∧ (h.flags ≠ 0 ∨ h.seq ≠ 0)):=by
                       intro hc
                       rcases hc with hc | hc <;> simp_all
                     unfold bM
                     rw [if_neg hA,if_neg hB]
                     first
                       | (rw [if_pos (by omega)]; rfl)
                       | (rw [if_neg (by omega)]; rfl))
          · try simp only [Gx.nb] at h5
            refine region (co (fA 34 (.t rfl)) ?_)
            refine co (Ev.ldx h.bj ty5 (.t rfl) au.dH) ?_
            refine co (Ev.eP (.t rfl) (.c (v:=U8 6) rfl)) ?_
            refine mv rfl (cg rfl rfl (fA 40 (.t rfl)) ?_)
            refine cg rfl rfl (Ev.ldx h.flags ty5 (.g rfl id) au.hZ) ?_
            refine cg rfl rfl (Ev.eP (.g rfl id) (.c (v:=U8 0) rfl)) ?_
            refine cg rfl rfl (Ev.move (.g rfl id)) ?_
            refine cg rfl rfl (fA 41 (.t rfl)) ?_
            refine cg rfl rfl (Ev.ldx h.seq ty44 (.g rfl id) au.lH) ?_
            refine cg rfl rfl (Ev.jg (.g rfl id) (.c (v:=U32 0) rfl)) ?_
            refine cg rfl rfl (Ev.pkO (.g rfl id) rfl) ?_
            refine co (Ev.pkA (.t rfl) rfl) ?_
            refine asn rfl (nP ?_)
            first | refine aL rfl (fun h6=>?_) (fun h6=>?_) | refine cond rfl (fun h6=>?_) (fun h6=>?_)
            · try simp only [Gx.nb] at h6
              refine sg (co (Ev.assign (.c (v:=I 2) rfl)) ?_)
              refine nP (ret (bR (pR (done rfl (.tmp rfl .nil) (bc ?_)))))
              unfold bM
              first
                | (simp_all; done)
                | (have hA:¬ (aM h.src ≠ 0 ∨ aM h.dst ≠ 0 ∨ h.src.v6 ≠ h.dst.v6 ∨ (bif h.src.v6 then 1048575 else 65535) < h.id):=by simp_all
                   rw [if_neg hA]
                   simp_all; done)
            · try simp only [Gx.nb] at h6
              refine seq (df zk ?_)
              refine tk 0 rfl (Ev.ldx h iC (.t rfl) (ak.id _)) ?_
              refine tk 2 rfl (Ev.move (.t rfl)) ?_
              refine tk 4 rfl (fA 42 (.t rfl)) ?_
              refine tk 5 rfl (Ev.ldx h.data lg (.t rfl) au.fz) ?_
              refine tk 6 rfl (Ev.len Tryz.underlying45 (.t rfl) (fun w I=>hd.aT I.keeps)) ?_
              refine al1 1 rfl ((aZ lh (.cons (.t rfl) .nil) (fun w I=>ef _ w) ?_))
              refine hdn (tk 3 rfl (Ev.a8 (.t rfl) (.t rfl) (fun _=>zo)) ?_)
              refine tk 7 rfl (Ev.a8 (.t rfl) (.t rfl) (fun _=>zo)) ?_
              refine tk 8 rfl (Ev.eJ (.t rfl) (.c (v:=I 2048) rfl)) ?_
              refine tk 9 rfl (Ev.assign (.t rfl)) ?_
              refine ovr (pN ?_)
              first | refine aL rfl (fun h7=>?_) (fun h7=>?_) | refine cond rfl (fun h7=>?_) (fun h7=>?_)
              · try simp only [Gx.nb] at h7
                refine sg (co (Ev.assign (.c (v:=I 4) rfl)) ?_)
                refine nP (ret (bR (pR (done rfl (.tmp rfl .nil) (bc ?_)))))
                first
                  | (exfalso; simp_all; done)
                  | (have hA:¬ (aM h.src ≠ 0 ∨ aM h.dst ≠ 0 ∨ h.src.v6 ≠ h.dst.v6 ∨ (bif h.src.v6 then 1048575 else 65535) < h.id):=by simp_all
                     have hB:¬ (fb h.bj = 0 ∧ (h.bx ≠ 0 ∨ h.bm ≠ 0) ∨ h.bj ≠ 6 ∧ (h.flags ≠ 0 ∨ h.seq ≠ 0)):=by
                       intro hc
                       rcases hc with hc | hc <;> simp_all
                     unfold bM
                     rw [if_neg hA,if_neg hB]
                     first
                       | (rw [if_pos (by omega)]; rfl)
                       | (rw [if_neg (by omega)]; rfl))
              · try simp only [Gx.nb] at h7
                refine skip (bN (pN (sg (co (Ev.assign (.c (v:=I 0) rfl)) ?_))))
                refine nP (ret (done rfl (.tmp rfl .nil) (bc ?_)))
                first
                  | (exfalso; simp_all; done)
                  | (have hA:¬ (aM h.src ≠ 0 ∨ aM h.dst ≠ 0 ∨ h.src.v6 ≠ h.dst.v6 ∨ (bif h.src.v6 then 1048575 else 65535) < h.id):=by simp_all
                     have hB:¬ (fb h.bj = 0 ∧ (h.bx ≠ 0 ∨ h.bm ≠ 0) ∨ h.bj ≠ 6 ∧ (h.flags ≠ 0 ∨ h.seq ≠ 0)):=by
                       intro hc
                       rcases hc with hc | hc <;> simp_all
                     unfold bM
                     rw [if_neg hA,if_neg hB]
                     first
                       | (rw [if_pos (by omega)]; rfl)
                       | (rw [if_neg (by omega)]; rfl))
      · try simp only [Gx.nb] at h2
        refine sg (co (fA 0 (.t rfl)) ?_)
        refine co (fA 0 (.t rfl)) ?_
        refine co (Ev.ldx h.src.v6 ty4 (.t rfl) (ak.comp au.ee a7.kI)) ?_
        refine co (fA 17 (.t rfl)) ?_
        refine co (fA 0 (.t rfl)) ?_
        refine co (Ev.ldx h.dst.v6 ty4 (.t rfl) (ak.comp au.iA a7.kI)) ?_
        refine co (Ev.neq_b Tryz.underlying4 (.t rfl) (.t rfl)) ?_
        refine asn rfl (nP ?_)
        first | refine aL rfl (fun h3=>?_) (fun h3=>?_) | refine cond rfl (fun h3=>?_) (fun h3=>?_)
        · try simp only [Gx.nb] at h3
          refine skip (pN ?_)
          first | refine aL rfl (fun h4=>?_) (fun h4=>?_) | refine cond rfl (fun h4=>?_) (fun h4=>?_)
          · try simp only [Gx.nb] at h4
            refine sg (co (Ev.assign (.c (v:=I 2) rfl)) ?_)
            refine nP (ret (bR (pR (done rfl (.tmp rfl .nil) (bc ?_)))))
            unfold bM
            first
              | (simp_all; done)
              | (have hA:¬ (aM h.src ≠ 0 ∨ aM h.dst ≠ 0 ∨ h.src.v6 ≠ h.dst.v6 ∨ (bif h.src.v6 then 1048575 else 65535) < h.id):=by simp_all
                 rw [if_neg hA]
                 simp_all; done)
          · try simp only [Gx.nb] at h4
            refine seq (sg (mv rfl (co (Ev.fD (.t rfl) (.c (v:=I 0) rfl)) ?_)))
            refine mv rfl (cg rfl rfl (fA 35 (.t rfl)) ?_)
            refine cg rfl rfl (Ev.ldx h.bx gE (.g rfl id) au.da) ?_
            refine cg rfl rfl (Ev.eZ (.g rfl id) (.c (v:=U16 0) rfl)) ?_
            refine cg rfl rfl (Ev.move (.g rfl id)) ?_
            refine cg rfl rfl (fA 36 (.t rfl)) ?_
            refine cg rfl rfl (Ev.ldx h.bm gE (.g rfl id) au.cS) ?_
            refine cg rfl rfl (Ev.eZ (.g rfl id) (.c (v:=U16 0) rfl)) ?_
            refine cg rfl rfl (Ev.pkO (.g rfl id) rfl) ?_
            refine co (Ev.pkA (.t rfl) rfl) ?_
            refine asn rfl (nP ?_)
            first | refine aL rfl (fun h5=>?_) (fun h5=>?_) | refine cond rfl (fun h5=>?_) (fun h5=>?_)
            · try simp only [Gx.nb] at h5
              refine skip (pN ?_)
              first | refine aL rfl (fun h6=>?_) (fun h6=>?_) | refine cond rfl (fun h6=>?_) (fun h6=>?_)
              · try simp only [Gx.nb] at h6
                refine sg (co (Ev.assign (.c (v:=I 2) rfl)) ?_)
                refine nP (ret (bR (pR (done rfl (.tmp rfl .nil) (bc ?_)))))
                unfold bM
                first
                  | (simp_all; done)
                  | (have hA:¬ (aM h.src ≠ 0 ∨ aM h.dst ≠ 0 ∨ h.src.v6 ≠ h.dst.v6 ∨ (bif h.src.v6 then 1048575 else 65535) < h.id):=by simp_all
                     rw [if_neg hA]
                     simp_all; done)
              · try simp only [Gx.nb] at h6
                refine seq (df zk ?_)
                refine tk 0 rfl (Ev.ldx h iC (.t rfl) (ak.id _)) ?_
                refine tk 2 rfl (Ev.move (.t rfl)) ?_
                refine tk 4 rfl (fA 42 (.t rfl)) ?_
                refine tk 5 rfl (Ev.ldx h.data lg (.t rfl) au.fz) ?_
                refine tk 6 rfl (Ev.len Tryz.underlying45 (.t rfl) (fun w I=>hd.aT I.keeps)) ?_
                refine al1 1 rfl ((aZ lh (.cons (.t rfl) .nil) (fun w I=>ef _ w) ?_))
                refine hdn (tk 3 rfl (Ev.a8 (.t rfl) (.t rfl) (fun _=>zo)) ?_)
                refine tk 7 rfl (Ev.a8 (.t rfl) (.t rfl) (fun _=>zo)) ?_
                refine tk 8 rfl (Ev.eJ (.t rfl) (.c (v:=I 2048) rfl)) ?_
                refine tk 9 rfl (Ev.assign (.t rfl)) ?_
                refine ovr (pN ?_)
                first | refine aL rfl (fun h7=>?_) (fun h7=>?_) | refine cond rfl (fun h7=>?_) (fun h7=>?_)
                · try simp only [Gx.nb] at h7
                  refine sg (co (Ev.assign (.c (v:=I 4) rfl)) ?_)
                  refine nP (ret (bR (pR (done rfl (.tmp rfl .nil) (bc ?_)))))
                  first
                    | (exfalso; simp_all; done)
                    | (have hA:¬ (aM h.src ≠ 0 ∨ aM h.dst ≠ 0 ∨ h.src.v6 ≠ h.dst.v6 ∨ (bif h.src.v6 then 1048575 else 65535) < h.id):=by simp_all
                       have hB:¬ (fb h.bj = 0 ∧ (h.bx ≠ 0 ∨ h.bm ≠ 0) ∨ h.bj ≠ 6 ∧ (h.flags ≠ 0 ∨ h.seq ≠ 0)):=by
                         intro hc
                         rcases hc with hc | hc <;> simp_all
                       unfold bM
                       rw [if_neg hA,if_neg hB]
                       first
                         | (rw [if_pos (by omega)]; rfl)
                         | (rw [if_neg (by omega)]; rfl))
                · try simp only [Gx.nb] at h7
                  refine skip (bN (pN (sg (co (Ev.assign (.c (v:=I 0) rfl)) ?_))))
                  refine nP (ret (done rfl (.tmp rfl .nil) (bc ?_)))
                  first
                    | (exfalso; simp_all; done)
                    | (have hA:¬ (aM h.src ≠ 0 ∨ aM h.dst ≠ 0 ∨ h.src.v6 ≠ h.dst.v6 ∨ (bif h.src.v6 then 1048575 else 65535) < h.id):=by simp_all
                       have hB:¬ (fb h.bj = 0 ∧ (h.bx ≠ 0 ∨ h.bm ≠ 0) ∨ h.bj ≠ 6 ∧ (h.flags ≠ 0 ∨ h.seq ≠ 0)):=by
                         intro hc
                         rcases hc with hc | hc <;> simp_all
                       unfold bM
                       rw [if_neg hA,if_neg hB]
                       first
                         | (rw [if_pos (by omega)]; rfl)
                         | (rw [if_neg (by omega)]; rfl))
            · try simp only [Gx.nb] at h5
              refine region (co (fA 34 (.t rfl)) ?_)
              refine co (Ev.ldx h.bj ty5 (.t rfl) au.dH) ?_
              refine co (Ev.eP (.t rfl) (.c (v:=U8 6) rfl)) ?_
              refine mv rfl (cg rfl rfl (fA 40 (.t rfl)) ?_)
              refine cg rfl rfl (Ev.ldx h.flags ty5 (.g rfl id) au.hZ) ?_
              refine cg rfl rfl (Ev.eP (.g rfl id) (.c (v:=U8 0) rfl)) ?_
              refine cg rfl rfl (Ev.move (.g rfl id)) ?_
              refine cg rfl rfl (fA 41 (.t rfl)) ?_
              refine cg rfl rfl (Ev.ldx h.seq ty44 (.g rfl id) au.lH) ?_
              refine cg rfl rfl (Ev.jg (.g rfl id) (.c (v:=U32 0) rfl)) ?_
              refine cg rfl rfl (Ev.pkO (.g rfl id) rfl) ?_
              refine co (Ev.pkA (.t rfl) rfl) ?_
              refine asn rfl (nP ?_)
              first | refine aL rfl (fun h6=>?_) (fun h6=>?_) | refine cond rfl (fun h6=>?_) (fun h6=>?_)
              · try simp only [Gx.nb] at h6
                refine sg (co (Ev.assign (.c (v:=I 2) rfl)) ?_)
                refine nP (ret (bR (pR (done rfl (.tmp rfl .nil) (bc ?_)))))
                unfold bM
                first
                  | (simp_all; done)
                  | (have hA:¬ (aM h.src ≠ 0 ∨ aM h.dst ≠ 0 ∨ h.src.v6 ≠ h.dst.v6 ∨ (bif h.src.v6 then 1048575 else 65535) < h.id):=by simp_all
                     rw [if_neg hA]
                     simp_all; done)
              · try simp only [Gx.nb] at h6
                refine seq (df zk ?_)
                refine tk 0 rfl (Ev.ldx h iC (.t rfl) (ak.id _)) ?_
                refine tk 2 rfl (Ev.move (.t rfl)) ?_
                refine tk 4 rfl (fA 42 (.t rfl)) ?_
                refine tk 5 rfl (Ev.ldx h.data lg (.t rfl) au.fz) ?_
                refine tk 6 rfl (Ev.len Tryz.underlying45 (.t rfl) (fun w I=>hd.aT I.keeps)) ?_
                refine al1 1 rfl ((aZ lh (.cons (.t rfl) .nil) (fun w I=>ef _ w) ?_))
                refine hdn (tk 3 rfl (Ev.a8 (.t rfl) (.t rfl) (fun _=>zo)) ?_)
                refine tk 7 rfl (Ev.a8 (.t rfl) (.t rfl) (fun _=>zo)) ?_
                refine tk 8 rfl (Ev.eJ (.t rfl) (.c (v:=I 2048) rfl)) ?_
                refine tk 9 rfl (Ev.assign (.t rfl)) ?_
                refine ovr (pN ?_)
                first | refine aL rfl (fun h7=>?_) (fun h7=>?_) | refine cond rfl (fun h7=>?_) (fun h7=>?_)
                · try simp only [Gx.nb] at h7
                  refine sg (co (Ev.assign (.c (v:=I 4) rfl)) ?_)
                  refine nP (ret (bR (pR (done rfl (.tmp rfl .nil) (bc ?_)))))
                  first
                    | (exfalso; simp_all; done)
                    | (have hA:¬ (aM h.src ≠ 0 ∨ aM h.dst ≠ 0 ∨ h.src.v6 ≠ h.dst.v6 ∨ (bif h.src.v6 then 1048575 else 65535) < h.id):=by simp_all
                       have hB:¬ (fb h.bj = 0 ∧ (h.bx ≠ 0 ∨ h.bm ≠ 0) ∨ h.bj ≠ 6 ∧ (h.flags ≠ 0 ∨ h.seq ≠ 0)):=by
                         intro hc
                         rcases hc with hc | hc <;> simp_all
                       unfold bM
                       rw [if_neg hA,if_neg hB]
                       first
                         | (rw [if_pos (by omega)]; rfl)
                         | (rw [if_neg (by omega)]; rfl))
                · try simp only [Gx.nb] at h7
                  refine skip (bN (pN (sg (co (Ev.assign (.c (v:=I 0) rfl)) ?_))))
                  refine nP (ret (done rfl (.tmp rfl .nil) (bc ?_)))
                  first
                    | (exfalso; simp_all; done)
                    | (have hA:¬ (aM h.src ≠ 0 ∨ aM h.dst ≠ 0 ∨ h.src.v6 ≠ h.dst.v6 ∨ (bif h.src.v6 then 1048575 else 65535) < h.id):=by simp_all
                       have hB:¬ (fb h.bj = 0 ∧ (h.bx ≠ 0 ∨ h.bm ≠ 0) ∨ h.bj ≠ 6 ∧ (h.flags ≠ 0 ∨ h.seq ≠ 0)):=by
                         intro hc
                         rcases hc with hc | hc <;> simp_all
                       unfold bM
                       rw [if_neg hA,if_neg hB]
                       first
                         | (rw [if_pos (by omega)]; rfl)
                         | (rw [if_neg (by omega)]; rfl))
        · try simp only [Gx.nb] at h3
          refine region (co (fA 39 (.t rfl)) ?_)
          refine co (Ev.ldx h.id ty44 (.t rfl) au.l_id) ?_
          refine mv rfl (co (Ev.gtr_u32 (.t rfl) (.t rfl)) ?_)
          refine asn rfl (nP ?_)
          first | refine aL rfl (fun h4=>?_) (fun h4=>?_) | refine cond rfl (fun h4=>?_) (fun h4=>?_)
          · try simp only [Gx.nb] at h4
            refine sg (co (Ev.assign (.c (v:=I 2) rfl)) ?_)
            refine nP (ret (bR (pR (done rfl (.tmp rfl .nil) (bc ?_)))))
            unfold bM
            first
              | (simp_all; done)
              | (have hA:¬ (aM h.src ≠ 0 ∨ aM h.dst ≠ 0 ∨ h.src.v6 ≠ h.dst.v6 ∨ (bif h.src.v6 then 1048575 else 65535) < h.id):=by simp_all
                 rw [if_neg hA]
                 simp_all; done)
          · try simp only [Gx.nb] at h4
            refine seq (sg (mv rfl (co (Ev.fD (.t rfl) (.c (v:=I 0) rfl)) ?_)))
            refine mv rfl (cg rfl rfl (fA 35 (.t rfl)) ?_)
            refine cg rfl rfl (Ev.ldx h.bx gE (.g rfl id) au.da) ?_
            refine cg rfl rfl (Ev.eZ (.g rfl id) (.c (v:=U16 0) rfl)) ?_
            refine cg rfl rfl (Ev.move (.g rfl id)) ?_
            refine cg rfl rfl (fA 36 (.t rfl)) ?_
            refine cg rfl rfl (Ev.ldx h.bm gE (.g rfl id) au.cS) ?_
            refine cg rfl rfl (Ev.eZ (.g rfl id) (.c (v:=U16 0) rfl)) ?_
            refine cg rfl rfl (Ev.pkO (.g rfl id) rfl) ?_
            refine co (Ev.pkA (.t rfl) rfl) ?_
            refine asn rfl (nP ?_)
            first | refine aL rfl (fun h5=>?_) (fun h5=>?_) | refine cond rfl (fun h5=>?_) (fun h5=>?_)
            · try simp only [Gx.nb] at h5
              refine skip (pN ?_)
              first | refine aL rfl (fun h6=>?_) (fun h6=>?_) | refine cond rfl (fun h6=>?_) (fun h6=>?_)
              · try simp only [Gx.nb] at h6
                refine sg (co (Ev.assign (.c (v:=I 2) rfl)) ?_)
                refine nP (ret (bR (pR (done rfl (.tmp rfl .nil) (bc ?_)))))
                unfold bM
                first
                  | (simp_all; done)
                  | (have hA:¬ (aM h.src ≠ 0 ∨ aM h.dst ≠ 0 ∨ h.src.v6 ≠ h.dst.v6 ∨ (bif h.src.v6 then 1048575 else 65535) < h.id):=by simp_all
                     rw [if_neg hA]
                     simp_all; done)
              · try simp only [Gx.nb] at h6
                refine seq (df zk ?_)
                refine tk 0 rfl (Ev.ldx h iC (.t rfl) (ak.id _)) ?_
                refine tk 2 rfl (Ev.move (.t rfl)) ?_
                refine tk 4 rfl (fA 42 (.t rfl)) ?_
                refine tk 5 rfl (Ev.ldx h.data lg (.t rfl) au.fz) ?_
                refine tk 6 rfl (Ev.len Tryz.underlying45 (.t rfl) (fun w I=>hd.aT I.keeps)) ?_
                refine al1 1 rfl ((aZ lh (.cons (.t rfl) .nil) (fun w I=>ef _ w) ?_))
                refine hdn (tk 3 rfl (Ev.a8 (.t rfl) (.t rfl) (fun _=>zo)) ?_)
                refine tk 7 rfl (Ev.a8 (.t rfl) (.t rfl) (fun _=>zo)) ?_
                refine tk 8 rfl (Ev.eJ (.t rfl) (.c (v:=I 2048) rfl)) ?_
                refine tk 9 rfl (Ev.assign (.t rfl)) ?_
                refine ovr (pN ?_)
                first | refine aL rfl (fun h7=>?_) (fun h7=>?_) | refine cond rfl (fun h7=>?_) (fun h7=>?_)
                · try simp only [Gx.nb] at h7
                  refine sg (co (Ev.assign (.c (v:=I 4) rfl)) ?_)
                  refine nP (ret (bR (pR (done rfl (.tmp rfl .nil) (bc ?_)))))
                  first
                    | (exfalso; simp_all; done)
                    | (have hA:¬ (aM h.src ≠ 0 ∨ aM h.dst ≠ 0 ∨ h.src.v6 ≠ h.dst.v6 ∨ (bif h.src.v6 then 1048575 else 65535) < h.id):=by simp_all
                       have hB:¬ (fb h.bj = 0 ∧ (h.bx ≠ 0 ∨ h.bm ≠ 0) ∨ h.bj ≠ 6 ∧ (h.flags ≠ 0 ∨ h.seq ≠ 0)):=by
                         intro hc
                         rcases hc with hc | hc <;> simp_all
                       unfold bM
                       rw [if_neg hA,if_neg hB]
                       first
                         | (rw [if_pos (by omega)]; rfl)
                         | (rw [if_neg (by omega)]; rfl))
                · try simp only [Gx.nb] at h7
                  refine skip (bN (pN (sg (co (Ev.assign (.c (v:=I 0) rfl)) ?_))))
                  refine nP (ret (done rfl (.tmp rfl .nil) (bc ?_)))
                  first
                    | (exfalso; simp_all; done)
                    | (have hA:¬ (aM h.src ≠ 0 ∨ aM h.dst ≠ 0 ∨ h.src.v6 ≠ h.dst.v6 ∨ (bif h.src.v6 then 1048575 else 65535) < h.id):=by simp_all
                       have hB:¬ (fb h.bj = 0 ∧ (h.bx ≠ 0 ∨ h.bm ≠ 0) ∨ h.bj ≠ 6 ∧ (h.flags ≠ 0 ∨ h.seq ≠ 0)):=by
                         intro hc
                         rcases hc with hc | hc <;> simp_all
                       unfold bM
                       rw [if_neg hA,if_neg hB]
                       first
                         | (rw [if_pos (by omega)]; rfl)
                         | (rw [if_neg (by omega)]; rfl))
            · try simp only [Gx.nb] at h5
              refine region (co (fA 34 (.t rfl)) ?_)
              refine co (Ev.ldx h.bj ty5 (.t rfl) au.dH) ?_
              refine co (Ev.eP (.t rfl) (.c (v:=U8 6) rfl)) ?_
              refine mv rfl (cg rfl rfl (fA 40 (.t rfl)) ?_)
              refine cg rfl rfl (Ev.ldx h.flags ty5 (.g rfl id) au.hZ) ?_
              refine cg rfl rfl (Ev.eP (.g rfl id) (.c (v:=U8 0) rfl)) ?_
              refine cg rfl rfl (Ev.move (.g rfl id)) ?_
              refine cg rfl rfl (fA 41 (.t rfl)) ?_
              refine cg rfl rfl (Ev.ldx h.seq ty44 (.g rfl id) au.lH) ?_
              refine cg rfl rfl (Ev.jg (.g rfl id) (.c (v:=U32 0) rfl)) ?_
              refine cg rfl rfl (Ev.pkO (.g rfl id) rfl) ?_
              refine co (Ev.pkA (.t rfl) rfl) ?_
              refine asn rfl (nP ?_)
              first | refine aL rfl (fun h6=>?_) (fun h6=>?_) | refine cond rfl (fun h6=>?_) (fun h6=>?_)
              · try simp only [Gx.nb] at h6
                refine sg (co (Ev.assign (.c (v:=I 2) rfl)) ?_)
                refine nP (ret (bR (pR (done rfl (.tmp rfl .nil) (bc ?_)))))
                unfold bM
                first
                  | (simp_all; done)
                  | (have hA:¬ (aM h.src ≠ 0 ∨ aM h.dst ≠ 0 ∨ h.src.v6 ≠ h.dst.v6 ∨ (bif h.src.v6 then 1048575 else 65535) < h.id):=by simp_all
                     rw [if_neg hA]
                     simp_all; done)
              · try simp only [Gx.nb] at h6
                refine seq (df zk ?_)
                refine tk 0 rfl (Ev.ldx h iC (.t rfl) (ak.id _)) ?_
                refine tk 2 rfl (Ev.move (.t rfl)) ?_
                refine tk 4 rfl (fA 42 (.t rfl)) ?_
                refine tk 5 rfl (Ev.ldx h.data lg (.t rfl) au.fz) ?_
                refine tk 6 rfl (Ev.len Tryz.underlying45 (.t rfl) (fun w I=>hd.aT I.keeps)) ?_
                refine al1 1 rfl ((aZ lh (.cons (.t rfl) .nil) (fun w I=>ef _ w) ?_))
                refine hdn (tk 3 rfl (Ev.a8 (.t rfl) (.t rfl) (fun _=>zo)) ?_)
                refine tk 7 rfl (Ev.a8 (.t rfl) (.t rfl) (fun _=>zo)) ?_
                refine tk 8 rfl (Ev.eJ (.t rfl) (.c (v:=I 2048) rfl)) ?_
                refine tk 9 rfl (Ev.assign (.t rfl)) ?_
                refine ovr (pN ?_)
                first | refine aL rfl (fun h7=>?_) (fun h7=>?_) | refine cond rfl (fun h7=>?_) (fun h7=>?_)
                · try simp only [Gx.nb] at h7
                  refine sg (co (Ev.assign (.c (v:=I 4) rfl)) ?_)
                  refine nP (ret (bR (pR (done rfl (.tmp rfl .nil) (bc ?_)))))
                  first
                    | (exfalso; simp_all; done)
                    | (have hA:¬ (aM h.src ≠ 0 ∨ aM h.dst ≠ 0 ∨ h.src.v6 ≠ h.dst.v6 ∨ (bif h.src.v6 then 1048575 else 65535) < h.id):=by simp_all
                       have hB:¬ (fb h.bj = 0 ∧ (h.bx ≠ 0 ∨ h.bm ≠ 0) ∨ h.bj ≠ 6 ∧ (h.flags ≠ 0 ∨ h.seq ≠ 0)):=by
                         intro hc
                         rcases hc with hc | hc <;> simp_all
                       unfold bM
                       rw [if_neg hA,if_neg hB]
                       first
                         | (rw [if_pos (by omega)]; rfl)
                         | (rw [if_neg (by omega)]; rfl))
                · try simp only [Gx.nb] at h7
                  refine skip (bN (pN (sg (co (Ev.assign (.c (v:=I 0) rfl)) ?_))))
                  refine nP (ret (done rfl (.tmp rfl .nil) (bc ?_)))
                  first
                    | (exfalso; simp_all; done)
                    | (have hA:¬ (aM h.src ≠ 0 ∨ aM h.dst ≠ 0 ∨ h.src.v6 ≠ h.dst.v6 ∨ (bif h.src.v6 then 1048575 else 65535) < h.id):=by simp_all
                       have hB:¬ (fb h.bj = 0 ∧ (h.bx ≠ 0 ∨ h.bm ≠ 0) ∨ h.bj ≠ 6 ∧ (h.flags ≠ 0 ∨ h.seq ≠ 0)):=by
                         intro hc
                         rcases hc with hc | hc <;> simp_all
                       unfold bM
                       rw [if_neg hA,if_neg hB]
                       first
                         | (rw [if_pos (by omega)]; rfl)
                         | (rw [if_neg (by omega)]; rfl))
  · try simp only [Gx.nb] at h0
    refine skip (pN (sg (co (fA 34 (.t rfl)) ?_)))
    refine co (Ev.ldx h.bj ty5 (.t rfl) au.dH) ?_
    refine cons (aZ en37 (.cons (.t rfl) .nil) (fun w I=>middle_ok _ w) ?_)
    refine asn rfl (nP (seq (block (seq (sg (co (fA 0 (.t rfl)) ?_))))))
    refine co (Ev.ldx h.src fF (.t rfl) au.ee) ?_
    refine cons (aZ en38 (.cons (.t rfl) .nil) (fun w I=>iP _ w) ?_)
    refine co (Ev.eX (.t rfl) (.c (v:=I 0) rfl)) ?_
    refine asn rfl (nP ?_)
    first | refine aL rfl (fun h1=>?_) (fun h1=>?_) | refine cond rfl (fun h1=>?_) (fun h1=>?_)
    · try simp only [Gx.nb] at h1
      refine skip (pN ?_)
      first | refine aL rfl (fun h4=>?_) (fun h4=>?_) | refine cond rfl (fun h4=>?_) (fun h4=>?_)
      · try simp only [Gx.nb] at h4
        refine sg (co (Ev.assign (.c (v:=I 2) rfl)) ?_)
        refine nP (ret (bR (pR (done rfl (.tmp rfl .nil) (bc ?_)))))
        unfold bM
        first
          | (simp_all; done)
          | (have hA:¬ (aM h.src ≠ 0 ∨ aM h.dst ≠ 0 ∨ h.src.v6 ≠ h.dst.v6 ∨ (bif h.src.v6 then 1048575 else 65535) < h.id):=by simp_all
             rw [if_neg hA]
             simp_all; done)
      · try simp only [Gx.nb] at h4
        refine seq (sg (mv rfl (co (Ev.fD (.t rfl) (.c (v:=I 0) rfl)) ?_)))
        refine mv rfl (cg rfl rfl (fA 35 (.t rfl)) ?_)
        refine cg rfl rfl (Ev.ldx h.bx gE (.g rfl id) au.da) ?_
        refine cg rfl rfl (Ev.eZ (.g rfl id) (.c (v:=U16 0) rfl)) ?_
        refine cg rfl rfl (Ev.move (.g rfl id)) ?_
        refine cg rfl rfl (fA 36 (.t rfl)) ?_
        refine cg rfl rfl (Ev.ldx h.bm gE (.g rfl id) au.cS) ?_
        refine cg rfl rfl (Ev.eZ (.g rfl id) (.c (v:=U16 0) rfl)) ?_
        refine cg rfl rfl (Ev.pkO (.g rfl id) rfl) ?_
        refine co (Ev.pkA (.t rfl) rfl) ?_
        refine asn rfl (nP ?_)
        first | refine aL rfl (fun h5=>?_) (fun h5=>?_) | refine cond rfl (fun h5=>?_) (fun h5=>?_)
        · try simp only [Gx.nb] at h5
          refine skip (pN ?_)
          first | refine aL rfl (fun h6=>?_) (fun h6=>?_) | refine cond rfl (fun h6=>?_) (fun h6=>?_)
          · try simp only [Gx.nb] at h6
            refine sg (co (Ev.assign (.c (v:=I 2) rfl)) ?_)
            refine nP (ret (bR (pR (done rfl (.tmp rfl .nil) (bc ?_)))))
            unfold bM
            first
              | (simp_all; done)
              | (have hA:¬ (aM h.src ≠ 0 ∨ aM h.dst ≠ 0 ∨ h.src.v6 ≠ h.dst.v6 ∨ (bif h.src.v6 then 1048575 else 65535) < h.id):=by simp_all
                 rw [if_neg hA]
                 simp_all; done)
          · try simp only [Gx.nb] at h6
            refine seq (df zk ?_)
            refine tk 0 rfl (Ev.ldx h iC (.t rfl) (ak.id _)) ?_
            refine tk 2 rfl (Ev.move (.t rfl)) ?_
            refine tk 4 rfl (fA 42 (.t rfl)) ?_
            refine tk 5 rfl (Ev.ldx h.data lg (.t rfl) au.fz) ?_
            refine tk 6 rfl (Ev.len Tryz.underlying45 (.t rfl) (fun w I=>hd.aT I.keeps)) ?_
            refine al1 1 rfl ((aZ lh (.cons (.t rfl) .nil) (fun w I=>ef _ w) ?_))
            refine hdn (tk 3 rfl (Ev.a8 (.t rfl) (.t rfl) (fun _=>zo)) ?_)
            refine tk 7 rfl (Ev.a8 (.t rfl) (.t rfl) (fun _=>zo)) ?_
            refine tk 8 rfl (Ev.eJ (.t rfl) (.c (v:=I 2048) rfl)) ?_
            refine tk 9 rfl (Ev.assign (.t rfl)) ?_
            refine ovr (pN ?_)
            first | refine aL rfl (fun h7=>?_) (fun h7=>?_) | refine cond rfl (fun h7=>?_) (fun h7=>?_)
            · try simp only [Gx.nb] at h7
              refine sg (co (Ev.assign (.c (v:=I 4) rfl)) ?_)
              refine nP (ret (bR (pR (done rfl (.tmp rfl .nil) (bc ?_)))))
              first
                | (exfalso; simp_all; done)
                | (have hA:¬ (aM h.src ≠ 0 ∨ aM h.dst ≠ 0 ∨ h.src.v6 ≠ h.dst.v6 ∨ (bif h.src.v6 then 1048575 else 65535) < h.id):=by simp_all
                   have hB:¬ (fb h.bj = 0 ∧ (h.bx ≠ 0 ∨ h.bm ≠ 0) ∨ h.bj ≠ 6 ∧ (h.flags ≠ 0 ∨ h.seq ≠ 0)):=by
                     intro hc
                     rcases hc with hc | hc <;> simp_all
                   unfold bM
                   rw [if_neg hA,if_neg hB]
                   first
                     | (rw [if_pos (by omega)]; rfl)
                     | (rw [if_neg (by omega)]; rfl))
            · try simp only [Gx.nb] at h7
              refine skip (bN (pN (sg (co (Ev.assign (.c (v:=I 0) rfl)) ?_))))
              refine nP (ret (done rfl (.tmp rfl .nil) (bc ?_)))
              first
                | (exfalso; simp_all; done)
                | (have hA:¬ (aM h.src ≠ 0 ∨ aM h.dst ≠ 0 ∨ h.src.v6 ≠ h.dst.v6 ∨ (bif h.src.v6 then 1048575 else 65535) < h.id):=by simp_all
                   have hB:¬ (fb h.bj = 0 ∧ (h.bx ≠ 0 ∨ h.bm ≠ 0) ∨ h.bj ≠ 6 ∧ (h.flags ≠ 0 ∨ h.seq ≠ 0)):=by
                     intro hc
                     rcases hc with hc | hc <;> simp_all
                   unfold bM
                   rw [if_neg hA,if_neg hB]
                   first
                     | (rw [if_pos (by omega)]; rfl)
                     | (rw [if_neg (by omega)]; rfl))
        · try simp only [Gx.nb] at h5
          refine region (co (fA 34 (.t rfl)) ?_)
          refine co (Ev.ldx h.bj ty5 (.t rfl) au.dH) ?_
          refine co (Ev.eP (.t rfl) (.c (v:=U8 6) rfl)) ?_
          refine mv rfl (cg rfl rfl (fA 40 (.t rfl)) ?_)
          refine cg rfl rfl (Ev.ldx h.flags ty5 (.g rfl id) au.hZ) ?_
          refine cg rfl rfl (Ev.eP (.g rfl id) (.c (v:=U8 0) rfl)) ?_
          refine cg rfl rfl (Ev.move (.g rfl id)) ?_
          refine cg rfl rfl (fA 41 (.t rfl)) ?_
          refine cg rfl rfl (Ev.ldx h.seq ty44 (.g rfl id) au.lH) ?_
          refine cg rfl rfl (Ev.jg (.g rfl id) (.c (v:=U32 0) rfl)) ?_
          refine cg rfl rfl (Ev.pkO (.g rfl id) rfl) ?_
          refine co (Ev.pkA (.t rfl) rfl) ?_
          refine asn rfl (nP ?_)
          first | refine aL rfl (fun h6=>?_) (fun h6=>?_) | refine cond rfl (fun h6=>?_) (fun h6=>?_)
          · try simp only [Gx.nb] at h6
            refine sg (co (Ev.assign (.c (v:=I 2) rfl)) ?_)
            refine nP (ret (bR (pR (done rfl (.tmp rfl .nil) (bc ?_)))))
            unfold bM
            first
              | (simp_all; done)
              | (have hA:¬ (aM h.src ≠ 0 ∨ aM h.dst ≠ 0 ∨ h.src.v6 ≠ h.dst.v6 ∨ (bif h.src.v6 then 1048575 else 65535) < h.id):=by simp_all
                 rw [if_neg hA]
                 simp_all; done)
          · try simp only [Gx.nb] at h6
            refine seq (df zk ?_)
            refine tk 0 rfl (Ev.ldx h iC (.t rfl) (ak.id _)) ?_
            refine tk 2 rfl (Ev.move (.t rfl)) ?_
            refine tk 4 rfl (fA 42 (.t rfl)) ?_
            refine tk 5 rfl (Ev.ldx h.data lg (.t rfl) au.fz) ?_
            refine tk 6 rfl (Ev.len Tryz.underlying45 (.t rfl) (fun w I=>hd.aT I.keeps)) ?_
            refine al1 1 rfl ((aZ lh (.cons (.t rfl) .nil) (fun w I=>ef _ w) ?_))
            refine hdn (tk 3 rfl (Ev.a8 (.t rfl) (.t rfl) (fun _=>zo)) ?_)
            refine tk 7 rfl (Ev.a8 (.t rfl) (.t rfl) (fun _=>zo)) ?_
            refine tk 8 rfl (Ev.eJ (.t rfl) (.c (v:=I 2048) rfl)) ?_
            refine tk 9 rfl (Ev.assign (.t rfl)) ?_
            refine ovr (pN ?_)
            first | refine aL rfl (fun h7=>?_) (fun h7=>?_) | refine cond rfl (fun h7=>?_) (fun h7=>?_)
            · try simp only [Gx.nb] at h7
              refine sg (co (Ev.assign (.c (v:=I 4) rfl)) ?_)
              refine nP (ret (bR (pR (done rfl (.tmp rfl .nil) (bc ?_)))))
              first
                | (exfalso; simp_all; done)
                | (have hA:¬ (aM h.src ≠ 0 ∨ aM h.dst ≠ 0 ∨ h.src.v6 ≠ h.dst.v6 ∨ (bif h.src.v6 then 1048575 else 65535) < h.id):=by simp_all
                   have hB:¬ (fb h.bj = 0 ∧ (h.bx ≠ 0 ∨ h.bm ≠ 0) ∨ h.bj ≠ 6 ∧ (h.flags ≠ 0 ∨ h.seq ≠ 0)):=by
                     intro hc
                     rcases hc with hc | hc <;> simp_all
                   unfold bM
                   rw [if_neg hA,if_neg hB]
                   first
                     | (rw [if_pos (by omega)]; rfl)
                     | (rw [if_neg (by omega)]; rfl))
            · try simp only [Gx.nb] at h7
              refine skip (bN (pN (sg (co (Ev.assign (.c (v:=I 0) rfl)) ?_))))
              refine nP (ret (done rfl (.tmp rfl .nil) (bc ?_)))
              first
                | (exfalso; simp_all; done)
                | (have hA:¬ (aM h.src ≠ 0 ∨ aM h.dst ≠ 0 ∨ h.src.v6 ≠ h.dst.v6 ∨ (bif h.src.v6 then 1048575 else 65535) < h.id):=by simp_all
                   have hB:¬ (fb h.bj = 0 ∧ (h.bx ≠ 0 ∨ h.bm ≠ 0) ∨ h.bj ≠ 6 ∧ (h.flags ≠ 0 ∨ h.seq ≠ 0)):=by
                     intro hc
                     rcases hc with hc | hc <;> simp_all
                   unfold bM
                   rw [if_neg hA,if_neg hB]
                   first
                     | (rw [if_pos (by omega)]; rfl)
                     | (rw [if_neg (by omega)]; rfl))
    · try simp only [Gx.nb] at h1
      refine sg (co (fA 17 (.t rfl)) ?_)
      refine co (Ev.ldx h.dst fF (.t rfl) au.iA) ?_
      refine cons (aZ en38 (.cons (.t rfl) .nil) (fun w I=>iP _ w) ?_)
      refine co (Ev.eX (.t rfl) (.c (v:=I 0) rfl)) ?_
      refine asn rfl (nP ?_)
      first | refine aL rfl (fun h2=>?_) (fun h2=>?_) | refine cond rfl (fun h2=>?_) (fun h2=>?_)
      · try simp only [Gx.nb] at h2
        refine skip (pN ?_)
        first | refine aL rfl (fun h4=>?_) (fun h4=>?_) | refine cond rfl (fun h4=>?_) (fun h4=>?_)
        · try simp only [Gx.nb] at h4
          refine sg (co (Ev.assign (.c (v:=I 2) rfl)) ?_)
          refine nP (ret (bR (pR (done rfl (.tmp rfl .nil) (bc ?_)))))
          unfold bM
          first
            | (simp_all; done)
            | (have hA:¬ (aM h.src ≠ 0 ∨ aM h.dst ≠ 0 ∨ h.src.v6 ≠ h.dst.v6 ∨ (bif h.src.v6 then 1048575 else 65535) < h.id):=by simp_all
               rw [if_neg hA]
               simp_all; done)
        · try simp only [Gx.nb] at h4
          refine seq (sg (mv rfl (co (Ev.fD (.t rfl) (.c (v:=I 0) rfl)) ?_)))
          refine mv rfl (cg rfl rfl (fA 35 (.t rfl)) ?_)
          refine cg rfl rfl (Ev.ldx h.bx gE (.g rfl id) au.da) ?_
          refine cg rfl rfl (Ev.eZ (.g rfl id) (.c (v:=U16 0) rfl)) ?_
          refine cg rfl rfl (Ev.move (.g rfl id)) ?_
          refine cg rfl rfl (fA 36 (.t rfl)) ?_
          refine cg rfl rfl (Ev.ldx h.bm gE (.g rfl id) au.cS) ?_
          refine cg rfl rfl (Ev.eZ (.g rfl id) (.c (v:=U16 0) rfl)) ?_
          refine cg rfl rfl (Ev.pkO (.g rfl id) rfl) ?_
          refine co (Ev.pkA (.t rfl) rfl) ?_
          refine asn rfl (nP ?_)
          first | refine aL rfl (fun h5=>?_) (fun h5=>?_) | refine cond rfl (fun h5=>?_) (fun h5=>?_)
          · try simp only [Gx.nb] at h5
            refine skip (pN ?_)
            first | refine aL rfl (fun h6=>?_) (fun h6=>?_) | refine cond rfl (fun h6=>?_) (fun h6=>?_)
            · try simp only [Gx.nb] at h6
              refine sg (co (Ev.assign (.c (v:=I 2) rfl)) ?_)
              refine nP (ret (bR (pR (done rfl (.tmp rfl .nil) (bc ?_)))))
              unfold bM
              first
                | (simp_all; done)
                | (have hA:¬ (aM h.src ≠ 0 ∨ aM h.dst ≠ 0 ∨ h.src.v6 ≠ h.dst.v6 ∨ (bif h.src.v6 then 1048575 else 65535) < h.id):=by simp_all
                   rw [if_neg hA]
                   simp_all; done)
            · try simp only [Gx.nb] at h6
              refine seq (df zk ?_)
              refine tk 0 rfl (Ev.ldx h iC (.t rfl) (ak.id _)) ?_
              refine tk 2 rfl (Ev.move (.t rfl)) ?_
              refine tk 4 rfl (fA 42 (.t rfl)) ?_
              refine tk 5 rfl (Ev.ldx h.data lg (.t rfl) au.fz) ?_
              refine tk 6 rfl (Ev.len Tryz.underlying45 (.t rfl) (fun w I=>hd.aT I.keeps)) ?_
              refine al1 1 rfl ((aZ lh (.cons (.t rfl) .nil) (fun w I=>ef _ w) ?_))
              refine hdn (tk 3 rfl (Ev.a8 (.t rfl) (.t rfl) (fun _=>zo)) ?_)
              refine tk 7 rfl (Ev.a8 (.t rfl) (.t rfl) (fun _=>zo)) ?_
              refine tk 8 rfl (Ev.eJ (.t rfl) (.c (v:=I 2048) rfl)) ?_
              refine tk 9 rfl (Ev.assign (.t rfl)) ?_
              refine ovr (pN ?_)
              first | refine aL rfl (fun h7=>?_) (fun h7=>?_) | refine cond rfl (fun h7=>?_) (fun h7=>?_)
              · try simp only [Gx.nb] at h7
                refine sg (co (Ev.assign (.c (v:=I 4) rfl)) ?_)
                refine nP (ret (bR (pR (done rfl (.tmp rfl .nil) (bc ?_)))))
                first
                  | (exfalso; simp_all; done)
                  | (have hA:¬ (aM h.src ≠ 0 ∨ aM h.dst ≠ 0 ∨ h.src.v6 ≠ h.dst.v6 ∨ (bif h.src.v6 then 1048575 else 65535) < h.id):=by simp_all
                     have hB:¬ (fb h.bj = 0 ∧ (h.bx ≠ 0 ∨ h.bm ≠ 0) ∨ h.bj ≠ 6 ∧ (h.flags ≠ 0 ∨ h.seq ≠ 0)):=by
                       intro hc
                       rcases hc with hc | hc <;> simp_all
                     unfold bM
                     rw [if_neg hA,if_neg hB]
                     first
                       | (rw [if_pos (by omega)]; rfl)
                       | (rw [if_neg (by omega)]; rfl))
              · try simp only [Gx.nb] at h7
                refine skip (bN (pN (sg (co (Ev.assign (.c (v:=I 0) rfl)) ?_))))
                refine nP (ret (done rfl (.tmp rfl .nil) (bc ?_)))
                first
                  | (exfalso; simp_all; done)
                  | (have hA:¬ (aM h.src ≠ 0 ∨ aM h.dst ≠ 0 ∨ h.src.v6 ≠ h.dst.v6 ∨ (bif h.src.v6 then 1048575 else 65535) < h.id):=by simp_all
                     have hB:¬ (fb h.bj = 0 ∧ (h.bx ≠ 0 ∨ h.bm ≠ 0) ∨ h.bj ≠ 6 ∧ (h.flags ≠ 0 ∨ h.seq ≠ 0)):=by
                       intro hc
                       rcases hc with hc | hc <;> simp_all
                     unfold bM
                     rw [if_neg hA,if_neg hB]
                     first
                       | (rw [if_pos (by omega)]; rfl)
                       | (rw [if_neg (by omega)]; rfl))
          · try simp only [Gx.nb] at h5
            refine region (co (fA 34 (.t rfl)) ?_)
            refine co (Ev.ldx h.bj ty5 (.t rfl) au.dH) ?_
            refine co (Ev.eP (.t rfl) (.c (v:=U8 6) rfl)) ?_
            refine mv rfl (cg rfl rfl (fA 40 (.t rfl)) ?_)
            refine cg rfl rfl (Ev.ldx h.flags ty5 (.g rfl id) au.hZ) ?_
            refine cg rfl rfl (Ev.eP (.g rfl id) (.c (v:=U8 0) rfl)) ?_
            refine cg rfl rfl (Ev.move (.g rfl id)) ?_
            refine cg rfl rfl (fA 41 (.t rfl)) ?_
            refine cg rfl rfl (Ev.ldx h.seq ty44 (.g rfl id) au.lH) ?_
            refine cg rfl rfl (Ev.jg (.g rfl id) (.c (v:=U32 0) rfl)) ?_
            refine cg rfl rfl (Ev.pkO (.g rfl id) rfl) ?_
            refine co (Ev.pkA (.t rfl) rfl) ?_
            refine asn rfl (nP ?_)
            first | refine aL rfl (fun h6=>?_) (fun h6=>?_) | refine cond rfl (fun h6=>?_) (fun h6=>?_)
            · try simp only [Gx.nb] at h6
              refine sg (co (Ev.assign (.c (v:=I 2) rfl)) ?_)
              refine nP (ret (bR (pR (done rfl (.tmp rfl .nil) (bc ?_)))))
              unfold bM
              first
                | (simp_all; done)
                | (have hA:¬ (aM h.src ≠ 0 ∨ aM h.dst ≠ 0 ∨ h.src.v6 ≠ h.dst.v6 ∨ (bif h.src.v6 then 1048575 else 65535) < h.id):=by simp_all
                   rw [if_neg hA]
                   simp_all; done)
            · try simp only [Gx.nb] at h6
              refine seq (df zk ?_)
              refine tk 0 rfl (Ev.ldx h iC (.t rfl) (ak.id _)) ?_
              refine tk 2 rfl (Ev.move (.t rfl)) ?_
              refine tk 4 rfl (fA 42 (.t rfl)) ?_
              refine tk 5 rfl (Ev.ldx h.data lg (.t rfl) au.fz) ?_
              refine tk 6 rfl (Ev.len Tryz.underlying45 (.t rfl) (fun w I=>hd.aT I.keeps)) ?_
              refine al1 1 rfl ((aZ lh (.cons (.t rfl) .nil) (fun w I=>ef _ w) ?_))
              refine hdn (tk 3 rfl (Ev.a8 (.t rfl) (.t rfl) (fun _=>zo)) ?_)
              refine tk 7 rfl (Ev.a8 (.t rfl) (.t rfl) (fun _=>zo)) ?_
              refine tk 8 rfl (Ev.eJ (.t rfl) (.c (v:=I 2048) rfl)) ?_
              refine tk 9 rfl (Ev.assign (.t rfl)) ?_
              refine ovr (pN ?_)
              first | refine aL rfl (fun h7=>?_) (fun h7=>?_) | refine cond rfl (fun h7=>?_) (fun h7=>?_)
              · try simp only [Gx.nb] at h7
                refine sg (co (Ev.assign (.c (v:=I 4) rfl)) ?_)
                refine nP (ret (bR (pR (done rfl (.tmp rfl .nil) (bc ?_)))))
                first
                  | (exfalso; simp_all; done)
                  | (have hA:¬ (aM h.src ≠ 0 ∨ aM h.dst ≠ 0 ∨ h.src.v6 ≠ h.dst.v6 ∨ (bif h.src.v6 then 1048575 else 65535) < h.id):=by simp_all
                     have hB:¬ (fb h.bj = 0 ∧ (h.bx ≠ 0 ∨ h.bm ≠ 0) ∨ h.bj ≠ 6 ∧ (h.flags ≠ 0 ∨ h.seq ≠ 0)):=by
                       intro hc
                       rcases hc with hc | hc <;> simp_all
                     unfold bM
                     rw [if_neg hA,if_neg hB]
                     first
                       | (rw [if_pos (by omega)]; rfl)
                       | (rw [if_neg (by omega)]; rfl))
              · try simp only [Gx.nb] at h7
                refine skip (bN (pN (sg (co (Ev.assign (.c (v:=I 0) rfl)) ?_))))
                refine nP (ret (done rfl (.tmp rfl .nil) (bc ?_)))
                first
                  | (exfalso; simp_all; done)
                  | (have hA:¬ (aM h.src ≠ 0 ∨ aM h.dst ≠ 0 ∨ h.src.v6 ≠ h.dst.v6 ∨ (bif h.src.v6 then 1048575 else 65535) < h.id):=by simp_all
                     have hB:¬ (fb h.bj = 0 ∧ (h.bx ≠ 0 ∨ h.bm ≠ 0) ∨ h.bj ≠ 6 ∧ (h.flags ≠ 0 ∨ h.seq ≠ 0)):=by
                       intro hc
                       rcases hc with hc | hc <;> simp_all
                     unfold bM
                     rw [if_neg hA,if_neg hB]
                     first
                       | (rw [if_pos (by omega)]; rfl)
                       | (rw [if_neg (by omega)]; rfl))
      · try simp only [Gx.nb] at h2
        refine sg (co (fA 0 (.t rfl)) ?_)
        refine co (fA 0 (.t rfl)) ?_
        refine co (Ev.ldx h.src.v6 ty4 (.t rfl) (ak.comp au.ee a7.kI)) ?_
        refine co (fA 17 (.t rfl)) ?_
        refine co (fA 0 (.t rfl)) ?_
        refine co (Ev.ldx h.dst.v6 ty4 (.t rfl) (ak.comp au.iA a7.kI)) ?_
        refine co (Ev.neq_b Tryz.underlying4 (.t rfl) (.t rfl)) ?_
        refine asn rfl (nP ?_)
        first | refine aL rfl (fun h3=>?_) (fun h3=>?_) | refine cond rfl (fun h3=>?_) (fun h3=>?_)
        · try simp only [Gx.nb] at h3
          refine skip (pN ?_)
          first | refine aL rfl (fun h4=>?_) (fun h4=>?_) | refine cond rfl (fun h4=>?_) (fun h4=>?_)
          · try simp only [Gx.nb] at h4
            refine sg (co (Ev.assign (.c (v:=I 2) rfl)) ?_)
            refine nP (ret (bR (pR (done rfl (.tmp rfl .nil) (bc ?_)))))
            unfold bM
            first
              | (simp_all; done)
              | (have hA:¬ (aM h.src ≠ 0 ∨ aM h.dst ≠ 0 ∨ h.src.v6 ≠ h.dst.v6 ∨ (bif h.src.v6 then 1048575 else 65535) < h.id):=by simp_all
                 rw [if_neg hA]
                 simp_all; done)
          · try simp only [Gx.nb] at h4
            refine seq (sg (mv rfl (co (Ev.fD (.t rfl) (.c (v:=I 0) rfl)) ?_)))
            refine mv rfl (cg rfl rfl (fA 35 (.t rfl)) ?_)
            refine cg rfl rfl (Ev.ldx h.bx gE (.g rfl id) au.da) ?_
            refine cg rfl rfl (Ev.eZ (.g rfl id) (.c (v:=U16 0) rfl)) ?_
            refine cg rfl rfl (Ev.move (.g rfl id)) ?_
            refine cg rfl rfl (fA 36 (.t rfl)) ?_
            refine cg rfl rfl (Ev.ldx h.bm gE (.g rfl id) au.cS) ?_
            refine cg rfl rfl (Ev.eZ (.g rfl id) (.c (v:=U16 0) rfl)) ?_
            refine cg rfl rfl (Ev.pkO (.g rfl id) rfl) ?_
            refine co (Ev.pkA (.t rfl) rfl) ?_
            refine asn rfl (nP ?_)
            first | refine aL rfl (fun h5=>?_) (fun h5=>?_) | refine cond rfl (fun h5=>?_) (fun h5=>?_)
            · try simp only [Gx.nb] at h5
              refine skip (pN ?_)
              first | refine aL rfl (fun h6=>?_) (fun h6=>?_) | refine cond rfl (fun h6=>?_) (fun h6=>?_)
              · try simp only [Gx.nb] at h6
                refine sg (co (Ev.assign (.c (v:=I 2) rfl)) ?_)
                refine nP (ret (bR (pR (done rfl (.tmp rfl .nil) (bc ?_)))))
                unfold bM
                first
                  | (simp_all; done)
                  | (have hA:¬ (aM h.src ≠ 0 ∨ aM h.dst ≠ 0 ∨ h.src.v6 ≠ h.dst.v6 ∨ (bif h.src.v6 then 1048575 else 65535) < h.id):=by simp_all
                     rw [if_neg hA]
                     simp_all; done)
              · try simp only [Gx.nb] at h6
                refine seq (df zk ?_)
                refine tk 0 rfl (Ev.ldx h iC (.t rfl) (ak.id _)) ?_
                refine tk 2 rfl (Ev.move (.t rfl)) ?_
                refine tk 4 rfl (fA 42 (.t rfl)) ?_
                refine tk 5 rfl (Ev.ldx h.data lg (.t rfl) au.fz) ?_
                refine tk 6 rfl (Ev.len Tryz.underlying45 (.t rfl) (fun w I=>hd.aT I.keeps)) ?_
                refine al1 1 rfl ((aZ lh (.cons (.t rfl) .nil) (fun w I=>ef _ w) ?_))
                refine hdn (tk 3 rfl (Ev.a8 (.t rfl) (.t rfl) (fun _=>zo)) ?_)
                refine tk 7 rfl (Ev.a8 (.t rfl) (.t rfl) (fun _=>zo)) ?_
                refine tk 8 rfl (Ev.eJ (.t rfl) (.c (v:=I 2048) rfl)) ?_
                refine tk 9 rfl (Ev.assign (.t rfl)) ?_
                refine ovr (pN ?_)
                first | refine aL rfl (fun h7=>?_) (fun h7=>?_) | refine cond rfl (fun h7=>?_) (fun h7=>?_)
                · try simp only [Gx.nb] at h7
                  refine sg (co (Ev.assign (.c (v:=I 4) rfl)) ?_)
                  refine nP (ret (bR (pR (done rfl (.tmp rfl .nil) (bc ?_)))))
                  first
                    | (exfalso; simp_all; done)
                    | (have hA:¬ (aM h.src ≠ 0 ∨ aM h.dst ≠ 0 ∨ h.src.v6 ≠ h.dst.v6 ∨ (bif h.src.v6 then 1048575 else 65535) < h.id):=by simp_all
                       have hB:¬ (fb h.bj = 0 ∧ (h.bx ≠ 0 ∨ h.bm ≠ 0) ∨ h.bj ≠ 6 ∧ (h.flags ≠ 0 ∨ h.seq ≠ 0)):=by
                         intro hc
                         rcases hc with hc | hc <;> simp_all
                       unfold bM
                       rw [if_neg hA,if_neg hB]
                       first
                         | (rw [if_pos (by omega)]; rfl)
                         | (rw [if_neg (by omega)]; rfl))
                · try simp only [Gx.nb] at h7
                  refine skip (bN (pN (sg (co (Ev.assign (.c (v:=I 0) rfl)) ?_))))
                  refine nP (ret (done rfl (.tmp rfl .nil) (bc ?_)))
                  first
                    | (exfalso; simp_all; done)
                    | (have hA:¬ (aM h.src ≠ 0 ∨ aM h.dst ≠ 0 ∨ h.src.v6 ≠ h.dst.v6 ∨ (bif h.src.v6 then 1048575 else 65535) < h.id):=by simp_all
                       have hB:¬ (fb h.bj = 0 ∧ (h.bx ≠ 0 ∨ h.bm ≠ 0) ∨ h.bj ≠ 6 ∧ (h.flags ≠ 0 ∨ h.seq ≠ 0)):=by
                         intro hc
                         rcases hc with hc | hc <;> simp_all
                       unfold bM
                       rw [if_neg hA,if_neg hB]
                       first
                         | (rw [if_pos (by omega)]; rfl)
                         | (rw [if_neg (by omega)]; rfl))
            · try simp only [Gx.nb] at h5
              refine region (co (fA 34 (.t rfl)) ?_)
              refine co (Ev.ldx h.bj ty5 (.t rfl) au.dH) ?_
              refine co (Ev.eP (.t rfl) (.c (v:=U8 6) rfl)) ?_
              refine mv rfl (cg rfl rfl (fA 40 (.t rfl)) ?_)
              refine cg rfl rfl (Ev.ldx h.flags ty5 (.g rfl id) au.hZ) ?_
              refine cg rfl rfl (Ev.eP (.g rfl id) (.c (v:=U8 0) rfl)) ?_
              refine cg rfl rfl (Ev.move (.g rfl id)) ?_
              refine cg rfl rfl (fA 41 (.t rfl)) ?_
              refine cg rfl rfl (Ev.ldx h.seq ty44 (.g rfl id) au.lH) ?_
              refine cg rfl rfl (Ev.jg (.g rfl id) (.c (v:=U32 0) rfl)) ?_
              refine cg rfl rfl (Ev.pkO (.g rfl id) rfl) ?_
              refine co (Ev.pkA (.t rfl) rfl) ?_
              refine asn rfl (nP ?_)
              first | refine aL rfl (fun h6=>?_) (fun h6=>?_) | refine cond rfl (fun h6=>?_) (fun h6=>?_)
              · try simp only [Gx.nb] at h6
                refine sg (co (Ev.assign (.c (v:=I 2) rfl)) ?_)
                refine nP (ret (bR (pR (done rfl (.tmp rfl .nil) (bc ?_)))))
                unfold bM
                first
                  | (simp_all; done)
                  | (have hA:¬ (aM h.src ≠ 0 ∨ aM h.dst ≠ 0 ∨ h.src.v6 ≠ h.dst.v6 ∨ (bif h.src.v6 then 1048575 else 65535) < h.id):=by simp_all
                     rw [if_neg hA]
                     simp_all; done)
              · try simp only [Gx.nb] at h6
                refine seq (df zk ?_)
                refine tk 0 rfl (Ev.ldx h iC (.t rfl) (ak.id _)) ?_
                refine tk 2 rfl (Ev.move (.t rfl)) ?_
                refine tk 4 rfl (fA 42 (.t rfl)) ?_
                refine tk 5 rfl (Ev.ldx h.data lg (.t rfl) au.fz) ?_
                refine tk 6 rfl (Ev.len Tryz.underlying45 (.t rfl) (fun w I=>hd.aT I.keeps)) ?_
                refine al1 1 rfl ((aZ lh (.cons (.t rfl) .nil) (fun w I=>ef _ w) ?_))
                refine hdn (tk 3 rfl (Ev.a8 (.t rfl) (.t rfl) (fun _=>zo)) ?_)
                refine tk 7 rfl (Ev.a8 (.t rfl) (.t rfl) (fun _=>zo)) ?_
                refine tk 8 rfl (Ev.eJ (.t rfl) (.c (v:=I 2048) rfl)) ?_
                refine tk 9 rfl (Ev.assign (.t rfl)) ?_
                refine ovr (pN ?_)
                first | refine aL rfl (fun h7=>?_) (fun h7=>?_) | refine cond rfl (fun h7=>?_) (fun h7=>?_)
                · try simp only [Gx.nb] at h7
                  refine sg (co (Ev.assign (.c (v:=I 4) rfl)) ?_)
                  refine nP (ret (bR (pR (done rfl (.tmp rfl .nil) (bc ?_)))))
                  first
                    | (exfalso; simp_all; done)
                    | (have hA:¬ (aM h.src ≠ 0 ∨ aM h.dst ≠ 0 ∨ h.src.v6 ≠ h.dst.v6 ∨ (bif h.src.v6 then 1048575 else 65535) < h.id):=by simp_all
                       have hB:¬ (fb h.bj = 0 ∧ (h.bx ≠ 0 ∨ h.bm ≠ 0) ∨ h.bj ≠ 6 ∧ (h.flags ≠ 0 ∨ h.seq ≠ 0)):=by
                         intro hc
                         rcases hc with hc | hc <;> simp_all
                       unfold bM
                       rw [if_neg hA,if_neg hB]
                       first
                         | (rw [if_pos (by omega)]; rfl)
                         | (rw [if_neg (by omega)]; rfl))
                · try simp only [Gx.nb] at h7
                  refine skip (bN (pN (sg (co (Ev.assign (.c (v:=I 0) rfl)) ?_))))
                  refine nP (ret (done rfl (.tmp rfl .nil) (bc ?_)))
                  first
                    | (exfalso; simp_all; done)
                    | (have hA:¬ (aM h.src ≠ 0 ∨ aM h.dst ≠ 0 ∨ h.src.v6 ≠ h.dst.v6 ∨ (bif h.src.v6 then 1048575 else 65535) < h.id):=by simp_all
                       have hB:¬ (fb h.bj = 0 ∧ (h.bx ≠ 0 ∨ h.bm ≠ 0) ∨ h.bj ≠ 6 ∧ (h.flags ≠ 0 ∨ h.seq ≠ 0)):=by
                         intro hc
                         rcases hc with hc | hc <;> simp_all
                       unfold bM
                       rw [if_neg hA,if_neg hB]
                       first
                         | (rw [if_pos (by omega)]; rfl)
                         | (rw [if_neg (by omega)]; rfl))
        · try simp only [Gx.nb] at h3
          refine region (co (fA 39 (.t rfl)) ?_)
          refine co (Ev.ldx h.id ty44 (.t rfl) au.l_id) ?_
          refine mv rfl (co (Ev.gtr_u32 (.t rfl) (.t rfl)) ?_)
          refine asn rfl (nP ?_)
          first | refine aL rfl (fun h4=>?_) (fun h4=>?_) | refine cond rfl (fun h4=>?_) (fun h4=>?_)
          · try simp only [Gx.nb] at h4
            refine sg (co (Ev.assign (.c (v:=I 2) rfl)) ?_)
            refine nP (ret (bR (pR (done rfl (.tmp rfl .nil) (bc ?_)))))
            unfold bM
            first
              | (simp_all; done)
              | (have hA:¬ (aM h.src ≠ 0 ∨ aM h.dst ≠ 0 ∨ h.src.v6 ≠ h.dst.v6 ∨ (bif h.src.v6 then 1048575 else 65535) < h.id):=by simp_all
                 rw [if_neg hA]
                 simp_all; done)
          · try simp only [Gx.nb] at h4
            refine seq (sg (mv rfl (co (Ev.fD (.t rfl) (.c (v:=I 0) rfl)) ?_)))
            refine mv rfl (cg rfl rfl (fA 35 (.t rfl)) ?_)
            refine cg rfl rfl (Ev.ldx h.bx gE (.g rfl id) au.da) ?_
            refine cg rfl rfl (Ev.eZ (.g rfl id) (.c (v:=U16 0) rfl)) ?_
            refine cg rfl rfl (Ev.move (.g rfl id)) ?_
            refine cg rfl rfl (fA 36 (.t rfl)) ?_
            refine cg rfl rfl (Ev.ldx h.bm gE (.g rfl id) au.cS) ?_
            refine cg rfl rfl (Ev.eZ (.g rfl id) (.c (v:=U16 0) rfl)) ?_
            refine cg rfl rfl (Ev.pkO (.g rfl id) rfl) ?_
            refine co (Ev.pkA (.t rfl) rfl) ?_
            refine asn rfl (nP ?_)
            first | refine aL rfl (fun h5=>?_) (fun h5=>?_) | refine cond rfl (fun h5=>?_) (fun h5=>?_)
            · try simp only [Gx.nb] at h5
              refine skip (pN ?_)
              first | refine aL rfl (fun h6=>?_) (fun h6=>?_) | refine cond rfl (fun h6=>?_) (fun h6=>?_)
              · try simp only [Gx.nb] at h6
                refine sg (co (Ev.assign (.c (v:=I 2) rfl)) ?_)
                refine nP (ret (bR (pR (done rfl (.tmp rfl .nil) (bc ?_)))))
                unfold bM
                first
                  | (simp_all; done)
                  | (have hA:¬ (aM h.src ≠ 0 ∨ aM h.dst ≠ 0 ∨ h.src.v6 ≠ h.dst.v6 ∨ (bif h.src.v6 then 1048575 else 65535) < h.id):=by simp_all
                     rw [if_neg hA]
                     simp_all; done)
              · try simp only [Gx.nb] at h6
                refine seq (df zk ?_)
                refine tk 0 rfl (Ev.ldx h iC (.t rfl) (ak.id _)) ?_
                refine tk 2 rfl (Ev.move (.t rfl)) ?_
                refine tk 4 rfl (fA 42 (.t rfl)) ?_
                refine tk 5 rfl (Ev.ldx h.data lg (.t rfl) au.fz) ?_
                refine tk 6 rfl (Ev.len Tryz.underlying45 (.t rfl) (fun w I=>hd.aT I.keeps)) ?_
                refine al1 1 rfl ((aZ lh (.cons (.t rfl) .nil) (fun w I=>ef _ w) ?_))
                refine hdn (tk 3 rfl (Ev.a8 (.t rfl) (.t rfl) (fun _=>zo)) ?_)
                refine tk 7 rfl (Ev.a8 (.t rfl) (.t rfl) (fun _=>zo)) ?_
                refine tk 8 rfl (Ev.eJ (.t rfl) (.c (v:=I 2048) rfl)) ?_
                refine tk 9 rfl (Ev.assign (.t rfl)) ?_
                refine ovr (pN ?_)
                first | refine aL rfl (fun h7=>?_) (fun h7=>?_) | refine cond rfl (fun h7=>?_) (fun h7=>?_)
                · try simp only [Gx.nb] at h7
                  refine sg (co (Ev.assign (.c (v:=I 4) rfl)) ?_)
                  refine nP (ret (bR (pR (done rfl (.tmp rfl .nil) (bc ?_)))))
                  first
                    | (exfalso; simp_all; done)
                    | (have hA:¬ (aM h.src ≠ 0 ∨ aM h.dst ≠ 0 ∨ h.src.v6 ≠ h.dst.v6 ∨ (bif h.src.v6 then 1048575 else 65535) < h.id):=by simp_all
                       have hB:¬ (fb h.bj = 0 ∧ (h.bx ≠ 0 ∨ h.bm ≠ 0) ∨ h.bj ≠ 6 ∧ (h.flags ≠ 0 ∨ h.seq ≠ 0)):=by
                         intro hc
                         rcases hc with hc | hc <;> simp_all
                       unfold bM
                       rw [if_neg hA,if_neg hB]
                       first
                         | (rw [if_pos (by omega)]; rfl)
                         | (rw [if_neg (by omega)]; rfl))
                · try simp only [Gx.nb] at h7
                  refine skip (bN (pN (sg (co (Ev.assign (.c (v:=I 0) rfl)) ?_))))
                  refine nP (ret (done rfl (.tmp rfl .nil) (bc ?_)))
                  first
                    | (exfalso; simp_all; done)
                    | (have hA:¬ (aM h.src ≠ 0 ∨ aM h.dst ≠ 0 ∨ h.src.v6 ≠ h.dst.v6 ∨ (bif h.src.v6 then 1048575 else 65535) < h.id):=by simp_all
                       have hB:¬ (fb h.bj = 0 ∧ (h.bx ≠ 0 ∨ h.bm ≠ 0) ∨ h.bj ≠ 6 ∧ (h.flags ≠ 0 ∨ h.seq ≠ 0)):=by
                         intro hc
                         rcases hc with hc | hc <;> simp_all
                       unfold bM
                       rw [if_neg hA,if_neg hB]
                       first
                         | (rw [if_pos (by omega)]; rfl)
                         | (rw [if_neg (by omega)]; rfl))
            · try simp only [Gx.nb] at h5
              refine region (co (fA 34 (.t rfl)) ?_)
              refine co (Ev.ldx h.bj ty5 (.t rfl) au.dH) ?_
              refine co (Ev.eP (.t rfl) (.c (v:=U8 6) rfl)) ?_
              refine mv rfl (cg rfl rfl (fA 40 (.t rfl)) ?_)
              refine cg rfl rfl (Ev.ldx h.flags ty5 (.g rfl id) au.hZ) ?_
              refine cg rfl rfl (Ev.eP (.g rfl id) (.c (v:=U8 0) rfl)) ?_
              refine cg rfl rfl (Ev.move (.g rfl id)) ?_
              refine cg rfl rfl (fA 41 (.t rfl)) ?_
              refine cg rfl rfl (Ev.ldx h.seq ty44 (.g rfl id) au.lH) ?_
              refine cg rfl rfl (Ev.jg (.g rfl id) (.c (v:=U32 0) rfl)) ?_
              refine cg rfl rfl (Ev.pkO (.g rfl id) rfl) ?_
              refine co (Ev.pkA (.t rfl) rfl) ?_
              refine asn rfl (nP ?_)
              first | refine aL rfl (fun h6=>?_) (fun h6=>?_) | refine cond rfl (fun h6=>?_) (fun h6=>?_)
              · try simp only [Gx.nb] at h6
                refine sg (co (Ev.assign (.c (v:=I 2) rfl)) ?_)
                refine nP (ret (bR (pR (done rfl (.tmp rfl .nil) (bc ?_)))))
                unfold bM
                first
                  | (simp_all; done)
                  | (have hA:¬ (aM h.src ≠ 0 ∨ aM h.dst ≠ 0 ∨ h.src.v6 ≠ h.dst.v6 ∨ (bif h.src.v6 then 1048575 else 65535) < h.id):=by simp_all
                     rw [if_neg hA]
                     simp_all; done)
              · try simp only [Gx.nb] at h6
                refine seq (df zk ?_)
                refine tk 0 rfl (Ev.ldx h iC (.t rfl) (ak.id _)) ?_
                refine tk 2 rfl (Ev.move (.t rfl)) ?_
                refine tk 4 rfl (fA 42 (.t rfl)) ?_
                refine tk 5 rfl (Ev.ldx h.data lg (.t rfl) au.fz) ?_
                refine tk 6 rfl (Ev.len Tryz.underlying45 (.t rfl) (fun w I=>hd.aT I.keeps)) ?_
                refine al1 1 rfl ((aZ lh (.cons (.t rfl) .nil) (fun w I=>ef _ w) ?_))
                refine hdn (tk 3 rfl (Ev.a8 (.t rfl) (.t rfl) (fun _=>zo)) ?_)
                refine tk 7 rfl (Ev.a8 (.t rfl) (.t rfl) (fun _=>zo)) ?_
                refine tk 8 rfl (Ev.eJ (.t rfl) (.c (v:=I 2048) rfl)) ?_
                refine tk 9 rfl (Ev.assign (.t rfl)) ?_
                refine ovr (pN ?_)
                first | refine aL rfl (fun h7=>?_) (fun h7=>?_) | refine cond rfl (fun h7=>?_) (fun h7=>?_)
                · try simp only [Gx.nb] at h7
                  refine sg (co (Ev.assign (.c (v:=I 4) rfl)) ?_)
                  refine nP (ret (bR (pR (done rfl (.tmp rfl .nil) (bc ?_)))))
                  first
                    | (exfalso; simp_all; done)
                    | (have hA:¬ (aM h.src ≠ 0 ∨ aM h.dst ≠ 0 ∨ h.src.v6 ≠ h.dst.v6 ∨ (bif h.src.v6 then 1048575 else 65535) < h.id):=by simp_all
                       have hB:¬ (fb h.bj = 0 ∧ (h.bx ≠ 0 ∨ h.bm ≠ 0) ∨ h.bj ≠ 6 ∧ (h.flags ≠ 0 ∨ h.seq ≠ 0)):=by
                         intro hc
                         rcases hc with hc | hc <;> simp_all
                       unfold bM
                       rw [if_neg hA,if_neg hB]
                       first
                         | (rw [if_pos (by omega)]; rfl)
                         | (rw [if_neg (by omega)]; rfl))
                · try simp only [Gx.nb] at h7
                  refine skip (bN (pN (sg (co (Ev.assign (.c (v:=I 0) rfl)) ?_))))
                  refine nP (ret (done rfl (.tmp rfl .nil) (bc ?_)))
                  first
                    | (exfalso; simp_all; done)
                    | (have hA:¬ (aM h.src ≠ 0 ∨ aM h.dst ≠ 0 ∨ h.src.v6 ≠ h.dst.v6 ∨ (bif h.src.v6 then 1048575 else 65535) < h.id):=by simp_all
                       have hB:¬ (fb h.bj = 0 ∧ (h.bx ≠ 0 ∨ h.bm ≠ 0) ∨ h.bj ≠ 6 ∧ (h.flags ≠ 0 ∨ h.seq ≠ 0)):=by
                         intro hc
                         rcases hc with hc | hc <;> simp_all
                       unfold bM
                       rw [if_neg hA,if_neg hB]
                       first
                         | (rw [if_pos (by omega)]; rfl)
                         | (rw [if_neg (by omega)]; rfl))
end Go.Proofs.YtjanhajdmhalaaaGreat
namespace Go.Proofs.YtjanhajdmhalaaaGreat
open Go Go.Gx Go.Proofs.YtjanhajdmhalaaaGreat.Tri
structure aE where
  conf:aV
  gV:OV
  fa:OV
  rules:OV
  pB:OV
  oD:OV
def aE.to:(aV × (OV × (OV × (OV × (OV × OV)))))→aE:=fun x=>⟨x.1,x.2.1,x.2.2.1,x.2.2.2.1,x.2.2.2.2.1,x.2.2.2.2.2⟩
def aE.of:aE→(aV × (OV × (OV × (OV × (OV × OV))))):=fun x=>(x.conf,x.gV,x.fa,x.rules,x.pB,x.oD)
def bV:Enc aE:=iH (aa aK (aa (ovE bf) (aa (ovE aR) (aa (ovE aR) (aa (ovE aw) (ovE aw)))))) aE.to aE.of
def aE.l_conf:ak bV aK 0:=cP _ aE.to aE.of (fun _=>rfl) (dF aK (aa (ovE bf) (aa (ovE aR) (aa (ovE aR) (aa (ovE aw) (ovE aw))))))
@[simp] theorem aE.get_conf (x:aE):aE.l_conf.get x = x.conf:=rfl
@[simp] theorem aE.set_conf (x:aE) (y:aV):aE.l_conf.set x y = { x with conf:=y }:=rfl
def aE.dc:ak bV (ovE bf) 6:=cP _ aE.to aE.of (fun _=>rfl) (ak.comp (bg aK (aa (ovE bf) (aa (ovE aR) (aa (ovE aR) (aa (ovE aw) (ovE aw)))))) (dF (ovE bf) (aa (ovE aR) (aa (ovE aR) (aa (ovE aw) (ovE aw))))))
@[simp] theorem aE.get_ports (x:aE):aE.dc.get x = x.gV:=rfl
@[simp] theorem aE.set_ports (x:aE) (y:OV):aE.dc.set x y = { x with gV:=y }:=rfl
def aE.cH:ak bV (ovE aR) 7:=cP _ aE.to aE.of (fun _=>rfl) (ak.comp (bg aK (aa (ovE bf) (aa (ovE aR) (aa (ovE aR) (aa (ovE aw) (ovE aw)))))) (ak.comp (bg (ovE bf) (aa (ovE aR) (aa (ovE aR) (aa (ovE aw) (ovE aw))))) (dF (ovE aR) (aa (ovE aR) (aa (ovE aw) (ovE aw))))))
@[simp] theorem aE.l9 (x:aE):aE.cH.get x = x.fa:=rfl
@[simp] theorem aE.lU (x:aE) (y:OV):aE.cH.set x y = { x with fa:=y }:=rfl
def aE.dG:ak bV (ovE aR) 8:=cP _ aE.to aE.of (fun _=>rfl) (ak.comp (bg aK (aa (ovE bf) (aa (ovE aR) (aa (ovE aR) (aa (ovE aw) (ovE aw)))))) (ak.comp (bg (ovE bf) (aa (ovE aR) (aa (ovE aR) (aa (ovE aw) (ovE aw))))) (ak.comp (bg (ovE aR) (aa (ovE aR) (aa (ovE aw) (ovE aw)))) (dF (ovE aR) (aa (ovE aw) (ovE aw))))))
@[simp] theorem aE.get_rules (x:aE):aE.dG.get x = x.rules:=rfl
@[simp] theorem aE.set_rules (x:aE) (y:OV):aE.dG.set x y = { x with rules:=y }:=rfl
def aE.dh:ak bV (ovE aw) 9:=cP _ aE.to aE.of (fun _=>rfl) (ak.comp (bg aK (aa (ovE bf) (aa (ovE aR) (aa (ovE aR) (aa (ovE aw) (ovE aw)))))) (ak.comp (bg (ovE bf) (aa (ovE aR) (aa (ovE aR) (aa (ovE aw) (ovE aw))))) (ak.comp (bg (ovE aR) (aa (ovE aR) (aa (ovE aw) (ovE aw)))) (ak.comp (bg (ovE aR) (aa (ovE aw) (ovE aw))) (dF (ovE aw) (ovE aw))))))
@[simp] theorem aE.get_deciders (x:aE):aE.dh.get x = x.pB:=rfl
@[simp] theorem aE.set_deciders (x:aE) (y:OV):aE.dh.set x y = { x with pB:=y }:=rfl
def aE.dy:ak bV (ovE aw) 10:=cP _ aE.to aE.of (fun _=>rfl) (ak.comp (bg aK (aa (ovE bf) (aa (ovE aR) (aa (ovE aR) (aa (ovE aw) (ovE aw)))))) (ak.comp (bg (ovE bf) (aa (ovE aR) (aa (ovE aR) (aa (ovE aw) (ovE aw))))) (ak.comp (bg (ovE aR) (aa (ovE aR) (aa (ovE aw) (ovE aw)))) (ak.comp (bg (ovE aR) (aa (ovE aw) (ovE aw))) (ak.comp (bg (ovE aw) (ovE aw)) (ak.id (ovE aw)))))))
@[simp] theorem aE.get_verdicts (x:aE):aE.dy.get x = x.oD:=rfl
@[simp] theorem aE.set_verdicts (x:aE) (y:OV):aE.dy.set x y = { x with oD:=y }:=rfl
structure cG where
  fa:OV
def cG.to:OV→cG:=fun x=>⟨x⟩
def cG.of:cG→OV:=fun x=>x.fa
def gA:Enc cG:=iH (ovE aR) cG.to cG.of
def cG.cH:ak gA (ovE aR) 0:=cP _ cG.to cG.of (fun _=>rfl) (ak.id (ovE aR))
@[simp] theorem cG.l9 (x:cG):cG.cH.get x = x.fa:=rfl
@[simp] theorem cG.lU (x:cG) (y:OV):cG.cH.set x y = { x with fa:=y }:=rfl
structure aF where
  action:Int
  out:Int
  rule:Int
  fx:Int
  dZ:Int
def aF.to:(Int × (Int × (Int × (Int × Int))))→aF:=fun x=>⟨x.1,x.2.1,x.2.2.1,x.2.2.2.1,x.2.2.2.2⟩
def aF.of:aF→(Int × (Int × (Int × (Int × Int)))):=fun x=>(x.action,x.out,x.rule,x.fx,x.dZ)
def aW:Enc aF:=iH (aa iE (aa iE (aa iE (aa iE iE)))) aF.to aF.of
def aF.bZ:ak aW iE 0:=cP _ aF.to aF.of (fun _=>rfl) (dF iE (aa iE (aa iE (aa iE iE))))
@[simp] theorem aF.get_action (x:aF):aF.bZ.get x = x.action:=rfl
@[simp] theorem aF.set_action (x:aF) (y:Int):aF.bZ.set x y = { x with action:=y }:=rfl
def aF.dj:ak aW iE 1:=cP _ aF.to aF.of (fun _=>rfl) (ak.comp (bg iE (aa iE (aa iE (aa iE iE)))) (dF iE (aa iE (aa iE iE))))
@[simp] theorem aF.get_out (x:aF):aF.dj.get x = x.out:=rfl
@[simp] theorem aF.set_out (x:aF) (y:Int):aF.dj.set x y = { x with out:=y }:=rfl
def aF.iU:ak aW iE 2:=cP _ aF.to aF.of (fun _=>rfl) (ak.comp (bg iE (aa iE (aa iE (aa iE iE)))) (ak.comp (bg iE (aa iE (aa iE iE))) (dF iE (aa iE iE))))
@[simp] theorem aF.get_rule (x:aF):aF.iU.get x = x.rule:=rfl
@[simp] theorem aF.set_rule (x:aF) (y:Int):aF.iU.set x y = { x with rule:=y }:=rfl
def aF.eL:ak aW iE 3:=cP _ aF.to aF.of (fun _=>rfl) (ak.comp (bg iE (aa iE (aa iE (aa iE iE)))) (ak.comp (bg iE (aa iE (aa iE iE))) (ak.comp (bg iE (aa iE iE)) (dF iE iE))))
@[simp] theorem aF.get_meter (x:aF):aF.eL.get x = x.fx:=rfl
@[simp] theorem aF.set_meter (x:aF) (y:Int):aF.eL.set x y = { x with fx:=y }:=rfl
def aF.dI:ak aW iE 4:=cP _ aF.to aF.of (fun _=>rfl) (ak.comp (bg iE (aa iE (aa iE (aa iE iE)))) (ak.comp (bg iE (aa iE (aa iE iE))) (ak.comp (bg iE (aa iE iE)) (ak.comp (bg iE iE) (ak.id iE)))))
@[simp] theorem aF.get_mirror (x:aF):aF.dI.get x = x.dZ:=rfl
@[simp] theorem aF.set_mirror (x:aF) (y:Int):aF.dI.set x y = { x with dZ:=y }:=rfl
def aF.eqb (x y:aF):Bool:=eqd x.action y.action && (eqd x.out y.out && (eqd x.rule y.rule && (eqd x.fx y.fx && (eqd x.dZ y.dZ && (true)))))
theorem aF.bQ (x y:aF):aF.eqb x y = true ↔ x = y:=by
  obtain ⟨a0,a1,a2,a3,a4⟩:=x
  obtain ⟨b0,b1,b2,b3,b4⟩:=y
  simp only [aF.eqb,Bool.and_eq_true,dA,dA,dA,dA,dA,aF.mk.injEq,and_true]
theorem pn:iy Tryz.prog 37 aW aF.eqb 2:=jl (fs:=_) Tryz.underlying37 zk rfl (EqF.cons (by decide) rfl aF.bZ ty3 (me Tryz.underlying3) (EqF.cons (by decide) rfl aF.dj ty3 (me Tryz.underlying3) (EqF.cons (by decide) rfl aF.iU ty3 (me Tryz.underlying3) (EqF.cons (by decide) rfl aF.eL ty3 (me Tryz.underlying3) (EqF.cons (by decide) rfl aF.dI ty3 (me Tryz.underlying3) EqF.nil))))) (fun _ _=>rfl)
instance:DecidableEq aF:=fun x y=>decidable_of_iff (aF.eqb x y = true) (aF.bQ x y)
@[simp] theorem aF.iI (x y:aF):aF.eqb x y = decide (x = y):=by
  rw [Bool.eq_iff_iff,decide_eq_true_iff]
  exact aF.bQ x y
theorem rule_okM {l:CL} {r:aO} {i:Int} (h:ft l r i = 0):okM r.cX = true:=by
  unfold ft at h
  split at h
  · cases h
  split at h
  · cases h
  split at h
  · cases h
  · rename_i h3
    simpa using h3
def mtL (l:CL):List aB:=l.us.map fun r=>r.cX
theorem may_comp {l:CL} {d:Int} (h:kE l d = true):j3 (mtL l) = 0:=by
  have hl:=oW h
  have hg:=(kD h).us
  have h1:(mtL l).length = l.us.length:=by simp [mtL]
  have h2:(mtL l).all okM = true:=List.all_eq_true.2 fun m hm=>by
    obtain ⟨r,hr,rfl⟩:=List.mem_map.1 hm
    obtain ⟨i,hi,rfl⟩:=List.mem_iff_getElem.1 hr
    have:=rule_okM (hg i hi)
    simpa [List.getD,hi] using this
  unfold j3
  rw [decide_eq_false (by omega),h2]
  rfl
def fG {α κ β:Type} (q:κ→κ→Bool) (f:α→κ) (g:Nat→β) (l:List α):Nat→List (κ × β)
  | 0=>[]
  | n + 1=>match l[n]? with
    | none=>fG q f g l n
    | some x=>jB q (f x) (g n) (fG q f g l n)
theorem oM {α κ β:Type} (q:κ→κ→Bool) (f:α→κ) (g:Nat→β) (l:List α) (z:α) {i:Int} (h:0 ≤ i ∧ i < l.length):fG q f g l (i + 1).toNat = jB q (f (l.getD i.toNat z)) (g i.toNat) (fG q f g l i.toNat):=by
  have e:(i + 1).toNat = i.toNat + 1:=by omega
  have e2:l[i.toNat]? = some (l.getD i.toNat z):=by
    have:i.toNat < l.length:=by omega
    simp [List.getD,List.getElem?_eq_getElem this]
  rw [e,fG,e2]
theorem nf {α κ β:Type} (q:κ→κ→Bool) (f:α→κ) (g:Nat→β) (l:List α) {n:Nat} (h:n < l.length):fG q f g l (n + 1) = jB q (f l[n]) (g n) (fG q f g l n):=by
  rw [fG,List.getElem?_eq_getElem h]
theorem putN_none {α κ β:Type} {q:κ→κ→Bool} (hi:∀ x y,q x y = true ↔ x = y) (f:α→κ) (g:Nat→β) (l:List α) {k:κ} (hk:k ∉ l.map f):∀ n,n ≤ l.length→Gx.cM q k (fG q f g l n) = none
  | 0,_=>rfl
  | n + 1,h=>by
    rw [nf q f g l (by omega),jJ hi,if_neg,putN_none hi f g l hk n (by omega)]
    intro hq
    exact hk (List.mem_map.2 ⟨l[n],List.getElem_mem _,((hi _ _).1 hq).symm⟩)
theorem putN_at {α κ β:Type} {q:κ→κ→Bool} (hi:∀ x y,q x y = true ↔ x = y) {f:α→κ} (g:Nat→β) {l:List α} (hu:(l.map f).Nodup) {j:Nat} (hj:j < l.length):∀ n,n ≤ l.length→j < n→Gx.cM q (f l[j]) (fG q f g l n) = some (g j)
  | 0,_,h=>by omega
  | n + 1,h,hjn=>by
    rw [nf q f g l (by omega),jJ hi]
    by_cases e:j = n
    · subst e
      rw [if_pos ((hi _ _).2 rfl)]
    · rw [if_neg,putN_at hi g hu hj n (by omega) (by omega)]
      intro hq
      have e2:=(hi _ _).1 hq
      exact List.pairwise_iff_getElem.1 hu j n (by simpa using hj) (by simp; omega) (by omega) (by simpa using e2)
theorem putN_mem {α κ:Type} {q:κ→κ→Bool} (hi:∀ x y,q x y = true ↔ x = y) (f:α→κ) (l:List α) (k:κ):∀ n,n ≤ l.length→(Gx.cM q k (fG q f (fun _=>true) l n)).getD false = (l.take n).any (fun x=>q k (f x))
  | 0,_=>rfl
  | n + 1,h=>by
    rw [nf q f _ l (by omega),jJ hi,List.take_succ_eq_append_getElem (by omega),List.any_append,← putN_mem hi f l k n (by omega)]
    cases hq:q k (f l[n]) with
    | true=>rw [if_pos rfl]; simp [hq]
    | false=>rw [if_neg Bool.false_ne_true]; simp [hq]
theorem idx_none' {α:Type} {p:α→Bool} {l:List α} (h:∀ y ∈ l,p y = false):idxF p l = -1:=by
  unfold idxF
  rw [List.findIdx?_eq_none_iff.2 h]
def numB (m:List (ByteArray × Int)) (s:ByteArray):Int:=match Gx.cM eqs s m with
  | some i=>i
  | none=>-1
def nameI {α:Type} (f:α→ByteArray) (l:List α) (s:ByteArray):Int:=idxF (fun x=>decide (f x = s)) l
theorem kB {α:Type} {f:α→ByteArray} {l:List α} (hu:(l.map f).Nodup) (s:ByteArray):numB (fG eqs f (fun k:Nat=>(k:Int)) l l.length) s = nameI f l s:=by
  unfold numB nameI
  by_cases hs:s ∈ l.map f
  · obtain ⟨x,hx,rfl⟩:=List.mem_map.1 hs
    obtain ⟨j,hj,rfl⟩:=List.mem_iff_getElem.1 hx
    rw [putN_at gN _ hu hj _ (Nat.le_refl _) hj]
    have h1:=idx_at (p:=fun x=>decide (f x = f l[j])) (l:=l) (i:=(j:Int)) l[j] ⟨by omega,by omega⟩ (fun k hk=>by
      have hkl:k < l.length:=by omega
      have e:l.getD k l[j] = l[k]:=by simp [List.getD,hkl]
      rw [e]
      exact decide_eq_false fun e2=>List.pairwise_iff_getElem.1 hu k j (by simpa using hkl) (by simpa using hj) (by omega) (by simpa using e2)) (by simp [List.getD,hj])
    exact h1.symm
  · rw [putN_none gN f _ l hs _ (Nat.le_refl _)]
    refine (idx_none' (p:=fun x=>decide (f x = s)) fun y hy=>decide_eq_false fun e=>hs (List.mem_map.2 ⟨y,hy,e⟩)).symm
def o7 (rs:List aU) (a:a7):Nat→Int
  | 0=>-1
  | n + 1=>if (jI (rs.getD n aA.zero).to_ a && (decide (o7 rs a n < 0) || decide ((rs.getD (o7 rs a n).toNat aA.zero).to_.bits < (rs.getD n aA.zero).to_.bits))) = true then (n:Int) else o7 rs a n
def longK (rs:List aU) (a:a7):Int:=o7 rs a rs.length
theorem oZ (rs:List aU) (a:a7):∀ n,(o7 rs a n = -1 ∧ ∀ j,j < n→jI (rs.getD j aA.zero).to_ a = false) ∨ (∃ k:Nat,o7 rs a n = k ∧ k < n ∧ jI (rs.getD k aA.zero).to_ a = true ∧ ∀ j,j < n→jI (rs.getD j aA.zero).to_ a = true→(rs.getD j aA.zero).to_.bits ≤ (rs.getD k aA.zero).to_.bits)
  | 0=>.inl ⟨rfl,fun j h=>by omega⟩
  | n + 1=>by
    rw [o7]
    rcases oZ rs a n with ⟨h1,h2⟩ | ⟨k,h1,h2,h3,h4⟩
    · rw [h1]
      cases hh:jI (rs.getD n aA.zero).to_ a with
      | true =>
        refine .inr ⟨n,by simp,by omega,hh,fun j hj hjh=>?_⟩
        by_cases e:j = n
        · subst e; exact Int.le_refl _
        · rw [h2 j (by omega)] at hjh; cases hjh
      | false =>
        refine .inl ⟨by simp,fun j hj=>?_⟩
        by_cases e:j = n
        · subst e; exact hh
        · exact h2 j (by omega)
    · rw [h1]
      have ek:((k:Int)).toNat = k:=by omega
      rw [ek]
      split
      · rename_i hc
        simp only [Bool.and_eq_true,Bool.or_eq_true,decide_eq_true_eq] at hc
        have hlt:(rs.getD k aA.zero).to_.bits < (rs.getD n aA.zero).to_.bits:=by
          rcases hc.2 with g | g
          · omega
          · exact g
        refine .inr ⟨n,rfl,by omega,hc.1,fun j hj hjh=>?_⟩
        by_cases e:j = n
        · subst e; exact Int.le_refl _
        · have:=h4 j (by omega) hjh
          omega
      · rename_i hc
        refine .inr ⟨k,rfl,by omega,h3,fun j hj hjh=>?_⟩
        by_cases e:j = n
        · subst e
          rcases Int.lt_or_le (rs.getD k aA.zero).to_.bits (rs.getD j aA.zero).to_.bits with g | g
          · exact absurd (by simp only [Bool.and_eq_true,Bool.or_eq_true,decide_eq_true_eq]; exact ⟨hjh,.inr g⟩) hc
          · exact g
        · exact h4 j (by omega) hjh
theorem ku {rs:List aU} (hn:(rs.map (·.to_)).Nodup) (y:aq × Int):Tri.hN rs y ↔ ∃ r ∈ rs,y = (r.to_,r.out):=by
  have key:∀ n,n ≤ rs.length→(Tri.hN (rs.take n) y ↔ ∃ r ∈ rs.take n,y = (r.to_,r.out)):=by
    intro n
    induction n with
    | zero=>exact fun _=>⟨fun h=>h.elim,fun ⟨r,hr,_⟩=>by simp at hr⟩
    | succ n ih =>
      intro h
      rw [List.take_succ_eq_append_getElem (by omega),Tri.mz,ih (by omega)]
      constructor
      · rintro (e | ⟨⟨r,hr,e⟩,_⟩)
        · exact ⟨rs[n],List.mem_append_right _ (List.mem_singleton_self _),e⟩
        · exact ⟨r,List.mem_append_left _ hr,e⟩
      · rintro ⟨r,hr,e⟩
        rcases List.mem_append.1 hr with hr | hr
        · refine .inr ⟨⟨r,hr,e⟩,fun e2=>?_⟩
          obtain ⟨j,hj,rfl⟩:=List.mem_iff_getElem.1 hr
          have hj2:j < n:=by simp at hj; omega
          rw [e] at e2
          exact List.pairwise_iff_getElem.1 hn j n (by simp; omega) (by simp; omega) hj2 (by simpa using e2)
        · rw [List.mem_singleton] at hr
          subst hr
          exact .inl e
  have:=key rs.length (Nat.le_refl _)
  rwa [List.take_length] at this
def lX (rs:List aU) (a:a7):Int × Bool:=if longK rs a < 0 then (0,false) else ((rs.getD (longK rs a).toNat aA.zero).out,true)
theorem find_long {t:Tt} (ho:t.OK) {rs:List aU} (hm:∀ y,y ∈ t.bL ↔ Tri.hN rs y) (hn:(rs.map (·.to_)).Nodup) (a:a7):(Tri.ij t a).2 = lX rs a:=by
  unfold lX longK
  rcases oZ rs a rs.length with ⟨h1,h2⟩ | ⟨k,h1,h2,h3,h4⟩
  · rw [h1,if_pos (by decide)]
    rcases Tri.find_spec ho a with ⟨x,hx,hh,_⟩ | ⟨e,_⟩
    · exfalso
      obtain ⟨r,hr,e⟩:=(ku hn x).1 ((hm x).1 hx)
      obtain ⟨j,hj,rfl⟩:=List.mem_iff_getElem.1 hr
      have:=h2 j hj
      have e2:rs.getD j aA.zero = rs[j]:=by simp [List.getD,hj]
      rw [e2] at this
      rw [e] at hh
      rw [this] at hh
      cases hh
    · rw [e]
  · have e0:((k:Int)).toNat = k:=by omega
    have e2:rs.getD k aA.zero = rs[k]:=by simp [List.getD,h2]
    rw [h1,if_neg (by omega),e0]
    have hx:((rs.getD k aA.zero).to_,(rs.getD k aA.zero).out) ∈ t.bL:=(hm _).2 ((ku hn _).2 ⟨rs.getD k aA.zero,by rw [e2]; exact List.getElem_mem _,rfl⟩)
    rw [Tri.find_of ho hx h3 (fun y hy hh=>by
      obtain ⟨r,hr,e⟩:=(ku hn y).1 ((hm y).1 hy)
      obtain ⟨j,hj,rfl⟩:=List.mem_iff_getElem.1 hr
      have e3:rs.getD j aA.zero = rs[j]:=by simp [List.getD,hj]
      have:=h4 j hj (by rw [e3]; rw [e] at hh; exact hh)
      rw [e3] at this
      rw [e]
      exact this)]
def j7 (r:OV) (a o:Int):OV:=if a = 3 then ifc 122 (I o) else if a = 1 then ifc 124 (gA.val ⟨r⟩) else ifc 125 (I a)
def decL (r:OV) (l:CL) (d:Int):List OV:=l.us.map (fun u=>j7 r u.action u.out) ++ [j7 r d 0]
def vdV (l:CL) (k:Nat):aF:=⟨0,0,(k:Int),nameI (·.name) l.ms (l.us.getD k aG.zero).fx,nameI (·.name) l.xs (l.us.getD k aG.zero).dZ⟩
def noV:aF:=⟨0,0,-1,-1,-1⟩
def dropV:aF:=⟨2,-1,-1,-1,-1⟩
def vdL (l:CL):List aF:=(List.range l.us.length).map (vdV l) ++ [noV]
def actO (rs:List aU) (a o:Int) (x:a7):Int × Int:=if a = 3 then (3,o) else if a = 1 then (if (lX rs x).2 = true then (3,(lX rs x).1) else (4,-1)) else (a,-1)
def metI (l:CL) (n:Int) (h:au):Int:=fV (fun m=>nT m n h) (mtL l) 0
def gI (l:CL) (n:Int) (h:au):Nat:=if metI l n h < 0 then l.us.length else (metI l n h).toNat
def nA (l:CL) (d:Int) (k:Nat):Int × Int:=if k < l.us.length then ((l.us.getD k aG.zero).action,(l.us.getD k aG.zero).out) else (d,0)
def decV (l:CL) (d n:Int) (h:au):aF:=if l.ps.any (fun x=>decide (n = x)) = true then { (vdL l).getD (gI l n h) aW.zero with action:=(actO l.rs (nA l d (gI l n h)).1 (nA l d (gI l n h)).2 h.dst).1,out:=(actO l.rs (nA l d (gI l n h)).1 (nA l d (gI l n h)).2 h.dst).2 } else dropV
structure Pl where
  b:Nat
  cb:CB
  pm:Nat
  tr:Tt
  rb:Nat
  dv:OV
  vv:OV
def ptrV (b:Nat):OV:=⟨.pointer (some ⟨b,0,none⟩),rfl⟩
def Pl.val (p:Pl) (d:Int):aE:=⟨p.cb.c d,ie p.pm,p.tr.ptr,ptrV p.rb,p.dv,p.vv⟩
def fS (l:CL):List (Int × Bool):=fG eqd (fun x=>x) (fun _=>true) l.ps l.ps.length
structure jZ (w:World) (p:Pl) (l:CL) (d:Int):Prop where
  pt:cE bV w p.b 0 (p.val d)
  cf:gw w (p.cb.c d) l
  pm:fR w p.pm iE bE (fS l)
  tr:p.tr.At w
  ru:lf w p.rb (mtL l)
  ds:bH (ovE eT) w p.dv.v (decL p.tr.ptr l d)
  vs:bH aW w p.vv.v (vdL l)
theorem jZ.cB {w w':World} {p:Pl} {l:CL} {d:Int} (h:jZ w p l d) (k:aX bO w w'):jZ w' p l d:=⟨h.pt.cB k,h.cf.aT k,h.pm.aT k,h.tr.cB k,h.ru.cB k,h.ds.aT k,h.vs.aT k⟩
structure nB (p:Pl) (l:CL) (d:Int):Prop where
  may:kE l d = true
  ok:p.tr.OK
  bL:∀ y,y ∈ p.tr.bL ↔ Tri.hN l.rs y
theorem nB.route {p:Pl} {l:CL} {d:Int} (h:nB p l d) (a:a7):(Tri.ij p.tr a).2 = lX l.rs a:=find_long h.ok h.bL (good_rs (kD h.may)) a
def CompileJ (l:CL) (d:Int) (x:Pl × List Res):Prop:=kE l d = true→nB x.1 l d ∧ ∀ w,(∀ r ∈ x.2,r.A w)→jZ w x.1 l d
def plO (l:CL) (d:Int) (b:Nat):Option Addr:=if kE l d = true then some ⟨b,0,none⟩ else none
def plE (l:CL) (d:Int):Int:=if kE l d = true then 0 else 210
theorem may_ofR {l:CL} {d:Int} (h:kE l d = true):Tri.ofR l.rs = 0:=by
  unfold Tri.ofR
  rw [if_pos]
  refine List.all_eq_true.2 fun r hr=>decide_eq_true ?_
  obtain ⟨i,hi,rfl⟩:=List.mem_iff_getElem.1 hr
  have h1:=(routeE_z.1 ((kD h).rs i hi)).1
  have e:l.rs.getD i aA.zero = l.rs[i]:=by simp [List.getD,hi]
  rwa [e] at h1
theorem oO (l:CL) (n:Int):(Gx.cM eqd n (fS l)).getD false = l.ps.any (fun x=>decide (n = x)):=by
  unfold fS
  rw [putN_mem dA _ _ _ _ (Nat.le_refl _),List.take_length]
  rfl
theorem pe (q:aB→Bool):∀ (ms:List aB) (k:Int),fV q ms k = -1 ∨ (k ≤ fV q ms k ∧ fV q ms k < k + ms.length)
  | [],k=>.inl rfl
  | m :: ms,k=>by
    unfold fV
    cases q m with
    | true=>exact .inr ⟨Int.le_refl _,by simp; omega⟩
    | false =>
      rcases pe q ms (k + 1) with g | ⟨g1,g2⟩
      · exact .inl g
      · refine .inr ⟨?_,?_⟩
        · show k ≤ fV q ms (k + 1)
          omega
        · show fV q ms (k + 1) < _
          simp only [List.length_cons]
          omega
theorem mtL_len (l:CL):(mtL l).length = l.us.length:=by simp [mtL]
theorem metI_rng (l:CL) (n:Int) (h:au):metI l n h = -1 ∨ (0 ≤ metI l n h ∧ metI l n h < l.us.length):=by
  have h1:=pe (fun m=>nT m n h) (mtL l) 0
  rw [mtL_len] at h1
  unfold metI
  omega
theorem ruleI_le (l:CL) (n:Int) (h:au):gI l n h ≤ l.us.length:=by
  have:=metI_rng l n h
  unfold gI
  split <;> omega
end Go.Proofs.YtjanhajdmhalaaaGreat
namespace Go.Proofs.YtjanhajdmhalaaaGreat
open Go Go.Gx Go.Proofs.YtjanhajdmhalaaaGreat.Tri
theorem ty62:bF Tryz.prog 62 (ovE bf):=bF.mk' zk zk
theorem pthere_ok (b:Nat) (x:aE) (m:Nat) (w:World) (hb:cE bV w b 0 x) (hm:x.gV = ie m):Gx.Calls Tryz.prog 17 #[.pointer (some ⟨b,0,none⟩)] w (cD w (.bool true)):=by
  refine en0 12 Tryz.func17 (fun _ _=>?_)
  refine sg (co (Ev.assign (.c (v:=.bool false) rfl)) ?_)
  refine nP (sg (mv rfl (co (Ev.neq_p Tryz.underlying31 (.t rfl) (.c rfl)) ?_)))
  refine mv rfl (cg rfl rfl (Ev.move (.t rfl)) ?_)
  refine cg rfl rfl (Ev.nilCheck (.g rfl id)) ?_
  refine cg rfl rfl (fA 6 (.g rfl id)) ?_
  refine cg rfl rfl (Ev.to (v':=.map (some m)) (Ev.load ty62 (.g rfl id) (cU (fun w I=>hb.cB I.keeps) aE.dc)) (congrArg OV.v hm)) ?_
  refine cg rfl rfl (Ev.neq_m Tryz.underlying62 (.g rfl id) (.c rfl)) ?_
  refine co (Ev.pkA (.t rfl) rfl) ?_
  refine asn rfl (nP (ret (done rfl (.tmp rfl .nil) (bc ?_))))
  first | rfl | (simp; done)
theorem z124:(Tryz.prog.info? 124).bind (·.zero) = some (gA.val gA.zero):=by kernel_rfl
theorem decider_ok (b:Nat) (x:aE) (a o:Int) (w:World) (hb:cE bV w b 0 x):Gx.Calls Tryz.prog 15 #[.pointer (some ⟨b,0,none⟩),I a,I o] w (cD w (j7 x.fa a o).v):=by
  refine en0 22 Tryz.func15 (fun _ _=>?_)
  refine sg (co (Ev.assign (.c (v:=Go.Value.nilIface) rfl)) ?_)
  refine nP (seq (sg (mv rfl (nP (block (sg (co (Ev.fD (.t rfl) (.c (v:=I 3) rfl)) ?_)))))))
  refine asn rfl (nP ?_)
  first | refine aL rfl (fun h0=>?_) (fun h0=>?_) | refine cond rfl (fun h0=>?_) (fun h0=>?_)
  · refine sg (mv rfl (co (Ev.makeIf Tryz.underlying122 rfl (.t rfl)) ?_))
    refine asn rfl (nP (ret (bR (pR (done rfl (.tmp rfl .nil) (bc ?_))))))
    have e:a = 3:=by simpa using h0
    unfold j7; rw [if_pos e]; rfl
  · refine sg (co (Ev.fD (.t rfl) (.c (v:=I 1) rfl)) ?_)
    refine asn rfl (nP ?_)
    first | refine aL rfl (fun h1=>?_) (fun h1=>?_) | refine cond rfl (fun h1=>?_) (fun h1=>?_)
    · refine sg (mv rfl (co (Ev.nilCheck (.t rfl)) ?_))
      refine co (fA 7 (.t rfl)) ?_
      refine co (Ev.load ty63 (.t rfl) (cU (fun w I=>hb.cB I.keeps) aE.cH)) ?_
      refine co (Ev.aQ (fs:=_) (places:=[(0,1)]) z124 rfl Tryz.underlying124 zk (.cons (.t rfl) .nil) (aj.cons cG.cH rfl aj.nil)) ?_
      refine co (Ev.makeIf Tryz.underlying124 rfl (.t rfl)) ?_
      refine asn rfl (nP (ret (bR (pR (done rfl (.tmp rfl .nil) (bc ?_))))))
      have e:¬ a = 3:=by simpa using h0
      have e2:a = 1:=by simpa using h1
      unfold j7; rw [if_neg e,if_pos e2]; rfl
    · refine skip (bN (pN (sg (mv rfl (co (Ev.makeIf Tryz.underlying125 rfl (.t rfl)) ?_)))))
      refine asn rfl (nP (ret (done rfl (.tmp rfl .nil) (bc ?_))))
      have e:¬ a = 3:=by simpa using h0
      have e2:¬ a = 1:=by simpa using h1
      unfold j7; rw [if_neg e,if_neg e2]; rfl
theorem jC (b:Nat) (m:List (ByteArray × Int)) (s:ByteArray) (z:Int) (w:World) (hm:fR w b sE iE m) (hz:numB m s = z):Gx.Calls Tryz.prog 14 #[.map (some b),.string s] w (cD w (I z)):=by
  refine en0 15 Tryz.func14 (fun _ _=>?_)
  refine sg (co (Ev.assign (.c (v:=I 0) rfl)) ?_)
  refine nP (seq (sg (mv rfl (mv rfl (co (Ev.iF Tryz.underlying70 Tryz.underlying9 mL z3 (.t rfl) (.t rfl) (fun _=>(fun w I=>hm.aT I.keeps))) ?_)))))
  refine mv rfl (co (Ev.extract (.t rfl) rfl) (co (Ev.extract (.t rfl) rfl) (asn rfl (asn rfl (nP (sg (mv rfl (nP ?_))))))))
  first | refine aL rfl (fun h0=>?_) (fun h0=>?_) | refine cond rfl (fun h0=>?_) (fun h0=>?_)
  · refine sg (mv rfl (asn rfl (nP (ret (pR (done rfl (.tmp rfl .nil) (bc ?_)))))))
    rw [← hz]
    unfold numB
    cases hf:Gx.cM eqs s m with
    | none=>rw [hf] at h0; cases h0
    | some i=>rfl
  · refine skip (pN (sg (co (Ev.assign (.c (v:=I (-1)) rfl)) ?_)))
    refine nP (ret (done rfl (.tmp rfl .nil) (bc ?_)))
    rw [← hz]
    unfold numB
    cases hf:Gx.cM eqs s m with
    | none=>rfl
    | some i=>rw [hf] at h0; cases h0
theorem dout_ok (o:Int) (u:Value) (w:World):Gx.Calls Tryz.prog 129 #[I o,u] w (cD w (.tuple #[I 3,I o])):=by
  refine en0 7 Tryz.func129 (fun _ _=>?_)
  refine sg (co (Ev.assign (.c (v:=I 0) rfl)) ?_)
  refine co (Ev.assign (.c (v:=I 0) rfl)) ?_
  refine nP (sg (mv rfl (co (Ev.assign (.c (v:=I 3) rfl)) ?_)))
  refine asn rfl (nP (ret (done rfl (.tmp rfl (.tmp rfl .nil)) (bc ?_))))
  rfl
theorem dnot_ok (o:Int) (u:Value) (w:World):Gx.Calls Tryz.prog 135 #[I o,u] w (cD w (.tuple #[I o,I (-1)])):=by
  refine en0 7 Tryz.func135 (fun _ _=>?_)
  refine sg (co (Ev.assign (.c (v:=I 0) rfl)) ?_)
  refine co (Ev.assign (.c (v:=I 0) rfl)) ?_
  refine nP (sg (mv rfl (asn rfl (co (Ev.assign (.c (v:=I (-1)) rfl)) ?_))))
  refine nP (ret (done rfl (.tmp rfl (.tmp rfl .nil)) (bc ?_)))
  rfl
theorem tfind_to (t:Tt) (a:a7) (w:World) (z:aq × Int × Bool) (hz:Tri.ij t a = z) (ht:t.At w) (ho:t.OK):Gx.Calls Tryz.prog 131 #[t.ptr.v,bP.val a] w (cD w (.tuple #[aH.val z.1,I z.2.1,.bool z.2.2])):=by
  subst hz
  exact Tri.find_ok t a w ht ho
theorem en131:Gx.aC Tryz.prog 131:=Gx.aC.mk' zk
theorem drouted_ok (t:Tt) (hb:Nat) (h:au) (z:aq × Int × Bool) (w:World) (hz:Tri.ij t h.dst = z) (hh:cE bS w hb 0 h) (ht:t.At w) (ho:t.OK):Gx.Calls Tryz.prog 130 #[gA.val ⟨t.ptr⟩,.pointer (some ⟨hb,0,none⟩)] w (cD w (.tuple #[I (if z.2.2 = true then 3 else 4),I (if z.2.2 = true then z.2.1 else -1)])):=by
  refine en0 22 Tryz.func130 (fun _ _=>?_)
  refine sg (cons (box (E:=gA) (.t rfl) (fun b1=>?_)))
  refine co (Ev.assign (.c (v:=I 0) rfl)) ?_
  refine co (Ev.assign (.c (v:=I 0) rfl)) ?_
  refine nP (seq (seq (df zk ?_)))
  refine tk 0 rfl (fA 0 (.t rfl)) ?_
  refine tk 1 rfl (Ev.ldv ty63 (.t rfl) cG.cH) ?_
  refine tk 2 rfl (Ev.move (.t rfl)) ?_
  refine tk 3 rfl (Ev.nilCheck (.t rfl)) ?_
  refine tk 4 rfl (fA 17 (.t rfl)) ?_
  refine tk 5 rfl (Ev.load fF (.t rfl) (cU (fun w I=>hh.cB I.keeps) au.iA)) ?_
  refine all [6,11] zk (by decide) (.cons rfl ?_ (.cons rfl ?_ .nil))
  · refine (aZ en131 (.cons (.t rfl) (.cons (.t rfl) .nil)) (fun w I=>tfind_to t h.dst w z hz (ht.cB I.keeps) ho) ?_)
    refine hdn (tk 7 rfl (Ev.move (.t rfl)) ?_)
    refine tk 8 rfl (Ev.extract (.t rfl) rfl) ?_
    refine tk 9 rfl (Ev.extract (.t rfl) rfl) ?_
    refine tk 10 rfl (Ev.extract (.t rfl) rfl) ?_
    refine al1 11 rfl ((alloc z84 (fun b2=>?_)))
    refine hdn (al1 12 rfl ((stv cW (ak.id _) (.t rfl) (.t rfl) ?_)))
    refine hdn (tk 13 rfl (Ev.assign (.t rfl)) ?_)
    refine tk 14 rfl (Ev.assign (.t rfl)) ?_
    refine ovr (pN (sg (mv rfl (nP ?_))))
    first | refine aL rfl (fun h0=>?_) (fun h0=>?_) | refine cond rfl (fun h0=>?_) (fun h0=>?_)
    · refine sg (mv rfl (co (Ev.assign (.c (v:=I 3) rfl)) ?_))
      refine asn rfl (nP (ret (pR (done rfl (.tmp rfl (.tmp rfl .nil)) (bc ?_)))))
      rw [if_pos h0,if_pos h0]; rfl
    · refine skip (pN (sg (co (Ev.assign (.c (v:=I 4) rfl)) ?_)))
      refine co (Ev.assign (.c (v:=I (-1)) rfl)) ?_
      refine nP (ret (done rfl (.tmp rfl (.tmp rfl .nil)) (bc ?_)))
      have e:¬ z.2.2 = true:=by rw [h0]; exact Bool.false_ne_true
      rw [if_neg e,if_neg e]; rfl
  · refine (alloc z84 (fun b3=>?_))
    refine hdn (al1 6 rfl ((aZ en131 (.cons (.t rfl) (.cons (.t rfl) .nil)) (fun w I=>tfind_to t h.dst w z hz (ht.cB I.keeps) ho) ?_)))
    refine hdn (tk 7 rfl (Ev.move (.t rfl)) ?_)
    refine tk 8 rfl (Ev.extract (.t rfl) rfl) ?_
    refine tk 9 rfl (Ev.extract (.t rfl) rfl) ?_
    refine tk 10 rfl (Ev.extract (.t rfl) rfl) ?_
    refine al1 12 rfl ((stv cW (ak.id _) (.t rfl) (.t rfl) ?_))
    refine hdn (tk 13 rfl (Ev.assign (.t rfl)) ?_)
    refine tk 14 rfl (Ev.assign (.t rfl)) ?_
    refine ovr (pN (sg (mv rfl (nP ?_))))
    first | refine aL rfl (fun h0=>?_) (fun h0=>?_) | refine cond rfl (fun h0=>?_) (fun h0=>?_)
    · refine sg (mv rfl (co (Ev.assign (.c (v:=I 3) rfl)) ?_))
      refine asn rfl (nP (ret (pR (done rfl (.tmp rfl (.tmp rfl .nil)) (bc ?_)))))
      rw [if_pos h0,if_pos h0]; rfl
    · refine skip (pN (sg (co (Ev.assign (.c (v:=I 4) rfl)) ?_)))
      refine co (Ev.assign (.c (v:=I (-1)) rfl)) ?_
      refine nP (ret (done rfl (.tmp rfl (.tmp rfl .nil)) (bc ?_)))
      have e:¬ z.2.2 = true:=by rw [h0]; exact Bool.false_ne_true
      rw [if_neg e,if_neg e]; rfl
theorem decide_if (t:Tt) (l:CL) (a o:Int) (hb:Nat) (h:au) (w:World) (hh:cE bS w hb 0 h) (ht:t.At w) (ho:t.OK) (hr:(Tri.ij t h.dst).2 = lX l.rs h.dst):IfAt Tryz.prog (j7 t.ptr a o) "patchbay/plan.decide" [.pointer (some ⟨hb,0,none⟩)] w (.tuple #[I (actO l.rs a o h.dst).1,I (actO l.rs a o h.dst).2]):=by
  unfold j7 actO
  split
  · exact ⟨_,_,_,129,rfl,mi.val zk Tryz.underlying122 rfl (by decide +kernel),Gx.aC.mk' zk,dout_ok o _ w⟩
  · split
    · have hc:=drouted_ok t hb h _ w rfl hh ht ho
      rw [hr] at hc
      refine ⟨_,_,_,130,rfl,mi.val zk Tryz.underlying124 rfl (by decide +kernel),Gx.aC.mk' zk,?_⟩
      cases hb2:(lX l.rs h.dst).2 with
      | true=>rw [hb2] at hc; exact hc
      | false=>rw [hb2] at hc; exact hc
    · exact ⟨_,_,_,135,rfl,mi.val zk Tryz.underlying125 rfl (by decide +kernel),Gx.aC.mk' zk,dnot_ok a _ w⟩
end Go.Proofs.YtjanhajdmhalaaaGreat
