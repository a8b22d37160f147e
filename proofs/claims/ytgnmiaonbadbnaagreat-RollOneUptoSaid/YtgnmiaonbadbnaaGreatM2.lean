/- Part. -/
import Derived.Test.YtgnmiaonbadbnaaGreatRows
import Derived.Test.YtgnmiaonbadbnaaGreatH3
set_option linter.unusedVariables false
set_option linter.defProp false
set_option linter.unusedSimpArgs false
set_option linter.unusedSectionVars false
set_option maxRecDepth 100000
set_option maxHeartbeats 2000000
namespace Go.Gx
abbrev aR:=@Gx.Calls Go.Proofs.Tryz.prog
end Go.Gx
namespace Go.Gx
section
structure Wq (q:Prop):Prop where
 z:q
variable {p q:Prop} (ζ:q)
include ζ
def m0 (h:q->p:=by intro ζ;exact vK rfl (nP ζ)):p:=h ζ
theorem m1 (h:q->p:=by intro ζ;refine sg ?_;exact mv rfl ζ):p:=h ζ
theorem m2 (h:Wq q->p:=by intro ζ;refine bN (pN (region ?_));refine m160 ?_;exact ζ.1):p:=h ⟨ζ⟩
def m3 (h:q->p:=by intro ζ;refine ac (I 0) ?_;exact nP ζ):p:=h ζ
def m4 (h:q->p:=by intro ζ;exact mv rfl (cx rfl rfl (cx rfl rfl ζ))):p:=h ζ
def m5 (h:q->p:=by intro ζ;refine mv rfl ?_;refine m104 ?_;exact ζ):p:=h ζ
def m6 (h:q->p:=by intro ζ;refine m0 ?_;refine m1 ?_;exact ζ):p:=h ζ
def m7 (h:q->p:=by intro ζ;refine tm 10 rfl rfl ?_;refine jl 11 rfl rfl rfl (Ev.Hu (v:=.bool false) rfl) ?_;refine jl 12 rfl rfl rfl (Ev.Hu (v:=.bool false) rfl) ?_;refine jl 13 rfl rfl rfl (Ev.Hu (v:=.bool false) rfl) ?_;refine tk 14 rfl (Ev.to (v':=.bool false) (Ev.D2 aa rfl) (rfl)) ?_;refine tm 15 rfl rfl ?_;refine jl 16 rfl rfl rfl (Ev.Hu (v:=.bool false) rfl) ?_;refine jl 17 rfl rfl rfl (Ev.Hu (v:=.bool false) rfl) ?_;refine jl 18 rfl rfl rfl (Ev.Hu (v:=.bool false) rfl) ?_;refine jl 19 rfl rfl rfl (Ev.Hu (v:=.bool false) rfl) ?_;refine jl 20 rfl rfl rfl (Ev.Hu (v:=.bool false) rfl) ?_;refine jl 21 rfl rfl rfl (Ev.Hu (v:=.bool false) rfl) ?_;refine jl 22 rfl rfl rfl (Ev.Hu (v:=.bool false) rfl) ?_;refine jl 23 rfl rfl rfl (Ev.Hu (v:=.bool false) rfl) ?_;refine tk 24 rfl (Ev.to (v':=.bool false) (Ev.D2 aa rfl) (rfl)) ?_;refine m142 ?_;refine nS rfl (rfl) ?_;refine m102 ?_;exact ζ):p:=h ζ
def m8 (h:q->p:=by intro ζ;exact skip (pN ζ)):p:=h ζ
def m9 (h:q->p:=by intro ζ;refine sg ?_;refine m300 ?_;refine m143 ?_;exact ζ):p:=h ζ
def m10 (h:q->p:=by intro ζ;refine m284 ?_;exact bR (pR (dn rfl rfl ζ))):p:=h ζ
def m11 (h:q->p:=by intro ζ;refine m202 ?_;refine m292 ?_;exact tn 2 rfl rfl ζ):p:=h ζ
def m12 (h:q->p:=by intro ζ;refine sg ?_;refine m98 ?_;exact ζ):p:=h ζ
def m13 (h:q->p:=by intro ζ;refine m102 ?_;exact pN ζ):p:=h ζ
theorem m14 (h:Wq q->p:=by intro ζ;refine draw ([]:List du) zk ?_;refine tk 0 rfl (Ev.to (v':=.pointer (some _)) (Ev.move aa) (rfl)) ?_;refine tk 1 rfl (Ev.to (v':=.bool true) (Ev.E1 YF aa (.c rfl)) (rfl)) ?_;refine m222 ?_;refine jl 3 rfl rfl rfl (Ev.to (v':=.pointer (some _)) (Ev.move aa) (rfl)) ?_;refine jl 4 rfl rfl rfl (Ev.nilCheck (.g rfl id)) ?_;refine jl 5 rfl rfl rfl (fA 0 (.g rfl id)) ?_;refine jl 6 rfl rfl rfl (Ev.load kr (.g rfl id) (jJ (λw I=>(hc w I.keeps).1) aW.NG)) ?_;refine jl 7 rfl rfl rfl (Ev.load kr aa (jJ (λw I=>(hf w I.keeps).2.2) (aB.id _))) ?_;refine fB 8 rfl (sT rfl rfl eN (.cons (.g rfl id) (.cons (.g rfl id) .nil)) (λhg w I=>L9 _ _ w) ?_);refine m180 ?_;exact tk 9 rfl (Ev.to (Ev.D2 (.t rfl) rfl) (aL Value.bool Ts)) ζ.1):p:=h ⟨ζ⟩
def m15 (h:q->p:=by intro ζ;exact sg (cons ζ)):p:=h ζ
def m16 (h:q->p:=by intro ζ;refine seq ?_;refine m1 ?_;exact ζ):p:=h ζ
def m17 (h:q->p:=by intro ζ;refine m74 ?_;refine m81 ?_;exact ζ):p:=h ζ
def m18 (h:q->p:=by intro ζ;refine co (Ev.to (v':=.bool true) (Ev.D2 aa rfl) (rfl)) ?_;refine co (Ev.to (v':=.bool true) (Ev.move aa) (rfl)) ?_;refine m104 ?_;refine m104 ?_;exact ζ):p:=h ζ
def m19 (h:q->p:=by intro ζ;exact region (mv rfl ζ)):p:=h ζ
def m20 (h:q->p:=by intro ζ;refine m48 ?_;exact dn rfl rfl ζ):p:=h ζ
def m21 (h:q->p:=by intro ζ;refine m196 ?_;exact block ζ):p:=h ζ
def m22 (h:q->p:=by intro ζ;refine m243 ?_;refine m28 ?_;refine m5 ?_;exact ζ):p:=h ζ
def m23 (h:q->p:=by intro ζ;refine m210 ?_;refine m71 ?_;refine m123 ?_;exact ζ):p:=h ζ
def m24 (h:q->p:=by intro ζ;exact sg (co (Ev.fe (places:=[(0,17),(17,17),(34,1),(35,1),(36,1),(37,1),(38,1),(39,1),(40,1),(41,1),(42,1)]) QB rfl Y60 zk .nil bB.nil) ζ)):p:=h ζ
def m25 (h:q->p:=by intro ζ;exact co (Ev.pkO aa rfl) ζ):p:=h ζ
def m26 (h:q->p:=by intro ζ;exact co (Ev.move (.c rfl)) ζ):p:=h ζ
def m27 (h:q->p:=by intro ζ;exact mv rfl (cons ζ)):p:=h ζ
def m28 (h:q->p:=by intro ζ;exact co (Ev.D2 aa rfl) ζ):p:=h ζ
def m29 (h:q->p:=by intro ζ;refine m143 ?_;refine vE 2 rfl zr zk ?_;refine tk 0 rfl (fA 0 aa) ?_;refine tk 1 rfl (Ev.gR c.rB Rb aa cy.jz) ?_;refine tk 3 rfl (fA 1 aa) ?_;refine tk 4 rfl (Ev.gR c.lW aay aa cy.iy) ?_;refine tk 6 rfl (fA 2 aa) ?_;refine tk 7 rfl (Ev.gR c.rules aax aa cy.kX) ?_;refine tk 9 rfl (fA 3 aa) ?_;refine tk 10 rfl (Ev.gR c.tW aaw aa cy.mg) ?_;refine tk 12 rfl (fA 4 aa) ?_;exact tk 13 rfl (Ev.gR c.qE aav aa cy.kL) ζ):p:=h ζ
def m30 (h:Wq q->p:=by intro ζ;refine cons (dg eN (.cons aa (.cons (.c rfl) .nil)) (λw I=>vT _ _ _ w (zj w I)) ?_);refine m4 ?_;exact ζ.1):p:=h ⟨ζ⟩
def m31 (h:q->p:=by intro ζ;refine co (Ev.AY aa (.c rfl)) ?_;exact nP ζ):p:=h ζ
def m32 (h:Wq q->p:=by intro ζ;refine m1 ?_;refine co (Ev.slice pg jQ aa (.c rfl) (.c rfl) zf (λ_=>zo)) ?_;refine co (Ev.Rj Oi aa (λw I=>bU.sub (zj w I) (by omega) (by omega)) (λ_=>⟨by decide,by grind⟩)) ?_;refine co (Ev.GB Km aa (λw I=>bU.sub (zj w I) (by omega) (by omega)) (λ_=>⟨by decide,by grind⟩)) ?_;exact co (Ev.fe (places:=[(0,1),(1,16)]) z55 rfl Y55 zk (.cons (.c rfl) (.cons aa .nil)) (bB.cons bJ.wv rfl (bB.cons bJ.D9 rfl bB.nil))) ζ.1):p:=h ⟨ζ⟩
def m33 (h:q->p:=by intro ζ;refine cf 34 rfl ?_;exact co (Ev.gR h.bz jQ aa ae.iF) ζ):p:=h ζ
def m34 (h:Wq q->p:=by intro ζ;refine m19 ?_;refine m160 ?_;exact ζ.1):p:=h ⟨ζ⟩
def m35 (h:q->p:=by intro ζ;exact sg (cf 0 rfl ζ)):p:=h ζ
def m36 (h:q->p:=by intro ζ;refine m298 ?_;refine tk 4 rfl (fA 0 aa) ?_;refine tk 5 rfl (Ev.load mR aa (jJ (λw I=>(sf.1).keep I.keeps) (aB.comp aW.NG aw.lh))) ?_;refine tk 6 rfl (fA 17 aa) ?_;refine tk 7 rfl (Ev.gS l9 aa aw.lZ) ?_;refine tk 9 rfl (Ev.to (v':=(PT.node b q u h l r).ptr.v) (Ev.move aa) (rfl)) ?_;refine tn 10 rfl rfl ?_;refine tk 11 rfl (fA 20 aa) ?_;exact fB 8 rfl ζ):p:=h ζ
def m37 (h:q->p:=by intro ζ;exact done rfl (.cellP rfl rm (ed zm (aB.id _)) (.tmp rfl (.tmp rfl .nil))) (Cq ζ)):p:=h ζ
def m38 (h:q->p:=by intro ζ;exact .ctl hT rfl (λw=>An w) ζ):p:=h ζ
def m39 (h:q->p:=by intro ζ;exact .ctl hT rfl (λw=>qF w) ζ):p:=h ζ
theorem m40 (h:q->p:=by intro ζ;refine co (Ev.to (v':=G.dv.v) (Ev.load aes aa (jJ (λw I=>(H w I.keeps).g1) (aB.id _))) (rfl)) ?_;exact co (Ev.to (v':=I i) (Ev.load l9 aa (jJ (λw I=>(H w I.keeps).g2) (aB.id _))) (rfl)) ζ):p:=h ζ
def m41 (h:q->p:=by intro ζ;refine vK rfl ?_;refine m0 ?_;exact ζ):p:=h ζ
def m42 (h:q->p:=by intro ζ;refine sg (co (Ev.gR m sj aa (aB.id _)) ?_);exact cons ζ):p:=h ζ
def m43 (h:q->p:=by intro ζ;exact co (Ev.xS aa (.c rfl)) ζ):p:=h ζ
def m44 (h:Wq q->p:=by intro ζ;refine m6 ?_;refine m27 ?_;refine agM pg jQ aa aa (by repeat exact mS.head) (λw I=>hb.cO I.keeps) ?_;refine m245 ?_;refine co (Ev.uh aa (.c rfl) (λ_=>zo)) ?_;refine m0 ?_;exact block ζ.1):p:=h ⟨ζ⟩
def m45 (h:q->p:=by intro ζ;refine mv rfl (co (Ev.fe (places:=[(0,1),(1,1),(2,1)]) aeg rfl ag2 zk (.cons (.c rfl) (.cons aa .nil)) (bB.cons mU.rF rfl (bB.cons mU.wz rfl bB.nil))) ?_);exact cons ζ):p:=h ζ
theorem m46 (h:Wq q->p:=by intro ζ;refine m174 ?_;refine m77 ?_;refine m5 ?_;refine m104 ?_;refine cg rfl rfl (Ev.len pg (.g rfl id) zf) ?_;refine m104 ?_;refine cg rfl rfl (Ev.uh (.g rfl id) (.g rfl id) (λ_=>by omega)) ?_;refine m281 ?_;exact ζ.1):p:=h ⟨ζ⟩
def m47 (h:q->p:=by intro ζ;refine o9 zk ?_;refine m202 ?_;exact ζ):p:=h ζ
def m48 (h:q->p:=by intro ζ;refine m0 ?_;exact ret ζ):p:=h ζ
def m49 (h:q->p:=by intro ζ;refine m35 ?_;refine cf 0 rfl ?_;exact co (Ev.gR h.src.v6 x6 aa (aB.comp ae.mM bJ.wv)) ζ):p:=h ζ
def m50 (h:q->p:=by intro ζ;exact co (Ev.fe (places:=[(0,17),(17,1)]) Bh rfl My zk .nil bB.nil) ζ):p:=h ζ
def m51 (h:q->p:=by intro ζ;refine m180 ?_;refine m142 ?_;exact ζ):p:=h ζ
def m52 (h:q->p:=by intro ζ;refine vK rfl ?_;refine m3 ?_;exact ret ζ):p:=h ζ
def m53 (h:Wq q->p:=by intro ζ;refine m153 ?_;refine m201 ?_;refine m16 ?_;refine mv rfl (mv rfl (mv rfl (co (Ev.lx aa aa (λ_=>zo)) ?_)));refine co (Ev.slice pg jQ aa aa aa zf (λ_=>zo)) ?_;refine co (Ev.len pg aa (λw I=>bU.sub (zj w I) (by omega) (by omega))) ?_;refine m83 ?_;exact ζ.1):p:=h ⟨ζ⟩
def m54 (h:Wq q->p:=by intro ζ;refine dg eN (o2 rfl rfl) (λw I=>yW _ _ w (by omega)) ?_;refine m180 ?_;refine tk 9 rfl (Ev.lx aa aa (λ_=>zo)) ?_;exact tk 23 rfl (Ev.fe (places:=[(0,1),(1,1),(2,1)]) MG rfl Y43 zk (.cons aa (.cons aa (.cons aa .nil))) (bB.cons bj.oI rfl (bB.cons bj.sF rfl (bB.cons bj.wA rfl bB.nil)))) ζ.1):p:=h ⟨ζ⟩
def m55 (h:q->p:=by intro ζ;exact done rfl (.tmp rfl (.tmp rfl .nil)) (Cq ζ)):p:=h ζ
def m56 (h:q->p:=by intro ζ;refine Az aa eN (o2 rfl rfl) (λw I=>EY b5 _ _ _ w (ml zm w I) (Il hgx _)) ?_;refine m180 ?_;exact tk 16 rfl (Ev.fe (places:=[(0,1),(1,1),(2,1),(3,1),(4,1)]) vH rfl YG zk (.cons aa (.cons aa (.cons aa .nil))) (bB.cons bA.GG rfl (bB.cons bA.rO rfl (bB.cons bA.pJ rfl bB.nil)))) ζ):p:=h ζ
def m57 (h:q->p:=by intro ζ;refine co (Ev.not aa) ?_;exact nP ζ):p:=h ζ
def m58 (h:q->p:=by intro ζ;refine m1 ?_;refine m248 ?_;exact ζ):p:=h ζ
def m59 (h:q->p:=by intro ζ;exact cons (j8 p8 (aB.id _) aa aa ζ)):p:=h ζ
def m60 (h:q->p:=by intro ζ;refine vK rfl ?_;refine m6 ?_;exact ζ):p:=h ζ
def m61 (h:Wq q->p:=by intro ζ;refine dg eN (o3 rfl rfl rfl) (λw I=>Fw x0.p l1 d1 _ _ _ _ _ w (hN w I.keeps).p ZL (io w I) (by omega) hvo hde) ?_;refine m180 ?_;refine tm 8 rfl rfl ?_;refine tk 9 rfl (Ev.extract aa rfl) ?_;exact tk 10 rfl (Ev.to (Ev.extract aa rfl) (aL Gx.I (hde.symm ▸ rfl:(0:Int) = 0))) ζ.1):p:=h ⟨ζ⟩
def m62 (h:q->p:=by intro ζ;refine m284 ?_;exact pR ζ):p:=h ζ
theorem m63 (h:q->p:=by intro ζ;refine cg rfl rfl (Ev.A1 (.g rfl id) (.c rfl)) ?_;refine m25 ?_;exact ζ):p:=h ζ
theorem m64 (h:q->p:=by intro ζ;exact cg rfl rfl (fA 0 (.g rfl id)) ζ):p:=h ζ
def m65 (h:Wq q->p:=by intro ζ;refine m221 ?_;refine tk 6 rfl (Ev.indexAddr pg jQ aa (.c rfl) zf (λ_=>zo)) ?_;refine tk 7 rfl (Ev.eT jQ aa zf (λ_=>zo)) ?_;refine tm 8 rfl rfl ?_;refine tk 9 rfl (Ev.indexAddr pg jQ aa (.c rfl) zf (λ_=>zo)) ?_;exact tk 10 rfl (Ev.eT jQ aa zf (λ_=>zo)) ζ.1):p:=h ⟨ζ⟩
def m66 (h:Wq q->p:=by intro ζ;exact co (Ev.M3 aa (.c rfl) (λ_=>by decide)) ζ.1):p:=h ⟨ζ⟩
def m67 (h:q->p:=by intro ζ;refine m167 ?_;refine mv rfl (co (Ev.fe (places:=[(0,18),(18,1),(19,1),(20,2)]) QU rfl YE zk (.cons aa (.cons aa (.cons (.c rfl) .nil))) (bB.cons aW.NG rfl (bB.cons aW.Vr rfl (bB.cons aW.C1 rfl bB.nil)))) ?_);exact cons ζ):p:=h ζ
def m68 (h:Wq q->p:=by intro ζ;refine m6 ?_;refine m103 ?_;refine m288 ?_;refine mv rfl (co (Ev.lx aa aa (λ_=>zo)) ?_);exact cons ζ.1):p:=h ⟨ζ⟩
def m69 (h:q->p:=by intro ζ;refine co (Ev.fe (places:=[(0,1),(1,1)]) air rfl ag1 zk .nil bB.nil) ?_;refine co (Ev.SC rfl X9 rfl zk aa aa) ?_;exact nP ζ):p:=h ζ
def m70 (h:q->p:=by intro ζ;exact BF (Ev.to (v':=dv.v) (Ev.gS MN aa aQ.qp) (rfl)) ζ):p:=h ζ
def m71 (h:q->p:=by intro ζ;refine sg ?_;refine m3 ?_;exact ζ):p:=h ζ
theorem m72 (h:q->p:=by intro ζ;exact cg rfl rfl (Ev.AY (.g rfl id) (.c rfl)) ζ):p:=h ζ
def m73 (h:q->p:=by intro ζ;refine m8 ?_;refine m1 ?_;exact ζ):p:=h ζ
def m74 (h:q->p:=by intro ζ;exact sg (co (Ev.gS rm aa (aB.id _)) ζ)):p:=h ζ
def m75 (h:q->p:=by intro ζ;exact done rfl (.tmp rfl .nil) (aeY zm ζ)):p:=h ζ
def m76 (h:q->p:=by intro ζ;exact vK rfl (nil (bN (pN ζ)))):p:=h ζ
def m77 (h:q->p:=by intro ζ;exact co (Ev.rE aa (.c rfl)) ζ):p:=h ζ
theorem m78 (h:q->p:=by intro ζ;refine mv rfl (cg rfl rfl (fA 0 aa) ?_);refine cg rfl rfl (Ev.gS l9 (.g rfl id) bA.ku) ?_;refine m22 ?_;refine m22 ?_;exact ζ):p:=h ζ
def m79 (h:q->p:=by intro ζ;refine dg eN (o2 rfl rfl) (λw I=>Rm t h.dst w z hz (ht.keep I.keeps) ho) ?_;refine m180 ?_;refine tm 7 rfl rfl ?_;refine tk 8 rfl (Ev.extract aa rfl) ?_;refine m302 ?_;exact ζ):p:=h ζ
def m80 (h:Wq q->p:=by intro ζ;refine m191 ?_;refine m263 ?_;refine m6 ?_;exact ζ.1):p:=h ⟨ζ⟩
def m81 (h:q->p:=by intro ζ;refine cons ?_;refine m225 ?_;exact ζ):p:=h ζ
def m82 (h:Wq q->p:=by intro ζ;refine dg eN (o3 rfl rfl rfl) (λw I=>Fw x0.q l2 d2 _ _ _ _ _ w (hN w I.keeps).q IH (io w I) (by omega) hvn hde) ?_;refine m180 ?_;refine tm 8 rfl rfl ?_;refine m302 ?_;exact ζ.1):p:=h ⟨ζ⟩
def m83 (h:q->p:=by intro ζ;refine m26 ?_;exact nP (block ζ)):p:=h ζ
def m84 (h:q->p:=by intro ζ;refine m222 ?_;exact tn 3 rfl rfl ζ):p:=h ζ
def m85 (h:q->p:=by intro ζ;refine m13 ?_;refine m1 ?_;exact ζ):p:=h ζ
def m86 (h:q->p:=by intro ζ;refine m8 ?_;exact mt (_) ζ):p:=h ζ
def m87 (h:Wq q->p:=by intro ζ;refine m180 ?_;refine tk 12 rfl (Ev.lj Mw pA aa aa (λ_=>zo)) ?_;exact fB 13 rfl ζ.1):p:=h ⟨ζ⟩
theorem m88 (h:q->p:=by intro ζ;refine m300 ?_;refine m5 ?_;refine cg rfl rfl (Ev.rE (.g rfl id) (.c rfl)) ?_;refine m28 ?_;exact nP ζ):p:=h ζ
def m89 (h:q->p:=by intro ζ;refine m179 ?_;refine m284 ?_;exact done rfl (.cellP rfl MP (ed zm (aB.id _)) .nil) (Cq ζ)):p:=h ζ
def m90 (h:q->p:=by intro ζ;refine cf 34 rfl ?_;exact co (Ev.gS jQ aa ae.iF) ζ):p:=h ζ
def m91 (h:q->p:=by intro ζ;exact .ctl hT rfl (λw=>mC w) ζ):p:=h ζ
def m92 (h:q->p:=by intro ζ;refine cons ?_;refine m267 ?_;exact ζ):p:=h ζ
def m93 (h:q->p:=by intro ζ;refine seq ?_;refine m154 ?_;refine tk 2 rfl (fA 0 aa) ?_;refine tk 3 rfl (Ev.load kr aa (jJ (λw I=>(sf.1).keep I.keeps) aW.NG)) ?_;exact tk 4 rfl (Ev.gS kr aa (aB.id _)) ζ):p:=h ζ
def m94 (h:q->p:=by intro ζ;refine sg (ac (I 2) ?_);refine m10 ?_;exact ζ):p:=h ζ
def m95 (h:q->p:=by intro ζ;refine BF (Ev.gS yN aa cA.S2) ?_;refine m180 ?_;exact ζ):p:=h ζ
def m96 (h:q->p:=by intro ζ;refine m226 ?_;refine m180 ?_;exact tk 9 rfl (Ev.fe (places:=[(0,1),(1,1)]) ud rfl US zk (.cons (.c rfl) (.cons aa .nil)) (bB.cons gE.Am rfl (bB.cons gE.sI rfl bB.nil))) ζ):p:=h ζ
def m97 (h:q->p:=by intro ζ;refine m4 ?_;exact cx rfl rfl ζ):p:=h ζ
def m98 (h:q->p:=by intro ζ;refine ac _ ?_;exact nP ζ):p:=h ζ
def m99 (h:q->p:=by intro ζ;refine m149 ?_;refine cons (dg eN (o1 rfl) (λw I=>EL b nb w ((W.Z0 s w (I.own _ (show S s ∈ _ from zm)).1).2.1)) ?_);refine m278 ?_;refine m73 ?_;exact cons ζ):p:=h ζ
theorem m100 (h:q->p:=by intro ζ;exact cg rfl rfl (Ev.nilCheck (.g rfl id)) ζ):p:=h ζ
def m101 (h:q->p:=by intro ζ;refine m180 ?_;refine tm 9 rfl rfl ?_;refine tk 10 rfl (Ev.extract aa rfl) ?_;refine tk 11 rfl (Ev.extract aa rfl) ?_;refine tk 12 rfl (Ev.assign aa) ?_;refine m240 ?_;refine m142 ?_;exact ζ):p:=h ζ
def m102 (h:q->p:=by intro ζ;exact exit (pX (pX (bX ζ)))):p:=h ζ
def m103 (h:Wq q->p:=by intro ζ;exact co (Ev.len pg aa zf) ζ.1):p:=h ⟨ζ⟩
def m104 (h:q->p:=by intro ζ;exact cg rfl rfl (Ev.move aa) ζ):p:=h ζ
def m105 (h:q->p:=by intro ζ;exact tk 11 rfl (Ev.fe (fs:=_) (places:=[(0,1),(1,1)]) ud rfl US zk (.cons (.c (v:=I 4) rfl) (.cons (.t rfl) .nil)) (bB.cons gE.Am rfl (bB.cons gE.sI rfl bB.nil))) ζ):p:=h ζ
def m106 (h:Wq q->p:=by intro ζ;refine co (Ev.indexAddr Z9 xC aa aa zf (λ_=>zo)) ?_;refine co (Ev.eT xC aa zf (λ_=>zo)) ?_;exact cons ζ.1):p:=h ⟨ζ⟩
def m107 (h:q->p:=by intro ζ;refine m35 ?_;refine co (Ev.gR a.v6 x6 aa bJ.wv) ?_;exact nP ζ):p:=h ζ
def m108 (h:q->p:=by intro ζ;exact co (Ev.fe (places:=[(0,1),(1,1),(2,1)]) MG rfl Y43 zk (.cons (.c rfl) (.cons (.c (v:=fO 2) rfl) .nil)) (bB.cons bj.oI rfl (bB.cons bj.sF rfl bB.nil))) ζ):p:=h ζ
def m109 (h:Wq q->p:=by intro ζ;exact bN (pN (region (co (Ev.lx (.t rfl) (.c rfl) (λ_=>zo)) ζ.1)))):p:=h ⟨ζ⟩
def m110 (h:q->p:=by intro ζ;exact tk 12 rfl (Ev.fe (fs:=_) (places:=[(0,1),(1,1)]) ud rfl US zk (.cons (.t rfl) (.cons (.t rfl) .nil)) (bB.cons gE.Am rfl (bB.cons gE.sI rfl bB.nil))) ζ):p:=h ζ
theorem m111 (h:q->p:=by intro ζ;refine cg rfl rfl (Ev.y4 (.g rfl id) (.c (v:=fO 1) rfl)) ?_;refine m25 ?_;exact mv rfl ζ):p:=h ζ
def m112 (h:Wq q->p:=by intro ζ;refine co (Ev.indexAddr pg jQ aa (.c rfl) zf (λ_=>zo)) ?_;exact co (Ev.eT jQ aa zf (λ_=>zo)) ζ.1):p:=h ⟨ζ⟩
theorem m113 (h:q->p:=by intro ζ;refine mv rfl (cg rfl rfl (fA 34 aa) ?_);refine cg rfl rfl (Ev.gR h.bz jQ (.g rfl id) ae.iF) ?_;exact cg rfl rfl (Ev.Au (.g rfl id) (.c (v:=U8 17) rfl)) ζ):p:=h ζ
def m114 (h:q->p:=by intro ζ;refine cons (dg eN (o1 rfl) (λw I=>Xb _ w hs) ?_);refine m194 ?_;exact ζ):p:=h ζ
def m115 (h:q->p:=by intro ζ;refine sg ?_;refine m50 ?_;refine m92 ?_;refine ac (I 0) ?_;refine ac _ ?_;refine m62 ?_;refine m257 ?_;exact ζ):p:=h ζ
theorem m116 (h:q->p:=by intro ζ;refine cg rfl rfl (fA 2 aa) ?_;exact cg rfl rfl (Ev.gR m.room l9 (.g rfl id) aZ.Lk) ζ):p:=h ζ
def m117 (h:q->p:=by intro ζ;refine draw [] zk ?_;refine m298 ?_;refine m221 ?_;exact ζ):p:=h ζ
theorem m118 (h:Wq q->p:=by intro ζ;refine mv rfl (cg rfl rfl (Ev.gR m sj aa (aB.id _)) ?_);exact cons (sT rfl rfl eN (.cons (.g rfl id) (.cons (.c (v:=U8 4) rfl) .nil)) (λhg w I=>tT _ _ w) ζ.1)):p:=h ⟨ζ⟩
def m119 (h:Wq q->p:=by intro ζ;refine tk 1 rfl (fA 1 aa) ?_;refine tk 2 rfl (Ev.sk Oi jQ aa rfl rfl (λ_=>by decide)) ?_;exact tk 3 rfl (Ev.sk acO jQ aa rfl rfl (λ_=>by decide)) ζ.1):p:=h ⟨ζ⟩
theorem m120 (h:q->p:=by intro ζ;exact cg rfl rfl (Ev.move (.g rfl id)) ζ):p:=h ζ
def m121 (h:Wq q->p:=by intro ζ;refine m277 ?_;exact co (Ev.lj Oi jQ aa aa (λ_=>zo)) ζ.1):p:=h ⟨ζ⟩
def m122 (h:q->p:=by intro ζ;refine m42 ?_;exact dg eN (.cons aa (.cons (.c (v:=U8 2) rfl) .nil)) (λw I=>tT _ _ w) ζ):p:=h ζ
def m123 (h:q->p:=by intro ζ;exact ret (dn rfl rfl ζ)):p:=h ζ
def m124 (h:q->p:=by intro ζ;exact BF (Ev.to (v':=vv.v) (Ev.gS Hz aa aQ.oR) (rfl)) ζ):p:=h ζ
def m125 (h:q->p:=by intro ζ;refine seq (o9 zk ?_);exact tk 0 rfl (fA 0 aa) ζ):p:=h ζ
def m126 (h:q->p:=by intro ζ;refine m19 ?_;exact mv rfl ζ):p:=h ζ
def m127 (h:q->p:=by intro ζ;exact tk 11 rfl (Ev.fe (places:=[(0,1),(1,1)]) ud rfl US zk (.cons (.c rfl) (.cons aa .nil)) (bB.cons gE.Am rfl (bB.cons gE.sI rfl bB.nil))) ζ):p:=h ζ
theorem m128 (h:q->p:=by intro ζ;refine cg rfl rfl (Ev.vc (.g rfl id) (.c (v:=fO 1048576) rfl)) ?_;refine m25 ?_;exact ζ):p:=h ζ
def m129 (h:q->p:=by intro ζ;refine sg (co (Ev.gS HA aa (aB.id _)) ?_);refine cons (j8 HA (aB.id _) aa aa ?_);refine m284 ?_;exact done rfl (.cellP rfl HA (ed zm (aB.id _)) .nil) (Cq ζ)):p:=h ζ
def m130 (h:q->p:=by intro ζ;refine mv rfl ?_;refine m300 ?_;refine m0 ?_;exact ζ):p:=h ζ
def m131 (h:q->p:=by intro ζ;exact BF (Ev.gS yN (.t rfl) cA.S2) ζ):p:=h ζ
def m132 (h:q->p:=by intro ζ;exact co (Ev.Au aa (.c (v:=U8 6) rfl)) ζ):p:=h ζ
def m133 (h:q->p:=by intro ζ;exact co (Ev.gS ML aa (aB.id _)) ζ):p:=h ζ
def m134 (h:q->p:=by intro ζ;refine cf 17 rfl ?_;exact co (Ev.gR h.dst mR aa ae.nM) ζ):p:=h ζ
def m135 (h:q->p:=by intro ζ;exact tk 12 rfl (Ev.fe (places:=[(0,1),(1,1)]) ud rfl US zk (.cons aa (.cons aa .nil)) (bB.cons gE.Am rfl (bB.cons gE.sI rfl bB.nil))) ζ):p:=h ζ
def m136 (h:q->p:=by intro ζ;refine m0 ?_;refine m35 ?_;refine co (Ev.gR p.old DX aa cX.IC) ?_;refine cf 6 rfl ?_;refine co (Ev.gR p.new DX aa cX.xO) ?_;refine m27 ?_;exact ζ):p:=h ζ
def m137 (h:q->p:=by intro ζ;exact co (Ev.A1 aa (.c rfl)) ζ):p:=h ζ
def m138 (h:q->p:=by intro ζ;refine nP ?_;refine m1 ?_;exact ζ):p:=h ζ
def m139 (h:q->p:=by intro ζ;refine m180 ?_;exact fB 4 rfl ζ):p:=h ζ
def m140 (h:q->p:=by intro ζ;exact Az aa om (.cons aa .nil) (λw I=>hk.call trivial w I) ζ):p:=h ζ
def m141 (h:q->p:=by intro ζ;refine cf 42 rfl ?_;exact co (Ev.gR h.data Bj aa ae.wB) ζ):p:=h ζ
def m142 (h:q->p:=by intro ζ;exact D3 (pN ζ)):p:=h ζ
def m143 (h:q->p:=by intro ζ;exact nP (seq ζ)):p:=h ζ
def m144 (h:q->p:=by intro ζ;refine oc lC.head ?_;refine oc (.tail .head) ?_;exact oc (.tail .head) ζ):p:=h ζ
def m145 (h:Wq q->p:=by intro ζ;refine nil ?_;refine m2 ?_;exact ζ.1):p:=h ⟨ζ⟩
def m146 (h:q->p:=by intro ζ;refine co (Ev.gS DX aa (aB.id _)) ?_;exact cons ζ):p:=h ζ
theorem m147 (h:q->p:=by intro ζ;refine cg rfl rfl (Ev.pkO (.g rfl id) rfl) ?_;refine m28 ?_;refine m0 ?_;exact ζ):p:=h ζ
def m148 (h:q->p:=by intro ζ;exact bN (pN (sg (co (Ev.gS MP aa (aB.id _)) ζ)))):p:=h ζ
def m149 (h:q->p:=by intro ζ;refine m3 ?_;refine m16 ?_;exact ζ):p:=h ζ
def m150 (h:q->p:=by intro ζ;refine m21 ?_;refine m1 ?_;exact ζ):p:=h ζ
def m151 (h:q->p:=by intro ζ;refine m180 ?_;exact fB 7 rfl ζ):p:=h ζ
def m152 (h:q->p:=by intro ζ;refine m1 ?_;refine ac _ ?_;refine m48 ?_;exact pR ζ):p:=h ζ
def m153 (h:q->p:=by intro ζ;refine m8 ?_;exact sg ζ):p:=h ζ
def m154 (h:q->p:=by intro ζ;refine m47 ?_;exact tn 1 rfl rfl ζ):p:=h ζ
def m155 (h:q->p:=by intro ζ;refine sg (ac (I 190) ?_);refine m10 ?_;exact ζ):p:=h ζ
def m156 (h:q->p:=by intro ζ;exact sg (ac (I 0) ζ)):p:=h ζ
def m157 (h:q->p:=by intro ζ;exact cons (dg eN (o2 rfl rfl) (λw I=>WH _ l _ w (hk.cO I.keeps)) ζ)):p:=h ζ
def m158 (h:q->p:=by intro ζ;refine co (Ev.AY aa (.c rfl)) ?_;refine m0 ?_;exact ζ):p:=h ζ
def m159 (h:q->p:=by intro ζ;refine m3 ?_;exact seq ζ):p:=h ζ
def m160 (h:Wq q->p:=by intro ζ;exact co (Ev.lx aa (.c rfl) (λ_=>zo)) ζ.1):p:=h ⟨ζ⟩
def m161 (h:Wq q->p:=by intro ζ;refine m6 ?_;refine co (Ev.F2 aa (.c rfl) (λ_=>by decide)) ?_;refine m6 ?_;exact ζ.1):p:=h ⟨ζ⟩
theorem m162 (h:q->p:=by intro ζ;refine m5 ?_;refine cg rfl rfl (Ev.not (.g rfl id)) ?_;refine m28 ?_;exact ζ):p:=h ζ
def m163 (h:Wq q->p:=by intro ζ;refine m191 ?_;refine co (Ev.indexAddr Qs Bj aa aa zf (λ_=>zo)) ?_;refine co (Ev.eT Bj aa zf (λ_=>zo)) ?_;refine m0 ?_;exact sg ζ.1):p:=h ⟨ζ⟩
def m164 (h:q->p:=by intro ζ;refine co (Ev.vc aa (.c (v:=fO 0) rfl)) ?_;exact nP ζ):p:=h ζ
def m165 (h:q->p:=by intro ζ;refine sg ?_;refine m33 ?_;exact cons (dg eN (o1 rfl) (λw I=>E3 _ w) ζ)):p:=h ζ
theorem m166 (h:q->p:=by intro ζ;exact cg rfl rfl (fA 1 (.g rfl id)) ζ):p:=h ζ
def m167 (h:q->p:=by intro ζ;exact sg (co (Ev.gS kr aa (aB.id _)) ζ)):p:=h ζ
def m168 (h:q->p:=by intro ζ;refine tk 4 rfl (fA 1 aa) ?_;refine tk 5 rfl (Ev.gR j.ta l9 aa mU.rF) ?_;exact tk 6 rfl (Ev.gS rm aa (aB.id _)) ζ):p:=h ζ
def m169 (h:q->p:=by intro ζ;refine m180 ?_;exact fB 8 rfl ζ):p:=h ζ
def m170 (h:q->p:=by intro ζ;exact Prod.Lex.right _ (Prod.Lex.right _ (Prod.Lex.left _ _ ζ))):p:=h ζ
def m171 (h:q->p:=by intro ζ;refine m6 ?_;refine m31 ?_;exact ζ):p:=h ζ
def m172 (h:Wq q->p:=by intro ζ;refine m21 ?_;refine m34 ?_;refine m76 ?_;refine m19 ?_;refine m66 ?_;exact ζ.1):p:=h ⟨ζ⟩
def m173 (h:q->p:=by intro ζ;refine m12 ?_;refine m16 ?_;exact ζ):p:=h ζ
def m174 (h:q->p:=by intro ζ;refine m0 ?_;refine m16 ?_;exact ζ):p:=h ζ
theorem m175 (h:Wq q->p:=by intro ζ;refine co (Ev.gS aes aa (aB.id _)) ?_;exact co (Ev.to (v':=I cnt) (Ev.len UR aa zf) (aL I (by omega))) ζ.1):p:=h ⟨ζ⟩
def m176 (h:q->p:=by intro ζ;refine co (Ev.gS T (.t rfl) (aB.id _)) ?_;exact cons (Az (.t rfl) om (.cons (.t rfl) .nil) (λw I=>hk.call trivial w I) ζ)):p:=h ζ
def m177 (h:q->p:=by intro ζ;refine m0 ?_;exact seq ζ):p:=h ζ
def m178 (h:q->p:=by intro ζ;exact co (Ev.to (v':=I ks.length) (Ev.gS l9 aa (aB.id _)) (rfl)) ζ):p:=h ζ
def m179 (h:q->p:=by intro ζ;exact cons (j8 MP (aB.id _) aa aa ζ)):p:=h ζ
def m180 (h:q->p:=by intro ζ;exact xi ζ):p:=h ζ
theorem m181 (h:q->p:=by intro ζ;refine mv rfl (cg rfl rfl (fA 5 aa) ?_);refine cg rfl rfl (Ev.gS l9 (.g rfl id) cy.nD) ?_;refine m72 ?_;refine m28 ?_;exact ζ):p:=h ζ
def m182 (h:q->p:=by intro ζ;refine cf 10 rfl ?_;exact co (Ev.to (v':=p.vv.v) (Ev.load Hz aa (jJ (λw I=>(hp).pt.keep I.keeps) aQ.oR)) (rfl)) ζ):p:=h ζ
def m183 (h:q->p:=by intro ζ;exact dg eN (.cons aa (.cons aa (.cons (.c rfl) .nil))) (λw I=>Dl b3 _ xt.1.ptr _ _ w (ed zm (aB.id _) w I) rfl) ζ):p:=h ζ
def m184 (h:q->p:=by intro ζ;exact tm 3 rfl rfl ζ):p:=h ζ
def m185 (h:q->p:=by intro ζ;refine m17 ?_;refine ac (I 0) ?_;refine ac (I 160) ?_;refine m62 ?_;exact ζ):p:=h ζ
def m186 (h:q->p:=by intro ζ;exact mv rfl (co (Ev.len QG (.t rfl) (λw I=>hxs w I.keeps)) ζ)):p:=h ζ
def m187 (h:q->p:=by intro ζ;exact done rfl (.cellP rfl kr (ed zm (aB.id _)) (.tmp rfl .nil)) (Cq ζ)):p:=h ζ
def m188 (h:q->p:=by intro ζ;exact done rfl (.cellP rfl p8 (ed zm (aB.id _)) (.tmp rfl .nil)) (Cq ζ)):p:=h ζ
def m189 (h:q->p:=by intro ζ;refine m84 ?_;refine tk 4 rfl (fA 17 aa) ?_;exact tk 5 rfl (Ev.load mR aa (jJ (λw I=>hh.keep I.keeps) ae.nM)) ζ):p:=h ζ
def m190 (h:q->p:=by intro ζ;refine m62 ?_;exact dn rfl rfl ζ):p:=h ζ
def m191 (h:q->p:=by intro ζ;refine m21 ?_;exact sg ζ):p:=h ζ
def m192 (h:q->p:=by intro ζ;refine m51 ?_;refine m1 ?_;refine vK rfl ?_;refine m98 ?_;exact ret ζ):p:=h ζ
def m193 (h:q->p:=by intro ζ;exact cons (dg eN (o1 rfl) (λw I=>Ay _ w) ζ)):p:=h ζ
def m194 (h:q->p:=by intro ζ;refine co (Ev.not aa) ?_;refine m0 ?_;exact ζ):p:=h ζ
def m195 (h:q->p:=by intro ζ;refine m43 ?_;exact nP ζ):p:=h ζ
def m196 (h:q->p:=by intro ζ;refine m8 ?_;exact seq ζ):p:=h ζ
theorem m197 (h:Wq q->p:=by intro ζ;refine m18 ?_;exact cg rfl rfl (Ev.to (v':=.bool true) (Ev.Z2 Y4 (.g rfl id) (.g rfl id)) (by simp)) ζ.1):p:=h ⟨ζ⟩
def m198 (h:q->p:=by intro ζ;refine tm 6 rfl rfl ?_;exact tm 7 rfl rfl ζ):p:=h ζ
def m199 (h:q->p:=by intro ζ;refine m97 ?_;exact cx rfl rfl (vK rfl (vK rfl ζ))):p:=h ζ
def m200 (h:q->p:=by intro ζ;refine m8 ?_;refine m15 ?_;exact ζ):p:=h ζ
def m201 (h:q->p:=by intro ζ;refine ac (fO 0) ?_;exact nP ζ):p:=h ζ
def m202 (h:q->p:=by intro ζ;exact tm 0 rfl rfl ζ):p:=h ζ
def m203 (h:q->p:=by intro ζ;refine cons (dg eN (o1 rfl) (λw I=>RA _ w) ?_);exact cons ζ):p:=h ζ
theorem m204 (h:Wq q->p:=by intro ζ;refine m18 ?_;exact cg rfl rfl (Ev.to (v':=.bool true) (Ev.qG (.g rfl id) (.g rfl id)) (by simp)) ζ.1):p:=h ⟨ζ⟩
def m205 (h:q->p:=by intro ζ;refine tk 1 rfl (fA 0 aa) ?_;exact tk 2 rfl (Ev.load mR aa (jJ (λw I=>(hf w I.keeps).2.2) aw.lh)) ζ):p:=h ζ
def m206 (h:q->p:=by intro ζ;exact mv rfl (co (Ev.len Ei aa (λw I=>hxs w I.keeps)) ζ)):p:=h ζ
theorem m207 (h:q->p:=by intro ζ;exact cg rfl rfl (Ev.SX (.g rfl id) (.g rfl id)) ζ):p:=h ζ
def m208 (h:q->p:=by intro ζ;refine m1 ?_;exact mv rfl ζ):p:=h ζ
def m209 (h:q->p:=by intro ζ;exact sg (ac _ ζ)):p:=h ζ
def m210 (h:q->p:=by intro ζ;exact skip (bN (pN ζ))):p:=h ζ
def m211 (h:q->p:=by intro ζ;exact bR (pR (pR (bR (pR ζ))))):p:=h ζ
theorem m212 (h:Wq q->p:=by intro ζ;exact sT rfl rfl eN (.cons (.g rfl id) (.cons (.g rfl id) .nil)) (λhg w I=>Uy _ _ w (by grind)) ζ.1):p:=h ⟨ζ⟩
def m213 (h:q->p:=by intro ζ;refine co (Ev.yB Hn Y3 aa) ?_;exact cons ζ):p:=h ζ
def m214 (h:q->p:=by intro ζ;refine cf 0 rfl ?_;exact cons ζ):p:=h ζ
def m215 (h:Wq q->p:=by intro ζ;refine cons (dg eN (.cons aa (.cons (.c rfl) .nil)) (λw I=>Cf _ _ _ w (zj w I)) ?_);refine m4 ?_;exact ζ.1):p:=h ⟨ζ⟩
def m216 (h:q->p:=by intro ζ;refine cons (dg eN (o1 rfl) (λw I=>Rl t w (ht.1.keep I.keeps)) ?_);exact co (Ev.not aa) ζ):p:=h ζ
def m217 (h:q->p:=by intro ζ;refine cf 39 rfl ?_;exact co (Ev.gR h.id FU aa ae.GI) ζ):p:=h ζ
def m218 (h:q->p:=by intro ζ;exact co (Ev.gR h.src mR aa ae.mM) ζ):p:=h ζ
def m219 (h:q->p:=by intro ζ;refine m4 ?_;refine m269 ?_;refine m31 ?_;refine nS rfl (rfl) ?_;refine m73 ?_;refine m45 ?_;exact ζ):p:=h ζ
def m220 (h:q->p:=by intro ζ;exact sg (co (Ev.gS p8 aa (aB.id _)) ζ)):p:=h ζ
def m221 (h:q->p:=by intro ζ;exact tm 5 rfl rfl ζ):p:=h ζ
def m222 (h:q->p:=by intro ζ;exact tm 2 rfl rfl ζ):p:=h ζ
def m223 (h:q->p:=by intro ζ;refine m0 ?_;exact mt (_) ζ):p:=h ζ
def m224 (h:q->p:=by intro ζ;exact jl 5 rfl rfl rfl (Ev.move aa) ζ):p:=h ζ
def m225 (h:q->p:=by intro ζ;exact j8 rm (aB.id _) aa aa ζ):p:=h ζ
def m226 (h:q->p:=by intro ζ;exact BF (Ev.gS l9 aa cA.sI) ζ):p:=h ζ
def m227 (h:q->p:=by intro ζ;exact cg rfl rfl (fA 1 aa) ζ):p:=h ζ
def m228 (h:q->p:=by intro ζ;refine m8 ?_;refine m71 ?_;refine m123 ?_;exact ζ):p:=h ζ
def m229 (h:q->p:=by intro ζ;refine m8 ?_;refine m16 ?_;exact ζ):p:=h ζ
def m230 (h:q->p:=by intro ζ;refine m48 ?_;refine m75 ?_;exact ζ):p:=h ζ
def m231 (h:q->p:=by intro ζ;refine m0 ?_;refine m19 ?_;exact ζ):p:=h ζ
def m232 (h:Wq q->p:=by intro ζ;refine skip ?_;refine m2 ?_;exact ζ.1):p:=h ⟨ζ⟩
def m233 (h:q->p:=by intro ζ;refine m180 ?_;refine tk 8 rfl (Ev.assign aa) ?_;refine m142 ?_;exact ζ):p:=h ζ
theorem m234 (h:q->p:=by intro ζ;refine cg rfl rfl (Ev.vc (.g rfl id) (.c (v:=fO 65536) rfl)) ?_;refine m25 ?_;exact mv rfl ζ):p:=h ζ
def m235 (h:q->p:=by intro ζ;refine nP ?_;refine m58 ?_;exact cf 3 rfl ζ):p:=h ζ
def m236 (h:q->p:=by intro ζ;refine m16 ?_;refine co (Ev.Fq aa (.c rfl)) ?_;exact nP ζ):p:=h ζ
def m237 (h:q->p:=by intro ζ;exact BF (Ev.gS l9 (.t rfl) cA.sI) ζ):p:=h ζ
def m238 (h:q->p:=by intro ζ;exact vK rfl (cons ζ)):p:=h ζ
def m239 (h:q->p:=by intro ζ;exact jD.ctl rfl (λw=>qF w) ζ):p:=h ζ
def m240 (h:q->p:=by intro ζ;exact tk 13 rfl (Ev.assign aa) ζ):p:=h ζ
def m241 (h:q->p:=by intro ζ;refine m97 ?_;exact cons ζ):p:=h ζ
def m242 (h:Wq q->p:=by intro ζ;exact j8 pA (aB.comp aW.u6 (rP _ _ (by omega))) aa aa ζ.1):p:=h ⟨ζ⟩
theorem m243 (h:q->p:=by intro ζ;exact cg rfl rfl (Ev.xS (.g rfl id) (.c rfl)) ζ):p:=h ζ
def m244 (h:q->p:=by intro ζ;refine m180 ?_;exact fB 6 rfl ζ):p:=h ζ
def m245 (h:q->p:=by intro ζ;refine nP ?_;refine m16 ?_;exact ζ):p:=h ζ
def m246 (h:q->p:=by intro ζ;exact dg eN (o3 rfl rfl rfl) (λw I=>Dl b3 _ xt.1.ptr _ _ w (ed zm (aB.id _) w I) rfl) ζ):p:=h ζ
def m247 (h:q->p:=by intro ζ;refine mv rfl ?_;refine m27 ?_;exact ζ):p:=h ζ
def m248 (h:q->p:=by intro ζ;exact co (Ev.nilCheck aa) ζ):p:=h ζ
def m249 (h:q->p:=by intro ζ;refine m180 ?_;exact fB 9 rfl ζ):p:=h ζ
theorem m250 (h:Wq q->p:=by intro ζ;refine cons (sT rfl rfl eN (.cons (.g rfl id) .nil) (λhg w I=>Ay _ w) ?_);refine m72 ?_;exact ζ.1):p:=h ⟨ζ⟩
theorem m251 (h:q->p:=by intro ζ;refine cg rfl rfl (fA 39 aa) ?_;exact cg rfl rfl (Ev.gR m.bz jQ (.g rfl id) aN.iF) ζ):p:=h ζ
def m252 (h:q->p:=by intro ζ;refine sg ?_;refine co (Ev.to (v':=jc x1.b) (Ev.gS aiC aa (aB.id _)) rfl) ?_;exact cons ζ):p:=h ζ
def m253 (h:q->p:=by intro ζ;refine m58 ?_;exact cf 0 rfl ζ):p:=h ζ
def m254 (h:q->p:=by intro ζ;refine tk 9 rfl (Ev.assign aa) ?_;refine tk 10 rfl (Ev.assign (.c rfl)) ?_;refine m142 ?_;exact ret ζ):p:=h ζ
theorem m255 (h:q->p:=by intro ζ;refine cg rfl rfl (fA 2 aa) ?_;exact cg rfl rfl (Ev.gR b.Dy nh (.g rfl id) dh.NH) ζ):p:=h ζ
def m256 (h:q->p:=by intro ζ;refine ac _ ?_;refine m98 ?_;refine m16 ?_;refine co (Ev.TX YF aa (.c rfl)) ?_;exact nP ζ):p:=h ζ
def m257 (h:q->p:=by intro ζ;exact agJ zr rfl rfl (.cellP rfl kr (ed zm (aB.id _)) (.tmp rfl (.tmp rfl .nil))) (Cq ζ)):p:=h ζ
def m258 (h:q->p:=by intro ζ;refine sg (ac (I 5) ?_);refine m10 ?_;exact ζ):p:=h ζ
def m259 (h:q->p:=by intro ζ;refine m92 ?_;refine m284 ?_;exact done rfl (.cellP rfl kr (ed zm (aB.id _)) .nil) (Cq ζ)):p:=h ζ
theorem m260 (h:q->p:=by intro ζ;refine m120 ?_;refine m104 ?_;exact cg rfl rfl (Ev.Yb (.g rfl id) (.c rfl)) ζ):p:=h ζ
def m261 (h:q->p:=by intro ζ;refine m139 ?_;exact BF (Ev.gS yN aa cA.S2) ζ):p:=h ζ
def m262 (h:q->p:=by intro ζ;refine draw [] zk ?_;refine m11 ?_;refine tk 3 rfl (fA 0 (.t rfl)) ?_;refine m221 ?_;exact ζ):p:=h ζ
def m263 (h:Wq q->p:=by intro ζ;refine co (Ev.indexAddr pg jQ aa aa zf (λ_=>zo)) ?_;exact co (Ev.eT jQ aa zf (λ_=>zo)) ζ.1):p:=h ⟨ζ⟩
def m264 (h:Wq q->p:=by intro ζ;refine co (Ev.indexAddr Ei l9 aa aa zf (λ_=>zo)) ?_;exact co (Ev.eT l9 aa zf (λ_=>zo)) ζ.1):p:=h ⟨ζ⟩
def m265 (h:q->p:=by intro ζ;refine o9 zk ?_;refine tk 0 rfl (fA 1 aa) ?_;exact tk 1 rfl (Ev.gS nh aa aK.rN) ζ):p:=h ζ
def m266 (h:q->p:=by intro ζ;refine m180 ?_;exact fB 10 rfl ζ):p:=h ζ
def m267 (h:q->p:=by intro ζ;exact j8 kr (aB.id _) aa aa ζ):p:=h ζ
def m268 (h:q->p:=by intro ζ;refine m71 ?_;refine m16 ?_;exact ζ):p:=h ζ
def m269 (h:q->p:=by intro ζ;refine m41 ?_;refine m16 ?_;exact ζ):p:=h ζ
def m270 (h:q->p:=by intro ζ;refine m4 ?_;refine m60 ?_;exact ζ):p:=h ζ
def m271 (h:q->p:=by intro ζ;refine m35 ?_;exact co (Ev.to (v':=I y.parts) (Ev.gS l9 aa bj.oI) (rfl)) ζ):p:=h ζ
def m272 (h:q->p:=by intro ζ;refine m12 ?_;refine m15 ?_;exact ζ):p:=h ζ
def m273 (h:q->p:=by intro ζ;refine m12 ?_;refine m1 ?_;exact ζ):p:=h ζ
def m274 (h:q->p:=by intro ζ;exact cons (dg eN (o1 rfl) (λw I=>FG _ w) ζ)):p:=h ζ
def m275 (h:q->p:=by intro ζ;refine co (Ev.gR k HA aa (aB.id _)) ?_;exact cons ζ):p:=h ζ
def m276 (h:q->p:=by intro ζ;refine co (Ev.gR h rm aa (aB.id _)) ?_;exact cons ζ):p:=h ζ
def m277 (h:q->p:=by intro ζ;exact cf 1 rfl ζ):p:=h ζ
def m278 (h:q->p:=by intro ζ;refine m57 ?_;exact nS rfl (rfl) ζ):p:=h ζ
theorem m279 (h:q->p:=by intro ζ;refine m100 ?_;refine m64 ?_;exact cg rfl rfl (Ev.gS Ey (.g rfl id) cz.tL) ζ):p:=h ζ
def m280 (h:q->p:=by intro ζ;exact fB 12 rfl ζ):p:=h ζ
theorem m281 (h:q->p:=by intro ζ;refine cg rfl rfl (Ev.A1 (.g rfl id) (.g rfl id)) ?_;refine m25 ?_;exact nP ζ):p:=h ζ
def m282 (h:q->p:=by intro ζ;exact co (Ev.to (v':=Jg.val ⟨0,xh.ta,x2⟩) (Ev.gS acT aa (aB.id _)) rfl) ζ):p:=h ζ
def m283 (h:Wq q->p:=by intro ζ;refine vK rfl ?_;refine m145 ?_;exact ζ.1):p:=h ⟨ζ⟩
def m284 (h:q->p:=by intro ζ;exact nP (ret ζ)):p:=h ζ
def m285 (h:q->p:=by intro ζ;exact tk 7 rfl (Ev.assign aa) ζ):p:=h ζ
def m286 (h:q->p:=by intro ζ;exact co (Ev.vh aa (.c (v:=fO 1) rfl)) ζ):p:=h ζ
def m287 (h:q->p:=by intro ζ;refine m209 ?_;refine jf iO 5 ?_;refine m143 ?_;exact ζ):p:=h ζ
def m288 (h:Wq q->p:=by intro ζ;refine mv rfl ?_;refine m103 ?_;exact ζ.1):p:=h ⟨ζ⟩
def m289 (h:q->p:=by intro ζ;refine draw [Var b8 iK (l.us.getD i3.toNat iK.zero) 201] zk ?_;refine m11 ?_;exact ζ):p:=h ζ
def m290 (h:q->p:=by intro ζ;exact Az aa eN (o2 rfl rfl) (λw I=>EY b4 _ _ _ w (ml zm w I) (Il Hm _)) ζ):p:=h ζ
def m291 (h:q->p:=by intro ζ;refine m24 ?_;refine m27 ?_;refine m225 ?_;refine ac (I 0) ?_;refine m48 ?_;exact pR ζ):p:=h ζ
def m292 (h:q->p:=by intro ζ;exact tm 1 rfl rfl ζ):p:=h ζ
def m293 (h:q->p:=by intro ζ;exact co (Ev.we aa (.c (v:=U8 0) rfl)) ζ):p:=h ζ
theorem m294 (h:q->p:=by intro ζ;refine m227 ?_;exact cg rfl rfl (Ev.gR b.den nh (.g rfl id) dh.ZB) ζ):p:=h ζ
def m295 (h:q->p:=by intro ζ;refine m180 ?_;exact fB 5 rfl ζ):p:=h ζ
def m296 (h:q->p:=by intro ζ;refine m71 ?_;refine m71 ?_;exact seq (sg ζ)):p:=h ζ
def m297 (h:q->p:=by intro ζ;exact co (Ev.gR m.asks jQ aa aN.S4) ζ):p:=h ζ
def m298 (h:q->p:=by intro ζ;refine m11 ?_;exact tk 3 rfl (fA 0 aa) ζ):p:=h ζ
def m299 (h:q->p:=by intro ζ;exact jD.ctl rfl (λw=>An w) ζ):p:=h ζ
def m300 (h:q->p:=by intro ζ;exact co (Ev.rE aa aa) ζ):p:=h ζ
def m301 (h:q->p:=by intro ζ;refine m24 ?_;refine m81 ?_;exact ac (I 0) ζ):p:=h ζ
def m302 (h:q->p:=by intro ζ;refine tk 9 rfl (Ev.extract aa rfl) ?_;exact tk 10 rfl (Ev.extract aa rfl) ζ):p:=h ζ
end
variable {p:Prop}
def s0 (h:p:=by
    refine m151 ?_;refine m267 ?_;refine m51 ?_;refine seq ?_;refine m167 ?_;refine nP (block ?_);refine m253 ?_;refine co (Ev.load kr aa (jJ (λw I=>(sf.1).keep I.keeps) aW.NG)) ?_;refine co (Ev.acd rfl xn rfl zk aa aa) ?_;refine m0 ?_;refine nG rfl (λh2=>?_) (λh2=>?_)
    ·have e1:rG q p = q:=by simp_all
     obtain⟨bb,hbb⟩:∃ z,zK q p = z:=⟨_,rfl⟩;have e2:pb q ++ [bb] <+: pb p:=by
      rcases hway with ⟨_,g⟩ | ⟨g,_⟩ | ⟨g,_⟩
      ·rw [<- hbb]; exact g
      ·exact absurd e1 g
      ·exact absurd e1 g
     have hlt:=FZ hq hp e2;have hbn:=DD bb;have hbt:(bI bb).toNat < 2:=by omega
     refine m58 ?_;refine co (Ev.load Y2 aa (jJ (λw I=>(sf.1).keep I.keeps) (aB.id _))) ?_;refine cons (alloc QU (λQl=>?_));refine cons (j8 Y2 (aB.id _) aa aa ?_);refine nP ?_;refine m125 ?_;refine tk 1 rfl (Ev.gS mR aa aw.lh) ?_;refine m84 ?_;refine tk 4 rfl (fA 0 aa) ?_;refine tk 5 rfl (fA 17 aa) ?_;refine tk 6 rfl (Ev.load l9 aa (jJ (λw I=>(sf.1).keep I.keeps) (aB.comp aW.NG aw.lZ))) ?_;refine fB 7 rfl (dg eN (o2 rfl rfl) (λw I=>FI _ _ w hlt bb hbb) ?_);refine m233 ?_;refine seq (o9 zk ?_);refine m11 ?_;refine tk 3 rfl (fA 20 aa) ?_;refine tk 4 rfl (Ev.lj Mw pA aa aa (λ_=>zo)) ?_;refine tk 5 rfl (Ev.to (Ev.load pA aa (jJ (λw I=>(sf.1).keep I.keeps) (aB.comp aW.u6 (rP _ _ _)))) (aL OV.v (BN l r bb hbt))) ?_;refine tk 6 rfl (Ev.gS kr aa (aB.id _)) ?_;refine tm 7 rfl rfl ?_;refine fB 8 rfl (iP (X:=PT × List du) _ _ _ eN (o3 rfl rfl rfl) (λw I=>ih bb _ w (PT.At.rQ (sf.2.1.keep I.keeps) (sf.2.2.keep I.keeps) bb) (aby hw.2.2.1 hw.2.2.2.1 bb) e2) (λx1 va=>?_));refine m101 ?_;refine m208 ?_;refine cf 20 rfl ?_;refine co (Ev.lj Mw pA aa aa (λ_=>zo)) ?_;refine cons ?_;refine m242 ?_;refine m138 ?_;refine m41 ?_;refine ret (bR (pR (done rfl (.tmp rfl (.tmp rfl .nil)) (λw I=>?_))));cases bb with
     | true =>
       have ep:tf p v (.node q u h l.tr r.tr) = (.node q u h l.tr (tf p v r.tr).1,(tf p v r.tr).2):=by show Tr.put _ _ _ _ _ = _; rw [Tr.put,if_neg Te,if_pos e1,if_pos hbb]
       exact lu (PT.node Ql q u h l x1.1,Var Ql gp _ 378 :: x1.2) ⟨by rw [ep]; exact aL _ va.1,λw1 ho hh=>⟨kU hh ah,ho.2.1,va.2 w1 ho.2.2 (λq hq=>hh q (aF _ hq))⟩⟩ (by rw [ep]; rfl) (by repeat first | refine lP.cons (by repeat first | exact lC.head | apply lC.tail | apply lC.app) ?_ | exact lP.of (by repeat first | exact sR | apply sS | exact jX _ _)) w I
     | false =>
       have ep:tf p v (.node q u h l.tr r.tr) = (.node q u h (tf p v l.tr).1 r.tr,(tf p v l.tr).2):=by show Tr.put _ _ _ _ _ = _; rw [Tr.put,if_neg Te,if_pos e1,if_neg (by rw [hbb]; exact cL)]
       exact lu (PT.node Ql q u h x1.1 r,Var Ql gp _ 378 :: x1.2) ⟨by rw [ep]; exact aL (λz=>Tr.node q u h z r.tr) va.1,λw1 ho hh=>⟨kU hh ah,va.2 w1 ho.2.1 (λq hq=>hh q (aF _ hq)),ho.2.2⟩⟩ (by rw [ep]; rfl) (by repeat first | refine lP.cons (by repeat first | exact lC.head | apply lC.tail | apply lC.app) ?_ | exact lP.of (by repeat first | exact sR | apply sS | exact jX _ _)) w I
    ·have e0:rG q p ≠ q:=by rw [QK]; exact LU h2
     refine m167 ?_;refine co (Ev.acd rfl xn rfl zk aa aa) ?_;refine m0 ?_;refine nG rfl (λh3=>?_) (λh3=>?_)
     ·have e1:rG q p = p:=by simp_all
      obtain⟨bb,hbb⟩:∃ z,zK p q = z:=⟨_,rfl⟩;have e2:pb p ++ [bb] <+: pb q:=by
       rcases hway with ⟨g,_⟩ | ⟨_,_,g⟩ | ⟨_,g,_⟩
       ·exact absurd g e0
       ·rw [<- hbb]; exact g
       ·exact absurd e1 g
      have hlt:=FZ hp hq e2;have hbn:=DD bb;have hbt:(bI bb).toNat < 2:=by omega
      refine m67 ?_;refine box aa (λYw=>?_);refine m177 ?_;refine vE 87 rfl zr zk ?_;refine m36 ?_;refine dg eN (o2 rfl rfl) (λw I=>FI _ _ w hlt bb hbb) ?_;refine m87 ?_;refine m242 ?_;refine m192 ?_;refine bR (pR (done rfl (.tmp rfl (.tmp rfl .nil)) (λw I=>?_)));cases bb with
      | true =>
        have ep:tf p v (.node q u h l.tr r.tr) = (.node p v true .nil (.node q u h l.tr r.tr),true):=by show Tr.put _ _ _ _ _ = _; rw [Tr.put,if_neg Te,if_neg e0,if_pos e1,if_pos hbb]
        exact lu (PT.node Yw p v true .nil _,[Var Yw gp (⟨p,v,true,kids .nil _⟩:aW) 378]) ⟨by rw [ep]; rfl,λw1 ho hh=>⟨kU (T:=378) hh (by simp),trivial,ho⟩⟩ (by rw [ep]; rfl) zp w I
      | false =>
        have ep:tf p v (.node q u h l.tr r.tr) = (.node p v true (.node q u h l.tr r.tr) .nil,true):=by show Tr.put _ _ _ _ _ = _; rw [Tr.put,if_neg Te,if_neg e0,if_pos e1,if_neg (by rw [hbb]; exact cL)]
        exact lu (PT.node Yw p v true _ .nil,[Var Yw gp (⟨p,v,true,kids _ .nil⟩:aW) 378]) ⟨by rw [ep]; rfl,λw1 ho hh=>⟨kU (T:=378) hh (by simp),ho,trivial⟩⟩ (by rw [ep]; rfl) zp w I
     ·have e1:rG q p ≠ p:=by rw [QK]; exact LU h3
      obtain⟨bp,hbp⟩:∃ z,zK c0 p = z:=⟨_,rfl⟩;obtain⟨bq,hbq⟩:∃ z,zK c0 q = z:=⟨_,rfl⟩;obtain⟨g2,g5,g6⟩:tV k c0 /\ bq = (!bp) /\ pb c0 ++ [bp] <+: pb p:=by
       grind
      have XE:=g5;have hlt:=FZ g2 hp g6;have hbn:=DD bp;have hbt:(bI bp).toNat < 2:=by omega
      have aou:=DD bq;have hbt2:(bI bq).toNat < 2:=by omega
      refine m210 ?_;refine m167 ?_;refine co (Ev.fe (places:=[(0,18),(18,1),(19,1),(20,2)]) QU rfl YE zk (.cons aa .nil) (bB.cons aW.NG rfl bB.nil)) ?_;refine cons (box aa (λJI=>?_));refine m177 ?_;refine vE 104 rfl zr zk ?_;refine m36 ?_;refine dg eN (o2 rfl rfl) (λw I=>FI _ _ w hlt bq hbq) ?_;refine m87 ?_;refine m242 ?_;refine m51 ?_;refine seq (vE 104 rfl zr zk ?_);refine m202 ?_;refine tk 1 rfl (fA 0 aa) ?_;refine tk 2 rfl (Ev.gS mR aa aw.lh) ?_;refine tk 3 rfl (fA 17 aa) ?_;refine tk 4 rfl (Ev.gS l9 aa aw.lZ) ?_;refine tk 6 rfl (Ev.gS kr aa (aB.id _)) ?_;refine tm 7 rfl rfl ?_;refine tk 8 rfl (Ev.fe (places:=[(0,18),(18,1),(19,1),(20,2)]) QU rfl YE zk (.cons aa (.cons aa (.cons (.c rfl) .nil))) (bB.cons aW.NG rfl (bB.cons aW.Vr rfl (bB.cons aW.C1 rfl bB.nil)))) ?_;refine tn 10 rfl rfl ?_;refine tk 11 rfl (fA 20 aa) ?_;refine all [5,9] zk (by decide) (.cons rfl ?_ (.cons rfl ?_ .nil))
      ·refine dg eN (o2 rfl rfl) (λw I=>FI _ _ w hlt bp hbp) ?_;refine m249 ?_;refine box aa (λUB=>?_);refine m87 ?_;refine j8 pA (aB.comp aW.u6 (rP _ _ (by omega))) (.t rfl) (.t (v:=(PT.node UB p v true .nil .nil).ptr.v) rfl) ?_;refine m192 ?_;refine done rfl (.tmp rfl (.tmp rfl .nil)) (λw I=>?_);cases bp with
       | true =>
         obtain rfl:bq = false:=XE;have ep:tf p v (.node q u h l.tr r.tr) = (.node c0 0 false (.node q u h l.tr r.tr) (.node p v true .nil .nil),true):=by show Tr.put _ _ _ _ _ = _; rw [Tr.put,if_neg Te,if_neg e0,if_neg e1,QK,if_pos hbp]
         exact lu (PT.node JI c0 0 false _ (PT.node UB p v true .nil .nil),[Var UB gp (⟨p,v,true,kids .nil .nil⟩:aW) 378,Var JI gp (⟨c0,0,false,kids _ _⟩:aW) 378]) ⟨by rw [ep]; rfl,λw1 ho hh=>⟨kU (T:=378) hh (by simp),ho,kU (T:=378) hh (by simp),trivial,trivial⟩⟩ (by rw [ep]; rfl) zp w I
       | false =>
         obtain rfl:bq = true:=XE;have ep:tf p v (.node q u h l.tr r.tr) = (.node c0 0 false (.node p v true .nil .nil) (.node q u h l.tr r.tr),true):=by show Tr.put _ _ _ _ _ = _; rw [Tr.put,if_neg Te,if_neg e0,if_neg e1,QK,if_neg (by rw [hbp]; exact cL)]
         exact lu (PT.node JI c0 0 false (PT.node UB p v true .nil .nil) _,[Var UB gp (⟨p,v,true,kids .nil .nil⟩:aW) 378,Var JI gp (⟨c0,0,false,kids _ _⟩:aW) 378]) ⟨by rw [ep]; rfl,λw1 ho hh=>⟨kU (T:=378) hh (by simp),⟨kU (T:=378) hh (by simp),trivial,trivial⟩,ho⟩⟩ (by rw [ep]; rfl) zp w I
      ·refine (box aa (λUA=>?_));refine m295 ?_;refine dg eN (o2 rfl rfl) (λw I=>FI _ _ w hlt bp hbp) ?_;refine m87 ?_;refine j8 pA (aB.comp aW.u6 (rP _ _ (by omega))) (.t rfl) (.t (v:=(PT.node UA p v true .nil .nil).ptr.v) rfl) ?_;refine m192 ?_;refine done rfl (.tmp rfl (.tmp rfl .nil)) (λw I=>?_);cases bp with
       | true =>
         obtain rfl:bq = false:=XE;have ep:tf p v (.node q u h l.tr r.tr) = (.node c0 0 false (.node q u h l.tr r.tr) (.node p v true .nil .nil),true):=by show Tr.put _ _ _ _ _ = _; rw [Tr.put,if_neg Te,if_neg e0,if_neg e1,QK,if_pos hbp]
         exact lu (PT.node JI c0 0 false _ (PT.node UA p v true .nil .nil),[Var UA gp (⟨p,v,true,kids .nil .nil⟩:aW) 378,Var JI gp (⟨c0,0,false,kids _ _⟩:aW) 378]) ⟨by rw [ep]; rfl,λw1 ho hh=>⟨kU (T:=378) hh (by simp),ho,kU (T:=378) hh (by simp),trivial,trivial⟩⟩ (by rw [ep]; rfl) zp w I
       | false =>
         obtain rfl:bq = true:=XE;have ep:tf p v (.node q u h l.tr r.tr) = (.node c0 0 false (.node p v true .nil .nil) (.node q u h l.tr r.tr),true):=by show Tr.put _ _ _ _ _ = _; rw [Tr.put,if_neg Te,if_neg e0,if_neg e1,QK,if_neg (by rw [hbp]; exact cL)]
         exact lu (PT.node JI c0 0 false (PT.node UA p v true .nil .nil) _,[Var UA gp (⟨p,v,true,kids .nil .nil⟩:aW) 378,Var JI gp (⟨c0,0,false,kids _ _⟩:aW) 378]) ⟨by rw [ep]; rfl,λw1 ho hh=>⟨kU (T:=378) hh (by simp),⟨kU (T:=378) hh (by simp),trivial,trivial⟩,ho⟩⟩ (by rw [ep]; rfl) zp w I):p:=h
def s1 (h:p:=by
    refine m169 ?_;refine vL Qt Ew ad6 adX aa aa (λtc=>?_);refine m180 ?_;refine tn 9 rfl rfl ?_;refine tk 10 rfl (fA 1 aa) ?_;refine fB 11 rfl (j8 Hx de.u7 aa aa ?_);refine m180 ?_;refine D3 ?_;refine m2 ?_;refine mv rfl (nP (nx (i + 1,_,_,os ++ [x1.1],bY _ _ _ 363 :: Var x1.2 cU _ 199 :: Rs,λq=>if q = i.toNat then x1.2 else bs q) ⟨?_,?_,?_,?_⟩ ?_ (hL:=(by rw [qj l i hi.1 (by omega) cU.zero]; repeat first | exact aY _ | apply List.Sublist.cons_cons | apply List.Sublist.cons))))
    ·omega
    ·grind
    ·grind [UP]
    ·try dsimp only
     intro w1 hw q hq
     by_cases e:q = i.toNat
     ·subst e;have e1:(os ++ [x1.1]).getD i.toNat aM = x1.1:=by
       have:os.length = i.toNat:=by omega
       simp [List.getD,<- this]
      rw [if_pos rfl];show bU _ _ ((os ++ [x1.1]).getD i.toNat aM).v _ /\ _;rw [e1];exact ⟨bU.lJ (hw _ ah),nB (hw _ (aF _ ah))⟩
     ·have e1:(os ++ [x1.1]).getD q aM = os.getD q aM:=by
       have:q < os.length:=by omega
       simp [List.getD,jM,this]
      rw [if_neg e];show bU _ _ ((os ++ [x1.1]).getD q aM).v _ /\ _;rw [e1];exact hR w1 (λr hr=>hw r (aF _ (aF _ hr))) q (by omega)
    omega):p:=h
def s2 (h:p:=by
    refine tk 0 rfl (fA 0 aa) ?_;refine tk 1 rfl (Ev.gR h.src mR aa ae.mM) ?_;refine tk 3 rfl (fA 17 aa) ?_;refine tk 4 rfl (Ev.gR h.dst mR aa ae.nM) ?_;refine m198 ?_;refine fB 2 rfl (iP _ _ _ eN (o1 rfl) (λw I=>qv _ w) (λn1 _=>?_));refine m295 ?_;refine iP _ _ _ eN (o1 rfl) (λw I=>qv _ w) (λn2 _=>?_);refine m169 ?_;refine buildSlice Qs Bj z58 (.cons aa (.cons aa (.cons aa (.cons aa .nil)))) rfl rfl (λtc=>?_);refine m249 ?_;refine dg eN (o1 rfl) (λw I=>Rv _ _ w (MC.mk' (io w I) (.cons (xe zm w I) (.cons (xe zm w I) (.cons (io w I) (.cons (hb.cO I.keeps) .nil)))))) ?_;refine m180 ?_;refine tk 10 rfl (Ev.assign aa) ?_;refine m142 ?_;refine m16 ?_;refine co (Ev.Ya aa (.c (v:=rX 0) rfl)) ?_;refine m113 ?_;refine m28 ?_;refine nP ?_;refine ig rfl (λh1=>?_) (λh1=>?_)
    ·refine sg (ac (rX 65535) ?_);refine m190 ?_;unfold FX BC;rw [h0];have hs:∀ x y:UInt16,(x = 0 /\ h.bz = 17->y = 65535)->(¬ (x = 0 /\ h.bz = 17)->y = x)->y = if x = 0 /\ h.bz = 17 then 65535 else x:=by grind
     refine aL rX (hs _ _ (λe=>?_) (λe=>?_))
     ·rfl
     grind
    ·refine m73 ?_;refine m20 ?_;unfold FX BC;rw [h0];have hs:∀ x y:UInt16,(x = 0 /\ h.bz = 17->y = 65535)->(¬ (x = 0 /\ h.bz = 17)->y = x)->y = if x = 0 /\ h.bz = 17 then 65535 else x:=by grind
     refine aL rX (hs _ _ (λe=>?_) (λe=>?_))
     ·grind
     simp):p:=h
def s3 (h:p:=by
    refine m266 ?_;refine j8 MM (aB.id _) aa aa ?_;refine m180 ?_;refine fB 11 rfl (j8 MM (aB.id _) aa aa ?_);refine m51 ?_;refine seq (vE 2 rfl zr zk ?_);refine tk 0 rfl (fA 0 aa) ?_;refine m119 ?_;refine fB 4 rfl ((copyV (z:=iO.zero) pg jQ (aB.comp ae.mM bJ.D9) aa aa (by first | omega | (simp; done) | (simp; omega)) (λw I=>uz (ed (by repeat first | exact mH | apply mT | apply mA) (aB.id _) w I) (by decide) (by decide) (by decide)) zu ?_));refine m51 ?_;refine seq (vE 2 rfl zr zk ?_);refine tk 0 rfl (fA 17 aa) ?_;refine m119 ?_;refine fB 4 rfl ((copyV (z:=iO.zero) pg jQ (aB.comp ae.nM bJ.D9) aa aa (by first | omega | (simp; done) | (simp; omega)) (λw I=>uz (ed (by repeat first | exact mH | apply mT | apply mA) (aB.id _) w I) (by decide) (by decide) (by decide)) zu ?_));refine m51 ?_;refine m74 ?_;refine mv rfl (co (Ev.sP Y3 Hn aa) ?_);refine m81 ?_;refine m52 ?_;refine bR (pR ?_);refine m37 ?_;have n0:¬ b.length = 0:=by omega
    have e:dc b = (hd4 b,((gU b 2 2).1.toUInt16.toNat:Int),0):=by
     unfold dc;rw [if_neg n0,if_pos (show vI (b.getD 0 0) 4 = 4 from h1),if_neg (by omega),if_neg (λhc=>hc.elim (λk=>k h3.1) (λk=>k h3.2))]
    rw [e];refine aL (λz=>Value.tuple #[bm.val z,I _,I 0]) ?_;have v1:=uL (n:=4) (z:=iO.zero) (xs:=(b.take 16).drop 12) (by simp; omega);have v2:=uL (n:=4) (z:=iO.zero) (xs:=(b.take 20).drop 16) (by simp; omega);simp [hd4,Dn,aB.comp];exact ⟨⟨rfl,by rw [v1]; rfl⟩,⟨rfl,by rw [v2]; rfl⟩,rfl,rfl,rfl⟩):p:=h
def s4 (h:p:=by
    refine m180 ?_;refine fB 18 rfl (vL JR p8 YW YT aa aa (λtc=>?_));refine m180 ?_;refine tn 19 rfl rfl ?_;refine tk 20 rfl (fA 10 aa) ?_;refine fB 21 rfl (j8 Hz aQ.oR aa aa ?_);refine m180 ?_;refine D3 ?_;refine m2 ?_;refine mv rfl (nP (Sv (i3 + 1,_,_,_) ?_ ?_ (hL:=(by rw [qj l.us i3 hi3.1 (by omega) iK.zero,eF,eF,VZ l hi3.1]; repeat first | exact lP.nil | refine lP.cons zr ?_))))
    ·omega
    omega):p:=h
def s5 (h:p:=by
    refine m89 ?_;unfold vB;rw [<- Vx]
    first
     | (have g:(ss.getD s.stage.toNat da.zero).gV < d2:=h1
        rw [if_pos g]; rfl)
     | (have g:¬ (ss.getD s.stage.toNat da.zero).gV < d2:=h1
        first
         | (have g2:s.seen + 1 < (ss.getD s.stage.toNat da.zero).wait:=h2
            rw [if_neg g,if_pos g2]; rfl)
         | (have g2:¬ s.seen + 1 < (ss.getD s.stage.toNat da.zero).wait:=h2
            first
             | (have g3:(s.stage.toNat:Int) = (ss.length:Int) - 1:=h3
                rw [if_neg g,if_neg g2,if_pos g3]; rfl)
             | (have g3:¬ (s.stage.toNat:Int) = (ss.length:Int) - 1:=h3
                rw [if_neg g,if_neg g2,if_neg g3]; rfl)))):p:=h
def s6 (h:p:=by
    refine xi (fB 14 rfl ((app (E:=ky) tY oX Hq Hp (.t rfl) (.t rfl) (λtc=>?_) (hby:=⟨by (show _ <= 9223372036854775807); have:=jB (λj0:Nat=>g (xs.getD j0 E.zero) j0) d i.toNat; simp only [cK,aS,bw]; omega,by have:=jB (λj0:Nat=>g (xs.getD j0 E.zero) j0) d i.toNat; simp only [cK,aS,bw]; omega⟩))));refine m180 ?_;refine tn 15 rfl rfl ?_;refine tk 16 rfl (fA 0 (.t rfl)) ?_;refine fB 17 rfl (j8 yN cA.S2 (.t rfl) (.t rfl) ?_);refine m180 ?_;refine D3 ?_;refine m109 ?_;refine mv rfl (nP (nxo (i + 1,_) (hL:=(by rw [hst]; (try rw [<- bM]); repeat first | exact sR | exact sN | apply sC | apply sS | apply sA))))):p:=h
def s7 (h:p:=by
    refine xi (fB 13 rfl ((app (E:=ky) tY oX Hq Hp (.t rfl) (.t rfl) (λtc=>?_) (hby:=⟨by (show _ <= 9223372036854775807); have:=jB (λj0:Nat=>g (xs.getD j0 E.zero) j0) d m; simp only [cK,aS,bw]; omega,by have:=jB (λj0:Nat=>g (xs.getD j0 E.zero) j0) d m; simp only [cK,aS,bw]; omega⟩))));refine m180 ?_;refine tn 14 rfl rfl ?_;refine tk 15 rfl (fA 0 (.t rfl)) ?_;refine fB 16 rfl (j8 yN cA.S2 (.t rfl) (.t rfl) ?_);refine xi (D3 (pN (mt (_) trivial (hL:=(by unfold pI; rw [<- hm2]; (first | rw [if_pos (by omega),<- bM] | rw [if_neg (by omega),dS]); repeat first | exact sR | exact sN | apply sC | apply sS | apply sA)))))):p:=h
def s8 (h:p:=by
    refine mv rfl (co (Ev.Nw (.c rfl) aa (λ_=>zo)) ?_);refine co (Ev.M3 aa aa (λ_=>zo)) ?_;refine co (Ev.Jo Y5 Kb aa) ?_;refine cons (buildSlice pg jQ z5 (.cons aa .nil) rfl rfl (λtc=>?_));refine cons (app pg jQ Er Ho aa aa (λVX=>?_) (hby:=⟨by (show _ <= 9223372036854775807); grind,by grind⟩));refine m76 ?_;refine m19 ?_;refine co (Ev.uh aa (.c rfl) (λ_=>zo)) ?_;refine vK rfl (nP (nx (i - 1,_,_) ⟨?_,?_⟩ ?_))
    ·omega
    ·rw [<- hxs];have e:(i + 1).toNat = (i - 1 + 1).toNat + 1:=by omega
     have e3:(8 * i).toNat = 8 * (i - 1 + 1).toNat:=by omega
     rw [e,bM,jG,e3]
     rfl
    omega):p:=h
def s9 (h:p:=by
    refine xi (fB 13 rfl ((app tY oX Hq Hp aa aa (λtc=>?_) (hby:=⟨by (show _ <= 9223372036854775807); grind [jB,List.length_append],by grind [jB,List.length_append]⟩))));refine m180 ?_;refine tn 14 rfl rfl ?_;refine tk 15 rfl (fA 0 aa) ?_;refine fB 16 rfl (j8 yN cA.S2 aa aa ?_);refine xi (D3 (pN (mt (_) trivial (hL:=(by unfold pI; rw [<- hm2]; (first | rw [if_pos (by omega),<- bM] | rw [if_neg (by omega),dS]); repeat first | exact sR | exact sN | apply sC | apply sS | apply sA)))))):p:=h
def s10 (h:p:=by
    refine xi (fB 14 rfl ((app tY oX Hq Hp aa aa (λtc=>?_) (hby:=⟨by (show _ <= 9223372036854775807); grind [jB,List.length_append],by grind [jB,List.length_append]⟩))));refine m180 ?_;refine tn 15 rfl rfl ?_;refine tk 16 rfl (fA 0 aa) ?_;refine fB 17 rfl (j8 yN cA.S2 aa aa ?_);refine m180 ?_;refine D3 ?_;refine m2 ?_;refine mv rfl (nP (nxo (i + 1,_) (hL:=(by rw [hst]; (try rw [<- bM]); repeat first | exact sR | exact sN | apply sC | apply sS | apply sA))))):p:=h
def s11 (h:p:=by
    refine xi (fB 11 rfl ((app tY oX Hq Hp aa aa (λtc=>?_) (hby:=⟨by (show _ <= 9223372036854775807); have:=AN l; grind [List.length_nil,yO],by have:=AN l; grind [List.length_nil,yO]⟩))));refine m180 ?_;refine tn 12 rfl rfl ?_;refine tk 13 rfl (fA 0 aa) ?_;refine fB 14 rfl (j8 yN cA.S2 aa aa ?_);refine xi (D3 (pN (mt (_) trivial (hL:=(by unfold Du; (first | rw [if_pos hdb] | rw [if_neg hdb,dS]); repeat first | exact sR | exact sN | apply sC | apply sS | apply sA)))))):p:=h
def s12 (h:p:=by
    refine sg (ac (I 210) ?_);refine m10 ?_;have n1:¬ (qa r.name = false):=by simpa using h1
    have n2:¬ ((gB eqs r.name (uQ l)).getD 0 < i):=by simpa using h2
    have n3:¬ AW r.lK = false:=by
     have h3c:decide (J9 r.lK = 0) = true:=by simpa using h3
     rw [wN] at h3c;rw [h3c]; simp
    have n4:¬ (r.action < 1 \/ 4 < r.action):=by simpa using h4
    have n5:¬ Cm l r = true:=by
     rw [<- Bq]; simpa using h5
    have p6:(r.qc ≠ ⟨#[]⟩ /\ ZE (uW l) r.qc = false) \/ (r.mz ≠ ⟨#[]⟩ /\ ZE (sB l) r.mz = false):=by
     unfold ZE
     simp_all
    simp_all [tE,if_neg]):p:=h
def s13 (h:p:=by
    refine m202 ?_;refine m292 ?_;refine tk 3 rfl (fA 1 aa) ?_;refine tk 4 rfl (Ev.sk Oi jQ aa rfl rfl (λ_=>by decide)) ?_;refine fB 2 rfl (jW eN (o2 rfl rfl) (λw I=>yX _ _ _ w (zj w I) (by grind)) (λtc=>?_));refine xi (fB 5 rfl ((app pg jQ Er Ho aa aa (λVX=>?_) (hsrc:=(λw I=>uz (ed (by repeat first | exact mH | apply mT | apply mA) bJ.D9 w I) (by decide) (by decide) (by decide))) (hby:=⟨by (show _ <= 9223372036854775807); simp; omega,by simp; omega⟩))));refine m180 ?_;refine tk 6 rfl (Ev.assign aa) ?_;refine D3 ?_;refine m2 ?_;refine mv rfl (nP (nx (i + 1,_,_) ⟨?_,?_,?_⟩ ?_))
    ·omega
    ·rw [bM];refine Eq.trans (aL (λl=>xs ++ l) (Qr ([k.src,k.dst].getD i.toNat iz.zero) _ (by simp_all))) ?_
     grind [OM]
    ·simp; omega
    omega):p:=h
def s14 (h:p:=by
    refine m19 ?_;refine co (Ev.fe (fs:=_) (places:=[(0,1),(1,1),(2,1)]) MG rfl Y43 zk (.cons (.c rfl) (.cons (.c (v:=fO 2) rfl) (.cons (.c (v:=fO 1) rfl) .nil))) (bB.cons bj.oI rfl (bB.cons bj.sF rfl (bB.cons bj.wA rfl bB.nil)))) ?_;refine cons (buildSlice BY rI MG (.cons aa .nil) rfl rfl (λtc=>?_));refine cons (vL BY rI aah aag aa aa (λVX=>?_));refine m6 ?_;refine m48 ?_;refine done rfl (.tmp rfl .nil) (λw I=>?_);exact lu (VX,xs ++ [(⟨50,2,1⟩:bj)]) ⟨by grind,λq hq=>(bG.1 hq).elim (hxw q) λhq=>(by simp_all)⟩ rfl zp w I):p:=h
def s15 (h:p:=by
    refine m180 ?_;refine m280 ?_;refine vL Mx AH YU YR aa aa (λtc=>?_);refine m180 ?_;refine tn 13 rfl rfl ?_;refine tk 14 rfl (fA 9 aa) ?_;refine fB 15 rfl (j8 MN aQ.qp aa aa ?_);refine xi (D3 (pN (Xd (_,_) trivial)))):p:=h
def s16 (h:p:=by
    refine m266 ?_;refine vL Mx AH YU YR aa aa (λtc=>?_);refine m180 ?_;refine tn 11 rfl rfl ?_;refine tk 12 rfl (fA 9 aa) ?_;refine fB 13 rfl (j8 MN aQ.qp aa aa ?_);refine xi (D3 (pN (Xd (_) trivial)))):p:=h
def s17 (h:p:=by
    refine m80 ?_;refine co (Ev.F2 aa (.c rfl) (λ_=>by decide)) ?_;refine m0 ?_;refine m126 ?_;refine co (Ev.qW Kb Y5 aa) ?_;refine co (Ev.Gq aa aa) ?_;refine m283 ?_;refine mv rfl (nP (nx (i + 1,_) ⟨?_,?_⟩ ?_))
    ·omega
    ·rw [Ph xs i hi.1 (by omega),<- WW,<- hv]
     rfl
    omega):p:=h
def s18 (h:p:=by
    refine m268 ?_;refine nP (block (sg ?_));refine m132 ?_;refine m0 ?_;refine ig rfl (λh0=>?_) (λh0=>?_)
    ·refine sg (ac (I 20) ?_);refine m10 ?_;simp [gf, *]
    ·refine sg (co (Ev.Au aa (.c (v:=U8 17) rfl)) ?_);refine m0 ?_;refine ig rfl (λh1=>?_) (λh1=>?_)
     ·refine sg (ac (I 8) ?_);refine m10 ?_;simp [gf, *]
     ·refine m23 ?_;simp [gf, *]):p:=h
def s19 (h:p:=by
    try dsimp only
    first
     | (have hp:gf h.bz = 0:=h3
        show _ = TH _;unfold TH;rw [if_pos (show gf (Ee (Bs (yt (uA h)))).bz = 0 from hp),if_pos (show gf (Ee (Bs (yt (uA h)))).bz = 0 from hp)]; rfl)
     | (have hp:¬ gf h.bz = 0:=h3
        show _ = TH _;unfold TH;rw [if_neg (show ¬ gf (Ee (Bs (yt (uA h)))).bz = 0 from hp),if_neg (show ¬ gf (Ee (Bs (yt (uA h)))).bz = 0 from hp)])):p:=h
def s20 (h:p:=by
    try dsimp only
    first
     | (have hp:¬ h.bz = 6:=h2
        show _ = Ee _;unfold Ee;rw [if_neg (show ¬ (Bs (yt (uA h))).bz = 6 from hp),if_neg (show ¬ (Bs (yt (uA h))).bz = 6 from hp)]; rfl)
     | (have hp:h.bz = 6:=show (Bs (yt (uA h))).bz = 6 by simpa using h2
        show _ = Ee _;unfold Ee;rw [if_pos (show (Bs (yt (uA h))).bz = 6 from hp),if_pos (show (Bs (yt (uA h))).bz = 6 from hp)])):p:=h
theorem s21 (h:p:=by
 refine m180 ?_;refine fB 14 rfl (vL Y71 Re aed ad3 aa aa (λtc=>?_));refine m180 ?_;refine tn 15 rfl rfl ?_;refine tk 16 rfl (fA 1 aa) ?_;refine tk 17 rfl (fA 0 aa) ?_;refine fB 18 rfl (j8 V5 (aB.comp cz.sG fU.BM) aa aa ?_);refine m51 ?_;exact λa w G=>OL _ qd hN hk hl hO hi hal a w (G.sub (by repeat first | exact Sub.nil | refine Sub.cons rfl ?_) (nI _ _))):p:=h
def s22 (h:p:=by
    refine m180 ?_;refine m240 ?_;refine tk 14 rfl (Ev.assign aa) ?_;refine m142 ?_;refine m1 ?_;refine nP ?_;refine nG rfl (λh0=>?_) (λh0=>?_)
    ·refine m1 ?_;refine ac (I 3) ?_;refine m48 ?_;refine pR ?_;refine m55 ?_
     simp_all
    ·refine m153 ?_;refine ac (I 4) ?_;refine ac (I (-1)) ?_;refine m284 ?_;refine m55 ?_
     simp_all):p:=h
def s23 (h:p:=by
    have hi1:(i + 1).toNat = 0:=by omega
    rw [hi1] at hxs;simp only [g8,dS] at hxs;subst hxs;refine m85 ?_;refine m230 ?_
    rfl):p:=h
def s24 (h:p:=by
    refine m15 ?_;refine box aa (λQl=>?_);refine m159 ?_;refine m49 ?_;refine nP ?_;refine ig rfl (λh0=>?_) (λh0=>?_)
    ·refine sg (ac (I 40) ?_);refine m190 ?_
     first | rfl | simp [dG, *]
    ·refine m153 ?_;refine ac (I 20) ?_;refine nP ?_;refine m123 ?_
     first | rfl | simp [dG, *]):p:=h
def s25 (h:p:=by
    first
     | (have e:¬ (0 <= p /\ p + (2:Nat) <= b.length):=by omega
        unfold gU; rw [if_neg e]; rfl)
     | (have e:0 <= p /\ p + (2:Nat) <= b.length:=by omega
        have ei:i.toNat = 2:=by omega
        rw [ei,bH (by omega)] at hv;unfold gU; rw [if_pos e];have hxs':(b.take (p + (2:Nat)).toNat).drop p.toNat = xs:=hxs;rw [hxs',<- hv]; rfl)):p:=h
def s26 (h:p:=by
    first
     | (have e:¬ (0 <= p /\ p + (4:Nat) <= b.length):=by omega
        unfold gU; rw [if_neg e]; rfl)
     | (have e:0 <= p /\ p + (4:Nat) <= b.length:=by omega
        have ei:i.toNat = 4:=by omega
        rw [ei,bH (by omega)] at hv;unfold gU; rw [if_pos e];have hxs':(b.take (p + (4:Nat)).toNat).drop p.toNat = xs:=hxs;rw [hxs',<- hv]; rfl)):p:=h
def s27 (h:p:=by
    have hc:sx (Utf8.decode s i).1 i = true:=by
     unfold sx
     first
      | (rw [h2]; rfl)
      | (rw [h3]; simp)
    grind [E2]):p:=h
def s28 (h:p:=by
    refine ac _ ?_;refine m62 ?_;refine m75 ?_
    simp_all):p:=h
def s29 (h:p:=by
    simp only [Tr.eY,bG] at hx
    rcases hx with hx | hx | hx
    ·split at hx
     ·simp only [cq] at hx; rw [hx]; exact jS _
     ·simp at hx
    ·exact qQ (inl x hx)
    ·exact qQ (inr x hx)):p:=h
def s30 (h:p:=by
    refine m284 ?_;refine bR (pR (done rfl (.cellP rfl rm (ed zm (aB.id _)) (.tmp rfl (.tmp rfl .nil))) (λw I=>?_)));exact Cp (by grind [pD]) (by decide) w I):p:=h
def s31 (h:p:=by
    refine m28 ?_;refine m20 ?_
    rfl):p:=h
def s32 (h:p:=by
    rw [bL (by omega)];exact ea (by rw [S.size]; omega)):p:=h
def s33 (h:p:=by
    refine m230 ?_;simp):p:=h
def s34 (h:p:=by
    subst e;rw [e4 rfl,upd_same];refine .inr ⟨λh=>absurd h.1 (Nat.not_succ_le_zero 1),?_⟩;cases b with
    | false=>exact .inl ⟨va,rfl,by rw [hx3 rfl]; exact av.rr _ _,λh=>absurd h (oM)⟩
    | true=>exact .inr ⟨va,oM⟩):p:=h
theorem s35 (h:p:=by
 rw [upd_ne D _ e,<- e3 e];refine .inr ⟨λh=>absurd h.1 (Nat.not_succ_le_zero 1),?_⟩
 rcases S.now y a0 e1 with ⟨_,h,_⟩ | ⟨_,h⟩
 ·exact absurd h e
 ·exact h.imp (λ⟨p,q,r,_⟩=>⟨p,q,av.rs r (cN e) C9,λh=>absurd h (oM)⟩) id):p:=h
def s36 (h:p:=by
    refine mv rfl (nP (nx (i + 1) ?_ ?_ (hL:=(by (first | rw [qU _ _ _ E.zero (by omega) h1] | rw [wJ _ _ _ E.zero (by omega) h1]); exact zs))))
    ·try dsimp only
     omega
    ·try dsimp only
     first | omega | (simp; omega)):p:=h
def s37 (h:p:=by
    simp only [aC.bT,aE,aU,dj] at hb
    rcases hb with rfl | rfl | rfl | rfl | rfl
    ·have⟨e,h⟩:=M.cells; exact c h rfl
    ·exact c M.ct rfl
    ·exact c M.ce rfl
    ·exact c M.cs rfl
    ·have⟨e,h⟩:=M.box; exact c h rfl):p:=h
def s38 (h:p:=by
    have hc:sx (Utf8.decode s i).1 i = true:=by
     unfold sx
     (rw [h2]; rfl)
    grind [E2]):p:=h
def s39 (h:p:=by
    have⟨l',g',w',es,h1,h2,h3⟩:=hs.2 hf;exact .inr λ_=>.inl ⟨rfl,g',l,l',w',es,hv1,h1,h3.1,h2,h3.2 _ (eJ (aG hv1)) (yK _ _ _ hv1 (by cases h2 <;> first | exact .inl rfl | exact .inr (by simp)) (hB _ _ hb mt.grow))⟩):p:=h
def s40 (h:p:=by
    rcases dx hy with ⟨_,h1⟩ | ⟨_,h1⟩
    ·exact S.xQ y op h1
    grind):p:=h
def s41 (h:p:=by
    rw [bL (by omega),bL (by omega)]):p:=h
def s42 (h:p:=by
    rcases hy with hy | ⟨y',h1,h2,h3⟩
    ·exact .inl hy
    ·refine .inr ⟨y',h1,h2,λe=>?_⟩
     by_cases e':y' = k'
     ·subst e'; rw [hx] at e; cases e
     ·rw [upd_ne D _ e'] at h3; exact h3 e):p:=h
def s43 (h:p:=by
    rw [bL (by omega),fE] at hi;obtain⟨z,hz,rfl⟩:=cd.1 hi;have hq:=S.old y z hy0 Vu hz;rw [woken_quitsD hq,Deaf_other t (by omega) _ ho];exact hq):p:=h
def s44 (h:p:=by
    refine ConcN.Mode.retag ?_ (FV hbl λe=>?_)
    ·refine S.mode.congr λi hi=>?_
     grind [upd_same,upd_ne,pf]
    ·have⟨_,_,hM⟩:=S.main;subst e;cases hM with
     | hold _ _ _ _ h5=>grind):p:=h
def s45 (h:p:=by
    refine skip (pN (mt (_) trivial (hL:=(by unfold pI; rw [<- hm2]; (first | rw [if_pos (by omega),<- bM] | rw [if_neg (by omega),dS]); repeat first | exact sR | exact sN | apply sC | apply sS | apply sA))))):p:=h
def s46 (h:p:=by
    refine m180 ?_;refine m240 ?_;refine D3 (pN (Xd (_) trivial))):p:=h
def s47 (h:p:=by
    rcases hy with hy | ⟨y',h1,h2,h3⟩
    ·exact .inl hy
    ·refine .inr ⟨y',h1,h2,λe=>?_⟩
     by_cases e':y' = k
     ·subst e'; rw [hx] at e; cases e
     ·rw [upd_ne D _ e'] at h3; exact h3 e):p:=h
def s48 (h:p:=by
    refine m85 ?_;refine m48 ?_;refine done rfl (.tmp rfl .nil) (λw I=>?_);have hil:i.toNat = xs.length:=by omega
    rw [hil] at I;exact tU b1 trivial rfl zs w I):p:=h
def s49 (h:p:=by
    rintro e w' ⟨t,⟨rfl,_⟩,hv,hkp,ha,hf⟩;exact ⟨(),trivial,hv,hkp,ha,hf⟩):p:=h
def s50 (h:p:=by
    exact ⟨rfl,λ⟨a,e,e2⟩=>by cases e; exact (S.rn a' (ai ha') _ (by simp [aC.bT])).2.2.2 e2,S.wb rfl (.inl (S.Gb (S.rn a' (ai ha') _ (by simp [aC.bT])).1))⟩):p:=h
def s51 (h:p:=by
    refine tk 6 rfl (Ev.sP Y3 Hn aa) ?_;refine fB 7 rfl (dg eN (o2 rfl rfl) (λw I=>Eu _ _ w) ?_);refine m233 ?_;refine m123 ?_
    rfl):p:=h
def s52 (h:p:=by
    exact (by repeat first | refine lP.cons (by repeat first | exact lC.head | apply lC.tail | apply lC.app) ?_ | exact lP.of (by repeat first | exact sR | apply sS | exact jX _ _))):p:=h
theorem s53 (h:p:=by
 rw [upd_ne D _ e]
 rcases S.now y b hy with ⟨h,_⟩ | ⟨_,h⟩
 ·simp at h
 ·exact .inr ⟨λh=>e h.2,h.imp (λ⟨p,q,r,_⟩=>⟨p,q,r,λh=>by simp at h⟩) id⟩):p:=h
def s54 (h:p:=by
    rcases qY hz with ⟨_,h⟩ | ⟨_,h⟩ | ⟨_,_,_,h⟩ | h
    ·grind [wV,pL,slot]
    ·grind [Dx,pL,slot]
    ·exact absurd h (V.me b j z)
    ·simp [slot,dummy] at h):p:=h
def s55 (h:p:=by
    subst hkn;refine m85 ?_;refine m20 ?_
    rfl):p:=h
def s56 (h:p:=by
    exact ea (by simp [S.size]; omega)):p:=h
def s57 (h:p:=by
    cases hM with
    | hold _ _ h3=>exact h3.qk ha
    | send _ h3=>exact h3.qk ha
    | mV h3=>exact h3.qk ha
    | wait h3=>exact h3.qk ha):p:=h
def s58 (h:p:=by
    exact KH (λb hb=>(Hl b hb).1) t2 ⟨W.tr Vv.2.1 GJ.2.1,GJ.2.2.1,GJ.1,by omega⟩ rfl zm (λb hb=>((I.own _ (show S t2 ∈ _ from zm)).2 b hb).1.elim (hUf b) (·.1)) w I):p:=h
def s59 (h:p:=by
    try dsimp only
    first
     | exact (TI h (show (uA h).src.v6 = true by simpa using h0)).symm
     | (rw [PL h hv]; rfl)):p:=h
def s60 (h:p:=by
    exact Prod.Lex.right _ (Prod.Lex.right _ (Prod.Lex.right _ (Prod.Lex.left _ _ (by omega))))):p:=h
def s61 (h:p:=by
    rcases hy with ⟨_,h⟩ | ⟨y',h1,h2,h3⟩
    ·simp at h
    ·refine .inr ⟨y',h1,h2,?_⟩;rw [upd_ne D _ (λe=>hyj (by rw [h2,e]))]; exact h3):p:=h
def s62 (h:p:=by
    refine fB 6 rfl (dg eN (o2 rfl rfl) (λw I=>NN _ _ w) ?_);refine m180 ?_;refine m285 ?_;refine m142 ?_;refine m123 ?_
    rfl):p:=h
def s63 (h:p:=by
    have e:(i + 1).toNat = i.toNat + 1:=by omega
    rw [e,dR (by omega)]; simp [List.getD,show i.toNat < rl.length by omega]):p:=h
def s64 (h:p:=by
    exact tU v3 (λhn=>absurd hn h0) (by rw [if_neg h0,e]; rfl) (by grind) w I):p:=h
def s65 (h:p:=by
    have:=h.gm;cases al with
    | nil=>exact this
    | cons a r=>exact ⟨this.1,keep (.inr ⟨a,by simp,by simp [aC.bT]⟩) this.2⟩):p:=h
def s66 (h:p:=by
    show _ = Value.tuple #[.pointer (plO l c.default _),Gx.I (Vn l c.default)];unfold plO Vn
    simp_all):p:=h
def s67 (h:p:=by
    rw [Cj hk];exact .mV hVM (by simpa [World.setChan] using hvs) hxt hk hl rfl (hway _ (hVM.qk (ai hk)))):p:=h
def s68 (h:p:=by
    have h1:=S.H9.1;rw [<- e,(S.rn (1,s) (ai hk) s.cs (by simp [aC.bT])).1] at h1;cases h1):p:=h
def s69 (h:p:=by
    subst e;rw [hk] at hy; cases hy;rw [upd_same];exact .inl ⟨aA _,rfl,rfl,.inl rfl,rfl⟩):p:=h
def s70 (h:p:=by
    refine m94 ?_
    simp_all [uX,if_pos]):p:=h
def s71 (h:p:=by
    refine m270 ?_;refine m20 ?_
    rfl):p:=h
theorem s72 (h:p:=by
 rcases m' with _ | _ | m'
 ·exact absurd rfl ZP
 ·rfl
 ·simp [lq] at XD):p:=h
theorem s73 (h:p:=by
 rcases m' with _ | _ | m'
 ·exact absurd rfl ZP
 ·rfl
 ·simp [ic] at XD):p:=h
def s74 (h:p:=by
    refine skip ?_;exact Sat.sub (by repeat first | exact Sub.nil | refine Sub.cons rfl ?_) (aY _) next):p:=h
def s75 (h:p:=by
    have⟨o',h1,h2,_⟩:=hw b hf;rw [hz] at h1; cases h1;rw [jH hr.pL] at h2; cases h2):p:=h
def s76 (h:p:=by
    subst e;have⟨_,_,o,h1,h2⟩:=hH _ (.inl rfl);have:=hv o h1
    grind [jH]):p:=h
def s77 (h:p:=by
    have⟨_,_,o,h1,h2⟩:=hH b hx;have:=(av.iL hsu hb).1 o h1;rw [jH h2] at this; cases this):p:=h
def s78 (h:p:=by
    refine mv rfl (nP (nx (k + 1,_) ⟨?_,?_⟩ ?_))
    ·omega
    ·assumption
    omega):p:=h
def s79 (h:p:=by
    by_cases hp:fq b
    ·exact .inr (Classical.not_not.1 λe=>hn ⟨hp,e⟩)
    ·exact .inl hp):p:=h
def s80 (h:p:=by
    have⟨L,e,h1,h2⟩:=h.oe a ha;exact ⟨L,e,keep (.inr ⟨a,ha,by simp [aC.bT]⟩) h1,h2⟩):p:=h
def s81 (h:p:=by
    exact Gv (Q:=λw x d=>aZ.ok w x H d) l5 n5 (λw x d ⟨_,_,_,_,_,h,_⟩=>h.1)):p:=h
def s82 (h:p:=by
    rw [dR hj];have e:xs.getD j 0 = xs[j]:=by simp [List.getD,hj]
    rw [e]
    rfl):p:=h
def s83 (h:p:=by
    exact Gv (Q:=λw x d=>bQ.ok w x H d) l4 n4 (λw x d ⟨_,_,_,_,_,h,_⟩=>h.1)):p:=h
def s84 (h:p:=by
    have⟨o,h1,h2⟩:=h.ch a ha b hb;exact ⟨o,keep (.inr ⟨a,ha,by grind [aC.bT]⟩) h1,h2⟩):p:=h
def s85 (h:p:=by
    rcases hn with ⟨h,_⟩ | ⟨_,⟨_,_,h,_⟩ | ⟨h,_⟩⟩
    ·simp at h
    ·exact h
    ·cases h):p:=h
def s86 (h:p:=by
    exact Gv (Q:=λw x d=>cS.ok w x H d) l3 n3 (λw x d ⟨_,_,_,_,_,h,_⟩=>h.1)):p:=h
def s87 (h:p:=by
    refine xi (D3 (pN (Xd (_,_) ⟨?_,?_⟩)))
    ·simp; omega
    simp; omega):p:=h
def s88 (h:p:=by
    refine m151 ?_;refine vL JQ sj YV YS aa aa (λtc=>?_);refine m180 ?_;refine tn 8 rfl rfl ?_;refine tk 9 rfl (fA 0 aa) ?_;refine fB 10 rfl (j8 Ra de.sH aa aa ?_);refine m51 ?_;refine draw [Var b2 cU (l.getD i.toNat cU.zero) 199] zk ?_;refine m11 ?_;refine tk 3 rfl (fA 1 aa) ?_;refine tk 5 rfl (Ev.gS sj aa (aB.id _)) ?_;refine all [4,6] zk (by decide) (.cons rfl ?_ (.cons rfl ?_ .nil))
    ·refine BF (Ev.gS Hx aa de.u7) ?_;refine m244 ?_;refine iP (X:=OV × Nat) _ _ (λx=>[bY x.1.v _ (yC (l.getD i.toNat cU.zero) x.2) 363,Var x.2 cU (l.getD i.toNat cU.zero) 199]) eN (o1 rfl) (λw I=>Ba _ w) (λx1 _=>?_);refine m151 ?_;refine buildSlice Qt Ew aaj (.cons aa .nil) rfl rfl (λVX=>?_);exact s1
    ·refine (iP (X:=OV × Nat) _ _ (λx=>[bY x.1.v _ (yC (l.getD i.toNat cU.zero) x.2) 363,Var x.2 cU (l.getD i.toNat cU.zero) 199]) eN (o1 rfl) (λw I=>Ba _ w) (λx1 _=>?_));refine xi (all [4,7] zk (by decide) (.cons rfl ?_ (.cons rfl ?_ .nil)))
     ·refine BF (Ev.gS Hx aa de.u7) ?_;refine m151 ?_;refine buildSlice Qt Ew aaj (.cons aa .nil) rfl rfl (λamq=>?_);exact s1
     ·refine (buildSlice Qt Ew aaj (.cons aa .nil) rfl rfl (λamp=>?_));refine m139 ?_;refine BF (Ev.gS Hx aa de.u7) ?_;exact s1):p:=h
def s89 (h:p:=by
    refine m180 ?_;refine fB 15 rfl ?_;refine m56 ?_;refine fB 17 rfl (buildSlice JR p8 vH (.cons aa .nil) rfl rfl (λtc=>?_));exact s4):p:=h
def s90 (h:p:=by
    have h3c:decide (J9 r.lK = 0) = true:=by simpa using h3
    rw [wN] at h3c;rw [h3c]; simp):p:=h
def s91 (h:p:=by
    refine m151 ?_;refine vL pg jQ Er Ho aa aa (λtc=>?_);refine m233 ?_;refine seq (o9 zk ?_);exact s2):p:=h
def s92 (h:p:=by
    refine mv rfl (nP (nxo (i + 1,_) (hL:=(by rw [hst]; (try rw [<- bM]); repeat first | exact sR | exact sN | apply sC | apply sS | apply sA))))):p:=h
def s93 (h:p:=by
    refine fB 11 rfl ((alloc vH (λQl=>?_)));refine m180 ?_;refine m280 ?_;refine j8 p8 (aB.id _) aa aa ?_;exact s46):p:=h
def s94 (h:p:=by
    refine m180 ?_;refine fB 11 rfl (buildSlice Mx AH VI (.cons aa .nil) rfl rfl (λtc=>?_));exact s15):p:=h
def s95 (h:p:=by
    refine m249 ?_;refine buildSlice Mx AH VI (.cons aa .nil) rfl rfl (λtc=>?_);exact s16):p:=h
end Go.Gx
namespace Go.Gx
open Go Go.RowKit
variable {β α γ X:Type} {F:Fr} {g gz b:Bool} {rest:List Oper} {v u v':Value} {s o off s' fuel:Nat} {c:Code} {E:dy α} {xs:List α} {T:TypeId} {fn:Func} {p q:Prop} {Lq:List du} {listed:Array Bool} {J:X->Prop} {Fx:X->Fr} {Lx:X->List du} {μ:X->Nat}
section
variable {P:Program}
variable {K:Ctx} {L:List du} {Q:Exit->Act->World->Prop} {N:Act->World->Prop} {ops:Array Oper} {op:Op} {ty t t':TypeId} {pos:String} {af:Array Edge} {d:Nat} {x y z:Operand}
def co (h:Ev P K F L true op ty v) (next:Sat K (wpList P K ops Q rest) ((d,true,v) :: F) L) (hd:Nat.blt d K.n = true:=by rfl):Sat K (wpList P K ops Q (⟨some d,op,ty,pos,af,none⟩ :: rest)) F L:=cons (BF h next hd)
def mv (h:look F s = some (true,v)) (next:Sat K (wpList P K ops Q rest) ((d,true,v) :: F) L) (hd:Nat.blt d K.n = true:=by rfl):Sat K (wpList P K ops Q (⟨some d,.move (.tmp s),ty,pos,af,none⟩ :: rest)) F L:=cons (BF (Ev.move (.t h)) next hd)
def vK (h:look F s = some (true,v)) (next:Sat K (wpList P K ops Q rest) ((d,true,v) :: F) L) (hd:Nat.blt d K.n = true:=by rfl):Sat K (wpList P K ops Q (⟨some d,.assign (.tmp s),ty,pos,af,none⟩ :: rest)) F L:=cons (BF (Ev.assign (.t h)) next hd)
theorem sg {id:Nat} {l:List Oper} {y:Code} (h:Sat K (wpList P K l.toArray (Exit.then (y.oV P K Q) Q) l) F L):Sat K ((Code.seq (Code.region id l.toArray false) y).oV P K Q) F L:=seq (region h)
def nP (h:Sat K N F L):Sat K (wpList P K ops (Exit.then N Q) []) F L:=nil (pN h)
def cg {j tg:Nat} {want c1 c2:Bool} (hj:(ops[j]?).bind (·.dst) = some tg) (hg:look F tg = some (c1,.bool c2))
    (h:Ev P K F L (c1 && (c2 == want)) op ty v) (next:Sat K (wpList P K ops Q rest) ((d,(c1 && (c2 == want)),v) :: F) L) (hd:Nat.blt d K.n = true:=by rfl) :
    Sat K (wpList P K ops Q (⟨some d,op,ty,pos,af,some (j,want)⟩ :: rest)) F L:=cons (opg hj hg h next hd)
theorem Ev.D2 {c:Bool} (hx:cV F g x (.bool b)) (hy:look F s = some (gz,.bool c)) (hgz:g = true->b = true->gz = true:=by intro h1 h; first | (rw [h] <;> rfl) | (rw [h1,h] <;> rfl) | (rw [h,h1] <;> rfl) | simp_all) :
 Ev P K F L g (.pick x (.tmp s) (.const (.bool false))) ty (.bool (b && c)):=Ev.afj hx (λ{_} h=>by grind) ⟨_,rfl⟩ hgz (.c rfl)
theorem Ev.pkO {c:Bool} (hx:cV F g x (.bool b)) (hy:look F s = some (gz,.bool c)) (hgz:g = true->b = false->gz = true:=by intro h1 h; first | (rw [h] <;> rfl) | (rw [h1,h] <;> rfl) | (rw [h,h1] <;> rfl) | simp_all) :
 Ev P K F L g (.pick x (.const (.bool true)) (.tmp s)) ty (.bool (b || c)):=Ev.afi hx (.c rfl) (λ{_} h=>by grind) ⟨_,rfl⟩ hgz
def io (w:World) (h:bS K L w) (hm:bY v E xs T ∈ L:=by repeat first | exact mH | apply mT | apply mA):bU E w v xs:=kY hm w h
def am {r:du} (w:World) (I:bS K L w) (h:r ∈ L:=by repeat first | exact mH | apply mT | apply mA):At r w:=at_mem h w I
def fA (o:Nat) {b f:Nat} (hx:cV F g x (.pointer (some ⟨b,off,none⟩)))
    (hf:(P.underlying s).bind (λd=>match d with | .struct fs=>(fs[f]?).bind (λfd=>(P.info? fd.type).map (λi=>(fd.offset,Nat.beq i.size 0))) | _=>none) = some (o,false):=by kernel_rfl) :
    Ev P K F L g (.fieldAddr s x f) ty (.pointer (some ⟨b,off + o,none⟩)):=Ev.fieldAddr hx hf
def iZ {f:FuncId} {args:Array Value} {w:World} {R:ja} (n:Nat)
    (hf:P.funcs[f]? = some fn) (h:∀ X fr,Sat ⟨n,w,R.M,⟨X,fr,none⟩⟩ (c.vp P ⟨X,fr,none⟩ (tI w R.M) (bodyPost P ⟨n,w,R.M,⟨X,fr,none⟩⟩ fn R)) (dz :: tO 0 args.toList) []) (hb:fn.body = some c:=by rfl) (hn:fn.ntmps = n:=by rfl) (hsz:args.size <= n:=by exact aT rfl) (BO:Nat.ble n 1000000 = true:=by rfl):Calls P f args w R:=T4 n hf hb hn hsz h BO
def zf (h:∀ w,bS K L w->bU E w v xs:=by first | exact kY (by repeat first | exact mH | apply mT | apply mA) | exact λw I=>bU.cO (by assumption) I.keeps):∀ w,bS K L w->bU E w v xs:=h
end
def zm (h:p:=by repeat first | exact mH | apply mT | apply mA):p:=h
def zr (h:p:=by repeat first | exact lC.head | apply lC.tail):p:=h
def zu (h:p:=by repeat first | exact mS.head | apply mS.tail | apply mS.right):p:=h
def zs (h:p:=by repeat first | exact sR | exact sN | apply sC | apply sS | apply sA):p:=h
def zl (h:p:=by simp only [cK,aS,bw]; omega):p:=h
def zk (h:p:=by kernel_rfl):p:=h
def zo (h:p:=by omega):p:=h
def lI {E0:dy α} (to:α->β) (of:β->α) {E':dy γ} (l:aB E0 E' o) (h:∀ x,of (to x) = x:=by exact λ_=>rfl):aB (l8 E0 to of) E' o:=ai6 E0 to of h l
def l2 {α:Type} {A:dy α} {B:dy β} {E:dy γ} (l:aB B E o):=aB.comp (ai5 A B) l
def l1 {α β:Type} {A:dy α} {B:dy β}:=ai7 A B
abbrev jc (b:Nat):Value:=.pointer (some ⟨b,0,none⟩)
section
variable {P:Program}
variable {K:Ctx} {L:List du} {Q:Exit->Act->World->Prop} {N:Act->World->Prop} {ops:Array Oper} {op:Op} {ty t t':TypeId} {pos:String} {af:Array Edge} {d:Nat} {x y z:Operand}
def ac {c:Value} (v:Value) (next:Sat K (wpList P K ops Q rest) ((d,true,v) :: F) L) (h:c = v:=by rfl) (hd:Nat.blt d K.n = true:=by rfl):Sat K (wpList P K ops Q (⟨some d,.assign (.const c),ty,pos,af,none⟩ :: rest)) F L:=cons (BF (Ev.assign (.c h)) next hd)
def dn {n:Nat} {e0:En} {w0:World} (hr:fn.results = #[.tmp s]) (h:look F s = some (true,v)) (e:ug [v] = u) (hD:ie F 1000000 = some (true,Lb []):=by rfl):Sat ⟨n,w0,fX,e0⟩ (bodyPost P ⟨n,w0,fX,e0⟩ fn (dO w0 u) .ret) F L:=done (rs:=[.tmp s]) hr (.tmp h .nil) (Cq e) hD
def vL {ys:List α} {L':Value->List du} {z:Value} {Qf:Nat} (ht:P.underlying t = some (.slice T)) (TT:jK P T E)
    (hz:(P.info? T).map (λi=>(i.zero,i.bytes)) = some (some z,Qf)) (Vt:z.cells.size = E.size) (hx:cV F true x v) (hy:cV F true y u) (next:∀ o:OV,Sat K N ((d,true,o.v) :: F) (L' o.v))
    (hsz:Nat.blt 0 E.size = true:=by rfl)
    (hu:∀ v',mS L (bY v E xs T) (bY v' E (xs ++ ys) T) (L' v'):=by intro _; repeat first | exact mS.head | apply mS.tail | apply mS.right)
    (hsrc:∀ w,bS K L w->bU E w u ys:=by first | exact kY (by repeat first | exact mH | apply mT | apply mA) | exact λw I=>bU.cO (by assumption) I.keeps)
    (hby:xs.length + ys.length <= maxLen /\ (xs.length + ys.length) * Qf <= 140737488355328:=by exact ⟨by (show _ <= 9223372036854775807); first | omega | (simp; done) | (simp; omega),by first | omega | (simp; done) | (simp; omega)⟩) (hd:Nat.blt d K.n = true:=by rfl) :
    Sat K (dw P K ops Q ⟨some d,.call { callee:=.builtin .append,args:=#[x,y],argTypes:=#[t,t] },ty,pos,af,none⟩ N) F L :=
 append ht TT hsz hz Vt hx hy hu hsrc hby next hd
theorem o1 (h:look F s = some (true,v)):lM F true [.tmp s] [v]:=.cons (.t h) .nil
theorem o2 (h:look F s = some (true,v)) (h':look F s' = some (true,v')):lM F true [.tmp s,.tmp s'] [v,v']:=.cons (.t h) (o1 h')
theorem o3 {s'':Nat} {v'':Value} (h:look F s = some (true,v)) (h':look F s' = some (true,v')) (h'':look F s'' = some (true,v'')):lM F true [.tmp s,.tmp s',.tmp s''] [v,v',v'']:=.cons (.t h) (o2 h' h'')
theorem tm (i:Nat) (hi:ops[i]? = some ⟨some d,.move (.tmp s),ty,pos,af,none⟩) (h:look F s = some (true,v))
 (next:Sat K (nk P K ops Q Lq fuel (listed.setIfInBounds i true)) ((d,true,v) :: F) L) (hs:Region.noSelect ops = true:=by kernel_rfl)
 (hf:Region.free .any ops listed i = true:=by kernel_rfl) (hr:(Region.ready .any ops listed).contains i = true:=by kernel_rfl)
 (hL:Lq.Sublist L:=by repeat first | exact sR | exact sN | apply sC | apply sS | apply sA) (hd:Nat.blt d K.n = true:=by rfl) :
 Sat K (nk P K ops Q Lq (fuel + 1) listed) F L:=take i hi hs hf hr hL (Ev.move (.t h)) next hd
theorem tn {a:Addr} (i:Nat) (hi:ops[i]? = some ⟨some d,.nilCheck (.tmp s),ty,pos,af,none⟩) (h:look F s = some (true,.pointer (some a)))
 (next:Sat K (nk P K ops Q Lq fuel (listed.setIfInBounds i true)) ((d,true,.pointer (some a)) :: F) L) (hs:Region.noSelect ops = true:=by kernel_rfl)
 (hf:Region.free .any ops listed i = true:=by kernel_rfl) (hr:(Region.ready .any ops listed).contains i = true:=by kernel_rfl)
 (hL:Lq.Sublist L:=by repeat first | exact sR | exact sN | apply sC | apply sS | apply sA) (hd:Nat.blt d K.n = true:=by rfl) :
 Sat K (nk P K ops Q Lq (fuel + 1) listed) F L:=take i hi hs hf hr hL (Ev.nilCheck (.t h)) next hd
def cf (o:Nat) {b f q:Nat} (h:look F q = some (true,.pointer (some ⟨b,off,none⟩))) (next:Sat K (wpList P K ops Q rest) ((d,true,.pointer (some ⟨b,off + o,none⟩)) :: F) L)
    (hf:(P.underlying s).bind (λd=>match d with | .struct fs=>(fs[f]?).bind (λfd=>(P.info? fd.type).map (λi=>(fd.offset,Nat.beq i.size 0))) | _=>none) = some (o,false):=by kernel_rfl) (hd:Nat.blt d K.n = true:=by rfl) :
    Sat K (wpList P K ops Q (⟨some d,.fieldAddr s (.tmp q) f,ty,pos,af,none⟩ :: rest)) F L:=cons (BF (Ev.fieldAddr (.t h) hf) next hd)
def cx {i:Nat} {vs:List Value} (h:look F s = some (true,.tuple vs.toArray)) (hv:vs[i]? = some v) (next:Sat K (wpList P K ops Q rest) ((d,true,v) :: F) L) (hd:Nat.blt d K.n = true:=by rfl) :
    Sat K (wpList P K ops Q (⟨some d,.extract (.tmp s) i,ty,pos,af,none⟩ :: rest)) F L:=cons (BF (Ev.extract (.t h) hv) next hd)
theorem zj (w:World) (I:bS K L w) (h:bU E w v xs:=by first | exact kY (by repeat first | exact mH | apply mT | apply mA) w I | exact bU.cO (by assumption) I.keeps):bU E w v xs:=h
def zp {L':List du} (h:lP L' L:=by repeat first | exact lP.nil | refine lP.cons (by repeat first | exact lC.head | apply lC.tail) ?_):lP L' L:=h
def ig {x y:Code} (hb:look F s = some (true,.bool b)) (h1:p->Sat K (x.oV P K Q) F L) (h2:q->Sat K (y.oV P K Q) F L)
    (hp:b = true->p:=by intro h; (try simp only [Gx.nb] at h); exact h) (hq:b = false->q:=by intro h; (try simp only [Gx.nb] at h); exact h):Sat K ((Code.cond (.tmp s) x y).oV P K Q) F L:=cond hb (λh=>h1 (hp h)) (λh=>h2 (hq h))
def nxo {x:X} (x':X) (hJ:J x':=by (try dsimp only); omega) (hlt:μ x' < μ x:=by (try dsimp only); omega) (hF:Sub F (Fx x'):=by repeat first | exact Sub.nil | refine Sub.cons rfl ?_) (hL:(Lx x').Sublist L:=by repeat first | exact sR | exact sN | apply sC | apply sS | apply sA) :
    Sat K (λa w=>∃ x',J x' /\ μ x' < μ x /\ Good K (Fx x') (Lx x') a w) F L:=next x' hJ hlt hF hL
def aiZ {x:X} (x':X) (hJ:J x':=by (try dsimp only); omega) (hlt:μ x' < μ x:=by (try dsimp only); omega) (hF:Sub F (Fx x'):=by repeat first | exact Sub.nil | refine Sub.cons rfl ?_) (hL:lP (Lx x') L:=by repeat first | exact lP.nil | refine lP.cons (by repeat first | exact lC.head | apply lC.tail) ?_) :
    Sat K (λa w=>∃ x',J x' /\ μ x' < μ x /\ Good K (Fx x') (Lx x') a w) F L:=Zv x' hJ hlt hF hL
def lpo (J:X->Prop) (Fx:X->Fr) (Lx:X->List du) (μ:X->Nat) (x0:X)
    (round:∀ x,J x->Sat K (c.oV P K (Exit.then (λa w=>∃ x',J x' /\ μ x' < μ x /\ Good K (Fx x') (Lx x') a w) Q)) (Fx x) (Lx x)) (h0:J x0:=by (try dsimp only); omega) (hF:Sub F (Fx x0):=by repeat first | exact Sub.nil | refine Sub.cons rfl ?_) (hL:(Lx x0).Sublist L:=by repeat first | exact sR | exact sN | apply sC | apply sS | apply sA) :
    Sat K ((Code.loop c).oV P K Q) F L:=loop J Fx Lx μ x0 h0 hF hL round
theorem nG {x y:Code} (hb:look F s = some (true,.bool b)) (h1:p->Sat K (x.oV P K Q) F L) (h2:q->Sat K (y.oV P K Q) F L)
 (hp:b = true->p:=by first | exact dF | exact id) (hq:b = false->q:=by first | exact of_decide_eq_false | exact id):Sat K ((Code.cond (.tmp s) x y).oV P K Q) F L:=cond hb (λh=>h1 (hp h)) (λh=>h2 (hq h))
end
def aa (h:look F s = some (true,v):=by rfl):cV F g (.tmp s) v:=.t h
end Go.Gx
namespace Go.Proofs.YtgnmiaonbadbnaaGreat
open Go Go.Gx
variable {α κ:Type} {t:TypeId} {E:dy α} {i d:Int} {te ts:Nat} {fn:Func} {s:ByteArray} {e:Nat->Int}
def Y55:=@Tryz.underlying55
def Y4:=@Tryz.underlying4
def Oi:=@Tryz.underlying53
def Y5:=@Tryz.underlying5
def My:=@Tryz.underlying197
def Y3:=@Tryz.underlying3
def ag1:=@Tryz.underlying195
def Hn:=@Tryz.underlying56
def Y9:=@Tryz.underlying9
def Z9:=@Tryz.underlying23
def acM:=@Tryz.underlying328
def Ei:=@Tryz.underlying22
def acN:=@Tryz.underlying327
def Ej:=@Tryz.underlying212
def Z8:=@Tryz.underlying24
def Y25:=@Tryz.underlying25
def Y26:=@Tryz.underlying26
def pg:=@Tryz.underlying58
def Y28:=@Tryz.underlying28
def US:=@Tryz.underlying276
def tY:=@Tryz.underlying192
def zO:=@Tryz.underlying295
def JQ:=@Tryz.underlying221
def Qt:=@Tryz.underlying291
def YF:=@Tryz.underlying345
def YE:=@Tryz.underlying378
def Mw:=@Tryz.underlying346
def acS:=@Tryz.underlying203
def acP:=@Tryz.underlying289
def Mx:=@Tryz.underlying206
def YG:=@Tryz.underlying102
def JR:=@Tryz.underlying207
def Kb:=@Tryz.underlying41
def YD:=@Tryz.underlying57
def Qs:=@Tryz.underlying318
def Y60:=@Tryz.underlying60
def acO:=@Tryz.underlying322
def BY:=@Tryz.underlying29
def JS:=@Tryz.underlying144
def Y71:=@Tryz.underlying71
def Z7:=@Tryz.underlying45
def Y43:=@Tryz.underlying43
def ag2:=@Tryz.underlying100
def Y90:=@Tryz.underlying90
def Y91:=@Tryz.underlying91
def UT:=@Tryz.underlying173
def UR:=@Tryz.underlying32
def Y49:=@Tryz.underlying49
abbrev ot (t:TypeId) (E:dy α):Prop:=jK Tryz.prog t E
def oq (h:jK Tryz.prog t E:=by exact jK.mk' (by kernel_rfl) (by kernel_rfl)):jK Tryz.prog t E:=h
abbrev zI (t:TypeId) (E:dy α):Prop:=(Tryz.prog.info? t).bind (·.zero) = some (E.val E.zero)
abbrev DV (t:TypeId) (E:dy α) (n:Nat):Prop:=(Tryz.prog.info? t).map (λi=>(i.zero,i.bytes)) = some (some (E.val E.zero),n)
def kI (h:(Tryz.prog.info? t).bind (·.zero) = some (E.val E.zero):=by kernel_rfl):zI t E:=h
def kB {n:Nat} (h:(Tryz.prog.info? t).map (λi=>(i.zero,i.bytes)) = some (some (E.val E.zero),n):=by kernel_rfl):DV t E n:=h
abbrev Eo (E:dy α):Prop:=(E.val E.zero).cells.size = E.size
theorem Hk (E:dy α):Eo E:=by rw [Eo,dy.kN,bK,dy.len]
def eN {f:FuncId} (h:Gx.dV Tryz.prog f:=by exact Gx.dV.mk' (by kernel_rfl)):Gx.dV Tryz.prog f:=h
structure bJ where
 v6:Bool
 b:(Vector UInt8 16)
def bJ.to:(Bool × (Vector UInt8 16))->bJ:=λx=>⟨x.1,x.2⟩
def bJ.of:bJ->(Bool × (Vector UInt8 16)):=λx=>(x.v6,x.b)
def iz:dy bJ:=l8 (cW bE (mh 16 iO)) bJ.to bJ.of
def bJ.wv:aB iz bE 0:=lI bJ.to bJ.of l1
@[simp] theorem bJ.aj4 (x:bJ):bJ.wv.get x = x.v6:=rfl
@[simp] theorem bJ.aiI (x:bJ) (y:Bool):bJ.wv.set x y = { x with v6:=y }:=rfl
def bJ.D9:aB iz (mh 16 iO) 1:=lI bJ.to bJ.of (l2 (aB.id _))
@[simp] theorem bJ.alZ (x:bJ):bJ.D9.get x = x.b:=rfl
@[simp] theorem bJ.akY (x:bJ) (y:(Vector UInt8 16)):bJ.D9.set x y = { x with b:=y }:=rfl
structure aw where
 addr:bJ
 bits:Int
def aw.to:(bJ × Int)->aw:=λx=>⟨x.1,x.2⟩
def aw.of:aw->(bJ × Int):=λx=>(x.addr,x.bits)
def cJ:dy aw:=l8 (cW iz iE) aw.to aw.of
def aw.lh:aB cJ iz 0:=lI aw.to aw.of l1
@[simp] theorem aw.agD (x:aw):aw.lh.get x = x.addr:=rfl
@[simp] theorem aw.aeS (x:aw) (y:bJ):aw.lh.set x y = { x with addr:=y }:=rfl
def aw.lZ:aB cJ iE 17:=lI aw.to aw.of (l2 (aB.id _))
@[simp] theorem aw.agB (x:aw):aw.lZ.get x = x.bits:=rfl
@[simp] theorem aw.aeR (x:aw) (y:Int):aw.lZ.set x y = { x with bits:=y }:=rfl
structure dk where
 qi:aw
 out:Int
def dk.to:(aw × Int)->dk:=λx=>⟨x.1,x.2⟩
def dk.of:dk->(aw × Int):=λx=>(x.qi,x.out)
def ez:dy dk:=l8 (cW cJ iE) dk.to dk.of
def dk.tK:aB ez cJ 0:=lI dk.to dk.of l1
@[simp] theorem dk.XQ (x:dk):dk.tK.get x = x.qi:=rfl
def dk.qS:aB ez iE 18:=lI dk.to dk.of (l2 (aB.id _))
@[simp] theorem dk.NT (x:dk):dk.qS.get x = x.out:=rfl
structure dh where
 num:UInt64
 den:UInt64
 Dy:UInt64
def dh.to:(UInt64 × (UInt64 × UInt64))->dh:=λx=>⟨x.1,x.2.1,x.2.2⟩
def dh.of:dh->(UInt64 × (UInt64 × UInt64)):=λx=>(x.num,x.den,x.Dy)
def tQ:dy dh:=l8 (cW lG (cW lG lG)) dh.to dh.of
def dh.S1:aB tQ lG 0:=lI dh.to dh.of l1
@[simp] theorem dh.ahV (x:dh):dh.S1.get x = x.num:=rfl
def dh.ZB:aB tQ lG 1:=lI dh.to dh.of (l2 l1)
@[simp] theorem dh.ahX (x:dh):dh.ZB.get x = x.den:=rfl
def dh.NH:aB tQ lG 2:=lI dh.to dh.of (l2 (l2 (aB.id _)))
@[simp] theorem dh.adJ (x:dh):dh.NH.get x = x.Dy:=rfl
structure bQ where
 name:ByteArray
 bucket:dh
def bQ.to:(ByteArray × dh)->bQ:=λx=>⟨x.1,x.2⟩
def bQ.of:bQ->(ByteArray × dh):=λx=>(x.name,x.bucket)
def eH:dy bQ:=l8 (cW sE tQ) bQ.to bQ.of
def bQ.mB:aB eH sE 0:=lI bQ.to bQ.of l1
@[simp] theorem bQ.IN (x:bQ):bQ.mB.get x = x.name:=rfl
def bQ.ID:aB eH tQ 1:=lI bQ.to bQ.of (l2 (aB.id _))
@[simp] theorem bQ.ab5 (x:bQ):bQ.ID.get x = x.bucket:=rfl
structure aZ where
 name:ByteArray
 out:Int
 room:Int
def aZ.to:(ByteArray × (Int × Int))->aZ:=λx=>⟨x.1,x.2.1,x.2.2⟩
def aZ.of:aZ->(ByteArray × (Int × Int)):=λx=>(x.name,x.out,x.room)
def dL:dy aZ:=l8 (cW sE (cW iE iE)) aZ.to aZ.of
def aZ.mB:aB dL sE 0:=lI aZ.to aZ.of l1
@[simp] theorem aZ.IN (x:aZ):aZ.mB.get x = x.name:=rfl
def aZ.qS:aB dL iE 1:=lI aZ.to aZ.of (l2 l1)
@[simp] theorem aZ.NT (x:aZ):aZ.qS.get x = x.out:=rfl
def aZ.Lk:aB dL iE 2:=lI aZ.to aZ.of (l2 (l2 (aB.id _)))
@[simp] theorem aZ.agv (x:aZ):aZ.Lk.get x = x.room:=rfl
structure dX where
 from_:UInt16
 qi:UInt16
def dX.to:(UInt16 × UInt16)->dX:=λx=>⟨x.1,x.2⟩
def dX.of:dX->(UInt16 × UInt16):=λx=>(x.from_,x.qi)
def nR:dy dX:=l8 (cW xw xw) dX.to dX.of
def dX.xa:aB nR xw 0:=lI dX.to dX.of l1
@[simp] theorem dX.adH (x:dX):dX.xa.get x = x.from_:=rfl
def dX.tK:aB nR xw 1:=lI dX.to dX.of (l2 (aB.id _))
@[simp] theorem dX.XQ (x:dX):dX.tK.get x = x.qi:=rfl
structure aN where
 asks:UInt8
 ta:dX
 src:aw
 dst:aw
 bz:UInt8
 dD:dX
 dE:dX
def aN.to:(UInt8 × (dX × (aw × (aw × (UInt8 × (dX × dX))))))->aN:=λx=>⟨x.1,x.2.1,x.2.2.1,x.2.2.2.1,x.2.2.2.2.1,x.2.2.2.2.2.1,x.2.2.2.2.2.2⟩
def aN.of:aN->(UInt8 × (dX × (aw × (aw × (UInt8 × (dX × dX)))))):=λx=>(x.asks,x.ta,x.src,x.dst,x.bz,x.dD,x.dE)
def cU:dy aN:=l8 (cW iO (cW nR (cW cJ (cW cJ (cW iO (cW nR nR)))))) aN.to aN.of
def aN.S4:aB cU iO 0:=lI aN.to aN.of l1
@[simp] theorem aN.agC (x:aN):aN.S4.get x = x.asks:=rfl
def aN.rF:aB cU nR 1:=lI aN.to aN.of (l2 l1)
@[simp] theorem aN.NU (x:aN):aN.rF.get x = x.ta:=rfl
@[simp] theorem aN.Wm (x:aN) (y:dX):aN.rF.set x y = { x with ta:=y }:=rfl
def aN.mM:aB cU cJ 3:=lI aN.to aN.of (l2 (l2 l1))
@[simp] theorem aN.NS (x:aN):aN.mM.get x = x.src:=rfl
@[simp] theorem aN.M5 (x:aN) (y:aw):aN.mM.set x y = { x with src:=y }:=rfl
def aN.nM:aB cU cJ 21:=lI aN.to aN.of (l2 (l2 (l2 l1)))
@[simp] theorem aN.NV (x:aN):aN.nM.get x = x.dst:=rfl
@[simp] theorem aN.M6 (x:aN) (y:aw):aN.nM.set x y = { x with dst:=y }:=rfl
def aN.iF:aB cU iO 39:=lI aN.to aN.of (l2 (l2 (l2 (l2 l1))))
@[simp] theorem aN.Fo (x:aN):aN.iF.get x = x.bz:=rfl
def aN.gg:aB cU nR 40:=lI aN.to aN.of (l2 (l2 (l2 (l2 (l2 l1)))))
@[simp] theorem aN.A3 (x:aN):aN.gg.get x = x.dD:=rfl
@[simp] theorem aN.AP (x:aN) (y:dX):aN.gg.set x y = { x with dD:=y }:=rfl
def aN.gk:aB cU nR 42:=lI aN.to aN.of (l2 (l2 (l2 (l2 (l2 (l2 (aB.id _)))))))
@[simp] theorem aN.A4 (x:aN):aN.gk.get x = x.dE:=rfl
@[simp] theorem aN.AQ (x:aN) (y:dX):aN.gk.set x y = { x with dE:=y }:=rfl
structure cS where
 name:ByteArray
 lK:aN
 action:Int
 out:Int
 qc:ByteArray
 mz:ByteArray
def cS.to:(ByteArray × (aN × (Int × (Int × (ByteArray × ByteArray)))))->cS:=λx=>⟨x.1,x.2.1,x.2.2.1,x.2.2.2.1,x.2.2.2.2.1,x.2.2.2.2.2⟩
def cS.of:cS->(ByteArray × (aN × (Int × (Int × (ByteArray × ByteArray))))):=λx=>(x.name,x.lK,x.action,x.out,x.qc,x.mz)
def iK:dy cS:=l8 (cW sE (cW cU (cW iE (cW iE (cW sE sE))))) cS.to cS.of
def cS.mB:aB iK sE 0:=lI cS.to cS.of l1
@[simp] theorem cS.IN (x:cS):cS.mB.get x = x.name:=rfl
@[simp] theorem cS.aeI (x:cS) (y:ByteArray):cS.mB.set x y = { x with name:=y }:=rfl
def cS.CZ:aB iK cU 1:=lI cS.to cS.of (l2 l1)
@[simp] theorem cS.ab3 (x:cS):cS.CZ.get x = x.lK:=rfl
def cS.ku:aB iK iE 45:=lI cS.to cS.of (l2 (l2 l1))
@[simp] theorem cS.LD (x:cS):cS.ku.get x = x.action:=rfl
@[simp] theorem cS.KA (x:cS) (y:Int):cS.ku.set x y = { x with action:=y }:=rfl
def cS.qS:aB iK iE 46:=lI cS.to cS.of (l2 (l2 (l2 l1)))
@[simp] theorem cS.NT (x:cS):cS.qS.get x = x.out:=rfl
@[simp] theorem cS.Wj (x:cS) (y:Int):cS.qS.set x y = { x with out:=y }:=rfl
def cS.rO:aB iK sE 47:=lI cS.to cS.of (l2 (l2 (l2 (l2 l1))))
@[simp] theorem cS.adG (x:cS):cS.rO.get x = x.qc:=rfl
def cS.pJ:aB iK sE 48:=lI cS.to cS.of (l2 (l2 (l2 (l2 (l2 (aB.id _))))))
@[simp] theorem cS.ab2 (x:cS):cS.pJ.get x = x.mz:=rfl
def jQ:ot 5 iO:=oq
def bJ.nQ (x y:bJ):Bool:=vD x.v6 y.v6 && ((eqA 16 vD) x.b y.b && (true))
theorem bJ.fJ (x y:bJ):bJ.nQ x y = true ↔ x = y:=by
 obtain⟨a0,a1⟩:=x;obtain⟨b0,b1⟩:=y;simp [bJ.nQ,cF,zw]
def Km:ot 53 (mh 16 iO):=oq
def x6:ot 4 bE:=oq
theorem acb:rZ Tryz.prog 55 iz bJ.nQ 3:=wK (fs:=_) Y55 zk rfl (MF.cons (by decide) rfl bJ.wv x6 (rZ.up (aca Y4) (by decide)) (MF.cons (by decide) rfl bJ.D9 Km (Dg Oi jQ (GY Y5)) MF.nil)) (λ_ _=>rfl)
instance:DecidableEq bJ:=λx y=>decidable_of_iff (bJ.nQ x y = true) (bJ.fJ x y)
@[simp] theorem bJ.rS (x y:bJ):bJ.nQ x y = decide (x = y):=by
  rw [dT,cn];exact bJ.fJ x y
def aw.nQ (x y:aw):Bool:=bJ.nQ x.addr y.addr && (vD x.bits y.bits && (true))
theorem aw.fJ (x y:aw):aw.nQ x y = true ↔ x = y:=by
 obtain⟨a0,a1⟩:=x;obtain⟨b0,b1⟩:=y;simp [aw.nQ,cF,bJ.fJ]
def l9:ot 3 iE:=oq
def mR:ot 55 iz:=oq
theorem xn:rZ Tryz.prog 197 cJ aw.nQ 4:=wK (fs:=_) My zk rfl (MF.cons (by decide) rfl aw.lh mR acb (MF.cons (by decide) rfl aw.lZ l9 (rZ.up (TV Y3) (by decide)) MF.nil)) (λ_ _=>rfl)
instance:DecidableEq aw:=λx y=>decidable_of_iff (aw.nQ x y = true) (aw.fJ x y)
@[simp] theorem aw.rS (x y:aw):aw.nQ x y = decide (x = y):=by
  rw [dT,cn];exact aw.fJ x y
def dk.nQ (x y:dk):Bool:=aw.nQ x.qi y.qi && (vD x.out y.out && (true))
theorem dk.fJ (x y:dk):dk.nQ x y = true ↔ x = y:=by
 obtain⟨a0,a1⟩:=x;obtain⟨b0,b1⟩:=y;simp [dk.nQ,cF,aw.fJ]
def kr:ot 197 cJ:=oq
instance:DecidableEq dk:=λx y=>decidable_of_iff (dk.nQ x y = true) (dk.fJ x y)
@[simp] theorem dk.rS (x y:dk):dk.nQ x y = decide (x = y):=by
  rw [dT,cn];exact dk.fJ x y
def dh.nQ (x y:dh):Bool:=vD x.num y.num && (vD x.den y.den && (vD x.Dy y.Dy && (true)))
theorem dh.fJ (x y:dh):dh.nQ x y = true ↔ x = y:=by
 obtain⟨a0,a1,a2⟩:=x;obtain⟨b0,b1,b2⟩:=y;simp [dh.nQ,cF]
def nh:ot 41 lG:=oq
instance:DecidableEq dh:=λx y=>decidable_of_iff (dh.nQ x y = true) (dh.fJ x y)
@[simp] theorem dh.rS (x y:dh):dh.nQ x y = decide (x = y):=by
  rw [dT,cn];exact dh.fJ x y
def bQ.nQ (x y:bQ):Bool:=eqs x.name y.name && (dh.nQ x.bucket y.bucket && (true))
theorem bQ.fJ (x y:bQ):bQ.nQ x y = true ↔ x = y:=by
 obtain⟨a0,a1⟩:=x;obtain⟨b0,b1⟩:=y;simp [bQ.nQ,cF,rR]
def aet:ot 214 tQ:=oq
def Hw:ot 9 sE:=oq
instance:DecidableEq bQ:=λx y=>decidable_of_iff (bQ.nQ x y = true) (bQ.fJ x y)
@[simp] theorem bQ.rS (x y:bQ):bQ.nQ x y = decide (x = y):=by
  rw [dT,cn];exact bQ.fJ x y
def aZ.nQ (x y:aZ):Bool:=eqs x.name y.name && (vD x.out y.out && (vD x.room y.room && (true)))
theorem aZ.fJ (x y:aZ):aZ.nQ x y = true ↔ x = y:=by
 obtain⟨a0,a1,a2⟩:=x;obtain⟨b0,b1,b2⟩:=y;simp [aZ.nQ,cF,rR]
instance:DecidableEq aZ:=λx y=>decidable_of_iff (aZ.nQ x y = true) (aZ.fJ x y)
@[simp] theorem aZ.rS (x y:aZ):aZ.nQ x y = decide (x = y):=by
  rw [dT,cn];exact aZ.fJ x y
def dX.nQ (x y:dX):Bool:=vD x.from_ y.from_ && (vD x.qi y.qi && (true))
theorem dX.fJ (x y:dX):dX.nQ x y = true ↔ x = y:=by
 obtain⟨a0,a1⟩:=x;obtain⟨b0,b1⟩:=y;simp [dX.nQ,cF]
def qh:ot 56 xw:=oq
theorem X9:rZ Tryz.prog 195 nR dX.nQ 2:=wK (fs:=_) ag1 zk rfl (MF.cons (by decide) rfl dX.xa qh (Jc Hn) (MF.cons (by decide) rfl dX.tK qh (Jc Hn) MF.nil)) (λ_ _=>rfl)
instance:DecidableEq dX:=λx y=>decidable_of_iff (dX.nQ x y = true) (dX.fJ x y)
@[simp] theorem dX.rS (x y:dX):dX.nQ x y = decide (x = y):=by
  rw [dT,cn];exact dX.fJ x y
def aN.nQ (x y:aN):Bool:=vD x.asks y.asks && (dX.nQ x.ta y.ta && (aw.nQ x.src y.src && (aw.nQ x.dst y.dst && (vD x.bz y.bz && (dX.nQ x.dD y.dD && (dX.nQ x.dE y.dE && (true)))))))
theorem aN.fJ (x y:aN):aN.nQ x y = true ↔ x = y:=by
 obtain⟨a0,a1,a2,a3,a4,a5,a6⟩:=x;obtain⟨b0,b1,b2,b3,b4,b5,b6⟩:=y;simp [aN.nQ,cF,zw]
def Ex:ot 195 nR:=oq
instance:DecidableEq aN:=λx y=>decidable_of_iff (aN.nQ x y = true) (aN.fJ x y)
@[simp] theorem aN.rS (x y:aN):aN.nQ x y = decide (x = y):=by
  rw [dT,cn];exact aN.fJ x y
def cS.nQ (x y:cS):Bool:=eqs x.name y.name && (aN.nQ x.lK y.lK && (vD x.action y.action && (vD x.out y.out && (eqs x.qc y.qc && (eqs x.mz y.mz && (true))))))
theorem cS.fJ (x y:cS):cS.nQ x y = true ↔ x = y:=by
 obtain⟨a0,a1,a2,a3,a4,a5⟩:=x;obtain⟨b0,b1,b2,b3,b4,b5⟩:=y;simp [cS.nQ,cF,rR]
def sj:ot 199 cU:=oq
instance:DecidableEq cS:=λx y=>decidable_of_iff (cS.nQ x y = true) (cS.fJ x y)
@[simp] theorem cS.rS (x y:cS):cS.nQ x y = decide (x = y):=by
  rw [dT,cn];exact cS.fJ x y
theorem akb:zU Tryz.prog 55 iz 3:=FE Y55 rfl (QS.cons (by decide) rfl bJ.wv x6 ((aka Y4).up (by decide)) (QS.cons (by decide) rfl bJ.D9 Km (acs Oi jQ (Mh iO (λ_=>rfl) Y5)) QS.nil))
theorem agS:zU Tryz.prog 197 cJ 4:=FE My rfl (QS.cons (by decide) rfl aw.lh mR akb (QS.cons (by decide) rfl aw.lZ l9 ((Mh iE (λ_=>rfl) Y3).up (by decide)) QS.nil))
theorem Ln:uI Tryz.prog 197 cJ aw.nQ:=Xs rfl xn (by decide) agS (by decide) (Ob (JG (Ob (JG agY (Yu (Od iO (λ_=>rfl))))) (Od iE (λ_=>rfl)))) aw.fJ
def S8:uI Tryz.prog 3 iE vD:=afN Y3
def Ea:uI Tryz.prog 9 sE eqs:=afM Y9
def gM {α κ:Type} (q:κ->κ->Bool) (f:α->κ) (l:List α):Nat->List (κ × Int)
 | 0=>[]
 | n + 1=>match l[n]? with
   | none=>gM q f l n
   | some x=>if (gB q (f x) (gM q f l n)).isSome then gM q f l n else uo q (f x) (n:Int) (gM q f l n)
theorem LO (q:κ->κ->Bool) (f:α->κ) (l:List α) (z:α) {n:Nat} (h:n < l.length) (hs:(gB q (f (l.getD n z)) (gM q f l n)).isSome = true):gM q f l (n + 1) = gM q f l n:=by
 simp_all [gM,if_true]
theorem LN (q:κ->κ->Bool) (f:α->κ) (l:List α) (z:α) {n:Nat} (h:n < l.length) (hs:¬ (gB q (f (l.getD n z)) (gM q f l n)).isSome = true):gM q f l (n + 1) = uo q (f (l.getD n z)) (n:Int) (gM q f l n):=by
 grind [List.getD,gM]
theorem qU (q:κ->κ->Bool) (f:α->κ) (l:List α) (z:α) (h:0 <= i /\ i < l.length) (hs:(gB q (f (l.getD i.toNat z)) (gM q f l i.toNat)).isSome = true):gM q f l (i + 1).toNat = gM q f l i.toNat:=by
 have e:(i + 1).toNat = i.toNat + 1:=by omega
 grind [LO]
theorem wJ (q:κ->κ->Bool) (f:α->κ) (l:List α) (z:α) (h:0 <= i /\ i < l.length) (hs:(gB q (f (l.getD i.toNat z)) (gM q f l i.toNat)).isSome = false):gM q f l (i + 1).toNat = uo q (f (l.getD i.toNat z)) i (gM q f l i.toNat):=by
 have e:(i + 1).toNat = i.toNat + 1:=by omega
 grind [LN]
def xC:ot 280 ez:=oq
def QV:zI 280 ez:=kI
def z3:zI 3 iE:=kI
theorem Ef (f:Nat) (cap:List Value) (kf:dk->aw) (u:Value) (xs:List dk) (w:World) (om:dV Tryz.prog f) (hl:bU ez w u xs) (hk:El Tryz.prog f cap fX w ez cJ (λ_=>True) kf):aR 221 #[u,(Bb f cap).v] w (nz w (λ_:Nat=>True) (λb=>.map (some b)) (λb=>[oE b cJ iE (gM aw.nQ kf xs xs.length)])):=by
 have hle:=hl.le;refine iZ 35 Tryz.func221 (λ_ _=>?_);refine m272 ?_;refine makeMap (E:=cJ) (V:=iE) (λb1=>?_);refine m174 ?_;refine co (Ev.len Z9 aa zf) ?_;refine m83 ?_;refine lpo (X:=Int) (λx=>(0 <= x /\ x <= xs.length)) (λx=>[dz,(1,true,(Bb f cap).v),(5,true,.map _),(11,true,u),(12,true,I xs.length),(13,true,I x)]) (λx=>[oE b1 cJ iE (gM aw.nQ kf xs x.toNat)]) (λx=>((xs.length:Int) - x).toNat) (0) (λx hx=>?_);obtain⟨i,rfl⟩:∃ y,y = x:=⟨x,rfl⟩;have hi:=hx;refine m9 ?_;refine ig rfl (λh0=>?_) (λh0=>?_)
 ·refine m150 ?_;refine m106 ?_;refine alloc QV (λb2=>?_);refine m238 ?_;refine j8 xC (aB.id _) aa aa ?_;refine m138 ?_;refine mv rfl (co (Ev.gS xC aa (aB.id _)) ?_);refine cons ?_;refine m140 ?_;refine co (Ev.uZ acM My Ln z3 aa aa (λ_=>(by first | exact ml (by repeat first | exact mH | apply mT | apply mA) | exact mapAt_stamp (by repeat first | exact mH | apply mT | apply mA) | exact λw I=>pe.cO (by assumption) I.keeps))) ?_;refine m270 ?_;refine m57 ?_;refine ig rfl (λh1=>?_) (λh1=>?_)
  ·refine m126 ?_;refine co (Ev.gS xC aa (aB.id _)) ?_;refine cons ?_;refine m140 ?_;refine m27 ?_;refine mapUpdate acM My Ln aa aa (.t rfl) zu ?_;refine m145 ?_;refine mv rfl (nP (nx _ ?_ ?_ (hL:=(by (first | rw [qU _ _ _ ez.zero (by omega) h1] | rw [wJ _ _ _ ez.zero (by omega) h1]); simp))))
   ·omega
   omega
  ·refine m232 ?_;refine mv rfl (nP (nx _ ?_ ?_ (hL:=(by (rw [qU _ _ _ ez.zero (by omega) h1]); simp))))
   ·omega
   omega
 ·exact s48
theorem PM (f:Nat) (cap:List Value) (kf:Int->Int) (u:Value) (xs:List Int) (w:World) (om:dV Tryz.prog f) (hl:bU iE w u xs) (hk:El Tryz.prog f cap fX w iE iE (λ_=>True) kf):aR 219 #[u,(Bb f cap).v] w (nz w (λ_:Nat=>True) (λb=>.map (some b)) (λb=>[oE b iE iE (gM vD kf xs xs.length)])):=by
 have hle:=hl.le;refine iZ 35 Tryz.func219 (λ_ _=>?_);refine m272 ?_;refine makeMap (E:=iE) (V:=iE) (λb1=>?_);refine m174 ?_;refine co (Ev.len Ei aa zf) ?_;refine m83 ?_;refine lpo (X:=Int) (λx=>(0 <= x /\ x <= xs.length)) (λx=>[dz,(1,true,(Bb f cap).v),(5,true,.map _),(11,true,u),(12,true,I xs.length),(13,true,I x)]) (λx=>[oE b1 iE iE (gM vD kf xs x.toNat)]) (λx=>((xs.length:Int) - x).toNat) (0) (λx hx=>?_);obtain⟨i,rfl⟩:∃ y,y = x:=⟨x,rfl⟩;have hi:=hx;refine m9 ?_;refine ig rfl (λh0=>?_) (λh0=>?_)
 ·refine m150 ?_;refine m264 ?_;refine m60 ?_;refine m247 ?_;refine m140 ?_;refine co (Ev.uZ acN Y3 S8 z3 aa aa (λ_=>(by first | exact ml (by repeat exact mH) | exact mapAt_stamp (by repeat first | exact mH | apply mT | apply mA) | exact λw I=>pe.cO (by assumption) I.keeps))) ?_;refine m270 ?_;refine m57 ?_;refine ig rfl (λh1=>?_) (λh1=>?_)
  ·refine m126 ?_;refine m27 ?_;refine m140 ?_;refine m27 ?_;refine mapUpdate acN Y3 S8 aa aa (.t rfl) zu ?_;refine m145 ?_;refine mv rfl (nP (nx _ ?_ ?_ (hL:=(by (first | rw [qU _ _ _ iE.zero (by omega) h1] | rw [wJ _ _ _ iE.zero (by omega) h1]); simp))))
   ·omega
   omega
  ·refine m232 ?_;refine mv rfl (nP (nx _ ?_ ?_ (hL:=(by grind [qU]))))
   ·omega
   omega
 ·exact s48
def AJ:ot 201 iK:=oq
def Oy:zI 201 iK:=kI
abbrev Vb (E:dy α) (k:Nat):Prop:=∀ (f:Nat) (cap:List Value) (kf:α->ByteArray) (u:Value) (xs:List α) (w:World) (om:dV Tryz.prog f) (hl:bU E w u xs) (hk:El Tryz.prog f cap fX w E sE (λ_=>True) kf),aR k #[u,(Bb f cap).v] w (nz w (λ_:Nat=>True) (λb=>.map (some b)) (λb=>[oE b sE iE (gM eqs kf xs xs.length)]))
theorem ab7 {k:Nat} (hf:Tryz.prog.funcs[k]? = some fn) (hu:Tryz.prog.underlying ts = some (.slice te)) (T:jK Tryz.prog te E) (hz:(Tryz.prog.info? te).bind (·.zero) = some (E.val E.zero)) (hs:Nat.blt 0 E.size = true) (h:Tryz.prog.funcs[k]? = some fn->Tryz.prog.underlying ts = some (.slice te)->∀ E:dy α,jK Tryz.prog te E->(Tryz.prog.info? te).bind (·.zero) = some (E.val E.zero)->Nat.blt 0 E.size = true->Vb E k:=by
 intro hfn QG E T hz hs f cap kf u xs w om hl hk;have hle:=hl.le;refine T4 35 hfn rfl rfl (aT rfl) (λ_ _=>?_);refine sg (ac (Go.Value.map none) ?_);refine nP ?_;refine m15 ?_;refine makeMap (E:=sE) (V:=iE) (λb1=>?_);refine m174 ?_;refine co (Ev.len QG (.t rfl) zf) ?_;refine m83 ?_;refine lpo (X:=Int) (λx=>(0 <= x /\ x <= xs.length)) (λx=>[dz,(1,true,(Bb f cap).v),(5,true,.map (some b1)),(11,true,u),(12,true,I xs.length),(13,true,I x)]) (λx=>[oE b1 sE iE (gM eqs kf xs x.toNat)]) (λx=>((xs.length:Int) - x).toNat) (0) (λx hx=>?_);obtain⟨i,rfl⟩:∃ y,y = x:=⟨x,rfl⟩;have hi:0 <= i /\ i <= xs.length:=hx;clear hx;refine sg (co (Ev.rE (.t rfl) (.t rfl)) ?_);refine m143 ?_;refine ig rfl (λh0=>?_) (λh0=>?_)
 ·refine m150 ?_;refine co (Ev.indexAddr QG T (.t rfl) (.t rfl) zf (λ_=>zo)) ?_;refine co (Ev.eT T (.t rfl) zf (λ_=>zo)) ?_;refine cons (alloc hz (λb2=>?_));refine m238 ?_;refine j8 T (aB.id _) (.t rfl) (.t rfl) ?_;refine m138 ?_;refine mv rfl ?_;refine m176 ?_;refine co (Ev.uZ Ej Y9 Ea z3 (.t rfl) (.t rfl) (λ_=>(by first | exact ml (by repeat first | exact mH | apply mT | apply mA) | exact mapAt_stamp (by repeat first | exact mH | apply mT | apply mA) | exact λw I=>pe.cO (by assumption) I.keeps))) ?_;refine m270 ?_;refine co (Ev.not (.t rfl)) ?_;refine nP ?_;refine ig rfl (λh1=>?_) (λh1=>?_)
  ·refine m126 ?_;refine m176 ?_;refine m27 ?_;refine mapUpdate Ej Y9 Ea (.t rfl) (.t rfl) (.t rfl) zu ?_;refine nil ?_;refine m109 ?_;exact s36
  ·refine skip ?_;refine m109 ?_;exact s36
 ·refine m85 ?_;refine m48 ?_;refine done rfl (.tmp rfl .nil) (λw I=>?_);have hil:i.toNat = xs.length:=by omega
  rw [hil] at I;exact tU b1 trivial rfl zs w I):Vb E k:=by grind
def I8:Vb iK 223:=ab7 Tryz.func223 Z8 AJ Oy rfl
def Cb:ot 216 eH:=oq
def VK:zI 216 eH:=kI
def I7:Vb eH 225:=ab7 Tryz.func225 Y25 Cb VK rfl
def Ca:ot 218 dL:=oq
def VJ:zI 218 dL:=kI
def I4:Vb dL 227:=ab7 Tryz.func227 Y26 Ca VJ rfl
def zb3:DV 3 iE 8:=kB
def zs3:Eo iE:=Hk _
theorem Yn (u:Value) (xs:List Int) (w:World) (hl:bU iE w u xs) (hn:xs.length * 8 <= 140737488355328):aR 128 #[u] w (vM w iE xs 3):=by
 have hl2:=hl;obtain⟨sa,cap,rfl,hc1,hc2,hc3,hc4⟩:=hl2;replace hc3:sa = none->[] = xs:=λe=>(hc3 e).1.symm
 refine iZ 8 Tryz.func128 (λ_ _=>?_);refine m173 ?_;refine co (Ev.si Ei aa (.c rfl)) ?_;refine nP ?_;refine ig rfl (λh0=>?_) (λh0=>?_)
 ·refine sg (jf iE 3 ?_);exact s28
 ·refine m200 ?_;refine buildSlice Ei l9 z3 .nil rfl rfl (λv1=>?_);refine m27 ?_;refine vL Ei l9 zb3 zs3 aa aa (λv2=>?_);exact s33
def ad7:DV 280 ez 40:=kB
def adY:Eo ez:=Hk _
theorem Qa (u:Value) (xs:List dk) (w:World) (hl:bU ez w u xs) (hn:xs.length * 40 <= 140737488355328):aR 129 #[u] w (vM w ez xs 280):=by
 have hl2:=hl;obtain⟨sa,cap,rfl,hc1,hc2,hc3,hc4⟩:=hl2;replace hc3:sa = none->[] = xs:=λe=>(hc3 e).1.symm
 refine iZ 8 Tryz.func129 (λ_ _=>?_);refine m173 ?_;refine co (Ev.si Z9 aa (.c rfl)) ?_;refine nP ?_;refine ig rfl (λh0=>?_) (λh0=>?_)
 ·refine sg (jf ez 280 ?_);exact s28
 ·refine m200 ?_;refine buildSlice Z9 xC QV .nil rfl rfl (λv1=>?_);refine m27 ?_;refine vL Z9 xC ad7 adY aa aa (λv2=>?_);exact s33
def aea:DV 201 iK 152:=kB
def ad1:Eo iK:=Hk _
theorem Qd (u:Value) (xs:List cS) (w:World) (hl:bU iK w u xs) (hn:xs.length * 152 <= 140737488355328):aR 130 #[u] w (vM w iK xs 201):=by
 have hl2:=hl;obtain⟨sa,cap,rfl,hc1,hc2,hc3,hc4⟩:=hl2;replace hc3:sa = none->[] = xs:=λe=>(hc3 e).1.symm
 refine iZ 8 Tryz.func130 (λ_ _=>?_);refine m173 ?_;refine co (Ev.si Z8 aa (.c rfl)) ?_;refine nP ?_;refine ig rfl (λh0=>?_) (λh0=>?_)
 ·refine sg (jf iK 201 ?_);exact s28
 ·refine m200 ?_;refine buildSlice Z8 AJ Oy .nil rfl rfl (λv1=>?_);refine m27 ?_;refine vL Z8 AJ aea ad1 aa aa (λv2=>?_);exact s33
def ad9:DV 216 eH 40:=kB
def ad0:Eo eH:=Hk _
theorem Qc (u:Value) (xs:List bQ) (w:World) (hl:bU eH w u xs) (hn:xs.length * 40 <= 140737488355328):aR 131 #[u] w (vM w eH xs 216):=by
 have hl2:=hl;obtain⟨sa,cap,rfl,hc1,hc2,hc3,hc4⟩:=hl2;replace hc3:sa = none->[] = xs:=λe=>(hc3 e).1.symm
 refine iZ 8 Tryz.func131 (λ_ _=>?_);refine m173 ?_;refine co (Ev.si Y25 aa (.c rfl)) ?_;refine nP ?_;refine ig rfl (λh0=>?_) (λh0=>?_)
 ·refine sg (jf eH 216 ?_);exact s28
 ·refine m200 ?_;refine buildSlice Y25 Cb VK .nil rfl rfl (λv1=>?_);refine m27 ?_;refine vL Y25 Cb ad9 ad0 aa aa (λv2=>?_);exact s33
def ad8:DV 218 dL 32:=kB
def adZ:Eo dL:=Hk _
theorem Qb (u:Value) (xs:List aZ) (w:World) (hl:bU dL w u xs) (hn:xs.length * 32 <= 140737488355328):aR 132 #[u] w (vM w dL xs 218):=by
 have hl2:=hl;obtain⟨sa,cap,rfl,hc1,hc2,hc3,hc4⟩:=hl2;replace hc3:sa = none->[] = xs:=λe=>(hc3 e).1.symm
 refine iZ 8 Tryz.func132 (λ_ _=>?_);refine m173 ?_;refine co (Ev.si Y26 aa (.c rfl)) ?_;refine nP ?_;refine ig rfl (λh0=>?_) (λh0=>?_)
 ·refine sg (jf dL 218 ?_);exact s28
 ·refine m200 ?_;refine buildSlice Y26 Ca VJ .nil rfl rfl (λv1=>?_);refine m27 ?_;refine vL Y26 Ca ad8 adZ aa aa (λv2=>?_);exact s33
def Ec (p:α->Bool) (l:List α):Int:=match l.findIdx? p with
 | some i=>(i:Int)
 | none=>-1
theorem abC {p:α->Bool} {l:List α} (z:α) (hi:0 <= i /\ i < l.length) (hq:∀ k:Nat,k < i->p (l.getD k z) = false) (hp:p (l.getD i.toNat z) = true):Ec p l = i:=by
 have hlt:i.toNat < l.length:=by omega
 have h:l.findIdx? p = some i.toNat:=by
  rw [jU];refine ⟨hlt,by simpa [List.getD,hlt] using hp,λj hj=>?_⟩;have:=hq j (by omega);have hj2:j < l.length:=by omega
  simpa [List.getD,hj2] using this
 grind [Ec]
structure cy where
 rB:OV
 lW:OV
 rules:OV
 tW:OV
 qE:OV
 default:Int
def cy.to:(OV × (OV × (OV × (OV × (OV × Int)))))->cy:=λx=>⟨x.1,x.2.1,x.2.2.1,x.2.2.2.1,x.2.2.2.2.1,x.2.2.2.2.2⟩
def cy.of:cy->(OV × (OV × (OV × (OV × (OV × Int))))):=λx=>(x.rB,x.lW,x.rules,x.tW,x.qE,x.default)
def jI:dy cy:=l8 (cW (dJ aM) (cW (dJ aM) (cW (dJ aM) (cW (dJ aM) (cW (dJ aM) iE))))) cy.to cy.of
def cy.jz:aB jI (dJ aM) 0:=lI cy.to cy.of l1
@[simp] theorem cy.Fp (x:cy):cy.jz.get x = x.rB:=rfl
@[simp] theorem cy.EJ (x:cy) (y:OV):cy.jz.set x y = { x with rB:=y }:=rfl
def cy.iy:aB jI (dJ aM) 1:=lI cy.to cy.of (l2 l1)
@[simp] theorem cy.yq (x:cy):cy.iy.get x = x.lW:=rfl
@[simp] theorem cy.yc (x:cy) (y:OV):cy.iy.set x y = { x with lW:=y }:=rfl
def cy.kX:aB jI (dJ aM) 2:=lI cy.to cy.of (l2 (l2 l1))
@[simp] theorem cy.Fl (x:cy):cy.kX.get x = x.rules:=rfl
@[simp] theorem cy.EI (x:cy) (y:OV):cy.kX.set x y = { x with rules:=y }:=rfl
def cy.mg:aB jI (dJ aM) 3:=lI cy.to cy.of (l2 (l2 (l2 l1)))
@[simp] theorem cy.LC (x:cy):cy.mg.get x = x.tW:=rfl
@[simp] theorem cy.Kz (x:cy) (y:OV):cy.mg.set x y = { x with tW:=y }:=rfl
def cy.kL:aB jI (dJ aM) 4:=lI cy.to cy.of (l2 (l2 (l2 (l2 l1))))
@[simp] theorem cy.IP (x:cy):cy.kL.get x = x.qE:=rfl
@[simp] theorem cy.HP (x:cy) (y:OV):cy.kL.set x y = { x with qE:=y }:=rfl
def cy.nD:aB jI iE 5:=lI cy.to cy.of (l2 (l2 (l2 (l2 (l2 (aB.id _))))))
@[simp] theorem cy.ZZ (x:cy):cy.nD.get x = x.default:=rfl
@[simp] theorem cy.Zh (x:cy) (y:Int):cy.nD.set x y = { x with default:=y }:=rfl
structure bg where
 rB:OV
 lW:OV
 rules:OV
 tW:OV
 qE:OV
def bg.to:(OV × (OV × (OV × (OV × OV))))->bg:=λx=>⟨x.1,x.2.1,x.2.2.1,x.2.2.2.1,x.2.2.2.2⟩
def bg.of:bg->(OV × (OV × (OV × (OV × OV)))):=λx=>(x.rB,x.lW,x.rules,x.tW,x.qE)
def gu:dy bg:=l8 (cW (dJ og) (cW (dJ og) (cW (dJ og) (cW (dJ og) (dJ og))))) bg.to bg.of
def bg.jz:aB gu (dJ og) 0:=lI bg.to bg.of l1
@[simp] theorem bg.Fp (x:bg):bg.jz.get x = x.rB:=rfl
@[simp] theorem bg.EJ (x:bg) (y:OV):bg.jz.set x y = { x with rB:=y }:=rfl
def bg.iy:aB gu (dJ og) 1:=lI bg.to bg.of (l2 l1)
@[simp] theorem bg.yq (x:bg):bg.iy.get x = x.lW:=rfl
@[simp] theorem bg.yc (x:bg) (y:OV):bg.iy.set x y = { x with lW:=y }:=rfl
def bg.kX:aB gu (dJ og) 2:=lI bg.to bg.of (l2 (l2 l1))
@[simp] theorem bg.Fl (x:bg):bg.kX.get x = x.rules:=rfl
@[simp] theorem bg.EI (x:bg) (y:OV):bg.kX.set x y = { x with rules:=y }:=rfl
def bg.mg:aB gu (dJ og) 3:=lI bg.to bg.of (l2 (l2 (l2 l1)))
@[simp] theorem bg.LC (x:bg):bg.mg.get x = x.tW:=rfl
@[simp] theorem bg.Kz (x:bg) (y:OV):bg.mg.set x y = { x with tW:=y }:=rfl
def bg.kL:aB gu (dJ og) 4:=lI bg.to bg.of (l2 (l2 (l2 (l2 (aB.id _)))))
@[simp] theorem bg.IP (x:bg):bg.kL.get x = x.qE:=rfl
@[simp] theorem bg.HP (x:bg) (y:OV):bg.kL.set x y = { x with qE:=y }:=rfl
def uY (b:Nat):OV:=⟨.map (some b),rfl⟩
structure CL where
 ps:List Int
 rs:List dk
 us:List cS
 ms:List bQ
 xs:List aZ
structure kA (w:World) (c:cy) (l:CL):Prop where
 ps:bU iE w c.rB.v l.ps
 rs:bU ez w c.lW.v l.rs
 us:bU iK w c.rules.v l.us
 ms:bU eH w c.tW.v l.ms
 xs:bU dL w c.qE.v l.xs
def kA.cO {w w':World} {c:cy} {l:CL} (h:kA w c l) (k:bf fX w w'):kA w' c l:=⟨h.ps.cO k,h.rs.cO k,h.us.cO k,h.ms.cO k,h.xs.cO k⟩
def KN (l:CL):List (Int × Int):=gM vD (λp=>p) l.ps l.ps.length
def BB (l:CL):List (aw × Int):=gM aw.nQ (λr=>r.qi) l.rs l.rs.length
def uQ (l:CL):List (ByteArray × Int):=gM eqs (λr=>r.name) l.us l.us.length
def uW (l:CL):List (ByteArray × Int):=gM eqs (λr=>r.name) l.ms l.ms.length
def sB (l:CL):List (ByteArray × Int):=gM eqs (λr=>r.name) l.xs l.xs.length
structure KB where
 b1:Nat
 b2:Nat
 b3:Nat
 b4:Nat
 b5:Nat
def KB.k (x:KB):bg:=⟨uY x.b1,uY x.b2,uY x.b3,uY x.b4,uY x.b5⟩
def KB.R (x:KB) (l:CL):List du:=[oE x.b5 sE iE (sB l),oE x.b4 sE iE (uW l),oE x.b3 sE iE (uQ l),oE x.b2 cJ iE (BB l),oE x.b1 iE iE (KN l)]
theorem of1 (a:Int) (w:World):aR 220 #[iE.val a] w (dO w (iE.val (a))):=by
 refine iZ 4 Tryz.func220 (λ_ _=>?_);refine m71 ?_;refine m1 ?_;refine m20 ?_
 rfl
def abj (M:Nat->Prop) (w:World):El Tryz.prog 220 [] M w iE iE (λ_=>True) (λa=>a):=λa w _ _=>of1 a w
def Bh:zI 197 cJ:=kI
theorem of2 (a:dk) (w:World):aR 222 #[ez.val a] w (dO w (cJ.val (a.qi))):=by
 refine iZ 5 Tryz.func222 (λ_ _=>?_);refine m15 ?_;refine box aa (λb1=>?_);refine cons (alloc Bh (λb2=>?_));refine nP ?_;refine m35 ?_;refine co (Ev.gR a.qi kr aa dk.tK) ?_;refine m259 ?_
 rfl
def abi (M:Nat->Prop) (w:World):El Tryz.prog 222 [] M w ez cJ (λ_=>True) (λa=>a.qi):=λa w _ _=>of2 a w
theorem of3 (a:cS) (w:World):aR 224 #[iK.val a] w (dO w (sE.val (a.name))):=by
 refine iZ 5 Tryz.func224 (λ_ _=>?_);refine m15 ?_;refine box aa (λb1=>?_);refine m98 ?_;refine m35 ?_;refine co (Ev.gR a.name Hw aa cS.mB) ?_;refine m20 ?_
 rfl
def abh (M:Nat->Prop) (w:World):El Tryz.prog 224 [] M w iK sE (λ_=>True) (λa=>a.name):=λa w _ _=>of3 a w
theorem of4 (a:bQ) (w:World):aR 226 #[eH.val a] w (dO w (sE.val (a.name))):=by
 refine iZ 5 Tryz.func226 (λ_ _=>?_);refine m15 ?_;refine box aa (λb1=>?_);refine m98 ?_;refine m35 ?_;refine co (Ev.gR a.name Hw aa bQ.mB) ?_;refine m20 ?_
 rfl
def abg (M:Nat->Prop) (w:World):El Tryz.prog 226 [] M w eH sE (λ_=>True) (λa=>a.name):=λa w _ _=>of4 a w
theorem of5 (a:aZ) (w:World):aR 228 #[dL.val a] w (dO w (sE.val (a.name))):=by
 refine iZ 5 Tryz.func228 (λ_ _=>?_);refine m15 ?_;refine box aa (λb1=>?_);refine m98 ?_;refine m35 ?_;refine co (Ev.gR a.name Hw aa aZ.mB) ?_;refine m20 ?_
 rfl
def abf (M:Nat->Prop) (w:World):El Tryz.prog 228 [] M w dL sE (λ_=>True) (λa=>a.name):=λa w _ _=>of5 a w
def aai:zI 330 gu:=kI
def Rb:ot 22 (dJ aM):=oq
def aay:ot 23 (dJ aM):=oq
def aax:ot 24 (dJ aM):=oq
def aaw:ot 25 (dJ aM):=oq
def aav:ot 26 (dJ aM):=oq
def ML:ot 330 gu:=oq
theorem CM (c:cy) (l:CL) (w:World) (hc:kA w c l):aR 176 #[jI.val c] w (nz w (λ_:KB=>True) (λx=>gu.val x.k) (λx=>x.R l)):=by
 refine iZ 19 Tryz.func176 (λ_ _=>?_);refine m15 ?_;refine box aa (λb1=>?_);refine cons (alloc aai (λb2=>?_));refine m29 ?_;refine fB 2 rfl (iP _ (λb=>(uY b).v) _ eN (.cons aa (.cons .f .nil)) (λw I=>PM 220 [] _ _ l.ps w eN (hc.cO I.keeps).ps (abj _ _)) (λn1 _=>?_));refine m295 ?_;refine iP _ (λb=>(uY b).v) _ eN (.cons aa (.cons .f .nil)) (λw I=>Ef 222 [] _ _ l.rs w eN (hc.cO I.keeps).rs (abi _ _)) (λn2 _=>?_);refine m169 ?_;refine iP _ (λb=>(uY b).v) _ eN (.cons aa (.cons .f .nil)) (λw I=>I8 224 [] _ _ l.us w eN (hc.cO I.keeps).us (abh _ _)) (λn3 _=>?_);refine m180 ?_;refine fB 11 rfl (iP _ (λb=>(uY b).v) _ eN (.cons aa (.cons .f .nil)) (λw I=>I7 226 [] _ _ l.ms w eN (hc.cO I.keeps).ms (abg _ _)) (λn4 _=>?_));refine m180 ?_;refine fB 14 rfl (iP _ (λb=>(uY b).v) _ eN (.cons aa (.cons .f .nil)) (λw I=>I4 228 [] _ _ l.xs w eN (hc.cO I.keeps).xs (abf _ _)) (λn5 _=>?_));refine m180 ?_;refine tk 15 rfl (Ev.fe (places:=[(0,1),(1,1),(2,1),(3,1),(4,1)]) aai rfl Tryz.underlying330 zk (.cons aa (.cons aa (.cons aa (.cons aa (.cons aa .nil))))) (bB.cons bg.jz rfl (bB.cons bg.iy rfl (bB.cons bg.kX rfl (bB.cons bg.mg rfl (bB.cons bg.kL rfl bB.nil)))))) ?_;refine fB 16 rfl (j8 ML (aB.id _) aa aa ?_);refine m51 ?_;refine ret (done rfl (.cellP rfl ML (ed zm (aB.id _)) .nil) (λw I=>?_));exact tU (⟨n1,n2,n3,n4,n5⟩:KB) trivial rfl (by exact zs) w I
def BL:ByteArray:=(ByteArray.mk (List.toArray (List.append (List.append [0,1,2,2,3,3,3,3,4,4,4,4,4,4,4,4,5,5,5,5,5,5,5,5,5,5,5,5,5,5,5,5,6,6,6,6,6,6,6,6,6,6,6,6,6,6,6,6,6,6,6,6,6,6,6,6,6,6,6,6,6,6,6,6] [7,7,7,7,7,7,7,7,7,7,7,7,7,7,7,7,7,7,7,7,7,7,7,7,7,7,7,7,7,7,7,7,7,7,7,7,7,7,7,7,7,7,7,7,7,7,7,7,7,7,7,7,7,7,7,7,7,7,7,7,7,7,7,7]) (List.append [8,8,8,8,8,8,8,8,8,8,8,8,8,8,8,8,8,8,8,8,8,8,8,8,8,8,8,8,8,8,8,8,8,8,8,8,8,8,8,8,8,8,8,8,8,8,8,8,8,8,8,8,8,8,8,8,8,8,8,8,8,8,8,8] [8,8,8,8,8,8,8,8,8,8,8,8,8,8,8,8,8,8,8,8,8,8,8,8,8,8,8,8,8,8,8,8,8,8,8,8,8,8,8,8,8,8,8,8,8,8,8,8,8,8,8,8,8,8,8,8,8,8,8,8,8,8,8,8]))))
def wq (x:UInt8):UInt8:=(BL[x.toNat]?).getD 0
theorem SZ (x:UInt8):BL[x.toNat]? = some (wq x):=by
 have h:∀ n:Fin 256,BL[(UInt8.ofNat n.val).toNat]? = some (wq (UInt8.ofNat n.val)):=by decide +kernel
 have:=h ⟨x.toNat,x.toNat_lt⟩
 simp_all
theorem Xr (x:UInt8):0 <= (x.toNat:Int) /\ BL[(x.toNat:Int).toNat]? = some (wq x):=by simp [SZ]
def iR (b:List UInt8) (i:Int):UInt8:=vI (b.getD (i / 8).toNat 0) (7 - i % 8).toNat &&& 1
def Z5 (b:List UInt8) (f:Int):Nat->UInt64
 | 0=>0
 | n + 1=>tC (Z5 b f n) 1 ||| (iR b (f + n)).toUInt64
def al8 (b:List UInt8) (f n:Int):UInt64 × Int:=if n < 0 \/ 64 < n then (0,2) else if f < 0 \/ 8 * b.length - n < f then (0,5) else (Z5 b f n.toNat,0)
theorem xk (l:List UInt8) (m i:Nat) (h:i < m):(l.take m).getD i 0 = l.getD i 0:=by
 grind
def p7:List UInt8->List UInt8->Nat
 | x :: a,y :: b=>if x = y then p7 a b + 1 else 0
 | _,_=>0
theorem FD (a b:List UInt8) (i:Nat) (h1:i < a.length) (h2:i < b.length):p7 (a.drop i) (b.drop i) = if a.getD i 0 = b.getD i 0 then p7 (a.drop (i + 1)) (b.drop (i + 1)) + 1 else 0:=by
 grind [List.drop_eq_getElem_cons,p7,List.getD]
theorem Ug (a b:List UInt8) (i:Nat) (h:a.length <= i \/ b.length <= i):p7 (a.drop i) (b.drop i) = 0:=by
 grind [List.drop_eq_nil_of_le,p7]
def pT (a b:List UInt8):Int:=if (p7 a b:Int) = min (a.length:Int) b.length then 8 * min (a.length:Int) b.length else 8 * (p7 a b:Int) + (8 - ((wq (a.getD (p7 a b) 0 ^^^ b.getD (p7 a b) 0)).toNat:Int))
theorem Xq (x:UInt8) (w:World):aR 247 #[U8 x] w (dO w (I (wq x).toNat)):=by
 refine iZ 6 Tryz.func247 (λ_ _=>?_);refine m71 ?_;refine m1 ?_;refine co (Ev.abA Y9 (.c rfl) aa (λ_=>Xr x)) ?_;refine co (Ev.Fy Y3 Y5 aa) ?_;refine m20 ?_
 rfl
theorem NF (x:UInt8):(wq x).toNat <= 8:=by
 have h:∀ n:Fin 256,(wq (UInt8.ofNat n.val)).toNat <= 8:=by decide +kernel
 have:=h ⟨x.toNat,x.toNat_lt⟩
 simp_all
theorem abr (x:UInt8) (w:World):aR 244 #[U8 x] w (dO w (I (8 - ((wq x).toNat:Int)))):=by
 have hx:=NF x;refine iZ 6 Tryz.func244 (λ_ _=>?_);refine m71 ?_;refine m1 ?_;refine cons (dg eN (o1 rfl) (λw I=>Xq _ w) ?_);refine co (Ev.uh (.c rfl) aa (λ_=>zo)) ?_;refine m20 ?_
 rfl
theorem P8 (u v:Value) (a b:List UInt8) (w:World) (ha:bU iO w u a) (hb:bU iO w v b) (hl:a.length <= 1152921504606846974):aR 234 #[u,v] w (dO w (I (pT a b))):=by
 have hal:=ha.le;have hbl:=hb.le;obtain⟨m,hm⟩:∃ m:Nat,(min (a.length:Int) b.length) = (m:Int):=⟨min a.length b.length,by omega⟩;have hsa:bU iO w (uN iO.size u 0 m) (a.take m):=by
  have:=ha.sub (l:=0) (k:=m) (by omega) (by omega)
  simpa using this
 have hsb:bU iO w (uN iO.size v 0 m) (b.take m):=by
  have:=hb.sub (l:=0) (k:=m) (by omega) (by omega)
  simpa using this
 have hla:(a.take m).length = m:=by simp; omega
 have hlb:(b.take m).length = m:=by simp; omega
 refine iZ 52 Tryz.func234 (λ_ _=>?_);refine m71 ?_;refine m1 ?_;refine m103 ?_;refine m288 ?_;refine co (Ev.to (Ev.Nx aa aa) (by rw [hm])) ?_;refine m177 ?_;refine m47 ?_;refine m292 ?_;refine tk 2 rfl (Ev.zY pg jQ aa aa zf (λ_=>zo)) ?_;refine m184 ?_;refine tm 4 rfl rfl ?_;refine tk 5 rfl (Ev.zY pg jQ aa aa zf (λ_=>zo)) ?_;refine tk 6 rfl (Ev.assign aa) ?_;refine m285 ?_;refine m142 ?_;refine m156 ?_;refine nP (seq (block (lp (X:=Int) (λx=>(0 <= x /\ x <= m) /\ ((p7 a b:Int) = x + p7 (a.drop x.toNat) (b.drop x.toNat))) (λx=>[dz,(0,true,uN iO.size u 0 m),(1,true,uN iO.size v 0 m),(5,true,I m),(6,true,I x)]) (λx=>[]) (λx=>(m - x).toNat) (0) ⟨?_,?_⟩ (λx hx=>?_))))
 ·omega
 ·simp
 obtain⟨i,rfl⟩:∃ y,y = x:=⟨x,rfl⟩;obtain⟨hi,hc⟩:(0 <= i /\ i <= m) /\ ((p7 a b:Int) = i + p7 (a.drop i.toNat) (b.drop i.toNat)):=hx;refine seq (seq ?_);refine m47 ?_;refine m292 ?_;refine tk 2 rfl (Ev.rE aa aa) ?_;refine m184 ?_;refine jl 4 rfl rfl rfl (Ev.move aa) ?_;refine m224 ?_;refine jl 6 rfl rfl rfl (Ev.indexAddr pg jQ (.g rfl id) (.g rfl id) (λw I=>hsa.cO I.keeps) (λ_=>by grind)) ?_;refine jl 7 rfl rfl rfl (Ev.eT jQ (.g rfl id) (λw I=>hsa.cO I.keeps) (λ_=>by grind)) ?_;refine jl 8 rfl rfl rfl (Ev.move aa) ?_;refine jl 9 rfl rfl rfl (Ev.move aa) ?_;refine jl 10 rfl rfl rfl (Ev.indexAddr pg jQ (.g rfl id) (.g rfl id) (λw I=>hsb.cO I.keeps) (λ_=>by grind)) ?_;refine jl 11 rfl rfl rfl (Ev.eT jQ (.g rfl id) (λw I=>hsb.cO I.keeps) (λ_=>by grind)) ?_;refine jl 12 rfl rfl rfl (Ev.Au (.g rfl id) (.g rfl id)) ?_;refine tk 13 rfl (Ev.D2 aa rfl) ?_;refine m142 ?_;refine ig rfl (λhlt=>?_) (λhge=>?_)
 ·refine m8 ?_;refine block ?_;refine m34 ?_;refine vK rfl (nil (bN (pN (nx _ ⟨?_,?_⟩ ?_))))
  ·omega
  ·grind [FD]
  omega
 ·refine m13 ?_;refine m16 ?_;refine mv rfl (co (Ev.xS aa aa) ?_);refine nP ?_;refine ig rfl (λheq=>?_) (λhne=>?_)
  ·refine m1 ?_;refine co (Ev.Nw (.c rfl) aa (λ_=>zo)) ?_;refine m48 ?_;refine pR (dn rfl rfl ?_);have hst:=Ug a b i.toNat (by omega)
   simp_all [pT]
  ·have hq:¬ a.getD i.toNat 0 = b.getD i.toNat 0:=λhq=>by
    have ga:=xk a m i.toNat (by omega);have gb:=xk b m i.toNat (by omega);have hq2:=ga.trans (hq.trans gb.symm)
    rcases hge with h | h
    ·omega
    ·exact h hq2
   have hst:=FD a b i.toNat (by omega) (by omega);rw [if_neg hq] at hst;have hci:p7 a b = i.toNat:=by omega
   refine m196 ?_;refine m47 ?_;refine tk 1 rfl (Ev.Nw (.c rfl) aa (λ_=>zo)) ?_;refine m222 ?_;refine m184 ?_;refine tk 4 rfl (Ev.indexAddr pg jQ aa aa zf (λ_=>zo)) ?_;refine tk 5 rfl (Ev.eT jQ aa zf (λ_=>zo)) ?_;refine m198 ?_;refine tk 8 rfl (Ev.indexAddr pg jQ aa aa zf (λ_=>zo)) ?_;refine tk 9 rfl (Ev.eT jQ aa zf (λ_=>zo)) ?_;refine tk 10 rfl (Ev.aao aa aa) ?_;refine fB 11 rfl (dg eN (o1 rfl) (λw I=>abr _ w) ?_);refine m180 ?_;refine tk 12 rfl (Ev.lx aa aa (λ_=>by grind [NF])) ?_;refine m240 ?_;refine m142 ?_;refine m123 ?_;unfold pT;rw [if_neg (by omega),hci];have ga:=xk a m i.toNat (by omega);have gb:=xk b m i.toNat (by omega);have ei:(i.toNat:Int) = i:=by omega
   rw [ei,<- ga,<- gb]; rfl
def bn (x k:Nat):Nat:=x / 2 ^ k % 2
theorem Mq (x y k:Nat):bn (x ^^^ y) k = (bn x k + bn y k) % 2:=by
 have h:=Nat.testBit_xor x y k
 grind [bn]
theorem sV (b:List UInt8) (i:Int):(iR b i).toNat = bn (b.getD (i / 8).toNat 0).toNat (7 - i % 8).toNat:=by
 unfold iR bn;simp [oK,x7]
theorem Pv (x:UInt8) (h:x ≠ 0):1 <= (wq x).toNat /\ (wq x).toNat <= 8 /\ (∀ s,s < 8 - (wq x).toNat->bn x.toNat (7 - s) = 0) /\ bn x.toNat (7 - (8 - (wq x).toNat)) = 1:=by
 have h1:∀ n:Fin 256,n.val ≠ 0->1 <= (wq (UInt8.ofNat n.val)).toNat /\ (wq (UInt8.ofNat n.val)).toNat <= 8 /\ (∀ s:Fin 8,s.val < 8 - (wq (UInt8.ofNat n.val)).toNat->bn n.val (7 - s.val) = 0) /\ bn n.val (7 - (8 - (wq (UInt8.ofNat n.val)).toNat)) = 1:=by decide +kernel
 have h2:=h1 ⟨x.toNat,x.toNat_lt⟩ (λe=>h (cG.1 e));simp only [mX] at h2;exact ⟨h2.1,h2.2.1,λs hs=>h2.2.2.1 ⟨s,by omega⟩ hs,h2.2.2.2⟩
theorem N8:∀ a b:List UInt8,p7 a b <= a.length /\ p7 a b <= b.length
 | [],b=>by simp [p7]
 | x :: a,[]=>by simp [p7]
 | x :: a,y :: b=>by
   have:=N8 a b
   grind [p7]
theorem N9:∀ (a b:List UInt8) (j:Nat),j < p7 a b->a.getD j 0 = b.getD j 0
 | [],b,j,h=>by trivial
 | x :: a,[],j,h=>by trivial
 | x :: a,y :: b,j,h=>by
   simp only [p7] at h;split at h
   ·rename_i e;cases j with
    | zero=>trivial
    | succ j=>simpa [List.getD] using N9 a b j (by omega)
   ·omega
theorem N7:∀ (a b:List UInt8),p7 a b < a.length->p7 a b < b.length->a.getD (p7 a b) 0 ≠ b.getD (p7 a b) 0
 | [],b,h,_=>by grind
 | x :: a,[],_,h=>by grind
 | x :: a,y :: b,h1,h2=>by
   simp only [p7,aS] at h1 h2 ⊢;split
   ·rename_i e;rw [if_pos e] at h1 h2
    simpa [List.getD] using N7 a b (by omega) (by omega)
   assumption
structure ahe (a b:List UInt8) (n:Int):Prop where
 p:0 <= n
 la:n <= 8 * a.length
 lb:n <= 8 * b.length
 eq:∀ i:Int,0 <= i->i < n->iR a i = iR b i
 ne:n < 8 * a.length->n < 8 * b.length->iR a n ≠ iR b n
theorem Ds (a b:List UInt8):ahe a b (pT a b):=by
 obtain⟨h1,h2⟩:=N8 a b;have heq:=N9 a b;have hne:=N7 a b;unfold pT
 generalize p7 a b = c at *
 split
 ·rename_i hc;refine ⟨by omega,by omega,by omega,λi h0 hi=>?_,λh3 h4=>by omega⟩
  grind [iR]
 ·rename_i hc;have hx:=hne (by omega) (by omega);have hx2:a.getD c 0 ^^^ b.getD c 0 ≠ 0:=λe=>hx (by
   have e2:=aL UInt8.toNat e;rw [lS] at e2;exact cG.1 (xor_zero e2))
  obtain⟨l1,l2,l3,l4⟩:=Pv _ hx2
  generalize hl:wq (a.getD c 0 ^^^ b.getD c 0) = l at *
  have hlo:∀ s:Nat,s < 8 - l.toNat->bn (a.getD c 0).toNat (7 - s) = bn (b.getD c 0).toNat (7 - s):=λs hs=>by
   have e:=l3 s hs;rw [lS,Mq] at e;have ha:bn (a.getD c 0).toNat (7 - s) < 2:=jY _ (by decide);have hb:bn (b.getD c 0).toNat (7 - s) < 2:=jY _ (by decide);omega
  have hhi:bn _ _ ≠ bn (b.getD c 0).toNat (7 - (8 - l.toNat)):=λe=>by
   rw [lS,Mq,e] at l4;omega
  refine ⟨by omega,by omega,by omega,λi h0 hi=>?_,λh3 h4=>λe=>?_⟩
  ·by_cases hic:i / 8 < c
   ·grind [iR]
   ·have e1:(i / 8).toNat = c:=by omega
    apply cG.1;rw [sV,sV,e1];have e2:(7 - i % 8).toNat = 7 - (i % 8).toNat:=by omega
    grind
  grind [UInt8.toNat,sV]
def wd (a:bJ):Int:=bif a.v6 then 128 else 32
theorem xA (a:bJ):32 <= wd a /\ wd a <= 128:=by grind [wd]
def D5 (left:Int) (x:UInt8):UInt8:=if left <= 0 then 0 else if left < 8 then x &&& Wh 255 (8 - left).toNat else x
def mf (bits:Int) (b:Vector UInt8 16):Vector UInt8 16:=Vector.ofFn λi=>D5 (bits - 8 * (i.val:Int)) b[i]
def oh (bits:Int) (b:Vector UInt8 16) (k:Int):Vector UInt8 16:=Vector.ofFn λi=>if (i.val:Int) < k then D5 (bits - 8 * (i.val:Int)) b[i] else b[i]
theorem Iu (bits:Int) (b:Vector UInt8 16):oh bits b 0 = b:=by
 simp [ju,oh,iU,if_neg,oN]
theorem Lg (bits:Int) (b:Vector UInt8 16) (k:Int) (h:16 <= k):oh bits b k = mf bits b:=by
 grind [oh,mf]
theorem wi (bits:Int) (b:Vector UInt8 16) (k:Int) (h0:0 <= k) (h1:k < 16) (hk:k.toNat < 16):(oh bits b k).set k.toNat (D5 (bits - 8 * k) b[k.toNat]) hk = oh bits b (k + 1):=by
 apply ju;intro i hi;rw [Vector.getElem_set]
 grind [oh]
theorem Iw (bits:Int) (b:Vector UInt8 16) (k:Int) (h0:0 <= k) (h1:k < 16) (hk:k.toNat < 16) (h:D5 (bits - 8 * k) b[k.toNat] = b[k.toNat]):oh bits b k = oh bits b (k + 1):=by
 rw [<- wi bits b k h0 h1 hk,h];apply ju
 grind [oh]
theorem Lf (bits:Int) (b:Vector UInt8 16) (k:Int) (h0:0 <= k) (hk:k.toNat < 16):(oh bits b k)[k.toNat] = b[k.toNat]:=by
 grind [oh]
def fT (a:bJ):Int:=if mf (wd a) a.b = a.b then 0 else 150
def gw (p:aw):Int:=if p.bits < 0 \/ wd p.addr < p.bits \/ mf p.bits p.addr.b ≠ p.addr.b then 151 else 0
def vb (p:aw) (a:bJ):Bool:=decide (gw p = 0) && decide (fT a = 0) && decide (a.v6 = p.addr.v6) && decide (p.bits <= pT a.b.toList p.addr.b.toList)
def mP (p q:aw):Bool:=decide (gw q = 0) && decide (p.bits <= q.bits) && vb p q.addr
theorem B5 (a:bJ) (w:World):aR 164 #[iz.val a] w (dO w (I (wd a))):=by
 refine iZ 5 Tryz.func164 (λ_ _=>?_);refine m15 ?_;refine box aa (λb1=>?_);refine m159 ?_;refine m107 ?_;refine ig rfl (λh0=>?_) (λh0=>?_)
 ·refine sg (ac (I 128) ?_);refine m190 ?_;simp [wd,h0,ug]
 ·refine m153 ?_;refine ac (I 32) ?_;refine nP ?_;refine m123 ?_;simp [wd,h0,ug]
def z55:zI 55 iz:=kI
theorem Ah (a:bJ) (n:Int) (w:World) (hn:0 <= n /\ n <= 128):aR 163 #[iz.val a,I n] w (dO w (iz.val { a with b:=mf n a.b })):=by
 refine iZ 35 Tryz.func163 (λ_ _=>?_);refine m15 ?_;refine box aa (λb1=>?_);refine cons (alloc z55 (λb2=>?_));refine m143 ?_;refine sg ?_;refine m26 ?_;refine nP (block (lp (λx=>(0 <= x.1 /\ x.1 <= 16) /\ (x.2 = oh n a.b x.1)) (λx=>[dz,(1,true,I n),(2,true,jc b1),(4,true,jc b2),(7,true,I x.1)]) (λx=>[Var b2 iz iz.zero 55,Var b1 iz { a with b:=x.2 } 55]) (λx=>(16 - x.1).toNat) (0,a.b) ⟨?_,?_⟩ (λx hx=>?_)))
 ·omega
 ·exact (Iu n a.b).symm
 obtain⟨k,v⟩:=x;dsimp only at hx;obtain⟨hk,hv⟩:=hx;refine sg ?_;refine m77 ?_;refine m143 ?_;refine ig rfl (λhlt=>?_) (λhge=>?_)
 ·refine m150 ?_;refine m6 ?_;refine mv rfl (co (Ev.Nw (.c rfl) aa (λ_=>zo)) ?_);refine co (Ev.uh aa aa (λ_=>zo)) ?_;refine m0 ?_;refine block (sg ?_);have hk16:k.toNat < 16:=by omega
  refine mv rfl (co (Ev.SX aa (.c rfl)) ?_);refine m0 ?_;refine ig rfl (λhz=>?_) (λhnz=>?_)
  ·have hst:v.set k.toNat 0 hk16 = oh n a.b (k + 1):=by
    rw [hv,<- wi n a.b k hk.1 (by omega) hk16]
    congr 1
    unfold D5;rw [if_pos hz]
   refine m19 ?_;refine m121 ?_;refine cons (j8 jQ (aB.comp bJ.D9 (rP iO _ (by omega))) aa (.c (v:=U8 0) rfl) ?_);refine nil (bN ?_);refine m2 ?_;exact s78
  ·refine m1 ?_;refine m77 ?_;refine m0 ?_;refine ig rfl (λh8=>?_) (λhn8=>?_)
   ·have hst:v.set k.toNat (v[k.toNat] &&& Wh 255 (8 - (n - 8 * k)).toNat) hk16 = oh n a.b (k + 1):=by
     rw [<- wi n a.b k hk.1 (by omega) hk16,<- hv]
     congr 1
     unfold D5;rw [if_neg hnz,if_pos h8,hv,Lf n a.b k hk.1 hk16]
    refine vE 2 rfl zr zk ?_;refine m202 ?_;refine tk 1 rfl (fA 1 aa) ?_;refine tk 2 rfl (Ev.lj Oi jQ aa aa (λ_=>zo)) ?_;refine tm 4 rfl rfl ?_;refine tk 5 rfl (Ev.uh (.c rfl) aa (λ_=>zo)) ?_;refine tk 6 rfl (Ev.aaJ (.c (v:=U8 255) rfl) aa (λ_=>zo)) ?_;refine tk 8 rfl (fA 1 aa) ?_;refine fB 3 rfl (BF (Ev.gS jQ aa (aB.comp bJ.D9 (rP iO _ (by omega)))) ?_);refine m180 ?_;refine tk 7 rfl (Ev.UO aa aa) ?_;refine tk 9 rfl (Ev.lj Oi jQ aa aa (λ_=>zo)) ?_;refine fB 10 rfl (j8 jQ (aB.comp bJ.D9 (rP iO _ (by omega))) aa aa ?_);refine m180 ?_;refine D3 (bN ?_);refine m2 ?_;exact s78
   ·have hst:v = oh n a.b (k + 1):=by
     rw [hv];exact Iw n a.b k hk.1 (by omega) hk16 (by unfold D5; rw [if_neg hnz,if_neg hn8])
    refine skip (bN ?_);refine m2 ?_;refine mv rfl (nP (nx (k + 1,_) ⟨?_,?_⟩ ?_))
    ·omega
    ·omega
    omega
 ·refine m13 ?_;refine sg (co (Ev.gS mR aa (aB.id _)) ?_);refine cons (j8 mR (aB.id _) aa aa ?_);refine m284 ?_;refine done rfl (.cellP rfl mR (ed zm (aB.id _)) .nil) (Cq ?_)
  simp_all [Lg]
theorem FG (a:bJ) (w:World):aR 113 #[iz.val a] w (dO w (I (fT a))):=by
 have hw:=xA a;refine iZ 11 Tryz.func113 (λ_ _=>?_);refine m15 ?_;refine box aa (λb1=>?_);refine m159 ?_;refine seq (o9 zk ?_);refine tk 0 rfl (Ev.gR a mR aa (aB.id _)) ?_;refine tk 1 rfl (Ev.gR a mR aa (aB.id _)) ?_;refine tk 5 rfl (fA 1 aa) ?_;refine tk 6 rfl (Ev.gR a.b Km aa bJ.D9) ?_;refine fB 2 rfl (dg eN (o1 rfl) (λw I=>B5 _ w) ?_);refine m180 ?_;refine fB 3 rfl (dg eN (o2 rfl rfl) (λw I=>Ah _ _ w (by omega)) ?_);refine m180 ?_;refine tk 4 rfl (Ev.TO rfl zk Km bJ.D9 aa) ?_;refine tk 7 rfl (Ev.SC rfl (Dg Oi jQ (GY Y5)) rfl zk aa aa) ?_;refine m142 ?_;refine ig rfl (λh0=>?_) (λh0=>?_)
 ·refine sg (ac (I 150) ?_);refine m190 ?_;have hne:mf (wd a) a.b ≠ a.b:=by simpa using h0
  simp_all [fT]
 ·refine m228 ?_;have he:mf (wd a) a.b = a.b:=by simpa using h0
  simp_all [fT]
theorem Ay (p:aw) (w:World):aR 133 #[cJ.val p] w (dO w (I (gw p))):=by
 have hw:=xA p.addr;refine iZ 26 Tryz.func133 (λ_ _=>?_);refine m15 ?_;refine box aa (λb1=>?_);refine m159 ?_;refine seq (o9 zk ?_);refine tk 0 rfl (fA 17 aa) ?_;refine tk 1 rfl (Ev.gR p.bits l9 aa aw.lZ) ?_;refine tk 2 rfl (Ev.rE aa (.c rfl)) ?_;refine m184 ?_;refine jl 4 rfl rfl rfl (fA 17 aa) ?_;refine jl 5 rfl rfl rfl (Ev.gR p.bits l9 (.g rfl id) aw.lZ) ?_;refine jl 6 rfl rfl rfl (fA 0 aa) ?_;refine jl 7 rfl rfl rfl (Ev.gR p.addr mR (.g rfl id) aw.lh) ?_;refine fB 8 rfl (sT rfl rfl eN (.cons (.g rfl id) .nil) (λhg w I=>B5 _ w) ?_);refine m180 ?_;refine jl 9 rfl rfl rfl (Ev.A1 (.g rfl id) (.g rfl id)) ?_;refine tk 10 rfl (Ev.pkO aa rfl) ?_;refine tm 11 rfl rfl ?_;refine jl 12 rfl rfl rfl (fA 0 aa) ?_;refine jl 13 rfl rfl rfl (Ev.gR p.addr mR (.g rfl id) aw.lh) ?_;refine jl 14 rfl rfl rfl (fA 17 aa) ?_;refine jl 15 rfl rfl rfl (Ev.gR p.bits l9 (.g rfl id) aw.lZ) ?_;refine jl 18 rfl rfl rfl (fA 0 aa) ?_;refine jl 19 rfl rfl rfl (fA 1 (.g rfl id)) ?_;refine jl 20 rfl rfl rfl (Ev.gR p.addr.b Km (.g rfl id) (aB.comp aw.lh bJ.D9)) ?_;refine fB 16 rfl (sT rfl rfl eN (.cons (.g rfl id) (.cons (.g rfl id) .nil)) (λhg w I=>Ah _ _ w (by grind)) ?_);refine m180 ?_;refine jl 17 rfl rfl rfl (Ev.TO rfl zk Km bJ.D9 (.g rfl id)) ?_;refine jl 21 rfl rfl rfl (Ev.SC rfl (Dg Oi jQ (GY Y5)) rfl zk (.g rfl id) (.g rfl id)) ?_;refine tk 22 rfl (Ev.pkO aa rfl) ?_;refine m142 ?_;refine nG rfl (λh0=>?_) (λh0=>?_)
 ·refine sg (ac (I 151) ?_);refine m190 ?_;unfold gw; rw [if_pos (by simpa [and_assoc,or_assoc] using h0)]; rfl
 ·refine m228 ?_
  simp_all [gw,if_neg]
theorem NN (p:aw) (a:bJ) (w:World):aR 195 #[cJ.val p,iz.val a] w (dO w (.bool (vb p a))):=by
 refine iZ 32 Tryz.func195 (λ_ _=>?_);refine m15 ?_;refine box aa (λb1=>?_);refine cons (box aa (λb2=>?_));refine m98 ?_;refine seq (o9 zk ?_);refine tk 0 rfl (Ev.gR p kr aa (aB.id _)) ?_;refine fB 1 rfl (dg eN (o1 rfl) (λw I=>Ay _ w) ?_);refine m180 ?_;refine tk 2 rfl (Ev.xS aa (.c rfl)) ?_;refine m184 ?_;refine jl 4 rfl rfl rfl (Ev.gR a mR aa (aB.id _)) ?_;refine fB 5 rfl (sT rfl rfl eN (.cons (.g rfl id) .nil) (λhg w I=>FG _ w) ?_);refine m180 ?_;refine jl 6 rfl rfl rfl (Ev.xS (.g rfl id) (.c rfl)) ?_;refine tk 7 rfl (Ev.D2 aa rfl) ?_;refine tm 8 rfl rfl ?_;refine jl 9 rfl rfl rfl (fA 0 aa) ?_;refine jl 10 rfl rfl rfl (Ev.gR a.v6 x6 (.g rfl id) bJ.wv) ?_;refine jl 11 rfl rfl rfl (fA 0 aa) ?_;refine jl 12 rfl rfl rfl (fA 0 (.g rfl id)) ?_;refine jl 13 rfl rfl rfl (Ev.gR p.addr.v6 x6 (.g rfl id) (aB.comp aw.lh bJ.wv)) ?_;refine jl 14 rfl rfl rfl (Ev.Z2 Y4 (.g rfl id) (.g rfl id)) ?_;refine tk 15 rfl (Ev.D2 aa rfl) ?_;refine tm 16 rfl rfl ?_;refine jl 17 rfl rfl rfl (fA 1 aa) ?_;refine jl 18 rfl rfl rfl (Ev.sk Oi jQ (.g rfl id) rfl rfl (λ_=>by decide)) ?_;refine jl 19 rfl rfl rfl (fA 0 aa) ?_;refine jl 20 rfl rfl rfl (fA 1 (.g rfl id)) ?_;refine jl 21 rfl rfl rfl (Ev.sk Oi jQ (.g rfl id) rfl rfl (λ_=>by decide)) ?_;refine jl 23 rfl rfl rfl (fA 17 aa) ?_;refine jl 24 rfl rfl rfl (Ev.gR p.bits l9 (.g rfl id) aw.lZ) ?_;refine fB 22 rfl (sT rfl rfl eN (.cons (.g rfl id) (.cons (.g rfl id) .nil)) (λhg w I=>P8 _ _ _ _ w (uz (ed (by repeat exact mH) bJ.D9 w I) (by decide) (by decide) (by decide)) (uz (ed (by repeat first | exact mH | apply mT | apply mA) (aB.comp aw.lh bJ.D9) w I) (by decide) (by decide) (by decide)) (by simp)) ?_);refine m180 ?_;refine jl 25 rfl rfl rfl (Ev.Fq (.g rfl id) (.g rfl id)) ?_;refine tk 26 rfl (Ev.D2 aa rfl) ?_
 refine tk 27 rfl (Ev.assign aa) ?_;refine m142 ?_;refine m123 ?_;simp [vb,ug]
theorem L9 (p q:aw) (w:World):aR 272 #[cJ.val p,cJ.val q] w (dO w (.bool (mP p q))):=by
 refine iZ 21 Tryz.func272 (λ_ _=>?_);refine m15 ?_;refine box aa (λb1=>?_);refine cons (box aa (λb2=>?_));refine m98 ?_;refine sg (co (Ev.gR q kr aa (aB.id _)) ?_);refine m193 ?_;refine m43 ?_;refine mv rfl (cg rfl rfl (fA 17 aa) ?_);refine cg rfl rfl (Ev.gR p.bits l9 (.g rfl id) aw.lZ) ?_;refine cg rfl rfl (fA 17 aa) ?_;refine cg rfl rfl (Ev.gR q.bits l9 (.g rfl id) aw.lZ) ?_;refine m207 ?_;refine m28 ?_;refine mv rfl (cg rfl rfl (Ev.gR p kr aa (aB.id _)) ?_);refine cg rfl rfl (fA 0 aa) ?_;refine cg rfl rfl (Ev.gR q.addr mR (.g rfl id) aw.lh) ?_;refine cons (sT rfl rfl eN (.cons (.g rfl id) (.cons (.g rfl id) .nil)) (λhg w I=>NN _ _ w) ?_);exact s31
def ckB (b:dh):Int:=if b.num < 1 \/ 65536 < b.num \/ b.den < 1 \/ 65536 < b.den \/ b.Dy < 1 \/ 1048576 < b.Dy then 2 else 0
theorem Qg (b:dh) (w:World):aR 231 #[tQ.val b] w (dO w (I (ckB b))):=by
 refine iZ 31 Tryz.func231 (λ_ _=>?_);refine m15 ?_;refine box aa (λb1=>?_);refine m159 ?_;refine m35 ?_;refine co (Ev.gR b.num nh aa dh.S1) ?_;refine co (Ev.y4 aa (.c (v:=fO 1) rfl)) ?_;refine mv rfl (cg rfl rfl (fA 0 aa) ?_);refine cg rfl rfl (Ev.gR b.num nh (.g rfl id) dh.S1) ?_;refine m234 ?_;refine m294 ?_;refine m111 ?_;refine m294 ?_;refine m234 ?_;refine m255 ?_;refine m111 ?_;refine m255 ?_;refine m128 ?_;refine nP ?_;refine ig rfl (λh0=>?_) (λh0=>?_)
 ·refine sg (ac (I 2) ?_);refine m190 ?_;have e:ckB b = 2:=by unfold ckB; rw [if_pos (by simpa [or_assoc] using h0)]
  rw [e]; rfl
 ·refine m228 ?_
  simp_all [ckB,if_neg]
structure rY (w:World) (x:KB) (l:CL):Prop where
 ps:pe w x.b1 iE iE (KN l)
 rs:pe w x.b2 cJ iE (BB l)
 us:pe w x.b3 sE iE (uQ l)
 ms:pe w x.b4 sE iE (uW l)
 xs:pe w x.b5 sE iE (sB l)
def rY.cO {w w':World} {x:KB} {l:CL} (h:rY w x l) (k:bf fX w w'):rY w' x l:=⟨h.ps.cO k,h.rs.cO k,h.us.cO k,h.ms.cO k,h.xs.cO k⟩
theorem tM {K:Ctx} {L:List du} {x:KB} {l:CL} (hs:∀ r ∈ x.R l,r ∈ L) (w:World) (I:bS K L w):rY w x l :=
 ⟨ml (hs _ (by simp [KB.R])) w I,ml (hs _ (by simp [KB.R])) w I,ml (hs _ (by simp [KB.R])) w I,ml (hs _ (by simp [KB.R])) w I,ml (hs _ (by simp [KB.R])) w I⟩
def ES (l:CL) (p:Int):Bool:=(gB vD p (KN l)).isSome
def qm (l:CL) (r:dk) (i:Int):Int:=if gw r.qi ≠ 0 then 151 else if ES l r.out = false then 5 else if (gB aw.nQ r.qi (BB l)).getD 0 < i then 2 else 0
def aer:ot 327 (dJ og):=oq
theorem WH (k:KB) (l:CL) (p:Int) (w:World) (hk:rY w k l):aR 229 #[gu.val k.k,I p] w (dO w (.bool (ES l p))):=by
 refine iZ 15 Tryz.func229 (λ_ _=>?_);refine m15 ?_;refine box aa (λb1=>?_);refine m98 ?_;refine m35 ?_;refine co (Ev.gS aer aa bg.jz) ?_;refine mv rfl (co (Ev.uZ acN Y3 S8 z3 aa aa (λ_=>(λw I=>hk.ps.cO I.keeps))) ?_);exact s71
def aeq:ot 328 (dJ og):=oq
theorem R0 (k:KB) (l:CL) (r:dk) (i:Int) (w:World) (hk:rY w k l):aR 180 #[gu.val k.k,ez.val r,I i] w (dO w (I (qm l r i))):=by
 refine iZ 26 Tryz.func180 (λ_ _=>?_);refine m15 ?_;refine box aa (λb1=>?_);refine cons (box aa (λb2=>?_));refine m159 ?_;refine block ?_;refine m35 ?_;refine co (Ev.gR r.qi kr aa dk.tK) ?_;refine m193 ?_;refine m158 ?_;refine ig rfl (λh0=>?_) (λh0=>?_)
 ·refine sg (ac (I 151) ?_);refine m10 ?_
  simp_all [qm]
 ·refine sg ?_;refine m133 ?_;refine cf 18 rfl ?_;refine co (Ev.gR r.out l9 aa dk.qS) ?_;refine m157 ?_;refine m194 ?_;refine ig rfl (λh1=>?_) (λh1=>?_)
  ·refine m258 ?_
   simp_all [qm,if_neg]
  ·refine sg ?_;refine m277 ?_;refine co (Ev.gS aeq aa bg.iy) ?_;refine cf 0 rfl ?_;refine co (Ev.gR r.qi kr aa dk.tK) ?_;refine co (Ev.BJ acM My Ln z3 aa aa (λ_=>(λw I=>hk.rs.cO I.keeps))) ?_;refine m130 ?_;refine ig rfl (λh2=>?_) (λh2=>?_)
   ·refine m94 ?_
    simp_all [qm,if_neg]
   ·refine m23 ?_;unfold qm; simp_all [if_neg]
def sx (c i:Int):Bool:=(decide (97 <= c) && decide (c <= 122)) || (decide (0 < i) && ((decide (48 <= c) && decide (c <= 57)) || decide (c = 45) || decide (c = 95)))
def qa (s:ByteArray):Bool:=!(decide (s.size = 0) || decide (16 < s.size)) && (List.range s.size).all (λk=>sx (s.get! k).toNat k)
theorem CP {c:Int} (h:128 <= c):sx c i = false:=by
 grind [sx]
theorem E2 {i:Nat} (hc:sx (Utf8.decode s i).1 i = true):(Utf8.decode s i).2 = 1 /\ sx (s.get! i).toNat i = true:=by
 have hlt:=nX λh=>by
  have:=Gx.decode_high s i h;rw [CP (by omega)] at hc;cases hc
 simp_all [Utf8.decode,jP]
theorem SE {i:Nat} (hc:sx (Utf8.decode s i).1 i = false):sx (s.get! i).toNat i = false:=by
 by_cases hlt:(s.get! i).toNat < 128
 ·grind [Utf8.decode]
 ·exact CP (by omega)
theorem Xb (s:ByteArray) (w:World) (hs:s.size <= 9223372036854775807):aR 230 #[.string s] w (dO w (.bool (qa s))):=by
 refine iZ 45 Tryz.func230 (λ_ _=>?_);refine m173 ?_;refine co (Ev.afF Y9 aa) ?_;refine m43 ?_;refine m5 ?_;refine cg rfl rfl (Ev.afF Y9 (.g rfl id)) ?_;refine m63 ?_;refine nP ?_;refine ig rfl (λh0=>?_) (λh0=>?_)
 ·refine m12 ?_;refine ret (pR (dn rfl rfl ?_));have e:qa s = false:=by
   have h:(decide (s.size = 0) || decide (16 < s.size)) = true:=by rw [iH,kP,kP]; omega
   unfold qa;rw [h]
   rfl
  rw [e]; rfl
 ·refine m229 ?_;refine cons (HJ Y9 aa (λr1=>?_));refine nP (block (lp (λx=>(x <= s.size) /\ (∀ k:Nat,k < x->sx (s.get! k).toNat k = true)) (λx=>[dz,(14,true,jc r1)]) (λx=>[Oj r1 s x]) (λx=>s.size - x) (0) ⟨?_,?_⟩ (λx hx=>?_)))
  ·omega
  ·omega
  obtain⟨i,rfl⟩:∃ y,y = x:=⟨x,rfl⟩;obtain⟨hi,hq⟩:(i <= s.size) /\ (∀ k:Nat,k < i->sx (s.get! k).toNat k = true):=hx;refine sg (cons (W8 aa (λ_=>zu) (λhs5=>?_) (λhs5=>?_)))
  ·refine cx rfl rfl ?_;refine m143 ?_;refine nS rfl (rfl) ?_;refine m13 ?_;refine m12 ?_;refine m123 ?_;have e:qa s = true:=by
    have h:(decide (s.size = 0) || decide (16 < s.size)) = false:=by rw [iJ,iS,iS]; omega
    unfold qa;rw [h];exact fI.2 λk hk=>hq k (by have:=List.mem_range.1 hk; omega)
   rw [e]; rfl
  ·refine cx rfl rfl ?_;refine m143 ?_;refine N6 rfl (rfl) ?_;refine m8 ?_;refine block (sg (cx rfl rfl (cx rfl rfl ?_)));refine m41 ?_;refine block ?_;refine m1 ?_;refine co (Ev.NW aa (.c rfl)) ?_;refine m5 ?_;refine cg rfl rfl (Ev.ND (.g rfl id) (.c rfl)) ?_;refine m28 ?_;refine m0 ?_;refine nG rfl (λh2=>?_) (λh2=>?_)
   ·refine skip (bN (bN (pN (nx (_) ⟨?_,?_⟩ ?_))))
    ·exact s38
    ·exact s38
    ·exact s38
   ·refine m1 ?_;refine m137 ?_;refine m5 ?_;refine cg rfl rfl (Ev.NW (.g rfl id) (.c rfl)) ?_;refine m120 ?_;refine m104 ?_;refine cg rfl rfl (Ev.ND (.g rfl id) (.c rfl)) ?_;refine cg rfl rfl (Ev.D2 (.g rfl id) rfl) ?_;refine m260 ?_;refine cg rfl rfl (Ev.pkO (.g rfl id) rfl) ?_;refine m260 ?_;refine m147 ?_;refine nG rfl (λh3=>?_) (λh3=>?_)
    ·refine skip (bN (bN (pN (nx (_) ⟨?_,?_⟩ ?_))))
     ·exact s27
     ·exact s27
     ·exact s27
    ·refine m12 ?_;refine ret (bR (bR (pR (bR (pR (dn rfl rfl ?_))))));have hb:=SE (by unfold sx; rw [h2,h3]; rfl);have e:qa s = false:=by
      unfold qa;have:(List.range s.size).all (λk=>sx (s.get! k).toNat k) = false:=List.all_eq_false.2 ⟨i,List.mem_range.2 (by assumption),by simp [hb]⟩;rw [this,Bool.and_false]
     rw [e]; rfl
def uX (l:CL) (m:bQ) (i:Int):Int:=if qa m.name = false then 201 else if (gB eqs m.name (uW l)).getD 0 < i \/ ckB m.bucket ≠ 0 then 2 else 0
def Hy:ot 212 (dJ og):=oq
theorem SH (k:KB) (l:CL) (m:bQ) (i:Int) (w:World) (hk:rY w k l) (hs:m.name.size <= 9223372036854775807):aR 184 #[gu.val k.k,eH.val m,I i] w (dO w (I (uX l m i))):=by
 refine iZ 24 Tryz.func184 (λ_ _=>?_);refine m15 ?_;refine box aa (λb1=>?_);refine cons (box aa (λb2=>?_));refine m159 ?_;refine block ?_;refine m35 ?_;refine co (Ev.gR m.name Hw aa bQ.mB) ?_;refine m114 ?_;refine ig rfl (λh0=>?_) (λh0=>?_)
 ·refine sg (ac (I 201) ?_);refine m10 ?_
  simp_all [uX]
 ·refine seq (sg (cf 3 rfl ?_));refine co (Ev.gS Hy aa bg.mg) ?_;refine cf 0 rfl ?_;refine co (Ev.gR m.name Hw aa bQ.mB) ?_;refine co (Ev.BJ Ej Y9 Ea z3 aa aa (λ_=>(λw I=>hk.ms.cO I.keeps))) ?_;refine m130 ?_;refine ig rfl (λh1=>?_) (λh1=>?_)
  ·refine m8 ?_;refine ig rfl (λh2=>?_) (λh2=>?_)
   ·exact s70
   ·refine m23 ?_;omega
  ·refine region ?_;refine m277 ?_;refine co (Ev.gR m.bucket aet aa bQ.ID) ?_;refine cons (dg eN (o1 rfl) (λw I=>Qg _ w) ?_);refine m158 ?_;refine ig rfl (λh2=>?_) (λh2=>?_)
   ·exact s70
   ·refine m23 ?_;unfold uX; simp_all [if_neg,done]
structure CB where
 o1:OV
 o2:OV
 o3:OV
 o4:OV
 o5:OV
def CB.c (x:CB) (d:Int):cy:=⟨x.o1,x.o2,x.o3,x.o4,x.o5,d⟩
def CB.R (x:CB) (l:CL):List du:=[bY x.o5.v dL l.xs 218,bY x.o4.v eH l.ms 216,bY x.o3.v iK l.us 201,bY x.o2.v ez l.rs 280,bY x.o1.v iE l.ps 3]
structure CL.Small (l:CL):Prop where
 ps:l.ps.length <= 1048576
 rs:l.rs.length <= 1048576
 us:l.us.length <= 1048576
 ms:l.ms.length <= 1048576
 xs:l.xs.length <= 1048576
def z28:zI 28 jI:=kI
def DX:ot 28 jI:=oq
theorem Yl (c:cy) (l:CL) (w:World) (hc:kA w c l) (hs:l.Small):aR 79 #[jI.val c] w (nz w (λ_:CB=>True) (λx=>jI.val (x.c c.default)) (λx=>x.R l)):=by
 refine iZ 21 Tryz.func79 (λ_ _=>?_);refine m15 ?_;refine box aa (λb1=>?_);refine cons (alloc z28 (λb2=>?_));refine m29 ?_;refine tk 15 rfl (fA 5 aa) ?_;refine tk 16 rfl (Ev.gR c.default l9 aa cy.nD) ?_;refine fB 2 rfl ((jW eN (o1 rfl) (λw I=>Yn _ _ w (hc.cO I.keeps).ps (by have:=hs.ps; omega)) (λv3=>?_)));refine xi (fB 5 rfl ((jW eN (o1 rfl) (λw I=>Qa _ _ w (hc.cO I.keeps).rs (by have:=hs.rs; omega)) (λv4=>?_))));refine xi (fB 8 rfl ((jW eN (o1 rfl) (λw I=>Qd _ _ w (hc.cO I.keeps).us (by have:=hs.us; omega)) (λv5=>?_))));refine xi (fB 11 rfl ((jW eN (o1 rfl) (λw I=>Qc _ _ w (hc.cO I.keeps).ms (by have:=hs.ms; omega)) (λv6=>?_))));refine xi (fB 14 rfl ((jW eN (o1 rfl) (λw I=>Qb _ _ w (hc.cO I.keeps).xs (by have:=hs.xs; omega)) (λv7=>?_))));refine m180 ?_;refine tk 17 rfl (Ev.fe (fs:=_) (places:=[(0,1),(1,1),(2,1),(3,1),(4,1),(5,1)]) z28 rfl Y28 zk (.cons aa (.cons aa (.cons aa (.cons aa (.cons aa (.cons aa .nil)))))) (bB.cons cy.jz rfl (bB.cons cy.iy rfl (bB.cons cy.kX rfl (bB.cons cy.mg rfl (bB.cons cy.kL rfl (bB.cons cy.nD rfl bB.nil))))))) ?_;refine fB 18 rfl (j8 DX (aB.id _) aa aa ?_);refine m51 ?_;refine ret (done rfl (.cellP rfl DX (ed zm (aB.id _)) .nil) (λw I=>?_));exact tU (⟨v3,v4,v5,v6,v7⟩:CB) trivial rfl (by exact zs) w I
def vy (ps:List Int) (p i:Int):Int:=if p < 0 \/ 255 < p then 5 else if 0 < i /\ p <= ps.getD (i - 1).toNat 0 then 2 else 0
theorem Sb (c:cy) (ps:List Int) (b:Nat) (p i:Int) (w:World) (hc:eK jI w b 0 c) (hp:bU iE w c.rB.v ps) (hi:0 <= i /\ i < ps.length):aR 178 #[I p,I i,.pointer (some ⟨b,0,none⟩)] w (dO w (I (vy ps p i))):=by
 have hle:=hp.le;refine iZ 26 Tryz.func178 (λ_ _=>?_);refine m71 ?_;refine seq (block ?_);refine m1 ?_;refine m77 ?_;refine m5 ?_;refine m63 ?_;refine m0 ?_;refine ig rfl (λh0=>?_) (λh0=>?_)
 ·refine m258 ?_
  simp_all [vy]
 ·refine m1 ?_;refine m137 ?_;refine m5 ?_;refine cg rfl rfl (fA 0 aa) ?_;refine cg rfl rfl (Ev.load Rb (.g rfl id) (jJ (λw I=>hc.keep I.keeps) cy.jz)) ?_;refine m104 ?_;refine cg rfl rfl (Ev.uh (.g rfl id) (.c rfl) (λ_=>by omega)) ?_;refine cg rfl rfl (Ev.indexAddr Ei l9 (.g rfl id) (.g rfl id) (λw I=>hp.cO I.keeps) (λ_=>by grind)) ?_;refine cg rfl rfl (Ev.eT l9 (.g rfl id) (λw I=>hp.cO I.keeps) (λ_=>by grind)) ?_;refine m207 ?_;refine m28 ?_;refine m0 ?_;refine ig rfl (λh1=>?_) (λh1=>?_)
  ·refine m94 ?_;unfold vy; rw [if_neg (by omega),if_pos ⟨h1.1,h1.2⟩]; rfl
  ·refine m23 ?_;unfold vy; rw [if_neg (by omega),if_neg (λhh=>h1.elim (λe=>e hh.1) (λe=>e hh.2))]; rfl
structure ae where
 src:bJ
 dst:bJ
 bz:UInt8
 dD:UInt16
 dE:UInt16
 ED:UInt8
 nq:UInt8
 id:UInt32
 flags:UInt8
 seq:UInt32
 data:OV
def ae.to:(bJ × (bJ × (UInt8 × (UInt16 × (UInt16 × (UInt8 × (UInt8 × (UInt32 × (UInt8 × (UInt32 × OV))))))))))->ae:=λx=>⟨x.1,x.2.1,x.2.2.1,x.2.2.2.1,x.2.2.2.2.1,x.2.2.2.2.2.1,x.2.2.2.2.2.2.1,x.2.2.2.2.2.2.2.1,x.2.2.2.2.2.2.2.2.1,x.2.2.2.2.2.2.2.2.2.1,x.2.2.2.2.2.2.2.2.2.2⟩
def ae.of:ae->(bJ × (bJ × (UInt8 × (UInt16 × (UInt16 × (UInt8 × (UInt8 × (UInt32 × (UInt8 × (UInt32 × OV)))))))))):=λx=>(x.src,x.dst,x.bz,x.dD,x.dE,x.ED,x.nq,x.id,x.flags,x.seq,x.data)
def bm:dy ae:=l8 (cW iz (cW iz (cW iO (cW xw (cW xw (cW iO (cW iO (cW OE (cW iO (cW OE (dJ aM))))))))))) ae.to ae.of
def ae.mM:aB bm iz 0:=lI ae.to ae.of l1
@[simp] theorem ae.NS (x:ae):ae.mM.get x = x.src:=rfl
@[simp] theorem ae.M5 (x:ae) (y:bJ):ae.mM.set x y = { x with src:=y }:=rfl
def ae.nM:aB bm iz 17:=lI ae.to ae.of (l2 l1)
@[simp] theorem ae.NV (x:ae):ae.nM.get x = x.dst:=rfl
@[simp] theorem ae.M6 (x:ae) (y:bJ):ae.nM.set x y = { x with dst:=y }:=rfl
def ae.iF:aB bm iO 34:=lI ae.to ae.of (l2 (l2 l1))
@[simp] theorem ae.Fo (x:ae):ae.iF.get x = x.bz:=rfl
@[simp] theorem ae.OT (x:ae) (y:UInt8):ae.iF.set x y = { x with bz:=y }:=rfl
def ae.gg:aB bm xw 35:=lI ae.to ae.of (l2 (l2 (l2 l1)))
@[simp] theorem ae.A3 (x:ae):ae.gg.get x = x.dD:=rfl
@[simp] theorem ae.AP (x:ae) (y:UInt16):ae.gg.set x y = { x with dD:=y }:=rfl
def ae.gk:aB bm xw 36:=lI ae.to ae.of (l2 (l2 (l2 (l2 l1))))
@[simp] theorem ae.A4 (x:ae):ae.gk.get x = x.dE:=rfl
@[simp] theorem ae.AQ (x:ae) (y:UInt16):ae.gk.set x y = { x with dE:=y }:=rfl
def ae.CY:aB bm iO 37:=lI ae.to ae.of (l2 (l2 (l2 (l2 (l2 l1)))))
@[simp] theorem ae.ahS (x:ae):ae.CY.get x = x.ED:=rfl
@[simp] theorem ae.ahr (x:ae) (y:UInt8):ae.CY.set x y = { x with ED:=y }:=rfl
def ae.uw:aB bm iO 38:=lI ae.to ae.of (l2 (l2 (l2 (l2 (l2 (l2 l1))))))
@[simp] theorem ae.ab4 (x:ae):ae.uw.get x = x.nq:=rfl
@[simp] theorem ae.aaP (x:ae) (y:UInt8):ae.uw.set x y = { x with nq:=y }:=rfl
def ae.GI:aB bm OE 39:=lI ae.to ae.of (l2 (l2 (l2 (l2 (l2 (l2 (l2 l1)))))))
@[simp] theorem ae.aj5 (x:ae):ae.GI.get x = x.id:=rfl
@[simp] theorem ae.aiK (x:ae) (y:UInt32):ae.GI.set x y = { x with id:=y }:=rfl
def ae.xb:aB bm iO 40:=lI ae.to ae.of (l2 (l2 (l2 (l2 (l2 (l2 (l2 (l2 l1))))))))
@[simp] theorem ae.adI (x:ae):ae.xb.get x = x.flags:=rfl
@[simp] theorem ae.adk (x:ae) (y:UInt8):ae.xb.set x y = { x with flags:=y }:=rfl
def ae.Fc:aB bm OE 41:=lI ae.to ae.of (l2 (l2 (l2 (l2 (l2 (l2 (l2 (l2 (l2 l1)))))))))
@[simp] theorem ae.ahT (x:ae):ae.Fc.get x = x.seq:=rfl
@[simp] theorem ae.ahs (x:ae) (y:UInt32):ae.Fc.set x y = { x with seq:=y }:=rfl
def ae.wB:aB bm (dJ aM) 42:=lI ae.to ae.of (l2 (l2 (l2 (l2 (l2 (l2 (l2 (l2 (l2 (l2 (aB.id _)))))))))))
@[simp] theorem ae.agA (x:ae):ae.wB.get x = x.data:=rfl
@[simp] theorem ae.aeO (x:ae) (y:OV):ae.wB.set x y = { x with data:=y }:=rfl
def sW (x:UInt8) (j:Nat):UInt8:=vI x (7 - j) &&& 1
theorem lR (x:UInt8) (j:Nat):(sW x j).toNat = bn x.toNat (7 - j):=by
 unfold sW bn;simp [oK,x7]
theorem zJ (xs:List UInt8) (q j:Nat) (hj:j < 8):iR xs (8 * (q:Int) + j) = sW (xs.getD q 0) j:=by
 grind [iR,sW]
theorem Xh:∀ n:Fin 256,∀ l:Fin 9,(D5 (l.val:Int) (UInt8.ofNat n.val) = UInt8.ofNat n.val ↔ ∀ j:Fin 8,l.val <= j.val->bn n.val (7 - j.val) = 0):=by decide +kernel
theorem Gw (x:UInt8) (left:Int):D5 left x = x ↔ ∀ j:Nat,j < 8->left <= j->sW x j = 0:=by
 have key:∀ l:Nat,l < 9->(D5 _ x = x ↔ ∀ j:Nat,j < 8->l <= j->sW x j = 0):=λl hl=>by
  have h:=Xh ⟨x.toNat,x.toNat_lt⟩ ⟨l,hl⟩;simp only [mX] at h;rw [h];constructor
  ·intro h1 j hj hlj;apply cG.1;rw [lR];exact h1 ⟨j,hj⟩ hlj
  ·intro h1 j hlj;rw [<- lR,h1 j.val j.isLt hlj]
   rfl
 by_cases h0:left <= 0
 ·grind [D5]
 ·by_cases h8:left < 8
  ·have e:left = (left.toNat:Int):=by omega
   grind
  grind [D5]
theorem yM (b:Vector UInt8 16) (k:Nat) (h:k < 16):b.toList.getD k 0 = b[k]:=by grind
theorem E5 (n:Int) (b:Vector UInt8 16) (h0:0 <= n):mf n b = b ↔ ∀ i:Int,n <= i->i < 128->iR b.toList i = 0:=by
 have step:mf n b = b ↔ ∀ (k:Nat) (hk:k < 16),D5 (n - 8 * (k:Int)) b[k] = b[k]:=by
  constructor
  ·intro h k hk;have:=aL (λv:Vector UInt8 16=>v[k]) h
   simpa [mf] using this
  ·intro h;apply ju;intro k hk;have:=h k hk
   simpa [mf] using this
 rw [step];constructor
 ·intro h i h1 h2;have hk:(i / 8).toNat < 16:=by omega
  have h3:=(Gw _ _).1 (h _ hk) (i % 8).toNat (by omega) (by omega);have e:i = 8 * ((i / 8).toNat:Int) + ((i % 8).toNat:Int):=by omega
  rw [e,zJ _ _ _ (by omega),yM b _ hk];exact h3
 ·intro h k hk;refine (Gw _ _).2 (λj hj hl=>?_);have h3:=h (8 * (k:Int) + j) (by omega) (by omega)
  grind [zJ]
theorem qX (a:bJ):fT a = 0 ↔ ∀ i:Int,wd a <= i->i < 128->iR a.b.toList i = 0:=by
 grind [xA,E5,wd,fT]
theorem j3 (p:aw):gw p = 0 ↔ 0 <= p.bits /\ p.bits <= wd p.addr /\ ∀ i:Int,p.bits <= i->i < 128->iR p.addr.b.toList i = 0:=by
 simp_all [gw,E5,not_or]
theorem Bc (p:aw) (h:gw p = 0):fT p.addr = 0:=by
 grind [j3,qX]
theorem FC (a b:List UInt8) (n:Int) (ha:a.length = 16) (hb:b.length = 16) (h1:n <= 128):n <= pT a b ↔ ∀ i:Int,0 <= i->i < n->iR a i = iR b i:=by
 have h:=Ds a b;constructor
 ·intro h2 i h3 h4;exact h.eq i h3 (by omega)
 ·intro h2
  rcases ri (pT a b) n with h3 | h3
  ·exact absurd (h2 _ h.p h3) (h.ne (by omega) (by omega))
  omega
theorem MK (b:Vector UInt8 16):b.toList.length = 16:=by simp
theorem wG (p:aw) (a:bJ):vb p a = true ↔ gw p = 0 /\ fT a = 0 /\ a.v6 = p.addr.v6 /\ ∀ i:Int,0 <= i->i < p.bits->iR a.b.toList i = iR p.addr.b.toList i:=by
 unfold vb;simp only [cF,kP,and_assoc];constructor
 ·rintro ⟨h1,h2,h3,h4⟩;obtain⟨g0,g1,_⟩:=(j3 p).1 h1;have:=xA p.addr
  grind [FC]
 ·rintro ⟨h1,h2,h3,h4⟩;obtain⟨g0,g1,_⟩:=(j3 p).1 h1;have:=xA p.addr;exact ⟨h1,h2,h3,(FC _ _ _ (MK _) (MK _) (by omega)).2 h4⟩
def fF (m:aN) (w:UInt8):Bool:=decide (¬ m.asks &&& w = 0)
theorem tT (m:aN) (q:UInt8) (w:World):aR 190 #[cU.val m,U8 q] w (dO w (.bool (fF m q))):=by
 refine iZ 10 Tryz.func190 (λ_ _=>?_);refine m15 ?_;refine box aa (λb1=>?_);refine m98 ?_;refine m35 ?_;refine m297 ?_;refine mv rfl (co (Ev.UO aa aa) ?_);refine m293 ?_;refine m20 ?_
 rfl
def KO (p:UInt8):Bool:=decide (p = 6) || decide (p = 17)
def Bv (s:dX) (n:Int):Bool:=decide ((s.from_.toNat:Int) <= n) && decide (n <= (s.qi.toNat:Int))
theorem Eu (s:dX) (n:Int) (w:World):aR 192 #[nR.val s,I n] w (dO w (.bool (Bv s n))):=by
 refine iZ 17 Tryz.func192 (λ_ _=>?_);refine m15 ?_;refine box aa (λb1=>?_);refine m98 ?_;refine m1 ?_;refine cf 0 rfl ?_;refine co (Ev.gR s.from_ qh aa dX.xa) ?_;refine co (Ev.sP Y3 Hn aa) ?_;refine co (Ev.Fq aa aa) ?_;refine m5 ?_;refine m227 ?_;refine cg rfl rfl (Ev.gR s.qi qh (.g rfl id) dX.tK) ?_;refine cg rfl rfl (Ev.sP Y3 Hn (.g rfl id)) ?_;refine m207 ?_;exact s31
theorem qj (l:List α) (i:Int) (h0:0 <= i) (h1:i < l.length) (z:α):l.take (i + 1).toNat = l.take i.toNat ++ [l.getD i.toNat z]:=by
 simp_all; omega
def Yx (m:aN):Bool:=decide (63 < m.asks) || (!fF m 1 && !decide (m.ta = nR.zero)) || (!fF m 2 && !decide (m.src = cJ.zero)) || (!fF m 4 && !decide (m.dst = cJ.zero)) || (!fF m 8 && decide (¬ m.bz = 0)) || (!fF m 16 && !decide (m.dD = nR.zero)) || (!fF m 32 && !decide (m.dE = nR.zero))
def acF (m:aN):Bool:=decide (m.ta.qi < m.ta.from_) || decide (255 < m.ta.qi) || decide (m.dD.qi < m.dD.from_) || decide (m.dE.qi < m.dE.from_)
def Qm (m:aN):Bool:=(fF m 2 && !decide (gw m.src = 0)) || (fF m 4 && !decide (gw m.dst = 0)) || (fF m 2 && fF m 4 && decide (¬ m.src.addr.v6 = m.dst.addr.v6))
def NP (m:aN):Bool:=(!fF m 16 && !fF m 32) || (fF m 8 && KO m.bz)
def AW (m:aN):Bool:=!Yx m && !acF m && !Qm m && NP m
def J9 (m:aN):Int:=bif AW m then 0 else 190
theorem wN (m:aN):decide (J9 m = 0) = AW m:=by grind [J9]
def qw (c:Bool) (f h:UInt8):UInt8:=bif c then h ||| f else h
theorem aau (x y:UInt8):x ||| y = 0 ↔ x = 0 /\ y = 0:=by
 simp
theorem UQ (c:Bool) (f h a:UInt8):qw c f h &&& a = 0 ↔ (c = true->f &&& a = 0) /\ h &&& a = 0:=by
 unfold qw;cases c
 ·simp
 ·simp only [iT,forall_const];have e:(h ||| f) &&& a = h &&& a ||| f &&& a:=by
   apply cG.1;simp only [oK,UInt8.toNat_or,Nat.and_or_distrib_right]
  grind
theorem W5:∀ w ∈ ([1,2,4,8,16,32]:List UInt8),∀ n:Fin 256,(w &&& ~~~ (UInt8.ofNat n.val) = 0) = (¬ UInt8.ofNat n.val &&& w = 0):=by
 intro w hw n;have h:∀ w ∈ ([1,2,4,8,16,32]:List UInt8),∀ n:Fin 256,decide (w &&& ~~~ (UInt8.ofNat n.val) = 0) = decide (¬ UInt8.ofNat n.val &&& w = 0):=by decide +kernel
 grind
theorem Sy (m:aN) (w:UInt8) (h:w ∈ ([1,2,4,8,16,32]:List UInt8)):(w &&& ~~~ m.asks = 0) ↔ fF m w = true:=by
 have:=W5 w h ⟨m.asks.toNat,m.asks.toNat_lt⟩
 simp_all [fF,cn]
theorem Yv:∀ n:Fin 256,decide (¬ UInt8.ofNat n.val &&& ~~~ 63 = 0) = decide (63 < UInt8.ofNat n.val):=by trivial
theorem Uz (x:UInt8):decide (¬ x &&& ~~~ 63 = 0) = decide (63 < x):=by
 have:=Yv ⟨x.toNat,x.toNat_lt⟩
 simp_all
theorem WR:∀ n:Fin 256,decide (¬ UInt8.ofNat n.val &&& 48 = 0) = (decide (¬ UInt8.ofNat n.val &&& 16 = 0) || decide (¬ UInt8.ofNat n.val &&& 32 = 0)):=by trivial
theorem UL (m:aN):fF m 48 = (fF m 16 || fF m 32):=by
 have:=WR ⟨m.asks.toNat,m.asks.toNat_lt⟩
 simp_all [fF]
theorem uH (c:Bool) (f h:UInt8) (m:aN) (hf:f ∈ ([1,2,4,8,16,32]:List UInt8)):decide (¬ qw c f h &&& ~~~ m.asks = 0) = ((!fF m f && c) || decide (¬ h &&& ~~~ m.asks = 0)):=by
 grind [UQ,Sy]
theorem Tx (m:aN) (h:fF m 16 = true \/ fF m 32 = true->¬m.bz = 6->m.bz = 17) (hp:fF m 8 = false->m.bz = 0):NP m = true:=by
 grind [NP,KO,fF]
theorem XG (m:aN) (c1 c2 c3 c4 c5 c6:Bool):(decide (¬ m.asks &&& ~~~ 63 = 0) || decide (¬ qw c6 32 (qw c5 16 (qw c4 8 (qw c3 4 (qw c2 2 (qw c1 1 0))))) &&& ~~~ m.asks = 0)) =
 (decide (63 < m.asks) || (!fF m 1 && c1) || (!fF m 2 && c2) || (!fF m 4 && c3) || (!fF m 8 && c4) || (!fF m 16 && c5) || (!fF m 32 && c6)):=by
 rw [Uz,uH _ _ _ _ (by decide),uH _ _ _ _ (by decide),uH _ _ _ _ (by decide),uH _ _ _ _ (by decide),uH _ _ _ _ (by decide),uH _ _ _ _ (by decide)];have e:decide (¬ (0:UInt8) &&& ~~~ m.asks = 0) = false:=by simp
 grind
def air:zI 195 nR:=kI
theorem Jv (m:aN) (w:World):aR 136 #[cU.val m] w (dO w (I (J9 m))):=by
 refine iZ 136 Tryz.func136 (λ_ _=>?_);refine m15 ?_;refine box aa (λb1=>?_);refine m3 ?_;refine sg (ac (U8 0) ?_);refine nP (cut (λx=>(x = qw (!decide (m.ta = nR.zero)) 1 0)) (λx=>[dz,(1,true,jc b1),(3,true,U8 x)]) (λx=>[Var b1 cU m 199]) ?_ (λx hx=>?_))
 ·refine sg ?_;refine m277 ?_;refine co (Ev.gR m.ta Ex aa aN.rF) ?_;refine m69 ?_;refine nG rfl (λh0=>?_) (λh0=>?_)
  ·refine m19 ?_;refine co (Ev.EW aa (.c (v:=U8 1) rfl)) ?_;refine m223 ?_
   simp_all [qw]
  ·refine m86 ?_
   simp_all [qw]
 obtain⟨k1,rfl⟩:∃ y,y = x:=⟨x,rfl⟩;have Tk:=hx;clear hx;refine cut (λx=>(x = qw (!decide (m.src = cJ.zero)) 2 k1)) (λx=>[dz,(1,true,jc b1),(3,true,U8 x)]) (λx=>[Var b1 cU m 199]) ?_ (λx hx=>?_)
 ·refine sg (cf 3 rfl ?_);refine co (Ev.gR m.src kr aa aN.mM) ?_;refine m50 ?_;refine co (Ev.SC rfl xn rfl zk aa aa) ?_;refine nP ?_;refine nG rfl (λh1=>?_) (λh1=>?_)
  ·refine m19 ?_;refine co (Ev.EW aa (.c (v:=U8 2) rfl)) ?_;refine m223 ?_
   simp_all [qw]
  ·refine m86 ?_
   simp_all [qw]
 obtain⟨k2,rfl⟩:∃ y,y = x:=⟨x,rfl⟩;have hk2:=hx;clear hx;refine cut (λx=>(x = qw (!decide (m.dst = cJ.zero)) 4 k2)) (λx=>[dz,(1,true,jc b1),(3,true,U8 x)]) (λx=>[Var b1 cU m 199]) ?_ (λx hx=>?_)
 ·refine sg (cf 21 rfl ?_);refine co (Ev.gR m.dst kr aa aN.nM) ?_;refine m50 ?_;refine co (Ev.SC rfl xn rfl zk aa aa) ?_;refine nP ?_;refine nG rfl (λh2=>?_) (λh2=>?_)
  ·refine m19 ?_;refine co (Ev.EW aa (.c (v:=U8 4) rfl)) ?_;refine m223 ?_
   simp_all [qw]
  ·refine m86 ?_
   simp_all [qw]
 obtain⟨k3,rfl⟩:∃ y,y = x:=⟨x,rfl⟩;have hk3:=hx;clear hx;refine cut (λx=>(x = qw (decide (¬ m.bz = 0)) 8 k3)) (λx=>[dz,(1,true,jc b1),(3,true,U8 x)]) (λx=>[Var b1 cU m 199]) ?_ (λx hx=>?_)
 ·refine sg (cf 39 rfl ?_);refine co (Ev.gR m.bz jQ aa aN.iF) ?_;refine m293 ?_;refine nP ?_;refine nG rfl (λh3=>?_) (λh3=>?_)
  ·refine m19 ?_;refine co (Ev.EW aa (.c (v:=U8 8) rfl)) ?_;refine m223 ?_
   grind [qw]
  ·refine m86 ?_
   grind [qw]
 obtain⟨k4,rfl⟩:∃ y,y = x:=⟨x,rfl⟩;have hk4:=hx;clear hx;refine cut (λx=>(x = qw (!decide (m.dD = nR.zero)) 16 k4)) (λx=>[dz,(1,true,jc b1),(3,true,U8 x)]) (λx=>[Var b1 cU m 199]) ?_ (λx hx=>?_)
 ·refine sg (cf 40 rfl ?_);refine co (Ev.gR m.dD Ex aa aN.gg) ?_;refine m69 ?_;refine nG rfl (λh4=>?_) (λh4=>?_)
  ·refine m19 ?_;refine co (Ev.EW aa (.c (v:=U8 16) rfl)) ?_;refine m223 ?_
   simp_all [qw]
  ·refine m86 ?_
   simp_all [qw]
 obtain⟨k5,rfl⟩:∃ y,y = x:=⟨x,rfl⟩;have hk5:=hx;clear hx;refine cut (λx=>(x = qw (!decide (m.dE = nR.zero)) 32 k5)) (λx=>[dz,(1,true,jc b1),(3,true,U8 x)]) (λx=>[Var b1 cU m 199]) ?_ (λx hx=>?_)
 ·refine sg (cf 42 rfl ?_);refine co (Ev.gR m.dE Ex aa aN.gk) ?_;refine m69 ?_;refine nG rfl (λh5=>?_) (λh5=>?_)
  ·refine m19 ?_;refine co (Ev.EW aa (.c (v:=U8 32) rfl)) ?_;refine m223 ?_
   simp_all [qw]
  ·refine m86 ?_
   simp_all [qw]
 obtain⟨k6,rfl⟩:∃ y,y = x:=⟨x,rfl⟩;have hk6:=hx;clear hx;refine m1 ?_;refine cf 0 rfl ?_;refine m297 ?_;refine co (Ev.FL aa aa) ?_;refine m0 ?_;refine m42 ?_;refine dg eN (.cons aa (.cons (.c (v:=U8 48) rfl) .nil)) (λw I=>tT _ _ w) ?_;refine m177 ?_;refine block (sg ?_);have hhb:=XG m (!decide (m.ta = nR.zero)) (!decide (m.src = cJ.zero)) (!decide (m.dst = cJ.zero)) (decide (¬ m.bz = 0)) (!decide (m.dD = nR.zero)) (!decide (m.dE = nR.zero));rw [<- Tk,<- hk2,<- hk3,<- hk4,<- hk5,<- hk6] at hhb;refine cf 0 rfl ?_;refine m297 ?_;refine co (Ev.FL aa (.c (v:=U8 63) rfl)) ?_;refine m293 ?_;refine m5 ?_;refine cg rfl rfl (Ev.we (.g rfl id) (.c (v:=U8 0) rfl)) ?_;refine m25 ?_;refine m0 ?_;refine nG rfl (λh6=>?_) (λh6=>?_)
 ·refine m155 ?_;have hb:Yx m = true:=hhb.symm.trans h6;unfold J9 AW; simp_all
 ·refine sg ?_;refine m277 ?_;refine cf 0 rfl ?_;refine co (Ev.gR m.ta.from_ qh aa (aB.comp aN.rF dX.xa)) ?_;refine m277 ?_;refine m277 ?_;refine co (Ev.gR m.ta.qi qh aa (aB.comp aN.rF dX.tK)) ?_;refine co (Ev.BQ aa aa) ?_;refine mv rfl ?_;refine m227 ?_;refine m166 ?_;refine cg rfl rfl (Ev.gR m.ta.qi qh (.g rfl id) (aB.comp aN.rF dX.tK)) ?_;refine cg rfl rfl (Ev.BQ (.g rfl id) (.c (v:=rX 255) rfl)) ?_;refine m25 ?_;refine mv rfl (cg rfl rfl (fA 40 aa) ?_);refine m64 ?_;refine cg rfl rfl (Ev.gR m.dD.from_ qh (.g rfl id) (aB.comp aN.gg dX.xa)) ?_;refine cg rfl rfl (fA 40 aa) ?_;refine m166 ?_;refine cg rfl rfl (Ev.gR m.dD.qi qh (.g rfl id) (aB.comp aN.gg dX.tK)) ?_;refine cg rfl rfl (Ev.BQ (.g rfl id) (.g rfl id)) ?_;refine m25 ?_;refine mv rfl (cg rfl rfl (fA 42 aa) ?_);refine m64 ?_;refine cg rfl rfl (Ev.gR m.dE.from_ qh (.g rfl id) (aB.comp aN.gk dX.xa)) ?_;refine cg rfl rfl (fA 42 aa) ?_;refine m166 ?_;refine cg rfl rfl (Ev.gR m.dE.qi qh (.g rfl id) (aB.comp aN.gk dX.tK)) ?_;refine cg rfl rfl (Ev.BQ (.g rfl id) (.g rfl id)) ?_;refine m25 ?_;refine m0 ?_;refine nG rfl (λh7=>?_) (λh7=>?_)
  ·refine m155 ?_
   grind [acF,J9,AW,ug]
  ·refine m122 ?_;refine mv rfl (cg rfl rfl (fA 3 aa) ?_);refine cg rfl rfl (Ev.gR m.src kr (.g rfl id) aN.mM) ?_;refine m250 ?_;refine m28 ?_;refine m118 ?_;refine m120 ?_;refine cg rfl rfl (fA 21 aa) ?_;refine cg rfl rfl (Ev.gR m.dst kr (.g rfl id) aN.nM) ?_;refine m250 ?_;refine cg rfl rfl (Ev.D2 (.g rfl id) rfl) ?_;refine m25 ?_;refine m0 ?_;refine nG rfl (λh8=>?_) (λh8=>?_)
   ·refine m155 ?_;have hb:Qm m = true:=by unfold Qm; simp only [iH] at h8 ⊢; left; simpa using h8
    grind [J9,AW,ug]
   ·refine m122 ?_;refine m118 ?_;refine m28 ?_;refine mv rfl (cg rfl rfl (fA 3 aa) ?_);refine m64 ?_;refine m64 ?_;refine cg rfl rfl (Ev.gR m.src.addr.v6 x6 (.g rfl id) (aB.comp (aB.comp aN.mM aw.lh) bJ.wv)) ?_;refine cg rfl rfl (fA 21 aa) ?_;refine m64 ?_;refine m64 ?_;refine cg rfl rfl (Ev.gR m.dst.addr.v6 x6 (.g rfl id) (aB.comp (aB.comp aN.nM aw.lh) bJ.wv)) ?_;refine cg rfl rfl (Ev.Zx Y4 (.g rfl id) (.g rfl id)) ?_;refine m28 ?_;refine m0 ?_;refine nG rfl (λh9=>?_) (λh9=>?_)
    ·refine m155 ?_
     simp_all [Qm,iH,J9,AW,ug]
    ·refine m208 ?_;refine m251 ?_;refine cg rfl rfl (Ev.we (.g rfl id) (.c (v:=U8 6) rfl)) ?_;refine m28 ?_;refine mv rfl ?_;refine m251 ?_;refine cg rfl rfl (Ev.we (.g rfl id) (.c (v:=U8 17) rfl)) ?_;refine m28 ?_;refine m0 ?_;refine nG rfl (λh10=>?_) (λh10=>?_)
     ·refine m155 ?_
      grind [NP,UL,KO,J9,AW,ug]
     ·refine m23 ?_;have b0:Yx m = false:=hhb.symm.trans h6;have b1:acF m = false:=h7;have b2:Qm m = false:=by
       unfold Qm;simp at h8 h9 ⊢;exact ⟨h8,h9⟩
      have hp:fF m 8 = false->m.bz = 0:=by
       unfold Yx at b0;simp at b0;exact b0.1.1.2
      rw [UL] at h10;have hg:=Tx m (by simpa using h10) hp;unfold J9 AW
      simp_all
def ZE (m:List (ByteArray × Int)) (s:ByteArray):Bool:=(gB eqs s m).isSome
def Cm (l:CL) (r:cS):Bool:=if r.action = 3 then !ES l r.out else decide (¬ r.out = 0)
def tE (l:CL) (r:cS) (i:Int):Int:=if qa r.name = false then 201 else if (gB eqs r.name (uQ l)).getD 0 < i then 2 else if AW r.lK = false then 190 else if r.action < 1 \/ 4 < r.action then 2 else if Cm l r = true then 5
 else if (r.qc ≠ ⟨#[]⟩ /\ ZE (uW l) r.qc = false) \/ (r.mz ≠ ⟨#[]⟩ /\ ZE (sB l) r.mz = false) then 210 else 0
def abk (n:Int):Bool:=decide (2 <= n /\ n <= 1024 /\ n.toNat &&& (n.toNat - 1) = 0)
def pG (l:CL) (m:aZ) (i:Int):Int:=if qa m.name = false then 201 else if (gB eqs m.name (sB l)).getD 0 < i then 2 else if ES l m.out = false then 5 else if abk m.room = false then 2 else 0
theorem Po (k:KB) (l:CL) (m:aZ) (i:Int) (w:World) (hk:rY w k l) (hs:m.name.size <= 9223372036854775807):aR 186 #[gu.val k.k,dL.val m,I i] w (dO w (I (pG l m i))):=by
 refine iZ 44 Tryz.func186 (λ_ _=>?_);refine m15 ?_;refine box aa (λb1=>?_);refine cons (box aa (λb2=>?_));refine m159 ?_;refine block ?_;refine m35 ?_;refine co (Ev.gR m.name Hw aa aZ.mB) ?_;refine m114 ?_;refine ig rfl (λh0=>?_) (λh0=>?_)
 ·refine sg (ac (I 201) ?_);refine m10 ?_
  simp_all [pG]
 ·refine sg (cf 4 rfl ?_);refine co (Ev.gS Hy aa bg.kL) ?_;refine cf 0 rfl ?_;refine co (Ev.gR m.name Hw aa aZ.mB) ?_;refine co (Ev.BJ Ej Y9 Ea z3 aa aa (λ_=>(λw I=>hk.xs.cO I.keeps))) ?_;refine m130 ?_;refine ig rfl (λh1=>?_) (λh1=>?_)
  ·refine m94 ?_
   simp_all [pG,if_neg]
  ·refine sg ?_;refine m133 ?_;refine m277 ?_;refine co (Ev.gR m.out l9 aa aZ.qS) ?_;refine m157 ?_;refine m194 ?_;refine ig rfl (λh2=>?_) (λh2=>?_)
   ·refine m258 ?_
    simp_all [pG,if_neg]
   ·refine sg (cf 2 rfl ?_);refine co (Ev.gR m.room l9 aa aZ.Lk) ?_;refine m77 ?_;refine mv rfl ?_;refine m116 ?_;refine m63 ?_;refine mv rfl ?_;refine m116 ?_;refine m116 ?_;refine cg rfl rfl (Ev.uh (.g rfl id) (.c rfl) (λ_=>by grind)) ?_;refine cg rfl rfl (Ev.Z6 (.g rfl id) (.g rfl id) (λhg=>by grind) (λhg=>by grind)) ?_;refine m72 ?_;refine m25 ?_;refine m0 ?_;refine nG rfl (λh3=>?_) (λh3=>?_)
    ·refine m94 ?_;have hr:abk m.room = false:=by
      unfold abk;simp at h3 ⊢;intro h1 h2
      rcases h3 with (h3 | h3) | h3
      ·omega
      ·omega
      ·exact h3
     simp_all [pG,if_neg]
    ·refine m23 ?_;have hr:abk m.room = true:=by
      unfold abk;simp at h3 ⊢;exact ⟨h3.1.1,h3.1.2,h3.2⟩
     unfold pG; simp_all [if_neg]
theorem Ws (k:KB) (l:CL) (r:cS) (i:Int) (w:World) (hk:rY w k l) (hs:r.name.size <= 9223372036854775807):aR 182 #[gu.val k.k,iK.val r,I i] w (dO w (I (tE l r i))):=by
 refine iZ 83 Tryz.func182 (λ_ _=>?_);refine m15 ?_;refine box aa (λb1=>?_);refine cons (box aa (λb2=>?_));refine m3 ?_;refine sg (cf 46 rfl ?_);refine co (Ev.gR r.out l9 aa cS.qS) ?_;refine m43 ?_;refine vK rfl (nP (cut (λx=>((!x) = Cm l r)) (λx=>[dz,(2,true,I i),(3,true,jc b1),(4,true,jc b2),(7,true,.bool x)]) (λx=>[Var b2 iK r 201,Var b1 gu k.k 330]) ?_ (λx hx=>?_)))
 ·refine sg (cf 45 rfl ?_);refine co (Ev.gR r.action l9 aa cS.ku) ?_;refine m195 ?_;refine nG rfl (λh0=>?_) (λh0=>?_)
  ·refine region ?_;refine m133 ?_;refine cf 46 rfl ?_;refine co (Ev.gR r.out l9 aa cS.qS) ?_;refine m157 ?_;refine m223 ?_
   grind [Cm]
  ·refine m86 ?_
   grind [Cm]
 obtain⟨out,rfl⟩:∃ y,y = x:=⟨x,rfl⟩;have Bq:=hx;clear hx;refine sg (cf 3 rfl ?_);refine co (Ev.gS Hy aa bg.mg) ?_;refine cf 47 rfl ?_;refine co (Ev.gR r.qc Hw aa cS.rO) ?_;refine co (Ev.uZ Ej Y9 Ea z3 aa aa (λ_=>(λw I=>hk.ms.cO I.keeps))) ?_;refine m4 ?_;refine m41 ?_;refine sg (cf 4 rfl ?_);refine co (Ev.gS Hy aa bg.kL) ?_;refine cf 48 rfl ?_;refine co (Ev.gR r.mz Hw aa cS.pJ) ?_;refine co (Ev.uZ Ej Y9 Ea z3 aa aa (λ_=>(λw I=>hk.xs.cO I.keeps))) ?_;refine m4 ?_;refine m41 ?_;refine seq (block ?_);refine m35 ?_;refine co (Ev.gR r.name Hw aa cS.mB) ?_;refine m114 ?_;refine nG rfl (λh1=>?_) (λh1=>?_)
 ·refine sg (ac (I 201) ?_);refine m10 ?_;have p1:qa r.name = false:=by simpa using h1
  simp_all [tE]
 ·refine sg (cf 2 rfl ?_);refine co (Ev.gS Hy aa bg.kX) ?_;refine cf 0 rfl ?_;refine co (Ev.gR r.name Hw aa cS.mB) ?_;refine co (Ev.BJ Ej Y9 Ea z3 aa aa (λ_=>(λw I=>hk.us.cO I.keeps))) ?_;refine m130 ?_;refine nG rfl (λh2=>?_) (λh2=>?_)
  ·refine m94 ?_
   simp_all [uQ,tE,if_neg,if_pos]
  ·refine sg ?_;refine m277 ?_;refine co (Ev.gR r.lK sj aa cS.CZ) ?_;refine cons (dg eN (o1 rfl) (λw I=>Jv _ w) ?_);refine m158 ?_;refine nG rfl (λh3=>?_) (λh3=>?_)
   ·refine m155 ?_;have n1:¬ (qa r.name = false):=by simpa using h1
    have n2:¬ ((gB eqs r.name (uQ l)).getD 0 < i):=by simpa using h2
    have p3:AW r.lK = false:=by
     have h3c:decide (J9 r.lK = 0) = false:=by simpa using h3
     rwa [wN] at h3c
    simp_all [tE,if_neg]
   ·refine sg (cf 45 rfl ?_);refine co (Ev.gR r.action l9 aa cS.ku) ?_;refine m77 ?_;refine mv rfl (cg rfl rfl (fA 45 aa) ?_);refine cg rfl rfl (Ev.gR r.action l9 (.g rfl id) cS.ku) ?_;refine m63 ?_;refine m0 ?_;refine nG rfl (λh4=>?_) (λh4=>?_)
    ·refine m94 ?_;have n1:¬ (qa r.name = false):=by simpa using h1
     have n2:¬ ((gB eqs r.name (uQ l)).getD 0 < i):=by simpa using h2
     have n3:¬ AW r.lK = false:=by
      exact s90
     simp_all [tE,if_neg]
    ·refine m1 ?_;refine m194 ?_;refine nG rfl (λh5=>?_) (λh5=>?_)
     ·refine m258 ?_;have n1:¬ (qa r.name = false):=by simpa using h1
      have n2:¬ ((gB eqs r.name (uQ l)).getD 0 < i):=by simpa using h2
      have n3:¬ AW r.lK = false:=by
       exact s90
      have n4:¬ (r.action < 1 \/ 4 < r.action):=by simpa using h4
      have p5:Cm l r = true:=by
       rw [<- Bq]; simpa using h5
      simp_all [tE,if_neg]
     ·refine seq (sg (cf 47 rfl ?_));refine co (Ev.gR r.qc Hw aa cS.rO) ?_;refine co (Ev.Zw aa (.c rfl)) ?_;refine m162 ?_;refine m0 ?_;refine nG rfl (λh6=>?_) (λh6=>?_)
      ·refine m8 ?_;refine nG rfl (λh7=>?_) (λh7=>?_)
       ·exact s12
       ·refine m23 ?_
        grind
      ·refine region (cf 48 rfl ?_);refine co (Ev.gR r.mz Hw aa cS.pJ) ?_;refine co (Ev.Zw aa (.c rfl)) ?_;refine m162 ?_;refine m0 ?_;refine nG rfl (λh7=>?_) (λh7=>?_)
       ·exact s12
       ·refine m23 ?_;have n1:¬ (qa r.name = false):=by simpa using h1
        have n2:¬ ((gB eqs r.name (uQ l)).getD 0 < i):=by simpa using h2
        have n3:¬ AW r.lK = false:=by
         exact s90
        have n4:¬ (r.action < 1 \/ 4 < r.action):=by simpa using h4
        have n5:¬ Cm l r = true:=by
         rw [<- Bq]; simpa using h5
        have n6:¬ ((r.qc ≠ ⟨#[]⟩ /\ ZE (uW l) r.qc = false) \/ (r.mz ≠ ⟨#[]⟩ /\ ZE (sB l) r.mz = false)):=by
         unfold ZE
         first
          | (exfalso; simp_all; done)
          | (simp at h6 h7
             rintro (⟨a,b⟩ | ⟨a,b⟩)
             ·rw [h6 a] at b; cases b
             ·rw [h7 a] at b; cases b)
        unfold tE
        simp_all [if_neg]
structure cA where
 l:OV
 at_:Int
def cA.to:(OV × Int)->cA:=λx=>⟨x.1,x.2⟩
def cA.of:cA->(OV × Int):=λx=>(x.l,x.at_)
def j2:dy cA:=l8 (cW (dJ aM) iE) cA.to cA.of
def cA.S2:aB j2 (dJ aM) 0:=lI cA.to cA.of l1
@[simp] theorem cA.alX (x:cA):cA.S2.get x = x.l:=rfl
@[simp] theorem cA.akX (x:cA) (y:OV):cA.S2.set x y = { x with l:=y }:=rfl
def cA.sI:aB j2 iE 1:=lI cA.to cA.of (l2 (aB.id _))
@[simp] theorem cA.ahZ (x:cA):cA.sI.get x = x.at_:=rfl
@[simp] theorem cA.Wo (x:cA) (y:Int):cA.sI.set x y = { x with at_:=y }:=rfl
structure gE where
 code:Int
 at_:Int
def gE.to:(Int × Int)->gE:=λx=>⟨x.1,x.2⟩
def gE.of:gE->(Int × Int):=λx=>(x.code,x.at_)
def ky:dy gE:=l8 (cW iE iE) gE.to gE.of
def gE.Am:aB ky iE 0:=lI gE.to gE.of l1
@[simp] theorem gE.aeQ (x:gE) (y:Int):gE.Am.set x y = { x with code:=y }:=rfl
def gE.sI:aB ky iE 1:=lI gE.to gE.of (l2 (aB.id _))
@[simp] theorem gE.Wo (x:gE) (y:Int):gE.sI.set x y = { x with at_:=y }:=rfl
def kv (e:Nat->Int) (d:Int):Nat->List gE
 | 0=>[]
 | n + 1=>kv e d n ++ (if e n = 0 then [] else [⟨e n,d + n⟩])
theorem jB (e:Nat->Int) (d:Int):∀ n,(kv e d n).length <= n
 | 0=>aA _
 | n + 1=>by
   have:=jB e d n
   grind [kv]
theorem A7 (h:0 <= i) (he:e i.toNat = 0):kv e d (i + 1).toNat = kv e d i.toNat:=by
 rw [show (i + 1).toNat = i.toNat + 1 by omega,kv,if_pos he,dS]
theorem zq (h:0 <= i) (he:¬ e i.toNat = 0):kv e d (i + 1).toNat = kv e d i.toNat ++ [⟨e i.toNat,d + i⟩]:=by
 rw [show (i + 1).toNat = i.toNat + 1 by omega,kv,if_neg he]
 grind
def pI (e:Nat->Int) (d:Int) (n gV:Nat):List gE:=kv e d (min n gV) ++ (if gV < n then [⟨4,d + gV⟩] else [])
abbrev FR (b:Nat) (o:OV) (fs:List gE) (d:Int):du:=Sep (Var b j2 ⟨o,d⟩ 334) (bY o.v ky fs 276)
theorem A5 (l:List α) (m i:Nat) (d:α) (h:i < m):(l.take m).getD i d = l.getD i d:=by grind
def yN:ot 192 (dJ aM):=oq
def ud:zI 276 ky:=kI
def oX:ot 276 ky:=oq
def Hq:DV 276 ky 16:=kB
def Hp:Eo ky:=Hk _
theorem abw (f:Nat) (fst cap:List Value) (g:Int->Int->Int) (D:Int->Int->Prop) (b:Nat) (o:OV) (fs:List gE) (d:Int) (u:Value) (xs:List Int) (gV:Nat) (w:World) (om:Gx.dV Tryz.prog f) (h:At (FR b o fs d) w) (hxs:∀ w1,bf (FR b o fs d).c9 w w1->bU iE w1 u xs) (hk:ahi Tryz.prog f fst cap (FR b o fs d).c9 w iE iE iE D g) (hD:∀ i:Nat,i < xs.length->D (xs.getD i iE.zero) i) (hd:0 <= d /\ d + xs.length <= 4611686018427387904) (hf:fs.length + gV <= 100000):aR 177 #[.pointer (some ⟨b,0,none⟩),u,I gV,(Mp f fst cap).v] w (mE w (FR b o fs d) (λ_:OV=>True) (λ_=>.tuple #[]) (λo2=>FR b o2 (fs ++ pI (λj0:Nat=>g (xs.getD j0 iE.zero) j0) d xs.length gV) (d + xs.length))):=by
 obtain⟨m,hm⟩:∃ m:Nat,(min (xs.length:Int) (gV:Int)) = (m:Int):=⟨min xs.length gV,by omega⟩;have hm2:m = min xs.length gV:=by omega
 have hle:=(hxs w (bf.refl _ _)).le;have htl:(xs.take m).length = m:=by simp; omega
 refine enter 76 _ Tryz.func177 rfl rfl (aT rfl) (uj h) (λ_ _=>?_);refine oc lC.head ?_;refine m16 ?_;refine m206 ?_;refine mv rfl (co (Ev.to (Ev.Nx aa aa) (by rw [hm])) ?_);refine co (Ev.zY Ei l9 aa aa (λw I=>hxs w I.keeps) (λ_=>zo)) ?_;refine co (Ev.len Ei aa (λw I=>by have:=(hxs w I.keeps).sub (l:=0) (k:=m) (by omega) (by omega); simpa using this)) ?_;refine m26 ?_;refine nP (block (lpo (X:=Int × OV) (λx=>(0 <= x.1 /\ x.1 <= m)) (λx=>[dz,(0,true,jc b),(1,true,u),(2,true,I gV),(3,true,(Mp f fst cap).v),(16,true,uN iE.size u 0 m),(17,true,I _),(18,true,I x.1)]) (λx=>[Var b j2 ⟨x.2,d⟩ 334,bY x.2.v ky (fs ++ kv (λj0:Nat=>g (xs.getD j0 iE.zero) j0) d x.1.toNat) 276]) (λx=>((m:Int) - x.1).toNat) (0,o) (λx hx=>?_) (hL:=(by simp only [show (0:Int).toNat = 0 from rfl,kv,dS]; simp))));obtain⟨i,q⟩:=x;dsimp only at hx;have hi:=hx;clear hx;refine m9 ?_;refine ig rfl (λh0=>?_) (λh0=>?_)
 ·refine skip (pN (seq (block (sg (mv rfl (co (Ev.indexAddr Ei l9 aa aa (λw I=>by have:=(hxs w I.keeps).sub (l:=0) (k:=m) (by omega) (by omega); simpa using this) (λ_=>by omega)) ?_))))));refine co (Ev.to (Ev.eT l9 aa (λw I=>by have:=(hxs w I.keeps).sub (l:=0) (k:=m) (by omega) (by omega); assumption) (λ_=>by omega)) (aL iE.val (A5 xs m i.toNat _ (by omega)))) ?_;refine m60 ?_;refine m247 ?_;refine Up aa om (.cons aa (.cons aa .nil)) (λw I=>hk _ i w (by grind) I.keeps) ?_;refine m171 ?_;refine ig rfl (λh1=>?_) (λh1=>?_)
  ·have ei:((i.toNat:Nat):Int) = i:=by omega
   have hst:=zq (e:=(λj0:Nat=>g (xs.getD j0 iE.zero) j0)) (d:=d) hi.1 (by (try dsimp only); rw [ei]; exact h1)
   (try dsimp only at hst)
   rw [ei] at hst;refine m117 ?_;refine tm 6 rfl rfl ?_;refine tn 7 rfl rfl ?_;refine tk 8 rfl (fA 1 aa) ?_;refine tm 10 rfl rfl ?_;refine all [4,9] zk (by decide) (.cons rfl ?_ (.cons rfl ?_ .nil))
   ·refine m95 ?_;refine fB 9 rfl ?_;refine m226 ?_;refine xi (tk 11 rfl (Ev.lx aa aa (λ_=>by simp; omega)) ?_);refine m135 ?_;refine fB 13 rfl (buildSlice tY oX ud (.cons aa .nil) rfl rfl (λv1=>?_));exact s10
   ·refine m226 ?_;refine xi (tk 11 rfl (Ev.lx aa aa (λ_=>by simp; omega)) ?_);refine m135 ?_;refine all [4,13] zk (by decide) (.cons rfl ?_ (.cons rfl ?_ .nil))
    ·refine m95 ?_;refine fB 13 rfl (buildSlice tY oX ud (.cons aa .nil) rfl rfl (λv3=>?_));exact s10
    ·refine (buildSlice tY oX ud (.cons aa .nil) rfl rfl (λv5=>?_));refine m261 ?_;exact s10
  ·have ei:((i.toNat:Nat):Int) = i:=by omega
   have hst:=A7 (e:=(λj0:Nat=>g (xs.getD j0 iE.zero) j0)) (d:=d) hi.1 (by (try dsimp only); rw [ei]; exact h1);refine m232 ?_;exact s92
 ·refine exit (pX (pX (bX (pN (cut (λx=>True) (λx=>[dz,(0,true,jc b),(1,true,u)]) (λx=>[Var b j2 ⟨x,d⟩ 334,bY x.v ky (fs ++ pI (λj0:Nat=>g (xs.getD j0 iE.zero) j0) d xs.length gV) 276]) ?_ (λx hx=>?_))))))
  ·refine sg ?_;have him:i.toNat = m:=by omega
   rw [him];refine m206 ?_;refine mv rfl (co (Ev.A1 aa aa) ?_);refine nP ?_;refine ig rfl (λh2=>?_) (λh2=>?_)
   ·refine m117 ?_;refine tn 6 rfl rfl ?_;refine tk 7 rfl (fA 1 aa) ?_;refine tm 9 rfl rfl ?_;refine all [4,8] zk (by decide) (.cons rfl ?_ (.cons rfl ?_ .nil))
    ·refine m95 ?_;refine fB 8 rfl ?_;refine m226 ?_;refine xi (tk 10 rfl (Ev.lx aa aa (λ_=>by simp; omega)) ?_);refine m127 ?_;refine m280 ?_;refine buildSlice tY oX ud (.cons aa .nil) rfl rfl (λv7=>?_);exact s9
    ·refine m226 ?_;refine xi (tk 10 rfl (Ev.lx aa aa (λ_=>by simp; omega)) ?_);refine m127 ?_;refine all [4,12] zk (by decide) (.cons rfl ?_ (.cons rfl ?_ .nil))
     ·refine m95 ?_;refine m280 ?_;refine buildSlice tY oX ud (.cons aa .nil) rfl rfl (λv9=>?_);exact s9
     ·refine (buildSlice tY oX ud (.cons aa .nil) rfl rfl (λv11=>?_));refine m261 ?_;exact s9
   ·exact s45
  obtain⟨q2,rfl⟩:∃ y,y = x:=⟨x,rfl⟩;refine m19 ?_;refine m248 ?_;refine m277 ?_;refine co (Ev.gS l9 aa cA.sI) ?_;refine m206 ?_;refine co (Ev.lx aa aa (λ_=>by simp; omega)) ?_;refine m248 ?_;refine m277 ?_;refine cons (j8 l9 cA.sI aa aa ?_);refine nil (zA rfl .nil (λw I=>?_));exact D1 _ trivial rfl (kj _) w (bS.mI (I.sub zs))
abbrev Qy (E:dy α) (k:Nat):Prop:=∀ (f:Nat) (fst cap:List Value) (g:α->Int->Int) (D:α->Int->Prop) (b:Nat) (o:OV) (fs:List gE) (d:Int) (u:Value) (xs:List α) (gV:Nat) (w:World) (om:Gx.dV Tryz.prog f) (h:At (FR b o fs d) w) (hxs:∀ w1,bf (FR b o fs d).c9 w w1->bU E w1 u xs) (hk:ahi Tryz.prog f fst cap (FR b o fs d).c9 w E iE iE D g) (hD:∀ i:Nat,i < xs.length->D (xs.getD i E.zero) i) (hd:0 <= d /\ d + xs.length <= 4611686018427387904) (hf:fs.length + gV <= 100000),aR k #[.pointer (some ⟨b,0,none⟩),u,I gV,(Mp f fst cap).v] w (mE w (FR b o fs d) (λ_:OV=>True) (λ_=>.tuple #[]) (λo2=>FR b o2 (fs ++ pI (λj0:Nat=>g (xs.getD j0 E.zero) j0) d xs.length gV) (d + xs.length)))
def X3 {k:Nat} (hf:Tryz.prog.funcs[k]? = some fn) (hu:Tryz.prog.underlying ts = some (.slice te)) (T:jK Tryz.prog te E) (hz:(Tryz.prog.info? te).bind (·.zero) = some (E.val E.zero)) (hs:Nat.blt 0 E.size = true) (h:Tryz.prog.funcs[k]? = some fn->Tryz.prog.underlying ts = some (.slice te)->∀ E:dy α,jK Tryz.prog te E->(Tryz.prog.info? te).bind (·.zero) = some (E.val E.zero)->Nat.blt 0 E.size = true->Qy E k:=by
    intro hfn QG E T hz hs f fst cap g D b o fs d u xs gV w om h hxs hk hD hd hf;obtain⟨m,hm⟩:∃ m:Nat,(min (xs.length:Int) (gV:Int)) = (m:Int):=⟨min xs.length gV,by omega⟩;have hm2:m = min xs.length gV:=by omega
    have hle:=(hxs w (bf.refl _ _)).le;have htl:(xs.take m).length = m:=by simp; omega
    refine enter 76 [FR b o fs d] hfn rfl rfl (aT rfl) (uj h) (λ_ _=>?_);refine oc lC.head ?_;refine m16 ?_;refine m186 ?_;refine mv rfl (co (Ev.to (v':=I ((m:Nat):Int)) (Ev.Nx (.t rfl) (.t rfl)) (by rw [hm])) ?_);refine co (Ev.zY QG T (.t rfl) (.t rfl) (λw I=>hxs w I.keeps) (λ_=>zo)) ?_;refine co (Ev.len QG (.t rfl) (λw I=>by have:=(hxs w I.keeps).sub (l:=0) (k:=m) (by omega) (by omega); simpa using this)) ?_;refine m26 ?_;refine nP (block (lpo (X:=Int × OV) (λx=>(0 <= x.1 /\ x.1 <= m)) (λx=>[dz,(0,true,jc b),(1,true,u),(2,true,I gV),(3,true,(Mp f fst cap).v),(16,true,uN E.size u 0 m),(17,true,I (xs.take m).length),(18,true,I x.1)]) (λx=>[Var b j2 ⟨x.2,d⟩ 334,bY x.2.v ky (fs ++ kv (λj0:Nat=>g (xs.getD j0 E.zero) j0) d x.1.toNat) 276]) (λx=>((m:Int) - x.1).toNat) (0,o) (λx hx=>?_) (hL:=(by simp only [show (0:Int).toNat = 0 from rfl,kv,dS]; repeat first | exact sR | exact sN | apply sC | apply sS | apply sA))));obtain⟨i,q⟩:=x;dsimp only at hx;have hi:=hx;clear hx;refine sg (co (Ev.rE (.t rfl) (.t rfl)) ?_);refine m143 ?_;refine ig rfl (λh0=>?_) (λh0=>?_)
    ·refine skip (pN (seq (block (sg (mv rfl (co (Ev.indexAddr QG T (.t rfl) (.t rfl) (λw I=>by have:=(hxs w I.keeps).sub (l:=0) (k:=m) (by omega) (by omega); simpa using this) (λ_=>by omega)) ?_))))));refine co (Ev.to (v':=E.val (xs.getD i.toNat E.zero)) (Ev.eT T (.t rfl) (λw I=>by have:=(hxs w I.keeps).sub (l:=0) (k:=m) (by omega) (by omega); simpa using this) (λ_=>by omega)) (aL E.val (A5 xs m i.toNat _ (by omega)))) ?_;refine cons (alloc hz (λb1=>?_));refine m238 ?_;refine j8 T (aB.id _) (.t rfl) (.t rfl) ?_;refine m138 ?_;refine co (Ev.gS T (.t rfl) (aB.id _)) ?_;refine mv rfl (cons (Up (.t rfl) om (.cons (.t rfl) (.cons (.t rfl) .nil)) (λw I=>hk (xs.getD i.toNat E.zero) i w (by have:=hD i.toNat (by omega); rwa [show ((i.toNat:Nat):Int) = i by omega] at this) I.keeps) ?_));refine m6 ?_;refine co (Ev.AY (.t rfl) (.c rfl)) ?_;refine nP ?_;refine ig rfl (λh1=>?_) (λh1=>?_)
     ·have ei:((i.toNat:Nat):Int) = i:=by omega
      have hst:=zq (e:=(λj0:Nat=>g (xs.getD j0 E.zero) j0)) (d:=d) hi.1 (by (try dsimp only); rw [ei]; exact h1)
      (try dsimp only at hst)
      rw [ei] at hst;refine m262 ?_;refine tm 6 rfl rfl ?_;refine tn 7 rfl rfl ?_;refine tk 8 rfl (fA 1 (.t rfl)) ?_;refine tm 10 rfl rfl ?_;refine all [4,9] zk (by decide) (.cons rfl ?_ (.cons rfl ?_ .nil))
      ·refine m131 ?_;refine m249 ?_;refine m237 ?_;refine xi (tk 11 rfl (Ev.lx (.t rfl) (.t rfl) (λ_=>by simp; omega)) ?_);refine m110 ?_;refine fB 13 rfl (buildSlice (E:=ky) tY oX ud (.cons (.t rfl) .nil) rfl rfl (λv2=>?_));exact s6
      ·refine m237 ?_;refine xi (tk 11 rfl (Ev.lx (.t rfl) (.t rfl) (λ_=>by simp; omega)) ?_);refine m110 ?_;refine all [4,13] zk (by decide) (.cons rfl ?_ (.cons rfl ?_ .nil))
       ·refine m131 ?_;refine m180 ?_;refine fB 13 rfl (buildSlice (E:=ky) tY oX ud (.cons (.t rfl) .nil) rfl rfl (λv4=>?_));exact s6
       ·refine (buildSlice (E:=ky) tY oX ud (.cons (.t rfl) .nil) rfl rfl (λv6=>?_));refine m139 ?_;refine m131 ?_;exact s6
     ·have ei:((i.toNat:Nat):Int) = i:=by omega
      have hst:=A7 (e:=(λj0:Nat=>g (xs.getD j0 E.zero) j0)) (d:=d) hi.1 (by (try dsimp only); rw [ei]; exact h1);refine skip ?_;refine m109 ?_;exact s92
    ·refine exit (pX (pX (bX (pN (cut (X:=OV) (λx=>True) (λx=>[dz,(0,true,jc b),(1,true,u)]) (λx=>[Var b j2 ⟨x,d⟩ 334,bY x.v ky (fs ++ pI (λj0:Nat=>g (xs.getD j0 E.zero) j0) d xs.length gV) 276]) ?_ (λx hx=>?_))))))
     ·refine sg ?_;have him:i.toNat = m:=by omega
      rw [him];refine m186 ?_;refine mv rfl (co (Ev.A1 (.t rfl) (.t rfl)) ?_);refine nP ?_;refine ig rfl (λh2=>?_) (λh2=>?_)
      ·refine m262 ?_;refine tn 6 rfl rfl ?_;refine tk 7 rfl (fA 1 (.t rfl)) ?_;refine tm 9 rfl rfl ?_;refine all [4,8] zk (by decide) (.cons rfl ?_ (.cons rfl ?_ .nil))
       ·refine m131 ?_;refine m169 ?_;refine m237 ?_;refine xi (tk 10 rfl (Ev.lx (.t rfl) (.t rfl) (λ_=>by simp; omega)) ?_);refine m105 ?_;refine m280 ?_;refine buildSlice (E:=ky) tY oX ud (.cons (.t rfl) .nil) rfl rfl (λv8=>?_);exact s7
       ·refine m237 ?_;refine xi (tk 10 rfl (Ev.lx (.t rfl) (.t rfl) (λ_=>by simp; omega)) ?_);refine m105 ?_;refine all [4,12] zk (by decide) (.cons rfl ?_ (.cons rfl ?_ .nil))
        ·refine m131 ?_;refine m180 ?_;refine m280 ?_;refine buildSlice (E:=ky) tY oX ud (.cons (.t rfl) .nil) rfl rfl (λv10=>?_);exact s7
        ·refine (buildSlice (E:=ky) tY oX ud (.cons (.t rfl) .nil) rfl rfl (λv12=>?_));refine m139 ?_;refine m131 ?_;exact s7
      ·exact s45
     obtain⟨q2,rfl⟩:∃ y,y = x:=⟨x,rfl⟩;refine m19 ?_;refine co (Ev.nilCheck (.t rfl)) ?_;refine m277 ?_;refine co (Ev.gS l9 (.t rfl) cA.sI) ?_;refine m186 ?_;refine co (Ev.lx (.t rfl) (.t rfl) (λ_=>by simp; omega)) ?_;refine co (Ev.nilCheck (.t rfl)) ?_;refine m277 ?_;refine cons (j8 l9 cA.sI (.t rfl) (.t rfl) ?_);refine nil (zA rfl .nil (λw I=>?_));exact D1 (r':=λo2=>FR b o2 (fs ++ pI (λj0:Nat=>g (xs.getD j0 E.zero) j0) d xs.length gV) (d + xs.length)) _ trivial rfl (kj _) w (bS.mI (I.sub zs))):Qy E k:=h hf hu E T hz hs
def SQ:Qy ez 179:=X3 Tryz.func179 Z9 xC QV rfl
def SU:Qy iK 181:=X3 Tryz.func181 Z8 AJ Oy rfl
def SS:Qy eH 183:=X3 Tryz.func183 Y25 Cb VK rfl
def SR:Qy dL 185:=X3 Tryz.func185 Y26 Ca VJ rfl
def yy (d:Int):Bool:=!(decide (d = 1) || decide (d = 2) || decide (d = 4))
theorem Fv (d:Int):yy d = (decide (¬ d = 1) && decide (¬ d = 2) && decide (¬ d = 4)):=by
 simp [yy]
def yO (l:CL):List gE:=((((([] ++ pI (λj0:Nat=>vy l.ps (l.ps.getD j0 iE.zero) j0) 0 l.ps.length 256) ++ pI (λj0:Nat=>qm l (l.rs.getD j0 ez.zero) j0) (0 + (l.ps.length:Int)) l.rs.length 1024) ++ pI (λj0:Nat=>tE l (l.us.getD j0 iK.zero) j0) ((0 + (l.ps.length:Int)) + (l.rs.length:Int)) l.us.length 256) ++ pI (λj0:Nat=>uX l (l.ms.getD j0 eH.zero) j0) (((0 + (l.ps.length:Int)) + (l.rs.length:Int)) + (l.us.length:Int)) l.ms.length 64) ++ pI (λj0:Nat=>pG l (l.xs.getD j0 dL.zero) j0) ((((0 + (l.ps.length:Int)) + (l.rs.length:Int)) + (l.us.length:Int)) + (l.ms.length:Int)) l.xs.length 16)
def Du (l:CL) (d:Int):List gE:=yO l ++ (if yy d = true then [⟨2,(((((0 + (l.ps.length:Int)) + (l.rs.length:Int)) + (l.us.length:Int)) + (l.ms.length:Int)) + (l.xs.length:Int))⟩] else [])
theorem uv (e:Nat->Int) (d:Int) (n gV:Nat):(pI e d n gV).length <= gV + 1:=by
 grind [jB,min,pI,List.length_append]
theorem AN (l:CL):(yO l).length <= 1700:=by
 grind [yO,List.length_append,List.length_nil,uv,vy,qm,tE]
structure CL.Names (l:CL):Prop where
 us:∀ x ∈ l.us,x.name.size <= 9223372036854775807
 ms:∀ x ∈ l.ms,x.name.size <= 9223372036854775807
 xs:∀ x ∈ l.xs,x.name.size <= 9223372036854775807
def CL.n (l:CL):Nat:=l.ps.length + l.rs.length + l.us.length + l.ms.length + l.xs.length
theorem GP (l:List α) (i:Nat) (d:α) (h:i < l.length):l.getD i d ∈ l:=by grind
def ain:zI 334 j2:=kI
theorem Mc (c:cy) (l:CL) (w:World) (hc:kA w c l) (hn:l.Names) (hz:l.n <= 4611686018427387904):aR 127 #[jI.val c] w (vM w ky (Du l c.default) 276):=by
 unfold CL.n at hz;refine iZ 69 Tryz.func127 (λ_ _=>?_);refine m15 ?_;refine box aa (λb1=>?_);refine m98 ?_;refine sg ?_;refine m146 ?_;refine iP _ _ _ eN (o1 rfl) (λw I=>CM _ l w (hc.cO I.keeps)) (λkb _=>?_);refine cons (alloc aai (λb2=>?_));refine cons (j8 ML (aB.id _) aa aa ?_);refine nP (sg (co (Ev.fe (places:=[(0,1),(1,1)]) ain rfl Tryz.underlying334 zk .nil bB.nil) ?_));refine cons (box aa (λb3=>?_));refine m0 ?_;refine sg (jf ky 276 ?_);refine mI (r:=Var b3 j2 ⟨aM,0⟩ 334) (s:=bY aM.v ky [] 276) (lC.tail lC.head) lC.head ?_;refine mv rfl (cf 0 rfl ?_);refine co (Ev.gS Rb aa cy.jz) ?_;refine co (Ev.makeFunc (f:=178) (.cons aa .nil)) ?_;refine cons (uC (X:=OV) (r:=FR b3 aM [] 0) (λ_=>True) (λ_=>.tuple #[]) (λ_=>mS.head) ah eN (.cons aa (.cons aa (.cons (.c (v:=I 256) rfl) (.cons aa .nil)))) (λw I=>abw 178 [] _ (vy l.ps) _ b3 aM [] 0 _ l.ps 256 w eN (at_mem ah w I) (λw1 k1=>hc.ps.cO (I.JE lC.head k1).keeps) (λp i w1 h1 k1=>Sb c l.ps b1 p i w1 (by have I1:=I.JE lC.head k1; exact ed (by repeat first | exact mH | apply mT | apply mA) (aB.id _) w1 I1) (hc.ps.cO (I.JE lC.head k1).keeps) h1) (λi hi=>by omega) (by omega) (by simp)) (λo1 _=>?_));refine m138 ?_;refine m277 ?_;refine co (Ev.gS aay aa cy.iy) ?_;refine m133 ?_;refine co (Ev.wZ (f:=180) (.cons aa .nil) .nil) ?_;refine cons (uC (X:=OV) (λ_=>True) (λ_=>.tuple #[]) (λ_=>mS.head) ah eN (.cons aa (.cons aa (.cons (.c (v:=I 1024) rfl) (.cons aa .nil)))) (λw I=>SQ 180 [gu.val kb.k] [] (qm l) (λ_ _=>True) b3 o1 _ _ _ l.rs 1024 w eN (at_mem ah w I) (λw1 k1=>hc.rs.cO (I.JE lC.head k1).keeps) (λx i w1 h1 k1=>R0 kb l x i w1 (tM (λr hr=>by grind) w1 (I.JE lC.head k1))) (λi hi=>trivial) (by omega) (by grind [uv,vy])) (λo2 _=>?_));refine m138 ?_
 refine cf 2 rfl ?_;refine co (Ev.gS aax aa cy.kX) ?_;refine m133 ?_;refine co (Ev.wZ (f:=182) (.cons aa .nil) .nil) ?_;refine cons (uC (X:=OV) (λ_=>True) (λ_=>.tuple #[]) (λ_=>mS.head) ah eN (.cons aa (.cons aa (.cons (.c (v:=I 256) rfl) (.cons aa .nil)))) (λw I=>SU 182 [gu.val kb.k] [] (tE l) (λx _=>x ∈ l.us) b3 o2 _ _ _ l.us 256 w eN (at_mem ah w I) (λw1 k1=>hc.us.cO (I.JE lC.head k1).keeps) (λx i w1 h1 k1=>Ws kb l x i w1 (tM (λr hr=>by grind) w1 (I.JE lC.head k1)) (hn.us x h1)) (λi hi=>GP _ _ _ hi) (by omega) (by grind [uv,vy])) (λo3 _=>?_));refine m138 ?_;refine cf 3 rfl ?_;refine co (Ev.gS aaw aa cy.mg) ?_;refine m133 ?_;refine co (Ev.wZ (f:=184) (.cons aa .nil) .nil) ?_;refine cons (uC (X:=OV) (λ_=>True) (λ_=>.tuple #[]) (λ_=>mS.head) ah eN (.cons aa (.cons aa (.cons (.c (v:=I 64) rfl) (.cons aa .nil)))) (λw I=>SS 184 [gu.val kb.k] [] (uX l) (λx _=>x ∈ l.ms) b3 o3 _ _ _ l.ms 64 w eN (at_mem ah w I) (λw1 k1=>hc.ms.cO (I.JE lC.head k1).keeps) (λx i w1 h1 k1=>SH kb l x i w1 (tM (λr hr=>by grind) w1 (I.JE lC.head k1)) (hn.ms x h1)) (λi hi=>GP _ _ _ hi) (by omega) (by grind [uv,vy,qm])) (λo4 _=>?_));refine m138 ?_;refine cf 4 rfl ?_;refine co (Ev.gS aav aa cy.kL) ?_;refine m133 ?_;refine co (Ev.wZ (f:=186) (.cons aa .nil) .nil) ?_;refine cons (uC (X:=OV) (λ_=>True) (λ_=>.tuple #[]) (λ_=>mS.head) ah eN (.cons aa (.cons aa (.cons (.c (v:=I 16) rfl) (.cons aa .nil)))) (λw I=>SR 186 [gu.val kb.k] [] (pG l) (λx _=>x ∈ l.xs) b3 o4 _ _ _ l.xs 16 w eN (at_mem ah w I) (λw1 k1=>hc.xs.cO (I.JE lC.head k1).keeps) (λx i w1 h1 k1=>Po kb l x i w1 (tM (λr hr=>by grind) w1 (I.JE lC.head k1)) (hn.xs x h1)) (λi hi=>GP _ _ _ hi) (by omega) (by grind [uv,vy,qm])) (λo5 _=>?_))
 refine nP (cut (λx=>True) (λx=>[dz,(4,true,jc b3)]) (λx=>[Var b3 j2 ⟨x,(((((0 + (l.ps.length:Int)) + (l.rs.length:Int)) + (l.us.length:Int)) + (l.ms.length:Int)) + (l.xs.length:Int))⟩ 334,bY x.v ky (Du l c.default) 276]) ?_ (λx hx=>?_))
 ·refine sg (oc lC.head ?_);refine cf 5 rfl ?_;refine co (Ev.gS l9 aa cy.nD) ?_;refine co (Ev.AY aa (.c rfl)) ?_;refine m181 ?_;refine m181 ?_;refine nP ?_;refine nG rfl (λh0=>?_) (λh0=>?_)
  ·have hdb:yy c.default = true:=(Fv _).trans h0;refine m117 ?_;refine tn 6 rfl rfl ?_;refine tk 7 rfl (fA 1 aa) ?_;refine all [4,8] zk (by decide) (.cons rfl ?_ (.cons rfl ?_ .nil))
   ·refine m95 ?_;refine fB 8 rfl ?_;refine m96 ?_;refine fB 10 rfl (buildSlice tY oX ud (.cons aa .nil) rfl rfl (λv4=>?_));exact s11
   ·refine m96 ?_;refine all [4,10] zk (by decide) (.cons rfl ?_ (.cons rfl ?_ .nil))
    ·refine m95 ?_;refine fB 10 rfl (buildSlice tY oX ud (.cons aa .nil) rfl rfl (λv6=>?_));exact s11
    ·refine (buildSlice tY oX ud (.cons aa .nil) rfl rfl (λv8=>?_));refine m261 ?_;exact s11
  ·have hdb:¬ yy c.default = true:=by rw [show yy c.default = false from (Fv _).trans h0]; exact cL
   refine skip (pN (mt (_) trivial (hL:=(by unfold Du; (first | rw [if_pos hdb] | rw [if_neg hdb,dS]); repeat first | exact sR | exact sN | apply sC | apply sS | apply sA))))
 obtain⟨q,rfl⟩:∃ y,y = x:=⟨x,rfl⟩;refine m253 ?_;refine co (Ev.gS yN aa cA.S2) ?_;refine m230 ?_
 rfl
def y3 (l:CL) (d:Int):Bool:=decide (Du l d = [])
theorem abq (c:cy) (l:CL) (w:World) (hc:kA w c l) (hn:l.Names) (hz:l.n <= 4611686018427387904):aR 78 #[jI.val c] w (dO w (.bool (y3 l c.default))):=by
 refine iZ 7 Tryz.func78 (λ_ _=>?_);refine m15 ?_;refine box aa (λb1=>?_);refine m98 ?_;refine sg (co (Ev.gR c DX aa (aB.id _)) ?_);refine cons (jW eN (o1 rfl) (λw I=>Mc c l w (hc.cO I.keeps) hn hz) (λv2=>?_));refine co (Ev.len tY aa zf) ?_;refine m43 ?_;refine m20 ?_;simp [y3,aL]
end Go.Proofs.YtgnmiaonbadbnaaGreat
