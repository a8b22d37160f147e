/-
  FOR A PROOF OF A STATEMENT WHOSE ROW BEARS 'leaving := true' (the law's call can start goroutines) AND A CONDITION OF ITS SPECIFICATION ('..UptoSaid'). Copy it as <Name>Leaving.lean (put your seat's Name for YtgnmiaonbadbnaaGreat), name it in GOCLAIM.json's 'order' behind <Name>Rows. (1) 'returnsInLeavingWide_of_cond_sized': Derived/Conc/LeavingOf.lean's 'returnsInLeavingWide_of_change_sized' with the condition handed over beside the reach · (2) 'holds_of_cond_leaving': Derived/JoinedCond.lean's 'OpenClaim.holds_of_cond' with three turns: 'c.leaving = true', 'leavingAtReturn', (1)'s word in the last hypothesis. For '..Said' without a condition: 'OpenClaim.holds_of_wide_leaving' (Derived.Conc.Holds) as it stands. By an AI agent, Sun Nov 15 2026. No person has read it. No macro, syntax, notation, axiom, sorry.
-/
import Derived.Test.YtgnmiaonbadbnaaGreatRows
import Derived.JoinedCond
import Derived.Conc.LeavingOf
namespace Go.Proofs.YtgnmiaonbadbnaaGreat.leaving
open Go Go.Conc Go.ChangeShapes

section
variable {H:Type} {enc:TypeId × Value->H}

theorem oQ {a:Assume} {C:Checked} {os:Os} {f:FuncId} {fn:Func} {s:OpenSpec} {k:(H:Type)->List (DataW H)->Bool} (hk:s.cond = some k) {F:Stop.Interp} {conds:List PathCond} {apart fresh handsOn again:Bool}
 (own:ownKnob C.prog.godebug = none) (started:os.Started) (hfn:C.prog.funcs[f]? = some fn)
 (witness:∃ (w:World) (tape:Tape) (i:Input),w.os = os /\ (w.forCall tape i).Shaped C.prog /\ i.vars = [] /\ Input.okWide C.prog (w.forCall tape i) .any w.heap.size f i ∧
  s.pre6 enc C.prog fn conds apart (w.forCall tape i).memory i.args /\ a.holds C.prog (lone (Frame.enter C.prog f i.args .normal) [] (w.forCall tape i)))
 (runs:∀ (W:World) (base:Nat) (args:Array Value) (ds gs:List (DataW H)) (before:List MemPlace),
  (∀ (j:Nat) t v,fn.params[j]? = some t->args[j]? = some v->Value.okWide C.prog W .any base t v) ->
  DataW.Whole enc C.prog fn.params.toList s.vars apart W args.toList ds gs before ->
  conds.all (PathCond.test C.prog ⟨fn.params.toList,ds,s.bare.plain.varTypes C.prog,gs⟩) = true->k H (ds ++ gs) = true ->
  (DataW.weightsEach C.prog (fn.params.toList ++ s.bare.plain.varTypes C.prog) (ds ++ gs)).all (· <= reachBytes) = true ->
  a.holds C.prog (lone (Frame.enter C.prog f args .normal) [] W) ->
  ∃ M last o w' t',runNT C.prog (M + 1) (solo (G (Frame.enter C.prog f args .normal) []) W) #[] = (.ended o w',t') /\ runN C.prog M (solo (G (Frame.enter C.prog f args .normal) []) W) = .next last ∧
    step C.prog last = .ended o w' /\ Conc.Good C.prog (λv W'=>(s.at F).post enc C.prog fn apart fresh handsOn again W args v W') last o w' t') :
 ReturnsInLeavingWide a C os f .any (s.pre6 enc C.prog fn conds apart) ((s.at F).post enc C.prog fn apart fresh handsOn again):=by
 refine returnsInLeavingWide_of_good own started witness ?_;intro w tape i _ _ _ GK hpre abM;obtain⟨_,_,_,fn',ajI,_,_,_,_,hval⟩:=GK;have e:fn' = fn:=Option.some.inj (ajI.symm.trans hfn);subst e;obtain⟨ds,gs,before,hw,hc,hkk⟩:=(OpenSpec.pre_some hk conds apart _ _).1 hpre.1;have hw':=DataW.Whole.of_heap (w':=w.forCall tape i) (by rfl) hw;obtain⟨M,last,o,w',t',h1,h2,h3,h4⟩:=runs (w.forCall tape i) w.heap.size i.args ds gs before hval hw' hc hkk (hpre.2.weights hw) abM;exact ⟨M,last,o,w',t',h1,h2,h3,h4.mono λv hp=>ChangeSpec.post_blind hp⟩

end

theorem vJ {p:Pinned} {s:OpenSpec} {c:OpenClaim} (f:FuncId) (fn:Func)
 (hn:c.program = p.name) (hs:c.sum = p.sum) (hsp:c.spec = s.name)
 (hstart:c.start = .entering) (Bq:c.outside = []) (hin:c.inits = []) (QG:c.under = none) (hi4:c.initsInPlace = [] /\ c.initsUnfollowed = false /\ c.initsRecurse = false /\ c.initsNamed = [] /\ c.initsPassed = []) (hnb:c.noBlocks = false) (hlv:c.leaving = true) (hfo:c.followed = none) (aju:c.narrowed = s.cond.isSome) (abG:c.still = false)
 (hfn:p.checked.prog.funcNamed c.func = some f) (hf:p.checked.prog.funcs[f]? = some fn)
 (closed:joinedFacts p.checked.prog f fn s.bare c = true)
 (af8:fn.isInstance p.checked.prog c.origin c.targs) (afQ:fn.isWrapper p.checked.prog c.wrapper c.mainSum)
 (h:∀ os:Os,os.Started->∀ (H:Type) (enc:TypeId × Value->H),(∀ a b,enc a = enc b->a = b)->∀ F:Stop.Interp,
  ReturnsInLeavingWide c.assume p.checked os f .any (c.pre enc p.checked.prog fn s) ((s.at F).post enc p.checked.prog fn c.apart c.fresh c.handsOn c.again)):c.holds p s:=by
 simp only [joinedFacts,Bool.and_eq_true,beq_iff_eq,Array.all_eq_true_iff_forall_mem,List.all_eq_true,decide_eq_true_eq] at closed;obtain⟨⟨⟨⟨⟨⟨⟨⟨⟨⟨⟨⟨⟨⟨⟨⟨⟨⟨⟨⟨⟨⟨⟨⟨⟨⟨⟨⟨⟨⟨⟨k1,k2⟩,k3⟩,k4⟩,k5⟩,k6⟩,k7⟩,k8⟩,k9⟩,k10⟩,k11⟩,k12⟩,k13⟩,k14⟩,k15⟩,k16⟩,k17⟩,k17b⟩,k18⟩,k19⟩,k20⟩,k21⟩,k22⟩,k23⟩,k23b⟩,k24⟩,k24b⟩,k24c⟩,k25⟩,k26⟩,k27⟩,k28⟩:=closed;have hq:∀ os:Os,Stop.quiet p.checked.prog os:=λos k hk=>by rw [k9] at hk; cases hk
 refine ⟨k1,hn,hs,hsp,k2,k3,by unfold OpenClaim.startFits; rw [hstart]; exact k24,by unfold OpenClaim.startTold; rw [hstart]; exact ⟨hin,QG,hi4⟩,f,fn,hfn,hf,⟨k4,k19⟩,(λhb=>by rw [hnb] at hb; cases hb),by unfold OpenClaim.namedList; rw [hfo]; exact k5,af8,afQ,
  k6.trans k7.symm,⟨k8.trans k9.symm,by unfold Program.envWorded; rw [k9]; rfl,k23b⟩,k10,k11,k12,k13,k14,⟨k15,k27,k28⟩,⟨k16,k20⟩,⟨k17,k21,k25,k26⟩,⟨k22,k24b,k24c,k17b⟩,(by rw [Bq,aju]; cases hsh:c.shortTexts with | none=>simp | some _=>rw [hsh] at k23; cases k23),λn hn'=>varReadable_some (k18 n hn'),
  ⟨_,by unfold OpenClaim.world; rw [Bq,hstart]; exact WideRow.started_initial,hq _⟩,[],by unfold OpenClaim.lists; rw [hfo],λos st _ H enc inj=>?_⟩
 have st':os.Started:=by unfold OpenClaim.world at st; rw [Bq,hstart] at st; exact st
 rw [OpenClaim.post_not_still abG];unfold OpenClaim.form;rw [hstart,k6];intro F;have e1:c.okInput = Input.okWide:=by unfold OpenClaim.okInput; rw [hnb]
 have e2:c.atReturn p.checked.prog = leavingAtReturn p.checked.prog:=by unfold OpenClaim.atReturn; rw [hlv]
 have e3:c.always p.checked.prog [] = nothingAlways:=by unfold OpenClaim.always; rw [hfo]
 have e4:s.post enc p.checked.prog fn F c.outside c.apart c.fresh c.handsOn c.again = (s.at F).post enc p.checked.prog fn c.apart c.fresh c.handsOn c.again:=by rw [Bq]; rfl
 rw [e1,e2,e3];show ReturnsInOpen _ _ _ _ _ _ _ _ (s.post enc p.checked.prog fn F c.outside c.apart c.fresh c.handsOn c.again) _ _;rw [e4];exact h os st' H enc inj F k24

end Go.Proofs.YtgnmiaonbadbnaaGreat.leaving
