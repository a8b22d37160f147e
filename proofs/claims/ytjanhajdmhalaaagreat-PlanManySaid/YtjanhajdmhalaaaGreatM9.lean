/- Part. -/
import Derived.Test.YtjanhajdmhalaaaGreatM7
import Derived.Test.YtjanhajdmhalaaaGreatHxA
set_option linter.unusedVariables false
set_option linter.unusedSimpArgs false
set_option linter.unusedSectionVars false
namespace Go.Gx
open Go Go.Conc Go.ConcN
open Go.ConcR (KK wgBlock WgAt stA smA rd wr mk Payload DC0 Bk g_of_ofEvents)
section
variable {X:Ext} {P:Program} {main:Bool} {pm:Nat→Prop} {fr:Nat} {T:Goroutine→World→Prop} {b:Frame} {a:Act} {k:List Item} {cs:List Frame} {v:World} {ops:Array Oper} {i:Nat} {rest:List Nat} {o:Oper}
theorem rOp (hk:b.kind ≠ .early) (ho:ops[i]? = some o) (hg:o.guard = none) (hd:eU o.op = false)
    (h:∀ v1,bT v v1→bC v1→(execOp a.eval o).wpS P pm fr (fun n v'=>(∃ x,n = .value x ∧ cQ X P main pm fr T (G (b.atR (a.put o.dst x) (.inRegion ops rest :: k)) cs) v') ∨ (n = .skip ∧ cQ X P main pm fr T (G (b.atR (a.put o.dst undef) (.inRegion ops rest :: k)) cs) v')) v1) :
    cQ X P main pm fr T (G (b.atR a (.inRegion ops (i :: rest) :: k)) cs) v:=.go rfl fun v1 w m=>by
  have hk':((b.atR a (.inRegion ops (i :: rest) :: k)).kind == CallKind.early) = false:=by simpa [Frame.atR] using hk
  have hfin:∀ x,(b.atR a (.inRegion ops (i :: rest) :: k)).finish x = b.atR (a.put o.dst x) (.inRegion ops rest :: k):=fun x=>by rw [Frame.finish_atR,ho]; rfl
  have hw:Region.wanted o (yielded ops a.tmps) = true:=by simp [Region.wanted,hg]
  obtain ⟨nx,v',es,h3,h4,h6,real⟩:=cu _ v1 (h v1 m.grow m.nv)
  obtain ⟨w',g1,g2⟩:=real w #[] m.msk
  rw [Array.empty_append] at g1
  rcases h3 with ⟨x,rfl,h3⟩ | ⟨rfl,h3⟩
  · refine ⟨_,v',⟨w',seen P b.fn es,?_,h4,g2,eR h6⟩,h3⟩
    rw [ia w ho hw (.inl hd),← hfin x]
    unfold stepG.apply
    simp only [if_true,g1,hk',Bool.false_eq_true,if_false]
    simp [GStep.after,G,Frame.atR]
  · refine ⟨_,v',⟨w',seen P b.fn es,?_,h4,g2,eR h6⟩,h3⟩
    rw [ia w ho hw (.inl hd),← hfin undef]
    unfold stepG.apply
    simp only [if_true,g1,hk',Bool.false_eq_true,if_false]
    simp [GStep.after,G,Frame.atR]
theorem ky {x:Value} (hk:b.kind ≠ .early) (ho:ops[i]? = some o) (hg:o.guard = none) (hd:eU o.op = false) (ht:Tm P pm fr (execOp a.eval o)) (hr:∀ v1,bT v v1→(execOp a.eval o).run P v1 = .ok (.value x) v1)
    (h:∀ v1,bT v v1→bC v1→cQ X P main pm fr T (G (b.atR (a.put o.dst x) (.inRegion ops rest :: k)) cs) v1):cQ X P main pm fr T (G (b.atR a (.inRegion ops (i :: rest) :: k)) cs) v :=
  rOp hk ho hg hd fun v1 h1 hn=>bA (by rintro nx v2 ⟨rfl,rfl⟩; exact .inl ⟨x,rfl,h _ h1 hn⟩) _ _ (ht v1 hn _ _ (hr v1 h1))
theorem rCall (hk:b.kind ≠ .early) (ho:ops[i]? = some o) (hg:o.guard = none) (hd:eU o.op = false) {f:FuncId} {args:Array Value} (hx:∀ v1,(execOp a.eval o).wpS P pm fr (fun n v2=>n = .enter f args ∧ v2 = v1) v1)
    {R:World→dg} (hC:∀ v1,bT v v1→bC v1→gC X fr P f args v1 (R v1)) (hp:∀ v1,bT v v1→∀ b,pmC v1 (R v1).M b→pm b)
    (h:∀ v1 val v',bT v v1→(R v1).Q (.returned val) v'→∀ v2,bT v' v2→bC v2→cQ X P main pm fr T (G (b.atR (a.put o.dst val) (.inRegion ops rest :: k)) cs) v2) :
    cQ X P main pm fr T (G (b.atR a (.inRegion ops (i :: rest) :: k)) cs) v:=.go rfl fun v1 w m=>by
  have hk':((b.atR a (.inRegion ops (i :: rest) :: k)).kind == CallKind.early) = false:=by simpa [Frame.atR] using hk
  have hfin:∀ x,(b.atR a (.inRegion ops (i :: rest) :: k)).finish x = b.atR (a.put o.dst x) (.inRegion ops rest :: k):=fun x=>by rw [Frame.finish_atR,ho]; rfl
  have hw:Region.wanted o (yielded ops a.tmps) = true:=by simp [Region.wanted,hg]
  obtain ⟨nx,v',es,⟨rfl,rfl⟩,h4,h6,real⟩:=cu _ v1 (hx v1)
  obtain ⟨w',g1,g2⟩:=real w #[] m.msk
  rw [Array.empty_append] at g1
  refine ⟨G (Frame.enter P f args .normal) (b.atR a (.inRegion ops (i :: rest) :: k) :: cs),v',⟨w',seen P b.fn es,?_,h4,g2,eR h6⟩,?_⟩
  · rw [ia w ho hw (.inl hd)]
    unfold stepG.apply
    simp only [if_true,g1,hk',Bool.false_eq_true,if_false]
    simp [GStep.after,G,Frame.atR]
  · refine ((hC v' m.grow m.nv main .normal _ (by decide)).lB (hp v' m.grow)).bind ?_
    rintro g v2 ⟨frm,val,v0,rfl,hkd,hR,hg0,hL⟩
    refine .go rfl fun v3 w3 m3=>⟨G (b.atR (a.put o.dst val) (.inRegion ops rest :: k)) cs,v3,?_,h v' val v0 m.grow hR v3 (hg0.trans m3.grow) m3.nv⟩
    obtain ⟨fn,hfn,hres⟩:=hL.res
    obtain ⟨x,v',new,⟨rfl,rfl⟩,q4,q6,qr⟩:=cu _ v3 (c9 (hp _ m.grow) _ _ (hres v3 m3.grow m3.nv))
    obtain ⟨w',q2,q5⟩:=qr w3 #[] m3.msk
    rw [Array.empty_append] at q2
    refine ⟨w',seen P frm.fn new,?_,.refl _ _,q5,eR q6⟩
    rw [← hfin x]
    simp only [G,stepG,hL.mode,unwind,hL.defers,hfn]
    rw [q2]
    simp [GStep.after,doReturn,hkd,seen]
end
section
variable [Payload] {P:Program} {ty:TypeId} {Wg C n:Nat} {fv tv:Value} {Fin:Goroutine→World→Prop}
theorem tw_closed (i:Nat):Closed (TW P ty Wg C n tv i):=fun g v v1 h hg=>⟨by rw [hg.old _ (aS h.1)]; exact h.1,h.2⟩
theorem pH (hF:Closed Fin):Closed (AtAcqX P Wg Fin):=fun g v v1 ⟨h1,h2,g',h3,h4,h5⟩ hg=>⟨h1,by rw [hg.old _ (aS h2)]; exact h2,g',h3,h4,hF _ _ _ h5 hg⟩
theorem kS (hF:Closed Fin) (rem fr:Nat):Closed (TM P ty Wg C n fv tv Fin rem fr):=by
  match rem with
  | 0=>exact pH hF
  | 1 =>
    rintro g v v1 (h | ⟨h1,h2,g',h3,h4,h5⟩) hg
    · exact .inl (pH hF _ _ _ h hg)
    · exact .inr ⟨by rw [hg.old _ (aS h1)]; exact h1,h2,g',h3,h4,fun u hu hn=>h5 u (hg.trans hu) hn⟩
  | r + 2 =>
    rintro g v v1 ⟨h0,h1,g',child,h2,h3,h4,h5,h6⟩ hg
    exact ⟨h0,by rw [hg.old _ (aS h1)]; exact h1,g',child,h2,h3,fun u w hu=>h4 u w (hg.trans hu),fun u hu=>h5 u (hg.trans hu),fun u hu=>h6 u (hg.trans hu)⟩
end
end Go.Gx
