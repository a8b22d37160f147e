/- Part. -/
import Derived.Conc.Beside
import Derived.Test.YtjanhajdmhalaaaGreatHxX
set_option linter.unusedVariables false
set_option linter.unusedSimpArgs false
set_option linter.unusedSectionVars false
namespace Go.Gx
open Go Go.Conc Go.ConcN
structure Pl where
  Sh:Loc→Prop
  Own:Nat→Loc→Prop
  Rd:Nat→Loc→Prop
  Fr:Loc→Prop
  Mn:Loc→Prop
structure Pl.OK (p:Pl) (j:Nat):Prop where
  own:∀ k k' l,k < j→k' < j→p.Own k l→p.Own k' l→k = k'
  ownRd:∀ k k' l,k < j→k' < j→p.Own k l→¬ p.Rd k' l
  ownMn:∀ k l,k < j→p.Own k l→¬ p.Mn l
  ownFr:∀ k l,k < j→p.Own k l→¬ p.Fr l
  rdFr:∀ k l,k < j→p.Rd k l→¬ p.Fr l
  ownSh:∀ k l,k < j→p.Own k l→¬ p.Sh l
  rdSh:∀ k l,k < j→p.Rd k l→¬ p.Sh l
  frSh:∀ l,p.Fr l→¬ p.Sh l
  mnSh:∀ l,p.Mn l→¬ p.Sh l
def Pl.Ok0 (p:Pl) (op:MemOp):Prop:=op.g = 0 ∧ ∀ x,op.act.touch? = some x→(p.Sh x.loc ∧ x.kind ≠ .plain) ∨ (p.Mn x.loc ∧ (x.write = true→p.Fr x.loc))
def Pl.OkW (p:Pl) (base k:Nat) (op:MemOp):Prop:=op.g = base + k ∧ ∀ x,op.act.touch? = some x→(p.Sh x.loc ∧ x.kind ≠ .plain ∧ x.kind ≠ .said) ∨ (p.Own k x.loc ∧ x.kind = .plain) ∨ (p.Rd k x.loc ∧ x.write = false ∧ x.kind = .plain)
structure CTP (p:Pl) (base:Nat) (Shun:Loc→Prop) (B j:Nat) (t:Trace):Prop where
  pos:0 < base
  quiet:Quiet p.Sh t
  own:∀ k,k < j→∀ l,p.Own k l→Perm t (base + k) l
  rd:∀ k,k < j→∀ l,p.Rd k l→PermW t (base + k) l
  free:∀ l,p.Fr l→Perm t 0 l
  mine:∀ l,p.Mn l→PermW t 0 l
  nr:∀ said,¬ Race said t
  gs:∀ (i:Nat) (op:MemOp),t[i]? = some op→op.g < base + j
  old:∀ i a g,t.g? i = some g→g < base→touchAt t i = some a→a.loc.isMemory = true→Knows t 0 i ∨ (Shun a.loc ∧ a.kind = .atomic)
  atm:∀ i a g,t.g? i = some g→base ≤ g→touchAt t i = some a→a.kind = .atomic→p.Sh a.loc
  said:∀ i a g,t.g? i = some g→base ≤ g→touchAt t i = some a→a.kind ≠ .said
  over:∀ i g,t.g? i = some g→g ≠ 0→g < base→t.counts i→∃ q,t.g? q = some 0 ∧ HappensBefore t i q
  seen:∀ op ∈ t,op.act.low B
section
variable {p:Pl} {base:Nat} {Shun:Loc→Prop} {B j:Nat} {t u:Trace}
theorem pc {i:Nat} {op:MemOp} (h:t[i]? = some op):t.g? i = some op.g:=by simp [Trace.g?,h]
theorem fJ {i g:Nat} (h:(t ++ u).g? i = some g):(i < t.size ∧ t.g? i = some g) ∨ (t.size ≤ i ∧ ∃ op ∈ u,(t ++ u)[i]? = some op ∧ op.g = g):=by
  obtain ⟨op,ho,hg⟩:=Option.map_eq_some_iff.1 h
  rcases getElem?_append_cases ho with ⟨hl,ho'⟩ | ⟨hl,hou⟩
  · exact .inl ⟨hl,by rw [pc ho',hg]⟩
  · exact .inr ⟨hl,op,hou,ho,hg⟩
theorem CTP.oS (h:CTP p base Shun B j t) (hu:∀ op ∈ u,op.g = 0 ∨ op.act.touch? = none ∨ base ≤ op.g) :
    (∀ i a g,(t ++ u).g? i = some g→g < base→touchAt (t ++ u) i = some a→a.loc.isMemory = true→Knows (t ++ u) 0 i ∨ (Shun a.loc ∧ a.kind = .atomic)) ∧
    (∀ i g,(t ++ u).g? i = some g→g ≠ 0→g < base→(t ++ u).counts i→∃ q,(t ++ u).g? q = some 0 ∧ HappensBefore (t ++ u) i q):=by
  constructor
  · intro i a g hg hlt ha hm
    rcases fJ hg with ⟨hl,hg'⟩ | ⟨hl,op,hou,hop,rfl⟩
    · exact (h.old i a g hg' hlt (by rw [← touchAt_old (u:=u) hl]; exact ha) hm).imp (·.app u) id
    · rcases hu op hou with h0 | h0 | h0
      · have:=knows_own hop
        rw [h0] at this
        exact .inl this
      · rw [touchAt_of hop,h0] at ha; cases ha
      · omega
  · intro i g hg hne hlt hc
    rcases fJ hg with ⟨hl,hg'⟩ | ⟨hl,op,hou,hop,rfl⟩
    · obtain ⟨q,hq,hb⟩:=h.over i g hg' hne hlt ((counts_old hl).1 hc)
      have hql:q < t.size:=by
        obtain ⟨z,hz,_⟩:=Option.map_eq_some_iff.1 hq
        exact lt_size_of_getElem? hz
      exact ⟨q,by rw [g?_old hql]; exact hq,hb_app u hb⟩
    · rcases hu op hou with h0 | h0 | h0
      · exact absurd h0 hne
      · obtain ⟨x,hx,_⟩:=hc
        have:touchAt (t ++ u) i = some x:=hx
        rw [touchAt_of hop,h0] at this; cases this
      · omega
theorem CTP.app0 (A:p.OK j) (h:CTP p base Shun B j t) (hu:∀ op ∈ u,p.Ok0 op) (hl:∀ op ∈ u,op.act.low B):CTP p base Shun B j (t ++ u):=by
  obtain ⟨o1,o2⟩:=h.oS (u:=u) fun op hop=>.inl (hu op hop).1
  refine ⟨h.pos,h.quiet.app fun op hop x hx hs=>?_,fun k kj l hl=>(h.own k kj l hl).app fun op hop b hb e=>?_,fun k kj l hl=>(h.rd k kj l hl).app fun op hop b hb e hw=>?_,
    fun l hl=>(h.free l hl).app fun op hop _ _ _=>(hu op hop).1,fun l hl=>(h.mine l hl).app fun op hop _ _ _ _=>(hu op hop).1,fun said=>?_,fun i op hi=>?_,o1,fun i a g hg hb ha hk=>?_,fun i a g hg hb ha=>?_,o2,seen_app h.seen hl⟩
  · rcases (hu op hop).2 x hx with ⟨_,hk⟩ | ⟨hn,_⟩
    · exact ⟨hk,fun _=>(hu op hop).1⟩
    · exact absurd hs (A.mnSh _ hn)
  · rcases (hu op hop).2 b hb with ⟨hs,_⟩ | ⟨hn,_⟩
    · exact absurd (e ▸ hs) (A.ownSh k l kj hl)
    · exact absurd (e ▸ hn) (A.ownMn k l kj hl)
  · rcases (hu op hop).2 b hb with ⟨hs,_⟩ | ⟨_,hn⟩
    · exact absurd (e ▸ hs) (A.rdSh k l kj hl)
    · exact absurd (e ▸ hn hw) (A.rdFr k l kj hl)
  · refine noRace_append (h.nr said) (fun op hop=>(hu op hop).1) (fun i a ha op hop b hb hc=>?_)
    rcases (hu op hop).2 b hb with ⟨hs,hk⟩ | ⟨hm,hf⟩
    · exact h.quiet.known hs hk (fun _=>rfl) i a ha hc
    · cases hbw:b.write with
      | true=>exact h.free b.loc (hf hbw) i a ha hc.1
      | false=>exact h.mine b.loc hm i a ha hc.1 (hc.2.2.1.resolve_right (by simp [hbw]))
  · rcases getElem?_append_cases hi with ⟨_,hi'⟩ | ⟨_,hiu⟩
    · exact h.gs i op hi'
    · rw [(hu op hiu).1]; have:=h.pos; omega
  · rcases fJ hg with ⟨hl,hg'⟩ | ⟨hl,op,hou,hop,rfl⟩
    · exact h.atm i a g hg' hb (by rw [← touchAt_old (u:=u) hl]; exact ha) hk
    · rw [(hu op hou).1] at hb; have:=h.pos; omega
  · rcases fJ hg with ⟨hl,hg'⟩ | ⟨hl,op,hou,hop,rfl⟩
    · exact h.said i a g hg' hb (by rw [← touchAt_old (u:=u) hl]; exact ha)
    · rw [(hu op hou).1] at hb; have:=h.pos; omega
theorem CTP.appW (A:p.OK j) (h:CTP p base Shun B j t) {k:Nat} (kj:k < j) (hu:∀ op ∈ u,p.OkW base k op) (hl:∀ op ∈ u,op.act.low B):CTP p base Shun B j (t ++ u):=by
  have hp:=h.pos
  obtain ⟨o1,o2⟩:=h.oS (u:=u) fun op hop=>.inr (.inr (by rw [(hu op hop).1]; omega))
  refine ⟨h.pos,h.quiet.app fun op hop x hx hs=>?_,fun k' kj' l hl=>(h.own k' kj' l hl).app fun op hop b hb e=>?_,fun k' kj' l hl=>(h.rd k' kj' l hl).app fun op hop b hb e hw=>?_,
    fun l hl=>(h.free l hl).app fun op hop b hb e=>?_,fun l hl=>(h.mine l hl).app fun op hop b hb e hw=>?_,fun said=>?_,fun i op hi=>?_,o1,fun i a g hg hb ha hk=>?_,fun i a g hg hb ha=>?_,o2,seen_app h.seen hl⟩
  · rcases (hu op hop).2 x hx with ⟨_,hk,hn⟩ | ⟨ho,_⟩ | ⟨hr,_,_⟩
    · exact ⟨hk,fun e=>absurd e hn⟩
    · exact absurd hs (A.ownSh k _ kj ho)
    · exact absurd hs (A.rdSh k _ kj hr)
  · rcases (hu op hop).2 b hb with ⟨hs,_⟩ | ⟨ho,_⟩ | ⟨hr,_,_⟩
    · exact absurd (e ▸ hs) (A.ownSh k' l kj' hl)
    · rw [(hu op hop).1,A.own k k' l kj kj' (e ▸ ho) hl]
    · exact absurd (e ▸ hr) (A.ownRd k' k l kj' kj hl)
  · rcases (hu op hop).2 b hb with ⟨hs,_⟩ | ⟨ho,_⟩ | ⟨_,hr,_⟩
    · exact absurd (e ▸ hs) (A.rdSh k' l kj' hl)
    · exact absurd hl (A.ownRd k k' l kj kj' (e ▸ ho))
    · rw [hr] at hw; cases hw
  · rcases (hu op hop).2 b hb with ⟨hs',_⟩ | ⟨ho,_⟩ | ⟨hr,_,_⟩
    · exact absurd (e ▸ hs') (A.frSh _ hl)
    · exact absurd hl (A.ownFr k l kj (e ▸ ho))
    · exact absurd hl (A.rdFr k l kj (e ▸ hr))
  · rcases (hu op hop).2 b hb with ⟨hs',_⟩ | ⟨ho,_⟩ | ⟨_,hr,_⟩
    · exact absurd (e ▸ hs') (A.mnSh _ hl)
    · exact absurd hl (A.ownMn k l kj (e ▸ ho))
    · rw [hr] at hw; cases hw
  · refine noRace_append (h.nr said) (fun op hop=>(hu op hop).1) (fun i a ha op hop b hb hc=>?_)
    rcases (hu op hop).2 b hb with ⟨hs,hk,hn⟩ | ⟨ho,_⟩ | ⟨hr,hbw,_⟩
    · exact h.quiet.known hs hk (fun e=>absurd e hn) i a ha hc
    · exact h.own k kj b.loc ho i a ha hc.1
    · exact h.rd k kj b.loc hr i a ha hc.1 (hc.2.2.1.resolve_right (by simp [hbw]))
  · rcases getElem?_append_cases hi with ⟨_,hi'⟩ | ⟨_,hiu⟩
    · exact h.gs i op hi'
    · rw [(hu op hiu).1]; omega
  · rcases fJ hg with ⟨hl,hg'⟩ | ⟨hl,op,hou,hop,rfl⟩
    · exact h.atm i a g hg' hb (by rw [← touchAt_old (u:=u) hl]; exact ha) hk
    · rw [touchAt_of hop] at ha
      rcases (hu op hou).2 a ha with ⟨hs,_⟩ | ⟨_,ho⟩ | ⟨_,_,ho⟩
      · exact hs
      · rw [ho] at hk; cases hk
      · rw [ho] at hk; cases hk
  · rcases fJ hg with ⟨hl,hg'⟩ | ⟨hl,op,hou,hop,rfl⟩
    · exact h.said i a g hg' hb (by rw [← touchAt_old (u:=u) hl]; exact ha)
    · rw [touchAt_of hop] at ha
      rcases (hu op hou).2 a ha with ⟨_,_,hs⟩ | ⟨_,ho⟩ | ⟨_,_,ho⟩
      · exact hs
      · rw [ho]; simp
      · rw [ho]; simp
theorem CTP.appMute (h:CTP p base Shun B j t) {g:Nat} (hg:g < base + j) (hu:∀ op ∈ u,op.g = g ∧ op.act.touch? = none) (hl:∀ op ∈ u,op.act.low B):CTP p base Shun B j (t ++ u):=by
  obtain ⟨o1,o2⟩:=h.oS (u:=u) fun op hop=>.inr (.inl (hu op hop).2)
  have nt:∀ op ∈ u,∀ b,op.act.touch? = some b→False:=fun op hop b hb=>by rw [(hu op hop).2] at hb; cases hb
  refine ⟨h.pos,h.quiet.app fun op hop x hx hs=>(nt op hop x hx).elim,fun k' kj' l hl=>(h.own k' kj' l hl).app fun op hop b hb e=>(nt op hop b hb).elim,fun k' kj' l hl=>(h.rd k' kj' l hl).app fun op hop b hb e hw=>(nt op hop b hb).elim,
    fun l hl=>(h.free l hl).app fun op hop b hb e=>(nt op hop b hb).elim,fun l hl=>(h.mine l hl).app fun op hop b hb e hw=>(nt op hop b hb).elim,fun said=>?_,fun i op hi=>?_,o1,fun i a g hg hb ha hk=>?_,fun i a g hg hb ha=>?_,o2,seen_app h.seen hl⟩
  · exact noRace_append (h.nr said) (fun op hop=>(hu op hop).1) (fun i a ha op hop b hb hc=>(nt op hop b hb).elim)
  · rcases getElem?_append_cases hi with ⟨_,hi'⟩ | ⟨_,hiu⟩
    · exact h.gs i op hi'
    · rw [(hu op hiu).1]; exact hg
  · rcases fJ hg with ⟨hl,hg'⟩ | ⟨hl,op,hou,hop,rfl⟩
    · exact h.atm i a g hg' hb (by rw [← touchAt_old (u:=u) hl]; exact ha) hk
    · rw [touchAt_of hop] at ha; exact (nt op hou a ha).elim
  · rcases fJ hg with ⟨hl,hg'⟩ | ⟨hl,op,hou,hop,rfl⟩
    · exact h.said i a g hg' hb (by rw [← touchAt_old (u:=u) hl]; exact ha)
    · rw [touchAt_of hop] at ha; exact (nt op hou a ha).elim
def j4 (t:Trace) (l:Loc):Prop:=∀ i a,touchAt t i = some a→a.loc ≠ l
theorem j4.perm {l:Loc} (h:j4 t l) (g:Nat):Perm t g l:=fun i a ha e=>absurd e (h i a ha)
theorem CTP.change {p':Pl} {B':Nat} (h:CTP p base Shun B j t) (hS:∀ l,p'.Sh l ↔ p.Sh l) (hO:∀ k,k < j→∀ l,p'.Own k l→p.Own k l ∨ j4 t l) (hR:∀ k,k < j→∀ l,p'.Rd k l→p.Rd k l ∨ j4 t l)
    (hF:∀ l,p'.Fr l→p.Fr l ∨ j4 t l) (hM:∀ l,p'.Mn l→p.Mn l ∨ j4 t l) (hB:B ≤ B'):CTP p' base Shun B' j t :=
  ⟨h.pos,fun i op x hi hx hs=>h.quiet i op x hi hx ((hS _).1 hs),fun k kj l hl=>(hO k kj l hl).elim (h.own k kj l) (·.perm _),fun k kj l hl=>(hR k kj l hl).elim (h.rd k kj l) (fun f=>.of (f.perm _)),
   fun l hl=>(hF l hl).elim (h.free l) (·.perm _),fun l hl=>(hM l hl).elim (h.mine l) (fun f=>.of (f.perm _)),h.nr,h.gs,h.old,fun i a g h1 h2 h3 h4=>(hS _).2 (h.atm i a g h1 h2 h3 h4),h.said,h.over,fun op hop=>MemAct.low_mono hB (h.seen op hop)⟩
theorem CTP.fork {p':Pl} (h:CTP p base Shun B j t) {x y:MemOp} (hx:x.g = 0 ∧ x.act = .go (base + j)) (hy:y.g = base + j ∧ y.act = .start) (h0:Deaf t 0 = 0)
    (hS:∀ l,p'.Sh l ↔ p.Sh l) (hO:∀ k,k < j→∀ l,p'.Own k l→p.Own k l) (hR:∀ k,k < j→∀ l,p'.Rd k l→p.Rd k l) (hOj:∀ l,p'.Own j l→p.Fr l) (hRj:∀ l,p'.Rd j l→p.Mn l)
    (hF:∀ l,p'.Fr l→p.Fr l) (hM:∀ l,p'.Mn l→p.Mn l):CTP p' base Shun B (j + 1) (t ++ #[x,y]):=by
  have hk:Deaf t (base + j) = 0:=Deaf_absent fun i op hi e=>by have:=h.gs i op hi; omega
  have hm:∀ op ∈ #[x,y],op = x ∨ op = y:=by intro op hop; simpa using hop
  have hnt:∀ op ∈ #[x,y],op.act.touch? = none:=by
    intro op hop
    rcases hm op hop with rfl | rfl
    · rw [hx.2]; rfl
    · rw [hy.2]; rfl
  have nt:∀ op ∈ #[x,y],∀ b,op.act.touch? = some b→False:=fun op hop b hb=>by rw [hnt op hop] at hb; cases hb
  have old:∀ {i:Nat} {a:Touch},touchAt (t ++ #[x,y]) i = some a→touchAt t i = some a:=by
    intro i a ha
    obtain ⟨z,hz,hza⟩:=touch_of ha
    rcases getElem?_append_cases hz with ⟨_,hz'⟩ | ⟨_,hzu⟩
    · rw [touchAt_of hz']; exact hza
    · exact (nt z hzu a hza).elim
  obtain ⟨o1,o2⟩:=h.oS (u:=#[x,y]) fun op hop=>.inr (.inl (hnt op hop))
  refine ⟨h.pos,fun i op z hi hz hs=>?_,fun k kj l hl=>?_,fun k kj l hl=>?_,
    fun l hl=>(h.free l (hF l hl)).app fun op hop b hb _=>(nt op hop b hb).elim,fun l hl=>(h.mine l (hM l hl)).app fun op hop b hb _ _=>(nt op hop b hb).elim,fun said=>?_,fun i op hi=>?_,o1,fun i a g hg hb ha hk'=>?_,fun i a g hg hb ha=>?_,o2,seen_app h.seen fun op hop=>?_⟩
  · exact h.quiet.app (fun op hop b hb _=>(nt op hop b hb).elim) i op z hi hz ((hS _).1 hs)
  · rcases Nat.lt_or_ge k j with hlt | hge
    · exact (h.own k hlt l (hO k hlt l hl)).app fun op hop b hb _=>(nt op hop b hb).elim
    · obtain rfl:k = j:=by omega
      exact fun i a ha e=>fork_knows hx hy h0 hk (h.free l (hOj l hl) i a (old ha) e)
  · rcases Nat.lt_or_ge k j with hlt | hge
    · exact (h.rd k hlt l (hR k hlt l hl)).app fun op hop b hb _ _=>(nt op hop b hb).elim
    · obtain rfl:k = j:=by omega
      exact fun i a ha e hw=>fork_knows hx hy h0 hk (h.mine l (hRj l hl) i a (old ha) e hw)
  · have e:t ++ #[x,y] = (t ++ #[x]) ++ #[y]:=by apply Array.ext'; simp
    rw [e]
    refine noRace_append (g:=base + j) (noRace_append (g:=0) (h.nr said) (fun op hop=>by simp at hop; rw [hop]; exact hx.1) (fun i a _ op hop b hb _=>(nt op (by simp at hop ⊢; exact .inl hop) b hb).elim))
      (fun op hop=>by simp at hop; rw [hop]; exact hy.1) (fun i a _ op hop b hb _=>(nt op (by simp at hop ⊢; exact .inr hop) b hb).elim)
  · rcases getElem?_append_cases hi with ⟨_,hi'⟩ | ⟨_,hiu⟩
    · have:=h.gs i op hi'; omega
    · rcases hm op hiu with rfl | rfl
      · rw [hx.1]; have:=h.pos; omega
      · rw [hy.1]; omega
  · rcases fJ hg with ⟨hl,hg'⟩ | ⟨hl,op,hou,hop,rfl⟩
    · exact (hS _).2 (h.atm i a g hg' hb (by rw [← touchAt_old (u:=#[x,y]) hl]; exact ha) hk')
    · rw [touchAt_of hop] at ha; exact (nt op hou a ha).elim
  · rcases fJ hg with ⟨hl,hg'⟩ | ⟨hl,op,hou,hop,rfl⟩
    · exact h.said i a g hg' hb (by rw [← touchAt_old (u:=#[x,y]) hl]; exact ha)
    · rw [touchAt_of hop] at ha; exact (nt op hou a ha).elim
  · rcases hm op hop with rfl | rfl
    · rw [hx.2]; trivial
    · rw [hy.2]; trivial
theorem CTP.ofPast {B:Nat} (h:Past Shun B t) (hb:0 < base) (hg:∀ (i:Nat) (op:MemOp),t[i]? = some op→op.g < base) (hS:∀ l,p.Sh l→j4 t l) (hF:∀ l,p.Fr l→l.isMemory = true ∧ ¬ Shun l) (hM:∀ l,p.Mn l→l.isMemory = true ∧ ¬ Shun l) :
    CTP p base Shun B 0 t:=by
  have kn:∀ l:Loc,l.isMemory = true→¬ Shun l→Perm t 0 l:=fun l hm hs i a ha e=>(h.known i a ha (e ▸ hm)).resolve_right fun x=>hs (e ▸ x.1)
  refine ⟨hb,fun i op x hi hx hs=>absurd rfl (hS _ hs i x (by rw [touchAt_of hi]; exact hx)),fun k kj=>by omega,fun k kj=>by omega,fun l hl=>kn l (hF l hl).1 (hF l hl).2,fun l hl=>.of (kn l (hM l hl).1 (hM l hl).2),h.clean,fun i op hi=>by have:=hg i op hi; omega,
    fun i a g _ _ ha hm=>h.known i a ha hm,fun i a g hgi hle _ _=>?_,fun i a g hgi hle _=>?_,fun i g hgi hne hlt hc=>?_,h.seen⟩
  · obtain ⟨op,ho,rfl⟩:=Option.map_eq_some_iff.1 hgi
    have:=hg i op ho; omega
  · obtain ⟨op,ho,rfl⟩:=Option.map_eq_some_iff.1 hgi
    have:=hg i op ho; omega
  · obtain ⟨q,hq,hbq⟩:=h.over i g hgi hne hc
    exact ⟨q,hq,hbq⟩
theorem CTP.acquired (h:CTP p base Shun B j t) {a:Addr} (hrel:∀ k,k < j→∃ r,RelBy a t (base + k) r) (hn:NoRelease a t) (h0:Deaf t 0 = 0) (fn:FuncId) (pos:String) (ha:a.block < B) :
    Past (fun l=>Shun l ∨ p.Sh l) B (t ++ MemOp.ofEvents 0 fn pos #[Go.ConcR.mk (.acquire a)]):=by
  have e1:MemOp.ofEvents 0 fn pos #[Go.ConcR.mk (.acquire a)] = #[{ g:=0,fn,pos,act:=.mark (.acquire a) }]:=by rw [ofEvents_eq]; simp [Go.ConcR.ofEvent_mk]
  rw [e1]
  have hy:(t ++ #[({ g:=0,fn,pos,act:=.mark (.acquire a) }:MemOp)])[t.size]? = some { g:=0,fn,pos,act:=.mark (.acquire a) }:=by simp
  have hm:∀ op ∈ (#[{ g:=0,fn,pos,act:=.mark (.acquire a) }]:Array MemOp),op = { g:=0,fn,pos,act:=.mark (.acquire a) }:=by intro op hop; simpa using hop
  have nt:∀ op ∈ (#[{ g:=0,fn,pos,act:=.mark (.acquire a) }]:Array MemOp),op.act.touch? = none:=fun op hop=>by rw [hm op hop]; rfl
  have hh:(t ++ #[({ g:=0,fn,pos,act:=.mark (.acquire a) }:MemOp)]).heard t.size:=⟨0,pc hy,by rw [deaf_old (Nat.le_refl _)]; exact h0⟩
  obtain ⟨o1,o2⟩:=h.oS (u:=#[{ g:=0,fn,pos,act:=.mark (.acquire a) }]) fun op hop=>.inr (.inl (nt op hop))
  -- every worker's release is noticed
  have edge:∀ k,k < j→∃ r,RelBy a t (base + k) r ∧ HappensBefore (t ++ #[({ g:=0,fn,pos,act:=.mark (.acquire a) }:MemOp)]) r t.size:=fun k kj=>by
    obtain ⟨r,hr⟩:=hrel k kj
    have hrl:=lt_of_act? hr.act
    have hn':NoRelease a (t ++ #[({ g:=0,fn,pos,act:=.mark (.acquire a) }:MemOp)]):=hn.app fun op hop=>by rw [hm op hop]; simp
    exact ⟨r,hr,.single (.inr ⟨.marked hrl (.inr (by rw [act?_old hrl]; exact hr.act)) (act?_of hy) (fun q _ _=>hn' q),(heard_old hrl).2 hr.heard,hh⟩)⟩
  have wk:∀ i g,t.g? i = some g→base ≤ g→t.counts i→HappensBefore (t ++ #[({ g:=0,fn,pos,act:=.mark (.acquire a) }:MemOp)]) i t.size:=fun i g hg hb hc=>by
    obtain ⟨op,ho,rfl⟩:=Option.map_eq_some_iff.1 hg
    have hlt:=h.gs i op ho
    obtain ⟨k,hk⟩:∃ k,op.g = base + k:=⟨op.g - base,by omega⟩
    obtain ⟨r,hr,he⟩:=edge k (by omega)
    have hle:i ≤ r:=Nat.le_of_not_lt fun hx=>hr.after i hx (by rw [hg,hk]) hc
    rcases Nat.lt_or_ge i r with h1 | h1
    · have hrl:=lt_of_act? hr.act
      have hil:i < t.size:=by omega
      exact .trans (.single (.inl ⟨h1,base + k,by rw [g?_old hil,hg,hk],by rw [g?_old hrl]; exact hr.g⟩)) he
    · obtain rfl:i = r:=by omega
      exact he
  refine ⟨fun said=>noRace_append (h.nr said) (g:=0) (fun op hop=>by rw [hm op hop]) (fun i b _ op hop c hc _=>by rw [nt op hop] at hc; cases hc),fun i b hb hmem=>?_,fun i g hg hne hc=>?_,?_,seen_app h.seen fun op hop=>by rw [hm op hop]; exact ha⟩
  · obtain ⟨op,hop,hot⟩:=touch_of hb
    rcases Nat.lt_or_ge op.g base with hlt | hge
    · exact (o1 i b op.g (pc hop) hlt hb hmem).imp id fun x=>⟨.inl x.1,x.2⟩
    · rcases getElem?_append_cases hop with ⟨hil,hop'⟩ | ⟨_,hou⟩
      · have hbt:touchAt t i = some b:=by rw [touchAt_of hop']; exact hot
        by_cases hc:t.counts i
        · exact .inl ⟨t.size,_,hy,rfl,.inr (wk i op.g (pc hop') hge hc)⟩
        · have hka:b.kind = .atomic:=by
            cases hk:b.kind with
            | atomic=>rfl
            | plain=>exact absurd ⟨b,hbt,hmem,.inl (by rw [hk]; simp)⟩ hc
            | said=>exact absurd hk (h.said i b op.g (pc hop') hge hbt)
          exact .inr ⟨.inr (h.atm i b op.g (pc hop') hge hbt hka),hka⟩
      · rw [nt op hou] at hot; cases hot
  · rcases Nat.lt_or_ge g base with hlt | hge
    · exact o2 i g hg hne hlt hc
    · rcases fJ hg with ⟨hil,hg'⟩ | ⟨_,op,hou,hop,rfl⟩
      · exact ⟨t.size,pc hy,wk i g hg' hge ((counts_old hil).1 hc)⟩
      · rw [hm op hou] at hne; exact absurd rfl hne
  · rw [Deaf_push]; simpa [deafStep] using h0
end
end Go.Gx
namespace Go.Gx
open Go Go.Conc Go.ConcN
def lk (v:World) (l:Loc):Prop:=∃ a o,l = .cell a ∧ v.heap[a.block]? = some o ∧ isH o = true
class Bad where
  W0:World
  B:Nat→Prop
def KeptIn [Bad] (Shun:Loc→Prop) (w:World):Prop:=∀ b,Bad.B b→Shun (.cell ⟨b,0,none⟩) ∧ w.heap[b]? = Bad.W0.heap[b]?
theorem KeptIn.step [Bad] {Shun:Loc→Prop} {w w':World} (h:KeptIn Shun w) (k:∀ b,Shun (.cell ⟨b,0,none⟩)→w'.heap[b]? = w.heap[b]?):KeptIn Shun w':=fun b hb=>⟨(h b hb).1,(k b (h b hb).1).trans (h b hb).2⟩
theorem kq {Shun:Loc→Prop} {u w u' w':World} (h:∀ l,Shun l→lk u l) (k:Beside u w u' w'):∀ b,Shun (.cell ⟨b,0,none⟩)→w'.heap[b]? = w.heap[b]?:=fun b hb=>by
  obtain ⟨a,o,h1,h2,h3⟩:=h _ hb
  cases h1
  exact k.hid _ o h2 h3
structure Alike (P:Program) (g g':Goroutine):Prop where
  st:g.status = g'.status
  step:∀ w,stepG P true g w = stepG P true g' w
theorem Alike.refl (P:Program) (g:Goroutine):Alike P g g:=⟨rfl,fun _=>rfl⟩
structure cx [Bad] (P:Program) (Shun:Loc→Prop) (t:Trace) (gs:Array Goroutine) (q:Nat→Nat) (g:Goroutine) (v w:World):Prop where
  at0:gs[0]? = some g
  leave:Leavers P t gs q
  past:Past Shun w.heap.size t
  few:∀ (i:Nat) op,t[i]? = some op→op.g < gs.size
  norel:∀ a,NoRelease a t
  nv:bC v
  msk:Msk v w
  hid:∀ l,Shun l→lk v l
  gK:∀ (b k:Nat) z,v.heap[b]? ≠ some (slot k z)
  kept:KeptIn Shun w
theorem tri (v:World) (b:Nat):Vis v b ∨ (∃ o,v.heap[b]? = some o ∧ isH o = true) ∨ ∃ k x,v.heap[b]? = some (slot k x):=by
  cases ho:v.heap[b]? with
  | none=>exact .inl fun o h=>by rw [ho] at h; cases h
  | some o =>
    cases hp:isP o with
    | false=>exact .inl fun o' h=>by rw [ho] at h; cases h; exact hp
    | true =>
      cases hh:isH o with
      | true=>exact .inr (.inl ⟨o,rfl,hh⟩)
      | false =>
        refine .inr (.inr ?_)
        cases o with
        | pending c n =>
          simp only [isH,Bool.or_eq_false_iff,bne_eq_false_iff_eq] at hh
          obtain ⟨h1,h2⟩:=hh
          obtain ⟨x,hx⟩:∃ x,c = #[x]:=by
            obtain ⟨l⟩:=c
            match l,h2 with
            | [x],_=>exact ⟨x,rfl⟩
          subst hx
          cases n with
          | zero=>simp at h1
          | succ n=>exact ⟨n,x,rfl⟩
        | _=>simp [isP] at hp
theorem bT.at (v:World) (d:Nat):bT v (v.at d):=⟨rfl,rfl,rfl,Nat.le_refl _,fun _ _=>rfl,fun i h1 h2=>by have h3:i < v.heap.size:=h2; omega⟩
theorem Msk.at {v w:World} (m:Msk v w) (d:Nat):Msk (v.at d) (w.at d):=⟨m.size,m.tape,rfl,m.os,m.output,m.vis,m.slot⟩
theorem lk.lO {pm:Nat→Prop} {v v':World} {l:Loc} (h:lk v l) (t:gD pm v v'):lk v' l:=by
  obtain ⟨a,o,h1,h2,h3⟩:=h
  exact ⟨a,o,h1,t.hid _ _ h2 h3,h3⟩
theorem lk.grow {v v':World} {l:Loc} (h:lk v l) (t:bT v v'):lk v' l:=by
  obtain ⟨a,o,h1,h2,h3⟩:=h
  exact ⟨a,o,h1,by rw [t.old _ (aS h2)]; exact h2,h3⟩
theorem lk.mC {v:World} {a:Addr} (h:lk v (.cell a)):¬ Vis v a.block:=by
  obtain ⟨a',o,h1,h2,h3⟩:=h
  cases h1
  intro hv
  have:=hv o h2
  rw [lJ h3] at this
  cases this
theorem lk.not_slot {v:World} {a:Addr} {x:Value} (h:lk v (.cell a)):v.heap[a.block]? ≠ some (slot a.off x):=by
  obtain ⟨a',o,h1,h2,h3⟩:=h
  cases h1
  rw [h2]
  intro e
  rw [Option.some.inj e] at h3
  simp [isH,slot] at h3
section
variable {P:Program} {Shun:Loc→Prop} {t:Trace} {gs:Array Goroutine} {q:Nat→Nat} {g:Goroutine} {v w:World} {sl:Option (Nat × Nat)}
theorem mc {pm:Nat→Prop} {fr:Nat} {e:Event} (h:EvS pm fr v e) (hid:∀ l,Shun l→lk v l):EvL Shun v.heap.size e:=by
  rcases h with ⟨a,h1,h2,h3,h4⟩ | ⟨r,h1,h2,h3,h4,h5⟩ | ⟨m,hm,rfl⟩
  · obtain ⟨loc,wr,sy⟩:=e
    simp only at h1 h3
    subst h1 h3
    refine ⟨fun x hx hs=>?_,by simp,by simp,by rw [ofEvent_cell0]; exact h2⟩
    simp only [ofEvent_cell0,MemAct.touch?,Option.some.injEq] at hx
    subst hx
    rcases h4 with ⟨hv,_⟩ | ⟨_,⟨x,hx⟩,_⟩
    · exact absurd hv (hid _ hs).mC
    · exact absurd hx (hid _ hs).not_slot
  · obtain ⟨loc,wr,sy⟩:=e
    simp only at h1 h4
    subst h1 h4
    refine ⟨fun x hx hs=>?_,by simp,by simp,?_⟩
    · obtain ⟨a,o,h,_⟩:=hid _ hs
      exfalso
      simp only [MemAct.ofEvent] at hx
      cases wr <;> simp only [MemAct.touch?,Option.some.injEq] at hx <;> (subst hx; simp at h)
    · cases wr <;> exact h2
  · refine ⟨fun x hx=>?_,?_,?_,?_⟩
    · rcases hm with rfl | ⟨f,rfl⟩ <;> simp [MemAct.ofEvent,MemAct.touch?] at hx
    · rcases hm with rfl | ⟨f,rfl⟩ <;> simp
    · rcases hm with rfl | ⟨f,rfl⟩ <;> simp
    · rcases hm with rfl | ⟨f,rfl⟩ <;> trivial
theorem mg {pm:Nat→Prop} {fr:Nat} {e:Event} (h:EvS pm fr v e) (a:Addr):MemAct.ofEvent e ≠ .mark (.release a):=by
  rcases h with ⟨b,h1,h2,h3,h4⟩ | ⟨r,h1,h2,h3,h4,h5⟩ | ⟨m,hm,rfl⟩
  · obtain ⟨loc,wr,sy⟩:=e
    simp only at h1
    subst h1
    rw [ofEvent_cell0]; simp
  · obtain ⟨loc,wr,sy⟩:=e
    simp only at h1 h4
    subst h1 h4
    cases wr <;> simp [MemAct.ofEvent]
  · rcases hm with rfl | ⟨f,rfl⟩ <;> simp [MemAct.ofEvent]
theorem iL {u:Array Event} {a:Addr} {gn:Nat} {fn:FuncId} {pos:String} (h:NoRelease a t) (hu:∀ e ∈ u,MemAct.ofEvent e ≠ .mark (.release a)):NoRelease a (t ++ MemOp.ofEvents gn fn pos u) :=
  h.app fun op hop=>by
    obtain ⟨e,he,rfl⟩:=Conc.mem_ofEvents hop
    exact hu e he
theorem few_evs {u:Array Event} {gn n:Nat} {fn:FuncId} {pos:String} (h:∀ (i:Nat) op,t[i]? = some op→op.g < n) (hg:gn < n):∀ (i:Nat) op,(t ++ MemOp.ofEvents gn fn pos u)[i]? = some op→op.g < n:=fun i op hi=>by
  rcases getElem?_append_cases hi with ⟨_,hi'⟩ | ⟨_,hiu⟩
  · exact h i op hi'
  · obtain ⟨e,_,rfl⟩:=Conc.mem_ofEvents hiu
    exact hg
theorem oU {e:Event} (h:e.mute = true) (a:Addr):MemAct.ofEvent e ≠ .mark (.release a):=by
  obtain ⟨loc,wr,sy⟩:=e
  cases loc <;> simp_all [Event.mute]
  rename_i m
  cases m <;> simp_all [MemAct.ofEvent]
variable [Bad]
theorem cx.at (h:cx P Shun t gs q g v w) (d:Nat):cx P Shun t gs q g (v.at d) (w.at d) :=
  ⟨h.at0,h.leave,h.past,h.few,h.norel,h.nv,h.msk.at d,h.hid,h.gK,h.kept.step fun _ _=>rfl⟩
theorem cx.slip (h:cx P Shun t gs q g v w) (hr:g.status = .running) {i k:Nat} {x:Goroutine} (hi:gs[i]? = some x) (hpos:0 < i) (hx:x.status = .running) :
    ∃ k gs' t' ,q i = k + 1 ∧ runT P (crowd gs w sl) i = (.next (crowd gs' w sl),t') ∧ gs'.size = gs.size ∧ cx P Shun (t ++ t') gs' (upd q i k) g v w:=by
  have hq:=h.leave.old i x hpos hi
  have hi0:(i == 0) = false:=by simp; omega
  have hlt:i < gs.size:=(Array.getElem?_eq_some_iff.1 hi).1
  cases hqi:q i with
  | zero=>rw [hqi] at hq; rw [hq.1] at hx; cases hx
  | succ k =>
    rw [hqi] at hq
    rcases hq with ⟨hf,_⟩ | ⟨_,g',es,hm,hstp,hq'⟩
    · rw [hf] at hx; cases hx
    have hrunT:=runT_crowd_go (P:=P) (sl:=sl) (i:=i) hi (by rw [hi0]; exact hstp w)
    have hne:i ≠ 0:=by omega
    refine ⟨k,_,_,rfl,hrunT,by simp,⟨?_,⟨fun j y hj hy=>?_,fun j hj=>?_⟩,h.past.mute (by omega) hm,?_,fun a=>iL (h.norel a) fun e he=>oU (hm e he) a,h.nv,h.msk,h.hid,h.gK,h.kept⟩⟩
    · rw [Array.getElem?_setIfInBounds_ne hne,Array.getElem?_map,h.at0]
      simp [woken_run hr]
    · by_cases hji:i = j
      · subst hji
        rw [Array.getElem?_setIfInBounds_self_of_lt (by simpa using hlt)] at hy
        obtain rfl:=Option.some.inj hy
        rw [upd_same,Deaf_own]
        exact hq'
      · rw [Array.getElem?_setIfInBounds_ne hji,Array.getElem?_map] at hy
        obtain ⟨z,hz,rfl⟩:=Option.map_eq_some_iff.1 hy
        have hqj:=h.leave.old j z hj hz
        rw [woken_quitsD hqj,upd_ne q k (Ne.symm hji),Deaf_other t hji _ (fun op hop=>by obtain ⟨e,_,rfl⟩:=Conc.mem_ofEvents hop; rfl)]
        exact hqj
    · rw [Deaf_other t (g':=i) (by simp at hj; omega) _ (fun op hop=>by obtain ⟨e,_,rfl⟩:=Conc.mem_ofEvents hop; rfl)]
      exact h.leave.above j (by simpa using hj)
    · rw [show ((gs.map (woken P x g' w)).setIfInBounds i g').size = gs.size by simp]
      exact few_evs h.few hlt
theorem cx.awake (h:cx P Shun t gs q g v w) (hr:g.status = .running):∀ x ∈ gs,awake x:=by
  intro x hx
  obtain ⟨i,hi,rfl⟩:=Array.mem_iff_getElem.1 hx
  rcases Nat.eq_zero_or_pos i with rfl | hpos
  · have:gs[0] = g:=by simpa [Array.getElem?_eq_getElem hi] using h.at0
    rw [this]; exact awake_of (.inl hr)
  · exact awake_of ((h.leave.old i _ hpos (Array.getElem?_eq_getElem hi)).status.elim .inl fun x=>.inr (.inr x))
theorem cx.lO (hr:g.status = .running):∀ (M:Nat) (gs:Array Goroutine) (q:Nat→Nat) (t:Trace) (v w:World) (sl:Option (Nat × Nat)),sumTo gs.size q ≤ M→cx P Shun t gs q g v w →
    ∃ (N:Nat) (gs':Array Goroutine) (q':Nat→Nat) (t':Trace) (d:Nat) (sl0 sl':Option (Nat × Nat)) (d0:Nat),runNT P N (crowd gs w sl) t = (.next (crowd gs' (w.at d0) sl0),t') ∧
      stepT P (crowd gs' (w.at d0) sl0) = runT P (crowd gs' (w.at d) sl') 0 ∧ cx P Shun t' gs' q' g (v.at d) (w.at d):=by
  intro M
  induction M with
  | zero =>
    intro gs q t v w sl hM h
    obtain ⟨i,x,d,sl',hi,hx,hst⟩:=crowd_pick (P:=P) (w:=w) (sl:=sl) (h.awake hr) ⟨0,g,h.at0,hr⟩
    rcases Nat.eq_zero_or_pos i with rfl | hpos
    · exact ⟨0,gs,q,t,d,sl,sl',w.drawn,rfl,hst,h.at d⟩
    · obtain ⟨k,gs',t',hk,_⟩:=(h.at d).slip (sl:=sl') (k:=0) hr hi hpos hx
      have:=le_sumTo (f:=q) (Array.getElem?_eq_some_iff.1 hi).1
      omega
  | succ M ih =>
    intro gs q t v w sl hM h
    obtain ⟨i,x,d,sl',hi,hx,hst⟩:=crowd_pick (P:=P) (w:=w) (sl:=sl) (h.awake hr) ⟨0,g,h.at0,hr⟩
    rcases Nat.eq_zero_or_pos i with rfl | hpos
    · exact ⟨0,gs,q,t,d,sl,sl',w.drawn,rfl,hst,h.at d⟩
    · obtain ⟨k,gs',t',hk,hrun,hsz,h'⟩:=(h.at d).slip (sl:=sl') (k:=0) hr hi hpos hx
      have hlt:=(Array.getElem?_eq_some_iff.1 hi).1
      have hsum:sumTo gs.size (upd q i k) + (k + 1) = sumTo gs.size q + k:=by
        have:=sumTo_upd q k id hlt
        simpa [hk] using this
      obtain ⟨N,gs2,q2,t2,d2,sl2,sl3,d3,h1,h2,h3⟩:=ih gs' (upd q i k) (t ++ t') (v.at d) (w.at d) sl' (by rw [hsz]; omega) h'
      exact ⟨N + 1,gs2,q2,t2,d2,sl2,sl3,d3,by simp only [runNT,hst,hrun]; exact h1,h2,h3⟩
theorem cx.priv {pm:Nat→Prop} {fr:Nat} {ga g':Goroutine} {v':World} (h:cx P Shun t gs q ga v w) (al:Alike P ga g) (hp:Priv P true pm fr g v w g' v') :
    ∃ gs' w' ops,runT P (crowd gs w sl) 0 = (.next (crowd gs' w' sl),ops) ∧ gs'.size = gs.size ∧ cx P Shun (t ++ ops) gs' q g' v' w':=by
  obtain ⟨w',es,hst,htn,hb,hes⟩:=hp
  have hrunT:=runT_crowd_go (P:=P) (sl:=sl) (i:=0) h.at0 (show stepG P (0 == 0) ga w = _ from (al.step w).trans hst)
  have hlt:0 < gs.size:=(Array.getElem?_eq_some_iff.1 h.at0).1
  have hsz:w.heap.size ≤ w'.heap.size:=by rw [h.msk.size,hb.msk.size]; exact htn.size
  have hid':∀ l,Shun l→lk v' l:=fun l hl=>(h.hid l hl).lO htn
  refine ⟨_,w',_,hrunT,by simp,⟨by simp [hlt],⟨fun j x hj hx=>?_,fun j hj=>?_⟩,(h.past.mono hsz).own fun e he=>?_,?_,fun a=>iL (h.norel a) fun e he=>mg (hes e he) a,htn.nv h.nv,hb.msk,hid',fun b k z hz=>?_,h.kept.step (kq h.hid hb)⟩⟩
  · have hne:0 ≠ j:=by omega
    rw [Array.getElem?_setIfInBounds_ne hne,Array.getElem?_map] at hx
    obtain ⟨y,hy,rfl⟩:=Option.map_eq_some_iff.1 hx
    have hq:=h.leave.old j y hj hy
    rw [woken_quitsD hq,Deaf_other t (by omega) _ (fun op hop=>by obtain ⟨e,_,rfl⟩:=Conc.mem_ofEvents hop; rfl)]
    exact hq
  · rw [Deaf_other t (g':=0) (by simp at hj; omega) _ (fun op hop=>by obtain ⟨e,_,rfl⟩:=Conc.mem_ofEvents hop; rfl)]
    exact h.leave.above j (by simpa using hj)
  · rw [hb.msk.size]
    exact mc (hes e he) hid'
  · rw [show ((gs.map (woken P ga g' w')).setIfInBounds 0 g').size = gs.size by simp]
    exact few_evs h.few hlt
  · by_cases hlt:b < v.heap.size
    · rcases tri v b with h1 | ⟨o,h1,h2⟩ | ⟨k',z',h1⟩
      · have:=htn.vis b h1 _ hz
        simp [isP,slot] at this
      · rw [htn.hid b o h1 h2] at hz
        rw [Option.some.inj hz] at h2
        simp [isH,slot] at h2
      · exact h.gK _ _ _ h1
    · have:=htn.fresh b _ (by omega) hz
      simp [isP,slot] at this
theorem gq {P:Program} {m m':Machine} {t t':Trace} {N:Nat} (h:runNT P N m t = (.next m',t')) {K:Nat} {r:Stepped × Trace} (h':runNT P K m' t' = r):runNT P (N + K) m t = r:=by
  rw [runNT_add,h]; exact h'
def Comes (P:Program) (m:Machine) (t:Trace) (T:Goroutine→World→Prop):Prop :=
  ∃ (N:Nat) (gs':Array Goroutine) (w':World) (sl':Option (Nat × Nat)) (t':Trace) (q':Nat→Nat) (Shun':Loc→Prop) (ga g':Goroutine) (v' u':World),
    runNT P N m t = (.next (crowd gs' w' sl'),t') ∧ T g' v' ∧ bT v' u' ∧ Alike P ga g' ∧ cx P Shun' t' gs' q' ga u' w'
def mh (P:Program) (gs:Array Goroutine) (w:World) (d0:Nat) (sl0 sl1:Option (Nat × Nat)):Prop:=stepT P (crowd gs (w.at d0) sl0) = runT P (crowd gs w sl1) 0
section
variable {X:Ext} {pm:Nat→Prop} {fr:Nat} {T:Goroutine→World→Prop}
theorem nH (hfit:∀ v w,X.fits v w) (hblk:∀ g,¬ X.blk g)
    (hkind:∀ (gs:Array Goroutine) (q:Nat→Nat) (t:Trace) (Shun:Loc→Prop) (d0:Nat) (sl0 sl1:Option (Nat × Nat)) (ga g g':Goroutine) (u w v':World),X.kind true g u w g' v'→Alike P ga g→cx P Shun t gs q ga u w→mh P gs w d0 sl0 sl1 →
      Comes P (crowd gs (w.at d0) sl0) t (fun g2 v2=>g2 = g' ∧ v2 = v'))
    {g:Goroutine} {v:World} {bl:Bool} {f:World→World→Goroutine × World} (hb:bl = true→X.blk g)
    (h:∀ v1 w,Met X v v1 w→(bl = true→X.up w)→Priv P true pm fr g v1 w (f v1 w).1 (f v1 w).2 ∨ X.kind true g v1 w (f v1 w).1 (f v1 w).2)
    (ih:∀ v1 w,Met X v v1 w→(bl = true→X.up w)→∀ (gs:Array Goroutine) (q:Nat→Nat) (t:Trace) (Shun:Loc→Prop) (sl:Option (Nat × Nat)) (ga:Goroutine) (u w2:World),bT (f v1 w).2 u→Alike P ga (f v1 w).1→cx P Shun t gs q ga u w2→Comes P (crowd gs w2 sl) t T)
    {gs:Array Goroutine} {q:Nat→Nat} {t:Trace} {Shun:Loc→Prop} {d0:Nat} {sl0 sl1:Option (Nat × Nat)} {ga:Goroutine} {u w:World} (hg:bT v u) (al:Alike P ga g) (hB:cx P Shun t gs q ga u w) (hp:mh P gs w d0 sl0 sl1) :
    Comes P (crowd gs (w.at d0) sl0) t T:=by
  have hbl:bl = false:=by
    cases bl with
    | false=>rfl
    | true=>exact absurd (hb rfl) (hblk g)
  have m:Met X v u w:=⟨hg,hB.nv,hB.msk,hfit _ _⟩
  have up:bl = true→X.up w:=fun e=>by rw [hbl] at e; cases e
  rcases h _ _ m up with hpr | hk
  · obtain ⟨gs2,w2,ops,h3,_,hB2⟩:=hB.priv (sl:=sl1) al hpr
    obtain ⟨K,gs3,w3,sl3,t3,q3,Sh3,ga3,g3,v3,u3,h4,h5⟩:=ih _ _ m up gs2 q (t ++ ops) Shun sl1 _ _ w2 (.refl _) (.refl P _) hB2
    exact ⟨K + 1,gs3,w3,sl3,t3,q3,Sh3,ga3,g3,v3,u3,by simp only [runNT,show stepT P (crowd gs (w.at d0) sl0) = _ from hp,h3]; exact h4,h5⟩
  · obtain ⟨K,gs3,w3,sl3,t3,q3,Sh3,ga3,g3,v3,u3,h4,⟨rfl,rfl⟩,h6,h7,h8⟩:=hkind gs q t Shun d0 sl0 sl1 ga g _ _ _ _ hk al hB hp
    obtain ⟨K2,gs4,w4,sl4,t4,q4,Sh4,ga4,g4,v4,u4,k4,k5⟩:=ih _ _ m up gs3 q3 t3 Sh3 sl3 ga3 u3 w3 h6 h7 h8
    exact ⟨K + K2,gs4,w4,sl4,t4,q4,Sh4,ga4,g4,v4,u4,gq h4 k4,k5⟩
theorem lW (hfit:∀ v w,X.fits v w) (hblk:∀ g,¬ X.blk g)
    (hkind:∀ (gs:Array Goroutine) (q:Nat→Nat) (t:Trace) (Shun:Loc→Prop) (d0:Nat) (sl0 sl1:Option (Nat × Nat)) (ga g g':Goroutine) (u w v':World),X.kind true g u w g' v'→Alike P ga g→cx P Shun t gs q ga u w→mh P gs w d0 sl0 sl1 →
      Comes P (crowd gs (w.at d0) sl0) t (fun g2 v2=>g2 = g' ∧ v2 = v'))
    {g:Goroutine} {v:World} (h:cQ X P true pm fr T g v):∀ (gs:Array Goroutine) (q:Nat→Nat) (t:Trace) (Shun:Loc→Prop) (sl:Option (Nat × Nat)) (ga:Goroutine) (u w:World),bT v u→Alike P ga g→cx P Shun t gs q ga u w →
      Comes P (crowd gs w sl) t T:=by
  induction h with
  | stop h=>exact fun gs q t Shun sl ga u w hg al hB=>⟨0,gs,w,sl,t,q,Shun,ga,_,_,u,rfl,h,hg,al,hB⟩
  | step hr bl hb f h _ ih =>
    intro gs q t Shun sl ga u w hg al hB
    obtain ⟨N,gs1,q1,t1,d,sl0,sl1,d0,h1,h2,hB1⟩:=cx.lO (al.st.trans hr) _ gs q t u w sl (Nat.le_refl _) hB
    obtain ⟨K,gs3,w3,sl3,t3,q3,Sh3,ga3,g3,v3,u3,h4,h5⟩:=nH (d0:=d0) (sl0:=sl0) (sl1:=sl1) hfit hblk hkind hb h ih (hg.trans (bT.at u d)) al hB1 h2
    exact ⟨N + K,gs3,w3,sl3,t3,q3,Sh3,ga3,g3,v3,u3,gq h1 h4,h5⟩
theorem run_picked (hfit:∀ v w,X.fits v w) (hblk:∀ g,¬ X.blk g)
    (hkind:∀ (gs:Array Goroutine) (q:Nat→Nat) (t:Trace) (Shun:Loc→Prop) (d0:Nat) (sl0 sl1:Option (Nat × Nat)) (ga g g':Goroutine) (u w v':World),X.kind true g u w g' v'→Alike P ga g→cx P Shun t gs q ga u w→mh P gs w d0 sl0 sl1 →
      Comes P (crowd gs (w.at d0) sl0) t (fun g2 v2=>g2 = g' ∧ v2 = v'))
    {g:Goroutine} {v:World} (h:cQ X P true pm fr T g v) {gs:Array Goroutine} {q:Nat→Nat} {t:Trace} {Shun:Loc→Prop} {d0:Nat} {sl0 sl1:Option (Nat × Nat)} {ga:Goroutine} {u w:World} (hg:bT v u) (al:Alike P ga g) (hB:cx P Shun t gs q ga u w) (hp:mh P gs w d0 sl0 sl1) :
    Comes P (crowd gs (w.at d0) sl0) t T:=by
  cases h with
  | stop h=>exact ⟨0,gs,w.at d0,sl0,t,q,Shun,ga,_,_,u.at d0,rfl,h,hg.trans (bT.at u d0),al,hB.at d0⟩
  | step hr bl hb f h ih=>exact nH hfit hblk hkind hb h (fun v1 w1 m up=>lW hfit hblk hkind (ih v1 w1 m up)) hg al hB hp
end
end
end Go.Gx
namespace Go.Gx
open Go Go.Conc Go.ConcN
inductive Tr where
  | leaf
  | node (f:World→World→Tr)
def Tr.Sub (s t:Tr):Prop:=∃ f v w,t = .node f ∧ s = f v w
theorem Tr.wf:WellFounded Tr.Sub:=⟨fun t=>by
  induction t with
  | leaf=>exact ⟨_,fun s ⟨f,v,w,h,_⟩=>by cases h⟩
  | node f ih=>exact ⟨_,fun s ⟨g,v,w,h,e⟩=>by cases h; subst e; exact ih v w⟩⟩
inductive RunT (X:Ext) (P:Program) (main:Bool) (pm:Nat→Prop) (fr:Nat) (T:Goroutine→World→Prop):Tr→Goroutine→World→Prop
  | stop {g:Goroutine} {v:World} (h:T g v):RunT X P main pm fr T .leaf g v
  | step {g:Goroutine} {v:World} (hr:g.status = .running) (bl:Bool) (hb:bl = true→X.blk g) (f:World→World→Goroutine × World) (t:World→World→Tr)
      (h:∀ v1 w,Met X v v1 w→(bl = true→X.up w)→Priv P main pm fr g v1 w (f v1 w).1 (f v1 w).2 ∨ X.kind main g v1 w (f v1 w).1 (f v1 w).2)
      (ih:∀ v1 w,Met X v v1 w→(bl = true→X.up w)→RunT X P main pm fr T (t v1 w) (f v1 w).1 (f v1 w).2):RunT X P main pm fr T (.node t) g v
theorem cQ.tree {X:Ext} {P:Program} {main:Bool} {pm:Nat→Prop} {fr:Nat} {T:Goroutine→World→Prop} {g:Goroutine} {v:World} (h:cQ X P main pm fr T g v):∃ t,RunT X P main pm fr T t g v:=by
  classical
  induction h with
  | stop h=>exact ⟨_,.stop h⟩
  | step hr bl hb f h _ ih =>
    refine ⟨_,.step hr bl hb f (fun v1 w=>if hg:Met X _ v1 w ∧ (bl = true→X.up w) then (ih v1 w hg.1 hg.2).choose else .leaf) h fun v1 w m u=>?_⟩
    simp only [dif_pos (And.intro m u)]
    exact (ih v1 w m u).choose_spec
theorem RunT.cases {X:Ext} {P:Program} {main:Bool} {pm:Nat→Prop} {fr:Nat} {T:Goroutine→World→Prop} {t:Tr} {g:Goroutine} {v:World} (h:RunT X P main pm fr T t g v) :
    (t = .leaf ∧ T g v) ∨ (g.status = .running ∧ ∃ bl:Bool,(bl = true→X.blk g) ∧ ∀ v1 w,Met X v v1 w→(bl = true→X.up w)→∃ g' v' t',Tr.Sub t' t ∧ (Priv P main pm fr g v1 w g' v' ∨ X.kind main g v1 w g' v') ∧ RunT X P main pm fr T t' g' v'):=by
  cases h with
  | stop h=>exact .inl ⟨rfl,h⟩
  | step hr bl hb f t h ih=>exact .inr ⟨hr,bl,hb,fun v1 w m u=>⟨_,_,_,⟨t,v1,w,rfl,rfl⟩,h v1 w m u,ih v1 w m u⟩⟩
def gZ (u w':World):World:={ u with heap:=u.heap ++ Array.replicate (w'.heap.size - u.heap.size) dummy,drawn:=w'.drawn }
theorem eA (u w':World):bT u (gZ u w'):=by
  refine ⟨rfl,rfl,rfl,by simp [gZ],fun i hi=>?_,fun i h1 h2=>?_⟩
  · show (u.heap ++ _)[i]? = _
    rw [Array.getElem?_append_left hi]
  · have h3:i < u.heap.size + (w'.heap.size - u.heap.size):=by simpa [gZ] using h2
    show (u.heap ++ _)[i]? = _
    rw [Array.getElem?_append_right h1,Array.getElem?_replicate,if_pos (by omega)]
theorem bT.nv {u u':World} (g:bT u u') (h:bC u):bC u':=fun i o ho=>by
  by_cases hi:i < u.heap.size
  · exact h i o (by rw [← g.old i hi]; exact ho)
  · rw [g.new i (by omega) (aS ho)] at ho
    cases ho; rfl
theorem bT.vis {u u':World} (g:bT u u') {b:Nat} (hb:b < u'.heap.size):Vis u' b ↔ b < u.heap.size ∧ Vis u b:=by
  constructor
  · intro h
    by_cases hi:b < u.heap.size
    · exact ⟨hi,fun o ho=>h o (by rw [g.old b hi]; exact ho)⟩
    · have:=h _ (g.new b (by omega) hb)
      simp [isP,dummy] at this
  · rintro ⟨hi,h⟩ o ho
    exact h o (by rw [← g.old b hi]; exact ho)
theorem bT.slot {u u':World} (g:bT u u') {b k:Nat} {x:Value} (h:u'.heap[b]? = some (slot k x)):u.heap[b]? = some (slot k x):=by
  by_cases hi:b < u.heap.size
  · rw [← g.old b hi]; exact h
  · rw [g.new b (by omega) (aS h)] at h
    simp [Gx.slot,dummy] at h
theorem gD.vis_iff {pm:Nat→Prop} {v v':World} (t:gD pm v v') {b:Nat} (hb:b < v.heap.size):Vis v' b ↔ Vis v b:=by
  refine ⟨fun h=>?_,t.vis b⟩
  rcases tri v b with h1 | ⟨o,h1,h2⟩ | ⟨k,x,h1⟩
  · exact h1
  · have:=h o (t.hid b o h1 h2)
    rw [lJ h2] at this; cases this
  · obtain ⟨y,h2⟩:=t.sl b k x h1
    have:=h _ h2
    simp [isP,Gx.slot] at this
theorem gD.slot_old {pm:Nat→Prop} {v v':World} (t:gD pm v v') {b k:Nat} {x:Value} (hb:b < v.heap.size) (h:v'.heap[b]? = some (slot k x)):∃ y,v.heap[b]? = some (slot k y):=by
  rcases tri v b with h1 | ⟨o,h1,h2⟩ | ⟨k',x',h1⟩
  · have:=t.vis b h1 _ h
    simp [isP,Gx.slot] at this
  · rw [t.hid b o h1 h2] at h
    rw [Option.some.inj h] at h2
    simp [isH,Gx.slot] at h2
  · obtain ⟨y,h2⟩:=t.sl b k' x' h1
    rw [h2] at h
    obtain ⟨rfl,rfl⟩:=ko (Option.some.inj h)
    exact ⟨x',h1⟩
theorem other_msk {pm:Nat→Prop} {ux ux' uy w w':World} (t:gD pm ux ux') (b:Beside ux w ux' w') (mx:Msk ux w) (my:Msk uy w)
    (sep:∀ i,i < w.heap.size→Vis uy i→(∃ o,ux.heap[i]? = some o ∧ isH o = true) ∨ (Vis ux i ∧ ¬ pm i))
    (sl:∀ (i k:Nat) z,uy.heap[i]? = some (slot k z)→(∃ o,ux.heap[i]? = some o ∧ isH o = true) ∨ (∃ k' z',ux.heap[i]? = some (slot k' z') ∧ k' ≠ k)):Msk (gZ uy w') w':=by
  have hsz:w.heap.size ≤ w'.heap.size:=by rw [mx.size,b.msk.size]; exact t.size
  have gsz:(gZ uy w').heap.size = w'.heap.size:=by
    have:=my.size
    simp [gZ]; omega
  refine ⟨gsz.symm,b.tape.trans my.tape,rfl,b.os.trans my.os,b.output.trans my.output,fun i hi=>?_,fun i k z hz=>?_⟩
  · by_cases hlt:i < w'.heap.size
    · obtain ⟨h1,h2⟩:=((eA uy w').vis (by rw [gsz]; exact hlt)).1 hi
      have h1':i < w.heap.size:=by rw [my.size]; exact h1
      rw [(eA uy w').old i h1,← my.vis i h2]
      rcases sep i h1' h2 with ⟨o,h3,h4⟩ | ⟨h3,h4⟩
      · exact b.hid i o h3 h4
      · rw [b.msk.vis i (t.vis i h3),t.old i (by rw [← mx.size]; exact h1') h4,mx.vis i h3]
    · rw [Array.getElem?_eq_none (by omega),Array.getElem?_eq_none (by omega)]
  · have hz':=(eA uy w').slot hz
    obtain ⟨c,e,h1,h2⟩:=my.slot i k z hz'
    rcases sl i k z hz' with ⟨o,h3,h4⟩ | ⟨k',z',h3,h4⟩
    · exact ⟨c,e,(b.hid i o h3 h4).trans h1,h2⟩
    · obtain ⟨c',g1,g2,g3⟩:=b.sl i k' z' h3 c e _ h1
      exact ⟨c',e,g1,by rw [g3 k (Ne.symm h4)]; exact h2⟩
theorem lib_msk {Wg C:Nat} {u w w':World} (m:Msk u w) (h1:w'.tape = w.tape) (h2:w'.os = w.os) (h3:w'.output = w.output) (h4:w'.heap.size = w.heap.size)
    (h5:∀ b:Nat,b ≠ Wg→b ≠ C→w'.heap[b]? = w.heap[b]?) (hW:¬ Vis u Wg) (hC:¬ Vis u C) (hs:∀ (b k:Nat) z,u.heap[b]? = some (Gx.slot k z)→∃ (c:Array Value) (e:TypeId),w'.heap[b]? = some (.cells c e (0,0)) ∧ c[k]? = some z):Msk (u.at w'.drawn) w' :=
  ⟨h4.trans m.size,h1.trans m.tape,rfl,h2.trans m.os,h3.trans m.output,fun i hi=>(h5 i (fun e=>hW (e ▸ hi)) (fun e=>hC (e ▸ hi))).trans (m.vis i hi),hs⟩
inductive Less1 {α:Type} (r:α→α→Prop):List α→List α→Prop
  | head {x y:α} {l:List α}:r x y→Less1 r (x :: l) (y :: l)
  | tail {x:α} {l l':List α}:Less1 r l l'→Less1 r (x :: l) (x :: l')
theorem less1_wf {α:Type} {r:α→α→Prop} (h:WellFounded r):WellFounded (Less1 r):=by
  have key:∀ l:List α,Acc (Less1 r) l:=by
    intro l
    induction l with
    | nil=>exact ⟨_,fun y h=>by cases h⟩
    | cons x l ih =>
      induction ih generalizing x with
      | intro l _ ihl =>
        induction h.apply x with
        | intro x _ ihx =>
          refine ⟨_,fun y hy=>?_⟩
          cases hy with
          | head h1=>exact ihx _ h1
          | tail h1=>exact ihl _ h1 x
  exact ⟨key⟩
theorem less1_at {α:Type} {r:α→α→Prop} {f f':Nat→α} {i:Nat}:∀ {n s:Nat},s ≤ i→i < s + n→r (f' i) (f i)→(∀ k,k ≠ i→f' k = f k)→Less1 r ((List.range' s n).map f') ((List.range' s n).map f)
  | 0,s,h1,h2,_,_=>by omega
  | n + 1,s,h1,h2,h3,h4=>by
    simp only [List.range'_succ,List.map_cons]
    rcases Nat.eq_or_lt_of_le h1 with rfl | hlt
    · have e:(List.range' (s + 1) n).map f' = (List.range' (s + 1) n).map f:=List.map_congr_left fun k hk=>h4 k (by have:=List.mem_range'.1 hk; omega)
      rw [e]
      exact .head h3
    · rw [h4 s (by omega)]
      exact .tail (less1_at (s:=s + 1) (by omega) (by omega) h3 h4)
end Go.Gx
